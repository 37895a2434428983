import Derived.Test.YtnhbioehiiifdaaGreatD11
set_option maxRecDepth 100000
set_option maxHeartbeats 16000000
set_option linter.all false
namespace Go.Proofs.YtnhbioehiiifdaaGreat
open Go.ChangeShapes Go.WideShapes Go.ChangeAt Go.RowKit
theorem pdqZ {w:World}{a:Option Addr}{cap:Nat}(k:Int):Calls Tryz.prog 296 #[.slice a 0 cap,.int .i64 0,.int .i64 0,.int .i64 k,CMP] w fun e b=>e=.returned (.tuple #[])∧b=w:=by
 go_enter Tryz.func296,Tryz.ntmps296;go_wp2
 go_loopw [1,2,3] (fun f g h wr=>f=.int .i64 0∧g=.int .i64 0∧h=.int .i64 k∧wr=w) (fun _ _ _ _=>0)
 case atStart=>exact⟨rfl,rfl,rfl,rfl⟩
 case round=>
 obtain⟨rfl,rfl,rfl,rfl⟩:=hrel;go_wp2_with fail;refine(RA).mono ?_;rintro e b ⟨rfl,rfl⟩;go_wp2_with fail;exact Be (v:= .tuple #[]) (Cx (by kernel_rfl) _ _ _) rfl ⟨rfl,rfl⟩
theorem sortZ {w:World}{a:Option Addr}{cap:Nat}:Calls Tryz.prog 269 #[.slice a 0 cap,CMP] w fun e b=>e=.returned (.tuple #[])∧b=w:=by
 go_enter Tryz.func269,Tryz.ntmps269;go_wp2_with fail;refine(X3 0 (by decide)).mono ?_;rintro e b ⟨⟨k,rfl⟩,rfl⟩;go_wp2_with fail;refine(pdqZ k).mono ?_;rintro e f ⟨rfl,rfl⟩;go_wp2
 go_end0
 exact⟨rfl,rfl⟩
section
variable {w:World} {d sb c frm segs:Nat} {L:List Sec}
theorem openZ (D:IsDev w d sb L c)(X:∀i,frm≤i→i<frm+segs*8→nowF L i=List.replicate 64 0)(aj:3≤segs∧segs≤199)(U:frm+segs*8≤L.length):
  Calls Tryz.prog 245 #[pr d 0,.int .i64 (frm:Int),.int .i64 (segs:Int)] w fun e q=>∃f vl l run',e=.returned (.tuple #[pr f 0,.int .i64 0])∧LogOk q w.heap.size f d frm segs 1 run' true vl l L 0∧l.map Sg.ps=[]∧run'≤1∧Keep [] w q:=by
 have V:=D.max;have ah:frm≤2048:=by omega
 obtain⟨O,M⟩:=i_2 X aj;have aq:=h_ (show frm≤2048 from ah);obtain⟨ar,af⟩:=i_2 U V;have m:=BY w [.int .i64 (segs:Int)] 3;have u:=(By [] w).alloc (.cells #[.int .i64 (segs:Int)] 3);simp only[List.toArray]at m;have Q:=D.keep u (by simp) (by simp);clear X V D;go_enter Tryz.func245,Tryz.ntmps245;go_upto_region 3 with fail;obtain⟨c5,C⟩:∃c5,c5=w.heap.size:=⟨_,rfl⟩;rw[←C]at m⊢;generalize w.alloc (.cells #[.int .i64 (segs:Int)] 3)=w1 at*;obtain⟨H,ap⟩:=i_2 u C;have g:=m.cell 0;simp only[List.getElem?_cons_zero]at g;have q1:decide ((segs:Int)<3)=false:=Ak (by omega);have q2:decide ((segs:Int)>200)=false:=Ak (by omega);have ak:decide (segs<3)=false:=Ak (by omega);have al:decide (200<segs)=false:=Ak (by omega);have q3:decide ((frm:Int)<0)=false:=Ak (by omega);have q4:decide ((frm:Int)>(L.length:Int)-(segs:Int)*8)=false:=Ak (by omega);have Y:¬(wrap64 ((L.length:Int)-(segs:Int)*8)<(frm:Int)):=by have:=af.out;unfold wrap64;omega
 have an:decide (wrap64 ((L.length:Int)-(segs:Int)*8)<(frm:Int))=false:=Ak Y;have am:¬((L.length:Int)-(segs:Int)*8<(frm:Int)):=by omega
 have ad:Hid (∀W,IsDev W d sb L c→Calls Tryz.prog 150 #[pr d 0] W fun e q=>e=.returned (.int .i64 (L.length:Int))∧q=W):=h_ (fun W h=>(IH h).mono (fun _ _ ⟨a,b⟩=>⟨a,b.symm⟩));have r:=h_ Q;clear u C Q
 go_quiet ((go_at_call 150;exact Calls.quiet_of_same (ad.out _ (r.out.keep (Ek (By [] _) _) (by simp) (by simp)))))
 have R:=r.out.keep (Ek (By [] w1) nq) (by simp) (by simp);have y:=m.keep (Ek (By [] w1) nq) (by simp);have s:=h_ (Ek H.out nq);generalize w1.drewN nq=w2 at*;clear m r H g;have g:=y.cell 0;simp only[List.getElem?_cons_zero]at g;go_upto_region 6 with fail;clear q1 q2 q3 q4 ak al am Y an;have B:=BY w2 (lgC d (frm:Int) (segs:Int) nilS 1 1 true) 333;have o:=(By [] w2).alloc (.cells (lgC d (frm:Int) (segs:Int) nilS 1 1 true).toArray 333);rw[show(#[pr d 0,.int .i64 (frm:Int),.int .i64 (segs:Int),.slice none 0 0,.int .i64 1,.int .i64 1,.bool true]:Array Value)=(lgC d (frm:Int) (segs:Int) nilS 1 1 true).toArray from rfl];obtain⟨f,S⟩:∃f,f=w2.heap.size:=⟨_,rfl⟩;rw[←S]at B⊢;generalize w2.alloc (.cells (lgC d (frm:Int) (segs:Int) nilS 1 1 true).toArray 333)=w3 at*;have T:LogAt w3 w.heap.size f d frm segs 1 1 true nilS []:=⟨B,SgRow.nil _ _,List.nodup_nil,by have:=s.out.size;omega⟩;have K:=h_ T;have ab:=h_ (R.keep o (by simp) (by simp));have z:=y.keep o (by simp);have G:=h_ z;have ac:=h_ (s.out.trans o);have g:=z.cell 0;simp only[List.getElem?_cons_zero]at g;clear B o S T y z R s;have ag:Hid (c5≠f):=h_ (G.out.ty.ne K.out.blk.ty (by decide));go_wp2
 go_loopw [43] (fun ao wr=>∃(k:Nat),ao=.int .i64 (k:Int)∧k≤segs∧LogAt wr w.heap.size f d frm segs 1 1 true nilS []∧IsDev wr d sb L c∧Blk wr c5 [.int .i64 (segs:Int)] 3∧Keep [] w wr) (fun x _=>segs-(intOf x).toNat)
 case atStart=>exact⟨0,rfl,AA _,K.out,ab.out,G.out,ac.out⟩
 case round=>
 obtain⟨k,rfl,hk,p,E,A,v⟩:=hrel;obtain⟨j,n,aa,J⟩:=i_4 p E A v;by_cases ai:k<segs
 ·have q5:decide ((k:Int)<(segs:Int))=true:=An (by omega)
  have I:=h_ ai;have Z:Hid (frm+k*8+8≤L.length):=h_ (by omega);clear p E v g A;go_wp2_with fail;refine(TF n.out frm segs nilS 1 1 true j.out.blk k (frm+k*8) ⟨I.out,by have:=M.out;omega,by omega⟩ rfl Z.out (fun i hi=>O.out _ (by omega) (by have:=I.out;omega)) ⟨by decide,by decide⟩).mono ?_;rintro e w4 ⟨rfl,P,F⟩;have ae:=h_ (j.out.reblk (nx':=1) (run':=1) (fr':=true) F P);have t:=h_ F;clear P F;go_wp2
  go_roundw
  case rel=>
   refine⟨k+1,by go_num,by omega,ae.out, ?_, ?_, ?_⟩
   ·exact n.out.keep t.out (by simp;exact n.out.dev.ty.ne j.out.blk.ty (by decide)) (by simp;exact n.out.secs.ty.ne j.out.blk.ty (by decide))
   ·exact aa.out.keep t.out (by simp;exact ag.out)
   ·exact J.out.then t.out (by intro x hx U;simp at hx;have:=j.out.new;omega)
  case measure=>simp only[intOf];omega
 ·obtain rfl:k=segs:=by omega
  have q5:decide ((k:Int)<(k:Int))=false:=by simp
  have c3:wr.cell? ⟨f,3,none⟩=some (.slice none 0 0):=Hk p.blk;have N:=h_ (sortZ (w:=wr) (a:=none) (cap:=0));unfold CMP at N;clear p E v g A;go_wp2_with fail;refine N.out.mono ?_;rintro e w4 ⟨rfl,rfl⟩;go_wp2;go_ret2;obtain⟨a,b,c,d⟩:=DevOk.fresh (segs:=k) O.out (by have:=M.out;omega);exact⟨f,nilS,[],1,rfl,⟨j.out,⟨a,b,fun i h1 h2=>by have:=c i h1 h2;omega,d⟩,SOk.fresh k 0⟩,rfl,Av _,J.out⟩
end
theorem JOpenZ {w:World}{d sb c frm t:Nat}{L:List Sec}(E:IsDev w d sb L c)(H:∀i,frm≤i→i<frm+160→nowF L i=List.replicate 64 0)(S:frm+160≤L.length):
  Calls Tryz.prog 209 #[pr d 0,.int .i64 (frm:Int),.int .i64 20] w fun e I=>∃j f p v l,e=.returned (.tuple #[pr j 0,.int .i64 0])∧JOk I w.heap.size j f d frm (t+70) p v l L []∧Keep [] w I:=by
 have O:=h_ (openZ (segs:=20) E H ⟨by decide,by decide⟩ (by omega));clear E H S;go_enter Tryz.func209,Tryz.ntmps209;go_wp2_with fail;refine O.out.mono ?_;rintro e k ⟨f,p,l,T,rfl,A,D,F,y⟩;have Q:l=[]:=List.map_eq_nil_iff.1 D;subst Q;obtain⟨u,P,q⟩:=i_3 A F y;clear A D F y;go_upto_region 9 with fail;have g:=BY k (jnC f (.slice none 0 0)) 319;have K:=(By [] k).alloc (.cells (jnC f (.slice none 0 0)).toArray 319);unfold jnC at g K;simp only[List.toArray]at g K;obtain⟨j,o⟩:∃b,b=k.heap.size:=⟨_,rfl⟩;rw[←o]at g⊢;have N:=h_ o;clear o;generalize k.alloc (.cells #[pr f 0,.slice none 0 0] 319)=w2 at*;obtain⟨M,s⟩:=i_2 g K;have J:=h_ (Mg (u.out.still K).at_ ⟨by simp,by simp⟩ (by simp));clear g K;go_wp2_with fail;refine J.out.mono ?_;rintro e V ⟨Y,x,rfl,C,B,z⟩
 have R:x=[]:=by
  have:x.map (·.r)=[]:=by simpa using B
  exact List.map_eq_nil_iff.1 this
 subst R;obtain⟨W,X,rfl⟩:=C.slice;rw[show([]:List Rc).length =0 from rfl];have m:=h_ z;clear C B z;go_wp2
 go_loopw [38] (fun U wr=>U=.int .i64 0∧wr=V) (fun _ _=>0)
 case atStart=>exact⟨rfl,rfl⟩
 case round=>
 obtain⟨rfl,G⟩:=hrel;have n:=h_ G;clear G;go_wp2;go_ret2;refine⟨j,f,p,_,[],rfl,⟨⟨?_,AY _ _ _ _⟩, ?_,⟨1,T,true,0, ?_,Av _,by omega,by have:=P.out;omega,AA _⟩,Tail.nil 20,AA _,fun i a h=>by simp at h⟩, ?_⟩
 ·rw[n.out];exact M.out.keep m.out (by simp)
 ·rw[N.out];exact q.out.size
 ·rw[n.out];exact(u.out.still s.out).still m.out
 ·rw[n.out];exact(q.out.trans s.out).trans m.out
end Go.Proofs.YtnhbioehiiifdaaGreat
