import Derived.Test.YtnhbioehiiifdaaGreatB22
set_option maxRecDepth 100000
set_option maxHeartbeats 16000000
set_option linter.all false
namespace Go.Proofs.YtnhbioehiiifdaaGreat
open Go.ChangeShapes Go.WideShapes Go.ChangeAt Go.RowKit
theorem FDev.congr {L e:List Sec}{t t':Nat}{Q:List (Nat×FR)}(h:FDev L t Q)(k:∀i,162≤i→i<1194→nowF e i=nowF L i)(n:t≤t'):FDev e t' Q:=by obtain⟨S,l,run,q,f,g,m,j⟩:=h;exact⟨S,l,run,q,f.congr (fun i a b=>k i a (by omega)) (by decide),g,by omega,j⟩
def Ht (Q:List (Nat×FR)):Prop:=∀r∈Q,r.2=.wipe
theorem ME:∀(Q:List (Nat×FR)) (f:Str→Option (Nat×Str)),Ht Q→(∀k,f k=none)→∀k,Q.foldl Xi f k=none
 |[],f,_,hf,k=>hf k
 |r::Q,f,h,hf,k=>by refine ME Q (Xi f r) (fun x a=>h x (Ap _ a)) (fun k=> ?_) k;unfold Xi;rw[h r (Bx ..)]
theorem Kl (k v:Str)(g:Bool)(a:itMay k v 0 g=true):0<(BM [(k,v,0,g)]).length :=by
 have e:BM [(k,v,0,g)]=Dc (k,v,0,g):=by unfold BM;rw[Ay (by simp[Dj,a])];simp[CE]
 have b:(Dc (k,v,0,g)).length =(B8 [k,v]).length +(BL [(0:Int),gN g]).length :=by unfold Dc;rw[Aj]
 have:=FG k v;rw[e];omega
theorem Qa:∀(Q:List (Nat×FR)) (r:Nat×FR),r∈Q→r.2.body.length+8≤encN (Q.map frRec)
 |[],r,h=>by cases h
 |q::Q,r,h=>by
  rw[Br,FU];show _≤q.2.body.length+8+_;rcases Ac.1 h with rfl|h
  ·omega
  ·have:=Qa Q r h;omega
theorem Q4 {Q:List (Nat×FR)}(h:encN (Q.map frRec)≤9)(g:∀r∈Q,∀k v,r.2=.put k v→itMay k v 0 false=true):Ht Q:=by
 intro r e;have a:=Qa Q r e
 cases b:r.2 with
 |wipe=>rfl
 |put k v=>rw[b]at a;have f:=Kl k v false (g r e k v b);have i:(FR.put k v).body.length =(BM [(k,v,0,false)]).length +1:=rfl;omega
 |del k=>
  rw[b]at a;unfold FR.body at a;simp only at a
  split at a
  ·rename_i hi
   have f:=Kl k ByteArray.empty true hi;rw[List.length_cons]at a;omega
  ·simp at a
   omega
section
variable {w w':World} {d sb c t:Nat} {L:List Sec} {Q:List (Nat×FR)}
theorem LG (i:Value)(h:Rd w i [2]):Calls Tryz.prog 248 #[i] w fun e w'=>e=.returned (.tuple #[L7 ByteArray.empty ByteArray.empty 0 false,.bool false])∧Keep [] w w':=by
 obtain⟨sb,p,cap,rfl,n,o,k⟩:=h.at1 (by simp);have j:=k 0 (by simp);have l:w.cell? ⟨sb,p,none⟩=some (.int .u8 2):=by simpa[Bb,bc]using j
 obtain⟨f,a⟩:∃f,f=w.alloc (.cells #[.string {data:=#[]},.string {data:=#[]},.int .i64 0,.bool false] 171):=⟨_,rfl⟩;have b:Keep [] w f:=by rw[a];exact(By _ _).alloc _
 have c1:=b.cell1' l;have g:=h_ b;rw[a]at c1 g;clear h k j o n b a;go_enter Tryz.func248,Tryz.ntmps248;go_wp2_with fail;have m:Blk (w.alloc (.cells #[.string {data:=#[]},.string {data:=#[]},.int .i64 0,.bool false] 171)) w.heap.size (E8 ByteArray.empty ByteArray.empty 0 false) 171:=BY w _ _;refine Be (v:= .tuple #[L7 ByteArray.empty ByteArray.empty 0 false,.bool false]) ?_ rfl ⟨rfl,g.out⟩;exact Co Tryz.results248 _ _ w.heap.size 171 _ (0,0) _ rfl m Em rfl If _ rfl
theorem NZ (hd:IsDev w d sb L c)(hf:FDev L t Q)(hw:Ht Q)(ht:t≤1000000000)(T:L.length=1200):
  Calls Tryz.prog 210 #[pr d 0,.int .i64 162,.int .i64 129] w fun e w'=>∃a n f s E l,e=.returned (.tuple #[pr a 0,.int .i64 0])∧
   FlOk w' w.heap.size a n f s d 162 129 (t+70) E l L EP 0 0 Q∧Keep [] w w'∧∀q∈Iw a n f s E l,w.heap.size≤q:=by
 obtain⟨S,nx,run,q,P,A,R,U,V,h6,h7,h8⟩:=hf;have Y:=U.wholeG A (by decide) V;have HO:=h_ (Rl hd P A R.1 (by omega) (by omega) ⟨by decide,by decide⟩ (by omega) Y.2);have bq:=h_ (A.next R.1);have HQ:=h_8 R U V h6 h8 hw ht Y;clear hd P A R U V h6 h7 h8 hw ht T Y;go_enter Tryz.func210,Tryz.ntmps210;go_wp2_with fail;refine HO.out.mono ?_;rintro e w2 ⟨n,E,l,run',rfl,hL,hl,X,k2⟩;have O:=h_4 hL hl X k2;clear hL hl X k2;go_wp2_with fail;refine IC.mono ?_;rintro e w3 ⟨f,s,rfl,I,k3,C,D⟩;obtain⟨u,ai⟩:∃u,u=w3.alloc (.cells #[pr n 0,pr f 0] 283):=⟨_,rfl⟩;have k4:Keep [] w3 u:=by rw[ai];exact(By _ _).alloc _
 have B:Blk u w3.heap.size [pr n 0,pr f 0] 283:=by rw[ai];exact BY w3 _ _
 have W:=(O.out.1.still k3).still k4;have az:=W.sizesG (by decide);have bn:=h_ (Mg W.at_ az.1 az.2.1);have bu:=O.out.2.2.2.size;have bv:=k3.size;obtain⟨a,av⟩:∃a,a=w3.heap.size:=⟨_,rfl⟩;rw[←av]at B;have z:Hid (Blk u a [pr n 0,pr f 0] 283∧IxAt u f s EP 0 0∧LogOk u w.heap.size n d 162 129 (G0 S) run' true E l L q∧Keep [] w u∧w.heap.size≤a∧w.heap.size≤f∧w.heap.size≤s):=h_ ⟨B,I.still k4,W,(O.out.2.2.2.trans k3).trans k4,by omega,by omega,by omega⟩;have bd:=W.at_.lt;have bp:=h_ bd;have bo:Hid (l.flatMap Sg.rs=Q.map frRec):=h_ (by rw[LH,O.out.2.1];exact HQ.out.2.2.2.2.2.2.2.1);clear I k3 C D k4 B W az bu bv bd;go_wp2_with fail;rw[←ai,←av];clear ai av;refine bn.out.mono ?_;rintro e w5 ⟨v5,G,rfl,ap,ag,k5⟩;rw[bo.out]at ag;obtain⟨a5,c5,rfl⟩:=ap.slice;obtain⟨m,o⟩:∃m,m=G.length:=⟨_,rfl⟩
 have b3:m≤300:=by have P:=LK (Q.map frRec);have A:=A3 List.length ag;rw[AD]at A;have R:=HQ.out.2.2.1;omega
 rw[←o];have H5:Hid (Blk w5 a [pr n 0,pr f 0] 283∧IxAt w5 f s EP 0 0∧LogOk w5 w.heap.size n d 162 129 (G0 S) run' true E l L q∧Keep [] w w5∧w.heap.size≤f∧w.heap.size≤s∧RRow w5 u.heap.size (.slice a5 G.length c5) G):=h_ ⟨z.out.1.keep k5 (by simp),z.out.2.1.still k5,z.out.2.2.1.still k5,z.out.2.2.2.1.trans k5,z.out.2.2.2.2.2.1,z.out.2.2.2.2.2.2,ap⟩;have HM:=h_2 o ag;clear ap ag k5 o;go_wp2
 go_loopw [32] (fun b2 wr=>∃(i f s:Nat),b2=.int .i64 (i:Int)∧i≤m∧Blk wr a [pr n 0,pr f 0] 283∧IxAt wr f s EP 0 0∧LogOk wr w.heap.size n d 162 129 (G0 S) run' true E l L q∧Keep [] w wr∧w.heap.size≤f∧w.heap.size≤s∧RRow wr u.heap.size (.slice a5 G.length c5) G) (fun x _=>m+1-(intOf x).toNat)
 case atStart=>exact⟨0,f,s,rfl,AA _,H5.out⟩
 case round=>
 clear H5;obtain⟨i,f,s,rfl,hi,B,I,ae,hK,C,D,aq⟩:=hrel;have v:=h_7 B I ae hK C D aq;clear B I ae hK C D aq;by_cases T:i<m
 ·have q0:decide ((i:Int)<(m:Int))=true:=An (by omega)
  have b4:(i:Int)<(m:Int):=by omega
  have af:i<G.length:=by rw[←HM.out.1];exact T
  obtain⟨g,gc,hg,k0,k1⟩:=v.out.2.2.2.2.2.2.at_ i af;injection hg with hg1 hg2 hg3;subst hg1 hg3;obtain⟨y,hy⟩:∃y,G[i]'af=y:=⟨_,rfl⟩;rw[hy]at k0 k1
  have bh:y.r.2=[2]:=by have P:=A3 (fun l=>l[i]?) HM.out.2;simp only[AN,Ad af,hy,Option.map_some]at P;obtain⟨r,bz,b0⟩:=Gg.1 P.symm;have A:=HQ.out.2.2.2.2.2.1 r (Aq bz);rw[←b0];show r.2.body=_;rw[A];rfl
  have au:=(v.out.2.2.2.2.2.2.ok y (hy▸BS af)).1;rw[bh]at au;have aw:=au.rd;have ax:=aw;obtain⟨K,M,yc,bi,_,_,a9⟩:=aw.at1 (by simp);have e0:=a9 0 (by simp);have a1:wr.cell? ⟨K,M,none⟩=some (.int .u8 2):=by simpa[Bb,bc]using e0
  obtain⟨pos,bf⟩:∃pos,pos=y.r.1:=⟨_,rfl⟩;rw[←bf]at k0;rw[bi]at k1 ax;obtain⟨br,a0⟩:=i_2 ax T;clear hg2 hy bh au aw a9 e0 bi bf ax;go_wp2_with fail;have kA:Keep [] wr (wr.alloc (.cells #[.int .i64 (pos:Int),.slice (some ⟨K,M,none⟩) 1 yc] 353)):=(By _ _).alloc _;have ay:Blk (wr.alloc (.cells #[.int .i64 (pos:Int),.slice (some ⟨K,M,none⟩) 1 yc] 353)) wr.heap.size [.int .i64 (pos:Int),.slice (some ⟨K,M,none⟩) 1 yc] 353:=BY wr _ _;obtain⟨wA,aj⟩:∃wA,wA=wr.alloc (.cells #[.int .i64 (pos:Int),.slice (some ⟨K,M,none⟩) 1 yc] 353):=⟨_,rfl⟩;obtain⟨bs,ar⟩:∃b,b=wr.heap.size:=⟨_,rfl⟩;rw[←aj,←ar]at ay;rw[←aj]at kA;rw[←aj,←ar];have N:=h_3 kA ay (kA.cell1' a1);clear kA ay aj ar k0 k1 a1;refine(LG _ (br.out.keep N.out.1 (by simp))).mono ?_;rintro e J ⟨rfl,k6⟩;have bg:=N.out.2.1.keep k6 (by simp);have e6:=k6.cell1' N.out.2.2;have kI:Keep [] J (J.alloc (.cells #[.string {data:=#[]},.string {data:=#[]},.int .i64 0,.bool false] 171)):=(By _ _).alloc _;have bb:Blk (J.alloc (.cells #[.string {data:=#[]},.string {data:=#[]},.int .i64 0,.bool false] 171)) J.heap.size (E8 ByteArray.empty ByteArray.empty 0 false) 171:=BY J _ _;have F:=h_5 k6 bg e6 kI bb;clear k6 bg e6 kI bb
  go_wp2_with (refine AS rfl _ _ _ rfl J.heap.size (E8 ByteArray.empty ByteArray.empty 0 false) (E8 ByteArray.empty ByteArray.empty 0 false) 171 rfl rfl F.out.2.2.2.2 rfl If (EJ _ _ _ _) ?_;intro ab bt bj;have ak:Keep [] J ab:=(F.out.2.2.2.1.then bj (fun q j T=>by simp only[Ah]at j;omega));have r1:ab.cell? ⟨bs,1,none⟩=some (.slice (some ⟨K,M,none⟩) 1 yc):=ak.cell1' (F.out.2.1.cell 1);have r2:ab.cell? ⟨K,M,none⟩=some (.int .u8 2):=ak.cell1' F.out.2.2.1;have am:=h_ ak;clear ak bt bj)
  clear r1 r2;refine IC.mono ?_;rintro e ac ⟨al,bl,rfl,a8,bk,C,D⟩;have aa:Keep [] wr ac:=((N.out.1.trans F.out.1).trans am.out).trans bk;have H:=v.out.1.keep aa (by simp);have c1:ac.cell? ⟨a,1,none⟩=some (pr f 0):=H.cell 1;have fz:ac.frozen? ⟨a,1,none⟩=false:=H.free 1;obtain⟨ad,ah⟩:∃ad,ad=ac.setCell ⟨a,1,none⟩ (pr al 0):=⟨_,rfl⟩;have Z:Keep [a] ac ad:=by rw[ah];exact Or (p:=⟨a,1,none⟩) (By _ _) (.inl (by simp)) _
  have a2:Blk ad a [pr n 0,pr al 0] 283:=by rw[ah];exact H.set 1 _
  have an:=v.out.2.2.1.still aa;have ao:=v.out.2.2.2.2.2.2.still aa;have ba:a∉DG n E l:=fun o=>an.at_.apartT H.ty (by decide) o
  have a4:=an.keep Z (fun q j o=>by rw[Ah]at o;subst o;exact ba j)
  have a6:=ao.keep Z (fun q j o=>by
   rw[Ah]at o;subst o;rcases ao.ty q j with h|h
   ·exact h.ne H.ty (by decide) rfl
   ·exact h.ne H.ty (by decide) rfl)
  have bx:a<ab.heap.size:=AW v.out.1.lt (((N.out.1.trans F.out.1).trans am.out).size)
  have a7:=a8.keep Z (fun q j o=>by rw[Ah]at j;subst j;simp only[Ac,Am,AG]at o;omega)
  have b1:w.heap.size≤ab.heap.size:=(v.out.2.2.2.1.trans ((N.out.1.trans F.out.1).trans am.out)).size;have bw:w.heap.size≤a:=z.out.2.2.2.2.1;have a3:Keep [] w ad:=(v.out.2.2.2.1.trans aa).then Z (fun q j T=>by simp only[Ah]at j;omega);have bm:=h_7 a2 a7 a4 a3 (show w.heap.size≤al by omega) (show w.heap.size≤bl by omega) a6;clear a8 bk C D aa H Z a2 an ao ba a4 a6 bx a7 b1 bw a3;go_wp2_with fail;rw[←ah];clear ah c1 fz;go_wp2
  go_roundw
  case rel=>exact⟨i+1,al,bl,by go_num,by have:=a0.out;omega,bm.out⟩
  case measure=>simp only[intOf];have:=a0.out;omega
 ·obtain rfl:m=i:=by omega
  have q0:decide ((m:Int)<(m:Int))=false:=by simp
  go_wp2;go_ret2;obtain⟨B,I,ae,hK,C,D,aq⟩:=v.out;obtain⟨R,U,V,h6,h8,hw,ht,Y⟩:=HQ.out;have X:=O.out.2.2.1;have be:=bq.out;refine⟨a,n,f,s,E,l,rfl,⟨B,⟨G0 S,run',true,q,ae,be.1,by omega,by omega,by omega,fun r X=> ?_⟩,by rw[O.out.2.1];exact U,V,h6,I,TabOk.new 16 (by decide),fun k pos=> ?_, ?_,h8⟩,hK,fun q j=> ?_⟩
  ·have:=be.2.2 (frRec r) (by rw[Y.1];exact AI.2 ⟨r,X,rfl⟩)
   exact this
  ·have e1:ents EP=[]:=Iy 16
   rw[e1];have e2:rpF Q k=none:=ME Q _ hw (fun _=>rfl) k;rw[e2];simp
  ·rw[show ents EP=[]from Iy 16];rfl
  ·simp only[Iw,Ac]at j
   rcases j with rfl|rfl|rfl|j
   ·exact z.out.2.2.2.2.1
   ·exact C
   ·exact D
   ·exact(bp.out q j).1
end
section
variable {w w':World} {d sb c k s turn slot t:Nat} {L:List Sec} {b:Nat} {ep rd:Int} {fz:Bool} {M:List JMk} {Q:List (Nat×FR)}
theorem OZ (hd:IsDev w d sb L c)(G:c+100≤1099511627776)(hk:IsKep0 w k s d 0 turn slot b ep rd fz)(R:slot≤1)(U:turn≤t)(N:Ep ((b:Int)+1) ep rd fz=true)(S:t≤1000000)(y:JDev L 2 t M)
  (V:FDev L t Q) (P:Ht Q) (hL:L.length=1200):
  Calls Tryz.prog 158 #[pr d 0,pr k 0] w fun e w'=>∃stb x f,e=.returned (.tuple #[pr stb 0,.int .i64 0])∧
   StAt w' stb d sb (c+2) (t+100) 129 f (b+1) ((b:Int)+1) ep rd fz M Q x∧f.length=L.length∧Keep [d,sb,s,k] w w'∧x.k=k∧x.s=s∧(∀q∈x.F stb,q=k∨q=s∨w.heap.size≤q)∧
   f=(L.map flushSec).set (0+(1-slot)) ⟨Cz (turn+1) (meText ((b:Int)+1) ep rd fz),Cz (turn+1) (meText ((b:Int)+1) ep rd fz),false⟩∧x.slot=1-slot∧x.turn=turn+1∧x.T=EP∧x.used=0∧x.cnt=0:=by
 have Z:∀W,Keep [] w W→Hid (Calls Tryz.prog 22 #[pr k 0] W fun x w'=>x=.returned (SP b ep rd fz)∧Keep [] W w'):=fun W Y=>h_ (Ir (hk.keep' Y (by simp) (by simp)))
 have ah:=(Z w (By _ _)).out;have H:=h_2 hd hk;have a:=h_9 G R U N S y V P hL;have Z:=h_ ah;clear hd hk G R U N S y V P hL ah;go_enter Tryz.func158,Tryz.ntmps158;go_wp2_with fail;refine Z.out.mono ?_;rintro e B ⟨rfl,k2⟩;have ab:=h_ k2;clear k2
 have ap:(b:Int)+1≤1099511627776:=by have:=a.out.2.2.2.1;unfold Ep Ly at this;simp only[Ar,A0]at this;omega
 have ak:∀W,Keep [] w W→Hid (Calls Tryz.prog 188 #[pr k 0,SP ((b:Int)+1) ep rd fz] W fun x w'=>x=.returned (.int .i64 0)∧
   IsDev w' d sb ((L.map flushSec).set (0+(1-slot)) ⟨Cz (turn+1) (meText ((b:Int)+1) ep rd fz),Cz (turn+1) (meText ((b:Int)+1) ep rd fz),false⟩) (c+2)∧IsKep0 w' k s d 0 (turn+1) (1-slot) ((b:Int)+1) ep rd fz∧Keep [d,sb,s,k] W w'):=fun W Y=>h_
   (Jd (H.out.1.keep Y (by simp) (by simp)) (H.out.2.keep' Y (by simp) (by simp)) ((b:Int)+1) ep rd fz a.out.2.2.2.1.symm (by omega) (Int.le_refl _) a.out.2.1 (by have:=a.out.2.2.2.2.2.2.2.2;omega) (by have:=a.out.2.2.1;have:=a.out.2.2.2.2.1;omega) (by have:=a.out.1;omega))
 have ad:Blk (B.alloc (.cells #[.int .i64 ((b:Int)+1),.int .i64 ep,.int .i64 rd,.bool fz] 49)) B.heap.size [.int .i64 ((b:Int)+1),.int .i64 ep,.int .i64 rd,.bool fz] 49:=BY B _ _;have k4:Keep [] B (B.alloc (.cells #[.int .i64 ((b:Int)+1),.int .i64 ep,.int .i64 rd,.bool fz] 49)):=(By _ _).alloc _;have C:=h_2 ad (ab.out.trans k4);clear ad k4;go_wp2_with fail;refine(ak _ C.out.2).out.mono ?_;rintro e w5 ⟨rfl,p,J,o⟩;obtain⟨f,v⟩:∃f,f=(L.map flushSec).set (0+(1-slot)) ⟨Cz (turn+1) (meText ((b:Int)+1) ep rd fz),Cz (turn+1) (meText ((b:Int)+1) ep rd fz),false⟩:=⟨_,rfl⟩;rw[←v]at p;have aj:=h_ v;obtain⟨G,R,U,N,S,y,V,P,al⟩:=a.out;have K:f.length=L.length:=by rw[v];simp
 have O:∀i,2≤i→nowF f i=nowF L i:=fun i hi=>by rw[v,DF _ _ _ _ (by simp;omega),Aw (by omega),CS]
 have ae:=C.out.1.keep o (by have E:=H.out.1.dev.lt;have h2:=H.out.1.secs.lt;have h3:=H.out.2.1.lt;have h4:=H.out.2.2.lt;have h5:=ab.out.size;simp only[Ac,Am,AG];omega)
 have HJ:=h_ (QD p (y.congr (t':=t) (fun i E h2=>O i E) (Av _)) (by omega) (by omega));have n:=h_7 p J (C.out.2.size) ((C.out.2.mono (S':=[d,sb,s,k]) (by simp)).trans o) K O ae;clear p J o v G R U N S y V P al K O ae;go_wp2_with fail;refine HJ.out.mono ?_;rintro e w6 ⟨X,an,ao,jv,jl,rfl,z,m⟩;have aa:=n.out.1.keep m (by simp) (by simp);have ac:=h_ (IH aa);have HF:=h_ (NZ aa (a.out.2.2.2.2.2.2.1.congr (t':=t) (fun i E h2=>n.out.2.2.2.2.2.1 i (by omega)) (Av _)) a.out.2.2.2.2.2.2.2.1 (by have:=a.out.2.2.2.2.1;omega) (by have:=a.out.2.2.2.2.2.2.2.2;have:=n.out.2.2.2.2.1;omega));have H6:=h_2 z m;clear z m aa;have ai:f.length=1200:=by have:=a.out.2.2.2.2.2.2.2.2;have:=n.out.2.2.2.2.1;omega
 rw[ai]at ac;go_wp2_with fail;refine ac.out.mono ?_;rintro e w7 ⟨rfl,rfl⟩;go_wp2_with fail;refine HF.out.mono ?_;rintro e r ⟨D,lb,xb,xg,vl,l,rfl,I,g,u⟩;have af:=((n.out.2.2.2.2.2.2).keep H6.out.2 (by simp)).keep g (by simp);have c0:=af.cell 0;have H8:=h_3 I g u;clear I g u af;go_wp2;go_ret2;obtain⟨p,J,ar,o,K,O,_⟩:=n.out;obtain⟨z,m⟩:=H6.out;obtain⟨I,g,u⟩:=H8.out;have A:Keep [] r (r.alloc (.cells #[pr D 0,pr X 0,pr k 0,.int .i64 ((b:Int)+1)] 76)):=(By _ _).alloc _;have hB:Blk (r.alloc (.cells #[pr D 0,pr X 0,pr k 0,.int .i64 ((b:Int)+1)] 76)) r.heap.size [pr D 0,pr X 0,pr k 0,.int .i64 ((b:Int)+1)] 76:=BY r _ _;have av:=m.size;have aw:=g.size;have au:=o.size;have ag:=(z.lt);have aq:=a.out.2.1;have ax:=a.out.2.2.1;have am:1-slot≤1:=by omega
 refine⟨r.heap.size,⟨k,s,turn+1,1-slot,w5.heap.size,X,an,ao,jv,jl,w6.heap.size,D,lb,xb,xg,vl,l,EP,0,0⟩,f,rfl,⟨hB,((p.keep m (by simp) (by simp)).keep g (by simp) (by simp)).keep A (by simp) (by simp), ?_,⟨am,by show turn+1≤t+100;omega⟩,((z.still g).still A).later (by omega),(I.still A).later (by omega),fun q j hm=> ?_,⟨by decide,by decide,by rw[ai];decide⟩⟩,K,((o.trans (m.mono (by simp))).trans (g.mono (by simp))).trans (A.mono (by simp)),rfl,rfl,fun q j=> ?_,aj.out,rfl,rfl,rfl,rfl,rfl⟩
 ·have h:=((J.keep' m (by simp) (by simp)).keep' g (by simp) (by simp)).keep' A (by simp) (by simp)
  show IsKep0 _ k s d 0 (turn+1) (1-slot) ((b+1:Nat):Int) ep rd fz
  push_cast
  exact h
 ·have E:=(ag q j).2
  have h2:=u q hm;omega
 ·simp only[StD.F,StD.jF,StD.fF,Ac,Ag]at j
  rcases j with rfl|rfl|rfl|j|j
  ·right;right;omega
  ·left;rfl
  ·right;left;rfl
  ·have:=(ag q j).1;right;right;omega
  ·have:=u q j;right;right;omega
theorem Nz (a:IsDev w d sb L c)(v:c+200≤1099511627776)(i:Pair L 0 slot turn (meText (b:Int) ep rd fz))(f:slot≤1)(j:0<turn∧turn≤t)(P:true=Ep (b:Int) ep rd fz)(m:Ep ((b:Int)+1) ep rd fz=true)(o:t≤1000000)(l:JDev L 2 t M)
  (p:FDev L t Q) (n:Ht Q) (g:L.length=1200):
  Calls Tryz.prog 113 #[pr d 0] w fun e w'=>∃stb x y,e=.returned (.tuple #[pr stb 0,.int .i64 0])∧
   StAt w' stb d sb (c+2) (t+100) 129 y (b+1) ((b:Int)+1) ep rd fz M Q x∧y.length=1200∧Keep [d,sb] w w'∧(∀q∈x.F stb,w.heap.size≤q)∧
   (∀s∈y,flushSec s=s)∧Pair y 0 x.slot x.turn (meText ((b:Int)+1) ep rd fz)∧x.T=EP∧x.used=0∧x.cnt=0:=by
 have V:=h_ (M7 a (by omega));have U:=h_ (P5 a i f P j.1 (by omega));have H:=h_ (Aa a (Aa v (Aa i (Aa f (Aa j (Aa m (Aa o (Aa l (Aa p (Aa n g))))))))));clear a v i f j P m o l p n g;go_enter Tryz.func113,Tryz.ntmps113;go_wp2_with fail;refine V.out.mono ?_;rintro e w2 ⟨rfl,rfl⟩;go_wp2_with fail;refine U.out.mono ?_;rintro e w3 ⟨k,s,rfl,O,r,K,N⟩;obtain⟨a,v,i,f,j,m,o,l,p,n,g⟩:=H.out;have W:=h_ (OZ (a.keep r (by simp) (by simp)) (by omega) O.weak f j.2 m o l p n g);have R:=h_3 r K N;clear O r K N a v i f j m o l p n g;go_wp2_with fail;refine W.out.mono ?_;rintro e w4 ⟨stb,x,X,rfl,E,B,J,Y,Z,hF,u,D,G,z,I,A⟩;have S:=h_10 E B J hF u D G z I A;clear E B J Y Z hF u D G z I A;go_wp2;go_ret2;obtain⟨E,B,J,hF,u,D,G,z,I,A⟩:=S.out;obtain⟨r,K,N⟩:=R.out;obtain⟨a,v,i,f,j,m,o,l,p,n,g⟩:=H.out;have ab:=r.size;refine⟨stb,x,X,rfl,E,by rw[B];exact g,(r.mono (S':=[d,sb]) (by simp)).then J (fun q C aa=> ?_),fun q C=> ?_, ?_, ?_,z,I,A⟩
 ·simp only[Ac,Am,AG]at C⊢
  rcases C with h|h|h|h
  ·exact .inl h
  ·exact .inr h
  ·omega
  ·omega
 ·rcases hF q C with h|h|h<;>omega
 ·rw[u]
  exact Iu _ _ _
 ·rw[u,D,G]
  exact i.save f (by omega) _
end
section
variable {w w':World} {d sb c slot turn t b:Nat} {L:List Sec} {ep rd:Int} {fz:Bool} {M:List JMk} {Q:List (Nat×FR)}
theorem Rx (id u:Nat)(X:1≤id∧id≤5)(v:IsDev w d sb L c)(z:c+200≤1099511627776)(E:Pair L 0 slot turn (meText (b:Int) ep rd fz))(I:slot≤1)(K:0<turn∧turn≤t)(B:true=Ep (b:Int) ep rd fz)(C:Ep ((b:Int)+1) ep rd fz=true)(J:t≤1000000)(A:JDev L 2 t M)
  (N:FDev L t Q) (G:Ht Q) (y:L.length=1200):
  Calls Tryz.prog 85 #[.int .i64 (id:Int),pr d 0,pr u 0] w fun e w'=>∃f le g i stb x h,e=.returned (.tuple #[pr f 0,.int .i64 0])∧
   Blk w' f (ndC stb le id none g (.slice none 0 0) (.slice none 0 0) 0 (.slice none 0 0) (.slice none 0 0)) 71∧StAt w' stb d sb (c+2) (t+100) 129 h (b+1) ((b:Int)+1) ep rd fz M Q x∧h.length=1200∧
   IsLease w' le u 0 0 0∧TkAt w' g i 0 0 [] (fun _=>none)∧Keep [d,sb] w w'∧(∀q∈[f,le,g,i]++x.F stb,w.heap.size≤q)∧(∀q∈[f,le,g,i],q∉x.F stb)∧
   (∀s∈h,flushSec s=s)∧Pair h 0 x.slot x.turn (meText ((b:Int)+1) ep rd fz)∧x.T=EP∧x.used=0∧x.cnt=0:=by
 have S:=h_ (Nz v z E I K B C J A N G y);have H:=h_ v;have Z:¬(id:Int)<1:=by omega
 have q1:¬(5:Int)<(id:Int):=by omega
 clear v z E I K B C J A N G y;go_enter Tryz.func85,Tryz.ntmps85;go_wp2_with fail;refine S.out.mono ?_;rintro e w2 ⟨stb,x,h,rfl,k,o,l,hF,D⟩;have R:=h_ D;clear D;have O:=h_4 k o l hF;clear k o l hF;go_wp2_with fail;refine(Kf id stb u).mono ?_;rintro e w3 ⟨f,le,g,i,rfl,n,p,r,m,j⟩;have P:=h_5 n p r m j;clear n p r m j;go_wp2;go_ret2;obtain⟨k,o,l,hF⟩:=O.out;obtain⟨n,p,r,m,j⟩:=P.out;have Y:=l.size;refine⟨f,le,g,i,stb,x,h,rfl,n,k.keep m (by simp) (by simp) (by simp),o,p,r,l.trans (m.mono (by simp)),fun q a=> ?_,fun q a U=> ?_,R.out⟩
 ·rcases Ag.1 (show q∈[f,le,g,i]++x.F stb from a)with a|a
  ·have:=j q a;omega
  ·exact hF q a
 ·have V:=j q a
  have W:=k.lt q U;omega
end
def Nd.again (id:Nat)(k:Disk):Nd:={id:=id,dk:={k with boot:=k.boot+1}}
structure Disk.Quiet (k:Disk):Prop where
 cache:k.cache=[]
 used:k.used≤9
 ready:k.ready=0
 frozen:k.frozen=false
 lim:k.boot≤1000000∧k.epoch≤1000000
theorem Nd.again_quiet (id:Nat)(k:Disk)(h:1≤id∧id≤5)(a:k.Quiet):(Nd.again id k).Quiet :=⟨rfl,rfl,rfl,rfl,a.ready,a.frozen,h⟩
section
variable {R:List As} {w w':World} {cb d t B:Nat} {k:Disk}
theorem Xr (h : Sp (SZ d k B :: AF cb t :: R) w) (id : Nat) (hid : 1 ≤ id ∧ id ≤ 5) (hk : k.Quiet) (hB : B ≤ 800000) :
    Calls Tryz.prog 85 #[.int .i64 (id : Int), .pointer (some ⟨d, 0, none⟩), .pointer (some ⟨cb, 0, none⟩)] w fun e w' => ∃ x : NdP, e = .returned (.tuple #[.pointer (some ⟨x.nb, 0, none⟩), .int .i64 0]) ∧ x.cb = cb ∧ x.d = d ∧ Sp (CJ x (Nd.again id k) (B + 100) :: AF cb t :: R) w' := by
  obtain ⟨F, ⟨sb, L, c, tt, slot, turn, M, Q, rfl, hcr⟩, hs⟩ := h.step
  have hd := hcr.dev
  obtain ⟨hq1, hq2, hq3, hq4, hq5⟩ := hk
  have hlim := hcr.lim
  have hsup := hcr.sup
  obtain ⟨S9, nx9, run9, q9, f1, f2, f3, f4, f5, f6, f7, f8⟩ := hcr.fl
  have hall : Ht Q := Q4 (AJ hcr.used hq2) f8
  have hm0 : true = Ep (k.boot : Int) (k.epoch : Int) (k.ready : Int) k.frozen := by
    rw [hq3, hq4]; unfold Ep Ly; simp; omega
  have hm1 : Ep ((k.boot : Int) + 1) (k.epoch : Int) (k.ready : Int) k.frozen = true := by
    rw [hq3, hq4]; unfold Ep Ly; simp; omega
  refine (Rx id cb hid hd (by omega) hcr.pair hsup.1 hsup.2 hm0 hm1 (by omega) hcr.jn hcr.fl hall hcr.len).mono ?_
  rintro e w' ⟨nb, le, tk, tg, stb, y, L', rfl, hb, hst, hl', hle, htk, kk, hF, hap, hfl, hpr, hT, hu, hcn⟩
  have hst' : StOk w' ⟨nb, cb, d, sb, stb, le, tk, y.k, y.cb, y.jb⟩ { k with boot := k.boot + 1 } (B + 100) L' (c + 2) (tt + 100) M Q y :=
    ⟨by show StAt w' stb d sb (c + 2) (tt + 100) 129 L' (k.boot + 1) ((k.boot + 1 : Nat) : Int) (k.epoch : Int) (k.ready : Int) k.frozen M Q y
        push_cast; exact hst, rfl, rfl, rfl, hl', by omega, hcr.jk, hcr.cache, hcr.used, by rw [hT, hu, hcn]; exact ⟨rfl, AA _, AA _⟩, hfl, by
        show Pair L' 0 y.slot y.turn (meText ((k.boot + 1 : Nat) : Int) (k.epoch : Int) (k.ready : Int) k.frozen)
        push_cast; exact hpr⟩
  have hds : d ∉ y.F stb ∧ sb ∉ y.F stb := ⟨fun hm => by have := hF d (by simp [hm]); have := hd.dev.lt; omega, fun hm => by have := hF sb (by simp [hm]); have := hd.secs.lt; omega⟩
  have hn1 := hb.lt
  have n1 : nb ≠ le := fun e => hb.ty.ne (e ▸ hle.blk.ty) (by decide) rfl
  have n2 : nb ≠ tk := fun e => hb.ty.ne (e ▸ htk.blk.ty) (by decide) rfl
  have n3 : nb ≠ tg := fun e => htk.map.ne hb.ty e
  have n4 : le ≠ tk := fun e => hle.blk.ty.ne (e ▸ htk.blk.ty) (by decide) rfl
  have n5 : le ≠ tg := fun e => htk.map.ne hle.blk.ty e
  have n6 : tk ≠ tg := fun e => htk.map.ne htk.blk.ty e
  have d1 : ∀ q ∈ [nb, le, tk, tg], q ≠ d ∧ q ≠ sb := fun q hq => by
    have h1 := hF q (A2 _ hq)
    have h2 := hd.dev.lt
    have h3 := hd.secs.lt
    omega
  have hG : ∀ q ∈ [nb, le, tk, tg], q ∉ y.G ⟨nb, cb, d, sb, stb, le, tk, y.k, y.cb, y.jb⟩ := fun q hq hm => by
    have h1 := d1 q hq
    simp only [StD.G, Ac] at hm
    rcases hm with e | e | e
    · exact h1.1 e
    · exact h1.2 e
    · exact hap q hq e
  refine ⟨⟨nb, cb, d, sb, stb, le, tk, y.k, y.cb, y.jb⟩, rfl, rfl, rfl, ?_⟩
  have h2 := hs (GW ⟨nb, cb, d, sb, stb, le, tk, y.k, y.cb, y.jb⟩ (Nd.again id k) (B + 100) ⟨none, .slice none 0 0, .slice none 0 0, .slice none 0 0, .slice none 0 0, []⟩) w'
    ([nb] ++ (y.G ⟨nb, cb, d, sb, stb, le, tk, y.k, y.cb, y.jb⟩ ++ ([le] ++ ([] ++ (KG tk tg [] ++ ([] ++ ([] ++ ([] ++ ([] ++ []))))))))) ?_ kk (fun q hq => ?_)
  · exact Yz ⟨none, .slice none 0 0, .slice none 0 0, .slice none 0 0, .slice none 0 0, []⟩ (Nd.again_quiet id k hid ⟨hq1, hq2, hq3, hq4, hq5⟩) rfl h2
  · refine J9.cons ⟨rfl, hb⟩ (J9.cons ⟨L', c + 2, tt + 100, M, Q, y, rfl, hst'⟩ (J9.cons ⟨rfl, hle⟩ (J9.cons rfl (J9.cons ⟨tg, 0, [], _, rfl, htk, Av _, fun i => rfl, fun i _ => rfl⟩
      (J9.cons ⟨rfl, AY w' 0 _ _⟩ (J9.cons ⟨rfl, AY w' 0 _ _⟩ (J9.cons ⟨rfl, AY w' 0 _ _⟩ (J9.cons ⟨by simp, by simp⟩ (J9.single ⟨rfl, AY w' 0 _ _⟩) (by simp)) (by simp)) (by simp)) (by simp)) (by simp)) (by simp)) ?_) ?_) ?_
    · intro q hq hm
      simp [KG] at hq hm
      subst hq
      rcases hm with e | e
      · exact n4 e
      · exact n5 e
    · intro q hq hm
      simp only [List.nil_append, AE, Ag, Ah, KG, Ac, Am, AG] at hm
      rcases hm with rfl | rfl | rfl
      · exact hG q (by simp) hq
      · exact hG q (by simp) hq
      · exact hG q (by simp) hq
    · intro q hq hm
      rw [Ah] at hq
      subst hq
      simp only [List.nil_append, AE, Ag, Ah, KG, Ac, Am, AG] at hm
      rcases hm with h | rfl | rfl | rfl
      · exact hG q (by simp) h
      · exact n1 rfl
      · exact n2 rfl
      · exact n3 rfl
  · simp only [List.nil_append, AE, Ag, Ah, KG, Ac, Am, AG, StD.G] at hq ⊢
    rcases hq with rfl | (rfl | rfl | h) | rfl | rfl | rfl
    · exact .inr (hF q (by simp))
    · exact .inl (.inl rfl)
    · exact .inl (.inr rfl)
    · exact .inr (hF q (by simp [h]))
    · exact .inr (hF q (by simp))
    · exact .inr (hF q (by simp))
    · exact .inr (hF q (by simp))
end
end Go.Proofs.YtnhbioehiiifdaaGreat
