import Derived.Test.YtnhbioehiiifdaaGreatD20
set_option maxRecDepth 100000
set_option maxHeartbeats 16000000
set_option linter.all false
namespace Go.Proofs.YtnhbioehiiifdaaGreat
open Go.ChangeShapes Go.WideShapes Go.ChangeAt Go.RowKit
theorem Tryz.sizeWho:(Tryz.prog.info? 136).map (·.size)=some 4:=by kernel_rfl
theorem whoC_one (q:Who):∀v∈Fu q,v.oneCell'=true:=by intro v a;simp only[Fu,O1,Ac,Am,AG]at a;rcases a with rfl|rfl|rfl|rfl<;>rfl
def zWho:List Value:=[.int .i64 0,.int .i64 0,.int .i64 0,.string ⟨#[]⟩]
def Wm.who (m:Wm):Who:=⟨m.src,m.id,m.op,m.key⟩
section
variable {R:List As} {w w':World} {x:NdP} {n n':Nd} {B B' t:Nat} {v:NdV}
theorem nd_foreign_same {y:Tm}{m:Wm}(h:Sp (CJ x n B::Gs y::AF x.cb t::R) w)(g:y.m=wmMs m)(X:m.epoch=n.dk.epoch)
  (T:∀(W:World) (K:List As),Sp (CJ x n B::AF x.cb t::K) W→Calls Tryz.prog 131 #[pr x.nb 0,.agg (Fu m.who).toArray] W fun e w'=>e=.returned (.tuple #[])∧Sp (CJ x n' B'::AF x.cb t::K) w'):
  Calls Tryz.prog 148 #[pr x.nb 0,.agg (Cm y).toArray] w fun e w'=>e=.returned (.tuple #[])∧Sp (CJ x n' B'::Gs y::AF x.cb t::R) w':=by
 obtain⟨a,c⟩:∃a,a=Cm y:=⟨_,rfl⟩;have F:Sp (CJ x n B::Gs y::AF x.cb t::AM w.heap.size a 175::R) (w.alloc (.cells a.toArray 175)):=(h.alloc a 175).push 3;have p:=(F.pull 3).blk;have o:=(F.alloc zWho 136);have Z:(w.alloc (.cells a.toArray 175)).heap.size =w.heap.size+1:=by simp
 rw[Z]at o;have o:Sp (CJ x n B::Gs y::AF x.cb t::AM w.heap.size a 175::AM (w.heap.size+1) zWho 136::R) _:=o.push 4;have m1:(w.alloc (.cells a.toArray 175)).cell? ⟨w.heap.size,1,none⟩=some (.int .i64 (m.src:Int)):=by rw[p.cell 1,c];simp[Cm,CZ,g,wmMs]
 have m7:(w.alloc (.cells a.toArray 175)).cell? ⟨w.heap.size,7,none⟩=some (.int .i64 (m.id:Int)):=by rw[p.cell 7,c];simp[Cm,CZ,g,wmMs]
 have m8:(w.alloc (.cells a.toArray 175)).cell? ⟨w.heap.size,8,none⟩=some (.int .i64 (m.op:Int)):=by rw[p.cell 8,c];simp[Cm,CZ,g,wmMs]
 have m9:(w.alloc (.cells a.toArray 175)).cell? ⟨w.heap.size,9,none⟩=some (.string m.key):=by rw[p.cell 9,c];simp[Cm,CZ,g,wmMs]
 have C:=h_ o;have i:=h_4 g c X T;rw[←c];clear h F o g c p Z X T;go_enter Tryz.func148,Tryz.ntmps148
 go_wp2_with (refine AS rfl _ _ _ rfl (w.heap.size+1) zWho (Fu m.who) 136 rfl rfl ((C.out.pull 4).blk) rfl Tryz.sizeWho (whoC_one _) ?_;intro ab M aa)
 have G:=((C.out.pull 4).set M aa);obtain⟨j,U⟩:∃b,b=w.heap.size+1:=⟨_,rfl⟩;obtain⟨E,I⟩:∃b,b=w.heap.size:=⟨_,rfl⟩;rw[←U]at G⊢;have u:Hid (Sp (CJ x n B::Gs y::AF x.cb t::AM E a 175::AM j (Fu m.who) 136::R) ab):=h_ (by rw[I];exact G.push 4);rw[←I];clear G M aa I U C m1 m7 m8 m9;obtain⟨v,f⟩:=u.out.ndR;have z:=h_2 f (u.out.pull 3).blk;clear f;refine wK (A:=[0,1,0,4,12,28,60,124,252,508,1020,2047]) 0 [pr E 3,.int .i64 (m.epoch:Int),pr x.nb 0,pr x.nb 0,pr x.nb 0,pr x.stb 0,pr x.stb 0,pr x.stb 2,pr x.kp 0,.agg #[.int .i64 (n.dk.boot:Int),.int .i64 (n.dk.epoch:Int),.int .i64 0,.bool false],.int .i64 (n.dk.epoch:Int),.bool false] (fun _ W=>Keep [] ab W) ?mstart (.s ?m0<|.s ?m1<|.s ?m2<|.s ?m3<|.s ?m4<|.s ?m5<|.s ?m6<|.s ?m7<|.s ?m8<|.s ?m9<|.s ?m10<|.s ?m11<|.nil) ?mfin
 case mstart=>exact(By _ _).drew
 case mfin=>
  intro L r d hd;have H:=u.out.still d;have J:=h_ H;have q0:((m.epoch:Int) !=(n.dk.epoch:Int))=false:=by rw[i.out.2.2.1];simp
  have q:=(H.pull 4).blk;have z0:r.cell? ⟨j,0,none⟩=some (.int .i64 (m.src:Int)):=q.cell 0;have z1:r.cell? ⟨j,1,none⟩=some (.int .i64 (m.id:Int)):=q.cell 1;have z2:r.cell? ⟨j,2,none⟩=some (.int .i64 (m.op:Int)):=q.cell 2;have z3:r.cell? ⟨j,3,none⟩=some (.string m.key):=q.cell 3;clear d hd H q u z;simp[Al,Act.put];go_wp2_with fail;refine(i.out.2.2.2 r _ (J.out.sel (l:=[_,_,_,_,_]) [0,2,1,3,4] 5 rfl rfl)).mono ?_;rintro e ad ⟨rfl,N⟩;have ac:=h_ N;clear N J z0 z1 z2 z3;go_wp2_with fail
  first
   |go_end0
   |refine Be (v:= .tuple #[]) (Cx rfl _ _ _) rfl ?_
  exact⟨rfl,Sp.dropL (l:=[_,_]) (ac.out.sel (l:=[_,_,_,_,_]) [3,4,0,2,1] 5 rfl rfl)⟩
 all_goals
  intro L xv W d O Y S V b P K' Q;have D:=h_ d;have f:=z.out.1.still d;have d0:=f.k.c0;have e2:=f.k.e2;have m3:W.cell? ⟨E,3,none⟩=some (.int .i64 (m.epoch:Int)):=by rw[(z.out.2.keep d (by simp)).cell 3,i.out.2.1];simp[Cm,CZ,i.out.1,wmMs]
  clear f d;simp at V;simp only[Al,Act.put,A8,A7,A6,V]at P;subst P
 case m9=>clear O Y S;go_simp;clear d0 e2 m3;refine(G4 (z.out.1.still D.out)).mono ?_;rintro e w3 ⟨rfl,k3⟩;go_simp;exact Q _ _ rfl (D.out.trans k3)
 all_goals
  clear O Y S;have q0:((m.epoch:Int) !=(n.dk.epoch:Int))=false:=by rw[i.out.2.2.1];simp
  go_simp;exact Q _ _ rfl D.out
end
def ansP (m:Wm)(q:Wt):Bool:=decide (q.too=m.src∧q.id=m.id)
def ansI (m:Wm)(L:List Wt):Int:=if L.findIdx (ansP m)<L.length then(L.findIdx (ansP m):Int)else-1
section
variable {R:List As} {w w':World} {x:NdP} {n n':Nd} {B B' t b3:Nat} {v:NdV} {y:Tm} {m:Wm}
theorem ansP_any (k:Blk w b3 (Cm y) 175)(l:y.m=wmMs m)(q:Wt):Calls Tryz.prog 206 #[.agg (wtC q).toArray,pr b3 0] w fun e w'=>e=.returned (.bool (ansP m q))∧Keep [] w w':=by
 obtain⟨C,d⟩:∃C,C=wtC q:=⟨_,rfl⟩;have i:Blk (w.alloc (.cells C.toArray 223)) w.heap.size C 223:=BY _ _ _;have j:Keep [] w (w.alloc (.cells C.toArray 223)):=(By _ _).alloc _;have h:=k.keep j (by simp);have r:(w.alloc (.cells C.toArray 223)).cell? ⟨w.heap.size,4,none⟩=some (.int .i64 (q.id:Int)):=by rw[i.cell,d];rfl
 have s:(w.alloc (.cells C.toArray 223)).cell? ⟨w.heap.size,5,none⟩=some (.int .i64 (q.too:Int)):=by rw[i.cell,d];rfl
 have u:(w.alloc (.cells C.toArray 223)).cell? ⟨b3,1,none⟩=some (.int .i64 (m.src:Int)):=by rw[h.cell];simp[Cm,CZ,l,wmMs]
 have z:(w.alloc (.cells C.toArray 223)).cell? ⟨b3,7,none⟩=some (.int .i64 (m.id:Int)):=by rw[h.cell];simp[Cm,CZ,l,wmMs]
 have f:=h_ j;have g:Hid (ansP m q=(decide (q.too=m.src)&&decide (q.id=m.id))):=h_ (by unfold ansP;rw[Bool.decide_and]);rw[←d];clear k h i j d;go_enter Tryz.func206,Tryz.ntmps206;by_cases b:q.too=m.src
 ·have o:((q.too:Int)==(m.src:Int))=true:=by simp;omega
  by_cases c:q.id=m.id
  ·have p:((q.id:Int)==(m.id:Int))=true:=by simp;omega
   have a:=h_2 b c;clear b c;go_wp2;go_ret;exact⟨by rw[g.out,An a.out.1,An a.out.2];rfl,f.out⟩
  ·have p:((q.id:Int)==(m.id:Int))=false:=by simp;omega
   have a:=h_2 b c;clear b c;go_wp2;go_ret;exact⟨by rw[g.out,An a.out.1,Ak a.out.2];rfl,f.out⟩
 ·have o:((q.too:Int)==(m.src:Int))=false:=by simp;omega
  have a:=h_ b;clear b;go_wp2;go_ret;exact⟨by rw[g.out,Ak a.out];rfl,f.out⟩
theorem ansIndex_any {base:Nat}{v:Value}{L:List Wt}(z:w.ownsRow base 223 7 v L.length (rows wtC L))(H:Blk w b3 (Cm y) 175)(M:y.m=wmMs m)(T:L.length≤1000):
  Calls Tryz.prog 205 #[v,.func (.func 206) #[] #[pr b3 0]] w fun e w'=>e=.returned (.int .i64 (ansI m L))∧Keep [] w w':=by
 obtain⟨a,cap,rfl⟩:=A4 z;obtain⟨n,u⟩:∃n,n=L.length:=⟨_,rfl⟩;rw[←u]at T⊢;have c:=h_4 z H M u;clear z H M u;go_enter Tryz.func205,Tryz.ntmps205;go_wp2
 go_loopw [8] (fun X wr=>∃i:Nat,X=.int .i64 (i:Int)∧i≤n∧(∀j (h:j<L.length),j<i→ansP m (L[j])=false)∧Keep [] w wr) (fun x _=>n+1-(intOf x).toNat)
 case atStart=>exact⟨0,rfl,AA _,fun j _ h=>absurd h (by omega),By _ _⟩
 case round=>
 obtain⟨i,rfl,hi,p,b⟩:=hrel;by_cases J:i<n
 ·have W:decide ((i:Int)<(n:Int))=true:=An (by omega)
  have d:i<L.length:=by rw[←c.out.2.2.2];exact J
  have D:=h_ p;have K:=Do c.out.1 b (by simp);obtain⟨g,Z,U,_,_,C,_,_⟩:=Cq (k:=7) wtC_len K (Ad d);injection U with hg1 hg2 hg3;subst hg1 hg3;obtain⟨q,A⟩:∃q,q=L[i]'d:=⟨_,rfl⟩;rw[←A]at C;obtain⟨O,F⟩:=i_2 C A;have G:=ansP_any (c.out.2.1.keep b (by simp)) c.out.2.2.1 q;obtain⟨P,Y,l⟩:=i_3 G J b;clear G b p K hg2 C A
  go_wp2_with (refine Bc rfl 223 _ rfl g (i*7) rfl (wtC q) _ O.out Tryz.underlying223 rfl (by rfl) ?_)
  refine P.out.mono ?_;rintro e w2 ⟨rfl,N⟩;have E:=h_ (l.out.trans N);clear N
  cases f:ansP m q with
  |true=>
   have o:=h_ f;clear f;go_wp2;go_ret;refine⟨?_,E.out⟩
   have r:L.findIdx (ansP m)=i:=by refine(List.findIdx_eq d).2 ⟨by rw[←F.out];exact o.out,fun j I=> ?_⟩;rw[D.out j (by omega) I]
   unfold ansI;rw[r,Ay d];rfl
  |false=>
   have o:=h_ f;clear f;go_wp2
   go_roundw
   case rel=>
    refine⟨i+1,by go_num,by omega,fun j h I=> ?_,E.out⟩;by_cases V:j<i
    ·exact D.out j h V
    ·obtain rfl:j=i:=by omega
     rw[←F.out];exact o.out
   case measure=>simp only[intOf];omega
 ·obtain rfl:n=i:=by omega
  have W:decide ((n:Int)<(n:Int))=false:=by simp
  have l:=h_ b;clear b;go_wp2;go_ret;refine⟨?_,l.out⟩
  have r:¬L.findIdx (ansP m)<L.length:=by intro s;have Q:=List.findIdx_getElem (w:=s);have S:=p _ s (by rw[c.out.2.2.2];exact s);exact absurd (Q.symm.trans S) (by decide)
  unfold ansI;rw[Aw r];rfl
theorem ndL_delWait (h:Sp (GW x n B v++R) w)(i:Nat)(d:i<n.waits.length)(M:n.waits.length≤1000):
  ∃g cap,v.wv=.slice (some ⟨g,0,none⟩) n.waits.length cap∧Calls Tryz.prog 207 #[v.wv,.int .i64 (i:Int),.int .i64 ((i:Int)+1)] w fun e w'=>e=.returned (.slice (some ⟨g,0,none⟩) (n.waits.length-1) cap)∧
   w'.frozen? ⟨x.nb,9,none⟩=false∧w'.cell? ⟨x.nb,9,none⟩=some v.wv∧Sp (GW x {n with waits:=n.waits.eraseIdx i} B {v with wv:= .slice (some ⟨g,0,none⟩) (n.waits.length-1) cap}++R) (w'.setCell ⟨x.nb,9,none⟩ (.slice (some ⟨g,0,none⟩) (n.waits.length-1) cap)):=by
 obtain⟨F,hF,G⟩:=Yq (l:=GW x n B v) (R:=R) h [0,5] [1,2,3,4,6,7,8,9] 10 rfl rfl;obtain⟨J,_,rfl,⟨rfl,r⟩,⟨K,_,rfl,⟨rfl,o⟩,rfl,_⟩,L⟩:=hF;obtain⟨g,cap,c,_,_,_,_,H⟩:=Cq (k:=7) wtC_len o (Ad d);refine⟨g,cap,c, ?_⟩
 have A:Calls Tryz.prog 207 #[v.wv,.int .i64 (i:Int),.int .i64 ((i:Int)+1)] w fun e w'=>e=.returned (.slice (some ⟨g,0,none⟩) (n.waits.length-1) cap)∧w'.ownsRow 0 223 7 (.slice (some ⟨g,0,none⟩) (n.waits.length-1) cap) (n.waits.length-1) ((rows wtC n.waits).take (i*7)++(rows wtC n.waits).drop ((i+1)*7))∧Keep [g] w w':=by rw[c]at o⊢;exact Delete_Wt o (ON wtC_one _) i d (by omega) _ rfl
 refine A.mono ?_;rintro e w' ⟨rfl,D,k⟩
 have j:x.nb∉ [g]:=fun b=>by rw[Ah]at b;exact r.ty.ne (b▸H) (by decide) rfl
 have f:=r.keep k j;refine⟨rfl,f.free 9,f.cell 9, ?_⟩;have C:(n.waits.eraseIdx i).length =n.waits.length-1:=by rw[List.length_eraseIdx,Ay d]
 have s:Keep [x.nb] w' (w'.setCell ⟨x.nb,9,none⟩ (.slice (some ⟨g,0,none⟩) (n.waits.length-1) cap)):=Or (p:=⟨x.nb,9,none⟩) (By _ _) (.inl (by simp)) _
 have E:=Do D s (fun q a b=>by rw[Ah]at b;have u:q=g:=(Option.some.inj a).symm;exact j (by rw[←b,u];simp))
 have I:Keep ([x.nb]++(v.wv.ownBlock.toList++[])) w (w'.setCell ⟨x.nb,9,none⟩ (.slice (some ⟨g,0,none⟩) (n.waits.length-1) cap)):=by rw[c];exact((k.mono (fun q a _=>by simp at a;simp[Value.ownBlock,a])).trans (s.mono (fun q a _=>by simp at a;simp[a])))
 have z:=G [0,2,3,4,5,1,6,7,8,9] [AM x.nb (ndC x.stb x.le n.id v.rg x.tk (.slice (some ⟨g,0,none⟩) (n.waits.length-1) cap) v.rv n.asked v.ms v.rp) 71,BF 223 7 (.slice (some ⟨g,0,none⟩) (n.waits.length-1) cap) (n.waits.eraseIdx i).length (rows wtC (n.waits.eraseIdx i))] (w'.setCell ⟨x.nb,9,none⟩ (.slice (some ⟨g,0,none⟩) (n.waits.length-1) cap)) ([x.nb]++[g])
  (J9.cons ⟨rfl,f.set 9 _⟩ (J9.single ⟨rfl,by rw[C,←QW wtC_len];exact E⟩) (fun q a b=>by rw[Ah]at a b;exact j (by rw[←a,b];simp))) I (fun q a=> .inl (by rw[c];simpa[Value.ownBlock]using a)) rfl rfl
 exact z
end
theorem find_idx {α:Type}(p:α→Bool):∀L:List α,L.find? p=if h:L.findIdx p<L.length then some (L[L.findIdx p]'h)else none
 |[]=>rfl
 |a::L=>by
  rw[List.find?_cons,List.findIdx_cons]
  cases b:p a with
  |true=>simp
  |false=>simp only[cond_false,List.length_cons,Nat.add_lt_add_iff_right,List.getElem_cons_succ];exact find_idx p L
theorem eraseP_idx {α:Type}(p:α→Bool):∀L:List α,L.findIdx p<L.length→L.eraseP p=L.eraseIdx (L.findIdx p)
 |[],h=>by simp at h
 |a::L,h=>by
  rw[List.findIdx_cons]at h⊢
  cases b:p a with
  |true=>simp[b]
  |false=>rw[b]at h;simp only[cond_false,List.length_cons,Nat.add_lt_add_iff_right]at h;simp only[cond_false,List.eraseIdx_cons_succ];rw[List.eraseP_cons_of_neg (by simp[b]),eraseP_idx p L h]
def ansE (m:Wm):Nat:=if m.err=7 then 6 else m.err
def ansH (m:Wm)(q:Who):Bool:=decide (ansE m=0∧q.op=1∧m.it.1≠se)&& !m.it.2.2
def Nd.unwait (n:Nd)(i:Nat):Nd:={n with waits:=n.waits.eraseIdx i}
theorem answer_none (n:Nd)(m:Wm)(h:¬n.waits.findIdx (ansP m)<n.waits.length):n.answer m=n:=by
 unfold Nd.answer
 have e:n.waits.find? (fun w=>decide (w.too=m.src∧w.id=m.id))=none:=by have:=find_idx (ansP m) n.waits;rw[dif_neg h]at this;exact this
 rw[e]
theorem answer_some (n:Nd)(m:Wm)(q:Wt)(i:Nat)(b:i=n.waits.findIdx (ansP m))(h:i<n.waits.length)(c:n.waits[i]?=some q):n.answer m=(n.unwait i).tell q.w (ansE m) (if ansH m q.w then m.it.2.1 else se) (ansH m q.w):=by
 unfold Nd.answer;subst b
 have e:n.waits.find? (fun w=>decide (w.too=m.src∧w.id=m.id))=some q:=by have:=find_idx (ansP m) n.waits;rw[dif_pos h]at this;rw[←c,Ad h];exact this
 have a:n.waits.eraseP (fun w=>decide (w.too=m.src∧w.id=m.id))=n.waits.eraseIdx (n.waits.findIdx (ansP m)):=eraseP_idx (ansP m) n.waits h;rw[e];simp only[a];rfl
section
variable {R:List As} {w w':World} {x:NdP} {n n':Nd} {B B' t:Nat} {v:NdV}
theorem nd_answer {y:Tm}{m:Wm}(h:Sp (CJ x n B::Gs y::AF x.cb t::R) w)(hy:y.m=wmMs m)(hl:n.waits.length≤1000)(hm:n.msgs.length<300∧n.reps.length<300):
  Calls Tryz.prog 149 #[pr x.nb 0,.agg (Cm y).toArray] w fun e w'=>e=.returned (.tuple #[])∧Sp (CJ x (n.answer m) B::Gs y::AF x.cb t::R) w':=by
 obtain⟨F,U⟩:∃F,F=Cm y:=⟨_,rfl⟩;have T:Sp (CJ x n B::Gs y::AF x.cb t::AM w.heap.size F 175::R) (w.alloc (.cells F.toArray 175)):=(h.alloc F 175).push 3;obtain⟨v,X⟩:=T.ndR;have c9:(w.alloc (.cells F.toArray 175)).cell? ⟨x.nb,9,none⟩=some v.wv:=X.blk.cell 9;obtain⟨wa,wc,ah⟩:=A4 X.wt;obtain⟨wl,ai⟩:∃wl,wl=n.waits.length:=⟨_,rfl⟩;rw[ah,←ai]at c9;have C:=(T.pull 3).blk;have ad:=ansIndex_any X.wt (by rw[←U];exact C) hy hl;rw[ah,←ai]at ad;obtain⟨ak,H1⟩:=i_2 ad T;have o:=h_4 hy U hl hm;rw[←U];clear h T X hy U hl hm C ad ah ai;go_enter Tryz.func149,Tryz.ntmps149;go_wp2_with fail;refine ak.out.mono ?_;rintro e L ⟨rfl,k2⟩;have h2:=H1.out.still k2;obtain⟨G,ao⟩:∃b,b=w.heap.size:=⟨_,rfl⟩;rw[←ao]at h2⊢;have H2:=h_ h2;clear ao h2 k2 c9 H1 ak;unfold ansI;by_cases A:n.waits.findIdx (ansP m)<n.waits.length
 ·rw[Ay A]
  obtain⟨i,hi⟩:∃i,i=n.waits.findIdx (ansP m):=⟨_,rfl⟩;rw[←hi]at A⊢;obtain⟨q,hq⟩:∃q,n.waits[i]?=some q:=⟨_,Ad A⟩;have I:=h_ (answer_some n m q i hi A hq);obtain⟨v,af,ae,hL⟩:=H2.out.nd;have Y:=hL.ndL_r af ae;have h3:Sp (GW x n B v++Gs y::AF x.cb t::AM G F 175::AM L.heap.size zWho 136::R) (L.alloc (.cells zWho.toArray 136)):=(hL.alloc zWho 136).push 13;obtain⟨g,cap,Z,_,_,ap,_,_⟩:=Cq (k:=7) wtC_len Y.wt hq
  have aq:L.rangeAt g (i*7) (Fu q.w):=fun j z hz=>by have hj:=(Ai.1 hz).1;refine ap j z ?_;show(Fu q.w++_)[j]?=_;rw[AK hj];exact hz
  obtain⟨D,N⟩:∃D,D=n.waits.length:=⟨_,rfl⟩
  have c9:L.cell? ⟨x.nb,9,none⟩=some (.slice (some ⟨g,0,none⟩) D cap):=by have:=Y.blk.cell 9;rw[Z,←N]at this;exact this
  have a1:(L.alloc (.cells zWho.toArray 136)).cell? ⟨x.nb,9,none⟩=some (.slice (some ⟨g,0,none⟩) D cap):=by have:=(Y.blk.alloc (.cells zWho.toArray 136)).cell 9;rw[Z,←N]at this;exact this
  have a3:=A;rw[←N]at a3;have ba:D≤1000:=by rw[N];exact o.out.2.2.1
  obtain⟨al,H3⟩:=i_2 aq h3;have J:=h_5 A N Z af ae;have q0:¬(i:Int)<0:=by omega
  have q1:(i:Int)<(D:Int):=by omega
  clear A hi hq h3 hL Y Z ap aq N af ae
  go_wp2_with (first|(refine Bc rfl 136 _ rfl g (i*7) rfl (Fu q.w) _ al.out Tryz.underlying136 rfl (by rfl) ?_)|(refine AS rfl _ _ _ rfl L.heap.size zWho (Fu q.w) 136 rfl rfl ((H3.out.pull 13).blk) rfl Tryz.sizeWho (whoC_one _) ?_;intro ax an av;have ag:=((H3.out.pull 13).set an av).push 13;have a2:ax.cell? ⟨x.nb,9,none⟩=some (.slice (some ⟨g,0,none⟩) D cap):=(by have:=ag.blk.cell 9;rw[J.out.2.2.1,←J.out.2.1]at this;exact this);have aa:=h_ ag;clear ag an av)|fail)
  obtain⟨M,ab⟩:∃b,b=L.heap.size:=⟨_,rfl⟩;rw[←ab]at aa;rw[←ab];clear ab H3 c9 a1 H2 al;have am:Hid (Sp (GW x n B v++Gs y::AF x.cb t::AM G F 175::AM M (Fu q.w) 136::R) ax):=aa;clear aa;obtain⟨g',a9,au,ac⟩:=ndL_delWait am.out i J.out.1 o.out.2.2.1;rw[J.out.2.2.1]at au;injection au with e1 e2 e3;injection e1 with e1;injection e1 with e1;subst e1 e3;rw[J.out.2.2.1,←J.out.2.1]at ac;have HD:=h_ ac;clear ac e2 am;refine HD.out.mono ?_;rintro e ay ⟨rfl,f9,a0,O⟩;have O:=Yz (n:=n.unwait i) (R:=Gs y::AF x.cb t::AM G F 175::AM M (Fu q.w) 136::R) {v with wv:= .slice (some ⟨g,0,none⟩) (D-1) cap} (J.out.2.2.2.1.same rfl rfl rfl rfl rfl rfl rfl) J.out.2.2.2.2 O;have E:=h_ O;have C:=(O.pull 3).blk;have a4:(ay.setCell ⟨x.nb,9,none⟩ (.slice (some ⟨g,0,none⟩) (D-1) cap)).cell? ⟨G,10,none⟩=some (.int .i64 (m.err:Int)):=by rw[C.cell 10,o.out.2.1];simp[Cm,CZ,o.out.1,wmMs]
  clear O C HD;go_upto_region 6 with fail;obtain⟨s,ar⟩:∃s,s=ay.setCell ⟨x.nb,9,none⟩ (.slice (some ⟨g,0,none⟩) (D-1) cap):=⟨_,rfl⟩;rw[←ar]at E⊢;clear ar f9 a0 a2 a4;have C:=(E.out.pull 3).blk;have Q:=(E.out.pull 4).blk;have bb:s.cell? ⟨G,12,none⟩=some (.string m.it.1):=by rw[C.cell 12,o.out.2.1];simp[Cm,CZ,o.out.1,wmMs]
  have a5:s.cell? ⟨G,13,none⟩=some (.string m.it.2.1):=by rw[C.cell 13,o.out.2.1];simp[Cm,CZ,o.out.1,wmMs]
  have aj:s.cell? ⟨G,15,none⟩=some (.bool m.it.2.2):=by rw[C.cell 15,o.out.2.1];simp[Cm,CZ,o.out.1,wmMs]
  have bc:s.cell? ⟨G,12+1,none⟩=some (.string m.it.2.1):=a5;have aw:s.cell? ⟨G,12+3,none⟩=some (.bool m.it.2.2):=aj;have z0:s.cell? ⟨M,0,none⟩=some (.int .i64 (q.w.node:Int)):=Q.cell 0;have z1:s.cell? ⟨M,1,none⟩=some (.int .i64 (q.w.id:Int)):=Q.cell 1;have z2:s.cell? ⟨M,2,none⟩=some (.int .i64 (q.w.op:Int)):=Q.cell 2;have z3:s.cell? ⟨M,3,none⟩=some (.string q.w.key):=Q.cell 3;clear C Q;by_cases u:m.err=7
  ·have q7:((m.err:Int)==7)=true:=by rw[u];rfl
   have c:ansE m=6:=by unfold ansE;rw[Ay u]
   have d:ansH m q.w=false:=by unfold ansH;rw[Ak (by rintro⟨h,_⟩;unfold ansE at h;rw[Ay u]at h;cases h)];rfl
   have a:=h_2 c d;clear c d u;go_wp2_with fail;refine(KP E.out q.w 6 se false o.out.2.2.2).mono ?_;rintro e S ⟨rfl,f⟩;have r:=h_ f;clear f;go_wp2_with fail
   first
    |go_end0
    |refine Be (v:= .tuple #[]) (Cx rfl _ _ _) rfl ?_
   refine⟨rfl, ?_⟩;rw[I.out,a.out.1,a.out.2];exact Sp.dropL (l:=[_,_]) (r.out.sel (l:=[_,_,_,_,_]) [3,4,0,1,2] 5 rfl rfl)
  ·have q7:((m.err:Int)==7)=false:=by simp;omega
   have p:ansE m=m.err:=by unfold ansE;rw[Aw u]
   by_cases V:m.err=0
   ·have q8:((m.err:Int)==0)=true:=by rw[V];rfl
    have az:=h_ V;clear V;by_cases K:q.w.op=1
    ·have q9:((q.w.op:Int)==1)=true:=by rw[K];rfl
     by_cases H:m.it.1=se
     ·have a6:(m.it.1.toList !=(⟨#[]⟩:ByteArray).toList)=false:=by rw[show m.it.1=(⟨#[]⟩:ByteArray)from H];simp
      have a7:(m.it.1.toList==(⟨#[]⟩:ByteArray).toList)=true:=by rw[show m.it.1=(⟨#[]⟩:ByteArray)from H];simp
      have a8:m.it.1.toList.isEmpty=true:=by rw[show m.it.1=(⟨#[]⟩:ByteArray)from H];simp
      have c:ansE m=m.err:=p;have d:ansH m q.w=false:=by unfold ansH;rw[Ak (by rintro⟨_,_,h⟩;exact h H)];rfl
      have a:=h_2 c d;clear c d u p K H;go_wp2_with fail;refine(KP E.out q.w m.err se false o.out.2.2.2).mono ?_;rintro e S ⟨rfl,f⟩;have r:=h_ f;clear f;go_wp2_with fail
      first
       |go_end0
       |refine Be (v:= .tuple #[]) (Cx rfl _ _ _) rfl ?_
      refine⟨rfl, ?_⟩;rw[I.out,a.out.1,a.out.2];exact Sp.dropL (l:=[_,_]) (r.out.sel (l:=[_,_,_,_,_]) [3,4,0,1,2] 5 rfl rfl)
     ·have P:m.it.1.toList≠(⟨#[]⟩:ByteArray).toList :=fun e=>H (Nr e)
      have a6:(m.it.1.toList !=(⟨#[]⟩:ByteArray).toList)=true:=by simpa using P
      have a7:(m.it.1.toList==(⟨#[]⟩:ByteArray).toList)=false:=by simpa using P
      have a8:m.it.1.toList.isEmpty=false:=by simpa using P
      cases W:m.it.2.2 with
      |true=>
       rw[W]at aj aw;have c:ansE m=m.err:=p;have d:ansH m q.w=false:=by unfold ansH;rw[W];simp
       have a:=h_2 c d;clear c d u p K H P;go_wp2_with fail;refine(KP E.out q.w m.err se false o.out.2.2.2).mono ?_;rintro e S ⟨rfl,f⟩;have r:=h_ f;clear f;go_wp2_with fail
       first
        |go_end0
        |refine Be (v:= .tuple #[]) (Cx rfl _ _ _) rfl ?_
       refine⟨rfl, ?_⟩;rw[I.out,a.out.1,a.out.2];exact Sp.dropL (l:=[_,_]) (r.out.sel (l:=[_,_,_,_,_]) [3,4,0,1,2] 5 rfl rfl)
      |false=>
       rw[W]at aj aw;have c:ansE m=m.err:=p;have d:ansH m q.w=true:=by unfold ansH;rw[W,An ⟨by rw[p];exact az.out,K,H⟩];rfl
       have a:=h_2 c d;clear c d u p K H P;go_wp2_with fail;refine(KP E.out q.w m.err m.it.2.1 true o.out.2.2.2).mono ?_;rintro e S ⟨rfl,f⟩;have r:=h_ f;clear f;go_wp2_with fail
       first
        |go_end0
        |refine Be (v:= .tuple #[]) (Cx rfl _ _ _) rfl ?_
       refine⟨rfl, ?_⟩;rw[I.out,a.out.1,a.out.2];exact Sp.dropL (l:=[_,_]) (r.out.sel (l:=[_,_,_,_,_]) [3,4,0,1,2] 5 rfl rfl)
    ·have q9:((q.w.op:Int)==1)=false:=by simp;omega
     have c:ansE m=m.err:=p;have d:ansH m q.w=false:=by unfold ansH;rw[Ak (by rintro⟨_,h,_⟩;exact K h)];rfl
     have a:=h_2 c d;clear c d u p K;go_wp2_with fail;refine(KP E.out q.w m.err se false o.out.2.2.2).mono ?_;rintro e S ⟨rfl,f⟩;have r:=h_ f;clear f;go_wp2_with fail
     first
      |go_end0
      |refine Be (v:= .tuple #[]) (Cx rfl _ _ _) rfl ?_
     refine⟨rfl, ?_⟩;rw[I.out,a.out.1,a.out.2];exact Sp.dropL (l:=[_,_]) (r.out.sel (l:=[_,_,_,_,_]) [3,4,0,1,2] 5 rfl rfl)
   ·have q8:((m.err:Int)==0)=false:=by simp;omega
    have c:ansE m=m.err:=p;have d:ansH m q.w=false:=by unfold ansH;rw[Ak (by rintro⟨h,_⟩;rw[p]at h;exact V h)];rfl
    have a:=h_2 c d;clear c d u p;go_wp2_with fail;refine(KP E.out q.w m.err se false o.out.2.2.2).mono ?_;rintro e S ⟨rfl,f⟩;have r:=h_ f;clear f;go_wp2_with fail
    first
     |go_end0
     |refine Be (v:= .tuple #[]) (Cx rfl _ _ _) rfl ?_
    refine⟨rfl, ?_⟩;rw[I.out,a.out.1,a.out.2];exact Sp.dropL (l:=[_,_]) (r.out.sel (l:=[_,_,_,_,_]) [3,4,0,1,2] 5 rfl rfl)
 ·rw[Aw A]
  have I:=h_ (answer_none n m A);clear A;go_wp2_with fail
  first
   |go_end0
   |refine Be (v:= .tuple #[]) (Cx rfl _ _ _) rfl ?_
  exact⟨rfl,by rw[I.out];exact(H2.out.pull 3).drop⟩
end
section
variable {R:List As} {w w':World} {x:NdP} {n n':Nd} {B B' t:Nat} {v:NdV}
theorem nd_Step_ask {y:Tm}{m:Wm}(h:Sp (CJ x n B::Gs y::AF x.cb t::R) w)(hy:y.m=wmMs m)(ae:m.Ok)(C:m.dst=n.id)(hk:m.kind=13)
  (hg:∀(W:World) (Y:List As),Sp (CJ x n B::Gs y::AF x.cb t::Y) W→Calls Tryz.prog 148 #[pr x.nb 0,.agg (Cm y).toArray] W fun e w'=>e=.returned (.tuple #[])∧Sp (CJ x n' B'::Gs y::AF x.cb t::Y) w'):
  Calls Tryz.prog 107 #[pr x.nb 0,.agg (Cm y).toArray] w fun e w'=>∃j k,e=.returned (.agg #[j,k])∧Sp (CJ x n'.did.1 B'::Dp j n'.did.2.1::Dn k n'.did.2.2::Gs y::AF x.cb t::R) w':=by
 obtain⟨c,J⟩:∃c,c=Cm y:=⟨_,rfl⟩;have h1:Sp (CJ x n B::Gs y::AF x.cb t::AM w.heap.size c 175::R) (w.alloc (.cells c.toArray 175)):=(h.alloc c 175).push 3;have q:=(h1.alloc [.slice none 0 0,.slice none 0 0] 69);have ag:(w.alloc (.cells c.toArray 175)).heap.size =w.heap.size+1:=by simp
 rw[ag]at q;have q:Sp (CJ x n B::Gs y::AF x.cb t::AM w.heap.size c 175::AM (w.heap.size+1) [.slice none 0 0,.slice none 0 0] 69::R) _:=q.push 4;have Q:=h_ q;have a:=h_6 hy J ae C hk hg;rw[←J];clear h h1 q hy ae C hk hg J ag;go_enter Tryz.func107,Tryz.ntmps107;go_wp2_with fail;obtain⟨Z,N⟩:∃b,b=w.heap.size+1:=⟨_,rfl⟩;obtain⟨i,M⟩:∃b,b=w.heap.size:=⟨_,rfl⟩;obtain⟨D,P⟩:∃D,D=(w.alloc (.cells c.toArray 175)).alloc (.cells #[.slice none 0 0,.slice none 0 0] 69):=⟨_,rfl⟩;have l:Hid (Sp (CJ x n B::Gs y::AF x.cb t::AM i c 175::AM Z [.slice none 0 0,.slice none 0 0] 69::R) D):=h_ (by rw[P,N,M];exact Q.out);clear Q;rw[←P,←N,←M];clear P M N;obtain⟨v,f⟩:=l.out.ndR;have d:=(l.out.pull 3).blk;obtain⟨F,ac⟩:=(l.out.pull 1).tm;have V:=h_ ac;have u:=h_2 f d;have q0:((m.dst:Int) !=(n.id:Int))=false:=by rw[a.out.2.2.2.1];simp
 clear f d ac;refine wK (A:=[0,1,3,7,15,7,39,103,231,511,1023,2047,4095,8191,16383,32767]) 0 [pr x.nb 0,.bool false,.bool false,pr i 2,.int .i64 (m.dst:Int),pr x.nb 0,pr x.nb 0,pr x.nb 2,.int .i64 (n.id:Int),.bool false,.bool false,.bool false,.agg c.toArray,.bool true,.bool false,.bool false] (fun _ W=>Keep [] D W) ?mstart (.s ?m0<|.s ?m1<|.s ?m2<|.s ?m3<|.s ?m4<|.s ?m5<|.s ?m6<|.s ?m7<|.s ?m8<|.s ?m9<|.s ?m10<|.s ?m11<|.s ?m12<|.s ?m13<|.s ?m14<|.s ?m15<|.nil) ?mfin
 case mstart=>exact(By _ _).drew
 case mfin=>
  intro L w7 g C;have h7:=l.out.still g;have o:=h_ h7;clear g C l V h7 u;have z:=o.out.ndK.c0;have d2:=o.out.ndK.e2;obtain⟨v7,ah⟩:=o.out.ndR;have T:=h_ (G4 ah);have am:=X0 (n.dk.boot:Int) (n.dk.epoch:Int);clear ah;simp[Al,Act.put];go_wp2_with fail;refine T.out.mono ?_;rintro e w8 ⟨rfl,k8⟩;have G:=o.out.still k8;have S:=h_ G;have d:=(G.pull 3).blk;have m0:w8.cell? ⟨i,0,none⟩=some (.int .i64 13):=by rw[d.cell 0,a.out.2.1];simp[Cm,CZ,a.out.1,wmMs,a.out.2.2.2.2.1]
  have U:=h_ d;clear z d2 T G k8 o d
  go_wp2_with (refine BA 175 _ rfl i rfl 175 c.toArray (0,0) _ U.out AV rfl (by rw[a.out.2.1];exact C4) (by rfl) ?_)
  rw[a.out.2.1];refine(a.out.2.2.2.2.2 w8 _ S.out).mono ?_;rintro e w9 ⟨rfl,h9⟩;have H9:=h_ h9;clear h9 S U m0;go_wp2_with fail;refine(Lu H9.out).mono ?_;rintro e an ⟨j,k,rfl,aa⟩;have r:=h_ aa;clear aa;have ak:=(r.out.pull 6).blk;obtain⟨ma,mc,ad⟩:=(r.out.pull 1).msgsV;obtain⟨ra,rc,af⟩:=(r.out.pull 2).repsV;have X:=h_2 ad af;clear ad af
  go_wp2_with (refine AS rfl _ _ _ rfl Z [.slice none 0 0,.slice none 0 0] [j,k] 69 rfl rfl ak rfl Ys (by intro v f;simp at f;rcases f with h|h;(rw[h,X.out.1];rfl);(rw[h,X.out.2];rfl)) ?_;intro ao E al)
  have ai:=((r.out.pull 6).set E al);refine Be (v:= .agg #[j,k]) ?_ rfl ⟨j,k,rfl, ?_⟩
  ·have z:=E.cell 0
   have d1:=E.cell 1;simp only[List.getElem?_cons_zero,List.getElem?_cons_succ]at z d1;simp[results,Tryz.results107,go_sem,z,d1]
  ·exact((ai.drop).pull 5).drop
 all_goals
  intro L xv W g H O K ab b hB K' I;have p:=h_ g;have f:=u.out.1.still g;have c2:W.cell? ⟨x.nb,2,none⟩=some (.int .i64 (n.id:Int)):=f.id;have d:=u.out.2.keep g (by simp);have m2:W.cell? ⟨i,2,none⟩=some (.int .i64 (m.dst:Int)):=by rw[d.cell 2,a.out.2.1];simp[Cm,CZ,a.out.1,wmMs]
  clear f g d;simp at ab;simp only[Al,Act.put,A8,A7,A6,ab]at hB;subst hB
 case m12=>clear H O K;refine Cb 175 _ rfl i (by rfl) 175 c.toArray (0,0) _ (u.out.2.keep p.out (by simp)) AV rfl (by rw[a.out.2.1];exact C4) (by rfl) ?_;exact I _ _ rfl p.out
 case m13=>
  clear H O K;go_simp;clear c2 m2;have hm:=V.out.keep p.out (by simp);have hc:=JP y.m _ _ _ _ hm.rd (by rw[a.out.1];exact a.out.2.2.1.sz) true (by rw[a.out.1];exact a.out.2.2.1.may.symm);have aj:Calls Tryz.prog 116 #[.agg c.toArray] W fun e w'=>e=.returned (.bool true)∧Keep [] W w':=by rw[a.out.2.1];exact hc
  refine aj.mono ?_;rintro e w3 ⟨rfl,k3⟩;go_simp;exact I _ _ rfl (p.out.trans k3)
 all_goals clear H O K;go_simp;exact I _ _ rfl p.out
theorem nd_Step_answer {y:Tm}{m:Wm}(h:Sp (CJ x n B::Gs y::AF x.cb t::R) w)(hy:y.m=wmMs m)(ae:m.Ok)(C:m.dst=n.id)(hk:m.kind=14)
  (hg:∀(W:World) (Y:List As),Sp (CJ x n B::Gs y::AF x.cb t::Y) W→Calls Tryz.prog 149 #[pr x.nb 0,.agg (Cm y).toArray] W fun e w'=>e=.returned (.tuple #[])∧Sp (CJ x n' B'::Gs y::AF x.cb t::Y) w'):
  Calls Tryz.prog 107 #[pr x.nb 0,.agg (Cm y).toArray] w fun e w'=>∃j k,e=.returned (.agg #[j,k])∧Sp (CJ x n'.did.1 B'::Dp j n'.did.2.1::Dn k n'.did.2.2::Gs y::AF x.cb t::R) w':=by
 obtain⟨c,J⟩:∃c,c=Cm y:=⟨_,rfl⟩;have h1:Sp (CJ x n B::Gs y::AF x.cb t::AM w.heap.size c 175::R) (w.alloc (.cells c.toArray 175)):=(h.alloc c 175).push 3;have q:=(h1.alloc [.slice none 0 0,.slice none 0 0] 69);have ag:(w.alloc (.cells c.toArray 175)).heap.size =w.heap.size+1:=by simp
 rw[ag]at q;have q:Sp (CJ x n B::Gs y::AF x.cb t::AM w.heap.size c 175::AM (w.heap.size+1) [.slice none 0 0,.slice none 0 0] 69::R) _:=q.push 4;have Q:=h_ q;have a:=h_6 hy J ae C hk hg;rw[←J];clear h h1 q hy ae C hk hg J ag;go_enter Tryz.func107,Tryz.ntmps107;go_wp2_with fail;obtain⟨Z,N⟩:∃b,b=w.heap.size+1:=⟨_,rfl⟩;obtain⟨i,M⟩:∃b,b=w.heap.size:=⟨_,rfl⟩;obtain⟨D,P⟩:∃D,D=(w.alloc (.cells c.toArray 175)).alloc (.cells #[.slice none 0 0,.slice none 0 0] 69):=⟨_,rfl⟩;have l:Hid (Sp (CJ x n B::Gs y::AF x.cb t::AM i c 175::AM Z [.slice none 0 0,.slice none 0 0] 69::R) D):=h_ (by rw[P,N,M];exact Q.out);clear Q;rw[←P,←N,←M];clear P M N;obtain⟨v,f⟩:=l.out.ndR;have d:=(l.out.pull 3).blk;obtain⟨F,ac⟩:=(l.out.pull 1).tm;have V:=h_ ac;have u:=h_2 f d;have q0:((m.dst:Int) !=(n.id:Int))=false:=by rw[a.out.2.2.2.1];simp
 clear f d ac;refine wK (A:=[0,1,3,7,15,7,39,103,231,511,1023,2047,4095,8191,16383,32767]) 0 [pr x.nb 0,.bool false,.bool false,pr i 2,.int .i64 (m.dst:Int),pr x.nb 0,pr x.nb 0,pr x.nb 2,.int .i64 (n.id:Int),.bool false,.bool false,.bool false,.agg c.toArray,.bool true,.bool false,.bool false] (fun _ W=>Keep [] D W) ?mstart (.s ?m0<|.s ?m1<|.s ?m2<|.s ?m3<|.s ?m4<|.s ?m5<|.s ?m6<|.s ?m7<|.s ?m8<|.s ?m9<|.s ?m10<|.s ?m11<|.s ?m12<|.s ?m13<|.s ?m14<|.s ?m15<|.nil) ?mfin
 case mstart=>exact(By _ _).drew
 case mfin=>
  intro L w7 g C;have h7:=l.out.still g;have o:=h_ h7;clear g C l V h7 u;have z:=o.out.ndK.c0;have d2:=o.out.ndK.e2;obtain⟨v7,ah⟩:=o.out.ndR;have T:=h_ (G4 ah);have am:=X0 (n.dk.boot:Int) (n.dk.epoch:Int);clear ah;simp[Al,Act.put];go_wp2_with fail;refine T.out.mono ?_;rintro e w8 ⟨rfl,k8⟩;have G:=o.out.still k8;have S:=h_ G;have d:=(G.pull 3).blk;have m0:w8.cell? ⟨i,0,none⟩=some (.int .i64 14):=by rw[d.cell 0,a.out.2.1];simp[Cm,CZ,a.out.1,wmMs,a.out.2.2.2.2.1]
  have U:=h_ d;clear z d2 T G k8 o d
  go_wp2_with (refine BA 175 _ rfl i rfl 175 c.toArray (0,0) _ U.out AV rfl (by rw[a.out.2.1];exact C4) (by rfl) ?_)
  rw[a.out.2.1];refine(a.out.2.2.2.2.2 w8 _ S.out).mono ?_;rintro e w9 ⟨rfl,h9⟩;have H9:=h_ h9;clear h9 S U m0;go_wp2_with fail;refine(Lu H9.out).mono ?_;rintro e an ⟨j,k,rfl,aa⟩;have r:=h_ aa;clear aa;have ak:=(r.out.pull 6).blk;obtain⟨ma,mc,ad⟩:=(r.out.pull 1).msgsV;obtain⟨ra,rc,af⟩:=(r.out.pull 2).repsV;have X:=h_2 ad af;clear ad af
  go_wp2_with (refine AS rfl _ _ _ rfl Z [.slice none 0 0,.slice none 0 0] [j,k] 69 rfl rfl ak rfl Ys (by intro v f;simp at f;rcases f with h|h;(rw[h,X.out.1];rfl);(rw[h,X.out.2];rfl)) ?_;intro ao E al)
  have ai:=((r.out.pull 6).set E al);refine Be (v:= .agg #[j,k]) ?_ rfl ⟨j,k,rfl, ?_⟩
  ·have z:=E.cell 0
   have d1:=E.cell 1;simp only[List.getElem?_cons_zero,List.getElem?_cons_succ]at z d1;simp[results,Tryz.results107,go_sem,z,d1]
  ·exact((ai.drop).pull 5).drop
 all_goals
  intro L xv W g H O K ab b hB K' I;have p:=h_ g;have f:=u.out.1.still g;have c2:W.cell? ⟨x.nb,2,none⟩=some (.int .i64 (n.id:Int)):=f.id;have d:=u.out.2.keep g (by simp);have m2:W.cell? ⟨i,2,none⟩=some (.int .i64 (m.dst:Int)):=by rw[d.cell 2,a.out.2.1];simp[Cm,CZ,a.out.1,wmMs]
  clear f g d;simp at ab;simp only[Al,Act.put,A8,A7,A6,ab]at hB;subst hB
 case m12=>clear H O K;refine Cb 175 _ rfl i (by rfl) 175 c.toArray (0,0) _ (u.out.2.keep p.out (by simp)) AV rfl (by rw[a.out.2.1];exact C4) (by rfl) ?_;exact I _ _ rfl p.out
 case m13=>
  clear H O K;go_simp;clear c2 m2;have hm:=V.out.keep p.out (by simp);have hc:=JP y.m _ _ _ _ hm.rd (by rw[a.out.1];exact a.out.2.2.1.sz) true (by rw[a.out.1];exact a.out.2.2.1.may.symm);have aj:Calls Tryz.prog 116 #[.agg c.toArray] W fun e w'=>e=.returned (.bool true)∧Keep [] W w':=by rw[a.out.2.1];exact hc
  refine aj.mono ?_;rintro e w3 ⟨rfl,k3⟩;go_simp;exact I _ _ rfl (p.out.trans k3)
 all_goals clear H O K;go_simp;exact I _ _ rfl p.out
end
end Go.Proofs.YtnhbioehiiifdaaGreat
