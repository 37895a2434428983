import Derived.Test.YtnhbioehiiifdaaGreatA07
set_option maxRecDepth 100000
set_option maxHeartbeats 16000000
set_option linter.all false
namespace Go.Proofs.YtnhbioehiiifdaaGreat
open Go.ChangeShapes Go.WideShapes Go.ChangeAt Go.RowKit
def rpC (r:Rp):List Value:=[.int .i64 (r.id:Int),.int .i64 (r.op:Int),.string r.key,.int .i64 (r.err:Int),.string r.val,.bool r.has]
def caC (c:Call):List Value:=[.int .i64 (c.id:Int),.int .i64 (c.op:Int),.string c.key,.int .i64 (c.node:Int),.int .i64 (c.frm:Int),.int .i64 (c.too:Int),.bool c.done]++rpC c.rp
theorem CX (c:Call):(caC c).length =13:=rfl
theorem J7 (c:Call):∀v∈caC c,v.oneCell'=true:=by intro v a;simp only[caC,rpC,List.cons_append,List.nil_append,Ac,Am,AG]at a;rcases a with rfl|rfl|rfl|rfl|rfl|rfl|rfl|rfl|rfl|rfl|rfl|rfl|rfl<;>rfl
theorem Tryz.infoCall:(Tryz.prog.info? 87).map (fun i=>(i.zero,i.size,i.bytes))=some (some (.agg #[.int .i64 0,.int .i64 0,.string ByteArray.empty,.int .i64 0,.int .i64 0,.int .i64 0,.bool false,.int .i64 0,.int .i64 0,.string ByteArray.empty,.int .i64 0,.string ByteArray.empty,.bool false]),13,128):=by kernel_rfl
structure ClAt (w:World) (p:Nat) (v:Value) (L:List Call):Prop where
 blk:Blk w p [v] 123
 own:w.ownsRow 0 87 13 v L.length (rows caC L)
 len:L.length≤10000
section
variable {w w':World} {p:Nat} {v:Value} {L:List Call}
theorem ClAt.vty (h:ClAt w p v L):∀b,v.ownBlock=some b→Ty w b 87:=C5 h.own
theorem ClAt.slice (h:ClAt w p v L):∃a cap,v=.slice a L.length cap:=A4 h.own
theorem ClAt.keep {S:List Nat}(h:ClAt w p v L)(k:Keep S w w')(c:∀q∈S,q∉p::v.ownBlock.toList):ClAt w' p v L:=
 ⟨h.blk.keep k (fun b=>c p b (Bx ..)),by
  have j:=B3 h.own;refine⟨h.own.1, ?_⟩;rcases h.own.2 with⟨a,l⟩|⟨g,cap,e,a,f,i,r⟩
  ·exact .inl ⟨a,l⟩
  ·have d:v.ownBlock=some g:=by rw[a];rfl
   exact .inr ⟨g,cap,e,a,f,by rw[k.block g (j g d).2 (fun b=>c g b (Ap _ (Ae.2 d)))];exact i,r⟩,h.len⟩
theorem U2 {w:World}:Calls Tryz.prog 66 #[] w fun e w'=>∃p,e=.returned (pr p 0)∧ClAt w' p (.slice none 0 0) []∧Keep [] w w'∧w.heap.size≤p:=by go_enter Tryz.func66,Tryz.ntmps66;go_wp2;go_ret;exact⟨_,rfl,⟨BY w _ _,AY _ _ _ 13,by simp⟩,(By _ _).alloc _,Av _⟩
theorem RR {w:World}{base:Nat}(v:Value)(L:List Call)(h:w.ownsRow base 87 13 v L.length (rows caC L))(C:L.length≤10000):
  Calls Tryz.prog 48 #[v] w fun e w'=>∃v',e=.returned v'∧w'.ownsRow w.heap.size 87 13 v' L.length (rows caC L)∧Keep [] w w':=by
 obtain⟨y,m,t,u,x⟩:=AU Tryz.infoCall;have r:=Fa h;have B:=fun(W:World) (a:Option Addr) (n c:Nat)=>Lib.run_eql_slice_nil (P:=Tryz.prog) W 82 87 a n c 0 0 Ge
 have j:=Wf w 87 13;have f:=(By [] w).alloc (.cells #[] 87);have s:=Rv.src (P:=Tryz.prog) (r.alloc (.cells #[] 87)) Ge (ON J7 L);obtain⟨a,cap,rfl⟩:=A4 h
 cases a with
 |none=>
  have k:L=[]:=by
   rcases h.2 with⟨_,o⟩|⟨g,cap,z,l,_⟩
   ·exact Bv o
   ·cases l
  subst k;go_enter Tryz.func48,Tryz.ntmps48;go_wp2;go_ret;exact⟨_,rfl,AY _ _ _ 13,By _ _⟩
 |some a=>
  clear h;go_enter Tryz.func48,Tryz.ntmps48
  go_wp2_with (at_builtin;refine Bl _ rfl _ _ 82 82 rfl w.heap.size 87 y _ 13 128 Ge m t u x rfl (by decide) _ 0 [] rfl j _ _ _ rfl s (by unfold maxLen;omega) (by omega) (by simp) ?_;intro E F b i _ A)
  go_ret;rw[AP,List.nil_append]at b;exact⟨_,rfl,b,f.then (DJ i) (fun q d D=>by change q∈[w.heap.size]at d;simp at d;omega)⟩
theorem Nk (h:ClAt w p v L):Calls Tryz.prog 29 #[pr p 0] w fun e w'=>∃v',e=.returned v'∧w'.ownsRow w.heap.size 87 13 v' L.length (rows caC L)∧Keep [] w w':=by have g:=h.blk.cell 0;have c:=h_ (RR v L h.own h.len);obtain⟨a,cap,rfl⟩:=h.slice;clear h;go_enter Tryz.func29,Tryz.ntmps29;go_wp2_with fail;refine c.out.mono ?_;rintro e i ⟨v',rfl,b,d⟩;obtain⟨f,c2,rfl⟩:=A4 b;go_wp2;go_ret;exact⟨_,rfl,b,d⟩
def Ml (id op:Nat)(key:Str)(a pos:Nat):Call:=⟨id,op,key,a,pos,0,false,⟨0,0,se,0,se,false⟩⟩
theorem Qu (h:ClAt w p v L)(V:L.length<10000)(op:Nat)(key:Str)(c pos:Nat)(W:op≤1000∧c≤1000∧pos≤1000000):
  Calls Tryz.prog 97 #[pr p 0,.int .i64 (op:Int),.string key,.int .i64 (c:Int),.int .i64 (pos:Int)] w fun e w'=>∃v',e=.returned (.int .i64 ((L.length+1:Nat):Int))∧ClAt w' p v' (L++[Ml (L.length+1) op key c pos])∧Keep (p::v.ownBlock.toList) w w'∧(∀q,v'.ownBlock=some q→v.ownBlock=some q∨w.heap.size≤q):=by
 obtain⟨N,G,J,K,M⟩:=AU Tryz.infoCall;have S:=h.blk.cell 0;have T:=h.blk.free 0
 have r:caC (Ml (L.length+1) op key c pos)=[.int .i64 ((L.length:Int)+1),.int .i64 (op:Int),.string key,.int .i64 (c:Int),.int .i64 (pos:Int),.int .i64 0,.bool false,.int .i64 0,.int .i64 0,.string ByteArray.empty,.int .i64 0,.string ByteArray.empty,.bool false]:=by simp[caC,Ml,rpC]
 obtain⟨C,R⟩:=i_2 h.blk h.own;have x:=h.vty;have o:∀b,v.ownBlock=some b→b≠p:=fun b l e=>by subst e;exact(x _ l).ne h.blk.ty (by decide) rfl
 have H:=h.own;have n:=B3 h.own;obtain⟨a,cap,rfl⟩:=h.slice;have t:=h_ (World.ownsRow.alloc h.own (.cells (caC (Ml (L.length+1) op key c pos)).toArray 87));have m:=KI (P:=Tryz.prog) Ge (w.alloc (.cells (caC (Ml (L.length+1) op key c pos)).toArray 87)) w.heap.size _ (CX (Ml (L.length+1) op key c pos)) (BY w (caC (Ml (L.length+1) op key c pos)) 87) (J7 _);rw[r]at t m;obtain⟨E,F⟩:=i_2 m r;have u:=h_2 o n;clear r h m x o n H;go_enter Tryz.func97,Tryz.ntmps97
 go_wp2_with (first|(at_builtin;refine Bl _ rfl _ _ 82 82 rfl 0 87 N _ 13 128 Ge G J K M rfl (by decide) _ L.length _ rfl t.out _ 1 _ rfl E.out (by unfold maxLen;omega) (by omega) (AA _) ?_;intro X s f i _ j;have d:=(C.out.alloc (.cells [.int .i64 ((L.length:Int)+1),.int .i64 (op:Int),.string key,.int .i64 (c:Int),.int .i64 (pos:Int),.int .i64 0,.bool false,.int .i64 0,.int .i64 0,.string ByteArray.empty,.int .i64 0,.string ByteArray.empty,.bool false].toArray 87)).keep (DJ i) (fun k=>u.out.1 _ (Ae.1 k) rfl);have c1:=d.cell 0;have U:=d.free 0;obtain⟨A,B,rfl⟩:=A4 f;have D:=h_4 f i j d;clear f i j d))
 go_ret;obtain⟨o,n⟩:=u.out;obtain⟨f,i,j,d⟩:=D.out;have O:=DJ i;have y:Keep [] w (w.alloc (.cells [.int .i64 ((L.length:Int)+1),.int .i64 (op:Int),.string key,.int .i64 (c:Int),.int .i64 (pos:Int),.int .i64 0,.bool false,.int .i64 0,.int .i64 0,.string ByteArray.empty,.int .i64 0,.string ByteArray.empty,.bool false].toArray 87)):=(By _ _).alloc _;have z:Keep [p] s (s.setCell ⟨p,0,none⟩ (.slice A (L.length+1) B)):=(By _ _).setCell (.inl (by simp)) _;have Q:Keep (p::(Value.slice a L.length cap).ownBlock.toList) w (s.setCell ⟨p,0,none⟩ (.slice A (L.length+1) B)):=((y.mono (by simp)).trans (O.mono (fun q g _=>Ap _ g))).trans (z.mono (fun q g _=>by simp at g;rw[g];exact Bx ..));have I:=y.size;refine⟨_,by push_cast;rfl,⟨d.set 0 _, ?_,by simp;omega⟩,Q,fun q g=> ?_⟩
 ·rw[I8,Aj,F.out]
  refine Do f z (fun b l k=> ?_);simp only[Ah]at k;subst k;exact(C5 f _ l).ne d.ty (by decide) rfl
 ·rcases j q g with h|h
  ·exact .inl h
  ·exact .inr (AJ I h)
end
def Ff (w:World)(s d at_ turn:Nat)(c:List Nat)(a:Nat):Prop:=
 ∃b,Blk w s [pr d 0,.int .i64 at_,.int .i64 turn,b,.int .i64 a] 209
theorem Hy.weak {w:World}{s d at_ turn:Nat}{b:List Nat}{a:Nat}(h:Hy w s d at_ turn b a):Ff w s d at_ turn b a:=by obtain⟨e,c,_⟩:=h;exact⟨e,c⟩
theorem Ff.keep' {w c:World}{s d at_ turn:Nat}{b:List Nat}{a:Nat}{S:List Nat}(h:Ff w s d at_ turn b a)(k:Keep S w c)(e:s∉S):Ff c s d at_ turn b a:=by obtain⟨g,f⟩:=h;exact⟨g,f.keep k e⟩
theorem Ff.keep {w c:World}{s d at_ turn:Nat}{b:List Nat}{a:Nat}{S:List Nat}(h:Ff w s d at_ turn b a)(k:Keep S w c)(e:s∉S)(_:∀x∈S,¬Ty w x 5):Ff c s d at_ turn b a:=h.keep' k e
theorem Ff.lt {w:World}{s d at_ turn:Nat}{c:List Nat}{b:Nat}(h:Ff w s d at_ turn c b):s<w.heap.size:=by obtain⟨e,a⟩:=h;exact a.lt
theorem Ff.ty {w:World}{s d at_ turn:Nat}{c:List Nat}{b:Nat}(h:Ff w s d at_ turn c b):Ty w s 209:=by obtain⟨e,a⟩:=h;exact a.ty
def IsKep0 (w:World)(k s d at_ turn a:Nat)(b e r:Int)(f:Bool):Prop:=
 Blk w k [pr s 0,.int .i64 b,.int .i64 e,.int .i64 r,.bool f] 116∧Ff w s d at_ turn (meText b e r f) a
theorem WO.weak {w:World}{k s d at_ turn a:Nat}{b e r:Int}{f:Bool}(h:WO w k s d at_ turn a b e r f):IsKep0 w k s d at_ turn a b e r f:=⟨h.1,h.2.weak⟩
theorem IsKep0.keep' {w g:World}{k s d at_ turn c:Nat}{b e r:Int}{f:Bool}{S:List Nat}(h:IsKep0 w k s d at_ turn c b e r f)(a:Keep S w g)(i:k∉S)(j:s∉S):IsKep0 g k s d at_ turn c b e r f:=
 ⟨h.1.keep a i,h.2.keep' a j⟩
theorem WI {w:World}{s d sb:Nat}{L:List Sec}{c:Nat}{at_ turn:Nat}{text0:List Nat}{slot:Nat}(hd:IsDev w d sb L c)(hs:Ff w s d at_ turn text0 slot)(bv:Value)(text:List Nat)
  (hr:Rd w bv text) (hb:∀c∈text,c<256) (hl:text.length≤40) (hslot:slot≤1) (hat:at_+1<L.length) (hn:turn+1<9223372036854775808) (hc:c+2≤1099511627776)
  (hlo:∀b,bv.ownBlock=some b→0<text.length→b<w.heap.size∧b≠d∧b≠sb∧b≠s):
  Calls Tryz.prog 212 #[pr s 0,bv] w fun e f=>e=.returned (.int .i64 0)∧IsDev f d sb ((L.map flushSec).set (at_+(1-slot)) ⟨Cz (turn+1) text,Cz (turn+1) text,false⟩) (c+2)∧
   Ff f s d at_ (turn+1) text (1-slot)∧Keep [d,sb,s] w f:=by
 obtain⟨x,a⟩:=hs;have g:=hr;obtain⟨_,m,n,rfl,_,_⟩:=hr;have A:(text.length:Int)≤40:=by omega
 have o:=a.cell 2;have p:=a.cell 4;simp only[List.getElem?_cons_succ,List.getElem?_cons_zero]at o p;have j:=fun W (k:Keep [] w W)=>M4 at_ (1-slot) turn x slot (turn+1) (.slice m text.length n) text (hd.keep k (by simp) (by simp)) (a.keep k (by simp)) (g.keep k (by simp)) hb hl (by omega) (by omega) hc (fun b h i=>⟨by have:=(hlo b h i).1;have:=k.size;omega,(hlo b h i).2⟩)
 have l:=h_ j;have u:((1-slot:Nat):Int)=1-(slot:Int):=by omega
 have v:((turn+1:Nat):Int)=(turn:Int)+1:=by omega
 clear j hlo g;go_enter Tryz.func212,Tryz.ntmps212;go_wp2_with fail;refine BJ 12 (by kernel_rfl) (by kernel_rfl) ?_;simp only[List.take_succ_cons,List.take_zero,BB,Bj]
 repeat still_step
 refine Du ?_;go_wp2_with fail;rw[←u,←v];refine(l.out _ (By [] _).drew).mono ?_;rintro e B ⟨rfl,r,⟨y,q,z⟩,t⟩;go_wp2;go_ret;exact⟨rfl,r,⟨y,q⟩,(By _ _).drew.trans t⟩
theorem Ir {w:World}{k s d at_ turn n:Nat}{b e r:Int}{f:Bool}(m:IsKep0 w k s d at_ turn n b e r f):
  Calls Tryz.prog 22 #[pr k 0] w fun x o=>x=.returned (SP b e r f)∧Keep [] w o:=by
 obtain⟨a,_⟩:=m;go_enter Tryz.func22,Tryz.ntmps22;have c1:=(a.alloc (.cells (IP 0 0 0 false).toArray 49)).cell 1;have c2:=(a.alloc (.cells (IP 0 0 0 false).toArray 49)).cell 2;have c3:=(a.alloc (.cells (IP 0 0 0 false).toArray 49)).cell 3;have c4:=(a.alloc (.cells (IP 0 0 0 false).toArray 49)).cell 4;have p:=BY w (IP 0 0 0 false) 49;simp only[List.getElem?_cons_zero,List.getElem?_cons_succ]at c1 c2 c3 c4;unfold IP at c1 c2 c3 c4;have q:=a.lt;go_wp2_with fail;have c:=BY w (IP b e r f) 49;have l:=(By [] w).alloc (.cells (IP b e r f).toArray 49);change bodyPost _ _ _ _ _ (w.alloc (.cells (IP b e r f).toArray 49));generalize w.alloc (.cells (IP b e r f).toArray 49)=w5 at*;refine Be (v:=SP b e r f) ?_ rfl ⟨rfl,l⟩;have g:=c.cell 0;have h:=c.cell 1;have i:=c.cell 2;have j:=c.cell 3;simp only[IP,List.getElem?_cons_zero,List.getElem?_cons_succ]at g h i j;simp[results,Tryz.results22,go_sem,g,h,i,j]
def svE0 (n:World)(o k s d sb at_ turn g c:Nat)(L:List Sec)(b e r:Int)(f:Bool)(h i m:Int)(j:Bool)(l:Nat→Bool)(x:Nat→Value)(a:World):Prop:=
 (Blk a o (IP b e r f) 49)∧
 (Blk a k [pr s 0,.int .i64 h,.int .i64 i,.int .i64 m,.bool j] 116)∧
 (l 6=false→IsDev a d sb L c∧Ff a s d at_ turn (meText h i m j) g)∧
 (l 6=true→IsDev a d sb ((L.map flushSec).set (at_+(1-g)) ⟨Cz (turn+1) (meText b e r f),Cz (turn+1) (meText b e r f),false⟩) (c+2)∧Ff a s d at_ (turn+1) (meText b e r f) (1-g))∧
 (Keep [d,sb,s] n a)∧
 (l 5=true→Buf a n.heap.size 5 (x 5) (meText b e r f))∧
 SlV l x 0 [some (pr k 0),some (pr k 0),some (pr k 0),some (pr s 0),some (SP b e r f),none,some (.int .i64 0),some (.int .i64 0)]
theorem Jd {w:World}{d sb:Nat}{L:List Sec}{c:Nat}(E:IsDev w d sb L c){k s at_ turn slot:Nat}{b0 e0 r0:Int}{f0:Bool}(hk:IsKep0 w k s d at_ turn slot b0 e0 r0 f0)(b e r:Int)(f:Bool)
  (v:true=Ep b e r f) (hb0:b0≤b) (he0:e0≤e) (hslot:slot≤1) (hat:at_+1<L.length) (hn:turn+1<9223372036854775808) (hc:c+2≤1099511627776):
  Calls Tryz.prog 188 #[pr k 0,SP b e r f] w fun x I=>x=.returned (.int .i64 0)∧
   IsDev I d sb ((L.map flushSec).set (at_+(1-slot)) ⟨Cz (turn+1) (meText b e r f),Cz (turn+1) (meText b e r f),false⟩) (c+2)∧IsKep0 I k s d at_ (turn+1) (1-slot) b e r f∧Keep [d,sb,s,k] w I:=by
 have HQ:=h_ v;have HI:=h_ (JQ v);have ab:=h_ (Jc (f:=f) (JQ v));have p1:decide (b<b0)=false:=Ak (by omega);have p2:decide (e<e0)=false:=Ak (by omega);clear v hb0 he0;obtain⟨g,J⟩:=hk;go_enter Tryz.func188,Tryz.ntmps188;go_wp2_with fail;have Q:=BY w (IP b e r f) 49;have O:=g.alloc (.cells (IP b e r f).toArray 49);have G:=(By [] w).alloc (.cells (IP b e r f).toArray 49);obtain⟨w1,aa⟩:∃W,W=w.alloc (.cells (IP b e r f).toArray 49):=⟨_,rfl⟩;change Code.wp _ _ _ _ (w.alloc (.cells (IP b e r f).toArray 49));rw[←aa]at Q O G⊢;have X:=E.keep G (by simp) (by simp);have Y:=J.keep G (by simp) (by simp);clear aa E J g;generalize w.heap.size=xb at*;refine wI (svD w1 xb k s b e r f b0 e0 r0 f0) ?aS (.s ?a0<|.s ?a1<|.s ?a2<|.s ?a3<|.s ?a4<|.s ?a5<|.s ?a6<|.s ?a7<|.s ?a8<|.s ?a9<|.s ?a10<|.s ?a11<|.s ?a12<|.s ?a13<|.s ?a14<|.s ?a15<|.s ?a16<|.s ?a17<|.s ?a18<|.s ?a19<|.s ?a20<|.s ?a21<|.s ?a22<|.s ?a23<|.n) 24 ?aF
 case aS=>intro x;exact⟨Q.drew,O.drew,(By _ _).drew,Yr⟩
 case aF=>
  intro l x M B F;obtain⟨i,g,j,vS⟩:=B;have S:=vS.a 23 (F 23 (by decide)) rfl;simp only[Al,Act.put,A8,A7,A6,S];have K:=G.trans j;clear S F;have Z:=i;have V:=g;have p:=X.keep j (by simp) (by simp);have C:=Y.keep j (by simp) (by simp);have K3:=K;have R:=h_ (show xb≠d∧xb≠sb∧xb≠s∧k≠d∧k≠sb∧k≠s∧k≠xb∧d<M.heap.size∧sb<M.heap.size∧s<M.heap.size from⟨i.ty.ne p.dev.ty (by decide),i.ty.ne p.secs.ty (by decide),i.ty.ne C.ty (by decide),g.ty.ne p.dev.ty (by decide),g.ty.ne p.secs.ty (by decide),g.ty.ne C.ty (by decide),g.ty.ne i.ty (by decide),p.dev.lt,p.secs.lt,C.lt⟩);clear Q O G j K i g X Y vS;go_wp2_with fail;refine wI (svE0 M xb k s d sb at_ turn slot c L b e r f b0 e0 r0 f0) ?bS (.s ?b0<|.s ?b1<|.s ?b2<|.s ?b3<|.s ?b4<|.s ?b5<|.s ?b6<|.s ?b7<|.n) 8 ?bF
  case bS=>intro x;exact⟨Z.drew,V.drew,fun _=>⟨p.keep ((By [] _).drew) (by simp) (by simp),C.keep ((By [] _).drew) (by simp) (by simp)⟩,fun h=>absurd h (by decide),(By _ _).drew,fun h=>absurd h (by decide),Yr⟩
  case bF=>intro l x w4 B F;obtain⟨i,g,z,A,j,u,vS⟩:=B;have U:=vS.a 7 (F 7 (by decide)) rfl;obtain⟨ad,ae⟩:=A (F 6 (by decide));simp only[Al,Act.put,A8,A7,A6,U];clear u U F z A Z V p C vS;have x0:=i.cell 0;have x1:=i.cell 1;have N:=i.cell 2;have x3:=i.cell 3;have g1:=g.cell 1;have g2:=g.cell 2;have g3:=g.cell 3;have g4:=g.cell 4;have f1:=g.free 1;have f2:=g.free 2;have f3:=g.free 3;have f4:=g.free 4;simp only[IP,List.getElem?_cons_zero,List.getElem?_cons_succ]at x0 x1 N x3 g1 g2 g3 g4;go_wp2;go_ret;have ac:=(((g.set 1 (.int .i64 b)).set 2 (.int .i64 e)).set 3 (.int .i64 r)).set 4 (.bool f);have P:Keep [k] w4 ((((w4.setCell ⟨k,1,none⟩ (.int .i64 b)).setCell ⟨k,2,none⟩ (.int .i64 e)).setCell ⟨k,3,none⟩ (.int .i64 r)).setCell ⟨k,4,none⟩ (.bool f)):=((((By _ _).setCell (.inl (by simp)) _).setCell (.inl (by simp)) _).setCell (.inl (by simp)) _).setCell (.inl (by simp)) _;have ag:=R.out;refine⟨rfl,ad.keep P (by simp;omega) (by simp;omega),⟨ac,ae.keep P (by simp;omega) (by intro y hy;simp at hy;subst hy;exact fun h=>g.ty.ne h (by decide) rfl)⟩, ?_⟩;exact(K3.mono (by simp)).trans ((j.mono (by simp)).trans (P.mono (by simp)))
  all_goals
   intro l x I B hi E;obtain⟨i,g,z,A,j,u,vS⟩:=B;have D:=vS;have t:=E;simp only[SlV]at D
   try simp[BD,Region.binds]at t
   refine Oq.of (by simp only[Al,Act.put,A8,A7,A6,t,D];rfl) ?_;clear t D;intro K' o
  case b3=>have H:=g.cell 0;simp only[List.getElem?_cons_zero]at H;go_simp;exact o.go _ rfl ⟨i,g,z,A,j,u,vS.r⟩
  case b4=>have H:=i.cell 0;have c1:=i.cell 1;have c2:=i.cell 2;have c3:=i.cell 3;simp only[IP,List.getElem?_cons_zero,List.getElem?_cons_succ]at H c1 c2 c3;go_simp;exact o.go _ rfl ⟨i,g,z,A,j,u,vS.r⟩
  case b5=>go_simp;refine(Lx b e r f HI.out).mono ?_;rintro N w2 ⟨v2,rfl,af,m⟩;go_simp;exact o.go v2 rfl ⟨i.keep m (by simp),g.keep m (by simp),fun h=>⟨(z h).1.keep m (by simp) (by simp),(z h).2.keep m (by simp) (by simp)⟩,fun h=>⟨(A h).1.keep m (by simp) (by simp),(A h).2.keep m (by simp) (by simp)⟩,j.trans (m.mono (by simp)),fun _=>af.mono j.size,vS.s rfl⟩
  case b6=>have T:=u (E.at rfl);go_simp;obtain⟨t,J⟩:=z hi;have ag:=R.out;refine(WI t J (x 5) (meText b e r f) T.rd (Iq _ _ _ _) ab.out hslot hat hn hc (fun q v _=>by have:=T.lt q v;omega)).mono ?_;rintro N w2 ⟨rfl,p,C,m⟩;go_simp;exact o.go _ rfl ⟨i.keep m (by simp;omega),g.keep m (by simp;omega),fun h=>Bool.noConfusion (show true=false from h),fun _=>⟨p,C⟩,j.trans m,fun h=>(u h).keep m (fun q v=>by have:=(u h).lt q v;simp;omega),vS.r⟩
  all_goals go_simp;exact o.go _ rfl ⟨i,g,z,A,j,u,vS.r⟩
 all_goals
  intro l x I B hi E;obtain⟨i,g,j,vS⟩:=B;have D:=vS;have t:=E;simp only[SlV]at D
  try simp[BD,Region.binds]at t
  refine Oq.of (by simp only[Al,Act.put,A8,A7,A6,t,D];rfl) ?_;clear t D;intro K' o
 case a0=>have H:=i.cell 0;have c1:=i.cell 1;have c2:=i.cell 2;have c3:=i.cell 3;simp only[IP,List.getElem?_cons_zero,List.getElem?_cons_succ]at H c1 c2 c3;go_simp;exact o.go _ rfl ⟨i,g,j,vS.r⟩
 case a1=>go_simp;refine(MT b e r f _ HQ.out).mono ?_;rintro N w2 ⟨rfl,m⟩;go_simp;exact o.go _ rfl ⟨i.keep m (by simp),g.keep m (by simp),j.trans m,vS.r⟩
 case a5=>have c:=i.cell 0;simp only[IP,List.getElem?_cons_zero,List.getElem?_cons_succ]at c;go_simp;exact o.go _ rfl ⟨i,g,j,vS.r⟩
 case a10=>have c:=g.cell 1;simp only[List.getElem?_cons_zero,List.getElem?_cons_succ]at c;go_simp;exact o.go _ rfl ⟨i,g,j,vS.r⟩
 case a15=>have c:=i.cell 1;simp only[IP,List.getElem?_cons_zero,List.getElem?_cons_succ]at c;go_simp;exact o.go _ rfl ⟨i,g,j,vS.r⟩
 case a20=>have c:=g.cell 2;simp only[List.getElem?_cons_zero,List.getElem?_cons_succ]at c;go_simp;exact o.go _ rfl ⟨i,g,j,vS.r⟩
 all_goals go_simp;exact o.go _ rfl ⟨i,g,j,vS.r⟩
end Go.Proofs.YtnhbioehiiifdaaGreat
