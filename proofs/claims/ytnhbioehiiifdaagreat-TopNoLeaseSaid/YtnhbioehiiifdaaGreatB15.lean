import Derived.Test.YtnhbioehiiifdaaGreatA11
import Derived.Test.YtnhbioehiiifdaaGreatB09
import Derived.Test.YtnhbioehiiifdaaGreatB11
import Derived.Test.YtnhbioehiiifdaaGreatB12
set_option maxRecDepth 100000
set_option maxHeartbeats 16000000
set_option linter.all false
namespace Go.Proofs.YtnhbioehiiifdaaGreat
open Go.ChangeShapes Go.WideShapes Go.ChangeAt Go.RowKit
theorem Hd {w:World}{base a:Nat}{T:TypeId}{k n:Nat}{v:Value}{xs:List Value}(h:w.ownsRow base T k v n xs)(c:a≤base):w.ownsRow a T k v n xs:=by
 refine⟨h.1, ?_⟩;rcases h.2 with⟨rfl,e⟩|⟨g,cap,b,rfl,d,r⟩
 ·exact .inl ⟨rfl,e⟩
 ·exact .inr ⟨g,cap,b,rfl,AJ c d,r⟩
theorem Hh {α β:Type}(f:α→β):∀(l:List α) (i:Nat),(l.eraseIdx i).map f=(l.map f).eraseIdx i
 |[],i=>by simp
 |a::l,0=>rfl
 |a::l,i+1=>by simp only[List.eraseIdx_cons_succ,Br];rw[Hh f l i]
def wmMs (m:Wm):Ms:=⟨m.kind,m.src,m.dst,m.epoch,m.tick,m.seq,m.n,m.id,m.op,m.key,m.err,m.last,(m.it.1,m.it.2.1,0,m.it.2.2),m.its.map (fun p=>(p.1,p.2,0,false)),m.mks.map (fun p=>((p.1:Int),p.2)),m.mem.map Int.ofNat,m.base,m.old.map Int.ofNat⟩
def AF (a t:Nat):As:=⟨fun F w=>F=[a]∧IsClock w a (t:Int),fun⟨hF,h⟩ k c=>⟨hF,h.keep k (fun d=>c a d (by rw[hF];simp))⟩,fun⟨hF,h⟩ q b=>by rw[hF]at b;simp at b;subst b;exact h.blk.lt⟩
def Gs (y:Tm):As:=⟨fun F w=>MqOk w F y∧∀q∈F,q<w.heap.size,fun⟨h,a⟩ k b=>⟨h.keep k b,fun q c=>AW (a q c) k.size⟩,fun⟨_,a⟩=>a⟩
def WS (L:List Tm):As:=⟨fun F w=>(∀y∈L,MqOk w F y)∧∀q∈F,q<w.heap.size,fun⟨h,a⟩ k b=>⟨fun y d=>(h y d).keep k b,fun q c=>AW (a q c) k.size⟩,fun⟨_,a⟩=>a⟩
def Dp (mv:Value)(M:List Wm):As:=As.ex fun L:List Tm=>As.and (L.map (·.m)=M.map wmMs) (ED [BF 175 21 mv L.length (tc L),WS L])
def CI (p:Nat)(L:List Wm):As:=⟨fun F w=>∃v I a,F=He p v I∧NetAt w p v I a∧a.map (·.m)=L.map wmMs,
 fun⟨v,I,a,hF,h,e⟩ k c=>⟨v,I,a,hF,h.keep k (fun q b d=>c q b (hF▸d)),e⟩,fun⟨v,I,a,hF,h,e⟩ q b=>h.ltF q (hF▸b)⟩
def FI (p now:Nat)(org:List (Str×Se)):As:=⟨fun F w=>∃g n R f,F=WR p g R∧OrAt w p g n now R org f∧n≤now∧org.length≤now,
 fun⟨g,n,R,f,hF,h,e⟩ k b=>⟨g,n,R,f,hF,h.keep k (fun q a c=>b q a (hF▸c)),e⟩,fun⟨g,n,R,f,hF,h,e⟩ q a=>by
  rw[hF]at a;simp only[WR,Ac]at a;rcases a with rfl|rfl|a
  ·exact h.blk.lt
  ·exact h.map.lt
  ·exact h.lt q a⟩
def F9 (p:Nat)(L:List Call):As:=⟨fun F w=>∃v:Value,F=p::v.ownBlock.toList∧ClAt w p v L,
 fun⟨v,hF,h⟩ k b=>⟨v,hF,ClAt.keep (v:=v) h k (fun q a c=>b q a (by rw[hF];exact c))⟩,fun⟨v,hF,h⟩ q a=>by
  rw[hF]at a;rcases Ac.1 a with rfl|a
  ·exact h.blk.lt
  ·exact(B3 h.own q (by simpa using a)).2⟩
def Yj (le b ep c f:Nat):As:=⟨fun F w=>F=[le]∧IsLease w le b (ep:Int) (c:Int) (f:Int),fun⟨hF,h⟩ k d=>⟨hF,h.keep k (fun e=>d le e (by rw[hF];simp))⟩,fun⟨hF,h⟩ q a=>by rw[hF]at a;simp at a;subst a;exact h.blk.lt⟩
structure Wm.Ok (m:Wm):Prop where
 may:mayM (wmMs m)=true
 sz:MsSz (wmMs m)
 small:m.mem.length≤1000∧m.old.length≤1000
section
variable {R:List As} {w:World} {p now:Nat} {L M:List Wm} {mv:Value} {org:List (Str×Se)} {C:List Call}
theorem Sp.clock {a t:Nat}(h:Sp (AF a t::R) w):IsClock w a (t:Int):=by obtain⟨F,hF,_⟩:=h.one;exact hF.2
theorem FP {a t:Nat}(h:Sp (AF a t::R) w)(i:t<1099511627776):Calls Tryz.prog 87 #[pr a 0,.slice none 0 0] w fun e b=>e=.returned (.int .i64 ((t+1:Nat):Int))∧Sp (AF a (t+1)::R) b:=by obtain⟨F,⟨hF,c⟩,g⟩:=h.one;refine(Ts none 0 c ((t+1:Nat):Int) (by simp[I4,Sv];omega)).mono ?_;rintro e b ⟨rfl,d,k⟩;exact⟨rfl,g _ _ F ⟨hF,d⟩ (hF▸k) (fun q f=> .inl f)⟩
theorem TW (h:Sp R w):Calls Tryz.prog 64 #[] w fun e a=>∃p,e=.returned (pr p 0)∧Sp (CI p []::R) a:=by
 refine Ro.mono ?_;rintro e a ⟨p,rfl,b,k,d⟩
 exact⟨p,rfl,h.new1 (G:=He p (.slice none 0 0) []) k ⟨_,_,_,rfl,b,rfl⟩ (fun q c=>by simp[He,Value.ownBlock]at c;omega)⟩
theorem TX (h:Sp (CI p L::R) w):Calls Tryz.prog 35 #[pr p 0] w fun e f=>e=.returned (.int .i64 (L.length:Int))∧f=w:=by
 obtain⟨F,⟨v,I,a,hF,b,c⟩,g⟩:=h.one;have d:L.length=a.length:=by have:=A3 List.length c;simpa using this.symm
 rw[d];exact Jb b
theorem Rq (h:Sp (CI p L::R) w)(i:Nat)(m:Wm)(n:L[i]?=some m):Calls Tryz.prog 92 #[pr p 0,.int .i64 (i:Int)] w fun e d=>∃y:Tm,e=.returned (.tuple #[.agg (Cm y).toArray,.bool true])∧y.m=wmMs m∧Sp (Gs y::CI p L::R) d:=by
 obtain⟨F,⟨v,I,g,hF,j,l⟩,u⟩:=h.one;have b:(g.map (·.m))[i]?=(L.map wmMs)[i]?:=by rw[l]
 rw[AN,AN,n]at b;obtain⟨y,r,s⟩:=Gg.1 b;refine(Pm j i y r).mono ?_;rintro e d ⟨t,f,rfl,o,a,c,k⟩;exact⟨t,rfl,o.trans s,h.new1 (G:=f) k ⟨a,fun q a=>(c q a).2⟩ (fun q a=>(c q a).1)⟩
theorem Rr (h:Sp (CI p L::R) w)(i:Nat)(m:i<L.length):Calls Tryz.prog 93 #[pr p 0,.int .i64 (i:Int)] w fun e c=>e=.returned (.bool true)∧Sp (CI p (L.eraseIdx i)::R) c:=by
 obtain⟨F,⟨v,I,d,hF,f,b⟩,j⟩:=h.one;have n:L.length=d.length:=by have:=A3 List.length b;simpa using this.symm
 refine(Pn f i (by omega)).mono ?_;rintro e c ⟨v',rfl,g,k,l⟩;refine⟨rfl,j _ _ (He p v' I) ⟨v',I,_,rfl,g, ?_⟩ (k.mono (fun q a _=> ?_)) (fun q a=> .inl ?_)⟩
 ·rw[Hh,b,Hh]
 ·rw[hF]
  rcases Ac.1 a with rfl|a
  ·simp[He]
  ·simp only[He,Ac,Ag];exact .inr (.inl a)
 ·rw[hF]
  simp only[He,Ac,Ag]at a⊢;rcases a with a|a|a
  ·exact .inl a
  ·exact .inr (.inl (Ae.2 (l q (Ae.1 a))))
  ·exact .inr (.inr a)
theorem Ja (h:Sp (CI p L::Dp mv M::R) w)(l:∀m∈M,m.Ok)(Z:L.length+M.length≤300):Calls Tryz.prog 88 #[pr p 0,mv] w fun e A=>e=.returned (.int .i64 (M.length:Int))∧Sp (CI p (L++M)::R) A:=by
 obtain⟨t,T,⟨v,I,B,hF,G,x⟩,⟨i,n,U,V,j,⟨D,P⟩,⟨W,_,rfl,⟨O,N⟩,rfl,_⟩,Y⟩,o,Q⟩:=h.two;have aa:L.length=B.length:=by have:=A3 List.length x;simpa using this.symm
 have K:M.length=i.length:=by have:=A3 List.length n;simpa using this.symm
 have z:∀y∈i,∃m∈M,y.m=wmMs m:=fun y f=>by have c:y.m∈i.map (·.m):=AI.2 ⟨y,f,rfl⟩;rw[n]at c;obtain⟨m,d,e⟩:=AI.1 c;exact⟨m,d,e.symm⟩
 have r:p∈t:=by rw[hF];simp[He]
 have g:∀q,v.ownBlock=some q→q∈t:=fun q a=>by rw[hF];simp only[He,Ac,Ag];exact .inr (.inl (Ae.2 a))
 rw[K];refine(Ke G P O (fun y f=> ?_) (fun y f=> ?_) (by omega) (fun b J s=> ?_) (fun q a=>⟨?_, ?_,N q a⟩)).mono ?_
 ·obtain⟨m,d,e⟩:=z y f
  rw[e];have:=(l m d).small;simpa[wmMs]using this
 ·obtain⟨m,d,e⟩:=z y f
  rw[e];exact⟨(l m d).may,(l m d).sz⟩
 ·exact o b (g b s) (by rw[j,D,J];simp)
 ·rintro rfl
  exact o q r (by rw[j];simp[a])
 ·intro s
  exact o q (g q s) (by rw[j];simp[a])
 ·rintro e A ⟨v',u,X,rfl,H,F,k,S,E⟩
  refine⟨rfl,Q [CI p (L++M)] _ (He p v' u) ⟨_,[],(AE _).symm,⟨v',u,_,rfl,H, ?_⟩,rfl,by simp⟩ (k.mono (fun q a _=> ?_)) (fun q a=> ?_)⟩
  ·rw[AL,AL,x,F,n]
  ·rw[Ag];left
   rcases Ac.1 a with rfl|a
   ·exact r
   ·exact g q (Ae.1 a)
  ·simp only[He,Ac,Ag]at a
   rcases a with rfl|a|a
   ·exact .inl (A2 _ r)
   ·rcases S q (Ae.1 a)with c|c
    ·exact .inl (A2 _ (g q c))
    ·exact .inr c
   ·rcases E q a with c|c
    ·exact .inl (A2 _ (by rw[hF];simp only[He,Ac,Ag];exact .inr (.inr c)))
    ·exact .inr c
theorem V7 (h:Sp R w):Calls Tryz.prog 65 #[] w fun e a=>∃p,e=.returned (pr p 0)∧Sp (FI p 0 []::R) a:=by
 refine TR.mono ?_;rintro e a ⟨p,g,rfl,b,k,f,d⟩
 exact⟨p,rfl,h.new1 (G:=WR p g []) k ⟨g,0,[],_,rfl,b,Av _,Av _⟩ (fun q c=>by simp[WR]at c;omega)⟩
theorem Lq (h:Sp (FI p now org::R) w):Calls Tryz.prog 98 #[pr p 0] w fun e b=>e=.returned (.int .i64 (now:Int))∧b=w:=by obtain⟨F,⟨g,n,c,f,hF,a,_⟩,d⟩:=h.one;exact MO a
theorem V8 (h:Sp (FI p now org::R) w)(key:Str)(c:key.size≤1000):Calls Tryz.prog 94 #[pr p 0,.string key] w fun e a=>
  e=.returned (.tuple #[.string (Hz (setsOf org key) now).1,.bool (Hz (setsOf org key) now).2])∧Sp (FI p now org::R) a:=by
 obtain⟨F,⟨g,n,d,f,hF,b,_⟩,i⟩:=h.one;refine(TT b key c).mono ?_;rintro e a ⟨rfl,k⟩;exact⟨rfl,h.still k⟩
theorem V6 (h:Sp (FI p now org::R) w)(x:now<100000)(key val:Str)(r:key.size≤1000)(t:val.size≤1000)(b:Bool):Calls Tryz.prog 72 #[pr p 0,.string key,.string val,.bool b] w fun e i=>
  e=.returned (.int .i64 ((now+1:Nat):Int))∧Sp (FI p (now+1) (org++[(key,now+1,(if b=true then val else se),b)])::R) i:=by
 obtain⟨F,⟨g,n,u,f,hF,l,v⟩,s⟩:=h.one;refine(TQ l (by omega) key val r t b).mono ?_;rintro e i ⟨d,j,rfl,m,k,o⟩;refine⟨rfl,s _ _ (WR p g d) ⟨g,n+1,d,j,rfl,m,by omega,by rw[Aj,List.length_singleton];omega⟩ (hF▸k) (fun q a=> ?_)⟩;rw[hF];simp only[WR,Ac]at a⊢;rcases a with a|a|a
 ·exact .inl (.inl a)
 ·exact .inl (.inr (.inl a))
 ·rcases o q a with c|c
  ·exact .inl (.inr (.inr c))
  ·exact .inr c
theorem TS (h:Sp (FI p now org::R) w)(key val:Str)(l:key.size≤1000)(c:Bool)(b a:Nat)(j:b≤a)(m:a≤now):Calls Tryz.prog 31 #[pr p 0,.string key,.string val,.bool c,.int .i64 (b:Int),.int .i64 (a:Int)] w fun e d=>
  e=.returned (.bool (heldB (setsOf org key) val c b a))∧Sp (FI p now org::R) d:=by
 obtain⟨F,⟨g,n,o,f,hF,i,_⟩,q⟩:=h.one;refine(Rk i key val l c b a j m).mono ?_;rintro e d ⟨rfl,k⟩;exact⟨rfl,h.still k⟩
theorem Wy (h:Sp R w):Calls Tryz.prog 66 #[] w fun e a=>∃p,e=.returned (pr p 0)∧Sp (F9 p []::R) a:=by refine U2.mono ?_;rintro e a ⟨p,rfl,b,k,c⟩;exact⟨p,rfl,h.new1 (G:=[p]) k ⟨_,rfl,b⟩ (by simpa using c)⟩
theorem Qv (h:Sp (F9 p C::R) w):Calls Tryz.prog 29 #[pr p 0] w fun e b=>∃v',e=.returned v'∧Sp (BF 87 13 v' C.length (rows caC C)::F9 p C::R) b:=by obtain⟨F,⟨v,hF,c⟩,f⟩:=h.one;refine(Nk c).mono ?_;rintro e b ⟨v',rfl,a,k⟩;exact⟨v',rfl,h.new1 (G:=v'.ownBlock.toList) k ⟨rfl,Hd a (AA _)⟩ (fun q d=>(B3 a q (Ae.1 d)).1)⟩
theorem RW (h:Sp (F9 p C::R) w)(i:C.length<10000)(op:Nat)(key:Str)(a pos:Nat)(j:op≤1000∧a≤1000∧pos≤1000000):
  Calls Tryz.prog 97 #[pr p 0,.int .i64 (op:Int),.string key,.int .i64 (a:Int),.int .i64 (pos:Int)] w fun e d=>e=.returned (.int .i64 ((C.length+1:Nat):Int))∧Sp (F9 p (C++[Ml (C.length+1) op key a pos])::R) d:=by
 obtain⟨F,⟨v,hF,f⟩,l⟩:=h.one;refine(Qu f i op key a pos j).mono ?_;rintro e d ⟨v',rfl,g,k,m⟩;refine⟨rfl,l _ _ (p::v'.ownBlock.toList) ⟨v',rfl,g⟩ (hF▸k) (fun q c=> ?_)⟩;rw[hF];rcases Ac.1 c with rfl|c
 ·exact .inl (Bx ..)
 ·rcases m q (Ae.1 c)with b|b
  ·exact .inl (Ap _ (Ae.2 b))
  ·exact .inr b
theorem W4 (h:Sp (F9 p C::R) w)(r:Rp)(pos i:Nat)(l:r.id=i+1)(c:Call)(g:C[i]?=some c)(j:c.done=false)(n:c.op=r.op)(m:c.key=r.key):
  Calls Tryz.prog 120 #[pr p 0,.agg (rpC r).toArray,.int .i64 (pos:Int)] w fun e b=>e=.returned (.bool true)∧Sp (F9 p (C.set i (Qw c pos r))::R) b:=by
 obtain⟨F,⟨v,hF,d⟩,o⟩:=h.one;refine(U3 d r pos i l c g j n m).mono ?_;rintro e b ⟨rfl,f,k⟩;exact⟨rfl,o _ _ F ⟨v,hF,f⟩ (k.mono (fun q a _=>by rw[hF];exact Ap _ a)) (fun q a=> .inl a)⟩
end
theorem KB {w:World}{c kb s g:Nat}{t:Ct}{P T S O:Value}(h:CtB w c kb s g t P T S O)(m:Ms)(b f j i:Value)(u:MsRd w m b f j i)(y:MsSz m)(D:mayM m=true)(A:m.dst=0)(C:m.kind=1)(Q:Ending→World→Prop)
  (z:∀G,Keep [] w G→Calls Tryz.prog 141 #[pr c 0,Yi m b f j i] G fun e w'=>∃v,e=.returned v∧Q e w'):
  Calls Tryz.prog 106 #[pr c 0,Yi m b f j i] w Q:=by
 have X:(m.dst !=0)=false:=by simp[A]
 have Y:(m.kind==1)=true:=by simp[C]
 have k:=BY w (CZ m b f j i) 175;have q:=(By [] w).alloc (.cells (CZ m b f j i).toArray 175);have F:=u.alloc (.cells (CZ m b f j i).toArray 175);obtain⟨J,H,n⟩:=i_3 y D.symm z;clear D y A C z;go_enter Tryz.func106,Tryz.ntmps106;go_upto_region 1 with fail;clear h u;generalize V:w.heap.size=mb at*;generalize w.alloc (.cells (CZ m b f j i).toArray 175)=w0 at*;have N:=Yg k
 go_wp2_with (refine BA 175 _ rfl mb rfl 175 (CZ m b f j i).toArray (0,0) _ k AV rfl C4 (by rfl) ?_)
 refine(JP m b f j i F J.out true H.out).mono ?_;rintro e U ⟨rfl,l⟩;have r:=k.keep l (by simp);have K:=q.trans l;clear k F q l N;have W:=Yh r;have I:=h_ (n.out U K);clear n
 go_wp2_with (refine BA 175 _ rfl mb rfl 175 (CZ m b f j i).toArray (0,0) _ r AV rfl C4 (by rfl) ?_)
 refine I.out.mono ?_;rintro e Z ⟨v,rfl,E⟩;have o:=h_ E;clear E;go_wp2_with fail
 first|exact o.out|(go_ret;exact o.out)
theorem Xx {m:Wm}(h:mayM (wmMs m)=true):m.src≤5∧m.dst≤5:=by
 unfold mayM at h;simp only[Ar]at h;have b:Gb (wmMs m)=true:=by first|exact h.1|exact h.1.1|exact h.1.1.1
 unfold Gb QG at b;simp only[Ar,A0,List.all_cons,List.all_nil,wmMs]at b;omega
def auCt (a:Au):Ct:=⟨(a.epoch:Int),(a.top:Int),a.mem.map Int.ofNat,(a.num:Int),(a.phase:Int),a.dest.map Int.ofNat,a.nodes.map Int.ofNat,(a.lost:Int),a.done.map Int.ofNat⟩
structure CtP where
 c:Nat
 kb:Nat
 d:Nat
def CtD0 (w:World)(d sb s:Nat)(T:List Nat)(B:Nat):Prop:=
 ∃L k turn b,IsDev w d sb L k∧Ff w s d 0 turn T b∧Pair L 0 b turn T∧b≤1∧0<turn∧turn≤B∧k≤2*B+5
theorem CtD.weak {w:World}{d sb s:Nat}{T:List Nat}{B:Nat}(h:CtD w d sb s T B):CtD0 w d sb s T B:=by obtain⟨L,k,turn,e,a,b,c⟩:=h;exact⟨L,k,turn,e,a,b.weak,c⟩
theorem CtD0.keep {w w':World}{d sb s:Nat}{T:List Nat}{B:Nat}{S:List Nat}(h:CtD0 w d sb s T B)(k:Keep S w w')(e:d∉S)(f:sb∉S)(g:s∉S):CtD0 w' d sb s T B:=by obtain⟨L,n,turn,i,a,b,c⟩:=h;exact⟨L,n,turn,i,a.keep k e f,b.keep' k g,c⟩
structure CtOk (w:World) (x:CtP) (a:Au) (B s g sb:Nat) (vm vt vn vd:Value) (base n:Nat) (f:Int→Option Int):Prop where
 ct:CtB w x.c x.kb s g (auCt a) vm vt vn vd
 rows:CtR w (auCt a) vm vt vn vd base
 base_:base≤w.heap.size
 dev:CtD0 w x.d sb s (stT (a.epoch:Int) (a.top:Int) (a.mem.map Int.ofNat)) (2*a.top)
 gr:Gr w g n f
 few:n≤B
 rel:∀i:Nat,f (i:Int)=(a.gr.find? (fun p=>decide (p.1=i))).map (fun p=>(p.2:Int))
def Qf (x:CtP)(s g sb:Nat)(e h f b:Value):List Nat:=x.c::s::g::x.d::sb::(e.ownBlock.toList++(h.ownBlock.toList++(f.ownBlock.toList++b.ownBlock.toList)))
theorem CtR.keepF {w w':World}{t:Ct}{i l j g:Value}{base:Nat}{S:List Nat}(h:CtR w t i l j g base)(k:Keep S w w')(f:∀q∈S,q∉i.ownBlock.toList++(l.ownBlock.toList++(j.ownBlock.toList++g.ownBlock.toList))):CtR w' t i l j g base:=
 ⟨h.mem.keep k (fun b c e=>f b e (by simp[c])),h.dest.keep k (fun b c e=>f b e (by simp[c])),h.nodes.keep k (fun b c e=>f b e (by simp[c])),h.done.keep k (fun b c e=>f b e (by simp[c])),h.l1,h.l2,h.l3,h.memn,h.ton,h.nodesn,h.donen⟩
theorem CtOk.keep {w w':World}{x:CtP}{a:Au}{B s g sb base n:Nat}{i l j e:Value}{f:Int→Option Int}{S:List Nat}(h:CtOk w x a B s g sb i l j e base n f)(k:Keep S w w')(c:∀q∈S,q∉Qf x s g sb i l j e):CtOk w' x a B s g sb i l j e base n f:=
 ⟨h.ct.keep k (fun b=>c _ b (by simp[Qf])),h.rows.keepF k (fun q m b=>c q m (by simp only[Qf,Ac];simp[b])),AJ h.base_ k.size,h.dev.keep k (fun b=>c _ b (by simp[Qf])) (fun b=>c _ b (by simp[Qf])) (fun b=>c _ b (by simp[Qf])),h.gr.keep k (fun b=>c _ b (by simp[Qf])),h.few,h.rel⟩
theorem CtOk.lt {w:World}{x:CtP}{a:Au}{B s g sb base n:Nat}{i l j e:Value}{f:Int→Option Int}(h:CtOk w x a B s g sb i l j e base n f):∀q∈Qf x s g sb i l j e,q<w.heap.size:=by
 intro q b;obtain⟨L,k,turn,o,c,m,_⟩:=h.dev;simp only[Qf,Ac,Ag]at b;rcases b with rfl|rfl|rfl|rfl|rfl|b|b|b|b
 ·exact Blk.lt h.ct
 ·exact m.lt
 ·exact h.gr.lt
 ·exact c.dev.lt
 ·exact c.secs.lt
 ·exact(h.rows.mem.lt q (Ae.1 b)).2
 ·exact(h.rows.dest.lt q (Ae.1 b)).2
 ·exact(h.rows.nodes.lt q (Ae.1 b)).2
 ·exact(h.rows.done.lt q (Ae.1 b)).2
def Ni (x:CtP)(a:Au)(B:Nat):As:=⟨fun F w=>∃(s g sb:Nat) (c i e b:Value) (base n:Nat) (f:Int→Option Int),F=Qf x s g sb c i e b∧CtOk w x a B s g sb c i e b base n f,
 fun⟨s,g,sb,c,i,e,b,base,n,f,hF,h⟩ k j=>⟨s,g,sb,c,i,e,b,base,n,f,hF,h.keep k (hF▸j)⟩,fun⟨s,g,sb,c,i,e,b,base,n,f,hF,h⟩=>hF▸h.lt⟩
def Qc (d i:Nat):As:=⟨fun F w=>∃(sb:Nat) (L:List Sec) (c:Nat),F=[d,sb]∧IsDev w d sb L c∧L.length=i∧c≤2,
 fun⟨sb,L,c,hF,h,e⟩ k g=>⟨sb,L,c,hF,h.keep k (fun b=>g _ b (by rw[hF];simp)) (fun b=>g _ b (by rw[hF];simp)),e⟩,fun⟨sb,L,c,hF,h,e⟩ q f=>by
  rw[hF]at f;simp only[Ac,Am,AG]at f;rcases f with rfl|rfl
  ·exact h.dev.lt
  ·exact h.secs.lt⟩
def Au.new (mem:List Nat):Au:=⟨1,1,mem,0,0,[],[],0,[],[]⟩
section
variable {R:List As} {w w':World} {x:CtP} {a:Au} {B t p d:Nat} {L M:List Wm}
theorem XC (h:Sp (Qc d 2::R) w)(l:Value)(mem:List Nat)(C:Rv w 1 l (mem.map Int.ofNat).length (ints (mem.map Int.ofNat)))(D:nodesOk (mem.map Int.ofNat)=true):Calls Tryz.prog 67 #[pr d 0,l] w fun e w'=>∃c kb,e=.returned (.tuple #[pr c 0,.int .i64 0])∧
  w'.cell? ⟨c,0,none⟩=some (pr kb 0)∧Sp (Ni ⟨c,kb,d⟩ (Au.new mem) 0::AF kb 0::R) w':=by
 obtain⟨F,⟨sb,L,k,rfl,A,N,K⟩,E⟩:=h.step;refine(WK (B:=2) A (by omega) (by omega) (by decide) l _ C D).mono ?_;rintro e w' ⟨c,kb,s,g,m,rfl,j,r,n,o,b,H,Q,S,T,U,V,I⟩;have y:w'.cell? ⟨c,0,none⟩=some (pr kb 0):=Blk.cell j 0
 have z:∀q∈Qf ⟨c,kb,d⟩ s g sb m (.slice none 0 0) (.slice none 0 0) (.slice none 0 0),q∉ [kb]:=fun q f v=>by
  rw[Ah]at v;subst v;simp only[Qf,Ac,Ag]at f;obtain⟨J,O,turn,P,u,G,_⟩:=n;rcases f with e|e|e|e|e|e|e|e|e
  ·exact b.blk.ty.ne (Blk.ty j) (by decide) e
  ·exact b.blk.ty.ne G.weak.ty (by decide) e
  ·exact o.ne b.blk.ty e
  ·exact b.blk.ty.ne u.dev.ty (by decide) e
  ·exact b.blk.ty.ne u.secs.ty (by decide) e
  ·exact b.blk.ty.ne (r.mem.ty _ (Ae.1 e)) (by decide) rfl
  ·cases e
  ·cases e
  ·cases e
 refine⟨c,kb,rfl,y,E [Ni ⟨c,kb,d⟩ (Au.new mem) 0,AF kb 0] w' (Qf ⟨c,kb,d⟩ s g sb m (.slice none 0 0) (.slice none 0 0) (.slice none 0 0)++[kb])
  ⟨_,_,rfl,⟨s,g,sb,m,.slice none 0 0,.slice none 0 0,.slice none 0 0,w'.heap.size,0,_,rfl,⟨j,r,Av _,n.weak,o,Av _,fun i=>rfl⟩⟩,⟨[kb],[],rfl,⟨rfl,b⟩,rfl,by simp⟩,z⟩ H (fun q f=> ?_)⟩
 simp only[Qf,Ag,Ac,Am,AG]at f⊢;rcases f with(e|e|e|e|e|e|e|e|e)|e
 ·right;omega
 ·right;omega
 ·right;omega
 ·left;left;exact e
 ·left;right;exact e
 ·right;exact I q (Ae.1 e)
 ·cases e
 ·cases e
 ·cases e
 ·right;omega
theorem Od (h:Sp (Ni x a B::R) w)(i:a.num=0):Calls Tryz.prog 89 #[pr x.c 0] w fun e w'=>e=.returned (.slice none 0 0)∧w'=w:=by obtain⟨F,⟨s,g,sb,l,o,m,k,base,n,f,rfl,b⟩,j⟩:=h.one;exact Wa (UP b.ct (by show(a.num:Int)=0;omega))
theorem Wr {y:Tm}{m:Wm}(h:Sp (Ni x a B::AF x.kb t::Gs y::R) w)(l:y.m=wmMs m)(A:m.Ok)(hd:m.dst=0)(hk:m.kind=1)(b:m.seq=0)(G:a.mem.contains m.src=true)(hl:m.src≠a.lost)(hB:B≤1000000):
  Calls Tryz.prog 106 #[pr x.c 0,.agg (Cm y).toArray] w fun e w'=>∃v o,e=.returned v∧(∀z∈o,TmOk w' z)∧o.map (·.m)=(a.renew t m).2.map wmMs∧
   Sp (BF 175 21 v o.length (tc o)::Ni x (a.renew t m).1 (B+1)::AF x.kb t::Gs y::R) w':=by
 have aj:a.renew t m=({a with gr:=Au.setGr a.gr m.src t},[a.member 2 m.src m.tick]):=by
  unfold Au.renew;have P:¬(a.epoch<m.seq∧m.seq≠a.num):=by omega
  rw[Aw P,Ay (by rw[G];simp[hl])];rfl
 rw[aj];have ae:=(h.pull 1).clock
 obtain⟨Fy,ai⟩:∃F,MqOk w F y:=by obtain⟨F,hF,_⟩:=(h.pull 2).one;exact⟨F,hF.1⟩
 have Q:(m.src:Int)∈a.mem.map Int.ofNat:=AI.2 ⟨m.src,by simpa using G,rfl⟩;have am:=A.small;obtain⟨F,⟨s,g,sb,J,N,K,I,base,n,f,rfl,r⟩,hs⟩:=h.step
 have an:m.src≤5:=by have ag:=A.may;have:=AI.2 ⟨m.src,(by simpa using G:m.src∈a.mem),(rfl:Int.ofNat m.src=(m.src:Int))⟩;have Z:=r.rows.memn;exact(Xx ag).1
 have ah:0<(auCt a).mem.length :=by show 0<(a.mem.map Int.ofNat).length;exact List.length_pos_of_mem Q
 rw[show(Value.agg (Cm y).toArray)=Yi y.m (.slice none 0 0) (.slice none 0 0) y.vm y.vo from rfl];refine KB r.ct y.m _ _ _ _ ai.rd (by rw[l];exact A.sz) (by rw[l];exact A.may) (by rw[l];show(m.dst:Int)=0;omega) (by rw[l];show(m.kind:Int)=1;omega) _ (fun w2 C=> ?_);have j:=r.keep C (by simp);refine(OO j.ct j.rows j.gr (ae.keep C (by simp)) y.m _ _ _ _ (by rw[l];show(m.seq:Int)≤(a.epoch:Int);omega) (by rw[l];exact Q) (by rw[l];show(m.src:Int)≠(a.lost:Int);omega) (by rw[l];show II (m.src:Int);unfold II;omega) ah (by have:=j.few;unfold maxLen;omega)).mono ?_;rintro e w' ⟨v,o,rfl,D,ac,aa,ad,ab,ak,T⟩;refine⟨_,rfl,v,o,rfl,D.ok, ?_, ?_⟩
 ·rw[ac,l]
  rfl
 ·have V:Keep (Qf x s g sb J N K I) w w':=(C.mono (by simp)).trans (T.mono (fun q b _=>by rw[Ah]at b;subst b;simp[Qf]))
  have S:=D.lt;have af:=r.lt;have al:=C.size
  refine hs [BF 175 21 v o.length (tc o),Ni x {a with gr:=Au.setGr a.gr m.src t} (B+1)] w' (v.ownBlock.toList++Qf x s g sb J N K I)
   ⟨_,_,rfl,⟨rfl,Hd D.own (AA _)⟩,⟨_,[],(AE _).symm,⟨s,g,sb,J,N,K,I,base,n+1,_,rfl,⟨aa,ad,AJ r.base_ V.size,j.dev.keep T ?_ ?_ ?_,ab,by have:=r.few;omega,fun i=> ?_⟩⟩,rfl,by simp⟩,fun q b k=> ?_⟩ V (fun q b=> ?_)
  ·intro k
   rw[Ah]at k;obtain⟨O,U,turn,W,u,H,_⟩:=j.dev;exact j.gr.ne u.dev.ty k
  ·intro k
   rw[Ah]at k;obtain⟨O,U,turn,W,u,H,_⟩:=j.dev;exact j.gr.ne u.secs.ty k
  ·intro k
   rw[Ah]at k;obtain⟨O,U,turn,W,u,H,_⟩:=j.dev;exact j.gr.ne H.ty k
  ·rw[l]
   show(if(i:Int)=(m.src:Int)then some (t:Int)else f (i:Int))=_;unfold Au.setGr;rw[List.find?_cons];by_cases E:i=m.src
   ·subst E;simp
   ·have X:¬((i:Int)=(m.src:Int)):=by omega
    rw[Aw X,r.rel i];have Y:decide (m.src=i)=false:=Ak (fun e=>E e.symm);simp only[Y];rw[List.find?_filter]
    congr 1
    congr 1
    funext q
    by_cases b:q.1=i
    ·simp[b,E]
    ·simp[b]
  ·have P:=(S q (Ae.1 b)).1
   have Z:=af q k;omega
  ·rcases Ag.1 b with b|b
   ·right
    have:=(S q (Ae.1 b)).1;omega
   ·exact .inl b
theorem NK {Q:Value}{i:List Tm}(h:Sp (CI p L::BF 175 21 Q i.length (tc i)::R) w)(u:∀z∈i,TmOk w z)(r:i.map (·.m)=M.map wmMs) (A:∀m∈M,m.Ok) (N:L.length+M.length≤300):
  Calls Tryz.prog 88 #[pr p 0,Q] w fun e w'=>e=.returned (.int .i64 (M.length:Int))∧Sp (CI p (L++M)::R) w':=by
 obtain⟨E,F2,⟨v,I,S,hF,s,K⟩,⟨T,Z⟩,X,hs⟩:=h.two;have ab:L.length=S.length:=by have:=A3 List.length K;simpa using this.symm
 have Y:M.length=i.length:=by have:=A3 List.length r;simpa using this.symm
 have O:∀y∈i,∃m∈M,y.m=wmMs m:=fun y f=>by have g:y.m∈i.map (·.m):=AI.2 ⟨y,f,rfl⟩;rw[r]at g;obtain⟨m,j,e⟩:=AI.1 g;exact⟨m,j,e.symm⟩
 obtain⟨J,G⟩:∃J:List Nat,J=(i.map (fun y=>y.vm.ownBlock.toList++y.vo.ownBlock.toList)).flatten :=⟨_,rfl⟩
 have H:∀y∈i,∀q,(y.vm.ownBlock=some q∨y.vo.ownBlock=some q)→q∈J:=fun y f q c=>by rw[G,DY];exact⟨_,AI.2 ⟨y,f,rfl⟩,by rcases c with h|h<;>simp[h]⟩
 have o:∀q∈J,Ty w q 3:=fun q c=>by
  rw[G,DY]at c;obtain⟨l,N,c⟩:=c;obtain⟨y,f,rfl⟩:=AI.1 N;rcases Ag.1 c with c|c
  ·exact(u y f).mem.ty q (Ae.1 c)
  ·exact(u y f).old.ty q (Ae.1 c)
 have P:p∈E:=by rw[hF];simp[He]
 have D:∀q,v.ownBlock=some q→q∈E:=fun q c=>by rw[hF];simp only[He,Ac,Ag];exact .inr (.inl (Ae.2 c))
 rw[Y];refine(Ke s Z (J:=J) (fun y f=>(u y f).mq (fun b n=>H y f b (.inl n)) (fun b n=>H y f b (.inr n))) (fun y f=> ?_) (fun y f=> ?_) (by omega) (fun b n C=> ?_) (fun q c=>⟨?_, ?_,(o q c).lt⟩)).mono ?_
 ·obtain⟨m,j,e⟩:=O y f
  rw[e];have:=(A m j).small;simpa[wmMs]using this
 ·obtain⟨m,j,e⟩:=O y f
  rw[e];exact⟨(A m j).may,(A m j).sz⟩
 ·exact X b (D b C) (by rw[T,n];simp)
 ·exact(o q c).ne s.blk.ty (by decide)
 ·intro C
  exact(o q c).ne (s.vty q C) (by decide) rfl
 ·rintro e w' ⟨v',F,L2,rfl,W,V,k,aa,U⟩
  refine⟨rfl,hs [CI p (L++M)] _ (He p v' F) ⟨_,[],(AE _).symm,⟨v',F,_,rfl,W, ?_⟩,rfl,by simp⟩ (k.mono (fun q c _=> ?_)) (fun q c=> ?_)⟩
  ·rw[AL,AL,K,V,r]
  ·rw[Ag];left
   rcases Ac.1 c with rfl|c
   ·exact P
   ·exact D q (Ae.1 c)
  ·simp only[He,Ac,Ag]at c
   rcases c with rfl|c|c
   ·exact .inl (A2 _ P)
   ·rcases aa q (Ae.1 c)with g|g
    ·exact .inl (A2 _ (D q g))
    ·exact .inr g
   ·rcases U q c with g|g
    ·exact .inl (A2 _ (by rw[hF];simp only[He,Ac,Ag];exact .inr (.inr g)))
    ·exact .inr g
end
theorem Tryz.infoMk:(Tryz.prog.info? 321).map (fun i=>(i.zero,i.size,i.bytes))=some (some (.agg #[.int .i64 0,.string ByteArray.empty,.int .i64 0]),3,32):=by kernel_rfl
structure JMk where
 seq:Nat
 key:List Nat
 pos:Nat
def mkC (a:JMk):List Value:=[.int .i64 (a.seq:Int),.string (toStr a.key),.int .i64 (a.pos:Int)]
def P1 (A:List JMk):List Value:=(A.map mkC).flatten
theorem Xy (A:List JMk)(i j:Nat)(c:j<3)(a:JMk)(b:A[i]?=some a):(P1 A)[i*3+j]?=(mkC a)[j]?:=by unfold P1;rw[Gc mkC 3 (fun _=>rfl) A i j c,b];rfl
theorem Ub (A:List JMk)(a:JMk):P1 (A++[a])=P1 A++mkC a:=by unfold P1;simp
def MRow (w:World)(base:Nat)(v:Value)(A:List JMk):Prop:=w.ownsRow base 321 3 v A.length (P1 A)
theorem MRow.slice {w:World}{base:Nat}{v:Value}{A:List JMk}(h:MRow w base v A):∃a cap,v=.slice a A.length cap:=A4 h
theorem MRow.keep {w w':World}{base:Nat}{v:Value}{A:List JMk}{S:List Nat}(h:MRow w base v A)(k:Keep S w w')(e:∀b,v.ownBlock=some b→b∉S):MRow w' base v A:=by
 refine⟨h.1, ?_⟩;rcases h.2 with d|⟨g,cap,c,rfl,f,a,r⟩
 ·exact .inl d
 ·exact .inr ⟨g,cap,c,rfl,f,by rw[k.block g (Cd.1 a).1 (e g rfl)];exact a,r⟩
theorem MRow.lt {w:World}{base:Nat}{v:Value}{A:List JMk}(h:MRow w base v A):∀b,v.ownBlock=some b→base≤b∧b<w.heap.size:=B3 h
theorem MRow.ty {w:World}{base:Nat}{v:Value}{A:List JMk}(h:MRow w base v A):∀k,v.ownBlock=some k→Ty w k 321:=by
 intro k a;unfold MRow at h;rcases h.2 with⟨rfl,_⟩|⟨g,cap,c,rfl,_,b,_⟩
 ·cases a
 ·cases a;exact⟨_,_,b⟩
theorem MRow.at_ {w:World}{base:Nat}{v:Value}{A:List JMk}(h:MRow w base v A)(n:0<A.length):∃g cap,v=.slice (some ⟨g,0,none⟩) A.length cap∧∀i a,A[i]?=some a→w.cell? ⟨g,i*3,none⟩=some (.int .i64 (a.seq:Int))∧w.cell? ⟨g,i*3+1,none⟩=some (.string (toStr a.key))∧w.cell? ⟨g,i*3+2,none⟩=some (.int .i64 (a.pos:Int)):=by
 unfold MRow at h;have d:=h;rcases d.2 with⟨_,m⟩|⟨g,cap,k,e,_⟩
 ·omega
 ·subst e
  refine⟨g,cap,rfl,fun i a c=> ?_⟩;have l:=(Ai.1 c).1
  have b:∀j,j<3→w.cell? ⟨g,i*3+j,none⟩=(mkC a)[j]?:=fun j f=>by rw[Cg h (i*3+j) (by omega),Xy A i j f a c]
  exact⟨b 0 (by decide),b 1 (by decide),b 2 (by decide)⟩
theorem MRow.app {w:World}{base:Nat}{v:Value}{A:List JMk}(a:JMk)(h:w.ownsRow base 321 3 v (A.length+1) (P1 A++mkC a)):MRow w base v (A++[a]):=by unfold MRow;rw[Ub,Aj];exact h
def jnC (lb:Nat)(v:Value):List Value:=[pr lb 0,v]
def IB (M:List JMk):Nat:=match M.getLast? with
 |none=>0
 |some a=>a.seq
structure JAt (w:World) (B jb lb:Nat) (v:Value) (M:List JMk):Prop where
 blk:Blk w jb (jnC lb v) 319
 row:MRow w B v M
section
variable {w w':World} {B jb lb:Nat} {v:Value} {M:List JMk}
theorem JAt.keep {S:List Nat}(h:JAt w B jb lb v M)(k:Keep S w w')(c:jb∉S)(a:∀b,v.ownBlock=some b→b∉S):JAt w' B jb lb v M:=⟨h.blk.keep k c,h.row.keep k a⟩
theorem JAt.still (h:JAt w B jb lb v M)(k:Keep [] w w'):JAt w' B jb lb v M:=h.keep k (by simp) (by simp)
theorem XT (h:JAt w B jb lb v M)(i:M.length≤100000):
  Calls Tryz.prog 214 #[pr jb 0] w fun e w'=>e=.returned (.int .i64 (IB M:Int))∧Keep [] w w':=by
 have z:w.cell? ⟨jb,1,none⟩=some v:=h.blk.cell 1;obtain⟨a,cap,rfl⟩:=h.row.slice;obtain⟨H,o⟩:=i_2 h i;clear h i;rcases List.eq_nil_or_concat M with b|⟨p,y,b⟩
 ·subst b
  rw[show([]:List JMk).length =0 from rfl]at*;go_enter Tryz.func214,Tryz.ntmps214;go_wp2;go_ret;exact⟨rfl,By _ _⟩
 ·rw[List.concat_eq_append]at b
  obtain⟨n,c⟩:∃n,p.length=n:=⟨_,rfl⟩;have j:M.length=n+1:=by rw[b];simp[c]
  have l:M[n]?=some y:=by rw[b,←c];simp
  have k:IB M=y.seq:=by unfold IB;rw[b];simp
  obtain⟨g,x,s,f⟩:=H.out.row.at_ (by omega);injection s with hg1 hg2 hg3;subst hg1;obtain⟨u,_⟩:=f n y l;have t:n<200000:=by have:=o.out;omega
  rw[j]at*;rw[k];have d:=h_ t;clear b c j l k f hg2 hg3;go_enter Tryz.func214,Tryz.ntmps214;go_upto_region 3 with fail;have q:IntKind.i64.wrap ((n:Int)+1-1)=(n:Int):=by rw[A9];have:=d.out;omega
  have r:IntKind.i64.wrap (n:Int)=(n:Int):=by rw[A9];have:=d.out;omega
  go_quiet (fail)
  have m:=h_ (Ek (By [] w) nq);clear q r;generalize w.drewN nq=wq at*;go_wp2;go_ret;exact⟨rfl,m.out⟩
end
end Go.Proofs.YtnhbioehiiifdaaGreat
