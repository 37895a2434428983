import Derived.Test.YtnhbioehiiifdaaGreatA13
import Derived.BigQuiet
set_option maxRecDepth 100000
set_option maxHeartbeats 16000000
set_option linter.all false
namespace Go.Proofs.YtnhbioehiiifdaaGreat
open Go.ChangeShapes Go.WideShapes Go.ChangeAt Go.RowKit
def Jg (id op:Nat)(key:Str)(a frm c:Nat)(b r:Rp)(pos:Nat)(L:Nat→Bool):Call:=⟨id,op,key,a,frm,if L 10=true then pos else c,if L 7=true then true else false,if L 13=true then r else b⟩
def endS (f:World)(g b i:Nat)(d:List Value)(M:List Call)(id op:Nat)(key:Str)(a frm e:Nat)(c r:Rp)(pos:Nat)(L:Nat→Bool)(X:Nat→Value)(W:World):Prop:=
 Keep [g] f W∧Blk W b (rpC r) 43∧Blk W g (rows caC (M.set i (Jg id op key a frm e c r pos L))++d) 87
section
variable {w w':World} {p:Nat} {v:Value} {L:List Call}
def Qw (c:Call)(pos:Nat)(r:Rp):Call:={c with done:=true,too:=pos,rp:=r}
theorem U3 (h:ClAt w p v L)(r:Rp)(pos i:Nat)(hi:r.id=i+1)(c:Call)(hc:L[i]?=some c)(J:c.done=false)(ho:c.op=r.op)(hk:c.key=r.key):
  Calls Tryz.prog 120 #[pr p 0,.agg (rpC r).toArray,.int .i64 (pos:Int)] w fun e w'=>e=.returned (.bool true)∧ClAt w' p v (L.set i (Qw c pos r))∧Keep v.ownBlock.toList w w':=by
 have a4:=h.len;have a0:=(Ai.1 hc).1;obtain⟨g,cap,sp,rfl,a3,_,ai,Z,ae⟩:=E4 h.own (by omega);have az:g≠p:=ai.ty.ne h.blk.ty (by decide);obtain⟨id,op,key,z,frm,D,done,C⟩:=c;simp only at J ho hk;subst J ho hk;obtain⟨a5,d,a,k,m,l⟩:=r;simp only at hi;subst hi;have H:=h_ h;obtain⟨F,ag⟩:∃F,F=w.alloc (.cells (rpC ⟨i+1,d,a,k,m,l⟩).toArray 43):=⟨_,rfl⟩;have k1:Keep [] w F:=by rw[ag];exact(By _ _).alloc _
 have ak:Blk F w.heap.size (rpC ⟨i+1,d,a,k,m,l⟩) 43:=by rw[ag];exact BY _ _ _
 have ap:=ai.keep k1 (by simp);have aj:=h.blk.keep k1 (by simp);have c0:=aj.cell 0;have r0:F.cell? ⟨w.heap.size,0,none⟩=some (.int .i64 ((i:Int)+1)):=by rw[ak.cell];simp[rpC]
 have q1:decide ((i:Int)+1<1)=false:=Ak (by omega);have q2:decide ((L.length:Int)<(i:Int)+1)=false:=Ak (by omega);have q3:(i:Int)+1-1=(i:Int):=by omega
 have q4:i<L.length:=a0;have T:=h_6 ap aj k1 ak Z ae;clear ap aj k1 ak Z ae ai h;go_enter Tryz.func120,Tryz.ntmps120;go_wp2_with fail;rw[←ag];clear ag
 go_quiet (fail)
 go_wp2_with fail;have K1:Keep [] F (F.drewN nq):=⟨rfl,rfl,rfl,Av _,fun _ _ _=>rfl⟩;have V:=h_ K1;obtain⟨w2,ar⟩:∃W,W=F.drewN nq:=⟨_,rfl⟩;rw[←ar]at V⊢;clear K1 ar;have c0:=T.out.2.1.keep V.out (by simp)|>.cell 0;have Q:=T.out.2.2.2.1.keep V.out (by simp);have Y:=T.out.1.keep V.out (by simp);have r0:w2.cell? ⟨w.heap.size,0,none⟩=some (.int .i64 ((i:Int)+1)):=by rw[Q.cell];simp[rpC]
 have aw:=h_2 Q Y;clear Q Y
 go_quiet (fail)
 go_wp2_with fail;have K2:Keep [] w2 (w2.drewN nq):=⟨rfl,rfl,rfl,Av _,fun _ _ _=>rfl⟩;have ab:=h_ K2;obtain⟨E,au⟩:∃W,W=w2.drewN nq:=⟨_,rfl⟩;rw[←au]at ab⊢;clear K2 au;obtain⟨Q,Y⟩:=aw.out;have af:=Q.keep ab.out (by simp);have ah:=Y.keep ab.out (by simp)
 have ad:∀j,j<13→E.cell? ⟨g,i*13+j,none⟩=(caC ⟨id,d,a,z,frm,D,false,C⟩)[j]?:=fun j hj=>by rw[ah.cell,AK (by rw[Eo CX];omega)];exact I9 CX L i _ j hc hj
 have a1:E.cell? ⟨g,i*13+1,none⟩=some (.int .i64 (d:Int)):=ad 1 (by decide);have a2:E.cell? ⟨g,i*13+2,none⟩=some (.string a):=ad 2 (by decide);have a6:E.cell? ⟨g,i*13+6,none⟩=some (.bool false):=ad 6 (by decide);have r1:E.cell? ⟨w.heap.size,1,none⟩=some (.int .i64 (d:Int)):=af.cell 1;have r2:E.cell? ⟨w.heap.size,2,none⟩=some (.string a):=af.cell 2;have am:=h_2 af ah;clear Q Y af ah ad r0 c0
 go_quiet (fail)
 go_wp2_with fail;have K3:Keep [] E (E.drewN nq):=⟨rfl,rfl,rfl,Av _,fun _ _ _=>rfl⟩;have ac:=h_ K3;obtain⟨w4,av⟩:∃W,W=E.drewN nq:=⟨_,rfl⟩;rw[←av]at ac⊢;clear K3 av;have R:=h_2 (am.out.1.keep ac.out (by simp)) (am.out.2.keep ac.out (by simp));have ay:=h_ (T.out.2.2.1.trans (V.out.trans (ab.out.trans ac.out)));obtain⟨rb,aq⟩:∃rb,rb=w.heap.size:=⟨_,rfl⟩;rw[←aq]at R⊢;have al:rb≠g:=R.out.1.ty.ne R.out.2.ty (by decide);clear aq a1 a2 a6 r1 r2;refine wM (A:=[0,0,0,0,0,1,33,97,235,491,1003,2047,4095,8191]) 9344 [fun _=>pr g (i*13),fun _=>pr g (i*13),fun _=>pr g (i*13),fun _=> .int .i64 (pos:Int),fun _=> .agg (rpC ⟨i+1,d,a,k,m,l⟩).toArray,fun _=>pr g (i*13),fun _=>pr g (i*13+6),fun _=>undef,fun _=>pr g (i*13),fun _=>pr g (i*13+5),fun _=>undef,fun _=>pr g (i*13),fun _=>pr g (i*13+7),fun _=>undef] (endS w4 g rb i sp L id d a z frm D C ⟨i+1,d,a,k,m,l⟩ pos) ?start (.s ?m0<|.s ?m1<|.s ?m2<|.s ?m3<|.s ?m4<|.s ?m5<|.s ?m6<|.t ?m7<|.s ?m8<|.s ?m9<|.t ?m10<|.s ?m11<|.s ?m12<|.t ?m13<|.nil) ?fin
 case start=>
  intro X;refine⟨(By _ _).drew,R.out.1.drew, ?_⟩
  have e:L.set i (Jg id d a z frm D C ⟨i+1,d,a,k,m,l⟩ pos (fun _=>false))=L:=by
   have e2:Jg id d a z frm D C ⟨i+1,d,a,k,m,l⟩ pos (fun _=>false)=⟨id,d,a,z,frm,D,false,C⟩:=by simp[Jg]
   rw[e2];have:=(Ai.1 hc).2;rw[←this];exact List.set_getElem_self _
  rw[e];exact R.out.2.drew
 case fin=>
  intro U X w5 I J;have d7:=J 7 (by decide) (by decide);have an:=J 10 (by decide) (by decide);have ao:=J 13 (by decide) (by decide);obtain⟨o,q,f⟩:=I;have e:Jg id d a z frm D C ⟨i+1,d,a,k,m,l⟩ pos U=Qw ⟨id,d,a,z,frm,D,false,C⟩ pos ⟨i+1,d,a,k,m,l⟩:=by simp[Jg,Qw,d7,an,ao]
  rw[e]at f;have kf:Keep [g] w w5:=(ay.out.mono (by simp)).then o (fun x hx _=>hx);have ax:=h_2 f kf;clear o q f e kf J d7 an ao;simp[Al,Act.put,FK,Ab];go_wp2;go_ret;obtain⟨f,kf⟩:=ax.out;obtain⟨_,_,_,_,Z,ae⟩:=T.out;refine⟨rfl,⟨H.out.blk.keep kf (by simpa using az.symm), ?_,by rw[Bi];exact H.out.len⟩,kf⟩;rw[Bi];refine Yy f (by rw[Eo CX,Bi]) a3 ?_ ae (AA _);rw[Eo CX,Bi];rw[Eo CX]at Z;exact Z
 case' m7|m10|m13=>intro U X x W I hl O K aa P N B f K' M;have G:=h_ I;clear I;simp[mV,mY,Ab]at aa;simp only[Al,Act.put,A8,A7,A6,aa]at f;subst f
 case m7=>
  clear O K P N;obtain⟨o,q,f⟩:=G.out;have n:(rows caC (L.set i (Jg id d a z frm D C ⟨i+1,d,a,k,m,l⟩ pos U))).length =L.length*13:=by rw[Eo CX,Bi]
  have fr:=f.free (i*13+6);obtain⟨v0,cl⟩:∃v0,W.cell? ⟨g,i*13+6,none⟩=some v0:=Option.isSome_iff_exists.1 (by rw[f.cell,AK (by rw[n];omega),Ad (by rw[n];omega)];rfl);have u:=f.set (i*13+6) (.bool true);have y:Keep [g] W (W.setCell ⟨g,i*13+6,none⟩ (.bool true)):=(By _ _).setCell (.inl (by simp)) _;have HH:=h_5 u y o q n;clear u y o q f n;go_simp;obtain⟨u,y,o,q,n⟩:=HH.out;refine M undef _ _ rfl ⟨o.trans y,q.keep y (by simpa using al), ?_⟩;rw[MC _ _ _ (by rw[Aj,n];omega),JJ CX L i q4 _ (Jg id d a z frm D C ⟨i+1,d,a,k,m,l⟩ pos (upd U 7 true)) sp [.bool true] 6 (by simp) (by simp[Jg,caC,rpC,BQ,upd])]at u;exact u
 case m10=>
  clear O K P N;obtain⟨o,q,f⟩:=G.out;have n:(rows caC (L.set i (Jg id d a z frm D C ⟨i+1,d,a,k,m,l⟩ pos U))).length =L.length*13:=by rw[Eo CX,Bi]
  have fr:=f.free (i*13+5);obtain⟨v0,cl⟩:∃v0,W.cell? ⟨g,i*13+5,none⟩=some v0:=Option.isSome_iff_exists.1 (by rw[f.cell,AK (by rw[n];omega),Ad (by rw[n];omega)];rfl);have u:=f.set (i*13+5) (.int .i64 (pos:Int));have y:Keep [g] W (W.setCell ⟨g,i*13+5,none⟩ (.int .i64 (pos:Int))):=(By _ _).setCell (.inl (by simp)) _;have HH:=h_5 u y o q n;clear u y o q f n;go_simp;obtain⟨u,y,o,q,n⟩:=HH.out;refine M undef _ _ rfl ⟨o.trans y,q.keep y (by simpa using al), ?_⟩;rw[MC _ _ _ (by rw[Aj,n];omega),JJ CX L i q4 _ (Jg id d a z frm D C ⟨i+1,d,a,k,m,l⟩ pos (upd U 10 true)) sp [.int .i64 (pos:Int)] 5 (by simp) (by simp[Jg,caC,rpC,BQ,upd])]at u;exact u
 case m13=>
  clear O K P N;obtain⟨o,q,f⟩:=G.out;have n:(rows caC (L.set i (Jg id d a z frm D C ⟨i+1,d,a,k,m,l⟩ pos U))).length =L.length*13:=by rw[Eo CX,Bi]
  have h6:(rpC ⟨i+1,d,a,k,m,l⟩).length =6:=rfl;rw[Ay (by rfl)];refine wp_store_mid 43 _ _ rfl g (i*13+7) (rpC ⟨i+1,d,a,k,m,l⟩).toArray rfl rfl (f.there _ _ (by rw[Aj,n];show i*13+7+6≤_;omega)) (by kernel_rfl) (Fe (by intro v hv;simp only[rpC,Ac,Am,AG]at hv;rcases hv with rfl|rfl|rfl|rfl|rfl|rfl<;>rfl)) ?_;have u:=f.setCells (rpC ⟨i+1,d,a,k,m,l⟩) (i*13+7) W _ (by rw[Aj,n];show i*13+7+6≤_;omega);have y:=E6 (S:=[g]) (b:=g) (rpC ⟨i+1,d,a,k,m,l⟩) (i*13+7) W W (By _ _) (.inl (by simp));refine M undef _ _ rfl ⟨o.trans y,q.keep y (by simpa using al), ?_⟩;rw[JJ CX L i q4 _ (Jg id d a z frm D C ⟨i+1,d,a,k,m,l⟩ pos (upd U 13 true)) sp (rpC ⟨i+1,d,a,k,m,l⟩) 7 (by rw[h6];decide) (by simp[Jg,caC,rpC,BQ,upd])]at u;exact u
 all_goals intro U X x W I O K aa P N B f K' M;have G:=h_ I;clear I;simp[mV,mY,Ab]at aa;simp only[Al,Act.put,A8,A7,A6,aa]at f;subst f
 case m4=>clear O K P N;obtain⟨o,q,f⟩:=G.out;rw[Ay (by rfl)];refine wp_load_row 43 _ rfl rb rfl 43 (rpC ⟨i+1,d,a,k,m,l⟩).toArray (0,0) _ q Tryz.underlying43 rfl (by kernel_rfl) ?_;exact M _ _ _ rfl rfl G.out
 all_goals clear O K P N;go_simp;exact M _ _ _ rfl rfl G.out
end
theorem Qs {w:World}{p:Nat}{v:Value}(h:ClAt w p v [])(g pos:Int):Calls Tryz.prog 100 #[pr p 0,.int .i64 g,.int .i64 pos] w fun e k=>e=.returned (.int .i64 0)∧Keep [] w k:=by
 have d:=h_ (Nk h);clear h;go_enter Tryz.func100,Tryz.ntmps100;go_wp2_with fail;refine d.out.mono ?_;rintro e l ⟨v',rfl,b,c⟩;obtain⟨a,cap,rfl⟩:∃a cap,v'=.slice a 0 cap:=A4 b;have f:=h_ c;clear b c;go_wp2
 go_loopw [7,13] (fun j i wr=>j=.int .i64 0∧i=.int .i64 0∧wr=l) (fun _ _ _=>0)
 case atStart=>exact⟨rfl,rfl,rfl⟩
 case round=>
 obtain⟨rfl,rfl,rfl⟩:=hrel;go_wp2;go_ret;exact⟨rfl,f.out⟩
theorem Calls.same {P:Program}{f:FuncId}{d:Array Value}{w:World}{v:Value}(h:Calls P f d w fun e c=>e=.returned v∧w=c):
  Calls P f d w fun e c=>e=.returned v∧c=w:=h.mono fun _ _ ⟨a,b⟩=>⟨a,b.symm⟩
theorem Keep.drewN {S:List Nat}{a w:World}(h:Keep S a w)(n:Nat):Keep S a (w.drewN n):=⟨h.os,h.tape,h.output,h.size,h.block⟩
theorem IsClock.drewN {w:World}{b:Nat}{n:Int}(h:IsClock w b n)(k:Nat):IsClock (w.drewN k) b n:=⟨h.blk,h.lo,h.hi⟩
structure IsLease (w:World) (b cb:Nat) (ep en tp:Int):Prop where
 blk:Blk w b [.pointer (some ⟨cb,0,none⟩),.int .i64 ep,.int .i64 en,.int .i64 tp] 141
 lo:0≤en
 hi:en≤1099511627796
theorem IsLease.keep {S:List Nat}{w e:World}{b a:Nat}{ep c d:Int}(h:IsLease w b a ep c d)(k:Keep S w e)(f:b∉S):IsLease e b a ep c d:=⟨h.blk.keep k f,h.lo,h.hi⟩
def Ds (a ep b c s e:Int):Bool:=decide (1≤e∧c≤e∧0≤s∧s≤a∧a-s<20∧(e=ep→b<s+20))
theorem XN {b a:Nat}{n ep d i:Int}{w:World}(h:IsLease w b a ep d i)(g:IsClock w a n):
  Calls Tryz.prog 122 #[pr b 0] w fun e c=>e=.returned (.int .i64 n)∧w=c:=by
 have f:=h.blk.cell 0;simp only[List.getElem?_cons_zero]at f;go_enter Tryz.func122,Tryz.ntmps122
 go_wp2_with (go_at_call 53;refine(DN g).mono ?_;rintro e c ⟨rfl,rfl⟩)
 go_ret;exact⟨rfl,rfl⟩
theorem good_q {b k:Nat}{n ep d s:Int}{w:World}(e:Int)(h:IsLease w b k ep d s)(j:IsClock w k n)(g:Bool)(a:g=decide (0<e∧e=ep∧n<d)):
  Calls Tryz.prog 39 #[pr b 0,.int .i64 e] w fun x t=>x=.returned (.bool g)∧∃m,t=w.drewN m:=by
 have o:=h.blk.cell 0;have p:=h.blk.cell 1;have q:=h.blk.cell 2;simp only[List.getElem?_cons_zero,List.getElem?_cons_succ]at o p q;by_cases f:0<e
 ·by_cases i:e=ep
  ·subst i
   have c:Hid (g=decide (n<d)):=by unfold Hid;rw[a];simp[f]
   clear a;have l:(e==e)=true:=by simp
   by_cases r:n<d
   all_goals
    go_enter Tryz.func39,Tryz.ntmps39;go_wp2_with fail
    go_quiet ((go_at_call 53;refine Calls.quiet_of_same (Calls.same (DN (j.drewN _)))))
    go_wp2;go_ret;exact⟨by rw[c.out];simp[r],_,rfl⟩
  ·have c:Hid (g=false):=by unfold Hid;rw[a];simp[i]
   clear a;have l:(e==ep)=false:=by simpa using i
   go_enter Tryz.func39,Tryz.ntmps39;go_wp2_with fail
   go_quiet ((go_at_call 53;refine Calls.quiet_of_same (Calls.same (DN (j.drewN _)))))
   go_wp2;go_ret;exact⟨by rw[c.out];rfl,_,rfl⟩
 ·have c:Hid (g=false):=by unfold Hid;rw[a];simp[f]
  clear a;have l:decide (0<e)=false:=by simpa using f
  go_enter Tryz.func39,Tryz.ntmps39;go_wp2_with fail
  go_quiet ((go_at_call 53;refine Calls.quiet_of_same (Calls.same (DN (j.drewN _)))))
  go_wp2;go_ret;exact⟨by rw[c.out];rfl,_,rfl⟩
theorem VZ {b c:Nat}{n ep d k:Int}{w:World}(e:Int)(h:IsLease w b c ep d k)(f:IsClock w c n)(g:Bool)(i:g=decide (0<e∧e=ep∧n<d)):
  Calls Tryz.prog 39 #[pr b 0,.int .i64 e] w fun x l=>x=.returned (.bool g)∧Keep [] w l:=
 (good_q e h f g i).mono fun _ _ ⟨a,m,j⟩=>⟨a,by rw[j];exact(By _ _).drewN _⟩
def Took (b c:Nat)(ep d f s e:Int)(g:Bool)(w:World)(x:Ending)(a:World):Prop:=
 x=.returned (.bool g)∧Keep [b] w a∧(if g then IsLease a b c e (s+20) e else IsLease a b c ep d f)
theorem UZ {b m:Nat}{n ep r u:Int}{w:World}(s e:Int)(h:IsLease w b m ep r u)(c:IsClock w m n)(H:b≠m)(g:Bool)(y:g=Ds n ep r u s e):
  Calls Tryz.prog 187 #[pr b 0,.int .i64 s,.int .i64 e] w (Took b m ep r u s e g w):=by
 have A:=h.blk.cell 0;have B:=h.blk.cell 1;have C:=h.blk.cell 2;have D:=h.blk.cell 3;have E:=h.blk.free 1;have F:=h.blk.free 2;have G:=h.blk.free 3;have c1:=c.lo;have c2:=c.hi;obtain⟨j,o,p⟩:=h;have j:=h_ j;simp only[List.getElem?_cons_zero,List.getElem?_cons_succ]at A B C D;have d:=h_ y;clear y;obtain⟨S,k⟩:∃S,Hid (S=Sw n s):=⟨_,rfl⟩
 have x:g=false→IsLease w b m ep r u→Took b m ep r u s e g w (.returned (.bool false)) w:=fun a h=>by subst a;exact⟨rfl,By _ _,h⟩
 have l:=h_ x;clear x;by_cases I:e<1
 ·have q:g=false:=by rw[d.out];unfold Ds;simp;omega
  have i:=h_ q;clear q d;go_enter ET,Ew
  go_wp2_with (first|(go_at_call 53;refine(DN c).mono ?_;rintro e f ⟨rfl,rfl⟩)|(go_at_call 167;refine(E0 s c _ k.out).mono ?_;rintro e f ⟨rfl,rfl⟩))
  go_ret;exact l.out i.out ⟨j.out,o,p⟩
 by_cases J:e<u
 ·have q:g=false:=by rw[d.out];unfold Ds;simp;omega
  have i:=h_ q;clear q d;go_enter ET,Ew
  go_wp2_with (first|(go_at_call 53;refine(DN c).mono ?_;rintro e f ⟨rfl,rfl⟩)|(go_at_call 167;refine(E0 s c _ k.out).mono ?_;rintro e f ⟨rfl,rfl⟩))
  go_ret;exact l.out i.out ⟨j.out,o,p⟩
 by_cases K:s<0
 ·have q:g=false:=by rw[d.out];unfold Ds;simp;omega
  have i:=h_ q;clear q d;go_enter ET,Ew
  go_wp2_with (first|(go_at_call 53;refine(DN c).mono ?_;rintro e f ⟨rfl,rfl⟩)|(go_at_call 167;refine(E0 s c _ k.out).mono ?_;rintro e f ⟨rfl,rfl⟩))
  go_ret;exact l.out i.out ⟨j.out,o,p⟩
 by_cases L:n<s
 ·have q:g=false:=by rw[d.out];unfold Ds;simp;omega
  have i:=h_ q;clear q d;go_enter ET,Ew
  go_wp2_with (first|(go_at_call 53;refine(DN c).mono ?_;rintro e f ⟨rfl,rfl⟩)|(go_at_call 167;refine(E0 s c _ k.out).mono ?_;rintro e f ⟨rfl,rfl⟩))
  go_ret;exact l.out i.out ⟨j.out,o,p⟩
 have v:S=n-s:=by rw[k.out];unfold Sw;rw[Aw (by omega)]
 by_cases M:20≤S
 ·have q:g=false:=by rw[d.out];unfold Ds;simp;omega
  have i:=h_ q;clear q d v;go_enter ET,Ew
  go_wp2_with (first|(go_at_call 53;refine(DN c).mono ?_;rintro e f ⟨rfl,rfl⟩)|(go_at_call 167;refine(E0 s c _ k.out).mono ?_;rintro e f ⟨rfl,rfl⟩))
  go_ret;exact l.out i.out ⟨j.out,o,p⟩
 by_cases t:e=ep
 ·by_cases N:s+20≤r
  ·have q:g=false:=by rw[d.out];unfold Ds;simp;omega
   have i:=h_ q;have z:(e==ep)=true:=by simpa using t
   clear q d v t;go_enter ET,Ew
   go_wp2_with (first|(go_at_call 53;refine(DN c).mono ?_;rintro e f ⟨rfl,rfl⟩)|(go_at_call 167;refine(E0 s c _ k.out).mono ?_;rintro e f ⟨rfl,rfl⟩))
   go_ret;exact l.out i.out ⟨j.out,o,p⟩
  ·have q:g=true:=by rw[d.out];unfold Ds;simp;omega
   subst q;have z:(e==ep)=true:=by simpa using t
   clear d v t;go_enter ET,Ew
   go_wp2_with (first|(go_at_call 53;refine(DN c).mono ?_;rintro e f ⟨rfl,rfl⟩)|(go_at_call 167;refine(E0 s c _ k.out).mono ?_;rintro e f ⟨rfl,rfl⟩))
   go_ret;exact⟨rfl,(((By _ _).setCell (by simp) _).setCell (by simp) _).setCell (by simp) _,⟨((j.out.set 1 _).set 2 _).set 3 _,by omega,by omega⟩⟩
 ·have q:g=true:=by rw[d.out];unfold Ds;simp;omega
  subst q;have z:(e==ep)=false:=by simpa using t
  clear d v t;go_enter ET,Ew
  go_wp2_with (first|(go_at_call 53;refine(DN c).mono ?_;rintro e f ⟨rfl,rfl⟩)|(go_at_call 167;refine(E0 s c _ k.out).mono ?_;rintro e f ⟨rfl,rfl⟩))
  go_ret;exact⟨rfl,(((By _ _).setCell (by simp) _).setCell (by simp) _).setCell (by simp) _,⟨((j.out.set 1 _).set 2 _).set 3 _,by omega,by omega⟩⟩
theorem Wg {b c:Nat}{ep e k:Int}{w:World}(h:IsLease w b c ep e k):
  Calls Tryz.prog 230 #[pr b 0] w fun x d=>x=.returned (.tuple #[])∧Keep [b] w d∧IsLease d b c 0 0 0:=by
 have f:=h.blk.cell 0;have g:=h.blk.cell 1;have i:=h.blk.cell 2;have j:=h.blk.cell 3;have n:=h.blk.free 1;have o:=h.blk.free 2;have p:=h.blk.free 3;obtain⟨a,l,m⟩:=h;have a:=h_ a;simp only[List.getElem?_cons_zero,List.getElem?_cons_succ]at f g i j;go_enter Tryz.func230,Tryz.ntmps230;go_wp2
 go_end0
 exact⟨rfl,(((By _ _).setCell (by simp) _).setCell (by simp) _).setCell (by simp) _,⟨((a.out.set 1 _).set 2 _).set 3 _,by omega,by omega⟩⟩
theorem VC (a:Nat)(w:World):
  Calls Tryz.prog 159 #[pr a 0] w fun x b=>x=.returned (pr w.heap.size 0)∧Keep [] w b∧IsLease b w.heap.size a 0 0 0:=by
 go_enter Tryz.func159,Tryz.ntmps159;go_wp2;go_ret;exact⟨rfl,(By _ _).alloc _,⟨BY _ _ _,by decide,by decide⟩⟩
end Go.Proofs.YtnhbioehiiifdaaGreat
