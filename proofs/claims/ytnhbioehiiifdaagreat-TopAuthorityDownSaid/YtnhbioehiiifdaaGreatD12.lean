import Derived.Test.YtnhbioehiiifdaaGreatD08
import Derived.Test.YtnhbioehiiifdaaGreatD09
import Derived.Test.YtnhbioehiiifdaaGreatD10
set_option maxRecDepth 100000
set_option maxHeartbeats 16000000
set_option linter.all false
namespace Go.Proofs.YtnhbioehiiifdaaGreat
open Go.ChangeShapes Go.WideShapes Go.ChangeAt Go.RowKit
structure Ct where
 epoch:Int
 top:Int
 mem:List Int
 num:Int
 phase:Int
 dest:List Int
 nodes:List Int
 lost:Int
 done:List Int
def ctC (kb s g:Nat)(t:Ct)(vm vt vn vd:Value):List Value:=[pr kb 0,pr s 0,.int .i64 t.epoch,.int .i64 t.top,vm,.int .i64 t.num,.int .i64 t.phase,vt,vn,.int .i64 t.lost,vd,.map (some g)]
theorem ctc_0 {w:World}{c kb s g:Nat}{t:Ct}{vm vt vn vd:Value}{T:TypeId}(h:Blk w c (ctC kb s g t vm vt vn vd) T):w.cell? ⟨c,0,none⟩=some (pr kb 0)∧w.frozen? ⟨c,0,none⟩=false:=⟨h.cell 0,h.free 0⟩
theorem Yn {w:World}{c kb s g:Nat}{t:Ct}{vm vt vn vd:Value}{T:TypeId}(h:Blk w c (ctC kb s g t vm vt vn vd) T):w.cell? ⟨c,2,none⟩=some (.int .i64 t.epoch)∧w.frozen? ⟨c,2,none⟩=false:=⟨h.cell 2,h.free 2⟩
theorem ctc_3 {w:World}{c kb s g:Nat}{t:Ct}{vm vt vn vd:Value}{T:TypeId}(h:Blk w c (ctC kb s g t vm vt vn vd) T):w.cell? ⟨c,3,none⟩=some (.int .i64 t.top)∧w.frozen? ⟨c,3,none⟩=false:=⟨h.cell 3,h.free 3⟩
theorem Ym {w:World}{c kb s g:Nat}{t:Ct}{vm vt vn vd:Value}{T:TypeId}(h:Blk w c (ctC kb s g t vm vt vn vd) T):w.cell? ⟨c,4,none⟩=some (vm)∧w.frozen? ⟨c,4,none⟩=false:=⟨h.cell 4,h.free 4⟩
theorem ctc_5 {w:World}{c kb s g:Nat}{t:Ct}{vm vt vn vd:Value}{T:TypeId}(h:Blk w c (ctC kb s g t vm vt vn vd) T):w.cell? ⟨c,5,none⟩=some (.int .i64 t.num)∧w.frozen? ⟨c,5,none⟩=false:=⟨h.cell 5,h.free 5⟩
theorem ctc_9 {w:World}{c kb s g:Nat}{t:Ct}{vm vt vn vd:Value}{T:TypeId}(h:Blk w c (ctC kb s g t vm vt vn vd) T):w.cell? ⟨c,9,none⟩=some (.int .i64 t.lost)∧w.frozen? ⟨c,9,none⟩=false:=⟨h.cell 9,h.free 9⟩
theorem ctc_11 {w:World}{c kb s g:Nat}{t:Ct}{vm vt vn vd:Value}{T:TypeId}(h:Blk w c (ctC kb s g t vm vt vn vd) T):w.cell? ⟨c,11,none⟩=some (.map (some g))∧w.frozen? ⟨c,11,none⟩=false:=⟨h.cell 11,h.free 11⟩
structure CtR (w:World) (t:Ct) (vm vt vn vd:Value) (base:Nat):Prop where
 mem:Own w 0 3 vm (ints t.mem)
 dest:Own w 0 3 vt (ints t.dest)
 nodes:Own w 0 3 vn (ints t.nodes)
 done:Own w base 3 vd (ints t.done)
 l1:∀q,vm.ownBlock=some q→q<base
 l2:∀q,vt.ownBlock=some q→q<base
 l3:∀q,vn.ownBlock=some q→q<base
 memn:t.mem.length≤5
 ton:t.dest.length≤5
 nodesn:t.nodes.length≤5
 donen:t.done.length≤5
theorem CtR.keep {w f:World}{t:Ct}{vm vt vn vd:Value}{base:Nat}{S:List Nat}(h:CtR w t vm vt vn vd base)(k:Keep S w f)(e:∀q∈S,¬Ty w q 3):CtR f t vm vt vn vd base:=
 ⟨h.mem.keep k (fun b a d=>e b d (h.mem.ty b a)),h.dest.keep k (fun b a d=>e b d (h.dest.ty b a)),h.nodes.keep k (fun b a d=>e b d (h.nodes.ty b a)),h.done.keep k (fun b a d=>e b d (h.done.ty b a)),
  h.l1,h.l2,h.l3,h.memn,h.ton,h.nodesn,h.donen⟩
theorem CtR.still {w a:World}{t:Ct}{vm vt vn vd:Value}{base:Nat}(h:CtR w t vm vt vn vd base)(k:Keep [] w a):CtR a t vm vt vn vd base:=h.keep k (by simp)
def CtB (w:World)(c kb s g:Nat)(t:Ct)(vm vt vn vd:Value):Prop:=Blk w c (ctC kb s g t vm vt vn vd) 156
section
variable {w:World} {c kb s g:Nat} {t:Ct} {vm vt vn vd:Value}
theorem CtB.keep {a:World}{S:List Nat}(h:CtB w c kb s g t vm vt vn vd)(k:Keep S w a)(b:c∉S):CtB a c kb s g t vm vt vn vd:=Blk.keep h k b
theorem Under_any (h:CtB w c kb s g t vm vt vn vd):Calls Tryz.prog 80 #[pr c 0] w fun e a=>e=.returned (.int .i64 t.num)∧w=a:=by obtain⟨c2,_⟩:=ctc_5 h;go_enter Tryz.func80,Tryz.ntmps80;go_wp2;go_ret;exact⟨rfl,rfl⟩
theorem QB {base:Nat}(h:CtB w c kb s g t vm vt vn vd)(b:CtR w t vm vt vn vd base)(i:0<t.mem.length):
  Calls Tryz.prog 79 #[pr c 0] w fun e f=>∃d,e=.returned d∧Own f w.heap.size 3 d (ints t.mem)∧Keep [] w f:=by
 obtain⟨c2,_⟩:=Ym h;obtain⟨a,cap,rfl⟩:=b.mem.islice;have l:=b.memn;go_enter Tryz.func79,Tryz.ntmps79;go_wp2_with fail;refine(Jh _ t.mem b.mem.irv (by omega) i).mono ?_;rintro e n ⟨m,rfl,j,k⟩;go_wp2;go_ret;exact⟨_,rfl,j,k⟩
end
structure Tm where
 m:Ms
 vm:Value
 vo:Value
def Cm (y:Tm):List Value:=CZ y.m (.slice none 0 0) (.slice none 0 0) y.vm y.vo
structure TmOk (w:World) (y:Tm):Prop where
 mem:Own w 0 3 y.vm (ints y.m.mem)
 old:Own w 0 3 y.vo (ints y.m.old)
 its:y.m.its=[]
 mks:y.m.mks=[]
theorem TmOk.keep {w e:World}{y:Tm}{S:List Nat}(h:TmOk w y)(k:Keep S w e)(d:∀q∈S,¬Ty w q 3):TmOk e y:=
 ⟨h.mem.keep k (fun b a c=>d b c (h.mem.ty b a)),h.old.keep k (fun b a c=>d b c (h.old.ty b a)),h.its,h.mks⟩
theorem TmOk.one {w:World}{y:Tm}(h:TmOk w y):∀v∈Cm y,v.oneCell'=true:=by obtain⟨a,c,e⟩:=h.mem.islice;obtain⟨b,d,f⟩:=h.old.islice;unfold Cm;rw[e,f];exact Hf _ _ _ _ _ _ _ _ _ _ _ _ _
def tc (L:List Tm):List Value:=(L.map Cm).flatten
theorem Nv (L:List Tm)(y:Tm):tc (L++[y])=tc L++Cm y:=by simp[tc]
structure TRow (w:World) (base:Nat) (v:Value) (L:List Tm):Prop where
 own:w.ownsRow base 175 21 v L.length (tc L)
 ok:∀y∈L,TmOk w y
theorem TRow.nil (w:World)(base:Nat):TRow w base (.slice none 0 0) []:=⟨AY w base _ 21,by simp⟩
theorem TRow.lt {w:World}{base:Nat}{v:Value}{L:List Tm}(h:TRow w base v L):∀k,v.ownBlock=some k→base≤k∧k<w.heap.size:=B3 h.own
theorem TRow.ty {w:World}{base:Nat}{v:Value}{L:List Tm}(h:TRow w base v L):∀k,v.ownBlock=some k→Ty w k 175:=by
 intro k a;rcases h.own.2 with⟨rfl,e⟩|⟨g,cap,c,rfl,d,b,r⟩
 ·cases a
 ·cases a;exact⟨_,_,b⟩
theorem TRow.snoc {w b:World}{base:Nat}{v d:Value}{L:List Tm}{y:Tm}(h:TRow w base v L)(i:TmOk w y)(e:b.ownsRow base 175 21 d (L.length+1) (tc L++Cm y))(k:Keep v.ownBlock.toList w b):TRow b base d (L++[y]):=by
 have c:∀q∈v.ownBlock.toList,¬Ty w q 3:=fun q f g=>(h.ty q (Ae.1 f)).ne g (by decide) rfl
 refine⟨by rw[Nv,Aj];exact e,fun z a=> ?_⟩;rcases Ag.1 a with a|a
 ·exact(h.ok z a).keep k c
 ·simp at a;subst a;exact i.keep k c
theorem QN {P:Program}{t e:TypeId}(d:P.underlying t=some (.slice e))(w:World)(b:Nat)(y:Tm)(h:Blk w b (Cm y) 175)(c:∀v∈Cm y,v.oneCell'=true):
  Src P 21 t (.slice (some ⟨b,0,none⟩) 1 1) 1 (Cm y) w:=by
 refine CC _ d ⟨b,0,none⟩ 1 1 (Cm y) rfl ?_ c;intro j x f;rw[show(⟨b,0,none⟩:Addr).add j=⟨b,j,none⟩ by by_cases a:j=0<;>simp[Addr.add,a],h.cell];exact f
def msT (b dst a tick:Int)(mem:List Int)(base:Int)(old:List Int):Ms:=⟨b,0,dst,a,tick,0,0,0,0,ByteArray.empty,0,false,VS,[],[],mem,base,old⟩
def EI (t:Ct)(a dst tick:Int):Ms:=msT a dst t.epoch tick t.mem 0 []
def X1 (k:World)(c kb s g r base:Nat)(t:Ct)(h j i f:Value)(e dst tick:Int)(l:Nat→Bool)(x:Nat→Value)(a:World):Prop:=
 ∃b d,(CtB a c kb s g t h j i f)∧
 (CtR a t h j i f base)∧
 (Blk a r (if l 11=true then(Cm ⟨EI t e dst tick,(.slice b t.mem.length d),.slice none 0 0⟩)else(CZ Rz (.slice none 0 0) (.slice none 0 0) (.slice none 0 0) (.slice none 0 0))) 175)∧
 (Keep [r] k a)∧
 (l 11=true→l 9=true)∧
 (l 9=true→x 9=(.slice b t.mem.length d)∧Own a 0 3 (.slice b t.mem.length d) (ints t.mem))∧
 (l 10=true→x 10=.agg (Cm ⟨EI t e dst tick,(.slice b t.mem.length d),.slice none 0 0⟩).toArray ∧l 9=true)∧
 SlV l x 0 [some (.int .i64 e),some (.int .i64 dst),some (.int .i64 tick),some (pr c 0),some (pr c 0),some (pr c 2),some (pr c 2),some (.int .i64 t.epoch),some (pr c 0),none,none,none]
theorem Eu {P:Program}{l:Array Oper}{op:Oper}{a:Act}{w:World}{K:Act→World→Prop}{Q:Exit→Act→World→Prop}{F:Prop}(f:op.guard=none)(ty:TypeId)(x y:Operand)(i:op.op=.store ty x y)
  (b:Nat) (old cells:List Value) (T:TypeId) (j:a.eval x=pr b 0) (k:a.eval y=.agg cells.toArray)
  (d:Blk w b old T) (m:old.length=cells.length) (g:(P.info? ty).map (·.size)=some cells.length) (e:∀v∈cells,v.oneCell'=true)
  (h:∀c,Blk c b cells T→Keep [b] w c→K (a.put op.dst undef) c):if Region.wanted op (yielded l a.tmps)=true then Oper.wp P op a w K Q else F:=by
 rw[Ay (by simp[Region.wanted,f])];refine wp_store_mid ty x y i b 0 cells.toArray j k (d.there 0 _ (by simp;omega)) (by simpa using g) (Fe e) (h _ ?_ (E6 _ _ _ _ (By _ _) (.inl (by simp))));have:=d.setCells cells 0 w _ (by omega);unfold BQ at this;rw[Bz (by omega)]at this;simpa using this
theorem R3 {w:World}{c kb s g base:Nat}{t:Ct}{O Q P N:Value}(h:CtB w c kb s g t O Q P N)(Z:CtR w t O Q P N base)(ad:0<t.mem.length)(u dst tick:Int):
  Calls Tryz.prog 169 #[pr c 0,.int .i64 u,.int .i64 dst,.int .i64 tick] w fun e E=>∃v,e=.returned (.agg (Cm ⟨EI t u dst tick,v,.slice none 0 0⟩).toArray)∧TmOk E ⟨EI t u dst tick,v,.slice none 0 0⟩∧Keep [] w E:=by
 have ag:∀(W:World) (a:Option Addr) (n cap:Nat),(Instr.build 175 #[(0,.int .i64 u),(2,.int .i64 dst),(4,.int .i64 tick),(3,.int .i64 t.epoch),(15,.slice a n cap)]).run Tryz.prog W=.ok (.agg (Cm ⟨EI t u dst tick,.slice a n cap,.slice none 0 0⟩).toArray) W:=fun W a n cap=>DD W _ _ _ (by rfl)
 have ac:=Blk.lt h;have L:=BY w (CZ Rz (.slice none 0 0) (.slice none 0 0) (.slice none 0 0) (.slice none 0 0)) 175;have U:=h.keep ((By [] w).alloc (.cells (CZ Rz (.slice none 0 0) (.slice none 0 0) (.slice none 0 0) (.slice none 0 0)).toArray 175)) (by simp);have X:=Z.still ((By [] w).alloc (.cells (CZ Rz (.slice none 0 0) (.slice none 0 0) (.slice none 0 0) (.slice none 0 0)).toArray 175));have T:=(By [] w).alloc (.cells (CZ Rz (.slice none 0 0) (.slice none 0 0) (.slice none 0 0) (.slice none 0 0)).toArray 175);go_enter Tryz.func169,Tryz.ntmps169;go_upto_region 1 with fail;obtain⟨r,aa⟩:∃r,r=w.heap.size:=⟨_,rfl⟩;change Code.wp _ _ _ _ (w.alloc (.cells (CZ Rz (.slice none 0 0) (.slice none 0 0) (.slice none 0 0) (.slice none 0 0)).toArray 175));rw[←aa]at L⊢;have R:=h_ (show c<r∧w.heap.size≤r by omega);clear aa ac h Z;generalize w.alloc (.cells (CZ Rz (.slice none 0 0) (.slice none 0 0) (.slice none 0 0) (.slice none 0 0)).toArray 175)=w1 at*;refine wI (X1 w1 c kb s g r base t O Q P N u dst tick) ?aS (.s ?a0<|.s ?a1<|.s ?a2<|.s ?a3<|.s ?a4<|.s ?a5<|.s ?a6<|.s ?a7<|.s ?a8<|.s ?a9<|.s ?a10<|.s ?a11<|.n) 12 ?aF
 case aS=>intro x;exact⟨none,0,U.keep (By [] _).drew (by simp),X.still (By [] _).drew,L.drew,(By _ _).drew,fun h=>absurd h (by decide),fun h=>absurd h (by decide),fun h=>absurd h (by decide),Yr⟩
 case a10=>
  intro l x E B F i;obtain⟨y,z,j,o,f,m,A,d,k,vS⟩:=B;have e0:=vS.a 0 (i.at rfl) rfl;have e1:=vS.a 1 (i.at rfl) rfl;have e2:=vS.a 2 (i.at rfl) rfl;have e7:=vS.a 7 (i.at rfl) rfl;have H:=d (i.at rfl);have G:=h_ (show l 9=true from i.at rfl);refine Oq.of (b:= ?bM10) ?eM10 ?_
  case eM10=>simp only[Al,Act.put,A8,A7,A6,e0,e1,e2,e7,H.1];rfl
  intro S C;go_simp;exact C.go _ rfl ⟨y,z,j,o,f,m,A,d,fun _=>⟨rfl,G.out⟩,vS.s rfl⟩
 case a11=>
  intro l x E B F i;obtain⟨y,z,j,o,f,m,A,d,k,vS⟩:=B;have ab:=k (i.at rfl);have G:=h_ (k (i.at rfl)).2;have H:=d G.out;rw[F]at f;have J:Blk E r (CZ Rz (.slice none 0 0) (.slice none 0 0) (.slice none 0 0) (.slice none 0 0)) 175:=f;refine Oq.of (b:= ?bM11) ?eM11 ?_
  case eM11=>simp only[Al,Act.put,A8,A7,A6,ab.1];rfl
  intro S C;refine Eu rfl 175 _ _ rfl r (CZ Rz (.slice none 0 0) (.slice none 0 0) (.slice none 0 0) (.slice none 0 0)) (Cm ⟨EI t u dst tick,(.slice y t.mem.length z),.slice none 0 0⟩) 175 rfl rfl J rfl C4 (by have:=Hf (EI t u dst tick) none none y none 0 0 0 0 t.mem.length z 0 0;exact this) ?_;intro w2 hQ p;have ah:=R.out;exact C.go undef rfl ⟨y,z,j.keep p (by simp;omega),o.keep p (fun q D ht=>by simp at D;subst D;exact J.ty.ne ht (by decide) rfl),hQ,m.trans p,fun _=>G.out,fun h=>⟨(d h).1,(d h).2.keep p (fun q D Y=>by simp at Y;subst Y;exact J.ty.ne ((d h).2.ty q D) (by decide) rfl)⟩,k,vS.s rfl⟩
 case aF=>
  intro l x w3 B M;obtain⟨y,z,j,o,f,m,A,d,k,vS⟩:=B;have H:=d (M 9 (by decide));rw[Ay (M 11 (by decide))]at f;simp only[Al,Act.put,A8,A7,A6];have K3:=T.then m (fun q D ai=>by have:=R.out;simp at D;omega);clear d k M A L U X T m j o vS;go_wp2_with fail;refine Be (v:= .agg (Cm ⟨EI t u dst tick,(.slice y t.mem.length z),.slice none 0 0⟩).toArray) ?_ rfl ?_
  ·exact results_cell_row Tryz.results169 _ _ r 175 _ (0,0) _ rfl f AV rfl C4
  ·exact⟨_,rfl,⟨H.2,YA _ _ _,rfl,rfl⟩,K3⟩
 all_goals
  intro l x E B F i;obtain⟨y,z,j,o,f,m,A,d,k,vS⟩:=B;have K:=vS;have I:=i;simp only[SlV]at K
  try simp[BD,Region.binds]at I
  refine Oq.of (by simp only[Al,Act.put,A8,A7,A6,I,K];rfl) ?_;clear I K;intro S C
 case a9=>
  have ae:l 11=false:=by cases hh:l 11 with|false=>rfl|true=>have:=A hh;rw[F]at this;cases this
  go_simp;refine(QB j o ad).mono ?_;rintro e w2 ⟨v2,rfl,V,p⟩;obtain⟨ua,af,rfl⟩:=V.islice;go_simp;exact C.go _ rfl ⟨ua,af,j.keep p (by simp),o.still p,(by show Blk w2 r (if l 11=true then _ else _) 175;rw[ae]at f⊢;exact f.keep p (by simp)),m.trans (p.mono (by simp)),fun _=>rfl,fun _=>⟨rfl,V.mono (by omega)⟩,fun h=>absurd ((k h).2.symm.trans F) (by decide),vS.s rfl⟩
 all_goals have cc:=(Yn j).1;go_simp;exact C.go _ rfl ⟨y,z,j,o,f,m,A,d,k,vS.r⟩
theorem WW (y:Tm):Instr.fill (fun i=>some (i*21,21)) ((Array.range (1*21)).map ((Value.agg #[.int .i64 0,.int .i64 0,.int .i64 0,.int .i64 0,.int .i64 0,.int .i64 0,.int .i64 0,.int .i64 0,.int .i64 0,.string ByteArray.empty,.int .i64 0,.bool false,.string ByteArray.empty,.string ByteArray.empty,.int .i64 0,.bool false,.slice none 0 0,.slice none 0 0,.slice none 0 0,.int .i64 0,.slice none 0 0]).cells[· % 21]!)) [(0,.agg (Cm y).toArray)]=some (Cm y).toArray :=by kernel_rfl
theorem run_bs (W:World)(y:Tm):(Instr.buildSlice 66 1 #[(0,.agg (Cm y).toArray)]).run Tryz.prog W=.ok (.slice (some ⟨W.heap.size,0,none⟩) 1 1) (W.alloc (.cells (Cm y).toArray 175)):=by obtain⟨d,b,c,a,e⟩:=AU Y2;exact run_buildSlice W _ _ 1 _ _ d _ BT b c (by rw[a];decide) (by rw[a];decide) (by rw[a];exact WW y)
theorem GX {w:World}{f:Array Oper}{o:Oper}{a:Act}{K:Act→World→Prop}{Q:Exit→Act→World→Prop}{F:Prop}(b:o.guard=none)(x:Operand)(c:o.op=.buildSlice 66 1 #[(0,x)])(y:Tm)(d:a.eval x=.agg (Cm y).toArray)
  (h:K (a.put o.dst (.slice (some ⟨w.heap.size,0,none⟩) 1 1)) (w.alloc (.cells (Cm y).toArray 175))):if Region.wanted o (yielded f a.tmps)=true then Oper.wp Tryz.prog o a w K Q else F:=by
 rw[Ay (by simp[Region.wanted,b])];unfold Oper.wp execOp;have e:(#[(0,x)]:Array (Nat×Operand)).map (fun(i,x)=>(i,a.eval x))=#[(0,.agg (Cm y).toArray)]:=by simp[d]
 simp only[c,e,Db,run_bs,Result.andThen_ok];exact h
def CtD (w:World)(d sb s:Nat)(T:List Nat)(B:Nat):Prop:=
 ∃L k turn a,IsDev w d sb L k∧Hy w s d 0 turn T a∧Pair L 0 a turn T∧a≤1∧0<turn∧turn≤B∧k≤2*B+5
theorem CtD.keep {w e:World}{d sb s:Nat}{T:List Nat}{B:Nat}{S:List Nat}(h:CtD w d sb s T B)(k:Keep S w e)(f:d∉S)(g:sb∉S)(i:s∉S)(j:∀q∈S,¬Ty w q 5):CtD e d sb s T B:=by obtain⟨L,n,turn,l,a,b,c⟩:=h;exact⟨L,n,turn,l,a.keep k f g,b.keep k i j,c⟩
theorem Xc (e t:Int)(l:List Int)(b:II e)(d:II t)(c:∀n∈l,1≤n∧n≤5):(stT e t l).length ≤40:=by have f:=LV l c;have:=Hc [e,t,((Hx l:Nat):Int)] (by intro n a;simp at a;rcases a with rfl|rfl|rfl;exact b;exact d;exact⟨by omega,by omega⟩);unfold stT;simp at this;omega
theorem Wa {P:Program}{f:FuncId}{i:Array Value}{w:World}{v:Value}(h:Calls P f i w fun e d=>e=.returned v∧w=d):Calls P f i w fun e d=>e=.returned v∧d=w:=
 h.mono fun _ _ ⟨a,b⟩=>⟨a,b.symm⟩
theorem Je {S:List Nat}{a w:World}(h:Keep S a w)(n:Nat):Keep S a (w.drewN n):=⟨h.os,h.tape,h.output,h.size,h.block⟩
theorem Wh {w:World}{v:Value}{n:Nat}{a:List Value}(h:Rv w 1 v n a)(k:Nat):Rv (w.drewN k) 1 v n a:=h.keep (Je (By [] w) k) (by simp)
theorem wf64 {n:Int}(h:II n):(Lit.int .i64 n).wf =true:=by unfold II at h;simp[Lit.wf,IntKind.min,IntKind.max,IntKind.signed,IntKind.bits];omega
def Gr (w:World)(g n:Nat)(f:Int→Option Int):Prop:=
 ∃D:DataW Unit,w.ownsMap Tryz.prog 3 (plainElem Tryz.prog 2) g n D∧Maps.IsMap D∧
  ∀k:Int,Maps.has D (.int .i64 k)=(f k).isSome ∧∀x,f k=some x→D.atKey (.int .i64 k) (.lit (.int .i64 0))=.lit (.int .i64 x)
theorem Gr.made (w:World):Gr (w.alloc (.map #[] 0)) w.heap.size 0 (fun _=>none):=
 ⟨.map [],World.ownsMap_made w _ _ _,Maps.isMap_empty,fun k=>⟨rfl,fun x h=>by cases h⟩⟩
theorem Gr.lt {w:World}{g n:Nat}{f:Int→Option Int}(h:Gr w g n f):g<w.heap.size:=by obtain⟨D,h,_⟩:=h;exact h.lt
theorem Gr.keep {w b:World}{g n:Nat}{f:Int→Option Int}{S:List Nat}(h:Gr w g n f)(k:Keep S w b)(i:g∉S):Gr b g n f:=by obtain⟨D,⟨c,clock,a,r⟩,d⟩:=h;have e:=(Cd.1 a).1;exact⟨D,⟨c,clock,by rw[k.block g e i];exact a,r⟩,d⟩
theorem Gr.ne {w:World}{g n b:Nat}{f:Int→Option Int}{T:TypeId}(h:Gr w g n f)(d:Ty w b T):b≠g:=by obtain⟨D,⟨e,clock,c,_⟩,_⟩:=h;rintro rfl;obtain⟨_,_,a⟩:=d;rw[c]at a;cases a
theorem Gr.put {w:World}{g n:Nat}{f:Int→Option Int}(h:Gr w g n f)(k x:Int)(i:II k)(r:II x)(p:n<maxLen):
  ∃b,(Instr.mapUpdate 154 (.map (some g)) (.int .i64 k) (.int .i64 x)).run Tryz.prog w=.ok () b∧Gr b g (n+1) (fun j=>if j=k then some x else f j)∧Keep [g] w b:=by
 obtain⟨D,o,d,e⟩:=h;obtain⟨b,q,s,u⟩:=o.update (t:=154) (Maps.int_keyed ER) Tryz.underlying154 p (Maps.keyOf_int_mk ER (wf64 i)) (plainElem_int CY (wf64 r));have l:=(Maps.int_keyed ER).key (Maps.keyOf_int_mk ER (wf64 i));refine⟨b,q,⟨_,s,d.put _ _,fun j=> ?_⟩,by simpa using DJ u⟩;by_cases c:j=k
 ·subst c
  simp only[D5];refine⟨Maps.has_put_same d l _,fun y a=> ?_⟩;injection a with a;subst a;exact Maps.atKey_put_same d l _ _
 ·have m:Lit.int .i64 j≠Lit.int .i64 k:=by intro h;injection h with _ h;exact c h
  simp only[Aw c];rw[Maps.has_put_other m];exact⟨(e j).1,fun y a=>by rw[Maps.atKey_put_other m];exact(e j).2 y a⟩
section
variable {w:World} {c kb s g d sb base B n:Nat} {t:Ct} {vm vt vn vd:Value} {f:Int→Option Int} {now:Int}
theorem Jk {w:World}{b:Array Oper}{rest:List Oper}{o:Oper}{a:Act}{Q:Exit→Act→World→Prop}(i:o.guard=none)(x:Operand)(j:o.op=.buildSlice 66 1 #[(0,x)])(y:Tm)(k:a.eval x=.agg (Cm y).toArray)
  (h:wpList Tryz.prog b Q rest (a.put o.dst (.slice (some ⟨w.heap.size,0,none⟩) 1 1)) (w.alloc (.cells (Cm y).toArray 175))):wpList Tryz.prog b Q (o::rest) a w:=
 wpList_step fun K e=>GX i x j y k (e _ _ h)
end
theorem WQ {w:World}:Calls Tryz.prog 89 #[.pointer none] w fun e a=>e=.returned (.slice none 0 0)∧w=a:=by go_enter Tryz.func89,Tryz.ntmps89;go_wp2;go_ret;exact⟨rfl,rfl⟩
section
variable {w:World} {c kb s g base:Nat} {t:Ct} {vm vt vn vd:Value}
theorem UP (h:CtB w c kb s g t vm vt vn vd)(a:t.num=0):Calls Tryz.prog 89 #[pr c 0] w fun e b=>e=.returned (.slice none 0 0)∧w=b:=by
 obtain⟨c5,_⟩:=ctc_5 h;have d:(t.num==0)=true:=by simpa using a
 clear h a;go_enter Tryz.func89,Tryz.ntmps89;go_wp2;go_ret;exact⟨rfl,rfl⟩
end
theorem Ji {w:World}(v:Value)(l:List Int)(h:Rv w 1 v l.length (ints l))(r:l.length≤1000000):
  Calls Tryz.prog 82 #[v] w fun e f=>∃d,e=.returned d∧Own f w.heap.size 3 d (ints l)∧Keep [] w f:=by
 by_cases i:0<l.length
 ·exact Jh v l h r i
 ·obtain rfl:l=[]:=Bv (by omega)
  obtain⟨z,p,u,x,y⟩:=AU Tryz.infoI;have s:=h;obtain⟨_,a,cap,rfl,B,_⟩:=h;have g:=(By [] w).alloc (.cells #[] 3);have j:=s.alloc (.cells #[] 3);have o:Own (w.alloc (.cells #[] 3)) w.heap.size 3 (.slice (some ⟨w.heap.size,0,none⟩) 0 0) []:=⟨rfl,.inr ⟨w.heap.size,0,#[],rfl,Av _,BY w [] 3,by simp,by unfold maxLen;omega,rfl,rfl⟩⟩;have C:=fun(W:World) (a:Option Addr) (n c:Nat)=>Lib.run_eql_slice_nil (P:=Tryz.prog) W 22 3 a n c 0 0 Dl
  have t:=Rv.src (P:=Tryz.prog) j Dl (PE [])
  cases a with
  |none=>go_enter Tryz.func82,Tryz.ntmps82;go_wp2;go_ret;exact⟨_,rfl,YA _ _ _,By _ _⟩
  |some a=>
   go_enter Tryz.func82,Tryz.ntmps82
   go_wp2_with (at_builtin;refine Bl _ rfl _ _ 22 22 rfl w.heap.size 3 z (.int .i64 0) 1 8 Dl p u x y rfl (by decide) _ 0 [] rfl o _ _ _ rfl t (by unfold maxLen;simp) (by simp) (by simp) ?_;intro E F k m _ A)
   go_ret;refine⟨_,rfl, ?_, ?_⟩
   ·simpa[Own,ints]using k
   ·exact g.then (DJ m) (fun q b D=>by change q∈[w.heap.size]at b;simp at b;omega)
theorem QF {w:World}:Calls Tryz.prog 165 #[.slice none 0 0] w fun e b=>e=.returned (.slice none 0 0)∧b=w:=by
 have d:=fun(W:World) (a:Option Addr) (n c:Nat)=>Lib.run_eql_slice_nil (P:=Tryz.prog) W 172 171 a n c 0 0 Tryz.underlying172
 go_enter Tryz.func165,Tryz.ntmps165;go_wp2;go_ret;exact⟨rfl,rfl⟩
theorem QE {w:World}:Calls Tryz.prog 166 #[.slice none 0 0] w fun e b=>e=.returned (.slice none 0 0)∧b=w:=by
 have d:=fun(W:World) (a:Option Addr) (n c:Nat)=>Lib.run_eql_slice_nil (P:=Tryz.prog) W 173 261 a n c 0 0 Tryz.underlying173
 go_enter Tryz.func166,Tryz.ntmps166;go_wp2;go_ret;exact⟨rfl,rfl⟩
structure MqOk (w:World) (F:List Nat) (y:Tm):Prop where
 mem:Rv w 1 y.vm y.m.mem.length (ints y.m.mem)
 old:Rv w 1 y.vo y.m.old.length (ints y.m.old)
 its:y.m.its=[]
 mks:y.m.mks=[]
 memF:0<y.m.mem.length→∀b,y.vm.ownBlock=some b→b∈F
 oldF:0<y.m.old.length→∀b,y.vo.ownBlock=some b→b∈F
theorem Rv.keepF {w e:World}{v:Value}{l:List Int}{S F:List Nat}(h:Rv w 1 v l.length (ints l))(k:Keep S w e)(hF:0<l.length→∀b,v.ownBlock=some b→b∈F)(f:∀q∈S,q∉F):Rv e 1 v l.length (ints l):=by
 by_cases c:0<l.length
 ·exact h.keep k (fun b g _ m=>f b m (hF c b g))
 ·obtain⟨j,a,cap,rfl,i,_⟩:=h
  exact⟨j,a,cap,rfl,i,fun d=>by rw[CK]at d;exact absurd d c⟩
theorem MqOk.keep {w b:World}{F S:List Nat}{y:Tm}(h:MqOk w F y)(k:Keep S w b)(a:∀q∈S,q∉F):MqOk b F y:=
 ⟨h.mem.keepF k h.memF a,h.old.keepF k h.oldF a,h.its,h.mks,h.memF,h.oldF⟩
theorem MqOk.mono {w:World}{F d:List Nat}{y:Tm}(h:MqOk w F y)(hF:∀q∈F,q∈d):MqOk w d y:=
 ⟨h.mem,h.old,h.its,h.mks,fun a b c=>hF _ (h.memF a b c),fun a b c=>hF _ (h.oldF a b c)⟩
theorem MqOk.rd {w:World}{F:List Nat}{y:Tm}(h:MqOk w F y):MsRd w y.m (.slice none 0 0) (.slice none 0 0) y.vm y.vo:=
 ⟨by rw[h.its];exact Y6 _ _,by rw[h.mks];exact Y6 _ _,h.mem,h.old⟩
theorem MqOk.one {w:World}{F:List Nat}{y:Tm}(h:MqOk w F y):∀v∈Cm y,v.oneCell'=true:=by obtain⟨_,a,c,e,_⟩:=h.mem;obtain⟨_,b,d,f,_⟩:=h.old;unfold Cm;rw[e,f];exact Hf _ _ _ _ _ _ _ _ _ _ _ _ _
theorem TmOk.mq {w:World}{y:Tm}(h:TmOk w y){F:List Nat}(a:∀b,y.vm.ownBlock=some b→b∈F)(c:∀b,y.vo.ownBlock=some b→b∈F):MqOk w F y:=
 ⟨by have:=h.mem.rv;rwa [CK]at this,by have:=h.old.rv;rwa [CK]at this,h.its,h.mks,fun _=>a,fun _=>c⟩
theorem Co {P:Program}{c:Func}{p u:Tmp}{ty:TypeId}(h:c.results=#[.cell p ty,.tmp u])(b:Array Value)(w:World)(g:Nat)(t:TypeId)(a:Array Value)(e:Nat×Nat)(d:TypeDesc)
  (k:b.getD p undef=pr g 0) (i:w.heap[g]?=some (.cells a t e))
  (m:P.underlying ty=some d) (f:(match d with| .struct _| .array _ _=>true|_=>false)=true) (j:(P.info? ty).map (·.size)=some a.size) (v:Value) (n:b.getD u undef=v):
  (results c b).run P w=.ok (.tuple #[.agg a,v]) w:=by
 subst n;have l:b[p]?.getD undef=pr g 0:=by simpa using k
 simp[results,h,l,asAddr,run_loadVar_row w g t ty a e d i m f j]
def ownS (a:World)(b r:Nat)(c:List Value)(y:Tm)(L:Nat→Bool)(X:Nat→Value)(W:World):Prop:=
 Keep [] a W∧Blk W b (CZ y.m (.slice none 0 0) (.slice none 0 0) (if L 17=true then X 8 else y.vm) (if L 19=true then X 11 else y.vo)) 175∧Blk W r c 175∧
 (L 8=true→Own W a.heap.size 3 (X 8) (ints y.m.mem))∧(L 11=true→Own W a.heap.size 3 (X 11) (ints y.m.old))∧(L 17=true→L 8=true)∧(L 19=true→L 11=true)
theorem MQ {w:World}{F:List Nat}(y:Tm)(h:MqOk w F y)(hz:y.m.mem.length≤1000∧y.m.old.length≤1000):Calls Tryz.prog 117 #[.agg (Cm y).toArray] w fun e w'=>∃(y':Tm) (F':List Nat),e=.returned (.agg (Cm y').toArray)∧y'.m=y.m∧MqOk w' F' y'∧(∀q∈F',w.heap.size≤q∧q<w'.heap.size)∧Keep [] w w':=by
 obtain⟨m,vm,vo⟩:=y;have hR:=h.rd;have hM:=h.mem;have hO:=h.old;simp only at hz hR hM hO;obtain⟨_,ma,ac,rfl,_,_⟩:=id hM;obtain⟨_,oa,ad,rfl,_,_⟩:=id hO;simp only[Cm]at*;go_enter Tryz.func117,Tryz.ntmps117;go_wp2_with fail;have ao:=BY w (CZ m (.slice none 0 0) (.slice none 0 0) (.slice ma m.mem.length ac) (.slice oa m.old.length ad)) 175;obtain⟨Q,ae⟩:∃Q,Q=w.alloc (.cells (CZ m (.slice none 0 0) (.slice none 0 0) (.slice ma m.mem.length ac) (.slice oa m.old.length ad)).toArray 175):=⟨_,rfl⟩;rw[←ae]at ao⊢;have k1:Keep [] w Q:=by rw[ae];exact(By _ _).alloc _
 have a1:Q.heap.size=w.heap.size+1:=by rw[ae];simp
 obtain⟨Y,av⟩:∃Y:List Value,Y=[.int .i64 0,.int .i64 0,.int .i64 0,.int .i64 0,.int .i64 0,.int .i64 0,.int .i64 0,.int .i64 0,.int .i64 0,.string ByteArray.empty,.int .i64 0,.bool false,.string ByteArray.empty,.string ByteArray.empty,.int .i64 0,.bool false,.slice none 0 0,.slice none 0 0,.slice none 0 0,.int .i64 0,.slice none 0 0]:=⟨_,rfl⟩;have au:=Yt Q Y 175 (w.heap.size+1) a1.symm;obtain⟨W2,aa⟩:∃W2,W2=Q.alloc (.cells Y.toArray 175):=⟨_,rfl⟩;have af:=aa;rw[av]at af;change _=Q.alloc (.cells #[.int .i64 0,.int .i64 0,.int .i64 0,.int .i64 0,.int .i64 0,.int .i64 0,.int .i64 0,.int .i64 0,.int .i64 0,.string {data:=#[]},.int .i64 0,.bool false,.string {data:=#[]},.string {data:=#[]},.int .i64 0,.bool false,.slice none 0 0,.slice none 0 0,.slice none 0 0,.int .i64 0,.slice none 0 0] 175)at af;rw[←af];rw[←aa]at au;have k2:Keep [] w W2:=by rw[aa];exact k1.alloc _
 have ay:Blk W2 w.heap.size (CZ m (.slice none 0 0) (.slice none 0 0) (.slice ma m.mem.length ac) (.slice oa m.old.length ad)) 175:=by rw[aa];exact ao.alloc _
 obtain⟨HZ,HM,HO⟩:=i_3 av hM hO;obtain⟨b,k⟩:∃b,b=w.heap.size:=⟨_,rfl⟩;obtain⟨r,hr⟩:∃r,r=w.heap.size+1:=⟨_,rfl⟩;rw[←hr]at au⊢;rw[←k]at ay⊢;obtain⟨HB,a3⟩:=i_2 k hr;have bb:b≠r:=by omega
 clear ae aa af a1 ao av hM hO k hr k1;refine wM (A:=[0,1,3,0,8,31,0,64,255,0,512,2047,1759,8191,16383,32767,65535,131071,262143,524287]) 698624 [fun _=>pr b 16,fun _=> .slice none 0 0,fun _=> .slice none 0 0,fun _=>pr b 17,fun _=> .slice none 0 0,fun _=> .slice none 0 0,fun _=>pr b 18,fun _=> .slice ma m.mem.length ac,fun _=>undef,fun _=>pr b 20,fun _=> .slice oa m.old.length ad,fun _=>undef,fun _=>pr b 16,fun _=>undef,fun _=>pr b 17,fun _=>undef,fun _=>pr b 18,fun _=>undef,fun _=>pr b 20,fun _=>undef] (ownS w b r Y ⟨m,.slice ma m.mem.length ac,.slice oa m.old.length ad⟩) ?start (.s ?m0<|.s ?m1<|.s ?m2<|.s ?m3<|.s ?m4<|.s ?m5<|.s ?m6<|.s ?m7<|.t ?m8<|.s ?m9<|.s ?m10<|.t ?m11<|.s ?m12<|.t ?m13<|.s ?m14<|.t ?m15<|.s ?m16<|.t ?m17<|.s ?m18<|.t ?m19<|.nil) ?fin
 case start=>intro X;exact⟨k2.drew,ay.drew,au.drew,fun h=>absurd h (by decide),fun h=>absurd h (by decide),fun h=>absurd h (by decide),fun h=>absurd h (by decide)⟩
 case fin=>
  intro L X w2 R hd;obtain⟨n,a,f,d,c,g,i⟩:=R;have am:=hd 17 (by decide) (by decide);have an:=hd 19 (by decide) (by decide);have V:=d (g am);have U:=c (i an);simp only[am,an,D5]at a;obtain⟨x8,ar⟩:∃v,v=X 8:=⟨_,rfl⟩;obtain⟨bc,aq⟩:∃v,v=X 11:=⟨_,rfl⟩;rw[←ar]at a V;rw[←aq]at a U;simp[Al,Act.put,FK,Ab];rw[←ar,←aq];clear ar aq d c g i am an hd;obtain⟨a7,al,ak⟩:=i_3 n V U;clear V U n;obtain⟨a8,c8,ah⟩:=al.out.slice;obtain⟨Z,c11,ag⟩:=ak.out.slice;rw[CK]at ah ag;rw[ah,ag]at a;obtain⟨a5,a4⟩:=i_2 ah ag;have a2:Y.length=(CZ m (.slice none 0 0) (.slice none 0 0) (.slice a8 m.mem.length c8) (.slice Z m.old.length c11)).length :=by rw[HZ.out];rfl
  have a6:=h_ a2;clear ah ag a2
  go_wp2_with (first|(refine BA 175 _ rfl b rfl 175 (CZ m (.slice none 0 0) (.slice none 0 0) (.slice a8 m.mem.length c8) (.slice Z m.old.length c11)).toArray (0,0) _ a AV rfl C4 (by rfl) ?_)|(refine AS rfl _ _ _ rfl r Y (CZ m (.slice none 0 0) (.slice none 0 0) (.slice a8 m.mem.length c8) (.slice Z m.old.length c11)) 175 rfl rfl f a6.out C4 (Hf _ _ _ _ _ _ _ _ _ _ _ _ _) ?_;intro w3 h5 k5))
  have V:=al.out.keep k5 (fun q o z=>by simp only[Ah]at z;subst z;exact(al.out.ty _ o).ne f.ty (by decide) rfl)
  have U:=ak.out.keep k5 (fun q o z=>by simp only[Ah]at z;subst z;exact(ak.out.ty _ o).ne f.ty (by decide) rfl)
  have kf:Keep [] w w3:=a7.out.then k5 (fun q o a9=>by simp only[Ah]at o;rw[o,a3.out]at a9;omega);rw[a5.out]at V;rw[a4.out]at U;have a0:=V.rv;have az:=U.rv;rw[CK]at a0 az;refine Be (v:= .agg (CZ m (.slice none 0 0) (.slice none 0 0) (.slice a8 m.mem.length c8) (.slice Z m.old.length c11)).toArray) ?_ rfl ?_
  ·exact results_cell_row Tryz.results117 _ _ r 175 _ (0,0) _ rfl h5 AV rfl C4
  ·refine⟨⟨m,_,_⟩,rfl,rfl,(Value.slice a8 m.mem.length c8).ownBlock.toList ++(Value.slice Z m.old.length c11).ownBlock.toList,⟨a0,az,h.its,h.mks,fun _ q o=>A2 _ (Ae.2 o),fun _ q o=>AQ _ (Ae.2 o)⟩,fun q o=> ?_,kf⟩
   rcases Ag.1 o with o|o
   ·exact V.lt q (Ae.1 o)
   ·exact U.lt q (Ae.1 o)
 case' m8|m11|m13|m15|m17|m19=>intro L X x W R M H D ab I G B hB K' E;have C:=h_ R;obtain⟨n,a,f,d,c,g,i⟩:=R;have c16:=EH a;have c17:=Fb a;have c18:=a.cell 18;have c20:=a.cell 20;simp only[CZ,List.getElem?_cons_succ,List.getElem?_cons_zero]at c18 c20;clear n a f d c g i;simp[mV,mY,Ab]at ab;simp only[Al,Act.put,A8,A7,A6,ab]at hB;subst hB
 case m8=>
  clear H D I G;go_simp;refine(Ji _ m.mem (HM.out.keep C.out.1 (by simp)) (by omega)).mono ?_;rintro e w2 ⟨v',rfl,ap,N⟩;obtain⟨n,a,f,d,c,g,i⟩:=C.out;go_simp;refine E _ _ _ rfl ⟨n.trans N, ?_,f.keep N (by simp),fun _=>by rw[Bh];exact ap.mono n.size,fun h=> ?_,fun h=> ?_,fun h=> ?_⟩
  ·have aw:L 17=false:=by cases h:L 17 with|false=>rfl|true=>rw[g h]at M;cases M
   simp only[aw]at a;simp only[upd,aw];exact a.keep N (by simp)
  ·rw[Bs _ _ _ _ (by decide)]at h⊢
   exact(c h).keep N (by simp)
  ·rw[Bs _ _ _ _ (by decide)]at h
   rw[Bh]
  ·rw[Bs _ _ _ _ (by decide)]at h⊢
   exact i h
 case m11=>
  clear H D I G;go_simp;refine(Ji _ m.old (HO.out.keep C.out.1 (by simp)) (by omega)).mono ?_;rintro e w2 ⟨v',rfl,ap,N⟩;obtain⟨n,a,f,d,c,g,i⟩:=C.out;go_simp;refine E _ _ _ rfl ⟨n.trans N, ?_,f.keep N (by simp),fun h=> ?_,fun _=>by rw[Bh];exact ap.mono n.size,fun h=> ?_,fun h=> ?_⟩
  ·have ax:L 19=false:=by cases h:L 19 with|false=>rfl|true=>rw[i h]at M;cases M
   simp only[ax]at a;simp only[upd,ax];exact a.keep N (by simp)
  ·rw[Bs _ _ _ _ (by decide)]at h⊢
   exact(d h).keep N (by simp)
  ·rw[Bs _ _ _ _ (by decide)]at h⊢
   exact g h
  ·rw[Bs _ _ _ _ (by decide)]at h
   rw[Bh]
 case m13=>
  clear H D I G M;obtain⟨n,a,f,d,c,g,i⟩:=C.out;have fr:=a.free 16;have k:=a.set 16 (.slice none 0 0);have j:Keep [b] W (W.setCell ⟨b,16,none⟩ (.slice none 0 0)):=(By _ _).setCell (.inl (by simp)) _;have u:Keep [] w (W.setCell ⟨b,16,none⟩ (.slice none 0 0)):=n.setCell (.inr (by show w.heap.size≤b;rw[HB.out];exact Av _)) _
  have p:∀(v:Value) (l:List Int),Own W w.heap.size 3 v (ints l)→∀q,v.ownBlock=some q→q∉ [b]:=fun v l S q o z=>by simp only[Ah]at z;subst z;exact(S.ty _ o).ne a.ty (by decide) rfl
  have O:=h_4 k j u p;have P:=h_5 d c g i f;clear k j u p d c g i f n a;go_simp;obtain⟨k,j,u,p⟩:=O.out;obtain⟨d,c,g,i,f⟩:=P.out;refine E undef _ _ rfl ⟨u, ?_,f.keep j (by simp;omega),fun h=>by simp[upd]at h⊢;exact(d h).keep j (p _ _ (d h)),fun h=>by simp[upd]at h⊢;exact(c h).keep j (p _ _ (c h)),fun h=>by simp[upd]at h⊢;exact g h,fun h=>by simp[upd]at h⊢;exact i h⟩;simp[upd];exact k
 case m15=>
  clear H D I G M;obtain⟨n,a,f,d,c,g,i⟩:=C.out;have fr:=a.free 17;have k:=a.set 17 (.slice none 0 0);have j:Keep [b] W (W.setCell ⟨b,17,none⟩ (.slice none 0 0)):=(By _ _).setCell (.inl (by simp)) _;have u:Keep [] w (W.setCell ⟨b,17,none⟩ (.slice none 0 0)):=n.setCell (.inr (by show w.heap.size≤b;rw[HB.out];exact Av _)) _
  have p:∀(v:Value) (l:List Int),Own W w.heap.size 3 v (ints l)→∀q,v.ownBlock=some q→q∉ [b]:=fun v l S q o z=>by simp only[Ah]at z;subst z;exact(S.ty _ o).ne a.ty (by decide) rfl
  have O:=h_4 k j u p;have P:=h_5 d c g i f;clear k j u p d c g i f n a;go_simp;obtain⟨k,j,u,p⟩:=O.out;obtain⟨d,c,g,i,f⟩:=P.out;refine E undef _ _ rfl ⟨u, ?_,f.keep j (by simp;omega),fun h=>by simp[upd]at h⊢;exact(d h).keep j (p _ _ (d h)),fun h=>by simp[upd]at h⊢;exact(c h).keep j (p _ _ (c h)),fun h=>by simp[upd]at h⊢;exact g h,fun h=>by simp[upd]at h⊢;exact i h⟩;simp[upd];exact k
 case m17=>
  have q8:=D 8 (by decide);obtain⟨xa,xc,J⟩:=(C.out.2.2.2.1 q8).slice;have T:=H 8 q8;have K:L 17=false:=M;clear H D I G M;obtain⟨n,a,f,d,c,g,i⟩:=C.out;have fr:=a.free 18;rw[CK]at J;rw[J]at T;have k:=a.set 18 (X 8);have j:Keep [b] W (W.setCell ⟨b,18,none⟩ (X 8)):=(By _ _).setCell (.inl (by simp)) _;have u:Keep [] w (W.setCell ⟨b,18,none⟩ (X 8)):=n.setCell (.inr (by show w.heap.size≤b;rw[HB.out];exact Av _)) _
  have p:∀(v:Value) (l:List Int),Own W w.heap.size 3 v (ints l)→∀q,v.ownBlock=some q→q∉ [b]:=fun v l S q o z=>by simp only[Ah]at z;subst z;exact(S.ty _ o).ne a.ty (by decide) rfl
  rw[J]at k j u;have O:=h_4 k j u p;have P:=h_5 d c g i f;obtain⟨HX,HQ,aj⟩:=i_3 J q8 K;clear k j u p d c g i f n a J K q8;simp only[←T]at E⊢;clear T;go_simp;obtain⟨k,j,u,p⟩:=O.out;obtain⟨d,c,g,i,f⟩:=P.out;refine E undef _ _ rfl ⟨u, ?_,f.keep j (by simp;omega),fun h=>by simp[upd]at h⊢;exact(d h).keep j (p _ _ (d h)),fun h=>by simp[upd]at h⊢;exact(c h).keep j (p _ _ (c h)),fun h=>by simp[upd];exact HQ.out,fun h=>by simp[upd]at h⊢;exact i h⟩;have K:=aj.out;simp only[K]at k;simp[upd,HX.out];exact k
 case m19=>
  have ai:=D 11 (by decide);obtain⟨xa,xc,J⟩:=(C.out.2.2.2.2.1 ai).slice;have T:=H 11 ai;have K:L 19=false:=M;clear H D I G M;obtain⟨n,a,f,d,c,g,i⟩:=C.out;have fr:=a.free 20;rw[CK]at J;rw[J]at T;have k:=a.set 20 (X 11);have j:Keep [b] W (W.setCell ⟨b,20,none⟩ (X 11)):=(By _ _).setCell (.inl (by simp)) _;have u:Keep [] w (W.setCell ⟨b,20,none⟩ (X 11)):=n.setCell (.inr (by show w.heap.size≤b;rw[HB.out];exact Av _)) _
  have p:∀(v:Value) (l:List Int),Own W w.heap.size 3 v (ints l)→∀q,v.ownBlock=some q→q∉ [b]:=fun v l S q o z=>by simp only[Ah]at z;subst z;exact(S.ty _ o).ne a.ty (by decide) rfl
  rw[J]at k j u;have O:=h_4 k j u p;have P:=h_5 d c g i f;obtain⟨HX,HQ,aj⟩:=i_3 J ai K;clear k j u p d c g i f n a J K ai;simp only[←T]at E⊢;clear T;go_simp;obtain⟨k,j,u,p⟩:=O.out;obtain⟨d,c,g,i,f⟩:=P.out;refine E undef _ _ rfl ⟨u, ?_,f.keep j (by simp;omega),fun h=>by simp[upd]at h⊢;exact(d h).keep j (p _ _ (d h)),fun h=>by simp[upd]at h⊢;exact(c h).keep j (p _ _ (c h)),fun h=>by simp[upd]at h⊢;exact g h,fun h=>by simp[upd];exact HQ.out⟩;have K:=aj.out;simp only[K]at k;simp[upd,HX.out];exact k
 all_goals intro L X x W R H D ab I G B hB K' E;have C:=h_ R;obtain⟨n,a,f,d,c,g,i⟩:=R;have c16:=EH a;have c17:=Fb a;have c18:=a.cell 18;have c20:=a.cell 20;simp only[CZ,List.getElem?_cons_succ,List.getElem?_cons_zero]at c18 c20;clear n a f d c g i;simp[mV,mY,Ab]at ab;simp only[Al,Act.put,A8,A7,A6,ab]at hB;subst hB
 case m7=>have K:L 17=false:=G 17 (by decide);clear H D I G;simp only[K]at c18;go_simp;exact E _ _ _ rfl rfl C.out
 case m10=>have ba:L 19=false:=G 19 (by decide);clear H D I G;simp only[ba]at c20;go_simp;exact E _ _ _ rfl rfl C.out
 case m2=>clear H D I G;go_simp;refine QF.mono ?_;rintro e w2 ⟨rfl,rfl⟩;go_simp;exact E _ _ _ rfl rfl C.out
 case m5=>clear H D I G;go_simp;refine QE.mono ?_;rintro e w2 ⟨rfl,rfl⟩;go_simp;exact E _ _ _ rfl rfl C.out
 all_goals clear H D I G;go_simp;exact E _ _ _ rfl rfl C.out
structure NetAt (w:World) (p:Nat) (v:Value) (I:List Nat) (L:List Tm):Prop where
 blk:Blk w p [v] 134
 own:w.ownsRow 0 175 21 v L.length (tc L)
 ok:∀y∈L,MqOk w I y
 small:∀y∈L,y.m.mem.length≤1000∧y.m.old.length≤1000
 len:L.length≤300
 nI:p∉I∧∀b,v.ownBlock=some b→b∉I
 lt:∀q∈I,q<w.heap.size
def He (p:Nat)(v:Value)(I:List Nat):List Nat:=p::(v.ownBlock.toList++I)
theorem tc_len (L:List Tm):(tc L).length =L.length*21:=Iv Cm 21 (fun _=>rfl) L
theorem tc_one {w:World}{I:List Nat}{L:List Tm}(h:∀y∈L,MqOk w I y):∀u∈tc L,u.oneCell'=true:=by intro u a;obtain⟨c,b,a⟩:=DY.1 a;obtain⟨y,d,rfl⟩:=AI.1 b;exact(h y d).one u a
theorem UX (L:List Tm)(i:Nat):(tc L).take (i*21)++(tc L).drop ((i+1)*21)=tc (L.eraseIdx i):=by
 rw[List.eraseIdx_eq_take_drop_succ]
 have b:∀(L:List Tm) (k:Nat),(tc L).take (k*21)=tc (L.take k):=by
  intro L
  induction L with
  |nil=>intro k;simp[tc]
  |cons y L ih=>
   intro k
   cases k with
   |zero=>simp[tc]
   |succ k=>
    have e:tc (y::L)=Cm y++tc L:=by simp[tc]
    have a:(Cm y).length =21:=rfl;rw[e,show(k+1)*21=(Cm y).length +k*21 by rw[a];omega,List.take_length_add_append,ih];simp[tc]
 have c:∀(L:List Tm) (k:Nat),(tc L).drop (k*21)=tc (L.drop k):=by
  intro L
  induction L with
  |nil=>intro k;simp[tc]
  |cons y L ih=>
   intro k
   cases k with
   |zero=>simp
   |succ k=>
    have e:tc (y::L)=Cm y++tc L:=by simp[tc]
    have a:(Cm y).length =21:=rfl;rw[e,show(k+1)*21=(Cm y).length +k*21 by rw[a];omega,List.drop_length_add_append,ih];simp
 rw[b,c];simp[tc]
section
variable {w w':World} {p:Nat} {v:Value} {I:List Nat} {L:List Tm}
theorem NetAt.vlt (h:NetAt w p v I L):∀b,v.ownBlock=some b→b<w.heap.size:=fun b a=>(B3 h.own b a).2
theorem NetAt.vty (h:NetAt w p v I L):∀k,v.ownBlock=some k→Ty w k 175:=by
 intro k a;rcases h.own.2 with⟨rfl,e⟩|⟨g,cap,c,rfl,d,b,r⟩
 ·cases a
 ·cases a;exact⟨_,_,b⟩
theorem NetAt.ltF (h:NetAt w p v I L):∀q∈He p v I,q<w.heap.size:=by
 intro q a;rcases Ac.1 a with rfl|a
 ·exact h.blk.lt
 ·rcases Ag.1 a with a|a
  ·exact h.vlt q (Ae.1 a)
  ·exact h.lt q a
theorem Ef {w w':World}{base k n:Nat}{T:TypeId}{v:Value}{xs:List Value}{S:List Nat}(h:w.ownsRow base T k v n xs)(j:Keep S w w')(c:∀b,v.ownBlock=some b→b∉S):w'.ownsRow base T k v n xs:=by
 have f:=B3 h;refine⟨h.1, ?_⟩;rcases h.2 with⟨rfl,i⟩|⟨g,cap,a,rfl,d,e,r⟩
 ·exact .inl ⟨rfl,i⟩
 ·exact .inr ⟨g,cap,a,rfl,d,by rw[j.block g (f g rfl).2 (c g rfl)];exact e,r⟩
theorem NetAt.keep {S:List Nat}(h:NetAt w p v I L)(k:Keep S w w')(c:∀q∈S,q∉He p v I):NetAt w' p v I L:=by
 have d:p∉S:=fun a=>c p a (Bx ..)
 have e:∀b,v.ownBlock=some b→b∉S:=fun b g a=>c b a (Ap _ (A2 _ (Ae.2 g)))
 have f:∀q∈S,q∉I:=fun q a i=>c q a (Ap _ (AQ _ i))
 exact⟨h.blk.keep k d,Ef h.own k e,fun y l=>(h.ok y l).keep k f,h.small,h.len,h.nI,fun q j=>AW (h.lt q j) k.size⟩
theorem NetAt.still (h:NetAt w p v I L)(k:Keep [] w w'):NetAt w' p v I L:=h.keep k (by simp)
theorem NetAt.slice (h:NetAt w p v I L):∃a cap,v=.slice a L.length cap:=A4 h.own
theorem NetAt.at_ (h:NetAt w p v I L){i:Nat}{y:Tm}(c:L[i]?=some y):∃g cap,v=.slice (some ⟨g,0,none⟩) L.length cap∧g<w.heap.size∧g≠p∧w.rangeAt g (i*21) (Cm y):=by
 have f:=(Ai.1 c).1;have t:=tc_len L;rcases h.own.2 with⟨rfl,m⟩|⟨g,cap,o,rfl,q,d,u,r,s,n⟩
 ·rw[m]at f;omega
 ·refine⟨g,cap,rfl,h.vlt g rfl,fun e=>by have:=h.vty g rfl;rw[e]at this;exact this.ne h.blk.ty (by decide) rfl,fun j x b=> ?_⟩
  have k:=(Ai.1 b).1;have l:j<21:=k
  have a:(tc L)[i*21+j]?=some x:=by unfold tc;rw[Gc Cm 21 (fun _=>rfl) L i j l,c];exact b
  rw[←n,BP]at a
  split at a
  ·simp only[World.cell?,d]
   rw[←CV];exact a
  ·cases a
theorem Ro {w:World}:Calls Tryz.prog 64 #[] w fun e w'=>∃p,e=.returned (pr p 0)∧NetAt w' p (.slice none 0 0) [] []∧Keep [] w w'∧w.heap.size≤p:=by go_enter Tryz.func64,Tryz.ntmps64;go_wp2;go_ret;exact⟨_,rfl,⟨BY w _ _,AY _ _ _ 21,by simp,by simp,by simp,⟨by simp,fun b a=>by cases a⟩,by simp⟩,(By _ _).alloc _,Av _⟩
theorem Jb (h:NetAt w p v I L):Calls Tryz.prog 35 #[pr p 0] w fun e w'=>e=.returned (.int .i64 (L.length:Int))∧w'=w:=by have b:=h.blk.cell 0;obtain⟨a,cap,rfl⟩:=h.slice;go_enter Tryz.func35,Tryz.ntmps35;go_wp2;go_ret;exact⟨rfl,rfl⟩
theorem Pm (h:NetAt w p v I L)(i:Nat)(y:Tm)(c:L[i]?=some y):Calls Tryz.prog 92 #[pr p 0,.int .i64 (i:Int)] w fun e w'=>
  ∃(n:Tm) (f:List Nat),e=.returned (.tuple #[.agg (Cm n).toArray,.bool true])∧n.m=y.m∧MqOk w' f n∧(∀q∈f,w.heap.size≤q∧q<w'.heap.size)∧Keep [] w w':=by
 obtain⟨g,cap,rfl,hg,af,hr⟩:=h.at_ c;have hi:=(Ai.1 c).1;obtain⟨d,B⟩:∃d:List Value,d=[.int .i64 0,.int .i64 0,.int .i64 0,.int .i64 0,.int .i64 0,.int .i64 0,.int .i64 0,.int .i64 0,.int .i64 0,.string ByteArray.empty,.int .i64 0,.bool false,.string ByteArray.empty,.string ByteArray.empty,.int .i64 0,.bool false,.slice none 0 0,.slice none 0 0,.slice none 0 0,.int .i64 0,.slice none 0 0]:=⟨_,rfl⟩;have l:=Yt w d 175 w.heap.size rfl;obtain⟨x,o⟩:∃x,x=w.alloc (.cells d.toArray 175):=⟨_,rfl⟩;have s:=o;rw[B]at s;change _=w.alloc (.cells #[.int .i64 0,.int .i64 0,.int .i64 0,.int .i64 0,.int .i64 0,.int .i64 0,.int .i64 0,.int .i64 0,.int .i64 0,.string {data:=#[]},.int .i64 0,.bool false,.string {data:=#[]},.string {data:=#[]},.int .i64 0,.bool false,.slice none 0 0,.slice none 0 0,.slice none 0 0,.int .i64 0,.slice none 0 0] 175)at s;rw[←o]at l;have C:Keep [] w x:=by rw[o];exact(By _ _).alloc _
 have k:=h.still C;have c0:=k.blk.cell 0;obtain⟨g',ae,Y,_,_,N⟩:=k.at_ c;injection Y with he1 _ he2;injection he1 with he1;injection he1 with he1;subst he1 he2;have S:=h_ N;have R:=h_ (Jb k);have P:=h_ (k.ok y (Aq c));have U:=h_ (k.small y (Aq c));have q0:¬(i:Int)<0:=by omega
 have q1:decide ((L.length:Int)≤(i:Int))=false:=Ak (by omega);have q2:i<L.length:=hi;obtain⟨V,K⟩:=i_2 B C;obtain⟨r,u⟩:∃r,r=w.heap.size:=⟨_,rfl⟩;rw[←u]at l;have T:=h_ u;clear B o N hr C c h;go_enter Tryz.func92,Tryz.ntmps92;go_wp2_with fail;rw[←s,←u];clear s u;refine R.out.mono ?_;rintro e w3 ⟨rfl,rfl⟩
 go_wp2_with (refine Bc rfl 175 _ rfl g (i*21) rfl (Cm y) _ S.out AV rfl (by rfl) ?_)
 refine(MQ y P.out U.out).mono ?_;rintro e w4 ⟨n,f,rfl,t,a,M,D⟩;have ad:=l.keep D (by simp);have ag:=l.lt;have j:=h_3 t M D;have Q:=h_ a;obtain⟨b,ah,ai⟩:=n;have z:=a.mem;have A:=a.old;simp only at z A;obtain⟨_,F,G,ab,_,_⟩:=id z;obtain⟨_,H,J,ac,_,_⟩:=id A;subst ab ac;have W:Hid (d.length=(Cm ⟨b,.slice F b.mem.length G,.slice H b.old.length J⟩).length):=h_ (by rw[V.out];rfl);clear t M D a z A l
 go_wp2_with (refine AS rfl _ _ _ rfl r d (Cm ⟨b,.slice F b.mem.length G,.slice H b.old.length J⟩) 175 rfl rfl ad W.out C4 (Hf _ _ _ _ _ _ _ _ _ _ _ _ _) ?_;intro O X E)
 have kf:Keep [] w O:=(K.out.trans j.out.2.2).then E (fun q a aa=>by simp only[Ah]at a;rw[a,T.out]at aa;omega);have Z:∀q∈f,w.heap.size≤q∧q<O.heap.size:=fun q a=>⟨AJ K.out.size (j.out.2.1 q a).1,AW (j.out.2.1 q a).2 E.size⟩
 refine Be (v:= .tuple #[.agg (Cm ⟨b,.slice F b.mem.length G,.slice H b.old.length J⟩).toArray,.bool true]) ?_ rfl ?_
 ·exact Co Tryz.results92 _ _ r 175 _ (0,0) _ rfl X AV rfl C4 _ rfl
 ·exact⟨_,f,rfl,j.out.1,Q.out.keep E (fun q a t=>by simp only[Ah]at a;subst a;have:=(j.out.2.1 _ t).1;omega),Z,kf⟩
theorem Pn (h:NetAt w p v I L)(i:Nat)(k:i<L.length):Calls Tryz.prog 93 #[pr p 0,.int .i64 (i:Int)] w fun e w'=>
  ∃u,e=.returned (.bool true)∧NetAt w' p u I (L.eraseIdx i)∧Keep (p::v.ownBlock.toList) w w'∧(∀b,u.ownBlock=some b→v.ownBlock=some b):=by
 have o:=Jb h;rcases h.own.2 with⟨rfl,P⟩|⟨g,cap,K,rfl,j,F,Q,D,E,G⟩
 ·omega
 have J:=h.blk.cell 0;have M:=h.blk.free 0;have O:=h.len;have r:g≠p:=fun e=>by have:=h.vty g rfl;rw[e]at this;exact this.ne h.blk.ty (by decide) rfl
 have z:=h_ (Su (w:=w) h.own (tc_one h.ok) i k (by omega) ((i:Int)+1) rfl);obtain⟨H,A⟩:=i_2 h o;have R:¬(i:Int)<0:=by omega
 have S:decide ((L.length:Int)≤(i:Int))=false:=Ak (by omega);have T:i<L.length:=k;clear o G F E D;go_enter Tryz.func93,Tryz.ntmps93;go_wp2_with fail;refine A.out.mono ?_;rintro e U ⟨rfl,rfl⟩;go_wp2_with fail;refine z.out.mono ?_;rintro e x ⟨rfl,d,f⟩;have c:=H.out.blk.keep f (by simpa using r.symm);have c4:=c.cell 0;have N:=c.free 0;have B:=h_3 d f c;clear d f c;go_wp2;go_ret;obtain⟨d,f,c⟩:=B.out;have C:=c.set 0 (.slice (some ⟨g,0,none⟩) (L.length-1) cap);have t:Keep [p] x (x.setCell ⟨p,0,none⟩ (.slice (some ⟨g,0,none⟩) (L.length-1) cap)):=(By _ _).setCell (.inl (by simp)) _;have s:(L.eraseIdx i).length =L.length-1:=List.length_eraseIdx_of_lt k;have m:=(f.mono (S':=[p,g]) (fun q a _=>by simp at a;simp[a])).trans (t.mono (S':=[p,g]) (fun q a _=>by simp at a;simp[a]));rw[UX]at d;refine⟨_,rfl,⟨C, ?_,fun y l=>(H.out.ok y (List.mem_of_mem_eraseIdx l)).keep m (fun q a n=> ?_),fun y l=>H.out.small y (List.mem_of_mem_eraseIdx l),by rw[s];omega,H.out.nI,fun q a=>AW (H.out.lt q a) m.size⟩,m,fun b j=>j⟩
 ·rw[s]
  exact Ef d t (fun b j=>by cases j;simpa using r)
 ·simp only[Ac,Am,AG]at a
  rcases a with rfl|rfl
  ·exact H.out.nI.1 n
  ·exact H.out.nI.2 _ rfl n
end
def sendS (d:World)(p t:Nat)(J:List Nat)(c:Value)(K:List Tm)(y:Tm)(L:Nat→Bool)(X:Nat→Value)(W:World):Prop:=
 ∃(a:Tm) (e:List Nat) (b:Nat),Keep (p::c.ownBlock.toList) d W∧Blk W p [if L 11=true then X 8 else c] 134∧Blk W t (Cm y) 175∧
 (L 6=true→X 6=.agg (Cm a).toArray ∧a.m=y.m∧MqOk W e a∧∀q∈e,d.heap.size≤q∧q<W.heap.size)∧
 (L 7=true→X 7=.slice (some ⟨b,0,none⟩) 1 1∧(L 8=false→Blk W b (Cm a) 175)∧d.heap.size≤b)∧
 (L 8=false→W.ownsRow 0 175 21 c K.length (tc K))∧
 (L 8=true→W.ownsRow 0 175 21 (X 8) (K.length+1) (tc K++Cm a)∧∀q,(X 8).ownBlock =some q→(c.ownBlock=some q∨d.heap.size≤q)∧q∉e)∧(L 7=true→L 6=true)∧(L 8=true→L 7=true)∧(L 11=true→L 8=true)∧(L 6=false→MqOk W J y)
theorem Ke {w:World}{p:Nat}{v mv:Value}{I J:List Nat}{L M:List Tm}(h:NetAt w p v I L)(l:w.ownsRow 0 175 21 mv M.length (tc M))(hM:∀y∈M,MqOk w J y)(br:∀y∈M,y.m.mem.length≤1000∧y.m.old.length≤1000)
  (bk:∀y∈M,mayM y.m=true∧MsSz y.m) (a5:L.length+M.length≤300) (bh:∀b,mv.ownBlock=some b→v.ownBlock≠some b) (hJ:∀q∈J,q≠p∧v.ownBlock≠some q∧q<w.heap.size):
  Calls Tryz.prog 88 #[pr p 0,mv] w fun e w'=>∃(v':Value) (I':List Nat) (L2:List Tm),e=.returned (.int .i64 (M.length:Int))∧NetAt w' p v' I' (L++L2)∧L2.map (·.m)=M.map (·.m)∧Keep (p::v.ownBlock.toList) w w'∧
   (∀q,v'.ownBlock=some q→v.ownBlock=some q∨w.heap.size≤q)∧(∀q∈I',q∈I∨w.heap.size≤q):=by
 obtain⟨im,ce,cl,cm,au⟩:=AU Y2;obtain⟨a,cap,rfl⟩:=h.slice;obtain⟨ma,a8,rfl⟩:=A4 l;have c0:=h.blk.cell 0
 have bn:∀b,(Value.slice ma M.length a8).ownBlock =some b→Ty w b 175:=by
  intro k hk;rcases l.2 with⟨Q,hn⟩|⟨g,cap,be,Q,hb,hg,r⟩
  ·rw[Q]at hk;cases hk
  ·rw[Q]at hk;cases hk;exact⟨_,_,hg⟩
 have bl:∀b,(Value.slice ma M.length a8).ownBlock =some b→b≠p:=fun b hb e=>by subst e;exact(bn _ hb).ne h.blk.ty (by decide) rfl
 have bz:Hid (∀b,(Value.slice ma M.length a8).ownBlock =some b→b∉p::(Value.slice a L.length cap).ownBlock.toList):=h_ (fun b hb c=>by
  rcases Ac.1 c with rfl|c
  ·exact bl _ hb rfl
  ·exact bh b hb (Ae.1 c))
 have HJ:Hid (∀q∈p::(Value.slice a L.length cap).ownBlock.toList,q∉J):=h_ (fun q c hj=>by
  obtain⟨n,h2,_⟩:=hJ q hj;rcases Ac.1 c with rfl|c
  ·exact n rfl
  ·exact h2 (Ae.1 c))
 obtain⟨H,HM,b5,b8,b4⟩:=i_5 h l hM br bk;have co:L.length≤300:=by omega
 have cp:M.length≤300:=by omega
 have ba:=h_ a5;obtain⟨zs,bv⟩:∃zs:List Value,zs=[.int .i64 0,.int .i64 0,.int .i64 0,.int .i64 0,.int .i64 0,.int .i64 0,.int .i64 0,.int .i64 0,.int .i64 0,.string ByteArray.empty,.int .i64 0,.bool false,.string ByteArray.empty,.string ByteArray.empty,.int .i64 0,.bool false,.slice none 0 0,.slice none 0 0,.slice none 0 0,.int .i64 0,.slice none 0 0]:=⟨_,rfl⟩;have HZ:=h_ bv;clear h l hM br bk a5 hJ bn bl bh bv;go_enter Tryz.func88,Tryz.ntmps88;go_wp2_with fail;clear c0
 go_loopw [17] (fun cn wr=>∃(j:Nat) (v1:Value) (I1:List Nat) (G:List Tm),cn=.int .i64 (j:Int)∧j≤M.length∧NetAt wr p v1 I1 (L++G)∧G.map (·.m)=(M.take j).map (·.m)∧Keep (p::(Value.slice a L.length cap).ownBlock.toList) w wr∧
   (∀q,v1.ownBlock=some q→(Value.slice a L.length cap).ownBlock =some q∨w.heap.size≤q)∧(∀q∈I1,q∈I∨w.heap.size≤q)) (fun x _=>M.length+1-(intOf x).toNat)
 case atStart=>exact⟨0,_,I,[],rfl,AA _,by rw[AE];exact H.out,rfl,By _ _,fun q c=> .inl c,fun q c=> .inl c⟩
 case round=>
 obtain⟨j,v1,I1,G,rfl,hj,n,ad,f,ag,ai⟩:=hrel;have an:G.length=j:=by have:=A3 List.length ad;simpa[BZ hj]using this
 have aq:(L++G).length =L.length+j:=by rw[Aj,an]
 obtain⟨a1,ah,bt⟩:=n.slice;rw[aq]at bt;subst bt;by_cases ar:j<M.length
 ·have q0:decide ((j:Int)<(M.length:Int))=true:=An (by omega)
  obtain⟨y,hy⟩:∃y,M[j]?=some y:=⟨_,Ad ar⟩;have a2:=Aq hy;have bm:=Ef HM.out f bz.out
  obtain⟨g,cc,bj⟩:∃g,ma=some ⟨g,0,none⟩∧wr.rangeAt g (j*21) (Cm y):=by
   rcases bm.2 with⟨Q,hn⟩|⟨g,cap,be,Q,hb,hg,cs,cq,cr,ck⟩
   ·injection Q with _ Q _;omega
   ·injection Q with Q _ _
    refine⟨g,Q,fun i x C=> ?_⟩;have cd:i<21:=(Ai.1 C).1
    have e1:(tc M)[j*21+i]?=some x:=by unfold tc;rw[Gc Cm 21 (fun _=>rfl) M j i cd,hy];exact C
    rw[←ck,BP]at e1
    split at e1
    ·simp only[World.cell?,hg]
     rw[←CV];exact e1
    ·cases e1
  subst cc;have a7:MqOk wr J y:=(b5.out y a2).keep f HJ.out;obtain⟨b1,bd⟩:=i_2 bj a7;have bb:=h_ (b4.out y a2);have bc:=h_ (b8.out y a2);have HY:=h_ hy;have ak:=h_7 n ad f ag ai an aq;have au:=Yt wr zs 175 wr.heap.size rfl;obtain⟨W2,az⟩:∃W2,W2=wr.alloc (.cells zs.toArray 175):=⟨_,rfl⟩;have aw:=az;rw[HZ.out]at aw;change _=wr.alloc (.cells #[.int .i64 0,.int .i64 0,.int .i64 0,.int .i64 0,.int .i64 0,.int .i64 0,.int .i64 0,.int .i64 0,.int .i64 0,.string {data:=#[]},.int .i64 0,.bool false,.string {data:=#[]},.string {data:=#[]},.int .i64 0,.bool false,.slice none 0 0,.slice none 0 0,.slice none 0 0,.int .i64 0,.slice none 0 0] 175)at aw;rw[←az]at au;have k2:Keep [] wr W2:=by rw[az];exact(By _ _).alloc _
  have b3:=h_ k2;obtain⟨t,ht⟩:∃t,t=wr.heap.size:=⟨_,rfl⟩;rw[←ht]at au;have HT:=h_ ht;have bo:∀u∈Cm y,u.oneCell'=true:=a7.one;have b7:=h_ bo;have ca:Hid (zs.length=(Cm y).length):=h_ (by rw[HZ.out];rfl);have c0:=n.blk.cell 0;clear hy a2 bm bj a7 n ad f ag ai an aq az k2 bo
  go_wp2_with (first|(refine Bc rfl 175 _ rfl g (j*21) rfl (Cm y) _ b1.out AV rfl (by rfl) ?_)|(refine AS rfl _ _ _ rfl t zs (Cm y) 175 (by simp[Act.eval,Act.put,ht]) rfl (by rw[←aw];exact au) ca.out C4 b7.out ?_;intro w5 h5 k5)|(refine BA 175 _ rfl t (by simp[Act.eval,Act.put,ht]) 175 (Cm y).toArray (0,0) _ h5 AV rfl C4 (by rfl) ?_))
  rw[←aw]at k5;clear aw;rw[←ht];clear ht;have bw:Keep [] wr w5:=b3.out.then k5 (fun q c ar=>by simp only[Ah]at c;rw[c,HT.out]at ar;omega);have a9:=h_ bw;clear k5 bw au;refine(JP y.m _ _ _ _ (bd.out.keep a9.out (by simp)).rd bb.out.2 true bb.out.1.symm).mono ?_;rintro e w6 ⟨rfl,k6⟩;have ap:=h_ (a9.out.trans k6);have h6:=h5.keep k6 (by simp);have a6:=ak.out.1.still ap.out;have c0:=a6.blk.cell 0;clear k6 h5;have q3:((L.length+j:Nat):Int)<300:=by have:=ba.out;omega
  have av:=h_ a6;clear a6;go_wp2_with fail;clear c0;have cu:=ap.out.size;obtain⟨HB,b6⟩:=i_2 av.out.blk av.out.own;have bx:decide ((L.length:Int)+(j:Int)<300)=true:=An (by omega);rw[bx];clear q3 bx;refine wM (A:=[0,0,2,6,14,0,32,96,254,511,1023,2047]) 2496 [fun _=>pr p 0,fun _=>pr p 0,fun _=>pr p 0,fun _=>pr p 0,fun _=> .slice a1 (L.length+j) ah,fun _=> .agg (Cm y).toArray,fun _=>undef,fun _=>undef,fun _=>undef,fun _=>pr p 0,fun _=>pr p 0,fun _=>undef] (sendS w6 p t J (.slice a1 (L.length+j) ah) (L++G) y) ?start (.s ?m0<|.s ?m1<|.s ?m2<|.s ?m3<|.s ?m4<|.s ?m5<|.t ?m6<|.t ?m7<|.t ?m8<|.s ?m9<|.s ?m10<|.t ?m11<|.nil) ?fin
  case start=>intro X;exact⟨y,[],0,(By _ _).drew,HB.out,h6,fun h=>absurd h (by decide),fun h=>absurd h (by decide),fun _=>b6.out,fun h=>absurd h (by decide),fun h=>absurd h (by decide),fun h=>absurd h (by decide),fun h=>absurd h (by decide),fun _=>(bd.out.keep ap.out.drew (by simp))⟩
  case fin=>
   intro U X w2 hS hd;have d6:=hd 6 (by decide) (by decide);have d8:=hd 8 (by decide) (by decide);have cb:=hd 11 (by decide) (by decide);obtain⟨D,O,b2,f,d,E,V,g7,T,ac,ae,ab,aa,gy⟩:=hS;obtain⟨al,l,c,o⟩:=V d6;obtain⟨ao,am⟩:=ac d8;simp only[cb,D5]at d;obtain⟨n,ad,a3,ag,ai,an,aq⟩:=ak.out
   have bg:Keep (p::(Value.slice a L.length cap).ownBlock.toList) w w2:=(a3.trans (ap.out.mono (by simp))).then f (fun x C ar=>by
    rcases Ac.1 C with rfl|C
    ·exact Bx ..
    ·rcases ag x (Ae.1 C)with h|h
     ·exact Ap _ (Ae.2 h)
     ·omega)
   have ci:=a3.size;have bq:=ap.out.size
   have bu:∀q∈p::(Value.slice a1 (L.length+j) ah).ownBlock.toList,q∉I1:=fun q c hi=>by
    rcases Ac.1 c with rfl|c
    ·exact n.nI.1 hi
    ·exact n.nI.2 q (Ae.1 c) hi
   have b0:Hid (NetAt w2 p (X 8) (I1++O) (L++(G++[D]))∧(G++[D]).map (·.m)=(M.take (j+1)).map (·.m)∧Keep (p::(Value.slice a L.length cap).ownBlock.toList) w w2∧(∀q,(X 8).ownBlock =some q→(Value.slice a L.length cap).ownBlock =some q∨w.heap.size≤q)∧∀q∈I1++O,q∈I∨w.heap.size≤q):=h_ (by
    refine⟨⟨d, ?_,fun z K=> ?_,fun z K=> ?_, ?_,⟨fun hp=> ?_,fun b hb hi=> ?_⟩,fun q c=> ?_⟩, ?_,bg,fun q c=> ?_,fun q c=> ?_⟩
    ·rw[←Ax,Nv,Aj (bs:=[D])]
     exact ao
    ·rw[←Ax]at K
     rcases Ag.1 K with K|K
     ·exact((n.ok z K).keep ((ap.out.mono (S':=p::(Value.slice a1 (L.length+j) ah).ownBlock.toList) (by simp)).trans f) bu).mono (fun q c=>A2 _ c)
     ·simp at K;subst K
      exact c.mono (fun q c=>AQ _ c)
    ·rw[←Ax]at K
     rcases Ag.1 K with K|K
     ·exact n.small z K
     ·simp at K;subst K
      rw[l];exact bc.out
    ·have:=ba.out
     simp;omega
    ·rcases Ag.1 hp with hp|hp
     ·exact n.nI.1 hp
     ·have:=(o p hp).1
      have:=HB.out.lt;omega
    ·rcases Ag.1 hi with hi|hi
     ·rcases(am b hb).1 with h|h
      ·exact n.nI.2 b h hi
      ·have:=n.lt b hi;omega
     ·exact(am b hb).2 hi
    ·rcases Ag.1 c with c|c
     ·exact AW (n.lt q c) (AJ bq f.size)
     ·exact(o q c).2
    ·rw[AL,ad,Bw ar,AL]
     congr 1
     have:=HY.out;rw[Ad ar]at this;injection this with this;simp[l,this]
    ·rcases(am q c).1 with h|h
     ·exact ag q h
     ·exact .inr (by omega)
    ·rcases Ag.1 c with c|c
     ·exact ai q c
     ·exact .inr (by have:=(o q c).1;omega))
   clear f d E V g7 T ac ae ab aa gy al l c o ao am n ad a3 ag ai an aq bg ci bq bu hd;simp[Al,Act.put,FK,Ab];go_wp2
   go_roundw
   case rel=>obtain⟨n,h2,h3,h4,h5⟩:=b0.out;exact⟨j+1,X 8,I1++O,G++[D],by go_num,by omega,n,h2,h3,h4,h5⟩
   case measure=>simp only[intOf];omega
  case' m6|m7|m8|m11=>intro U X x W hS hl hX Y ax af hN B d K' aj;have Z:=h_ hS;simp[mV,mY,Ab]at ax;simp only[Al,Act.put,A8,A7,A6,ax]at d;subst d
  case m6=>
   clear hX Y af hN;obtain⟨D,O,b2,f,d,E,V,g7,T,ac,ae,ab,aa,gy⟩:=Z.out;have n7:U 7=false:=by cases h:U 7 with|false=>rfl|true=>rw[ae h]at hl;cases hl
   have S:U 8=false:=by cases h:U 8 with|false=>rfl|true=>rw[ab h]at n7;cases n7
   have F:U 11=false:=by cases h:U 11 with|false=>rfl|true=>rw[aa h]at S;cases S
   have b9:=h_ (gy hl);have HG:=h_7 f d E (T S) n7 S F;clear f d E V g7 T ac ae ab aa gy n7 S F;go_simp;refine(MQ y b9.out bc.out).mono ?_;rintro e w2 ⟨y',F',rfl,l,c,o,k2⟩;obtain⟨f,d,E,T,n7,S,F⟩:=HG.out;go_simp;refine aj _ _ _ rfl ⟨y',F',0,f.trans (k2.mono (by simp)), ?_,E.keep k2 (by simp),fun _=>⟨Bh _ _ _,l,c,fun q c=>⟨AJ f.size (o q c).1,(o q c).2⟩⟩,fun h=> ?_,fun _=>Ef T k2 (by simp),fun h=> ?_,fun _=>Bh _ _ _,fun h=> ?_,fun h=> ?_,fun h=> ?_⟩
   ·simp only[F]at d
    simp only[upd,F];exact d.keep k2 (by simp)
   ·simp[upd,n7]at h
   ·simp[upd,S]at h
   ·simp[upd,S]at h
   ·simp[upd,F]at h
   ·simp[upd]at h
  case m7=>
   have N:U 6=true:=Y 6 (by decide);have e6:=hX 6 N;clear hX Y af hN;obtain⟨D,O,b2,f,d,E,V,g7,T,ac,ae,ab,aa,gy⟩:=Z.out;have S:U 8=false:=by cases h:U 8 with|false=>rfl|true=>rw[ab h]at hl;cases hl
   have F:U 11=false:=by cases h:U 11 with|false=>rfl|true=>rw[aa h]at S;cases S
   obtain⟨al,l,c,o⟩:=V N;refine GX rfl (.tmp 37) rfl D (by rw[←al,e6];rfl) ?_;have R:Keep [] W (W.alloc (.cells (Cm D).toArray 175)):=(By _ _).alloc _;refine aj _ _ _ rfl ⟨D,O,W.heap.size,f.trans (R.mono (by simp)), ?_,E.keep R (by simp),fun _=>⟨by rw[Bs _ _ _ _ (by decide)];exact al,l,c.keep R (by simp),fun q c=>⟨(o q c).1,AW (o q c).2 R.size⟩⟩,fun _=>⟨Bh _ _ _,fun _=>BY W _ _,f.size⟩,fun _=>Ef (T S) R (by simp),fun h=> ?_,fun _=> ?_,fun h=> ?_,fun h=> ?_,fun h=> ?_⟩
   ·simp only[F]at d
    simp only[upd,F];exact d.keep R (by simp)
   ·simp[upd,S]at h
   ·rw[Bs _ _ _ _ (by decide)];exact N
   ·simp[upd,S]at h
   ·simp[upd,F]at h
   ·simp[upd,N]at h
  case m8=>
   have N:U 6=true:=Y 6 (by decide);have u7:U 7=true:=Y 7 (by decide);have e7:=hX 7 u7;clear hX Y af hN;obtain⟨D,O,b2,f,d,E,V,g7,T,ac,ae,ab,aa,gy⟩:=Z.out;have F:U 11=false:=by cases h:U 11 with|false=>rfl|true=>rw[aa h]at hl;cases hl
   obtain⟨al,l,c,o⟩:=V N;obtain⟨ay,bi,a4⟩:=g7 u7;have cj:=QN (P:=Tryz.prog) BT W b2 D (bi hl) c.one;have af:=T hl;have a5:(L++G).length ≤300:=av.out.len;have bp:=af;rw[show(L++G).length =L.length+j from ak.out.2.2.2.2.2.2]at bp;refine BO _ rfl (.tmp 35) (.tmp 38) 66 66 rfl 0 175 im _ 21 256 BT ce cl cm au rfl (by decide) _ (L.length+j) _ (by rfl) bp _ 1 _ (by rw[←ay,e7];rfl) cj (by unfold maxLen;omega) (by omega) (AA _) ?_;intro v2 w2 h2 h3 _ h4;have kg:=DJ h3;have R:Keep (p::(Value.slice a1 (L.length+j) ah).ownBlock.toList) W w2:=kg.mono (fun q c _=>Ap _ c)
   have cf:p∉(Value.slice a1 (L.length+j) ah).ownBlock.toList :=fun c=>by have:=av.out.vty _ (Ae.1 c);exact this.ne HB.out.ty (by decide) rfl
   have cg:t∉(Value.slice a1 (L.length+j) ah).ownBlock.toList :=fun c=>by have:=ak.out.1.vlt _ (Ae.1 c);rw[HT.out]at this;omega
   have bf:∀q∈(Value.slice a1 (L.length+j) ah).ownBlock.toList,q∉O:=fun q c l=>by have n:=av.out.vlt _ (Ae.1 c);have h2:=(o q l).1;omega
   refine aj _ _ _ rfl ⟨D,O,b2,f.then R (fun x C _=>C), ?_,E.keep kg cg,fun _=>⟨by rw[Bs _ _ _ _ (by decide)];exact al,l,c.keep kg bf,fun q c=>⟨(o q c).1,AW (o q c).2 kg.size⟩⟩,fun _=>⟨by rw[Bs _ _ _ _ (by decide)];exact ay,fun h=>by simp[upd]at h,a4⟩,fun h=>by simp[upd]at h,fun _=>⟨by rw[Bh,show(L++G).length =L.length+j from ak.out.2.2.2.2.2.2];exact h2,fun q c=> ?_⟩,fun _=>by rw[Bs _ _ _ _ (by decide)];exact N,fun _=>by rw[Bs _ _ _ _ (by decide)];exact u7,fun h=> ?_,fun h=> ?_⟩
   ·simp only[F]at d
    simp only[upd,F];exact d.keep kg cf
   ·rw[Bh]at c
    rcases h4 q c with h|h
    ·exact⟨.inl h,fun l=>bf q (Ae.2 h) l⟩
    ·exact⟨.inr (AJ f.size h),fun l=>by have:=(o q l).2;omega⟩
   ·simp[upd,F]at h
   ·simp[upd,N]at h
  case m11=>
   have u8:U 8=true:=Y 8 (by decide);have e8:=hX 8 u8;clear hX Y af hN;obtain⟨D,O,b2,f,d,E,V,g7,T,ac,ae,ab,aa,gy⟩:=Z.out;obtain⟨ao,am⟩:=ac u8;obtain⟨xa,xc,C⟩:=A4 ao;rw[Aj]at C;have u7:=ab u8;have N:=ae u7;have c0:=d.cell 0;have f0:=d.free 0;rw[C]at e8;have HE:=h_4 C u8 u7 N;simp only[hl]at c0;simp only[←e8]at aj⊢;clear f d E V g7 T ac ae ab aa gy ao am C e8 u8 u7 N;go_simp;obtain⟨C,u8,u7,N⟩:=HE.out;obtain⟨D,O,b2,f,d,E,V,g7,T,ac,ae,ab,aa,gy⟩:=Z.out;have hb:=d.set 0 (.slice xa (L.length+G.length+1) xc);have R:Keep [p] W (W.setCell ⟨p,0,none⟩ (.slice xa (L.length+G.length+1) xc)):=(By _ _).setCell (.inl (by simp)) _;have kw:=f.trans (R.mono (S':=p::(Value.slice a1 (L.length+j) ah).ownBlock.toList) (fun q c _=>by simp at c;rw[c];exact Bx ..));obtain⟨al,l,c,o⟩:=V N;obtain⟨ay,bi,a4⟩:=g7 u7;obtain⟨ao,am⟩:=ac u8;have ct:p<w6.heap.size:=HB.out.lt
   have ch:=Ef ao R (fun q0 a0 l=>by
    simp only[Ah]at l;subst l;rcases ao.2 with⟨Q,_⟩|⟨g,cap,be,Q,_,hg,_⟩
    ·rw[Q]at a0;cases a0
    ·rw[Q]at a0
     cases a0;exact(show Ty W g 175 from⟨_,_,hg⟩).ne d.ty (by decide) rfl)
   refine aj undef _ _ rfl ⟨D,O,b2,kw, ?_,E.keep R ?_,fun _=>⟨by rw[Bs _ _ _ _ (by decide)];exact al,l,c.keep R (fun q c l=>by simp only[Ah]at c;subst c;have:=(o _ l).1;omega),fun q c=>⟨(o q c).1,AW (o q c).2 R.size⟩⟩,fun _=>⟨by rw[Bs _ _ _ _ (by decide)];exact ay,fun h=>by simp[upd,u8]at h,a4⟩,fun h=>by simp[upd,u8]at h,fun _=>⟨by rw[Bs _ _ _ _ (by decide)];exact ch,by rw[Bs _ _ _ _ (by decide)];exact am⟩,fun _=>by simp[upd,N],fun _=>by simp[upd,u7],fun _=>by simp[upd,u8],fun h=>by simp[upd,N]at h⟩
   ·simp only[upd,C]
    exact hb
   ·simp only[Ah]
    intro e;have:=ak.out.1.blk.lt;rw[←e,HT.out]at this;omega
  all_goals intro U X x W hS hX Y ax af hN B d K' aj;have Z:=h_ hS;simp[mV,mY,Ab]at ax;simp only[Al,Act.put,A8,A7,A6,ax]at d;subst d
  case m4=>have F:U 11=false:=hN 11 (by decide);clear hX Y af hN;obtain⟨D,O,b2,f,d,_⟩:=Z.out;have c0:=d.cell 0;simp only[F]at c0;clear d f;go_simp;exact aj _ _ _ rfl rfl Z.out
  case m5=>clear hX Y af hN;obtain⟨D,O,b2,f,d,E,_⟩:=Z.out;rw[Ay (by rfl)];refine wp_load_row 175 _ rfl t rfl 175 (Cm y).toArray (0,0) _ E AV rfl C4 ?_;exact aj _ _ _ rfl rfl Z.out
  all_goals clear hX Y af hN;go_simp;exact aj _ _ _ rfl rfl Z.out
 ·obtain rfl:j=M.length:=by omega
  have c0:=n.blk.cell 0;have C:((L.length:Int)+(M.length:Int))-(L.length:Int)=(M.length:Int):=by omega
  have HX:=h_ C;have ak:=h_6 n ad f ag ai an;have q0:decide ((M.length:Int)<(M.length:Int))=false:=Ak (by omega);clear n ad f ag ai an aq C;go_wp2;go_ret;obtain⟨n,ad,f,ag,ai,an⟩:=ak.out;rw[Bt]at ad;exact⟨by show Ending.returned (.int .i64 ((L.length:Int)+(M.length:Int)-(L.length:Int)))=_;rw[HX.out],_,I1,G,n,ad,f,ag,ai⟩
theorem Hd {w:World}{base a:Nat}{T:TypeId}{k n:Nat}{v:Value}{xs:List Value}(h:w.ownsRow base T k v n xs)(c:a≤base):w.ownsRow a T k v n xs:=by
 refine⟨h.1, ?_⟩;rcases h.2 with⟨rfl,e⟩|⟨g,cap,b,rfl,d,r⟩
 ·exact .inl ⟨rfl,e⟩
 ·exact .inr ⟨g,cap,b,rfl,AJ c d,r⟩
theorem Hh {α β:Type}(f:α→β):∀(l:List α) (i:Nat),(l.eraseIdx i).map f=(l.map f).eraseIdx i
 |[],i=>by simp
 |a::l,0=>rfl
 |a::l,i+1=>by simp only[List.eraseIdx_cons_succ,Br];rw[Hh f l i]
def wmMs (m:Wm):Ms:=⟨m.kind,m.src,m.dst,m.epoch,m.tick,m.seq,m.n,m.id,m.op,m.key,m.err,m.last,(m.it.1,m.it.2.1,0,m.it.2.2),m.its.map (fun p=>(p.1,p.2,0,false)),m.mks.map (fun p=>((p.1:Int),p.2)),m.mem.map Int.ofNat,m.base,m.old.map Int.ofNat⟩
def AF (a t:Nat):As:=⟨fun F w=>F=[a]∧IsClock w a (t:Int),fun⟨hF,h⟩ k c=>⟨hF,h.keep k (fun d=>c a d (by rw[hF];simp))⟩,fun⟨hF,h⟩ q b=>by rw[hF]at b;simp at b;subst b;exact h.blk.lt⟩
def Gs (y:Tm):As:=⟨fun F w=>MqOk w F y∧∀q∈F,q<w.heap.size,fun⟨h,a⟩ k b=>⟨h.keep k b,fun q c=>AW (a q c) k.size⟩,fun⟨_,a⟩=>a⟩
def WS (L:List Tm):As:=⟨fun F w=>(∀y∈L,MqOk w F y)∧∀q∈F,q<w.heap.size,fun⟨h,a⟩ k b=>⟨fun y d=>(h y d).keep k b,fun q c=>AW (a q c) k.size⟩,fun⟨_,a⟩=>a⟩
def Dp (mv:Value)(M:List Wm):As:=As.ex fun L:List Tm=>As.and (L.map (·.m)=M.map wmMs) (ED [BF 175 21 mv L.length (tc L),WS L])
def CI (p:Nat)(L:List Wm):As:=⟨fun F w=>∃v I a,F=He p v I∧NetAt w p v I a∧a.map (·.m)=L.map wmMs,
 fun⟨v,I,a,hF,h,e⟩ k c=>⟨v,I,a,hF,h.keep k (fun q b d=>c q b (hF▸d)),e⟩,fun⟨v,I,a,hF,h,e⟩ q b=>h.ltF q (hF▸b)⟩
def FI (p now:Nat)(org:List (Str×Se)):As:=⟨fun F w=>∃g n R f,F=WR p g R∧OrAt w p g n now R org f∧n≤now∧org.length≤now,
 fun⟨g,n,R,f,hF,h,e⟩ k b=>⟨g,n,R,f,hF,h.keep k (fun q a c=>b q a (hF▸c)),e⟩,fun⟨g,n,R,f,hF,h,e⟩ q a=>by
  rw[hF]at a;simp only[WR,Ac]at a;rcases a with rfl|rfl|a
  ·exact h.blk.lt
  ·exact h.map.lt
  ·exact h.lt q a⟩
def F9 (p:Nat)(L:List Call):As:=⟨fun F w=>∃v:Value,F=p::v.ownBlock.toList∧ClAt w p v L,
 fun⟨v,hF,h⟩ k b=>⟨v,hF,ClAt.keep (v:=v) h k (fun q a c=>b q a (by rw[hF];exact c))⟩,fun⟨v,hF,h⟩ q a=>by
  rw[hF]at a;rcases Ac.1 a with rfl|a
  ·exact h.blk.lt
  ·exact(B3 h.own q (by simpa using a)).2⟩
def Yj (le b ep c f:Nat):As:=⟨fun F w=>F=[le]∧IsLease w le b (ep:Int) (c:Int) (f:Int),fun⟨hF,h⟩ k d=>⟨hF,h.keep k (fun e=>d le e (by rw[hF];simp))⟩,fun⟨hF,h⟩ q a=>by rw[hF]at a;simp at a;subst a;exact h.blk.lt⟩
structure Wm.Ok (m:Wm):Prop where
 may:mayM (wmMs m)=true
 sz:MsSz (wmMs m)
 small:m.mem.length≤1000∧m.old.length≤1000
section
variable {R:List As} {w:World} {p now:Nat} {L M:List Wm} {mv:Value} {org:List (Str×Se)} {C:List Call}
theorem Sp.clock {a t:Nat}(h:Sp (AF a t::R) w):IsClock w a (t:Int):=by obtain⟨F,hF,_⟩:=h.one;exact hF.2
theorem FP {a t:Nat}(h:Sp (AF a t::R) w)(i:t<1099511627776):Calls Tryz.prog 87 #[pr a 0,.slice none 0 0] w fun e b=>e=.returned (.int .i64 ((t+1:Nat):Int))∧Sp (AF a (t+1)::R) b:=by obtain⟨F,⟨hF,c⟩,g⟩:=h.one;refine(Ts none 0 c ((t+1:Nat):Int) (by simp[I4,Sv];omega)).mono ?_;rintro e b ⟨rfl,d,k⟩;exact⟨rfl,g _ _ F ⟨hF,d⟩ (hF▸k) (fun q f=> .inl f)⟩
theorem TW (h:Sp R w):Calls Tryz.prog 64 #[] w fun e a=>∃p,e=.returned (pr p 0)∧Sp (CI p []::R) a:=by
 refine Ro.mono ?_;rintro e a ⟨p,rfl,b,k,d⟩
 exact⟨p,rfl,h.new1 (G:=He p (.slice none 0 0) []) k ⟨_,_,_,rfl,b,rfl⟩ (fun q c=>by simp[He,Value.ownBlock]at c;omega)⟩
theorem TX (h:Sp (CI p L::R) w):Calls Tryz.prog 35 #[pr p 0] w fun e f=>e=.returned (.int .i64 (L.length:Int))∧f=w:=by
 obtain⟨F,⟨v,I,a,hF,b,c⟩,g⟩:=h.one;have d:L.length=a.length:=by have:=A3 List.length c;simpa using this.symm
 rw[d];exact Jb b
theorem Rq (h:Sp (CI p L::R) w)(i:Nat)(m:Wm)(n:L[i]?=some m):Calls Tryz.prog 92 #[pr p 0,.int .i64 (i:Int)] w fun e d=>∃y:Tm,e=.returned (.tuple #[.agg (Cm y).toArray,.bool true])∧y.m=wmMs m∧Sp (Gs y::CI p L::R) d:=by
 obtain⟨F,⟨v,I,g,hF,j,l⟩,u⟩:=h.one;have b:(g.map (·.m))[i]?=(L.map wmMs)[i]?:=by rw[l]
 rw[AN,AN,n]at b;obtain⟨y,r,s⟩:=Gg.1 b;refine(Pm j i y r).mono ?_;rintro e d ⟨t,f,rfl,o,a,c,k⟩;exact⟨t,rfl,o.trans s,h.new1 (G:=f) k ⟨a,fun q a=>(c q a).2⟩ (fun q a=>(c q a).1)⟩
theorem Rr (h:Sp (CI p L::R) w)(i:Nat)(n:i<L.length):Calls Tryz.prog 93 #[pr p 0,.int .i64 (i:Int)] w fun e d=>e=.returned (.bool true)∧Sp (CI p (L.eraseIdx i)::R) d:=by
 obtain⟨F,⟨v,I,f,hF,g,b⟩,l⟩:=h.one;have o:L.length=f.length:=by have:=A3 List.length b;simpa using this.symm
 refine(Pn g i (by omega)).mono ?_;rintro e d ⟨c,rfl,j,k,m⟩;refine⟨rfl,l _ _ (He p c I) ⟨c,I,_,rfl,j, ?_⟩ (k.mono (fun q a _=> ?_)) (fun q a=> .inl ?_)⟩
 ·rw[Hh,b,Hh]
 ·rw[hF]
  rcases Ac.1 a with rfl|a
  ·simp[He]
  ·simp only[He,Ac,Ag];exact .inr (.inl a)
 ·rw[hF]
  simp only[He,Ac,Ag]at a⊢;rcases a with a|a|a
  ·exact .inl a
  ·exact .inr (.inl (Ae.2 (m q (Ae.1 a))))
  ·exact .inr (.inr a)
theorem Ja (h:Sp (CI p L::Dp mv M::R) w)(l:∀m∈M,m.Ok)(hl:L.length+M.length≤300):Calls Tryz.prog 88 #[pr p 0,mv] w fun e B=>e=.returned (.int .i64 (M.length:Int))∧Sp (CI p (L++M)::R) B:=by
 obtain⟨t,U,⟨v,I,D,hF,H,x⟩,⟨i,n,V,W,j,⟨E,Q⟩,⟨X,_,rfl,⟨P,O⟩,rfl,_⟩,Z⟩,o,S⟩:=h.two;have aa:L.length=D.length:=by have:=A3 List.length x;simpa using this.symm
 have N:M.length=i.length:=by have:=A3 List.length n;simpa using this.symm
 have z:∀y∈i,∃m∈M,y.m=wmMs m:=fun y f=>by have c:y.m∈i.map (·.m):=AI.2 ⟨y,f,rfl⟩;rw[n]at c;obtain⟨m,d,e⟩:=AI.1 c;exact⟨m,d,e.symm⟩
 have r:p∈t:=by rw[hF];simp[He]
 have g:∀q,v.ownBlock=some q→q∈t:=fun q a=>by rw[hF];simp only[He,Ac,Ag];exact .inr (.inl (Ae.2 a))
 rw[N];refine(Ke H Q P (fun y f=> ?_) (fun y f=> ?_) (by omega) (fun b K s=> ?_) (fun q a=>⟨?_, ?_,O q a⟩)).mono ?_
 ·obtain⟨m,d,e⟩:=z y f
  rw[e];have:=(l m d).small;simpa[wmMs]using this
 ·obtain⟨m,d,e⟩:=z y f
  rw[e];exact⟨(l m d).may,(l m d).sz⟩
 ·exact o b (g b s) (by rw[j,E,K];simp)
 ·rintro rfl
  exact o q r (by rw[j];simp[a])
 ·intro s
  exact o q (g q s) (by rw[j];simp[a])
 ·rintro e B ⟨A,u,Y,rfl,J,G,k,T,F⟩
  refine⟨rfl,S [CI p (L++M)] _ (He p A u) ⟨_,[],(AE _).symm,⟨A,u,_,rfl,J, ?_⟩,rfl,by simp⟩ (k.mono (fun q a _=> ?_)) (fun q a=> ?_)⟩
  ·rw[AL,AL,x,G,n]
  ·rw[Ag];left
   rcases Ac.1 a with rfl|a
   ·exact r
   ·exact g q (Ae.1 a)
  ·simp only[He,Ac,Ag]at a
   rcases a with rfl|a|a
   ·exact .inl (A2 _ r)
   ·rcases T q (Ae.1 a)with c|c
    ·exact .inl (A2 _ (g q c))
    ·exact .inr c
   ·rcases F q a with c|c
    ·exact .inl (A2 _ (by rw[hF];simp only[He,Ac,Ag];exact .inr (.inr c)))
    ·exact .inr c
theorem V7 (h:Sp R w):Calls Tryz.prog 65 #[] w fun e a=>∃p,e=.returned (pr p 0)∧Sp (FI p 0 []::R) a:=by
 refine TR.mono ?_;rintro e a ⟨p,g,rfl,b,k,f,d⟩
 exact⟨p,rfl,h.new1 (G:=WR p g []) k ⟨g,0,[],_,rfl,b,Av _,Av _⟩ (fun q c=>by simp[WR]at c;omega)⟩
theorem Lq (h:Sp (FI p now org::R) w):Calls Tryz.prog 98 #[pr p 0] w fun e b=>e=.returned (.int .i64 (now:Int))∧b=w:=by obtain⟨F,⟨g,n,c,f,hF,a,_⟩,d⟩:=h.one;exact MO a
theorem V8 (h:Sp (FI p now org::R) w)(key:Str)(c:key.size≤1000):Calls Tryz.prog 94 #[pr p 0,.string key] w fun e a=>
  e=.returned (.tuple #[.string (Hz (setsOf org key) now).1,.bool (Hz (setsOf org key) now).2])∧Sp (FI p now org::R) a:=by
 obtain⟨F,⟨g,n,d,f,hF,b,_⟩,i⟩:=h.one;refine(TT b key c).mono ?_;rintro e a ⟨rfl,k⟩;exact⟨rfl,h.still k⟩
theorem V6 (h:Sp (FI p now org::R) w)(x:now<100000)(key val:Str)(r:key.size≤1000)(t:val.size≤1000)(b:Bool):Calls Tryz.prog 72 #[pr p 0,.string key,.string val,.bool b] w fun e i=>
  e=.returned (.int .i64 ((now+1:Nat):Int))∧Sp (FI p (now+1) (org++[(key,now+1,(if b=true then val else se),b)])::R) i:=by
 obtain⟨F,⟨g,n,u,f,hF,l,v⟩,s⟩:=h.one;refine(TQ l (by omega) key val r t b).mono ?_;rintro e i ⟨d,j,rfl,m,k,o⟩;refine⟨rfl,s _ _ (WR p g d) ⟨g,n+1,d,j,rfl,m,by omega,by rw[Aj,List.length_singleton];omega⟩ (hF▸k) (fun q a=> ?_)⟩;rw[hF];simp only[WR,Ac]at a⊢;rcases a with a|a|a
 ·exact .inl (.inl a)
 ·exact .inl (.inr (.inl a))
 ·rcases o q a with c|c
  ·exact .inl (.inr (.inr c))
  ·exact .inr c
theorem TS (h:Sp (FI p now org::R) w)(key val:Str)(l:key.size≤1000)(c:Bool)(b a:Nat)(j:b≤a)(m:a≤now):Calls Tryz.prog 31 #[pr p 0,.string key,.string val,.bool c,.int .i64 (b:Int),.int .i64 (a:Int)] w fun e d=>
  e=.returned (.bool (heldB (setsOf org key) val c b a))∧Sp (FI p now org::R) d:=by
 obtain⟨F,⟨g,n,o,f,hF,i,_⟩,q⟩:=h.one;refine(Rk i key val l c b a j m).mono ?_;rintro e d ⟨rfl,k⟩;exact⟨rfl,h.still k⟩
theorem Wy (h:Sp R w):Calls Tryz.prog 66 #[] w fun e a=>∃p,e=.returned (pr p 0)∧Sp (F9 p []::R) a:=by refine U2.mono ?_;rintro e a ⟨p,rfl,b,k,c⟩;exact⟨p,rfl,h.new1 (G:=[p]) k ⟨_,rfl,b⟩ (by simpa using c)⟩
theorem Qv (h:Sp (F9 p C::R) w):Calls Tryz.prog 29 #[pr p 0] w fun e c=>∃a,e=.returned a∧Sp (BF 87 13 a C.length (rows caC C)::F9 p C::R) c:=by obtain⟨F,⟨v,hF,d⟩,g⟩:=h.one;refine(Nk d).mono ?_;rintro e c ⟨a,rfl,b,k⟩;exact⟨a,rfl,h.new1 (G:=a.ownBlock.toList) k ⟨rfl,Hd b (AA _)⟩ (fun q f=>(B3 b q (Ae.1 f)).1)⟩
theorem RW (h:Sp (F9 p C::R) w)(j:C.length<10000)(op:Nat)(key:Str)(a pos:Nat)(l:op≤1000∧a≤1000∧pos≤1000000):
  Calls Tryz.prog 97 #[pr p 0,.int .i64 (op:Int),.string key,.int .i64 (a:Int),.int .i64 (pos:Int)] w fun e f=>e=.returned (.int .i64 ((C.length+1:Nat):Int))∧Sp (F9 p (C++[Ml (C.length+1) op key a pos])::R) f:=by
 obtain⟨F,⟨v,hF,g⟩,m⟩:=h.one;refine(Qu g j op key a pos l).mono ?_;rintro e f ⟨d,rfl,i,k,n⟩;refine⟨rfl,m _ _ (p::d.ownBlock.toList) ⟨d,rfl,i⟩ (hF▸k) (fun q c=> ?_)⟩;rw[hF];rcases Ac.1 c with rfl|c
 ·exact .inl (Bx ..)
 ·rcases n q (Ae.1 c)with b|b
  ·exact .inl (Ap _ (Ae.2 b))
  ·exact .inr b
theorem W4 (h:Sp (F9 p C::R) w)(r:Rp)(pos i:Nat)(l:r.id=i+1)(c:Call)(g:C[i]?=some c)(j:c.done=false)(n:c.op=r.op)(m:c.key=r.key):
  Calls Tryz.prog 120 #[pr p 0,.agg (rpC r).toArray,.int .i64 (pos:Int)] w fun e b=>e=.returned (.bool true)∧Sp (F9 p (C.set i (Qw c pos r))::R) b:=by
 obtain⟨F,⟨v,hF,d⟩,o⟩:=h.one;refine(U3 d r pos i l c g j n m).mono ?_;rintro e b ⟨rfl,f,k⟩;exact⟨rfl,o _ _ F ⟨v,hF,f⟩ (k.mono (fun q a _=>by rw[hF];exact Ap _ a)) (fun q a=> .inl a)⟩
end
theorem VB {l:List Int}(h:nodesOk l=true):(∀n∈l,1≤n∧n≤5)∧0<l.length∧l.length≤5:=
 (show∀l∈Q5,(∀n∈l,1≤n∧n≤5)∧0<l.length∧l.length≤5 by decide) l (TV h)
def Ct.new (l:List Int):Ct:=⟨1,1,l,0,0,[],[],0,[]⟩
theorem WK {w:World}{d sb k B:Nat}{S:List Sec}(E:IsDev w d sb S k)(hS:1<S.length)(hk:k≤2*B)(hB:1≤B∧B≤100000)(nv:Value)(l:List Int)(G:Rv w 1 nv l.length (ints l))(R:nodesOk l=true):
  Calls Tryz.prog 67 #[pr d 0,nv] w fun e o=>∃c kb s g U,e=.returned (.tuple #[pr c 0,.int .i64 0])∧CtB o c kb s g (Ct.new l) U (.slice none 0 0) (.slice none 0 0) (.slice none 0 0)∧
   CtR o (Ct.new l) U (.slice none 0 0) (.slice none 0 0) (.slice none 0 0) o.heap.size∧CtD o d sb s (stT 1 1 l) B∧Gr o g 0 (fun _=>none)∧IsClock o kb 0∧Keep [d,sb] w o∧w.heap.size≤c∧w.heap.size≤kb∧w.heap.size≤g∧c≠s∧w.heap.size≤s∧(∀q,U.ownBlock=some q→w.heap.size≤q):=by
 obtain⟨n1,n2,n3⟩:=VB R;obtain⟨Y,HL,C,HB,Z,HK⟩:=i_6 n1 n2 n3 hB hS hk;obtain⟨_,a,cap,rfl,_,_⟩:=id G;have ap:=E.dev.lt;have ar:=E.secs.lt;have aw:=h_ (show d<w.heap.size∧sb<w.heap.size from⟨ap,ar⟩);clear n1 n2 n3 hB hS hk ap ar;have bg:∀(W:World),(Instr.build 158 #[]).run Tryz.prog W=.ok (.agg #[.int .i64 0]) W:=fun W=>DD W _ _ _ (by rfl)
 have bh:∀(W:World) (h:Option Addr) (n i:Nat),(Instr.build 151 #[(0,.int .i64 1),(1,.int .i64 1),(2,.slice h n i)]).run Tryz.prog W=.ok (.agg #[.int .i64 1,.int .i64 1,.slice h n i]) W:=fun W h n i=>DD W _ _ _ (by rfl)
 have bi:∀(W:World) (p g:Nat) (h:Option Addr) (n i:Nat),(Instr.build 156 #[(0,pr p 0),(2,.agg #[.int .i64 1,.int .i64 1,.slice h n i]),(4,.map (some g))]).run Tryz.prog W=.ok (.agg #[pr p 0,.pointer none,.int .i64 1,.int .i64 1,.slice h n i,.int .i64 0,.int .i64 0,.slice none 0 0,.slice none 0 0,.int .i64 0,.slice none 0 0,.map (some g)]) W:=fun W p g h n i=>DD W _ _ _ (by rfl)
 go_enter Tryz.func67,Tryz.ntmps67;go_wp2_with fail;refine(Dr _ l G (by have:=C.out;omega) true R.symm).mono ?_;rintro e w1 ⟨rfl,rfl⟩;clear R;go_wp2_with fail;have ab:=BY w [.int .i64 0] 158;have H:=(By [] w).alloc (.cells #[.int .i64 0] 158);refine(Jh _ l (G.keep H (by simp)) (by have:=C.out;omega) HL.out).mono ?_;rintro e m ⟨v2,rfl,D,T⟩;obtain⟨h,i,rfl⟩:=D.islice;have J:=ab.keep T (by simp);have I:=H.trans T;have am:=E.keep I (by simp) (by simp);have ah:=D.mono (AA _);have ax:Hid (∀q,(Value.slice h l.length i).ownBlock =some q→w.heap.size≤q):=h_ (fun q f=>by have:=(D.lt q f).1;simp at this;omega);clear ab H D T E G;generalize bk:w.heap.size=kb at*;have a8:(Instr.makeMap 154 none).run Tryz.prog m=.ok (.map (some m.heap.size)) (m.alloc (.map #[] 0)):=run_makeMap _ _;go_upto_region 4 with fail;clear a8;have K:=Gr.made m;have y:=(By [] m).alloc (.map #[] 0);obtain⟨g,P⟩:∃g,g=m.heap.size:=⟨_,rfl⟩;have au:(m.alloc (.map #[] 0)).heap.size =g+1:=by simp[P]
 have ac:=J.keep y (by simp);have an:=am.keep y (by simp) (by simp);have ai:=ah.keep y (by simp);have Kz:=(I.trans y);have bl:kb<g:=by have:=J.lt;omega
 rw[←P]at K⊢;clear J am ah I y P;generalize m.alloc (.map #[] 0)=w3 at*;have N:=BY w3 [pr kb 0,.pointer none,.int .i64 1,.int .i64 1,.slice h l.length i,.int .i64 0,.int .i64 0,.slice none 0 0,.slice none 0 0,.int .i64 0,.slice none 0 0,.map (some g)] 156;rw[au]at N;have t:=(By [] w3).alloc (.cells #[pr kb 0,.pointer none,.int .i64 1,.int .i64 1,.slice h l.length i,.int .i64 0,.int .i64 0,.slice none 0 0,.slice none 0 0,.int .i64 0,.slice none 0 0,.map (some g)] 156);have af:=K.keep t (by simp);have ad:=ac.keep t (by simp);have ao:=an.keep t (by simp) (by simp);have L:=ai.keep t (by simp);have KW:=Kz.trans t;have u:Blk (w3.alloc (.cells #[pr kb 0,.pointer none,.int .i64 1,.int .i64 1,.slice h l.length i,.int .i64 0,.int .i64 0,.slice none 0 0,.slice none 0 0,.int .i64 0,.slice none 0 0,.map (some g)] 156)) (g+1) [pr kb 0,.pointer none,.int .i64 1,.int .i64 1,.slice h l.length i,.int .i64 0,.int .i64 0,.slice none 0 0,.slice none 0 0,.int .i64 0,.slice none 0 0,.map (some g)] 156:=N;clear N K ac an ai Kz t au;generalize w3.alloc (.cells #[pr kb 0,.pointer none,.int .i64 1,.int .i64 1,.slice h l.length i,.int .i64 0,.int .i64 0,.slice none 0 0,.slice none 0 0,.int .i64 0,.slice none 0 0,.map (some g)] 156)=w4 at*;have X:=h_ u.lt;have x2:=u.cell 2;have x3:=u.cell 3;have x4:=u.cell 4;simp only[List.getElem?_cons_zero,List.getElem?_cons_succ]at x2 x3 x4;go_wp2_with fail;refine(QL 1 1 _ l L.irv Y.out (by have:=C.out;omega) ⟨by omega,by omega⟩ ⟨by omega,by omega⟩).mono ?_;rintro e w5 ⟨v5,rfl,A,j⟩;have al:=u.keep j (by simp);have ag:=af.keep j (by simp);have ae:=ad.keep j (by simp);have F:=ao.keep j (by simp) (by simp);have M:=L.keep j (by simp);have aa:=KW.trans j;have bn:=j.size;have V:=h_ (show d<kb∧sb<kb from aw.out);clear u af ad ao L KW j x2 x3 x4;obtain⟨ba,bc,a3⟩:=A.slice;rw[a3]at A⊢;go_wp2_with fail
 have aq:∀q,(Value.slice ba (stT 1 1 l).length bc).ownBlock =some q→0<(stT 1 1 l).length →q<w5.heap.size∧q≠d∧q≠sb:=fun q f _=>by have h1:=A.lt q f;have h2:=V.out;have h3:=X.out;omega
 have bf:=HK.out;have be:=HB.out;refine(Ti F 0 Z.out _ (stT 1 1 l) A.rd (Io _) (Xc 1 1 l ⟨by omega,by omega⟩ ⟨by omega,by omega⟩ Y.out) (by omega) aq).mono ?_;rintro e r ⟨s,rfl,a5,a9,x,bm⟩;have bj:=V.out;have a7:=X.out;have z:=al.keep x (by simp;omega);have a0:=ag.keep x (by simp;omega);have az:=ae.keep x (by simp;omega)
 have av:∀q∈[d,sb],¬Ty w5 q 3:=fun q f v=>by
  simp only[Ac,Am,AG]at f;rcases f with rfl|rfl
  ·exact F.dev.ty.ne v (by decide) rfl
  ·exact F.secs.ty.ne v (by decide) rfl
 have aj:=M.keep x (fun b O Q=>av b Q (M.ty b O));have ay:Keep [d,sb] w r:=(aa.mono (by simp)).trans x;have a1:=h_ Z.out;clear al ag ae F M aa x av aq A;have b1:=z.cell 1;have f1:=z.free 1;simp only[List.getElem?_cons_zero,List.getElem?_cons_succ]at b1;go_wp2;go_ret2;have kS:Keep [g+1] r (r.setCell ⟨g+1,1,none⟩ (pr s 0)):=(By _ _).setCell (.inl (by simp)) _;have a2:CtB (r.setCell ⟨g+1,1,none⟩ (pr s 0)) (g+1) kb s g (Ct.new l) (.slice h l.length i) (.slice none 0 0) (.slice none 0 0) (.slice none 0 0):=Blk.set z 1 (pr s 0);have bb:∀q∈[g+1],¬Ty r q 3:=fun q f v=>by simp at f;subst f;exact z.ty.ne v (by decide) rfl
 have bd:∀q∈[g+1],¬Ty r q 5:=fun q f v=>by simp at f;subst f;exact z.ty.ne v (by decide) rfl
 have hD:CtD r d sb s (stT 1 1 l) B:=⟨_,k+5,1,0,a5,a9,Pair.make S 0 _ a1.out,by omega,by omega,by omega,by omega⟩;have a4:g+1≠s:=by omega
 have ak:=aj.keep kS (fun b O Q=>bb b Q (aj.ty b O));have a6:=C.out
 refine⟨g+1,kb,s,g,_,rfl,a2,⟨ak,YA _ _ _,YA _ _ _,YA _ _ _,fun q f=>(ak.lt q f).2,(fun q f=>by cases f),(fun q f=>by cases f),a6,by simp[Ct.new],by simp[Ct.new],by simp[Ct.new]⟩,
  hD.keep kS (by simp;omega) (by simp;omega) (by simp;omega) bd,a0.keep kS (by simp),⟨az.keep kS (by simp;omega),by omega,by omega⟩, ?_,by omega,by omega,by omega,a4,by omega,fun q f=>by have:=ax.out q f;omega⟩
 exact ay.then kS (fun q f a7=>by simp at f;omega)
end Go.Proofs.YtnhbioehiiifdaaGreat
