import Derived.Test.YtnhbioehiiifdaaGreatA04
import Derived.Test.YtnhbioehiiifdaaGreatA05
import Derived.BigQuiet
set_option maxRecDepth 100000
set_option maxHeartbeats 16000000
set_option linter.all false
namespace Go.Proofs.YtnhbioehiiifdaaGreat
open Go.ChangeShapes Go.WideShapes Go.ChangeAt Go.RowKit
def plC (p:Pl):List Value:=[.string p.key,.int .i64 (p.pos:Int),.bool p.has,.bool p.gone]
theorem KM (p:Pl):(plC p).length =4:=rfl
theorem SE (p:Pl):∀v∈plC p,v.oneCell'=true:=by intro v a;simp only[plC,Ac,Am,AG]at a;rcases a with rfl|rfl|rfl|rfl<;>rfl
structure IxAt (w:World) (p g:Nat) (t:Tab) (cnt used:Nat):Prop where
 blk:Blk w p [.slice (some ⟨g,0,none⟩) t.length t.length,.int .i64 (cnt:Int),.int .i64 (used:Int)] 326
 row:Blk w g (rows plC t) 330
 len:0<t.length∧t.length≤100000
 keys:∀x∈t,x.key.size≤1000∧x.pos≤1099511627776
 lim:cnt≤t.length∧used≤t.length
section
variable {w w':World} {p g:Nat} {t:Tab} {cnt used:Nat}
theorem IxAt.keep {S:List Nat}(h:IxAt w p g t cnt used)(k:Keep S w w')(b:∀q∈S,q∉ [p,g]):IxAt w' p g t cnt used:=
 ⟨h.blk.keep k (fun a=>b p a (by simp)),h.row.keep k (fun a=>b g a (by simp)),h.len,h.keys,h.lim⟩
theorem IxAt.still (h:IxAt w p g t cnt used)(k:Keep [] w w'):IxAt w' p g t cnt used:=h.keep k (by simp)
theorem IxAt.cells (h:IxAt w p g t cnt used)(i:Nat)(x:Pl)(b:t[i]?=some x):w.cell? ⟨g,i*4,none⟩=some (.string x.key)∧w.cell? ⟨g,i*4+1,none⟩=some (.int .i64 (x.pos:Int))∧w.cell? ⟨g,i*4+2,none⟩=some (.bool x.has)∧w.cell? ⟨g,i*4+3,none⟩=some (.bool x.gone):=by
 have a:∀j,j<4→w.cell? ⟨g,i*4+j,none⟩=(plC x)[j]?:=fun j a=>by rw[h.row.cell];exact I9 KM t i x j b a
 exact⟨a 0 (by decide),a 1 (by decide),a 2 (by decide),a 3 (by decide)⟩
theorem IxAt.range (h:IxAt w p g t cnt used)(i:Nat)(x:Pl)(c:t[i]?=some x):w.rangeAt g (i*4) (plC x):=fun j v a=>by have b:j<4:=(Ai.1 a).1;rw[h.row.cell,I9 KM t i x j c b];exact a
def JN:Option Nat→Int
 |none=>-1
 |some i=>(i:Int)
def findS (a:World)(key:Str)(L:Nat→Bool)(X:Nat→Value)(W:World):Prop:=
 Keep [] a W∧(L 1=true→∃b,X 1=.slice (some ⟨b,0,none⟩) 1 1∧W.cell? ⟨b,0,none⟩=some (.string key))
theorem Hl (h:IxAt w p g t cnt used)(key:Str)(hk:key.size≤1000):Calls Tryz.prog 221 #[pr p 0,.string key] w fun e w'=>
  e=.returned (.tuple #[.int .i64 (JN (find t key).1),.int .i64 (JN (find t key).2)])∧Keep [] w w':=by
 have H:=h_ h;have ag:=h.len;have au:=P3 (sb key);obtain⟨b,N⟩:∃b,b=t.length:=⟨_,rfl⟩;rw[←N]at ag;have z:=h_ N;have f:=h.blk;rw[←N]at f;have Q:=h_ f;obtain⟨m0,S⟩:∃m0,m0=IN (sb key) % b:=⟨_,rfl⟩;have e8:IntKind.u64.wrap (b:Int)=(b:Int):=by rw[Dy];omega
 have e9:((IN (sb key):Nat):Int).tmod (b:Int)=(m0:Int):=by rw[EO (by omega),S];exact(Int.natCast_emod _ _).symm
 have an:m0<b:=by rw[S];exact C1 _ ag.1
 have ak:IntKind.i64.wrap (m0:Int)=(m0:Int):=by rw[A9];omega
 have ai:Hid (probe t key 0=m0):=h_ (by unfold probe FZ;rw[Nat.add_zero,←N,←S];exact AR an);have aw:¬b=0:=by omega
 clear N h f S;go_enter Tryz.func221,Tryz.ntmps221;go_wp2_with fail;refine wM (A:=[0,1,3,0,8,24,56,120,248,511,1023,2047]) 2 [fun _=> .string key,fun _=>undef,fun _=> .int .u64 (IN (sb key):Int),fun _=>pr p 0,fun _=>pr p 0,fun _=>pr p 0,fun _=> .slice (some ⟨g,0,none⟩) b b,fun _=> .int .i64 (b:Int),fun _=> .int .u64 (b:Int),fun _=> .int .u64 (m0:Int),fun _=> .int .i64 (m0:Int),fun _=> .int .i64 (m0:Int)] (findS w key) ?start (.s ?m0<|.t ?m1<|.s ?m2<|.s ?m3<|.s ?m4<|.s ?m5<|.s ?m6<|.s ?m7<|.s ?m8<|.s ?m9<|.s ?m10<|.s ?m11<|.nil) ?fin
 case start=>intro X;exact⟨(By _ _).drew,fun h=>absurd h (by decide)⟩
 case m1=>intro U X x W c hl F D n M L B f K' E;have J:=h_ c;have C:=(Q.out.keep c.1 (by simp)).cell 0;clear c;simp[mV,mY,Ab]at n;simp only[Al,Act.put,A8,A7,A6,n]at f;subst f;clear F D M L;go_simp;have kk:Keep [] W (W.alloc (.cells #[.string key] 9)):=(By _ _).alloc _;have al:=BY W [.string key] 9;exact E _ _ _ rfl ⟨J.out.1.trans kk,fun _=>⟨W.heap.size,Bh _ _ _,al.cell 0⟩⟩
 case fin=>
  intro U X w2 c hd;have r:=c.1;have HK:=h_ r;obtain⟨x1,O⟩:∃v,v=X 1:=⟨_,rfl⟩;simp[Al,Act.put,FK,Ab];rw[←O];clear c hd r O e8 e9 ak;have C:=(Q.out.keep HK.out (by simp)).cell 0;go_wp2_with fail;clear C
  go_loopw [25,7,6] (fun ao s7 s6 wr=>∃(k:Nat) (m:Option Nat),ao=.int .i64 (k:Int)∧k≤b∧s7=.int .i64 (probe t key k:Int)∧s6=.int .i64 (JN m)∧find t key=Fv t key (b-k) k m∧Keep [] w wr) (fun x _ _ _=>b+1-(intOf x).toNat)
  case atStart=>exact⟨0,none,rfl,AA _,by rw[ai.out],rfl,by rw[z.out];rfl,HK.out⟩
  case round=>
  obtain⟨k,m,rfl,ap,rfl,rfl,G,r⟩:=hrel;have K:=H.out.still r;have C:=K.blk.cell 0;rw[←z.out]at C;have ac:=h_ r;by_cases aq:k<b
  ·have q0:decide ((k:Int)<(b:Int))=true:=An (by omega)
   have ah:probe t key k<b:=by rw[z.out];exact Ip H.out.len.1 key k
   obtain⟨x,hx⟩:∃x,t[probe t key k]?=some x:=⟨_,Ad (by rw[←z.out];exact ah)⟩;have hr:=K.range _ x hx;have af:t.getD (probe t key k) pl0=x:=by rw[Af,hx];rfl
   have aa:=Re H.out.len.1 key k;obtain⟨d,T⟩:∃d,d=probe t key k:=⟨_,rfl⟩;rw[←T]at hr ah aa⊢
   have ae:Fv t key (b-k) k m=(if x.has=true∧x.key=key then(some d,some d)else let f':=if x.has=false∧m=none then some d else m;if x.has=false∧x.gone=false then(none,f')else Fv t key (b-(k+1)) (k+1) f'):=by
    rw[show b-k=(b-(k+1))+1 by omega]
    conv=>lhs;unfold Fv
    rw[af,←T]
   rw[ae]at G;obtain⟨u,y,aj⟩:=i_3 G hr aa;have q:=h_ (ac.out.alloc (.cells #[.string x.key,.int .i64 (x.pos:Int),.bool x.has,.bool x.gone] 330));have ad:=(K.blk.alloc (.cells #[.string x.key,.int .i64 (x.pos:Int),.bool x.has,.bool x.gone] 330)).cell 0;rw[←z.out]at ad;obtain⟨o,I,xh,P⟩:=x;simp only at u q ad;have HQ:=h_ T;clear K r G hr aa hx af ae T;obtain⟨ab,Z⟩:∃ab,ab=probe t key (k+1):=⟨_,rfl⟩;have V:=h_ Z
   have ar:((d:Int)+1).tmod (b:Int)=(ab:Int):=by rw[EO (by omega),Z,aj.out,←z.out,show(d:Int)+1=((d+1:Nat):Int) by omega];exact(Int.natCast_emod _ _).symm
   clear Z
   cases xh with
   |true=>
    by_cases R:o=key
    ·subst R
     have a:=u.out;rw[Ay ⟨rfl,rfl⟩]at a;have j:=h_ a;clear a
     go_wp2_with (refine Bc rfl 330 _ rfl g (d*4) rfl [.string o,.int .i64 (I:Int),.bool true,.bool P] _ y.out C9 rfl (by rfl) ?_)
     go_ret2;exact⟨by rw[j.out];rfl,q.out⟩
    ·have a:=u.out
     rw[Aw (fun h=>R h.2)]at a;have l:¬(true=false∧m=none):=fun h=>by cases h.1
     have i:¬(true=false∧P=false):=fun h=>by cases h.1
     simp only[Aw l,Aw i]at a;have av:(o.toList==key.toList)=false:=by simpa using fun e=>R (Nr e)
     have j:=h_ a;clear a R l i
     go_wp2_with (refine Bc rfl 330 _ rfl g (d*4) rfl [.string o,.int .i64 (I:Int),.bool true,.bool P] _ y.out C9 rfl (by rfl) ?_)
     go_roundw
     case rel=>exact⟨k+1,m,by go_num,by omega,by rw[V.out],rfl,j.out,q.out⟩
     case measure=>simp only[intOf];omega
   |false=>
    have a:=u.out;rw[Aw (fun h=>by cases h.1)]at a
    cases m with
    |none=>
     have l:(false=false∧(none:Option Nat)=none):=⟨rfl,rfl⟩;simp only[Ay l]at a
     cases P with
     |false=>
      have i:(false=false∧false=false):=⟨rfl,rfl⟩;simp only[Ay i]at a;have j:=h_ a;clear a l i;simp only[JN]
      go_wp2_with (refine Bc rfl 330 _ rfl g (d*4) rfl [.string o,.int .i64 (I:Int),.bool false,.bool false] _ y.out C9 rfl (by rfl) ?_)
      go_ret2;exact⟨by rw[j.out];rfl,q.out⟩
     |true=>
      have i:¬(false=false∧true=false):=fun h=>by cases h.2
      simp at a;have j:=h_ a;clear a l i;simp only[JN]
      go_wp2_with (refine Bc rfl 330 _ rfl g (d*4) rfl [.string o,.int .i64 (I:Int),.bool false,.bool true] _ y.out C9 rfl (by rfl) ?_)
      go_roundw
      case rel=>exact⟨k+1,some d,by go_num,by omega,by rw[V.out],rfl,j.out,q.out⟩
      case measure=>simp only[intOf];omega
    |some f0=>
     have l:¬(false=false∧(some f0:Option Nat)=none):=fun h=>by cases h.2
     simp only[Aw l]at a;have q8:¬(f0:Int)<0:=by omega
     cases P with
     |false=>
      have i:(false=false∧false=false):=⟨rfl,rfl⟩;simp only[Ay i]at a;have j:=h_ a;clear a l i;simp only[JN]
      go_wp2_with (refine Bc rfl 330 _ rfl g (d*4) rfl [.string o,.int .i64 (I:Int),.bool false,.bool false] _ y.out C9 rfl (by rfl) ?_)
      go_ret2;exact⟨by rw[j.out];rfl,q.out⟩
     |true=>
      have i:¬(false=false∧true=false):=fun h=>by cases h.2
      simp at a;have j:=h_ a;clear a l i;simp only[JN]
      go_wp2_with (refine Bc rfl 330 _ rfl g (d*4) rfl [.string o,.int .i64 (I:Int),.bool false,.bool true] _ y.out C9 rfl (by rfl) ?_)
      go_roundw
      case rel=>exact⟨k+1,some f0,by go_num,by omega,by rw[V.out],rfl,j.out,q.out⟩
      case measure=>simp only[intOf];omega
  ·have he:k=b:=by omega
   subst he;have q0:decide ((k:Int)<(k:Int))=false:=Ak (by omega);rw[C8]at G;have u:=h_ G;clear G K r;go_wp2;go_ret2;exact⟨by rw[u.out];rfl,ac.out⟩
 case m2=>intro U X x W c F D n M L B f K' E;have u1:U 1=true:=D 1 (by decide);have Y:=F 1 u1;obtain⟨b1,O,am⟩:=c.2 u1;rw[O]at Y;clear F D M L;have J:=h_ c;have C:=(Q.out.keep c.1 (by simp)).cell 0;clear c;simp[mV,mY,Ab]at n;simp only[Al,Act.put,A8,A7,A6,n]at f;subst f;simp only[←Y]at E⊢;clear Y O;go_simp;refine(Sr b1 1 1 rfl key am (by omega)).mono ?_;rintro e w2 ⟨rfl,rfl⟩;go_simp;exact E _ _ _ rfl rfl J.out
 all_goals intro U X x W c F D n M L B f K' E;clear F D M L;have J:=h_ c;have C:=(Q.out.keep c.1 (by simp)).cell 0;clear c;simp[mV,mY,Ab]at n;simp only[Al,Act.put,A8,A7,A6,n]at f;subst f;go_simp;exact E _ _ _ rfl rfl J.out
end
section
variable {w w':World} {p g:Nat} {t:Tab} {cnt used:Nat}
def EP:Tab:=List.replicate 16 pl0
theorem Tryz.infoPlace:(Tryz.prog.info? 330).map (fun i=>(i.zero,i.size,i.bytes))=some (some (.agg #[.string ByteArray.empty,.int .i64 0,.bool false,.bool false]),4,32):=by kernel_rfl
theorem Tryz.sizePlace:(Tryz.prog.info? 330).map (·.size)=some 4:=by kernel_rfl
theorem Tu:madeCells (Value.agg #[.string ByteArray.empty,.int .i64 0,.bool false,.bool false]).cells (Int.toNat 16*4)=(rows plC EP).toArray :=by kernel_rfl
theorem IC {w:World}:Calls Tryz.prog 247 #[] w fun e w'=>∃p g,e=.returned (pr p 0)∧IxAt w' p g EP 0 0∧Keep [] w w'∧w.heap.size≤p∧w.heap.size≤g:=by
 obtain⟨o,i,l,m,n⟩:=AU Tryz.infoPlace;have d:=fun W:World=>run_make (P:=Tryz.prog) W 324 330 o _ Tryz.underlying324 i l .i64 .i64 16 16 (by omega) (by omega) (by rw[n];omega) (by omega)
 have b:Hid (∀W:World,(Instr.makeSlice 324 (.int .i64 16) (.int .i64 16)).run Tryz.prog W=.ok (.slice (some ⟨W.heap.size,0,none⟩) 16 16) (W.alloc (.cells (rows plC EP).toArray 330))):=h_ (fun W=>by rw[d W,m,Tu];rfl)
 have j:=b.out;obtain⟨rs,a⟩:∃rs,rs=(rows plC EP).toArray :=⟨_,rfl⟩;rw[←a]at j;have h:=h_ a;clear d a b;go_enter Tryz.func247,Tryz.ntmps247;go_wp2;go_ret;have c:=BY w (rows plC EP) 330;rw[←h.out]at c;have q:Keep [] w (w.alloc (.cells rs 330)):=(By _ _).alloc _;have f:Keep [] (w.alloc (.cells rs 330)) ((w.alloc (.cells rs 330)).alloc (.cells #[.slice (some ⟨w.heap.size,0,none⟩) 16 16,.int .i64 0,.int .i64 0] 326)):=(By _ _).alloc _;refine⟨_,w.heap.size,rfl,⟨Yt _ [.slice (some ⟨w.heap.size,0,none⟩) 16 16,.int .i64 0,.int .i64 0] _ _ (by simp),c.keep f (by simp),by decide, ?_,by decide⟩,q.trans f,by omega,by omega⟩;intro x k;have:=DL k;subst this;decide
theorem R9 (h:IxAt w p g t cnt used)(key:Str)(f:key.size≤1000)(c:(find t key).1 =none):Calls Tryz.prog 278 #[pr p 0,.string key] w fun e w'=>e=.returned (.tuple #[.int .i64 0,.bool false])∧Keep [] w w':=by have a:=h_ (Hl h key f);rw[c]at a;obtain⟨b,d⟩:∃b,b=JN (find t key).2 :=⟨_,rfl⟩;rw[←d]at a;clear h c d;go_enter Tryz.func278,Tryz.ntmps278;go_wp2_with fail;refine a.out.mono ?_;rintro e j ⟨rfl,i⟩;simp only[JN];go_wp2;go_ret2;exact⟨rfl,i⟩
theorem R8 (h:IxAt w p g t cnt used)(key:Str)(z:key.size≤1000)(i:Nat)(x:Pl)(l:(find t key).1 =some i)(d:t[i]?=some x):Calls Tryz.prog 278 #[pr p 0,.string key] w fun e w'=>e=.returned (.tuple #[.int .i64 (x.pos:Int),.bool true])∧Keep [] w w':=by
 have H:=h_ h;have a:=h_ (Hl h key z);rw[l]at a;have y:=(Ai.1 d).1;have s:=h_ d;obtain⟨k,m⟩:∃k,k=JN (find t key).2 :=⟨_,rfl⟩;rw[←m]at a;obtain⟨n,c⟩:∃n,n=t.length:=⟨_,rfl⟩;rw[←c]at y;have r:=h_ c;obtain⟨o,f⟩:∃o,o=x.pos:=⟨_,rfl⟩;have u:=h_ f;rw[←f];clear l d m h c f;go_enter Tryz.func278,Tryz.ntmps278;go_wp2_with fail;refine a.out.mono ?_;rintro e B ⟨rfl,j⟩;have b:=H.out.still j;have v:=b.blk.cell 0;rw[←r.out]at v;obtain⟨_,c1,_,_⟩:=b.cells i x s.out;rw[←u.out]at c1;have q:=h_ j;clear b j;simp only[JN];have A:¬(i:Int)<0:=by omega
 go_wp2;go_ret2;exact⟨rfl,q.out⟩
theorem PC (h:IxAt w p g t cnt used)(pos:Int)(s:∀x∈t,x.has=true→pos≤(x.pos:Int)):Calls Tryz.prog 217 #[pr p 0,.int .i64 pos] w fun e w'=>
  e=.returned (.int .i64 0)∧IxAt w' p g t cnt used∧Keep [p] w w':=by
 have H:=h_ h;have E:=h.len;have z:=h_ s;obtain⟨b,d⟩:∃b,b=t.length:=⟨_,rfl⟩;rw[←d]at E;have r:=h.blk.cell 0;rw[←d]at r;have A:=h_ d;have G:p≠g:=h.blk.ty.ne h.row.ty (by decide);clear h d s;go_enter Tryz.func217,Tryz.ntmps217;go_wp2_with fail;clear r
 go_loopw [15,5] (fun J K wr=>∃k:Nat,J=.int .i64 (k:Int)∧K=.int .i64 0∧k≤b∧Keep [] w wr) (fun x _ _=>b+1-(intOf x).toNat)
 case atStart=>exact⟨0,rfl,rfl,AA _,By _ _⟩
 case round=>
 obtain⟨k,rfl,rfl,N,c⟩:=hrel;have a:=H.out.still c;have i:=h_ c;by_cases F:k<b
 ·have I:decide ((k:Int)<(b:Int))=true:=An (by omega)
  obtain⟨x,j⟩:∃x,t[k]?=some x:=⟨_,Ad (by rw[←A.out];exact F)⟩;have u:=a.range k x j;have l:=z.out x (Aq j);obtain⟨n,f,y,m⟩:=x;simp only at l;have q:=h_ u;have o:=h_ (i.out.alloc (.cells #[.string n,.int .i64 (f:Int),.bool y,.bool m] 330));have B:=h_ l;clear a c u j l
  cases y with
  |false=>
   go_wp2_with (refine Bc rfl 330 _ rfl g (k*4) rfl [.string n,.int .i64 (f:Int),.bool false,.bool m] _ q.out C9 rfl (by rfl) ?_)
   go_roundw
   case rel=>exact⟨k+1,by go_num,rfl,by omega,o.out⟩
   case measure=>simp only[intOf];omega
  |true=>
   have O:¬(f:Int)<pos:=by have:=B.out rfl;omega
   go_wp2_with (refine Bc rfl 330 _ rfl g (k*4) rfl [.string n,.int .i64 (f:Int),.bool true,.bool m] _ q.out C9 rfl (by rfl) ?_)
   go_roundw
   case rel=>exact⟨k+1,by go_num,rfl,by omega,o.out⟩
   case measure=>simp only[intOf];omega
 ·have D:k=b:=by omega
  subst D;have I:decide ((k:Int)<(k:Int))=false:=Ak (by omega);have c1:=a.blk.cell 1;have L:=a.blk.free 1;have M:cnt≤100000:=AJ a.lim.1 H.out.len.2;clear a c;go_wp2;go_ret;have a:=H.out.still i.out;have C:=a.blk.set 1 (.int .i64 (cnt:Int));have v:Keep [p] wr (wr.setCell ⟨p,1,none⟩ (.int .i64 (cnt:Int))):=(By _ _).setCell (.inl (by simp)) _;exact⟨rfl,⟨C,a.row.keep v (by simpa using G.symm),a.len,a.keys,a.lim⟩,(i.out.mono (by simp)).trans v⟩
end
section
variable {w w':World} {p g:Nat} {t:Tab} {cnt used:Nat}
theorem MX (h:IxAt w p g t cnt used)(ak:2*used<t.length)(key:Str)(L:key.size≤1000)(pos:Nat)(ab:pos≤1099511627776)(i:Nat)(x:Pl)(Y:(find t key).1 =none)(Z:(find t key).2 =some i)(O:t[i]?=some x)(N:used+(if x.gone=true then 0 else 1)≤t.length∧cnt+1≤t.length):
  Calls Tryz.prog 175 #[pr p 0,.string key,.int .i64 (pos:Int)] w fun e w'=>e=.returned (.int .i64 0)∧IxAt w' p g (t.set i ⟨key,pos,true,false⟩) (cnt+1) (used+(if x.gone=true then 0 else 1))∧Keep [p,g] w w':=by
 have H:=h_ h;have aj:=h.len;have aa:=(Ai.1 O).1;obtain⟨A,z⟩:∃A,A=t.length:=⟨_,rfl⟩;rw[←z]at aj aa ak N;have f:=h.blk.cell 0;have c2:=h.blk.cell 2;rw[←z]at f;obtain⟨m,F⟩:=i_2 z O;have q:p≠g:=h.blk.ty.ne h.row.ty (by decide);have q0:decide (2*(used:Int)≥(A:Int))=false:=Ak (by omega);obtain⟨ag,ah⟩:=i_2 Y Z;clear h z Y Z O;go_enter Tryz.func175,Tryz.ntmps175;go_wp2_with fail
 go_quiet (fail)
 have G:Keep [] w (w.drewN nq):=⟨rfl,rfl,rfl,Av _,fun _ _ _=>rfl⟩;have v:=h_ ((Hl (H.out.still G) key L));rw[ag.out,ah.out]at v;simp only[JN]at v;have E:=h_ G;obtain⟨w1,af⟩:∃W,W=w.drewN nq:=⟨_,rfl⟩;rw[←af]at E v⊢;clear G af f c2;go_wp2_with fail;refine v.out.mono ?_;rintro e P ⟨rfl,l⟩;have d:=H.out.still (E.out.trans l);have c2:=d.blk.cell 2;have I:=d.blk.free 2;obtain⟨_,_,_,j⟩:=d.cells i x F.out;have c:=h_2 d (E.out.trans l);obtain⟨xk,xp,xh,xg⟩:=x;simp only at j;have am:¬(i:Int)<0:=by omega
 have ae:=Vn KM t i ⟨key,pos,true,false⟩ (by rw[←m.out];exact aa);have V:=h_ ae;have ac:i*4+4≤(rows plC t).length :=by rw[Eo KM,←m.out];omega
 have S:=h_ ac;have ad:=d.row;have U:=h_ ad;have al:cnt≤100000:=AJ d.lim.1 d.len.2;have an:used≤100000:=AJ d.lim.2 d.len.2;have X:=h_ N;have ai:=h_2 L ab;clear d l ae ac ad j N L ab
 have R:∀(s:Nat) (B:World),used≤s→s≤A→Blk B p [.slice (some ⟨g,0,none⟩) t.length t.length,.int .i64 ((cnt:Int)+1),.int .i64 (s:Int)] 326→Blk B g (rows plC (t.set i ⟨key,pos,true,false⟩)) 330→IxAt B p g (t.set i ⟨key,pos,true,false⟩) (cnt+1) s:=fun s B h1 h2 hb hr=>⟨by rw[Bi];push_cast;exact hb,hr,by rw[Bi];exact c.out.1.len,fun y hy=>by
  rcases DC hy with h|h
  ·exact c.out.1.keys y h
  ·subst h;exact ai.out,by rw[Bi,←m.out];exact⟨by have:=X.out.2;rw[←m.out]at*;omega,h2⟩⟩
 have Q:=h_ R;clear R
 cases xg with
 |true=>
  have f:=c.out.1.blk.cell 0;rw[←m.out]at f;obtain⟨_,_,_,j⟩:=c.out.1.cells i ⟨xk,xp,xh,true⟩ F.out;simp only at j
  go_wp2_with (refine DM (T:=330) rfl 330 _ _ rfl g (i*4) (rows plC t) [.string key,.int .i64 (pos:Int),.bool true,.bool false] rfl rfl U.out S.out Tryz.sizePlace (SE ⟨key,pos,true,false⟩) ?_;intro u k b;have a:=c.out.1.blk.keep b (by simpa using q);have e1:=a.cell 1;have g1:=a.free 1;have D:=h_3 a k b;clear a k b f c2 I j)
  go_ret;obtain⟨a,k,b⟩:=D.out;have K:=a.set 1 (.int .i64 ((cnt:Int)+1));have r:Keep [p] u (u.setCell ⟨p,1,none⟩ (.int .i64 ((cnt:Int)+1))):=(By _ _).setCell (.inl (by simp)) _;have n:=k.keep r (by simpa using q.symm);change Blk _ g (BQ (rows plC t) (i*4) (plC ⟨key,pos,true,false⟩)) _ at n;rw[V.out]at n;refine⟨rfl,Q.out used _ (Av _) (by have:=c.out.1.lim.2;rw[←m.out]at this;exact this) K n, ?_⟩;exact((c.out.2.mono (S':=[p,g]) (by simp)).trans (b.mono (S':=[p,g]) (by simp))).trans (r.mono (S':=[p,g]) (by simp))
 |false=>
  have f:=c.out.1.blk.cell 0;rw[←m.out]at f;obtain⟨_,_,_,j⟩:=c.out.1.cells i ⟨xk,xp,xh,false⟩ F.out;simp only at j;have J:=c.out.1.blk.set 2 (.int .i64 ((used:Int)+1));have l:Keep [p] P (P.setCell ⟨p,2,none⟩ (.int .i64 ((used:Int)+1))):=(By _ _).setCell (.inl (by simp)) _;have M:=U.out.keep l (by simpa using q.symm);obtain⟨ao,o⟩:∃W,W=P.setCell ⟨p,2,none⟩ (.int .i64 ((used:Int)+1)):=⟨_,rfl⟩;rw[←o]at J l M;have C:=h_3 J l M;clear J l M
  go_wp2_with (first|(rw[←o];clear o f c2 I j;fail)|(refine DM (T:=330) rfl 330 _ _ rfl g (i*4) (rows plC t) [.string key,.int .i64 (pos:Int),.bool true,.bool false] rfl rfl (by rw[←o];exact C.out.2.2) S.out Tryz.sizePlace (SE ⟨key,pos,true,false⟩) ?_;intro u k b;rw[←o]at b;have a:=C.out.1.keep b (by simpa using q);have e1:=a.cell 1;have g1:=a.free 1;have D:=h_3 a k b;clear a k b f c2 I j o))
  go_ret;obtain⟨a,k,b⟩:=D.out;have K:=a.set 1 (.int .i64 ((cnt:Int)+1));have r:Keep [p] u (u.setCell ⟨p,1,none⟩ (.int .i64 ((cnt:Int)+1))):=(By _ _).setCell (.inl (by simp)) _;have n:=k.keep r (by simpa using q.symm);change Blk _ g (BQ (rows plC t) (i*4) (plC ⟨key,pos,true,false⟩)) _ at n;rw[V.out]at n;refine⟨rfl,Q.out (used+1) _ (by omega) (by have:=X.out.1;rw[Aw (by simp)]at this;exact this) (by push_cast;exact K) n, ?_⟩;exact(((c.out.2.mono (S':=[p,g]) (by simp)).trans (C.out.2.1.mono (S':=[p,g]) (by simp))).trans (b.mono (S':=[p,g]) (by simp))).trans (r.mono (S':=[p,g]) (by simp))
end
theorem VT {w:World}:Calls Tryz.prog 329 #[.slice none 0 0,.int .i64 0,.int .i64 0] w fun e w'=>e=.returned (.tuple #[])∧Keep [] w w':=by
 go_enter Tryz.func329,Tryz.ntmps329;go_wp2
 go_loopw [6] (fun a wr=>a=.int .i64 1∧wr=w) (fun _ _=>0)
 case atStart=>exact⟨rfl,rfl⟩
 case round=>
 obtain⟨rfl,rfl⟩:=hrel;go_wp2
 go_end0
 exact⟨rfl,By _ _⟩
theorem X4 {w:World}:Calls Tryz.prog 290 #[.int .u64 0] w fun e w'=>e=.returned (.int .i64 0)∧Keep [] w w':=by go_enter Tryz.func290,Tryz.ntmps290;go_wp2_with fail;go_ret;exact⟨by kernel_rfl,By _ _⟩
theorem len_0 {w:World}:Calls Tryz.prog 262 #[.int .u64 0] w fun e w'=>e=.returned (.int .i64 0)∧Keep [] w w':=by go_enter Tryz.func262,Tryz.ntmps262;go_wp2_with fail;refine X4.mono ?_;rintro e b ⟨rfl,a⟩;go_wp2;go_ret;exact⟨rfl,a⟩
theorem V2 {w:World}:Calls Tryz.prog 316 #[.slice none 0 0,.int .i64 0,.int .i64 0,.int .i64 0] w fun e w'=>e=.returned (.tuple #[])∧Keep [] w w':=by
 go_enter Tryz.func316,Tryz.ntmps316;go_wp2
 go_loopw [1,2,3,8,9] (fun b c d f h wr=>b=.int .i64 0∧c=.int .i64 0∧d=.int .i64 0∧wr=w) (fun _ _ _ _ _ _=>0)
 case atStart=>exact⟨rfl,rfl,rfl,rfl⟩
 case round=>
 obtain⟨rfl,rfl,rfl,rfl⟩:=hrel;go_wp2_with fail;refine VT.mono ?_;rintro e i ⟨rfl,a⟩;go_wp2_with fail;refine Be (v:= .tuple #[]) (Cx rfl _ _ _) rfl ?_;exact⟨rfl,a⟩
theorem Tw {w:World}:Calls Tryz.prog 292 #[.slice none 0 0] w fun e w'=>e=.returned (.tuple #[])∧Keep [] w w':=by
 go_enter Tryz.func292,Tryz.ntmps292;go_wp2_with fail;refine len_0.mono ?_;rintro e c ⟨rfl,a⟩;go_wp2_with fail;refine V2.mono ?_;rintro e d ⟨rfl,b⟩;go_wp2
 go_end0
 exact⟨rfl,a.trans b⟩
section
variable {w w':World} {p g:Nat} {t:Tab} {cnt used:Nat}
theorem PB (h:IxAt w p g t cnt used)(l:∀x∈t,x.has=false):Calls Tryz.prog 267 #[pr p 0] w fun e w'=>e=.returned (.slice none 0 0)∧Keep [] w w':=by
 have H:=h_ h;have A:=h.len;have u:=h_ l;obtain⟨a,c⟩:∃a,a=t.length:=⟨_,rfl⟩;rw[←c]at A;have j:=h.blk.cell 0;rw[←c]at j;have y:=h_ c;clear h c l;go_enter Tryz.func267,Tryz.ntmps267;go_wp2_with fail;clear j
 go_loopw [13,3] (fun E F wr=>∃k:Nat,E=.int .i64 (k:Int)∧F=.slice none 0 0∧k≤a∧Keep [] w wr) (fun x _ _=>a+1-(intOf x).toNat)
 case atStart=>exact⟨0,rfl,rfl,AA _,By _ _⟩
 case round=>
 obtain⟨k,rfl,rfl,G,b⟩:=hrel;have d:=H.out.still b;have i:=h_ b;by_cases B:k<a
 ·have D:decide ((k:Int)<(a:Int))=true:=An (by omega)
  obtain⟨x,f⟩:∃x,t[k]?=some x:=⟨_,Ad (by rw[←y.out];exact B)⟩;have m:=d.range k x f;have n:=u.out x (Aq f);obtain⟨q,r,J,o⟩:=x;simp only at n;subst n;have v:=h_ m;have s:=h_ (i.out.alloc (.cells #[.string q,.int .i64 (r:Int),.bool false,.bool o] 330));clear d b m f
  go_wp2_with (refine Bc rfl 330 _ rfl g (k*4) rfl [.string q,.int .i64 (r:Int),.bool false,.bool o] _ v.out C9 rfl (by rfl) ?_)
  go_roundw
  case rel=>exact⟨k+1,by go_num,rfl,by omega,s.out⟩
  case measure=>simp only[intOf];omega
 ·have z:k=a:=by omega
  subst z;have D:decide ((k:Int)<(k:Int))=false:=Ak (by omega);clear d b;go_wp2_with fail;refine Tw.mono ?_;rintro e I ⟨rfl,C⟩;go_wp2;go_ret;exact⟨rfl,i.out.trans C⟩
end
end Go.Proofs.YtnhbioehiiifdaaGreat
