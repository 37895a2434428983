import Derived.Test.YtnhbioehiiifdaaGreatA01
import Derived.Deep.RegionLaw
import Derived.Lib.SliceRun
set_option maxRecDepth 100000
set_option maxHeartbeats 16000000
set_option linter.all false
namespace Go.Proofs.YtnhbioehiiifdaaGreat
def zz (n:Int):Nat:=if 0≤n then(2*n).toNat else(-2*n-1).toNat
def O3 (u:Nat):Int:=if u % 2=1 then-((u/2:Nat):Int)-1 else((u/2:Nat):Int)
theorem WU (n:Int):O3 (zz n)=n:=by unfold O3 zz;split<;>split<;>omega
theorem IJ (n:Int)(a: -9223372036854775808≤n)(b:n≤9223372036854775807):zz n<18446744073709551616:=by unfold zz;split<;>omega
def Ga (u:Nat):List Nat:=if u<128 then[u]else(u % 128+128)::Ga (u/128)
termination_by u
decreasing_by omega
theorem GO (u:Nat)(h:u<128):Ga u=[u]:=by rw[Ga,Ay h]
theorem J3 (u:Nat)(h:128≤u):Ga u=(u % 128+128)::Ga (u/128):=by rw[Ga,Aw (by omega)]
theorem R6 (u:Nat):Ga u≠[]:=by rw[Ga];split<;>simp
theorem L5 (u:Nat):∀c∈Ga u,c<256:=by
 induction u using Nat.strongRecOn with
 |_ u ih=>
  intro c a;by_cases h:u<128
  ·rw[GO u h]at a;simp at a;omega
  ·rw[J3 u (by omega)]at a
   rcases Ac.1 a with rfl|a
   ·omega
   ·exact ih (u/128) (by omega) c a
theorem DO (k:Nat):∀u,u<128^k→0<k→(Ga u).length ≤k:=by
 induction k with
 |zero=>intro u _ h;omega
 |succ k ih=>
  intro u a _;by_cases h:u<128
  ·rw[GO u h];simp
  ·rw[J3 u (by omega)]
   by_cases b:k=0
   ·subst b;simp at a;omega
   ·have:=ih (u/128) (by rw[Nat.pow_succ]at a;omega) (by omega)
    simp;omega
def D2:List Nat→Nat→Nat→Int×Nat×Nat
 |[],_,_=>(0,0,2)
 |c::r,i,u=>if i=9∧1<c then(0,0,1)else if 127<c then D2 r (i+1) (u+(c % 128)*128^i)else if 0<i∧c=0 then(0,0,1)else(O3 (u+c*128^i),i+1,0)
def get (l:List Nat):Int×Nat×Nat:=D2 l 0 0
theorem Uo (r:List Nat):∀(v:Nat) (i u:Nat),i≤9→v<2^(64-7*i)→(0<i→0<v)→D2 (Ga v++r) i u=(O3 (u+v*128^i),i+(Ga v).length,0):=by
 intro v
 induction v using Nat.strongRecOn with
 |_ v ih=>
  intro i u l a n;by_cases h:v<128
  ·rw[GO v h]
   have b:¬(i=9∧1<v):=by rintro⟨rfl,h2⟩;simp at a;omega
   simp only[List.cons_append,List.nil_append,D2,b,D1,List.length_singleton];rw[Aw (by omega),Aw (by omega)]
  ·rw[J3 v (by omega)]
   have m:i<9:=by
    rcases Gi i 9 with c|c
    ·exact c
    ·have:i=9:=by omega
     subst this;simp at a;omega
   have b:¬(i=9∧1<v % 128+128):=by omega
   simp only[List.cons_append,D2,b,D1,List.length_cons];rw[Ay (by omega)]
   have k:v/128<2^(64-7*(i+1)):=by
    have e:64-7*i=(64-7*(i+1))+7:=by omega
    rw[e,Nat.pow_add]at a;have:(2:Nat)^7=128:=rfl;rw[this]at a;exact Nat.div_lt_of_lt_mul (by rw[Nat.mul_comm];exact a)
   rw[ih (v/128) (by omega) (i+1) _ (by omega) k (by omega)];have d:(v % 128+128) % 128=v % 128:=by omega
   rw[d]
   have f:u+v % 128*128^i+v/128*128^(i+1)=u+v*128^i:=by
    have:v=128*(v/128)+v % 128:=by omega
    rw[Nat.pow_succ];have g:v*128^i=(128*(v/128)+v % 128)*128^i:=by rw[←this]
    rw[g,Dv];have j:v/128*(128^i*128)=128*(v/128)*128^i:=by rw[Nat.mul_comm (128^i) 128,←Nat.mul_assoc,Nat.mul_comm (v/128) 128]
    rw[j];omega
   rw[f,show i+1+(Ga (v/128)).length =i+((Ga (v/128)).length +1) by omega]
theorem NU (n:Int)(a: -9223372036854775808≤n)(b:n≤9223372036854775807)(r:List Nat):get (Ga (zz n)++r)=(n,(Ga (zz n)).length,0):=by unfold get;rw[Uo r (zz n) 0 0 (by omega) (IJ n a b) (by omega)];simp[WU]
theorem Fq:∀(l:List Nat) (i u:Nat),i≤9→u<128^i→(∀c∈l,c<256)→
  ((D2 l i u).2.2 =0∧i<(D2 l i u).2.1 ∧(D2 l i u).2.1 ≤i+l.length∧(D2 l i u).2.1 ≤10∧-9223372036854775808≤(D2 l i u).1 ∧(D2 l i u).1 ≤9223372036854775807)∨
  ((D2 l i u).2.2 ≠0∧(D2 l i u).2.2 ≤2∧(D2 l i u).1 =0∧(D2 l i u).2.1 =0):=by
 intro l
 induction l with
 |nil=>intro i u _ _ _;right;simp[D2]
 |cons c r ih=>
  intro i u w z j;have v:c<256:=j c (by simp);unfold D2
  split
  ·right;simp
  ·rename_i h9
   split
   ·rename_i h127
    have y:i<9:=by omega
    have q:u+c % 128*128^i<128^(i+1):=by rw[Nat.pow_succ];have:c % 128*128^i≤127*128^i:=Ch _ (by omega);omega
    rcases ih (i+1) _ (by omega) q (fun x s=>j x (by simp[s]))with⟨a,b,d,e,f,g⟩|h
    ·left;exact⟨a,by omega,by simp;omega,e,f,g⟩
    ·right;exact h
   ·split
    ·right;simp
    ·left
     rename_i h127 h0
     have t:u+c*128^i<18446744073709551616:=by
      by_cases h:i=9
      ·subst h
       have o:c≤1:=by omega
       have:c*128^9≤1*128^9:=Ch _ o;have m:(128:Nat)^9=9223372036854775808:=rfl;rw[m]at*;omega
      ·have n:i≤8:=by omega
       have p:(128:Nat)^i≤128^8:=EM (by decide) n;have k:(128:Nat)^8=72057594037927936:=rfl;rw[k]at p;have:c*128^i≤127*128^i:=Ch _ (by omega);omega
     refine⟨rfl,by dsimp only;omega,by simp only[List.length_cons];omega,by dsimp only;omega, ?_, ?_⟩
     ·simp only[O3];split<;>omega
     ·simp only[O3];split<;>omega
open Go.ChangeShapes Go.WideShapes Go.ChangeAt Go.RowKit
def Sv (n x:Int):Int:=if 0≤x∧x≤1099511627776-n then n+x else n
def I4 (n:Int)(l:List Int):Int:=l.foldl Sv n
structure IsClock (w:World) (b:Nat) (n:Int):Prop where
 blk:Blk w b [.int .i64 n] 158
 lo:0≤n
 hi:n≤1099511627776
theorem IsClock.keep {S:List Nat}{w a:World}{b:Nat}{n:Int}(h:IsClock w b n)(k:Keep S w a)(c:b∉S):IsClock a b n:=⟨h.blk.keep k c,h.lo,h.hi⟩
theorem DN {b:Nat}{n:Int}{w:World}(h:IsClock w b n):
  Calls Tryz.prog 53 #[pr b 0] w fun e a=>e=.returned (.int .i64 n)∧w=a:=by
 have c:=h.blk.cell 0;clear h;go_enter Tryz.func53,Tryz.ntmps53;go_wp2;go_ret;exact⟨rfl,rfl⟩
def Sw (n t:Int):Int:=if t<0∨n<t then 0 else n-t
theorem E0 {b:Nat}{n:Int}{w:World}(t:Int)(h:IsClock w b n)(m:Int)(d:m=Sw n t):
  Calls Tryz.prog 167 #[pr b 0,.int .i64 t] w fun e f=>e=.returned (.int .i64 m)∧w=f:=by
 subst d;have j:=h.blk.cell 0;obtain⟨_,g,i⟩:=h;unfold Sw;by_cases a:t<0
 ·go_enter Tryz.func167,Tryz.ntmps167
  go_wp2;go_ret;exact⟨by simp[a],rfl⟩
 ·by_cases c:n<t
  all_goals go_enter Tryz.func167,Tryz.ntmps167;go_wp2;go_ret;exact⟨by simp[a,c],rfl⟩
def Ticked (b:Nat)(m:Int)(w:World)(e:Ending)(a:World):Prop:=e=.returned (.int .i64 m)∧IsClock a b m∧Keep [b] w a
theorem Ts {b:Nat}{n:Int}{w:World}(a:Option Addr)(cap:Nat)(h:IsClock w b n)(m:Int)(g:m=I4 n [1]):
  Calls Tryz.prog 87 #[pr b 0,.slice a 0 cap] w (Ticked b m w):=by
 subst g;have o:=h.blk.lt;have c:=h.blk;obtain⟨_,j,k⟩:=h;have f:=c.cell 0;have i:=c.free 0;have d:=h_ c;clear c;simp only[List.getElem?_cons_zero]at f;by_cases l:1≤1099511627776-n
 ·have e:I4 n [1]=n+1:=by simp[I4,Sv];omega
  rw[e];clear e;go_enter Tryz.func87,Tryz.ntmps87;go_wp2
  go_rounds 2
  go_ret;exact⟨rfl,⟨(d.out.set 0 _).alloc _,by omega,by omega⟩,((By _ _).setCell (by simp) _).alloc _⟩
 ·have e:I4 n [1]=n:=by simp[I4,Sv];omega
  rw[e];clear e;go_enter Tryz.func87,Tryz.ntmps87;go_wp2
  go_rounds 2
  go_ret;exact⟨rfl,⟨(d.out.alloc _),by omega,by omega⟩,((By _ _).alloc _)⟩
section
variable {P:Program}
theorem FW (w:World){C:Array Oper}{o:Oper}{a:Act}{K:Act→World→Prop}{Q:Exit→Act→World→Prop}{F:Prop}(p:o.guard=none)(s x:Operand)(t j:TypeId)
  (r:o.op=.call {callee:= .builtin .append,args:=#[s,x],argTypes:=#[t,j]}) (e:TypeId) (i:TypeInfo) (A:P.underlying t=some (.slice e)) (q:P.info? e=some i)
  (g b f:Nat) (c:Array Value) (n:w.heap[g]?=some (.cells c e (0,0))) (y:a.eval s=.slice (some ⟨g,0,none⟩) b f) (k:Value) (m:Nat) (d:List Value) (B:a.eval x=k) (z:Src P i.size j k m d w)
  (v:b+m≤f) (l:b*i.size+d.length≤c.size)
  (h:K (a.put o.dst (.slice (some ⟨g,0,none⟩) (b+m) f)) (w.setRow g (c.toList.take (b*i.size)++d++c.toList.drop (b*i.size+d.length)).toArray)):
  if Region.wanted o (yielded C a.tmps)=true then Oper.wp P o a w K Q else F:=by
 rw[Ay (by simp[Region.wanted,p])];have u:=Gx (P:=P) w t j o.type e i A q g b f c n k m d z v l;unfold Oper.wp execOp;simp only[r,resolve,invoke,builtin,Db,Sem.run_pure,Result.andThen_ok,DZ,Br,Cy,y,B,u];exact h
theorem IM (w:World)(t e ty:TypeId)(z:Value)(a:List Value)(j:P.underlying t=some (.slice e))(k:∀w,(zeroValue e).run P w=.ok z w)(l:(Builtin.zeroCells z.cells 1).toList =a)(f:∀v∈a,v.oneCell'=true)
  (g o c:Nat) (b:Array Value) (i:w.heap[g]?=some (.cells b e (0,0))) (h:o+a.length≤b.size):
  (Builtin.clear_ #[t] ty #[.slice (some ⟨g,o,none⟩) 1 c]).run P w=.ok (.tuple #[]) (w.setRow g (b.toList.take o++a++b.toList.drop (o+a.length)).toArray):=by
 have d:=run_storeCells_at P g o e a 0 b w i (by simpa using h) f;simp only[Nat.add_zero]at d;simp[Builtin.clear_,Cn j,k,l,d]
theorem SY (xs c:List Value)(a b k:Nat)(e:List Value)(i:a≤b)(j:b≤xs.length)(l:xs.length≤c.length)(h:c.take xs.length=xs)(m:xs.length-b=k):
  (((c.take a++xs.drop b++c.drop (a+k)).take (a+k))++e++((c.take a++xs.drop b++c.drop (a+k)).drop (a+k+e.length))).take (a+k)=xs.take a++xs.drop b:=by
 have f:c.take a=xs.take a:=by rw[←h,List.take_take,BZ (by omega)]
 have d:(xs.take a++xs.drop b).length =a+k:=by rw[Aj,Az,A5];omega
 rw[f];have g:(xs.take a++xs.drop b++c.drop (a+k)).take (a+k)=xs.take a++xs.drop b:=by rw[←d];exact DX
 rw[g,Ax]
 conv=>lhs;rw[←d]
 exact DX
end
theorem Tryz.infoDelMsg:(Tryz.prog.info? 175).map (fun i=>(i.size,i.bytes))=some (21,256):=by kernel_rfl
theorem Su {w:World}{base g n cap:Nat}{xs:List Value}(h:w.ownsRow base 175 21 (.slice (some ⟨g,0,none⟩) n cap) n xs)(F:∀u∈xs,u.oneCell'=true)(i:Nat)(K:i<n)(hn:n≤1000000)(jv:Int)(r:jv=(i:Int)+1):
  Calls Tryz.prog 126 #[.slice (some ⟨g,0,none⟩) n cap,.int .i64 (i:Int),.int .i64 jv] w fun e w'=>e=.returned (.slice (some ⟨g,0,none⟩) (n-1) cap)∧
   w'.ownsRow base 175 21 (.slice (some ⟨g,0,none⟩) (n-1) cap) (n-1) (xs.take (i*21)++xs.drop ((i+1)*21))∧Keep [g] w w':=by
 subst r;obtain⟨s,hh⟩:=h;rcases hh with⟨H,_⟩|⟨g',ar,f,H,hb,J,az,ah,C,O⟩
 ·cases H
 injection H with hc1 _ hc2;injection hc1 with hc1;injection hc1 with hc1;subst hc1 hc2
 obtain⟨a,L,y⟩:∃a,Tryz.prog.info? 175=some a∧a.size=21:=by
  have:=Tryz.infoDelMsg
  cases K:Tryz.prog.info? 175 with
  |none=>rw[K]at this;cases this
  |some a=>rw[K]at this;injection this with this;injection this with F h2;exact⟨a,rfl,F⟩
 obtain⟨j,r⟩:∃j,j=i+1:=⟨_,rfl⟩;have aa:j≤n:=by omega
 have R:Hid ((i:Int)+1=(j:Int)):=h_ (by omega);rw[R.out];obtain⟨b,t⟩:∃b,b=xs.drop (j*21):=⟨_,rfl⟩;have o:b.length=(n-j)*21:=by rw[t,A5,s,←Nat.sub_mul]
 have X:f.toList.length=cap*21:=by simpa using C
 obtain⟨T,G,ab⟩:∃T:Value,T=(.slice (if cap=j then some ⟨g,0,none⟩else some ⟨g,j*21,none⟩) (n-j) (cap-j))∧∀W:World,W.heap[g]?=some (.cells f 175 (0,0))→Src Tryz.prog a.size 66 T (n-j) b W:=by
  refine⟨_,rfl,fun W hW=> ?_⟩;rw[y];by_cases p:cap=j
  ·rw[Ay p]
   have V:n-j=0:=by omega
   have aj:b=[]:=Bv (by rw[o,V,Nat.zero_mul]);rw[V,aj];refine CC _ BT _ 0 _ [] rfl (fun jj x l=>by simp at l) (by simp)
  ·rw[Aw p]
   refine CC _ BT _ (n-j) _ b o (fun jj x l=> ?_) (fun u hu=>F u (by rw[t]at hu;exact AB hu));have ay:=(Ai.1 l).1;rw[Gq];simp only[World.cell?,hW];rw[t,Bp]at l;rw[←O,BP]at l
   split at l
   ·rw[←CV];exact l
   ·cases l
 have al:=h_ (ab w.drew J)
 have aq:Hid (∀W:World,(Instr.sliceAt 66 (.slice (some ⟨g,0,none⟩) n cap) (some (.int .i64 (j:Int))) none none).run Tryz.prog W=.ok T W):=h_ (fun W=>by
  rw[G];have q:(j:Int)≤n:=by omega
  by_cases p:cap=j
  ·simp[Instr.sliceAt,Cn BT,Instr.slice,Instr.sliceBounds,Instr.sliceBound,asIntOf,aa,sizeOf,typeInfo,L,y,p]
  ·simp[Instr.sliceAt,Cn BT,Instr.slice,Instr.sliceBounds,Instr.sliceBound,asIntOf,aa,sizeOf,typeInfo,L,y,p,Addr.add];omega)
 obtain⟨d,D⟩:∃c1:Array Value,c1=(f.toList.take (i*a.size)++b++f.toList.drop (i*a.size+b.length)).toArray :=⟨_,rfl⟩;have I:i*a.size+b.length≤f.size:=by rw[y,o,C,←Dv];exact Ch _ (by omega)
 have N:d.size=cap*21:=by rw[D];simp only[C2,Aj,Az,A5,X];rw[C]at I;omega
 obtain⟨c,B⟩:∃c,c=w.drew.setRow g d:=⟨_,rfl⟩;have Z:c.heap[g]?=some (.cells d 175 (0,0)):=by rw[B];exact setRow_heap w.drew g f _ _ _ J
 obtain⟨z,am,Q,ac⟩:∃z:Value,(∀w,(zeroValue 175).run Tryz.prog w=.ok z w)∧(Builtin.zeroCells z.cells 1).toList.length =21∧(Builtin.zeroCells z.cells 1).toList.all (fun v=>v.oneCell')=true:=⟨_,Tryz.zeroValue175,by kernel_rfl,by kernel_rfl⟩;obtain⟨m,ad⟩:∃m:List Value,m=(Builtin.zeroCells z.cells 1).toList :=⟨_,rfl⟩;rw[←ad]at Q ac;have an:∀v∈m,v.oneCell'=true:=fun v hv=>(Cr.1 ac) v hv
 have ag:(n-1)*21+m.length≤d.size:=by rw[N,Q];omega
 obtain⟨A,E⟩:∃c2:Array Value,c2=(d.toList.take ((n-1)*21)++m++d.toList.drop ((n-1)*21+m.length)).toArray :=⟨_,rfl⟩
 have au:∀ty,(Builtin.clear_ #[66] ty #[.slice (some ⟨g,(n-1)*21,none⟩) (n-(n-1)) (cap-(n-1))]).run Tryz.prog c=.ok (.tuple #[]) (c.setRow g A):=
  fun ty=>by rw[show n-(n-1)=1 by omega,E];exact IM c _ _ ty _ m BT am ad.symm an g ((n-1)*21) _ d Z ag
 have S:Hid ((c.setRow g A).ownsRow base 175 21 (.slice (some ⟨g,0,none⟩) (n-1) cap) (n-1) (xs.take (i*21)++xs.drop ((i+1)*21))∧Keep [g] w (c.setRow g A)):=h_ (by
  have ak:n*21-j*21=(n-j)*21:=(Nat.sub_mul _ _ _).symm;have U:i*21+(n-j)*21=(n-1)*21:=by omega
  refine⟨⟨by rw[Aj,Az,A5,s];omega,.inr ⟨g,cap,A,rfl,hb,setRow_heap c g d _ _ _ Z,by omega,ah, ?_, ?_⟩⟩, ?_⟩
  ·rw[E]
   have:d.toList.length=cap*21:=by simpa using N
   simp only[C2,Aj,Az,A5,this,Q];omega
  ·have Y:=SY xs f.toList (i*21) (j*21) ((n-j)*21) m (by omega) (by omega) (by omega) (by rw[s];exact O) (by rw[s,ak])
   rw[U]at Y;rw[E,D,y,o,U,t,r]at*;exact Y
  ·rw[B]
   exact⟨rfl,rfl,rfl,by simp[World.setRow],fun k hk hn=>by
    have M:k≠g:=by simpa using hn
    rw[setRow_other _ _ _ _ M,setRow_other _ _ _ _ M];rfl⟩)
 obtain⟨HW,ae,af⟩:=i_3 B D I;have aw:i≤cap:=by omega
 have ax:j≤cap:=by omega
 obtain⟨HT,ap⟩:=i_2 G o;have M:¬(i:Int)=(j:Int):=by omega
 have av:(n:Int)≤1000000:=by omega
 have ai:i+(n-j)=n-1:=by omega
 obtain⟨ao,HL⟩:=i_2 r ai;clear E r G B D I t o X O C s N ab R;go_enter Tryz.func126,Tryz.ntmps126;go_wp2_with fail
 go_region_law (refine FW _ rfl (.tmp 22) (.tmp 25) _ 66 rfl 175 a BT L g i cap f J (by simp[Act.eval,Act.put]) T (n-j) b (by simp[Act.eval,Act.put];exact HT.out.symm) al.out (by omega) af.out ?_;rw[←ae.out,←HW.out])

 go_wp2_with fail
 all_goals (go_ret;first|exact⟨rfl,S.out⟩|(have hq:=‹cap=j›;rw[←hq];exact⟨rfl,S.out⟩))
theorem Tryz.infoDelRd:(Tryz.prog.info? 138).map (fun i=>(i.size,i.bytes))=some (5,48):=by kernel_rfl
theorem UO {w:World}{base g n cap:Nat}{xs:List Value}(h:w.ownsRow base 138 5 (.slice (some ⟨g,0,none⟩) n cap) n xs)(F:∀u∈xs,u.oneCell'=true)(i:Nat)(K:i<n)(hn:n≤1000000)(jv:Int)(r:jv=(i:Int)+1):
  Calls Tryz.prog 127 #[.slice (some ⟨g,0,none⟩) n cap,.int .i64 (i:Int),.int .i64 jv] w fun e w'=>e=.returned (.slice (some ⟨g,0,none⟩) (n-1) cap)∧
   w'.ownsRow base 138 5 (.slice (some ⟨g,0,none⟩) (n-1) cap) (n-1) (xs.take (i*5)++xs.drop ((i+1)*5))∧Keep [g] w w':=by
 subst r;obtain⟨s,hh⟩:=h;rcases hh with⟨H,_⟩|⟨g',ar,f,H,hb,J,az,ah,C,O⟩
 ·cases H
 injection H with hc1 _ hc2;injection hc1 with hc1;injection hc1 with hc1;subst hc1 hc2
 obtain⟨a,L,y⟩:∃a,Tryz.prog.info? 138=some a∧a.size=5:=by
  have:=Tryz.infoDelRd
  cases K:Tryz.prog.info? 138 with
  |none=>rw[K]at this;cases this
  |some a=>rw[K]at this;injection this with this;injection this with F h2;exact⟨a,rfl,F⟩
 obtain⟨j,r⟩:∃j,j=i+1:=⟨_,rfl⟩;have aa:j≤n:=by omega
 have R:Hid ((i:Int)+1=(j:Int)):=h_ (by omega);rw[R.out];obtain⟨b,t⟩:∃b,b=xs.drop (j*5):=⟨_,rfl⟩;have o:b.length=(n-j)*5:=by rw[t,A5,s,←Nat.sub_mul]
 have X:f.toList.length=cap*5:=by simpa using C
 obtain⟨T,G,ab⟩:∃T:Value,T=(.slice (if cap=j then some ⟨g,0,none⟩else some ⟨g,j*5,none⟩) (n-j) (cap-j))∧∀W:World,W.heap[g]?=some (.cells f 138 (0,0))→Src Tryz.prog a.size 65 T (n-j) b W:=by
  refine⟨_,rfl,fun W hW=> ?_⟩;rw[y];by_cases p:cap=j
  ·rw[Ay p]
   have V:n-j=0:=by omega
   have aj:b=[]:=Bv (by rw[o,V,Nat.zero_mul]);rw[V,aj];refine CC _ CL _ 0 _ [] rfl (fun jj x l=>by simp at l) (by simp)
  ·rw[Aw p]
   refine CC _ CL _ (n-j) _ b o (fun jj x l=> ?_) (fun u hu=>F u (by rw[t]at hu;exact AB hu));have ay:=(Ai.1 l).1;rw[Gq];simp only[World.cell?,hW];rw[t,Bp]at l;rw[←O,BP]at l
   split at l
   ·rw[←CV];exact l
   ·cases l
 have al:=h_ (ab w.drew J)
 have aq:Hid (∀W:World,(Instr.sliceAt 65 (.slice (some ⟨g,0,none⟩) n cap) (some (.int .i64 (j:Int))) none none).run Tryz.prog W=.ok T W):=h_ (fun W=>by
  rw[G];have q:(j:Int)≤n:=by omega
  by_cases p:cap=j
  ·simp[Instr.sliceAt,Cn CL,Instr.slice,Instr.sliceBounds,Instr.sliceBound,asIntOf,aa,sizeOf,typeInfo,L,y,p]
  ·simp[Instr.sliceAt,Cn CL,Instr.slice,Instr.sliceBounds,Instr.sliceBound,asIntOf,aa,sizeOf,typeInfo,L,y,p,Addr.add];omega)
 obtain⟨d,D⟩:∃c1:Array Value,c1=(f.toList.take (i*a.size)++b++f.toList.drop (i*a.size+b.length)).toArray :=⟨_,rfl⟩;have I:i*a.size+b.length≤f.size:=by rw[y,o,C,←Dv];exact Ch _ (by omega)
 have N:d.size=cap*5:=by rw[D];simp only[C2,Aj,Az,A5,X];rw[C]at I;omega
 obtain⟨c,B⟩:∃c,c=w.drew.setRow g d:=⟨_,rfl⟩;have Z:c.heap[g]?=some (.cells d 138 (0,0)):=by rw[B];exact setRow_heap w.drew g f _ _ _ J
 obtain⟨z,am,Q,ac⟩:∃z:Value,(∀w,(zeroValue 138).run Tryz.prog w=.ok z w)∧(Builtin.zeroCells z.cells 1).toList.length =5∧(Builtin.zeroCells z.cells 1).toList.all (fun v=>v.oneCell')=true:=⟨_,Tryz.zeroValue138,by kernel_rfl,by kernel_rfl⟩;obtain⟨m,ad⟩:∃m:List Value,m=(Builtin.zeroCells z.cells 1).toList :=⟨_,rfl⟩;rw[←ad]at Q ac;have an:∀v∈m,v.oneCell'=true:=fun v hv=>(Cr.1 ac) v hv
 have ag:(n-1)*5+m.length≤d.size:=by rw[N,Q];omega
 obtain⟨A,E⟩:∃c2:Array Value,c2=(d.toList.take ((n-1)*5)++m++d.toList.drop ((n-1)*5+m.length)).toArray :=⟨_,rfl⟩
 have au:∀ty,(Builtin.clear_ #[65] ty #[.slice (some ⟨g,(n-1)*5,none⟩) (n-(n-1)) (cap-(n-1))]).run Tryz.prog c=.ok (.tuple #[]) (c.setRow g A):=
  fun ty=>by rw[show n-(n-1)=1 by omega,E];exact IM c _ _ ty _ m CL am ad.symm an g ((n-1)*5) _ d Z ag
 have S:Hid ((c.setRow g A).ownsRow base 138 5 (.slice (some ⟨g,0,none⟩) (n-1) cap) (n-1) (xs.take (i*5)++xs.drop ((i+1)*5))∧Keep [g] w (c.setRow g A)):=h_ (by
  have ak:n*5-j*5=(n-j)*5:=(Nat.sub_mul _ _ _).symm;have U:i*5+(n-j)*5=(n-1)*5:=by omega
  refine⟨⟨by rw[Aj,Az,A5,s];omega,.inr ⟨g,cap,A,rfl,hb,setRow_heap c g d _ _ _ Z,by omega,ah, ?_, ?_⟩⟩, ?_⟩
  ·rw[E]
   have:d.toList.length=cap*5:=by simpa using N
   simp only[C2,Aj,Az,A5,this,Q];omega
  ·have Y:=SY xs f.toList (i*5) (j*5) ((n-j)*5) m (by omega) (by omega) (by omega) (by rw[s];exact O) (by rw[s,ak])
   rw[U]at Y;rw[E,D,y,o,U,t,r]at*;exact Y
  ·rw[B]
   exact⟨rfl,rfl,rfl,by simp[World.setRow],fun k hk hn=>by
    have M:k≠g:=by simpa using hn
    rw[setRow_other _ _ _ _ M,setRow_other _ _ _ _ M];rfl⟩)
 obtain⟨HW,ae,af⟩:=i_3 B D I;have aw:i≤cap:=by omega
 have ax:j≤cap:=by omega
 obtain⟨HT,ap⟩:=i_2 G o;have M:¬(i:Int)=(j:Int):=by omega
 have av:(n:Int)≤1000000:=by omega
 have ai:i+(n-j)=n-1:=by omega
 obtain⟨ao,HL⟩:=i_2 r ai;clear E r G B D I t o X O C s N ab R;go_enter Tryz.func127,Tryz.ntmps127;go_wp2_with fail
 go_region_law (refine FW _ rfl (.tmp 22) (.tmp 25) _ 65 rfl 138 a CL L g i cap f J (by simp[Act.eval,Act.put]) T (n-j) b (by simp[Act.eval,Act.put];exact HT.out.symm) al.out (by omega) af.out ?_;rw[←ae.out,←HW.out])

 go_wp2_with fail
 all_goals (go_ret;first|exact⟨rfl,S.out⟩|(have hq:=‹cap=j›;rw[←hq];exact⟨rfl,S.out⟩))
theorem bits_xor_u64_nat (a b:Nat)(e:a<18446744073709551616)(f:b<18446744073709551616):bits .xor .u64 (a:Int) (b:Int)=((a^^^b:Nat):Int):=by
 have g:=Jj e f
 have c:(BitVec.ofInt 64 (a:Int)).toNat =a:=by rw[BitVec.ofInt_natCast,Ck];exact AR (by omega)
 have d:(BitVec.ofInt 64 (b:Int)).toNat =b:=by rw[BitVec.ofInt_natCast,Ck];exact AR (by omega)
 show IntKind.u64.wrap ((BitVec.ofInt 64 (a:Int)^^^BitVec.ofInt 64 (b:Int)).toNat :Int)=_;rw[BitVec.toNat_xor,c,d,Dy];omega
theorem Np (x c:Nat)(a:x<18446744073709551616):bits .xor .u64 (x:Int) ((x:Int)/(c:Int))=((x^^^(x/c):Nat):Int):=by rw[←Int.natCast_ediv];exact bits_xor_u64_nat x (x/c) a (Nat.lt_of_le_of_lt (Nat.div_le_self _ _) a)
theorem O0 (a c:Nat):IntKind.u64.wrap ((a:Int)*(c:Int))=((a*c % 18446744073709551616:Nat):Int):=by rw[Dy,←Int.natCast_mul];rfl
theorem Xb (x:Nat)(n:x<18446744073709551616):∀A B:Int,A=IntKind.u64.wrap (bits .xor .u64 (x:Int) ((x:Int)/1073741824)*13787848793156543929)→B=IntKind.u64.wrap (bits .xor .u64 A (A/134217728)*10723151780598845931)→bits .xor .u64 B (B/2147483648)=((Kv x:Nat):Int):=by
 intro A B c d;have g:=Np x 1073741824 n;rw[show((1073741824:Nat):Int)=1073741824 from rfl]at g;rw[g]at c;have h:=O0 (x^^^(x/1073741824)) 13787848793156543929;rw[show((13787848793156543929:Nat):Int)=13787848793156543929 from rfl]at h;rw[h]at c;obtain⟨a,e⟩:∃a,a=(x^^^(x/1073741824))*13787848793156543929 % 18446744073709551616:=⟨_,rfl⟩;rw[←e]at c;have l:a<18446744073709551616:=by rw[e];exact C1 _ (by decide)
 subst c;have i:=Np a 134217728 l;rw[show((134217728:Nat):Int)=134217728 from rfl]at i;rw[i]at d;have j:=O0 (a^^^(a/134217728)) 10723151780598845931;rw[show((10723151780598845931:Nat):Int)=10723151780598845931 from rfl]at j;rw[j]at d;obtain⟨b,f⟩:∃b,b=(a^^^(a/134217728))*10723151780598845931 % 18446744073709551616:=⟨_,rfl⟩;rw[←f]at d;have m:b<18446744073709551616:=by rw[f];exact C1 _ (by decide)
 subst d;have k:=Np b 2147483648 m;rw[show((2147483648:Nat):Int)=2147483648 from rfl]at k;rw[k];unfold Kv;simp only;rw[←e,←f]
theorem Q6 {w:World}(x:Nat)(b:x<18446744073709551616):Calls Tryz.prog 54 #[.int .u64 (x:Int)] w fun e c=>e=.returned (.int .u64 (Kv x:Int))∧c=w:=by have a:=h_ (Xb x b _ _ rfl rfl);go_enter Tryz.func54,Tryz.ntmps54;go_wp2;go_ret;exact⟨by rw[a.out];rfl,rfl⟩
theorem UU (h c:Nat)(a:h<18446744073709551616)(b:c<256):bits .xor .u64 (h:Int) (c:Int)=((h^^^c:Nat):Int):=bits_xor_u64_nat h c a (by omega)
theorem Sr {w:World}(b:Nat)(n cap:Nat)(A:n=1)(k:ByteArray)(G:w.cell? ⟨b,0,none⟩=some (.string k))(H:k.size≤1000000):Calls Tryz.prog 42 #[.slice (some ⟨b,0,none⟩) n cap] w fun e p=>e=.returned (.int .u64 (IN (sb k):Int))∧p=w:=by
 subst A;have q:Hid (∀x:Nat,x<18446744073709551616→Calls Tryz.prog 54 #[.int .u64 (x:Int)] w fun e p=>e=.returned (.int .u64 (Kv x:Int))∧p=w):=h_ (fun x g=>Q6 x g);go_enter Tryz.func42,Tryz.ntmps42;go_wp2
 go_loopw [9,3] (fun t i wr=>((t=.int .i64 0∧i=.int .u64 11400714819323198485)∨(t=.int .i64 1∧i=.int .u64 (IN (sb k):Int)))∧w=wr) (fun x _ _=>2-(intOf x).toNat)
 case atStart=>exact⟨.inl ⟨rfl,rfl⟩,rfl⟩
 case round=>
 obtain⟨h,rfl⟩:=hrel;rcases h with⟨rfl,rfl⟩|⟨rfl,rfl⟩
 ·go_wp2
  go_loopw [15,3] (fun C i wr=>∃j:Nat,C=.int .i64 (j:Int)∧j≤k.size∧i=.int .u64 (F7 11400714819323198485 ((sb k).take j):Int)∧w=wr) (fun x _ _=>k.size+1-(intOf x).toNat)
  case atStart=>exact⟨0,rfl,AA _,rfl,rfl⟩
  case round=>
  obtain⟨j,rfl,y,rfl,rfl⟩:=hrel;by_cases a:j<k.size
  ·have B:decide ((j:Int)<(k.size:Int))=true:=An (by omega)
   have o:((k[j]'a).toNat :Int)=(((sb k)[j]'(by rw[CO];exact a):Nat):Int):=by simp only[sb,List.getElem_map];rfl
   have h:(sb k)[j]'(by rw[CO];exact a)<256:=by simp only[sb,List.getElem_map];exact UInt8.toNat_lt _
   have f:(sb k).take (j+1)=(sb k).take j++[(sb k)[j]'(by rw[CO];exact a)]:=by rw[Bw (by rw[CO];exact a)]
   obtain⟨c,r⟩:∃c,c=(sb k)[j]'(by rw[CO];exact a):=⟨_,rfl⟩;rw[←r]at o h f;have d:=Lw ((sb k).take j) 11400714819323198485 (by decide);have E:=h_ f
   have g:bits .xor .u64 ((F7 11400714819323198485 ((sb k).take j):Nat):Int) (IntKind.u64.wrap ((k[j]'a).toNat :Int))=((F7 11400714819323198485 ((sb k).take j)^^^c:Nat):Int):=by rw[o,show IntKind.u64.wrap (c:Int)=(c:Int) by rw[Dy];omega];exact UU _ c d h
   have l:=h_ g;have m:Hid (F7 11400714819323198485 ((sb k).take j)^^^c<18446744073709551616):=h_ (Jj d (by omega))
   have v:Hid (IntKind.u64.wrap ((Kv (F7 11400714819323198485 ((sb k).take j)^^^c):Int)+1)=(F7 11400714819323198485 ((sb k).take (j+1)):Int)):=h_ (by rw[f,Lv,Dy];rfl)
   have F:j≤1000000:=by omega
   clear o h f r d g;go_wp2_with fail;rw[l.out];refine(q.out _ m.out).mono ?_;rintro e D ⟨rfl,rfl⟩;go_wp2
   go_roundw
   case rel=>exact⟨j+1,by go_num,by omega,by rw[v.out],by first|rfl|trivial⟩
   case measure=>simp only[intOf];omega
  ·have z:j=k.size:=by omega
   have B:¬((j:Int)<(k.size:Int)):=by omega
   have f:(sb k).take j=sb k:=Ba (by rw[CO];omega);rw[f];have d:=Lw (sb k) 11400714819323198485 (by decide);have s:(sb k).length =k.size:=CO k
   have g:bits .xor .u64 ((F7 11400714819323198485 (sb k):Nat):Int) (256+(k.size:Int))=((F7 11400714819323198485 (sb k)^^^(256+(sb k).length):Nat):Int):=by rw[s,show(256+(k.size:Int))=((256+k.size:Nat):Int) by omega];exact bits_xor_u64_nat _ _ d (by omega)
   have l:=h_ g;have m:Hid (F7 11400714819323198485 (sb k)^^^(256+(sb k).length)<18446744073709551616):=h_ (Jj d (by omega));have u:Hid (IN (sb k)=Kv (F7 11400714819323198485 (sb k)^^^(256+(sb k).length))):=h_ rfl;clear z f d s g a y;go_wp2_with fail;rw[l.out];refine(q.out _ m.out).mono ?_;rintro e D ⟨rfl,rfl⟩;rw[←u.out];go_wp2
   go_roundw
   case rel=>exact⟨.inr ⟨rfl,rfl⟩,by first|rfl|trivial⟩
   case measure=>simp only[intOf];omega
 ·go_wp2
  go_ret;exact⟨rfl,rfl⟩
theorem UG {w:World}(n i:Nat)(f:n≤1000)(d:i≤1000):Calls Tryz.prog 263 #[.int .i64 (n:Int),.int .i64 (i:Int)] w fun e c=>e=.returned (.int .u64 (MM n i:Int))∧c=w:=by have a:Hid ((n:Int)*1000003+(i:Int)=((n*1000003+i:Nat):Int)):=h_ (by omega);have b:=h_ (Q6 (w:=w) (n*1000003+i) (by omega));go_enter Tryz.func263,Tryz.ntmps263;go_wp2_with fail;rw[a.out];refine b.out.mono ?_;rintro e g ⟨rfl,rfl⟩;go_wp2;go_ret;exact⟨rfl,rfl⟩
def JD (x:Int)(k:Nat):Nat:=(x.tmod (k:Int)).natAbs
theorem Tx (x:Int)(k:Nat)(c:0<k):JD x k<k:=by unfold JD;have a:=Int.tmod_lt_of_pos x (show(0:Int)<(k:Int) by omega);have b:=Int.lt_tmod_of_pos x (show(0:Int)<(k:Int) by omega);omega
theorem Nq {w:World}(x:Int)(k:Nat)(h:0<k∧k≤1000)(m: -9223372036854775808≤x∧x≤9223372036854775807):Calls Tryz.prog 7 #[.int .i64 x,.int .i64 (k:Int)] w fun e g=>e=.returned (.int .i64 (JD x k:Int))∧g=w:=by
 have d:=Int.tmod_lt_of_pos x (show(0:Int)<(k:Int) by omega);have f:=Int.lt_tmod_of_pos x (show(0:Int)<(k:Int) by omega);have i:¬(k:Int)=0:=by omega
 have j:¬(k:Int)= -1:=by omega
 obtain⟨r,a⟩:∃r,r=x.tmod (k:Int):=⟨_,rfl⟩;have b:Hid ((JD x k:Int)=if r<0 then-r else r):=h_ (by unfold JD;rw[←a];split<;>omega);rw[←a]at d f;have l:=a.symm;clear a;go_enter Tryz.func7,Tryz.ntmps7;by_cases c:r<0
 ·go_wp2
  go_ret;exact⟨by rw[b.out,Ay c];rfl,rfl⟩
 ·go_wp2
  go_ret;exact⟨by rw[b.out,Aw (by omega)];rfl,rfl⟩
end Go.Proofs.YtnhbioehiiifdaaGreat
