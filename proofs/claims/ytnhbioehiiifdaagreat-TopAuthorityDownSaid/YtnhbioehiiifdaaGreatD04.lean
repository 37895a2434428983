import Derived.Test.YtnhbioehiiifdaaGreatD01
set_option maxRecDepth 100000
set_option maxHeartbeats 16000000
set_option linter.all false
namespace Go.Proofs.YtnhbioehiiifdaaGreat
def zz (n:Int):Nat:=if 0≤n then(2*n).toNat else(-2*n-1).toNat
def O3 (u:Nat):Int:=if u % 2=1 then-((u/2:Nat):Int)-1 else((u/2:Nat):Int)
theorem WU (n:Int):O3 (zz n)=n:=by unfold O3 zz;split<;>split<;>omega
theorem IJ (n:Int)(a: -9223372036854775808≤n)(b:n≤9223372036854775807):zz n<18446744073709551616:=by unfold zz;split<;>omega
def Ga (u:Nat):List Nat:=if u<128 then[u]else(u % 128+128)::Ga (u/128)
termination_by u
decreasing_by omega
theorem GO (u:Nat)(h:u<128):Ga u=[u]:=by rw[Ga,Ay h]
theorem J3 (u:Nat)(h:128≤u):Ga u=(u % 128+128)::Ga (u/128):=by rw[Ga,Aw (by omega)]
theorem R6 (u:Nat):Ga u≠[]:=by rw[Ga];split<;>simp
theorem L5 (u:Nat):∀c∈Ga u,c<256:=by
 induction u using Nat.strongRecOn with
 |_ u ih=>
  intro c a;by_cases h:u<128
  ·rw[GO u h]at a;simp at a;omega
  ·rw[J3 u (by omega)]at a
   rcases Ac.1 a with rfl|a
   ·omega
   ·exact ih (u/128) (by omega) c a
theorem DO (k:Nat):∀u,u<128^k→0<k→(Ga u).length ≤k:=by
 induction k with
 |zero=>intro u _ h;omega
 |succ k ih=>
  intro u a _;by_cases h:u<128
  ·rw[GO u h];simp
  ·rw[J3 u (by omega)]
   by_cases b:k=0
   ·subst b;simp at a;omega
   ·have:=ih (u/128) (by rw[Nat.pow_succ]at a;omega) (by omega)
    simp;omega
def D2:List Nat→Nat→Nat→Int×Nat×Nat
 |[],_,_=>(0,0,2)
 |c::r,i,u=>if i=9∧1<c then(0,0,1)else if 127<c then D2 r (i+1) (u+(c % 128)*128^i)else if 0<i∧c=0 then(0,0,1)else(O3 (u+c*128^i),i+1,0)
def get (l:List Nat):Int×Nat×Nat:=D2 l 0 0
theorem Uo (r:List Nat):∀(v:Nat) (i u:Nat),i≤9→v<2^(64-7*i)→(0<i→0<v)→D2 (Ga v++r) i u=(O3 (u+v*128^i),i+(Ga v).length,0):=by
 intro v
 induction v using Nat.strongRecOn with
 |_ v ih=>
  intro i u l a n;by_cases h:v<128
  ·rw[GO v h]
   have b:¬(i=9∧1<v):=by rintro⟨rfl,h2⟩;simp at a;omega
   simp only[List.cons_append,List.nil_append,D2,b,D1,List.length_singleton];rw[Aw (by omega),Aw (by omega)]
  ·rw[J3 v (by omega)]
   have m:i<9:=by
    rcases Gi i 9 with c|c
    ·exact c
    ·have:i=9:=by omega
     subst this;simp at a;omega
   have b:¬(i=9∧1<v % 128+128):=by omega
   simp only[List.cons_append,D2,b,D1,List.length_cons];rw[Ay (by omega)]
   have k:v/128<2^(64-7*(i+1)):=by
    have e:64-7*i=(64-7*(i+1))+7:=by omega
    rw[e,Nat.pow_add]at a;have:(2:Nat)^7=128:=rfl;rw[this]at a;exact Nat.div_lt_of_lt_mul (by rw[Nat.mul_comm];exact a)
   rw[ih (v/128) (by omega) (i+1) _ (by omega) k (by omega)];have d:(v % 128+128) % 128=v % 128:=by omega
   rw[d]
   have f:u+v % 128*128^i+v/128*128^(i+1)=u+v*128^i:=by
    have:v=128*(v/128)+v % 128:=by omega
    rw[Nat.pow_succ];have g:v*128^i=(128*(v/128)+v % 128)*128^i:=by rw[←this]
    rw[g,Dv];have j:v/128*(128^i*128)=128*(v/128)*128^i:=by rw[Nat.mul_comm (128^i) 128,←Nat.mul_assoc,Nat.mul_comm (v/128) 128]
    rw[j];omega
   rw[f,show i+1+(Ga (v/128)).length =i+((Ga (v/128)).length +1) by omega]
theorem NU (n:Int)(a: -9223372036854775808≤n)(b:n≤9223372036854775807)(r:List Nat):get (Ga (zz n)++r)=(n,(Ga (zz n)).length,0):=by unfold get;rw[Uo r (zz n) 0 0 (by omega) (IJ n a b) (by omega)];simp[WU]
theorem Fq:∀(l:List Nat) (i u:Nat),i≤9→u<128^i→(∀c∈l,c<256)→
  ((D2 l i u).2.2 =0∧i<(D2 l i u).2.1 ∧(D2 l i u).2.1 ≤i+l.length∧(D2 l i u).2.1 ≤10∧-9223372036854775808≤(D2 l i u).1 ∧(D2 l i u).1 ≤9223372036854775807)∨
  ((D2 l i u).2.2 ≠0∧(D2 l i u).2.2 ≤2∧(D2 l i u).1 =0∧(D2 l i u).2.1 =0):=by
 intro l
 induction l with
 |nil=>intro i u _ _ _;right;simp[D2]
 |cons c r ih=>
  intro i u w z j;have v:c<256:=j c (by simp);unfold D2
  split
  ·right;simp
  ·rename_i h9
   split
   ·rename_i h127
    have y:i<9:=by omega
    have q:u+c % 128*128^i<128^(i+1):=by rw[Nat.pow_succ];have:c % 128*128^i≤127*128^i:=Ch _ (by omega);omega
    rcases ih (i+1) _ (by omega) q (fun x s=>j x (by simp[s]))with⟨a,b,d,e,f,g⟩|h
    ·left;exact⟨a,by omega,by simp;omega,e,f,g⟩
    ·right;exact h
   ·split
    ·right;simp
    ·left
     rename_i h127 h0
     have t:u+c*128^i<18446744073709551616:=by
      by_cases h:i=9
      ·subst h
       have o:c≤1:=by omega
       have:c*128^9≤1*128^9:=Ch _ o;have m:(128:Nat)^9=9223372036854775808:=rfl;rw[m]at*;omega
      ·have n:i≤8:=by omega
       have p:(128:Nat)^i≤128^8:=EM (by decide) n;have k:(128:Nat)^8=72057594037927936:=rfl;rw[k]at p;have:c*128^i≤127*128^i:=Ch _ (by omega);omega
     refine⟨rfl,by dsimp only;omega,by simp only[List.length_cons];omega,by dsimp only;omega, ?_, ?_⟩
     ·simp only[O3];split<;>omega
     ·simp only[O3];split<;>omega
open Go.ChangeShapes Go.WideShapes Go.ChangeAt Go.RowKit
theorem Xl (n:Int)(a: -9223372036854775808≤n)(b:n<0):bits .xor .u64 IntKind.u64.max (IntKind.u64.wrap (IntKind.u64.wrap n*2))=(zz n:Int):=by
 have e:IntKind.u64.wrap (IntKind.u64.wrap n*2)=((18446744073709551615-zz n:Nat):Int):=by simp only[Dy];unfold zz;rw[Aw (by omega)];omega
 have c:=IJ n a (by omega);rw[e,show IntKind.u64.max=((18446744073709551615:Nat):Int)from rfl,bits_xor_u64_nat _ _ (by omega) (by omega),Oy _ (by omega)];omega
theorem Xk (n:Int)(a:0≤n):n*2=(zz n:Int):=by unfold zz;rw[Ay a];omega
theorem Pf {w:World}(base:Nat)(v:Value)(l:List Nat)(n:Int)(s:Buf w base 5 v l)(M: -9223372036854775808≤n)(P:n≤9223372036854775807)(hl:l.length≤1099511627776)(Y:base≤w.heap.size):
  Calls Tryz.prog 155 #[v,.int .i64 n] w fun e W=>∃f,e=.returned f∧Onto w base 5 v (l++Ga (zz n)) f W:=by
 obtain⟨a,cap,rfl⟩:=s.slice;obtain⟨B,x,y,z,A⟩:=AU In;have V:n<0∨0≤n:=by omega
 rcases V with J|J
 ·go_enter Tryz.func155,Tryz.ntmps155
  go_wp2_with fail;rw[Xl n M J];have L:=IJ n M P;generalize r:zz n=Z at*;have D:=h_ r;clear r
  go_loopw [0,5] (fun b u wr=>∃(d:List Nat) (U:Nat) (f:Value),b=f∧u=.int .u64 U∧U<18446744073709551616∧d++Ga U=l++Ga Z∧Onto w base 5 (.slice a l.length cap) d f wr) (fun _ u _=>(intOf u).toNat)
  case atStart=>exact⟨l,Z,_,rfl,rfl,L,rfl,YB s⟩
  case round=>
   obtain⟨d,U,f,rfl,rfl,R,q,c⟩:=hrel;have g:=h_ q;clear q s;by_cases T:127<U
   ·have N:(127:Int)<U:=by omega
    obtain⟨E,F,rfl⟩:=c.buf.slice;have I:d.length+(Ga U).length =l.length+(Ga Z).length :=by have:=A3 List.length g.out;simpa using this
    have G:=DO 10 Z (by omega) (by omega);have H:=c.keep.size;obtain⟨X,m⟩:∃X:Nat,X=U % 128+128:=⟨_,rfl⟩;have K:=or8m U;rw[←m]at K;have C:=h_ m;clear m;have o:=c.buf
    go_wp2_with (at_builtin;refine Bl _ rfl _ _ 81 81 rfl base 5 B (.int .u8 0) 1 1 Ao x y z A rfl (by decide) _ _ _ rfl (o.alloc _) _ 1 (Bb [X]) rfl (Jn Ao _ X _) (by unfold maxLen;omega) (by omega) (by simp;omega) ?_;intro p O h i _ j)
    go_roundw
    case rel=>refine⟨d++[X],U/128,p,rfl,by go_num,by omega, ?_,(c.alloc _).app h i j⟩;rw[←g.out,J3 U (by omega),C.out];simp
    case measure=>simp[intOf];omega
   ·have N:(U:Int)≤127:=by omega
    obtain⟨E,F,rfl⟩:=c.buf.slice;have I:d.length+(Ga U).length =l.length+(Ga Z).length :=by have:=A3 List.length g.out;simpa using this
    have G:=DO 10 Z (by omega) (by omega);have k:=R6 U;have S:0<(Ga U).length :=Cs.2 k;have H:=c.keep.size;have Q:=h_ k;clear k;have o:=c.buf
    go_wp2_with (at_builtin;refine Bl _ rfl _ _ 81 81 rfl base 5 B (.int .u8 0) 1 1 Ao x y z A rfl (by decide) _ _ _ rfl (o.alloc _) _ 1 (Bb [U]) rfl (Jn Ao _ U _) (by unfold maxLen;omega) (by omega) (by simp;omega) ?_;intro p O h i _ j)
    go_ret;refine⟨p,rfl, ?_⟩;have t:=(c.alloc (.cells #[.int .u8 (U:Int)] 5)).app h i j;rw[←GO U (by omega),g.out,←D.out]at t;exact t
 ·go_enter Tryz.func155,Tryz.ntmps155
  go_wp2_with fail;rw[Xk n J];have L:=IJ n M P;generalize r:zz n=Z at*;have D:=h_ r;clear r
  go_loopw [0,5] (fun b u wr=>∃(d:List Nat) (U:Nat) (f:Value),b=f∧u=.int .u64 U∧U<18446744073709551616∧d++Ga U=l++Ga Z∧Onto w base 5 (.slice a l.length cap) d f wr) (fun _ u _=>(intOf u).toNat)
  case atStart=>exact⟨l,Z,_,rfl,rfl,L,rfl,YB s⟩
  case round=>
   obtain⟨d,U,f,rfl,rfl,R,q,c⟩:=hrel;have g:=h_ q;clear q s;by_cases T:127<U
   ·have N:(127:Int)<U:=by omega
    obtain⟨E,F,rfl⟩:=c.buf.slice;have I:d.length+(Ga U).length =l.length+(Ga Z).length :=by have:=A3 List.length g.out;simpa using this
    have G:=DO 10 Z (by omega) (by omega);have H:=c.keep.size;obtain⟨X,m⟩:∃X:Nat,X=U % 128+128:=⟨_,rfl⟩;have K:=or8m U;rw[←m]at K;have C:=h_ m;clear m;have o:=c.buf
    go_wp2_with (at_builtin;refine Bl _ rfl _ _ 81 81 rfl base 5 B (.int .u8 0) 1 1 Ao x y z A rfl (by decide) _ _ _ rfl (o.alloc _) _ 1 (Bb [X]) rfl (Jn Ao _ X _) (by unfold maxLen;omega) (by omega) (by simp;omega) ?_;intro p O h i _ j)
    go_roundw
    case rel=>refine⟨d++[X],U/128,p,rfl,by go_num,by omega, ?_,(c.alloc _).app h i j⟩;rw[←g.out,J3 U (by omega),C.out];simp
    case measure=>simp[intOf];omega
   ·have N:(U:Int)≤127:=by omega
    obtain⟨E,F,rfl⟩:=c.buf.slice;have I:d.length+(Ga U).length =l.length+(Ga Z).length :=by have:=A3 List.length g.out;simpa using this
    have G:=DO 10 Z (by omega) (by omega);have k:=R6 U;have S:0<(Ga U).length :=Cs.2 k;have H:=c.keep.size;have Q:=h_ k;clear k;have o:=c.buf
    go_wp2_with (at_builtin;refine Bl _ rfl _ _ 81 81 rfl base 5 B (.int .u8 0) 1 1 Ao x y z A rfl (by decide) _ _ _ rfl (o.alloc _) _ 1 (Bb [U]) rfl (Jn Ao _ U _) (by unfold maxLen;omega) (by omega) (by simp;omega) ?_;intro p O h i _ j)
    go_ret;refine⟨p,rfl, ?_⟩;have t:=(c.alloc (.cells #[.int .u8 (U:Int)] 5)).app h i j;rw[←GO U (by omega),g.out,←D.out]at t;exact t
def BL (l:List Int):List Nat:=(l.map fun n=>Ga (zz n)).flatten
theorem OW (l:List Int)(n:Int):BL (l++[n])=BL l++Ga (zz n):=by simp[BL]
theorem Ou {w:World}(base:Nat)(v:Value)(l:List Nat)(j:Value)(c:List Int)(q:Buf w base 5 v l)(s:Rv w 1 j c.length (ints c))(A:0<c.length→∀b,j.ownBlock=some b→v.ownBlock≠some b)
  (y:∀n∈c,II n) (P:l.length+10*c.length≤1099511627776) (K:base≤w.heap.size):
  Calls Tryz.prog 112 #[v,j] w fun e D=>∃f,e=.returned f∧Onto w base 5 v (l++BL c) f D:=by
 obtain⟨a,cap,rfl⟩:=q.slice;have t:=s;obtain⟨_,E,F,rfl,L,_⟩:=s;go_enter Tryz.func112,Tryz.ntmps112;go_wp2
 go_loopw [0,9] (fun b i wr=>∃(k:Nat) (f:Value),k≤c.length∧b=f∧i=.int .i64 k∧Onto w base 5 (.slice a l.length cap) (l++BL (c.take k)) f wr∧(l++BL (c.take k)).length ≤l.length+10*k) (fun _ i _=>c.length-(intOf i).toNat)
 case atStart=>exact⟨0,_,by omega,rfl,rfl,by simpa[BL]using YB q,by simp[BL]⟩
 case round=>
  obtain⟨k,f,M,rfl,rfl,d,J⟩:=hrel;by_cases g:k<c.length
  ·obtain⟨sb,B,G,r,_,z,p⟩:=t.at1 (by omega)
   simp only[Bn]at r;obtain⟨rfl,_,rfl⟩:=r
   have H:wr.cell? ⟨sb,B+k,none⟩=some (.int .i64 (c.getD k 0)):=by rw[d.keep.cell z (by have:=A (by omega) sb rfl;simp at this⊢;intro e;exact this e),p k g,Hm c k g]
   have m:=OW (c.take k) (c.getD k 0);rw[←EC _ _ _ g]at m;have o:=h_ m;have h:II (c.getD k 0):=y _ (by simp[Af,g]);clear m p t;generalize c.getD k 0=x at*;have N:(k:Int)<c.length:=by omega
   have O:=d.keep.size;have I:=DO 10 (zz x) (by have:=IJ x h.1 h.2;omega) (by omega);go_wp2_with fail;refine(Pf base _ _ x d.buf h.1 h.2 (by omega) (by omega)).mono ?_;rintro e Q ⟨C,rfl,u⟩;go_wp2
   go_roundw
   case rel=>exact⟨k+1,C,by omega,rfl,by go_num,by rw[o.out,←Ax];exact d.trans u,by rw[o.out,←Ax,Aj];omega⟩
   case measure=>simp[intOf];omega
  ·obtain rfl:k=c.length:=by omega
   rw[Bt]at d;go_wp2;go_ret;exact⟨_,rfl,d⟩
def Cf (t:ByteArray):List Nat:=Ga (zz (t.size:Int))++sb t
def B8 (l:List ByteArray):List Nat:=(l.map Cf).flatten
theorem Mq (l:List ByteArray)(t:ByteArray):B8 (l++[t])=B8 l++Cf t:=by simp[B8]
theorem Q7 {w:World}(base:Nat)(v:Value)(l:List Nat)(n:Value)(c:List ByteArray)(y:Buf w base 5 v l)(E:Rv w 1 n c.length (Tv c))(N:0<c.length→∀b,n.ownBlock=some b→v.ownBlock≠some b)
  (B:Nat) (j:∀t∈c,t.size≤B) (hl:l.length+(B+10)*c.length≤1099511627776) (ab:base≤w.heap.size):
  Calls Tryz.prog 219 #[v,n] w fun e T=>∃f,e=.returned f∧Onto w base 5 v (l++B8 c) f T:=by
 obtain⟨a,cap,rfl⟩:=y.slice;have F:=E;obtain⟨_,V,X,rfl,ad,_⟩:=E;obtain⟨R,K,O,P,Q⟩:=AU In
 have ai:c.length≤1099511627776:=by have:1*c.length≤(B+10)*c.length:=Ch _ (by omega);omega
 go_enter Tryz.func219,Tryz.ntmps219;go_wp2
 go_loopw [0,9] (fun b i wr=>∃(k:Nat) (f:Value),k≤c.length∧b=f∧i=.int .i64 k∧Onto w base 5 (.slice a l.length cap) (l++B8 (c.take k)) f wr∧(l++B8 (c.take k)).length ≤l.length+(B+10)*k) (fun _ i _=>c.length-(intOf i).toNat)
 case atStart=>exact⟨0,_,by omega,rfl,rfl,by simpa[B8]using YB y,by simp[B8]⟩
 case round=>
  obtain⟨k,f,hk,rfl,rfl,d,hL⟩:=hrel;by_cases g:k<c.length
  ·obtain⟨G,S,Y,A,_,M,u⟩:=F.at1 (by omega)
   simp only[Bn]at A;obtain⟨rfl,_,rfl⟩:=A
   have Z:wr.cell? ⟨G,S+k,none⟩=some (.string (c.getD k ByteArray.empty)):=by rw[d.keep.cell M (by have:=N (by omega) G rfl;simp at this⊢;intro e;exact this e),u k g,WZ c k g]
   have m:=Mq (c.take k) (c.getD k ByteArray.empty);rw[←EC _ _ _ g]at m;have q:=h_ m;have hx:(c.getD k ByteArray.empty).size ≤B:=j _ (by simp[Af,g]);have L:(B+10)*(k+1)≤(B+10)*c.length:=Nat.mul_le_mul_left _ g;have C:(B+10)*(k+1)=(B+10)*k+(B+10):=Nat.mul_succ _ _;have ac:(l++B8 (List.take k c)).length +(B+10)≤1099511627776:=by omega
   have H:=h_ C;clear m u F L C;generalize c.getD k ByteArray.empty=x at*;have ae:(k:Int)<c.length:=by omega
   have af:=d.keep.size;have aa:=DO 10 (zz (x.size:Int)) (by have:=IJ (x.size:Int) (by omega) (by omega);omega) (by omega);go_wp2_with fail;refine(Pf base _ _ _ d.buf (by omega) (by omega) (by omega) (by omega)).mono ?_;rintro e w1 ⟨v1,rfl,h⟩;have z:=h.buf;obtain⟨U,W,rfl⟩:=z.slice;have ah:(l++B8 (List.take k c)++Ga (zz ↑x.size)).length ≤(l++B8 (List.take k c)).length +10:=by rw[Aj];omega
   have ag:=h.keep.size;have D:x.size=(sb x).length :=(CO x).symm;have p:=h_ D;clear D;generalize s:(l++B8 (List.take k c)++Ga (zz ↑x.size))=L1 at*;have o:=h_ s;clear s
   go_wp2_with (at_builtin;refine Bl _ rfl _ _ 81 9 rfl base 5 R (.int .u8 0) 1 1 Ao K O P Q rfl (by decide) _ _ _ rfl z _ _ _ rfl (Src.ofString _ BG x) (by unfold maxLen;omega) (by omega) (by omega) ?_;intro v2 w2 r I _ J)
   go_roundw
   case rel=>rw[On,p.out]at r;have j:=(d.trans h).app r I J;exact⟨k+1,_,by omega,rfl,by go_num,by rw[q.out];unfold Cf;rw[←Ax,←Ax,o.out];exact j,by rw[q.out];unfold Cf;rw[←Ax,←Ax,o.out,Aj,H.out,←p.out];omega⟩
   case measure=>simp[intOf];omega
  ·obtain rfl:k=c.length:=by omega
   rw[Bt]at d;go_wp2;go_ret;exact⟨_,rfl,d⟩
theorem Hc (l:List Int)(h:∀n∈l,II n):(BL l).length ≤10*l.length:=by
 induction l with
 |nil=>simp[BL]
 |cons x l ih=>have a:=h x (by simp);have:=ih (fun n b=>h n (by simp[b]));have c:=DO 10 (zz x) (by have:=IJ x a.1 a.2;omega) (by omega);simp only[BL,Br,List.flatten_cons,Aj,List.length_cons]at*;omega
theorem Io (l:List Int):∀c∈BL l,c<256:=by intro c a;simp only[BL,DY,AI]at a;obtain⟨x,⟨n,_,rfl⟩,b⟩:=a;exact L5 _ c b
theorem SF (U c k:Nat)(e:U<128^k)(f:U+c % 128*128^k<18446744073709551616):
  bits .or .u64 (U:Int) (IntKind.u64.wrap ((c:Int) % 128*2^(7*k)))=((U+c % 128*128^k:Nat):Int):=by
 have a:(2:Nat)^(7*k)=128^k:=by rw[Nat.pow_mul]
 have b:((c:Int) % 128*2^(7*k))=((c % 128*128^k:Nat):Int):=by rw[←a];simp[Int.natCast_mul,Int.natCast_pow]
 have d:IntKind.u64.wrap ((c % 128*128^k:Nat):Int)=((c % 128*128^k:Nat):Int):=by rw[Dy];omega
 rw[b,d,bits_or_u64_nat _ _ (by omega) (by omega)]
 congr 1
 rw[←a];exact Pe U (c % 128) (7*k) (by rw[a];exact e)
theorem ML (k:Nat)(b:k≤8)(c:Nat):c % 128*128^k+128^k≤18446744073709551615:=by have d:(128:Nat)^k≤128^8:=EM (by decide) b;have a:(128:Nat)^8=72057594037927936:=rfl;rw[a]at d;have:c % 128*128^k≤127*128^k:=Ch _ (by omega);omega
theorem Vz (c:Nat)(a:c≤1):c % 128*128^9+128^9≤18446744073709551616:=by
 have h:c=0∨c=1:=by omega
 rcases h with rfl|rfl<;>decide+kernel
def WP (w:World)(r:Int×Nat×Nat)(e:Ending)(a:World):Prop:=e=.returned (.tuple #[.int .i64 r.1,.int .i64 (r.2.1:Int),.int .i64 (r.2.2:Int)])∧w=a
theorem VY {w:World}{r:Int×Nat×Nat}{a b k:Int}(h:a=b)(c:WP w r (.returned (.tuple #[.int .i64 b,.int .i64 k,.int .i64 0])) w):WP w r (.returned (.tuple #[.int .i64 a,.int .i64 k,.int .i64 0])) w:=by rw[h];exact c
theorem G6 {w:World}(v:Value)(l:List Nat)(h:Rd w v l)(E:∀c∈l,c<256)(hl:l.length≤9223372036854775807)(r:Int×Nat×Nat)(L:r=get l):
  Calls Tryz.prog 184 #[v] w (WP w r):=by
 have C:=h;obtain⟨_,a,cap,rfl,_,_⟩:=h;have n:=h_ L;clear L;go_enter Tryz.func184,Tryz.ntmps184;go_wp2_with fail
 go_loop [5,11] (fun u i=>∃(k U:Nat),k≤l.length∧k≤9∧i=.int .i64 k∧u=.int .u64 U∧U<128^k∧get l=D2 (l.drop k) k U) (fun _ i=>l.length-(intOf i).toNat)
 case atStart=>exact⟨0,0,by omega,by omega,rfl,rfl,by simp,by simp[get]⟩
 case round=>
  obtain⟨k,U,hk,ad,rfl,rfl,g,p⟩:=hrel;by_cases j:k<l.length
  ·obtain⟨af,so,ab,H,_,ae,D⟩:=C.at1 (by omega)
   simp only[Bn]at H;obtain⟨rfl,_,rfl⟩:=H;have B:=D k j;rw[EL l k j]at B;have S:l.getD k 0<256:=E _ (by simp[Af,j]);have F:l.drop k=l.getD k 0::l.drop (k+1):=by rw[Cj j];simp[Af,j]
   rw[F]at p;obtain⟨m,s⟩:=i_2 p g;clear p F D C E g;generalize l.getD k 0=c at*;unfold bc at B;have q0:(k:Int)<l.length:=by omega
   have ha:=and8 c S;have T:(k=9∧1<c)∨(¬(k=9∧1<c)∧127<c)∨(¬(k=9∧1<c)∧c≤127∧0<k∧c=0)∨(¬(k=9∧1<c)∧c≤127∧¬(0<k∧c=0)):=by omega
   rcases T with⟨rfl,e⟩|⟨d,e⟩|⟨d,e,f,t⟩|⟨d,e,f⟩
   ·have Z:(1:Int)<c:=by omega
    go_wp2
    go_ret3
    refine⟨?_,rfl⟩;rw[n.out,m.out];simp[D2,e]
   ·have Z:(127:Int)<c:=by omega
    have ac:k<9:=by omega
    have M:((k:Int)==9)=false:=by simp;omega
    go_wp2_with fail
    go_round
    case rel=>
     have x:=ML k (by omega) c;have g:=s.out;refine⟨k+1,U+c % 128*128^k,by omega,by omega,by go_num,by rw[SF U c k g (by omega)], ?_, ?_⟩
     ·rw[Nat.pow_succ]
      have:c % 128*128^k≤127*128^k:=Ch _ (by omega);omega
     ·rw[m.out]
      simp only[D2,d,D1,e,D5]
    case measure=>simp[intOf];omega
   ·have q5:((c:Int)==0)=true:=by simpa using t
    have q3:(0:Int)<k:=by omega
    have q6:¬((1:Int)<c):=by omega
    have N:=h_ t;clear t;by_cases o:k=9
    all_goals
     first
     |(have M:((k:Int)==9)=true:=by simp;omega)
     |(have M:((k:Int)==9)=false:=by simp;omega)
     have aa:=h_ o;clear o;go_wp2
     go_ret3
     refine⟨?_,rfl⟩;rw[n.out,m.out];simp only[D2,d,D1];rw[Aw (by omega),Ay ⟨f,N.out⟩];rfl
   ·obtain⟨b,q⟩:∃b:Nat,b=U+c*128^k:=⟨_,rfl⟩
    have J:b<18446744073709551616:=by
     have g:=s.out;by_cases o:k=9
     ·subst o
      have:=Vz c (by omega);rw[show c % 128=c by omega]at this;omega
     ·have:=ML k (by omega) c
      rw[show c % 128=c by omega]at this;omega
    have X:=SF U c k s.out (by rw[show c % 128=c by omega,←q];exact J);rw[show c % 128=c by omega,←q]at X;have P:=h_ q;clear q;have q6:¬((127:Int)<c):=by omega
    have I:WP w r (.returned (.tuple #[.int .i64 (O3 b),.int .i64 ((k:Int)+1),.int .i64 0])) w:=by refine⟨?_,rfl⟩;rw[n.out,m.out];simp only[D2,d,D1];rw[Aw (by omega),Aw f,←P.out];rfl
    have O:=h_ I;clear I
    have R:bits .and .u64 (b:Int) 1=((b % 2:Nat):Int):=by rw[show(1:Int)=((1:Nat):Int)from rfl,bits_and_u64_nat _ _ J (by omega),Nat.and_one_is_mod]
    have W:=Xo (b/2) (by omega);have G:((b/2:Nat):Int)=(b:Int)/2:=by omega
    rw[G]at W;have K:((b % 2:Nat):Int)=(b:Int) % 2:=by omega
    rw[K]at R;clear G K
    have Y:((b:Int) % 2==1)=true∨((b:Int) % 2==1)=false:=by cases ((b:Int) % 2==1)<;>simp
    have V:(((k:Int)==9)=true∧decide (0<k)=true∧((c:Int)==0)=false∧¬((1:Int)<c))∨(((k:Int)==9)=false∧decide (0<k)=true∧((c:Int)==0)=false)∨(((k:Int)==9)=false∧decide (0<k)=false):=by simp;omega
    obtain⟨H3,H9⟩:=i_2 f d;clear f d;rcases V with⟨z,A,Q,a4⟩|⟨z,A,Q⟩|⟨z,A⟩
    all_goals
     rcases Y with x|x
     all_goals
      go_wp2
      go_ret3
      have hF:=O.out;unfold O3 at hF;simp only[beq_iff_eq,beq_eq_false_iff_ne]at x
      first
      |(have y:b % 2=1:=by omega
        rw[Ay y]at hF;refine VY ?_ hF;omega)
      |(have y:¬b % 2=1:=by omega
        rw[Aw y]at hF;refine VY ?_ hF;omega)
  ·go_wp2
   go_ret3
   obtain rfl:k=l.length:=by omega
   refine⟨?_,rfl⟩;rw[n.out,p,List.drop_length];simp[D2]
def BR (l:List Nat):List Nat×Nat×Nat:=
 if(get l).2.2 ≠0 then([],0,(get l).2.2)else if(get l).1 <0∨65536<(get l).1 then([],0,1)
 else if((l.length-(get l).2.1 :Nat):Int)<(get l).1 then([],0,2)else((l.drop (get l).2.1).take (get l).1.toNat,(get l).2.1 +(get l).1.toNat,0)
def GotT (w:World)(r:List Nat×Nat×Nat)(e:Ending)(a:World):Prop:=e=.returned (.tuple #[.string (toStr r.1),.int .i64 (r.2.1:Int),.int .i64 (r.2.2:Int)])∧w=a
theorem Ks {w:World}(v:Value)(l:List Nat)(h:Rd w v l)(b:∀c∈l,c<256)(T:l.length≤4611686018427387904)(r:List Nat×Nat×Nat)(o:r=BR l):
  Calls Tryz.prog 298 #[v] w (GotT w r):=by
 have s:=h;obtain⟨_,a,cap,rfl,M,t⟩:=h;have p:=Fq l 0 0 (by omega) (by simp) b;unfold BR at o;have x:get l=D2 l 0 0:=rfl;rw[←x]at p;have d:=h_ s;clear s;generalize y:get l=g at*;obtain⟨n,k,e⟩:=g;simp only at p o;obtain⟨j,f⟩:=i_2 o y;clear o x y;rcases p with⟨rfl,Q,S,R,U,V⟩|⟨G,O,rfl,rfl⟩
 ·have E:n<0∨65536<n∨(0≤n∧n≤65536∧((l.length-k:Nat):Int)<n)∨(0≤n∧n≤65536∧n≤((l.length-k:Nat):Int)):=by omega
  rcases E with i|i|⟨i,z,u⟩|⟨i,z,u⟩
  ·go_enter Tryz.func298,GC
   go_wp2_with fail;refine(G6 _ l d.out b (by omega) _ f.out.symm).mono ?_;rintro e m ⟨rfl,rfl⟩;go_wp2
   go_ret3
   refine⟨?_,rfl⟩;rw[j.out,Aw (by simp),Ay (.inl i)];rfl
  ·go_enter Tryz.func298,GC
   go_wp2_with fail;refine(G6 _ l d.out b (by omega) _ f.out.symm).mono ?_;rintro e m ⟨rfl,rfl⟩;go_wp2
   go_ret3
   refine⟨?_,rfl⟩;rw[j.out,Aw (by simp),Ay (.inr i)];rfl
  ·have A:(l.length:Int)-k<n:=by omega
   go_enter Tryz.func298,GC;go_wp2_with fail;refine(G6 _ l d.out b (by omega) _ f.out.symm).mono ?_;rintro e m ⟨rfl,rfl⟩;go_wp2
   go_ret3
   refine⟨?_,rfl⟩;rw[j.out,Aw (by simp),Aw (by omega),Ay u];rfl
  ·obtain⟨N,rfl⟩:=Int.eq_ofNat_of_zero_le i
   have A:(N:Int)≤(l.length:Int)-k:=by omega
   obtain⟨sb,L,rfl,W,C⟩:=t (by simp;omega)
   have J:r=((l.drop k).take N,k+N,0):=by rw[j.out,Aw (by simp),Aw (by omega),Aw (by omega)];simp
   have q:=h_ J;clear C t;by_cases H:k=cap
   ·have B:N=0:=by omega
    subst B
    have F:∀(a:Option Addr) (c:Nat),Sem.run Tryz.prog (convert 81 9 (.slice a 0 c)) w=.ok (.string (toStr [])) w:=fun a c=>Rd.str (P:=Tryz.prog) (Rv.empty w 1 a c) (by simp) Ao EQ BG
    go_enter Tryz.func298,GC;go_wp2_with fail;refine(G6 _ l d.out b (by omega) _ f.out.symm).mono ?_;rintro e m ⟨rfl,rfl⟩;go_wp2
    go_ret3
    refine⟨?_,rfl⟩;rw[q.out];simp[H]
   ·have K:Rd w (.slice (some ⟨sb,L+k,none⟩) N (cap-k)) ((l.drop k).take N):=by
     have:=d.out.sub k N (cap-k) (by omega) (by omega);rw[D4]at this;have I:((l.drop k).take N).length =N:=by simp;omega
     unfold Rd;rw[I];exact this
    have F:=K.str (P:=Tryz.prog) (src:=81) (dst:=9) (fun c D=>b c (AB (AH D))) Ao EQ BG;go_enter Tryz.func298,GC;go_wp2_with fail;refine(G6 _ l d.out b (by omega) _ f.out.symm).mono ?_;rintro e m ⟨rfl,rfl⟩;go_wp2
    go_ret3
    refine⟨?_,rfl⟩;rw[q.out];simp
 ·have X:((e:Int) !=0)=true:=by simp;omega
  go_enter Tryz.func298,GC;go_wp2_with fail;refine(G6 _ l d.out b (by omega) _ f.out.symm).mono ?_;rintro e m ⟨rfl,rfl⟩;go_wp2
  go_ret3
  refine⟨?_,rfl⟩;rw[j.out,Ay G];rfl
def DA (s:ByteArray)(n:Nat):ByteArray:=if n<s.size then s.extract 0 n else s
theorem DP {w:World}(s:ByteArray)(n:Nat)(d:s.size≤9223372036854775807)(c:n≤1000000):
  Calls Tryz.prog 50 #[.string s,.int .i64 n] w fun e b=>e=.returned (.string (DA s n))∧w=b:=by
 by_cases h:n<s.size
 ·have a:(n:Int)<s.size:=by omega
  go_enter Tryz.func50,Tryz.ntmps50;go_wp2;go_ret;exact⟨by unfold DA;rw[Ay h];rfl,rfl⟩
 ·have a:¬(n:Int)<s.size:=by omega
  go_enter Tryz.func50,Tryz.ntmps50;go_wp2;go_ret;exact⟨by unfold DA;rw[Aw h];rfl,rfl⟩
theorem KY (t:ByteArray):toStr (sb t)=t:=by
 unfold toStr sb
 have e:(t.data.toList.map UInt8.toNat).map UInt8.ofNat=t.data.toList:=by
  rw[EW]
  conv=>rhs;rw[←List.map_id t.data.toList]
  apply List.map_congr_left;intro c _;simp
 rw[e]
theorem Hw (t:ByteArray)(c:t.size≤65536)(r:List Nat):BR (Cf t++r)=(sb t,(Cf t).length,0):=by
 have b:(Cf t).length =(Ga (zz (t.size:Int))).length +t.size:=by unfold Cf;rw[Aj,CO]
 unfold BR
 have a:get (Cf t++r)=((t.size:Int),(Ga (zz (t.size:Int))).length,0):=by unfold Cf;rw[Ax];exact NU _ (by omega) (by omega) _
 rw[a];simp only[ne_eq,E5,D1];rw[Aw (by omega),Aw (by rw[Aj];omega)]
 have e:(Cf t++r).drop (Ga (zz (t.size:Int))).length =sb t++r:=by unfold Cf;rw[Ax,Ec,C8,Bj,Bz (Av _),List.nil_append]
 rw[e,Int.toNat_natCast,b]
 congr 1
 rw[BE (by rw[CO];omega),Ba (by rw[CO];omega)]
abbrev L7 (k v:ByteArray)(n:Int)(g:Bool):Value:= .agg #[.string k,.string v,.int .i64 n,.bool g]
def E8 (k v:ByteArray)(n:Int)(g:Bool):List Value:=[.string k,.string v,.int .i64 n,.bool g]
def itKey (k:ByteArray):Bool:=decide (1≤k.size)&&decide (k.size≤40)
def itMay (k v:ByteArray)(n:Int)(g:Bool):Bool:=
 itKey k&&(decide (v.size≤200)&&(decide (0≤n)&&(decide (n≤1099511627776)&&(!g||(decide (v.size=0)&&decide (n=0))))))
def L8 (k v:ByteArray)(n:Int)(g:Bool)(a:Int):Bool:=itMay k v n g&&(!g&&(decide (n=0)||decide (a<n)))
theorem Jl (s:ByteArray):(s={data:=#[]})↔s.size=0:=by
 constructor
 ·rintro rfl;rfl
 ·intro h
  apply ByteArray.ext;exact Array.eq_empty_of_size_eq_zero h
theorem I5 {s:ByteArray}:s.toList=[]↔s.size=0:=by rw[toList_nil_iff_emptyBytes,←Jl];rfl
theorem UW {s t:ByteArray}(h:s.toList=t.toList):s=t:=by rw[DQ,DQ]at h;apply ByteArray.ext;exact Array.toList_inj.1 h
theorem KU {w:World}(s:ByteArray)(j:s.size≤9223372036854775807)(r:Bool)(c:r=itKey s):Calls Tryz.prog 177 #[.string s] w fun e g=>e=.returned (.bool r)∧w=g:=by
 have a:=h_ c;clear c;by_cases b:s.size=0
 ·obtain rfl:=(Jl s).2 b
  go_enter Tryz.func177,Tryz.ntmps177;go_wp2;go_ret;exact⟨by rw[a.out];rfl,rfl⟩
 ·have i:s.toList.isEmpty=false:=by
   cases h:s.toList with
   |nil=>exact absurd (I5.1 h) b
   |cons _ _=>rfl
  have f:decide (1≤s.size)=true:=An (by omega);go_enter Tryz.func177,Tryz.ntmps177;go_wp2;go_ret;refine⟨?_,rfl⟩;have d:decide ((s.size:Int)≤40)=decide (s.size≤40):=by apply decide_eq_decide.2;omega
  rw[a.out];unfold itKey;rw[f,Dx,←d];rfl
theorem FT {w:World}(k v:ByteArray)(n:Int)(g:Bool)(m:k.size≤9223372036854775807)(t:v.size≤9223372036854775807)(r:Bool)(h:r=itMay k v n g):
  Calls Tryz.prog 163 #[L7 k v n g] w fun e s=>e=.returned (.bool r)∧Keep [] w s:=by
 have b:=h_ h;clear h;go_enter Tryz.func163,Tryz.ntmps163;go_wp2_with fail;refine(KU k m _ rfl).mono ?_;rintro e y ⟨rfl,rfl⟩
 cases f:itKey k
 ·go_wp2
  go_ret;exact⟨by rw[b.out];unfold itMay;rw[f];rfl,(By _ _).alloc _⟩
 by_cases i:v.size≤200
 case neg=>have o:decide ((200:Int)<v.size)=true:=An (by omega);go_wp2;go_ret;exact⟨by rw[b.out];unfold itMay;rw[Ak (show¬v.size≤200 by omega)];simp,(By _ _).alloc _⟩
 have o:decide ((200:Int)<v.size)=false:=Ak (by omega);by_cases j:0≤n
 case neg=>have p:decide (n<0)=true:=An (by omega);go_wp2;go_ret;exact⟨by rw[b.out];unfold itMay;rw[Ak (show¬0≤n by omega)];simp,(By _ _).alloc _⟩
 have p:decide (n<0)=false:=Ak (by omega);by_cases l:n≤1099511627776
 case neg=>have q:decide (1099511627776<n)=true:=An (by omega);go_wp2;go_ret;exact⟨by rw[b.out];unfold itMay;rw[Ak (show¬n≤1099511627776 by omega)];simp,(By _ _).alloc _⟩
 have q:decide (1099511627776<n)=false:=Ak (by omega)
 have a:r=(!g||(decide (v.size=0)&&decide (n=0))):=by rw[b.out];unfold itMay;rw[f,An i,An j,An l];simp
 have a:=h_ a;cases g
 ·go_wp2
  go_ret;exact⟨by rw[a.out];rfl,(By _ _).alloc _⟩
 by_cases c:v.size=0
 case neg=>
  have u:¬v.toList=[]:=fun e=>c (I5.1 e)
  go_wp2;go_ret;exact⟨by rw[a.out];simp[c],(By _ _).alloc _⟩
 obtain rfl:=(Jl v).2 c;by_cases d:n=0
 ·subst d
  go_wp2;go_ret;exact⟨by rw[a.out];rfl,(By _ _).alloc _⟩
 ·have x:(n==0)=false:=by simpa using d
  go_wp2;go_ret;exact⟨by rw[a.out];simp[d],(By _ _).alloc _⟩
theorem WM {w:World}(k v:ByteArray)(n:Int)(g:Bool)(j:Int)(o:k.size≤9223372036854775807)(p:v.size≤9223372036854775807)(r:Bool)(l:r=L8 k v n g j):
  Calls Tryz.prog 259 #[L7 k v n g,.int .i64 j] w fun e q=>e=.returned (.bool r)∧Keep [] w q:=by
 have a:=h_ l;clear l;go_enter Tryz.func259,Tryz.ntmps259;go_wp2_with fail;refine(FT k v n g o p _ rfl).mono ?_;rintro e m ⟨rfl,i⟩;have f:Blk m w.heap.size (E8 k v n g) 171:=(BY w (E8 k v n g) 171).keep i (by simp);have c:Keep [] w m:=((By _ _).alloc _).trans i;have c2:=f.cell 2;have c3:=f.cell 3;simp only[E8,List.getElem?_cons_succ,List.getElem?_cons_zero]at c2 c3;clear i f
 cases h:itMay k v n g
 ·go_wp2
  go_ret;exact⟨by rw[a.out];unfold L8;rw[h];rfl,c⟩
 cases g
 case true=>go_wp2;go_ret;exact⟨by rw[a.out];unfold L8;rw[h];rfl,c⟩
 have b:r=(decide (n=0)||decide (j<n)):=by rw[a.out];unfold L8;rw[h];rfl
 have b:=h_ b;clear a;by_cases d:n=0
 ·subst d
  go_wp2;go_ret;exact⟨by rw[b.out];rfl,c⟩
 ·have s:(n==0)=false:=by simpa using d
  go_wp2;go_ret;exact⟨by rw[b.out,Ak d,CH];rfl,c⟩
def Xd (w:World)(p:Option Addr)(v:Int):World:=match p with|some a=>w.setCell a (.int .i64 v)|none=>w
def DR (w:World):List (Option Addr)→List Int→World
 |p::ps,v::vs=>DR (Xd w p v) ps vs
 |_,_=>w
theorem OH (p:Option Addr)(v:Int):∀(ps:List (Option Addr)) (a:List Int) (w:World),ps.length=a.length→DR w (ps++[p]) (a++[v])=Xd (DR w ps a) p v:=by
 intro ps
 induction ps with
 |nil=>intro a w h;have:a=[]:=Bv (by simpa using h.symm);subst this;rfl
 |cons q ps ih=>
  intro a w h
  cases a with
  |nil=>simp at h
  |cons u a=>simp only[List.cons_append,DR];exact ih a _ (by simpa using h)
theorem OG:∀(ps:List (Option Addr)) (a:List Int) (w:World),DR w (ps.take a.length) a=DR w ps a:=by
 intro ps
 induction ps with
 |nil=>intro a w;simp
 |cons p ps ih=>
  intro a w
  cases a with
  |nil=>rfl
  |cons v a=>simp only[List.length_cons,List.take_succ_cons,DR];exact ih a _
def QZ (l:List (Option Addr)):List Value:=l.map Value.pointer
theorem Xm (l:List (Option Addr))(i:Nat)(h:i<l.length):(QZ l)[i]?=some (.pointer (l.getD i none)):=by simp[QZ,AN,Af,h]
def DK (l:List (Option Addr)):List Nat:=l.filterMap fun p=>p.map (·.block)
theorem Ig (S:List Nat):∀(ps:List (Option Addr)) (c:List Int) (w d:World),Keep S w d→(∀b∈DK ps,b∈S)→Keep S w (DR d ps c):=by
 intro ps
 induction ps with
 |nil=>intro c w d h _;cases c<;>exact h
 |cons p ps ih=>
  intro c w d h e
  cases c with
  |nil=>exact h
  |cons v c=>
   simp only[DR]
   cases p with
   |none=>exact ih c w _ h (by simpa[DK]using e)
   |some a=>exact ih c w _ (h.setCell (.inl (e _ (by simp[DK]))) _) (fun b f=>e b (by simp only[DK,List.filterMap_cons,Option.map_some]at f⊢;exact Ap _ f))
theorem N2 (a:Addr):∀(ps:List (Option Addr)) (c:List Int) (w:World),(∃v,w.cell? a=some v)∧w.frozen? a=false→(∃v,(DR w ps c).cell? a=some v)∧(DR w ps c).frozen? a=false:=by
 intro ps
 induction ps with
 |nil=>intro c w h;cases c<;>exact h
 |cons p ps ih=>
  intro c w h
  cases c with
  |nil=>exact h
  |cons v c=>
   simp only[DR];apply ih
   cases p with
   |none=>exact h
   |some b=>obtain⟨⟨u,e⟩,d⟩:=h;exact⟨cell?_setCell_some e,by simp only[Xd];rw[World.frozen?_setCell];exact d⟩
def B4 (l:List Nat):Nat→List Int×Nat×Nat
 |0=>([],0,0)
 |m+1=>if(get l).2.2 ≠0 then([],0,(get l).2.2)else
  ((get l).1 ::(B4 (l.drop (get l).2.1) m).1,if(B4 (l.drop (get l).2.1) m).2.2 ≠0 then 0 else(get l).2.1 +(B4 (l.drop (get l).2.1) m).2.1,(B4 (l.drop (get l).2.1) m).2.2)
def after (a:List Int)(pos:Nat)(r:List Int×Nat×Nat):List Int×Nat×Nat:=(a++r.1,if r.2.2≠0 then 0 else pos+r.2.1,r.2.2)
theorem UA (l:List Nat)(m:Nat):B4 l m=after [] 0 (B4 l m):=by
 have key:∀m l,(B4 l m).2.2 ≠0→(B4 l m).2.1 =0:=by
  intro m
  cases m with
  |zero=>intro l h;simp[B4]at h
  |succ m=>
   intro l h;unfold B4 at h⊢
   split
   ·rfl
   ·rename_i h0
    simp only[h0,D1]at h;simp only[h,D5,ne_eq,not_false_eq_true]
 unfold after;by_cases h:(B4 l m).2.2 ≠0
 ·simp only[h,D5,List.nil_append,ne_eq,not_false_eq_true]
  rw[←key m l h]
 ·simp only[h,D1,List.nil_append,AP]
theorem Sl (b:List Int)(pos:Nat)(l:List Nat)(m:Nat)(h:(get l).2.2 =0):after b pos (B4 l (m+1))=after (b++[(get l).1]) (pos+(get l).2.1) (B4 (l.drop (get l).2.1) m):=by
 unfold after;simp only[B4,h,ne_eq,E5,D1,Ax,List.singleton_append];by_cases a:(B4 (l.drop (get l).2.1) m).2.2 =0
 ·simp only[a,E5,D1,Cv]
 ·simp only[a,not_false_eq_true,D5]
theorem UB (a:List Int)(pos:Nat)(l:List Nat)(m:Nat)(h:(get l).2.2 ≠0):after a pos (B4 l (m+1))=(a,0,(get l).2.2):=by unfold after;simp only[B4,h,ne_eq,not_false_eq_true,D5,AE]
def GotAll (w:World)(ps:List (Option Addr))(r:List Int×Nat×Nat)(e:Ending)(a:World):Prop:=e=.returned (.tuple #[.int .i64 (r.2.1:Int),.int .i64 (r.2.2:Int)])∧a=DR w ps r.1
theorem Tj {w:World}(v J:Value)(l:List Nat)(ps:List (Option Addr))(h:Rd w v l)(f:Rv w 1 J ps.length (QZ ps))(Q:∀c∈l,c<256)(hl:l.length≤4611686018427387904)(a4:ps.length≤1000)
  (q:∀a,some a∈ps→(∃u,w.cell? a=some u)∧w.frozen? a=false) (ah:∀b,v.ownBlock=some b→0<l.length→b∉DK ps) (ai:∀b,J.ownBlock=some b→b∉DK ps)
  (r:List Int×Nat×Nat) (W:r=B4 l ps.length):
  Calls Tryz.prog 134 #[v,J] w (GotAll w ps r):=by
 have M:=h;have V:=f;obtain⟨_,a,cap,rfl,aq,h3⟩:=h;obtain⟨_,a2,ao,rfl,ar,_⟩:=f;have m:=h_ W;clear W;obtain⟨i0,hi,a5,an,a6⟩:=AU In;go_enter Tryz.func134,Tryz.ntmps134;go_wp2
 go_loopw [6,14] (fun p i wr=>∃(k pos:Nat) (d:List Int),k≤ps.length∧pos≤l.length∧i=.int .i64 k∧p=.int .i64 pos∧d.length=k∧wr=DR w (ps.take k) d∧B4 l ps.length=after d pos (B4 (l.drop pos) (ps.length-k))) (fun _ i _=>ps.length-(intOf i).toNat)
 case atStart=>exact⟨0,0,[],by omega,by omega,rfl,rfl,rfl,by cases ps<;>rfl,by simpa using UA l ps.length⟩
 case round=>
  obtain⟨k,pos,d,hk,ag,rfl,rfl,al,z,g⟩:=hrel;by_cases x:k<ps.length
  ·obtain⟨aa,so,ap,s,_,aj,O⟩:=V.at1 (by omega)
   simp only[Bn]at s;obtain⟨rfl,_,rfl⟩:=s
   have ae:∀b∈DK (ps.take k),b∈DK ps:=by intro b Z;unfold DK at Z⊢;obtain⟨p,f,af⟩:=F6.1 Z;exact F6.2 ⟨p,AH f,af⟩
   have S:Keep (DK ps) w wr:=by rw[z];exact Ig _ _ _ _ _ (By _ _) ae
   have g4:wr.cell? ⟨aa,so+k,none⟩=some (.pointer (ps.getD k none)):=by rw[S.cell aj (ai aa rfl),O k x,Xm ps k x]
   have am:Rd wr (.slice a l.length cap) l:=M.keep0 S (fun b ad f=>ah b ad f)
   have I:∀a,ps.getD k none=some a→(∃u,wr.cell? a=some u)∧wr.frozen? a=false:=by intro a ha;rw[z];refine N2 a _ _ w (q a ?_);rw[←ha];simp[Af,x]
   have T:(l.drop pos).length =l.length-pos:=by simp
   have R:∀c∈l.drop pos,c<256:=fun c q=>Q c (AB q)
   obtain⟨P,o⟩:∃P,P=ps.getD k none:=⟨_,rfl⟩;rw[←o]at g4 I;have t:=Fq (l.drop pos) 0 0 (by omega) (by simp) R;have N:get (l.drop pos)=D2 (l.drop pos) 0 0:=rfl;rw[←N]at t;have U:ps.length-k=(ps.length-(k+1))+1:=by omega
   rw[U]at g;obtain⟨G,F⟩:∃G,G=get (l.drop pos):=⟨_,rfl⟩;have y:=Sl d pos (l.drop pos) (ps.length-(k+1));have H:=UB d pos (l.drop pos) (ps.length-(k+1));rw[←F]at t y H;rw[Bu]at y
   have X:DR w (ps.take (k+1)) (d++[G.1])=Xd (DR w (ps.take k) d) P G.1:=by rw[EC ps none k x,OH _ _ _ _ _ (by rw[Az];omega),o]
   obtain⟨B,ac,D,HP,K,L,ab,C⟩:=i_8 g F z o X y H T;have q1:(k:Int)<ps.length:=by omega
   clear g F z o X y H T O V M h3 q Q N U;obtain⟨n,A,E⟩:=G;simp only at t
   go_wp2_with (refine Et _ _ _ _ _ _ _ 5 i0 Ao hi an _ _ _ _ pos rfl rfl rfl am ag ?_;intro v1 Y a3)
   have ak:Rd wr v1 (l.drop pos):=by unfold Rd;rw[C.out];unfold Bb at Y⊢;rw[Dw];exact Y
   refine(G6 v1 (l.drop pos) ak R (by rw[C.out];omega) (n,A,E) ac.out).mono ?_;rintro e w' ⟨rfl,rfl⟩;rcases t with⟨rfl,aw,ay,ax,a0,a1⟩|⟨s,au,rfl,rfl⟩
   ·have az:A≤l.length-pos:=by have:=C.out;omega
    cases P with
    |none=>
     go_wp2
     go_roundw
     case rel=>
      refine⟨k+1,pos+A,d++[n],by omega,by omega,by go_num,by go_num,by simp;omega, ?_, ?_⟩
      ·rw[K.out,D.out];rfl
      ·rw[B.out,L.out (by trivial)]
     case measure=>simp[intOf];omega
    |some a=>
     obtain⟨⟨u,hu⟩,av⟩:=I a rfl;clear I;go_wp2
     go_roundw
     case rel=>
      refine⟨k+1,pos+A,d++[n],by omega,by omega,by go_num,by go_num,by simp;omega, ?_, ?_⟩
      ·rw[K.out,D.out];rfl
      ·rw[B.out,L.out (by trivial)]
     case measure=>simp[intOf];omega
   ·have q2:((E:Int) !=0)=true:=by simp;omega
    go_wp2;go_ret2;have j:B4 l ps.length=(d,0,E):=by rw[B.out,ab.out s]
    refine⟨by rw[m.out,j];rfl, ?_⟩;rw[m.out,j,D.out,←al];exact OG ps d w
  ·obtain rfl:k=ps.length:=by omega
   go_wp2;go_ret2;rw[C8]at g;have j:B4 l ps.length=(d,pos,0):=by rw[g];simp[after,B4]
   refine⟨by rw[m.out,j];rfl, ?_⟩;rw[m.out,j]
theorem X8 (l:List Nat)(h:∀c∈l,c<256):II (get l).1 :=by have:=Fq l 0 0 (by omega) (by decide) h;unfold get II;omega
theorem PK:∀(m:Nat) (l:List Nat),(∀c∈l,c<256)→∀n∈(B4 l m).1,II n:=by
 intro m
 induction m with
 |zero=>intro l _ n a;simp[B4]at a
 |succ m ih=>
  intro l h n a;unfold B4 at a
  split at a
  ·simp at a
  ·simp only[Ac]at a
   rcases a with rfl|a
   ·exact X8 l h
   ·exact ih _ (fun c b=>h c (AB b)) n a
theorem PJ:∀(m:Nat) (l:List Nat),(B4 l m).1.length ≤m∧((B4 l m).2.2 =0→(B4 l m).1.length =m):=by
 intro m
 induction m with
 |zero=>intro l;simp[B4]
 |succ m ih=>
  intro l;have:=ih (l.drop (get l).2.1);unfold B4
  split
  ·rename_i h0
   exact⟨by simp,fun h=>absurd h h0⟩
  ·exact⟨by simp;omega,fun h=>by simp;exact this.2 h⟩
theorem ND (x:Int)(l:List Int):BL (x::l)=Ga (zz x)++BL l:=by simp[BL]
theorem Kh:∀(a:List Int) (r:List Nat),(∀n∈a,II n)→B4 (BL a++r) a.length=(a,(BL a).length,0):=by
 intro a
 induction a with
 |nil=>intro r _;simp[B4,BL]
 |cons x a ih=>intro r h;have b:=h x (by simp);have c:=NU x b.1 b.2 (BL a++r);rw[ND,Ax];have d:=ih r (fun n e=>h n (by simp[e]));simp only[List.length_cons,B4,c];rw[Aw (by simp),EN,d];simp
theorem Nm {w:World}(v u:Value)(l m:List Nat)(r:Bool)(k:Rd w v l)(j:Rd w u m)(f:∀c∈l,c<256)(g:∀c∈m,c<256)(a:r=decide (l=m)):
  Calls Tryz.prog 299 #[v,u] w fun e o=>e=.returned (.bool r)∧w=o:=by
 have x:=Rd.str (P:=Tryz.prog) (src:=81) (dst:=9) k f Ao EQ BG;have n:=Rd.str (P:=Tryz.prog) (src:=81) (dst:=9) j g Ao EQ BG;obtain⟨_,p,c1,rfl,_,_⟩:=id k;obtain⟨_,q,c2,rfl,_,_⟩:=id j;by_cases h:l=m
 ·have b:r=true:=by rw[a];exact An h
  subst b;have d:toStr l=toStr m:=by rw[h]
  rw[←d]at n;clear a h d;go_enter Tryz.func299,Tryz.ntmps299;go_wp2;go_ret;exact⟨rfl,rfl⟩
 ·have b:r=false:=by rw[a];exact Ak h
  subst b;have i:toStr l≠toStr m:=fun e=>h (Tp f g e)
  have d:((toStr l).toList ==(toStr m).toList)=false:=by rw[beq_eq_false_iff_ne];intro e;apply i;rw[DQ,DQ]at e;exact bytes_inj e
  clear i;clear a h;generalize toStr l=s at*;generalize toStr m=t at*;go_enter Tryz.func299,Tryz.ntmps299;go_wp2;go_ret;exact⟨rfl,rfl⟩
def Kv (x:Nat):Nat:=
 let a:=((x^^^(x/1073741824))*13787848793156543929) % 18446744073709551616
 let b:=((a^^^(a/134217728))*10723151780598845931) % 18446744073709551616
 b^^^(b/2147483648)
def F7:Nat→List Nat→Nat
 |h,[]=>h
 |h,c::l=>F7 ((Kv (h^^^c)+1) % 18446744073709551616) l
def IN (k:List Nat):Nat:=Kv (F7 11400714819323198485 k^^^(256+k.length))
def MM (a i:Nat):Nat:=Kv (a*1000003+i)
theorem Jj {x y:Nat}(a:x<18446744073709551616)(b:y<18446744073709551616):x^^^y<18446744073709551616:=
 Nat.xor_lt_two_pow (n:=64) a b
theorem Xa (x:Nat):Kv x<18446744073709551616:=by
 unfold Kv;simp only;have:∀b:Nat,b<18446744073709551616→b^^^(b/2147483648)<18446744073709551616:=fun b a=>Jj a (by omega)
 exact this _ (C1 _ (by decide))
theorem Lw:∀(l:List Nat) (h:Nat),h<18446744073709551616→F7 h l<18446744073709551616
 |[],h,hh=>hh
 |c::l,h,hh=>Lw l _ (C1 _ (by decide))
theorem Lv:∀(l:List Nat) (h c:Nat),F7 h (l++[c])=(Kv (F7 h l^^^c)+1) % 18446744073709551616
 |[],h,c=>rfl
 |a::l,h,c=>by show F7 _ (l++[c])=_;rw[Lv l];rfl
theorem P3 (k:List Nat):IN k<18446744073709551616:=Xa _
def GK (a b:Nat×Nat):Bool:=decide (a.1<b.1)||(decide (a.1=b.1)&&decide (a.2<b.2))
def Lo (x:Nat×Nat):List (Nat×Nat)→List (Nat×Nat)
 |[]=>[x]
 |y::l=>if GK x y then x::y::l else y::Lo x l
def NE:List (Nat×Nat)→List (Nat×Nat)
 |[]=>[]
 |x::l=>Lo x (NE l)
def Dd (mem:List Nat):List (Nat×Nat):=mem.flatMap (fun n=>(List.range 8).map (fun i=>(MM n i,n)))
def ptsOf (mem:List Nat):List (Nat×Nat):=NE (Dd mem)
def Eg (pts:List (Nat×Nat))(h:Nat):Nat:=match pts.find? (fun p=>decide (h≤p.1))with
 |some p=>p.2
 |none=>match pts with
  |[]=>0
  |p::_=>p.2
abbrev Str:=ByteArray
def FZ (k:Str):Nat:=IN (sb k)
def JE:List Nat→List Nat→Bool
 |_,[]=>false
 |[],_::_=>true
 |a::l,b::m=>decide (a<b)||(decide (a=b)&&JE l m)
def UR (a b:Str):Bool:=JE (sb a) (sb b)
abbrev se:Str:=ByteArray.empty
structure Wm where
 kind:Nat
 src:Nat:=0
 dst:Nat:=0
 epoch:Nat:=0
 tick:Nat:=0
 seq:Nat:=0
 n:Nat:=0
 id:Nat:=0
 op:Nat:=0
 key:Str:=se
 err:Nat:=0
 last:Bool:=false
 it:Str×Str×Bool:=(se,se,false)
 its:List (Str×Str):=[]
 mks:List (Nat×Str):=[]
 mem:List Nat:=[]
 base:Nat:=0
 old:List Nat:=[]
deriving DecidableEq
structure Mv where
 frm:Nat
 too:Nat
 src:Nat
 dst:Nat
deriving DecidableEq
def Yb (x:Nat):List Nat→List Nat
 |[]=>[x]
 |y::l=>if x<y then x::y::l else if x=y then y::l else y::Yb x l
def VA:List Nat→List Nat
 |[]=>[]
 |x::l=>Yb x (VA l)
def V1 (a b:List (Nat×Nat)):List Nat→Nat→List Mv→List Mv
 |[],_,acc=>acc
 |too::l,frm,acc=>
  let s:=Eg a too
  let d:=Eg b too
  let c:=if s=d then acc else match acc with
   |m::acc0=>if m.too+1=frm∧m.src=s∧m.dst=d then {m with too:=too}::acc0 else⟨frm,too,s,d⟩::acc
   |[]=>[⟨frm,too,s,d⟩]
  V1 a b l (too+1) c
def V0 (a b:List (Nat×Nat)):List Mv:=(V1 a b (VA (a.map Prod.fst++b.map Prod.fst++[18446744073709551615])) 0 []).reverse
def KT (l:List Mv)(h:Nat):Bool:=l.any (fun m=>decide (m.frm≤h∧h≤m.too))
abbrev Cache:=List (Str×Str)
def GA (k v:Str):Cache→Cache
 |[]=>[(k,v)]
 |(k',v')::l=>if UR k k' then(k,v)::(k',v')::l else if k=k' then(k,v)::l else(k',v')::GA k v l
def cGet (c:Cache)(k:Str):Option Str:=(c.find? (fun p=>decide (p.1=k))).map Prod.snd
def W8 (c:Cache)(a:List Str):Cache:=c.filter (fun p=> !a.contains p.1)
def cNext (c:Cache)(f t:Nat)(after:Str):Option (Str×Str):=c.find? (fun p=>UR after p.1&&decide (f≤FZ p.1∧FZ p.1≤t))
structure Who where
 node:Nat
 id:Nat
 op:Nat
 key:Str
deriving DecidableEq
structure Wt where
 w:Who
 id:Nat
 too:Nat
 whn:Nat
deriving DecidableEq
structure OutS where
 epoch:Nat
 src:Nat
 dst:Nat
 parts:List Mv
 tick:Nat
 count:Nat
 id:Nat
 cur:Wm
 part:Nat
 after:Str
 sent:Bool
 frozen:Bool
 fin:Nat
 known:Nat
structure InS where
 epoch:Nat
 src:Nat
 dst:Nat
 parts:List Mv
 id:Nat
 n:Nat
 known:Nat
 last:Bool
structure Disk where
 boot:Nat:=0
 epoch:Nat:=0
 ready:Nat:=0
 frozen:Bool:=false
 cache:Cache:=[]
 jk:List Str:=[]
 used:Nat:=0
structure Rp where
 id:Nat
 op:Nat
 key:Str
 err:Nat
 val:Str
 has:Bool
deriving DecidableEq
structure Nd where
 id:Nat
 dk:Disk
 lep:Nat:=0
 lend:Nat:=0
 ltop:Nat:=0
 ring:Option (Nat×List Nat):=none
 tlast:Nat:=0
 toks:List (Nat×Str×Bool):=[]
 knows:Bool:=false
 parts:List Mv:=[]
 outs:List (Nat×OutS):=[]
 ins:List (Nat×InS):=[]
 waits:List Wt:=[]
 reads:List (Who×Nat):=[]
 asked:Nat:=0
 msgs:List Wm:=[]
 reps:List Rp:=[]
namespace Nd
def pts (n:Nd):List (Nat×Nat):=match n.ring with|none=>[]|some r=>ptsOf r.2
def own (n:Nd)(k:Str):Nat:=Eg n.pts (FZ k)
def say (n:Nd)(l:List Wm):Nd:={n with msgs:=n.msgs++l.map (fun m=> {m with src:=n.id})}
def tell (n:Nd)(w:Who)(err:Nat)(val:Str)(a:Bool):Nd:=
 if w.node=0 then {n with reps:=n.reps++[⟨w.id,w.op,w.key,err,val,a⟩]}
 else n.say [{kind:=14,dst:=w.node,id:=w.id,err:=err,it:=if w.op=1∧err=0 then(w.key,val, !a)else(se,se,false)}]
def good (n:Nd)(a:Nat):Bool:=decide (0<n.dk.epoch∧n.dk.epoch=n.lep∧a<n.lend)
def serves (n:Nd)(a:Nat)(k:Str):Bool:=
 if n.own k≠n.id∨n.good a=false then false
 else if n.dk.frozen=false then true
 else n.knows&& !KT (n.parts.filter (fun m=>decide (m.src=n.id))) (FZ k)
def recLen (k v:Str):Nat:=k.size+v.size+20
def dropKeys (n:Nd)(a:List Str):Nd:={n with dk:={n.dk with cache:=W8 n.dk.cache a,used:=n.dk.used+(a.map (fun k=>recLen k se)).sum }}
def drops (n:Nd)(f:Str→Bool):Nd:=match(n.dk.cache.map Prod.fst).filter f with
 |[]=>n
 |l=>n.dropKeys l
def strange (n:Nd):Nd:=match n.ring with
 |none=>n
 |some _=>n.drops (fun k=>decide (n.own k≠n.id))
def still (n:Nd):Nd:={n with knows:=false,parts:=[],outs:=[],ins:=[]}
def save (n:Nd)(ep rd:Nat)(a:Bool):Nd:={n with dk:={n.dk with epoch:=ep,ready:=rd,frozen:=a}}
def clear (n:Nd):Nd:={n with toks:=n.toks.map (fun t=>(t.1,t.2.1,false))}
def adopt (n:Nd)(a:Nat)(mem:List Nat):Nd:=
 if a=n.dk.epoch then
  match n.ring with
  |some _=>n
  |none=>
   let b:={n with ring:=some (a,mem)}
   if n.dk.ready=0 then b.strange else b
 else
  let b:=if a=n.dk.ready then n else {n with dk:={n.dk with cache:=[],used:=n.dk.used+9}}
  let d:=(({(b.save a 0 false)with ring:=some (a,mem)}:Nd).strange)
  let c:=({d with lep:=0,lend:=0,ltop:=0}:Nd).clear.still
  let e:=c.waits.foldl (fun n w=>n.tell w.w 6 se false) c
  {e with waits:=[]}
def giveUp (n:Nd):Nd:=((n.save n.dk.epoch 0 false).still).strange
def take (n:Nd)(b a ep:Nat):Nd:=
 if ep<1∨ep<n.ltop∨b<a∨20≤b-a∨(ep=n.lep∧a+20≤n.lend)then n
 else {n with lep:=ep,lend:=a+20,ltop:=ep}
end Nd
namespace OutS
def entriesGo (c:Cache)(parts:List Mv):Nat→Nat→Nat→Str→List (Str×Str)→List (Str×Str)×Nat×Str
 |0,_,part,after,acc=>(acc.reverse,part,after)
 |f+1,n,part,after,acc=>
  if n≤acc.length then(acc.reverse,part,after)
  else match parts[part]? with
   |none=>(acc.reverse,part,after)
   |some p=>match cNext c p.frm p.too after with
    |none=>entriesGo c parts f n (part+1) se acc
    |some x=>entriesGo c parts f n part x.1 (if KT (parts.take part) (FZ x.1)then acc else x::acc)
def entries (o:OutS)(d:Disk)(n:Nat):List (Str×Str)×Nat×Str:=entriesGo d.cache o.parts (d.cache.length+o.parts.length+1) n o.part o.after []
def read (o:OutS)(d:Disk)(n:Nat):OutS:=
 let r:=o.entries d 4
 let a:={o with part:=r.2.1,after:=r.2.2}
 {a with cur:={kind:=5,src:=o.src,dst:=o.dst,epoch:=o.epoch,id:=o.id,tick:=o.tick,n:=n,seq:=d.jk.length,its:=r.1,last:=(a.entries d 1).1.isEmpty }}
def begin (o:OutS)(d:Disk):OutS:=
 let b:={o with count:=o.count+1,id:=d.boot*1048576+(o.count+1),part:=0,after:=se,sent:=false}
 let a:=b.read d 1
 {a with known:=a.cur.seq}
def send (d:Disk)(a src dst:Nat)(parts:List Mv):OutS:=begin ⟨a,src,dst,parts,0,0,0,{kind:=0},0,se,false,false,0,0⟩ d
def done (o:OutS):Bool:=o.sent&&o.frozen&&decide (o.fin≤o.known)
def next (o:OutS)(d:Disk):OutS×List Wm:=
 if o.done then(o,[])
 else if o.sent=false then(o,[o.cur])
 else if o.frozen=false then(o,[])
 else if o.known≤d.jk.length then
  (o,[{kind:=8,src:=o.src,dst:=o.dst,epoch:=o.epoch,id:=o.id,tick:=o.tick,seq:=o.known,mks:=((d.jk.zipIdx.map (fun p=>(p.2+1,p.1))).drop o.known).take 4}])
 else let a:=o.begin d;(a,[a.cur])
def hear (o:OutS)(d:Disk)(m:Wm):OutS×List Wm:=
 if(m.kind≠6∧m.kind≠9)∨m.epoch≠o.epoch∨m.src≠o.dst∨m.dst≠o.src then(o,[])
 else
  let r:OutS×Bool:=
   if m.tick≠o.tick then(({o with tick:=m.tick}:OutS).begin d,true)
   else if m.id≠o.id then(o,false)
   else if m.kind=6 then
    if m.n=0 then(o.begin d,true)
    else if m.n≠o.cur.n∨o.sent=true then(o,false)
    else if o.cur.last then({o with sent:=true},true)
    else(o.read d (m.n+1),true)
   else if o.known<m.seq then({o with known:=m.seq},true)
   else(o,false)
  if r.2 then r.1.next d else(r.1,[])
def freeze (o:OutS)(d:Disk):OutS:={o with frozen:=true,fin:=d.jk.length}
end OutS
namespace InS
def say (x:InS)(a kind id n seq:Nat):List Wm:=[{kind:=kind,src:=x.dst,dst:=x.src,epoch:=x.epoch,id:=id,tick:=a,n:=n,seq:=seq}]
def covers (x:InS)(k:Str):Bool:=KT x.parts (FZ k)
def put (x:InS)(d:Disk)(m:Wm):InS×Disk:=
 ({x with n:=m.n,last:=m.last},m.its.foldl (fun d y=>if x.covers y.1 then {d with cache:=GA y.1 y.2 d.cache,used:=d.used+Nd.recLen y.1 y.2}else d) d)
def hear (x:InS)(d:Disk)(m:Wm):InS×Disk×List Wm:=
 if(m.kind≠5∧m.kind≠8)∨m.epoch≠x.epoch∨m.src≠x.src∨m.dst≠x.dst then(x,d,[])
 else if m.tick≠d.boot then(x,d,x.say d.boot 6 m.id 0 0)
 else if m.kind=5 then
  if m.n=1∧x.id<m.id then
   let b:=(d.cache.map Prod.fst).filter x.covers
   let c:={d with cache:=W8 d.cache b,used:=d.used+(b.map (fun k=>Nd.recLen k se)).sum }
   let r:=({x with id:=m.id,known:=m.seq}:InS).put c m
   (r.1,r.2,r.1.say d.boot 6 m.id r.1.n 0)
  else if m.id=x.id∧m.n=x.n+1 then
   let r:=x.put d m
   (r.1,r.2,r.1.say d.boot 6 m.id r.1.n 0)
  else if m.id=x.id∧1≤m.n∧m.n≤x.n then(x,d,x.say d.boot 6 m.id x.n 0)
  else if x.id<m.id then(x,d,x.say d.boot 6 m.id 0 0)
  else(x,d,[])
 else
  if x.id<m.id then(x,d,x.say d.boot 6 m.id 0 0)
  else if m.id<x.id∨x.last=false∨x.known<m.seq then(x,d,[])
  else
   let r:=m.mks.foldl (fun(a:InS×Disk×Bool) y=>
    if a.2.2 then a
    else if y.1≤a.1.known then a
    else if y.1≠a.1.known+1 then(a.1,a.2.1,true)
    else({a.1 with known:=y.1},(if a.1.covers y.2 then {a.2.1 with cache:=W8 a.2.1.cache [y.2],used:=a.2.1.used+Nd.recLen y.2 se}else a.2.1),false)) (x,d,false)
   (r.1,r.2.1,r.1.say d.boot 9 m.id 0 r.1.known)
end InS
namespace Nd
def outAt (n:Nd)(a:Nat):Option OutS:=(n.outs.find? (fun p=>decide (p.1=a))).map Prod.snd
def setOut (n:Nd)(a:Nat)(o:OutS):Nd:={n with outs:=n.outs.map (fun p=>if p.1=a then(a,o)else p)}
def next (n:Nd)(a:Nat):Nd:=match n.outAt a with
 |none=>n
 |some o=>let r:=o.next n.dk;(n.setOut a r.1).say r.2
def allSent (n:Nd):Bool:=n.outs.all (fun p=>p.2.sent)
def allDone (n:Nd):Bool:=n.outs.all (fun p=>p.2.done)
def did (n:Nd):Nd×List Wm×List Rp:=({n with msgs:=[],reps:=[]},n.msgs,n.reps)
def beat (n:Nd)(b:Nat):Nd×List Wm×List Rp:=
 let c:=n.say [{kind:=1,tick:=b,epoch:=n.dk.epoch,seq:=n.dk.ready}]
 let a:=[1,2,3,4,5].foldl next c
 let d:=a.waits.foldl (fun(n:Nd) w=>if b-w.whn<60 then n else n.tell w.w 10 se false) a
 ({d with waits:=a.waits.filter (fun w=>decide (b-w.whn<60))}:Nd).did
def learn (n:Nd)(m:Wm):Nd×List Nat:=
 if n.knows then(n,[])
 else
  let parts:=V0 (ptsOf m.old) (ptsOf m.mem)
  let c:=parts.filter (fun p=>decide (p.src=n.id))
  let b:=parts.filter (fun p=>decide (p.dst=n.id))
  let outs:=[1,2,3,4,5].filterMap (fun a=>let t:=c.filter (fun p=>decide (p.dst=a));if t.isEmpty then none else some (a,OutS.send n.dk m.epoch n.id a t))
  let ins:=[1,2,3,4,5].filterMap (fun a=>let t:=b.filter (fun p=>decide (p.src=a));if t.isEmpty then none else some (a,(⟨m.epoch,a,n.id,t,0,0,0,false⟩:InS)))
  ({n with knows:=true,parts:=parts,outs:=outs,ins:=ins},outs.map Prod.fst)
def mayNodes (l:List Nat):Bool:= !l.isEmpty&&l.all (fun n=>decide (1≤n∧n≤5))&&(l.zip (l.drop 1)).all (fun p=>decide (p.1<p.2))
def prepare (n:Nd)(m:Wm):Nd:=
 if m.epoch≤n.dk.epoch∨m.epoch<n.dk.ready∨m.base<n.dk.epoch∨m.epoch≤m.base∨mayNodes m.old=false then n
 else
  let a:=if n.dk.epoch<m.base then n.adopt m.base m.old else n
  let d:=if a.dk.ready<m.epoch then
    let d:=if 0<a.dk.ready then a.giveUp else a
    let f:=d.save a.dk.epoch m.epoch false
    let e:=(V0 (ptsOf m.old) (ptsOf m.mem)).filter (fun p=>decide (p.dst=n.id))
    f.drops (fun k=>KT e (FZ k))
   else a
  let r:=d.learn m
  let b:=if m.kind=7 then
    let b:=(r.1.save r.1.dk.epoch r.1.dk.ready true).clear
    {b with outs:=b.outs.map (fun p=>(p.1,p.2.freeze b.dk))}
   else r.1
  let c:=r.2.foldl next b
  if m.kind=3 then c.say [{kind:=4,epoch:=m.epoch,last:=c.allSent}]
  else if c.allDone then c.say [{kind:=10,epoch:=m.epoch}]
  else c
def have_ (n:Nd)(m:Wm):Nd:=match n.outAt m.src with
 |none=>n
 |some o=>
  let r:=o.hear n.dk m
  let a:=(n.setOut m.src r.1).say r.2
  if a.dk.frozen&&a.allDone then a.say [{kind:=10,epoch:=m.epoch}]
  else if !a.dk.frozen&&a.allSent then a.say [{kind:=4,epoch:=m.epoch,last:=true}]
  else a
def grant (n:Nd)(b:Nat)(m:Wm):Nd:=
 if m.epoch<n.dk.epoch∨(m.epoch=n.dk.epoch∧m.kind=11)then n
 else
  let a:=n.adopt m.epoch m.mem
  if m.kind=2 then a.take b m.tick m.epoch else a
def keyOk (k:Str):Bool:=decide (1≤k.size∧k.size≤40)
def get (n:Nd)(w:Who):Nd:=match cGet n.dk.cache w.key with
 |some v=>n.tell w 0 v true
 |none=> {n with tlast:=n.tlast+1,toks:=n.toks++[(n.tlast+1,w.key,true)],reads:=n.reads++[(w,n.tlast+1)]}
def killTok (n:Nd)(k:Str):Nd:={n with toks:=n.toks.map (fun t=>if t.2.1=k then(t.1,k,false)else t)}
def kill (n:Nd)(k:Str):Nd:=({n with dk:={n.dk with jk:=n.dk.jk++[k]}}:Nd).dropKeys [k]
def ask (n:Nd)(a:Nat)(w:Who):Nd:=
 if(w.op≠1∧w.op≠2)∨keyOk w.key=false then n.tell w 1 se false
 else if n.ring.isNone then n.tell w 6 se false
 else if n.own w.key≠n.id then
  let id:=n.dk.boot*1048576+(n.asked+1)
  ({n with asked:=n.asked+1,waits:=n.waits++[⟨w,id,n.own w.key,a⟩]}:Nd).say [{kind:=13,dst:=n.own w.key,id:=id,op:=w.op,key:=w.key,epoch:=n.dk.epoch}]
 else if n.serves a w.key=false then n.tell w 6 se false
 else if w.op=2 then((n.killTok w.key).kill w.key).tell w 0 se false
 else n.get w
def foreign (n:Nd)(a:Nat)(m:Wm):Nd:=
 if m.epoch≠n.dk.epoch then n.tell ⟨m.src,m.id,m.op,m.key⟩ 7 se false else n.ask a ⟨m.src,m.id,m.op,m.key⟩
def answer (n:Nd)(m:Wm):Nd:=match n.waits.find? (fun w=>decide (w.too=m.src∧w.id=m.id))with
 |none=>n
 |some w=>
  let a:=if m.err=7 then 6 else m.err
  let b:=decide (a=0∧w.w.op=1∧m.it.1≠se)&& !m.it.2.2
  ({n with waits:=n.waits.eraseP (fun w=>decide (w.too=m.src∧w.id=m.id))}:Nd).tell w.w a (if b then m.it.2.1 else se) b
def step (n:Nd)(b:Nat)(m:Wm):Nd×List Wm×List Rp:=
 let a:=decide (0<n.dk.ready∧m.epoch=n.dk.ready)
 (if m.kind=2∨m.kind=11 then(if mayNodes m.mem then n.grant b m else n)
  else if m.kind=3∨m.kind=7 then(if mayNodes m.mem then n.prepare m else n)
  else if m.kind=12 then(if a then n.giveUp else n)
  else if m.kind=5∨m.kind=8 then
   (if a then match n.ins.find? (fun p=>decide (p.1=m.src))with
    |none=>n
    |some p=>let r:=p.2.hear n.dk m;({n with dk:=r.2.1,ins:=n.ins.map (fun q=>if q.1=m.src then(q.1,r.1)else q)}:Nd).say r.2.2
   else n)
  else if m.kind=6∨m.kind=9 then(if a then n.have_ m else n)
  else if m.kind=13 then n.foreign b m
  else if m.kind=14 then n.answer m
  else n).did
def read (n:Nd)(e i:Nat)(val:Str)(b:Bool):Nd×List Wm×List Rp:=match n.reads[i]? with
 |none=>(n,[],[])
 |some r=>
  let c:={n with reads:=n.reads.eraseIdx i}
  let v:=if b then val else se
  let good:=match c.toks.find? (fun t=>decide (t.1=r.2))with|some t=>t.2.2|none=>false
  let a:={c with toks:=c.toks.filter (fun t=>decide (t.1≠r.2))}
  let d:=if good&&b&&decide (v.size≤200)&&a.serves e r.1.key then {a with dk:={a.dk with cache:=GA r.1.key v a.dk.cache,used:=a.dk.used+recLen r.1.key v}}else a
  (d.tell r.1 0 v b).did
end Nd
structure Au where
 epoch:Nat
 top:Nat
 mem:List Nat
 num:Nat:=0
 phase:Nat:=0
 dest:List Nat:=[]
 nodes:List Nat:=[]
 lost:Nat:=0
 done:List Nat:=[]
 gr:List (Nat×Nat):=[]
namespace Au
def both (a b:List Nat)(c:Nat):List Nat:=[1,2,3,4,5].filter (fun n=>decide (n≠c)&&(a.contains n||b.contains n))
def tell (c:Au)(kind:Nat)(l:List Nat):List Wm:=l.map (fun n=> {kind:=kind,dst:=n,epoch:=c.num,mem:=c.dest,base:=c.epoch,old:=c.mem})
def member (c:Au)(kind too tick:Nat):Wm:={kind:=kind,dst:=too,tick:=tick,epoch:=c.epoch,mem:=c.mem}
def noChange (c:Au):Au:={c with num:=0,phase:=0,dest:=[],nodes:=[],lost:=0,done:=[]}
def commit (c:Au)(now:Nat):Au×List Wm:=
 match c.gr.find? (fun p=>decide (p.1=c.lost))with
 |some p=>if 0<c.lost∧now-p.2<40 then(c,[])else go c
 |none=>go c
where go (c:Au):Au×List Wm:=
 let nodes:=both c.mem c.dest 0
 let c1:=({c with epoch:=c.num,mem:=c.dest}:Au).noChange
 (c1,nodes.map (fun n=>c1.member 11 n 0))
def beat (c:Au)(a:Nat):Au×List Wm:=
 if c.num=0 then(c,[])
 else if c.phase=1 then(c,c.tell 3 c.nodes)
 else if c.phase=2 then(c,c.tell 7 c.nodes)
 else c.commit a
def note (c:Au)(m:Wm)(phase:Nat):Au×Bool:=
 if c.num=0∨m.epoch≠c.num∨c.phase≠phase∨c.nodes.contains m.src=false then(c,false)
 else
  let c1:=if c.done.contains m.src then c else {c with done:=c.done++[m.src]}
  if c1.done.length<c1.nodes.length then(c1,false)else({c1 with phase:=c1.phase+1,done:=[]},true)
def setGr (l:List (Nat×Nat))(a t:Nat):List (Nat×Nat):=(a,t)::l.filter (fun p=>decide (p.1≠a))
def renew (c:Au)(a:Nat)(m:Wm):Au×List Wm:=
 let l:=if c.epoch<m.seq∧m.seq≠c.num then[({kind:=12,dst:=m.src,epoch:=m.seq}:Wm)]else[]
 if c.mem.contains m.src&&decide (m.src≠c.lost)then({c with gr:=setGr c.gr m.src a},l++[c.member 2 m.src m.tick])
 else if m.epoch<c.epoch then(c,l++[c.member 11 m.src 0])
 else(c,l)
def step (c:Au)(a:Nat)(m:Wm):Au×List Wm:=
 if m.kind=1 then c.renew a m
 else if m.kind=4 then
  if m.last=true then let r:=c.note m 1;if r.2 then(r.1,r.1.tell 7 r.1.nodes)else(r.1,[])else(c,[])
 else if m.kind=10 then let r:=c.note m 2;if r.2 then r.1.commit a else(r.1,[])
 else(c,[])
end Au
structure Call where
 id:Nat
 op:Nat
 key:Str
 node:Nat
 frm:Nat
 too:Nat:=0
 done:Bool:=false
 rp:Rp:=⟨0,0,se,0,se,false⟩
structure Cl where
 c:Option Au
 cd:Nat×Nat×List Nat
 cc:Nat:=0
 nodes:Nat→Option Nd
 devs:Nat→Disk
 clk:Nat→Nat:=fun _=>0
 made:Nat→Bool
 net:List Wm:=[]
 onow:Nat:=0
 org:List (Str×Nat×Str×Bool):=[]
 log:List Call:=[]
def Ej {α:Type}(f:Nat→α)(a:Nat)(x:α):Nat→α:=fun b=>if b=a then x else f b
namespace Cl
def send (s:Cl)(l:List Wm):Cl:={s with net:=s.net++l.take (300-s.net.length)}
def endCall (s:Cl)(r:Rp):Cl:={s with log:=s.log.map (fun c=>if c.id=r.id∧c.done=false∧c.op=r.op∧c.key=r.key then {c with done:=true,too:=s.onow,rp:=r}else c)}
def setNd (s:Cl)(a:Nat)(n:Nd):Cl:={s with nodes:=Ej s.nodes a (some n),devs:=Ej s.devs a n.dk}
def came (s:Cl)(a:Nat)(r:Nd×List Wm×List Rp):Cl:=r.2.2.foldl endCall ((s.setNd a r.1).send r.2.1)
def start (s:Cl)(a:Nat):Cl:=
 let d:=s.devs a
 let b:Disk:=if s.made a then {d with boot:=d.boot+1}else {boot:=1}
 {s with nodes:=Ej s.nodes a (some {id:=a,dk:=b}),devs:=Ej s.devs a b,made:=Ej s.made a true}
def make (mem:List Nat):Cl:=mem.foldl start {c:=some ⟨1,1,mem,0,0,[],[],0,[],[]⟩,cd:=(1,1,mem),nodes:=fun _=>none,devs:=fun _=> {},made:=fun _=>false}
def setAu (s:Cl)(c:Au):Cl:={s with c:=some c,cd:=(c.epoch,c.top,c.mem)}
def hears (s:Cl)(m:Wm):Cl:=
 if m.dst=0 then match s.c with
  |none=>s
  |some c=>let r:=c.step s.cc m;(s.setAu r.1).send r.2
 else match s.nodes m.dst with
  |none=>s
  |some n=>s.came m.dst (n.step (s.clk m.dst) m)
def tick (s:Cl)(a:Nat):Cl:=
 if a=0 then
  let b:={s with cc:=s.cc+1}
  match b.c with
  |none=>b
  |some c=>let r:=c.beat b.cc;(b.setAu r.1).send r.2
 else
  let b:={s with clk:=Ej s.clk a (s.clk a+1)}
  match b.nodes a with
  |none=>b
  |some n=>b.came a (n.beat (b.clk a))
def drop (s:Cl)(i:Nat):Cl:={s with net:=s.net.eraseIdx i}
def sendAt (s:Cl)(i:Nat):Cl:=match s.net[i]? with
 |none=>s
 |some m=>(s.drop i).hears m
def orgAt (s:Cl)(pos:Nat)(k:Str):Str×Bool:=match(s.org.filter (fun p=>decide (p.1=k∧p.2.1≤pos))).getLast? with
 |some p=>(p.2.2.1,p.2.2.2)
 |none=>(se,false)
def set (s:Cl)(k v:Str):Cl:={s with onow:=s.onow+1,org:=s.org++[(k,s.onow+1,v,true)]}
def read (s:Cl)(a i:Nat):Cl:=match s.nodes a with
 |none=>s
 |some n=>match n.reads[i]? with
  |none=>s
  |some r=>let v:=s.orgAt s.onow r.1.key;s.came a (n.read (s.clk a) i v.1 v.2)
def call (s:Cl)(op a:Nat)(k:Str):Cl:=match s.nodes a with
 |none=>s
 |some n=>
  let id:=s.log.length+1
  ({s with log:=s.log++[⟨id,op,k,a,s.onow,0,false,⟨0,0,se,0,se,false⟩⟩]}:Cl).came a ((n.ask (s.clk a) ⟨0,id,op,k⟩).did)
def crash (s:Cl)(a:Nat):Cl:=
 if a=0 then {s with c:=none}
 else {s with nodes:=Ej s.nodes a none,log:=s.log.map (fun c=>if c.node=a∧c.done=false then {c with done:=true,too:=s.onow,rp:=⟨c.id,c.op,c.key,8,se,false⟩}else c)}
def rise0 (s:Cl):Cl:={s with c:=some ⟨s.cd.1,s.cd.2.1,s.cd.2.2,0,0,[],[],0,[],[(1,s.cc),(2,s.cc),(3,s.cc),(4,s.cc),(5,s.cc)]⟩}
def openCalls (s:Cl):Nat:=(s.log.filter (fun c=> !c.done)).length
def rests (s:Cl):Bool:=match s.c with
 |none=>true
 |some c=>c.mem.all (fun a=>match s.nodes a with|none=>false|some n=> !n.dk.frozen&&n.good (s.clk a))&&decide (c.num=0)&&decide (s.openCalls=0)
def down (s:Cl):Bool:=[1,2,3,4,5].any (fun a=>s.made a&&(s.nodes a).isNone)||s.c.isNone
def nReads (s:Cl)(a:Nat):Nat:=match s.nodes a with|none=>0|some n=>n.reads.length
def reads (s:Cl):Nat:=([1,2,3,4,5].map s.nReads).sum
end Cl
structure Pl where
 key:ByteArray
 pos:Nat
 has:Bool
 gone:Bool
def pl0:Pl:=⟨ByteArray.empty,0,false,false⟩
abbrev Tab:=List Pl
def probe (t:Tab)(key:ByteArray)(k:Nat):Nat:=(FZ key % t.length+k) % t.length
def Fv (t:Tab)(key:ByteArray):Nat→Nat→Option Nat→Option Nat×Option Nat
 |0,_,f=>(none,f)
 |n+1,k,f=>
  let p:=t.getD (probe t key k) pl0
  if p.has=true∧p.key=key then(some (probe t key k),some (probe t key k))
  else
   let a:=if p.has=false∧f=none then some (probe t key k)else f
   if p.has=false∧p.gone=false then(none,a)else Fv t key n (k+1) a
def find (t:Tab)(key:ByteArray):Option Nat×Option Nat:=Fv t key t.length 0 none
structure TabOk (t:Tab) (u:Nat):Prop where
 pos:0<t.length
 reach:∀(i:Nat) (p:Pl),t[i]?=some p→p.has=true→∃k,k<t.length∧probe t p.key k=i∧∀j,j<k→(t.getD (probe t p.key j) pl0).has =true∨(t.getD (probe t p.key j) pl0).gone =true
 one:∀(i j:Nat) (p q:Pl),t[i]?=some p→t[j]?=some q→p.has=true→q.has=true→p.key=q.key→i=j
 used:u=t.countP (fun p=>p.has||p.gone)
 flag:∀p∈t,p.has=true→p.gone=false
theorem Ip {t:Tab}(h:0<t.length)(key:ByteArray)(k:Nat):probe t key k<t.length:=C1 _ h
theorem Re {t:Tab}(h:0<t.length)(key:ByteArray)(k:Nat):probe t key (k+1)=(probe t key k+1) % t.length:=by show(FZ key % t.length+(k+1)) % t.length=((FZ key % t.length+k) % t.length+1) % t.length;generalize FZ key % t.length=a;rw[Nat.mod_add_mod (a+k),Cv]
theorem TO {t:Tab}(h:0<t.length)(key:ByteArray)(i:Nat)(b:i<t.length):∃k,k<t.length∧probe t key k=i:=by
 let a:=FZ key % t.length
 have c:FZ key % t.length<t.length:=C1 _ h;by_cases d:FZ key % t.length≤i
 ·refine⟨i-FZ key % t.length,by omega, ?_⟩
  unfold probe;rw[show FZ key % t.length+(i-FZ key % t.length)=i by omega];exact AR b
 ·refine⟨i+t.length-FZ key % t.length,by omega, ?_⟩
  unfold probe;rw[show FZ key % t.length+(i+t.length-FZ key % t.length)=i+t.length by omega,Nat.add_mod_right];exact AR b
theorem TN {t:Tab}(h:0<t.length)(key:ByteArray){j k:Nat}(f:j<t.length)(g:k<t.length)(b:probe t key j=probe t key k):j=k:=by
 unfold probe at b;have e:FZ key % t.length<t.length:=C1 _ h;generalize FZ key % t.length=a at*
 have c:(a+j) % t.length=if a+j<t.length then a+j else a+j-t.length:=by
  split
  ·exact AR ‹_›
  ·rw[Nat.mod_eq_sub_mod (by omega)]
   exact AR (by omega)
 have d:(a+k) % t.length=if a+k<t.length then a+k else a+k-t.length:=by
  split
  ·exact AR ‹_›
  ·rw[Nat.mod_eq_sub_mod (by omega)]
   exact AR (by omega)
 rw[c,d]at b
 split at b<;>split at b<;>omega
theorem PU {t:Tab}{key:ByteArray}(i:Nat)(a:Nat)(o:probe t key a=i)(p:Pl)(q:t.getD i pl0=p)(m:p.has=true∧p.key=key)
  (r:∀j,j<a→((t.getD (probe t key j) pl0).has =true∨(t.getD (probe t key j) pl0).gone =true)∧¬((t.getD (probe t key j) pl0).has =true∧(t.getD (probe t key j) pl0).key =key)):
  ∀(n k:Nat) (f:Option Nat),k≤a→a<k+n→Fv t key n k f=(some i,some i):=by
 intro n
 induction n with
 |zero=>intro k f d e;omega
 |succ n ih=>
  intro k f d e;unfold Fv;by_cases l:k=a
  ·subst l
   rw[o,q,Ay m]
  ·have b:=r k (by omega)
   rw[Aw b.2]
   have g:¬((t.getD (probe t key k) pl0).has =false∧(t.getD (probe t key k) pl0).gone =false):=by
    intro c;rcases b.1 with h|h
    ·rw[c.1]at h;cases h
    ·rw[c.2]at h;cases h
   simp only;rw[Aw g];exact ih (k+1) _ (by omega) (by omega)
theorem TabOk.find_some {t:Tab}{u:Nat}(h:TabOk t u){i:Nat}{p:Pl}(a:t[i]?=some p)(c:p.has=true):find t p.key=(some i,some i):=by
 obtain⟨k,l,f,m⟩:=h.reach i p a c;have n:=(Ai.1 a).1;refine PU i k f p (by rw[Af,a];rfl) ⟨c,rfl⟩ (fun j g=>⟨m j g,fun d=> ?_⟩) t.length 0 none (by omega) (by omega);have b:=Ip h.pos p.key j
 have e:=h.one (probe t p.key j) i _ p (Ad b) a (by
  have:=d.1;rw[Af,Ad b]at this;exact this) c (by
  have:=d.2;rw[Af,Ad b]at this;exact this)
 have:=TN h.pos p.key (by omega) l (e.trans f.symm);omega
theorem PV {t:Tab}{key:ByteArray}(A:∀p∈t,¬(p.has=true∧p.key=key))(B:0<t.length):
  ∀(n k:Nat) (f:Option Nat),(Fv t key n k f).1 =none∧
   ((Fv t key n k f).2 =f∧(f≠none∨∀j,k≤j→j<k+n→(t.getD (probe t key j) pl0).has =true)∨
    f=none∧∃j,k≤j∧j<k+n∧(Fv t key n k f).2 =some (probe t key j)∧(t.getD (probe t key j) pl0).has =false∧∀i,k≤i→i<j→(t.getD (probe t key i) pl0).has =true):=by
 intro n
 induction n with
 |zero=>intro k f;exact⟨rfl,.inl ⟨rfl,by by_cases h:f=none;exact .inr (fun j o q=>by omega);exact .inl h⟩⟩
 |succ n ih=>
  intro k f
  have z:t.getD (probe t key k) pl0∈t:=by have y:=Ip B key k;rw[Af,Ad y];exact BS _
  unfold Fv;simp only;rw[Aw (A _ z)];by_cases b:(t.getD (probe t key k) pl0).has =true
  ·have g:¬((t.getD (probe t key k) pl0).has =false∧f=none):=fun d=>by rw[d.1]at b;cases b
   have u:¬((t.getD (probe t key k) pl0).has =false∧(t.getD (probe t key k) pl0).gone =false):=fun d=>by rw[d.1]at b;cases b
   rw[Aw g,Aw u];obtain⟨o,q⟩:=ih (k+1) f;refine⟨o, ?_⟩;rcases q with⟨a,c⟩|⟨a,j,c,C,v,w,x⟩
   ·refine .inl ⟨a, ?_⟩
    rcases c with c|c
    ·exact .inl c
    ·exact .inr (fun j r l=>by
      by_cases m:j=k
      ·subst m;exact b
      ·exact c j (by omega) (by omega))
   ·exact .inr ⟨a,j,by omega,by omega,v,w,fun i r l=>by
     by_cases m:i=k
     ·subst m;exact b
     ·exact x i (by omega) l⟩
  ·have s:(t.getD (probe t key k) pl0).has =false:=by simpa using b
   by_cases e:f=none
   ·subst e
    rw[Ay (show(t.getD (probe t key k) pl0).has =false∧(none:Option Nat)=none from⟨s,rfl⟩)];refine⟨?_,.inr ⟨rfl,k,Av _,by omega, ?_,s,fun i r l=>by omega⟩⟩
    ·split
     ·rfl
     ·exact(ih (k+1) _).1
    ·split
     ·rfl
     ·rcases(ih (k+1) (some (probe t key k))).2 with⟨a,_⟩|⟨a,_⟩
      ·exact a
      ·cases a
   ·have g:¬((t.getD (probe t key k) pl0).has =false∧f=none):=fun d=>e d.2
    rw[Aw g];refine⟨?_,.inl ⟨?_,.inl e⟩⟩
    ·split
     ·rfl
     ·exact(ih (k+1) _).1
    ·split
     ·rfl
     ·rcases(ih (k+1) f).2 with⟨a,_⟩|⟨a,_⟩
      ·exact a
      ·exact absurd a e
theorem Na {t:Tab}{key:ByteArray}(o:∀p∈t,¬(p.has=true∧p.key=key))(c:0<t.length)(m:∃p∈t,p.has=false):
  (find t key).1 =none∧∃j,j<t.length∧(find t key).2 =some (probe t key j)∧(t.getD (probe t key j) pl0).has =false∧∀i,i<j→(t.getD (probe t key i) pl0).has =true:=by
 obtain⟨d,e⟩:=PV o c t.length 0 none;refine⟨d, ?_⟩;rcases e with⟨s,a⟩|⟨_,j,a,u,f,g,h⟩
 ·exfalso
  rcases a with a|a
  ·exact a rfl
  ·obtain⟨p,q,r⟩:=m
   obtain⟨i,b⟩:=Bf q;have n:=(Ai.1 b).1;obtain⟨k,v,l⟩:=TO c key i n;have:=a k (by omega) (by omega);rw[l,Af,b]at this;rw[show(some p).getD pl0=p from rfl,r]at this;cases this
 ·exact⟨j,by omega,f,g,fun i b=>h i (by omega) b⟩
theorem PL {t:Tab}{i:Nat}(x:Pl)(a:i<t.length)(j:Nat):(t.set i x).getD j pl0=if i=j then x else t.getD j pl0:=by
 rw[Af,Af,CM];by_cases h:i=j
 ·subst h;rw[Ay rfl,Ay a,Ay rfl];rfl
 ·rw[Aw h,Aw h]
theorem JM (t:Tab)(i:Nat)(x:Pl)(key:ByteArray)(k:Nat):probe (t.set i x) key k=probe t key k:=by unfold probe;rw[Bi]
theorem X9 {t:Tab}{i:Nat}{p:Pl}(h:t[i]?=some p):t.getD i pl0=p:=by rw[Af,h];rfl
theorem Tg {t:Tab}{i:Nat}(h:i<t.length):t[i]?=some (t.getD i pl0):=by rw[Af,Ad h];rfl
theorem LR {t:Tab}{i:Nat}{p:Pl}(f:Pl→Bool)(x:Pl)(h:t[i]?=some p):(t.set i x).countP f+(if f p=true then 1 else 0)=t.countP f+(if f x=true then 1 else 0):=by
 induction t generalizing i with
 |nil=>simp at h
 |cons a t ih=>
  cases i with
  |zero=>simp only[List.getElem?_cons_zero,BU]at h;subst h;rw[List.set_cons_zero,GB,GB];omega
  |succ i=>simp only[List.getElem?_cons_succ]at h;have:=ih h;rw[List.set_cons_succ,GB,GB];omega
section
variable {t:Tab} {u:Nat}
theorem TabOk.add (h:TabOk t u){key:ByteArray}(y:∀p∈t,¬(p.has=true∧p.key=key)){j:Nat}(v:j<t.length)(C:(t.getD (probe t key j) pl0).has =false)
  (E:∀i,i<j→(t.getD (probe t key i) pl0).has =true) (pos:Nat):TabOk (t.set (probe t key j) ⟨key,pos,true,false⟩) (u+if(t.getD (probe t key j) pl0).gone =true then 0 else 1):=by
 have l:=Ip h.pos key j;have D:=Tg l;generalize G:t.getD (probe t key j) pl0=p at*;generalize B:probe t key j=i at*
 have z:∀(m:ByteArray) (k:Nat),((t.getD (probe t m k) pl0).has =true∨(t.getD (probe t m k) pl0).gone =true)→((t.set i ⟨key,pos,true,false⟩).getD (probe (t.set i ⟨key,pos,true,false⟩) m k) pl0).has =true∨((t.set i ⟨key,pos,true,false⟩).getD (probe (t.set i ⟨key,pos,true,false⟩) m k) pl0).gone =true:=by
  intro m k f;rw[JM,PL _ l]
  split
  ·exact .inl rfl
  ·exact f
 refine⟨by rw[Bi];exact h.pos,fun k q c o=> ?_,fun a b q r c d e n f=> ?_, ?_,fun q c o=> ?_⟩
 ·rw[Bi]
  rw[CM]at c;by_cases x:i=k
  ·subst x
   rw[Ay rfl,Ay l]at c;injection c with c;subst c;exact⟨j,v,by rw[JM];exact B,fun k f=>z _ _ (.inl (E k f))⟩
  ·rw[Aw x]at c
   obtain⟨F,e,n,A⟩:=h.reach k q c o;exact⟨F,e,by rw[JM];exact n,fun j v=>z _ _ (A j v)⟩
 ·rw[CM]at c d
  by_cases s:i=a
  ·rw[Ay s,Ay (s▸l)]at c
   injection c with c;by_cases g:i=b
   ·omega
   ·rw[Aw g]at d
    subst c;exact absurd ⟨n,f.symm⟩ (y r (Aq d))
  ·rw[Aw s]at c
   by_cases g:i=b
   ·rw[Ay g,Ay (g▸l)]at d
    injection d with d;subst d;exact absurd ⟨e,f⟩ (y q (Aq c))
   ·rw[Aw g]at d
    exact h.one a b q r c d e n f
 ·have:=LR (fun p=>p.has||p.gone) ⟨key,pos,true,false⟩ D
  rw[h.used];simp only[C,CH,Bool.true_or,D5]at this;by_cases w:p.gone=true
  ·rw[Ay w]at this⊢;omega
  ·rw[Aw w]at this⊢;omega
 ·rcases DC c with e|e
  ·exact h.flag q e o
  ·subst e;rfl
theorem TabOk.new (n:Nat)(h:0<n):TabOk (List.replicate n pl0) 0:=by
 have d:∀(i:Nat) (p:Pl),(List.replicate n pl0)[i]?=some p→p=pl0:=by intro i p a;exact DL (Aq a)
 refine⟨by simpa using h,fun i p a b=> ?_,fun i j p q a g c e f=> ?_, ?_,fun p a b=> ?_⟩
 ·rw[d i p a]at b;cases b
 ·rw[d i p a]at c;cases c
 ·rw[List.countP_replicate];rfl
 ·rw[DL a];rfl
theorem TabOk.free (h:TabOk t u)(e:u<t.length):∃p∈t,p.has=false∧p.gone=false:=by
 apply Classical.byContradiction;intro c
 have:t.countP (fun p=>p.has||p.gone)=t.length:=by
  rw[List.countP_eq_length];intro p d
  cases b:p.has with
  |true=>rfl
  |false=>
   cases a:p.gone with
   |true=>rfl
   |false=>exact absurd ⟨p,d,b,a⟩ c
 rw[h.used]at e;omega
end
def ents (t:Tab):List (ByteArray×Nat):=t.filterMap (fun p=>if p.has=true then some (p.key,p.pos)else none)
theorem Fn {t:Tab}{k:ByteArray}{pos:Nat}:(k,pos)∈ents t↔∃(i:Nat) (p:Pl),t[i]?=some p∧p.has=true∧p.key=k∧p.pos=pos:=by
 unfold ents;rw[F6];constructor
 ·rintro⟨p,hp,he⟩
  obtain⟨i,a⟩:=Bf hp
  split at he
  ·injection he with he
   injection he with h1 h2;exact⟨i,p,a,‹_›,h1,h2⟩
  ·cases he
 ·rintro⟨i,p,a,hh,rfl,rfl⟩
  exact⟨p,Aq a,by rw[Ay hh]⟩
theorem Me {t:Tab}{key:ByteArray}:(∀p∈t,¬(p.has=true∧p.key=key))↔∀pos,(key,pos)∉ents t:=by
 constructor
 ·intro h pos e
  obtain⟨i,p,a,b,d,_⟩:=Fn.1 e;exact h p (Aq a) ⟨b,d⟩
 ·intro h p b c
  obtain⟨i,a⟩:=Bf b;exact h p.pos (Fn.2 ⟨i,p,a,c.1,c.2,rfl⟩)
theorem Wc {t:Tab}{u:Nat}(h:TabOk t u){key:ByteArray}{i:Nat}(e:i<t.length)(f:(t.getD i pl0).has =false)(pos:Nat)(k:ByteArray)(q:Nat)(m:∀pos,(key,pos)∉ents t):
  (k,q)∈ents (t.set i ⟨key,pos,true,false⟩)↔(k=key∧q=pos)∨(k≠key∧(k,q)∈ents t):=by
 have l:=Tg e;rw[Fn];constructor
 ·rintro⟨j,r,a,c,rfl,rfl⟩
  rw[CM]at a;by_cases d:i=j
  ·rw[Ay d,Ay (d▸e)]at a
   injection a with a;subst a;exact .inl ⟨rfl,rfl⟩
  ·rw[Aw d]at a
   have b:=Fn.2 ⟨j,r,a,c,rfl,rfl⟩;exact .inr ⟨fun g=>m r.pos (g▸b),b⟩
 ·rintro(⟨rfl,rfl⟩|⟨g,b⟩)
  ·exact⟨i,⟨k,q,true,false⟩,by rw[CM,Ay rfl,Ay e],rfl,rfl,rfl⟩
  ·obtain⟨j,r,a,c,rfl,rfl⟩:=Fn.1 b
   refine⟨j,r, ?_,c,rfl,rfl⟩;rw[CM,Aw]
   ·exact a
   ·rintro rfl
    rw[l]at a;injection a with a;rw[a,c]at f;cases f
theorem Iy (n:Nat):ents (List.replicate n pl0)=[]:=by unfold ents;rw[List.filterMap_eq_nil_iff];intro p a;rw[DL a];rfl
theorem PY (t:Tab):(ents t).length =t.countP (fun p=>p.has):=by
 unfold ents
 induction t with
 |nil=>rfl
 |cons p t ih=>
  rw[List.filterMap_cons,GB]
  cases a:p.has with
  |true=>simp only[D5,List.length_cons,ih]
  |false=>simp only[Bool.false_eq_true,D1,ih,Nat.add_zero]
theorem bits_xor_u64_nat (a b:Nat)(e:a<18446744073709551616)(f:b<18446744073709551616):bits .xor .u64 (a:Int) (b:Int)=((a^^^b:Nat):Int):=by
 have g:=Jj e f
 have c:(BitVec.ofInt 64 (a:Int)).toNat =a:=by rw[BitVec.ofInt_natCast,Ck];exact AR (by omega)
 have d:(BitVec.ofInt 64 (b:Int)).toNat =b:=by rw[BitVec.ofInt_natCast,Ck];exact AR (by omega)
 show IntKind.u64.wrap ((BitVec.ofInt 64 (a:Int)^^^BitVec.ofInt 64 (b:Int)).toNat :Int)=_;rw[BitVec.toNat_xor,c,d,Dy];omega
theorem Np (x c:Nat)(a:x<18446744073709551616):bits .xor .u64 (x:Int) ((x:Int)/(c:Int))=((x^^^(x/c):Nat):Int):=by rw[←Int.natCast_ediv];exact bits_xor_u64_nat x (x/c) a (Nat.lt_of_le_of_lt (Nat.div_le_self _ _) a)
theorem O0 (a c:Nat):IntKind.u64.wrap ((a:Int)*(c:Int))=((a*c % 18446744073709551616:Nat):Int):=by rw[Dy,←Int.natCast_mul];rfl
theorem Xb (x:Nat)(n:x<18446744073709551616):∀A B:Int,A=IntKind.u64.wrap (bits .xor .u64 (x:Int) ((x:Int)/1073741824)*13787848793156543929)→B=IntKind.u64.wrap (bits .xor .u64 A (A/134217728)*10723151780598845931)→bits .xor .u64 B (B/2147483648)=((Kv x:Nat):Int):=by
 intro A B c d;have g:=Np x 1073741824 n;rw[show((1073741824:Nat):Int)=1073741824 from rfl]at g;rw[g]at c;have h:=O0 (x^^^(x/1073741824)) 13787848793156543929;rw[show((13787848793156543929:Nat):Int)=13787848793156543929 from rfl]at h;rw[h]at c;obtain⟨a,e⟩:∃a,a=(x^^^(x/1073741824))*13787848793156543929 % 18446744073709551616:=⟨_,rfl⟩;rw[←e]at c;have l:a<18446744073709551616:=by rw[e];exact C1 _ (by decide)
 subst c;have i:=Np a 134217728 l;rw[show((134217728:Nat):Int)=134217728 from rfl]at i;rw[i]at d;have j:=O0 (a^^^(a/134217728)) 10723151780598845931;rw[show((10723151780598845931:Nat):Int)=10723151780598845931 from rfl]at j;rw[j]at d;obtain⟨b,f⟩:∃b,b=(a^^^(a/134217728))*10723151780598845931 % 18446744073709551616:=⟨_,rfl⟩;rw[←f]at d;have m:b<18446744073709551616:=by rw[f];exact C1 _ (by decide)
 subst d;have k:=Np b 2147483648 m;rw[show((2147483648:Nat):Int)=2147483648 from rfl]at k;rw[k];unfold Kv;simp only;rw[←e,←f]
theorem Q6 {w:World}(x:Nat)(b:x<18446744073709551616):Calls Tryz.prog 54 #[.int .u64 (x:Int)] w fun e c=>e=.returned (.int .u64 (Kv x:Int))∧c=w:=by have a:=h_ (Xb x b _ _ rfl rfl);go_enter Tryz.func54,Tryz.ntmps54;go_wp2;go_ret;exact⟨by rw[a.out];rfl,rfl⟩
theorem UU (h c:Nat)(a:h<18446744073709551616)(b:c<256):bits .xor .u64 (h:Int) (c:Int)=((h^^^c:Nat):Int):=bits_xor_u64_nat h c a (by omega)
theorem Sr {w:World}(b:Nat)(n cap:Nat)(A:n=1)(k:ByteArray)(G:w.cell? ⟨b,0,none⟩=some (.string k))(H:k.size≤1000000):Calls Tryz.prog 42 #[.slice (some ⟨b,0,none⟩) n cap] w fun e p=>e=.returned (.int .u64 (IN (sb k):Int))∧p=w:=by
 subst A;have q:Hid (∀x:Nat,x<18446744073709551616→Calls Tryz.prog 54 #[.int .u64 (x:Int)] w fun e p=>e=.returned (.int .u64 (Kv x:Int))∧p=w):=h_ (fun x g=>Q6 x g);go_enter Tryz.func42,Tryz.ntmps42;go_wp2
 go_loopw [9,3] (fun t i wr=>((t=.int .i64 0∧i=.int .u64 11400714819323198485)∨(t=.int .i64 1∧i=.int .u64 (IN (sb k):Int)))∧w=wr) (fun x _ _=>2-(intOf x).toNat)
 case atStart=>exact⟨.inl ⟨rfl,rfl⟩,rfl⟩
 case round=>
 obtain⟨h,rfl⟩:=hrel;rcases h with⟨rfl,rfl⟩|⟨rfl,rfl⟩
 ·go_wp2
  go_loopw [15,3] (fun C i wr=>∃j:Nat,C=.int .i64 (j:Int)∧j≤k.size∧i=.int .u64 (F7 11400714819323198485 ((sb k).take j):Int)∧w=wr) (fun x _ _=>k.size+1-(intOf x).toNat)
  case atStart=>exact⟨0,rfl,AA _,rfl,rfl⟩
  case round=>
  obtain⟨j,rfl,y,rfl,rfl⟩:=hrel;by_cases a:j<k.size
  ·have B:decide ((j:Int)<(k.size:Int))=true:=An (by omega)
   have o:((k[j]'a).toNat :Int)=(((sb k)[j]'(by rw[CO];exact a):Nat):Int):=by simp only[sb,List.getElem_map];rfl
   have h:(sb k)[j]'(by rw[CO];exact a)<256:=by simp only[sb,List.getElem_map];exact UInt8.toNat_lt _
   have f:(sb k).take (j+1)=(sb k).take j++[(sb k)[j]'(by rw[CO];exact a)]:=by rw[Bw (by rw[CO];exact a)]
   obtain⟨c,r⟩:∃c,c=(sb k)[j]'(by rw[CO];exact a):=⟨_,rfl⟩;rw[←r]at o h f;have d:=Lw ((sb k).take j) 11400714819323198485 (by decide);have E:=h_ f
   have g:bits .xor .u64 ((F7 11400714819323198485 ((sb k).take j):Nat):Int) (IntKind.u64.wrap ((k[j]'a).toNat :Int))=((F7 11400714819323198485 ((sb k).take j)^^^c:Nat):Int):=by rw[o,show IntKind.u64.wrap (c:Int)=(c:Int) by rw[Dy];omega];exact UU _ c d h
   have l:=h_ g;have m:Hid (F7 11400714819323198485 ((sb k).take j)^^^c<18446744073709551616):=h_ (Jj d (by omega))
   have v:Hid (IntKind.u64.wrap ((Kv (F7 11400714819323198485 ((sb k).take j)^^^c):Int)+1)=(F7 11400714819323198485 ((sb k).take (j+1)):Int)):=h_ (by rw[f,Lv,Dy];rfl)
   have F:j≤1000000:=by omega
   clear o h f r d g;go_wp2_with fail;rw[l.out];refine(q.out _ m.out).mono ?_;rintro e D ⟨rfl,rfl⟩;go_wp2
   go_roundw
   case rel=>exact⟨j+1,by go_num,by omega,by rw[v.out],by first|rfl|trivial⟩
   case measure=>simp only[intOf];omega
  ·have z:j=k.size:=by omega
   have B:¬((j:Int)<(k.size:Int)):=by omega
   have f:(sb k).take j=sb k:=Ba (by rw[CO];omega);rw[f];have d:=Lw (sb k) 11400714819323198485 (by decide);have s:(sb k).length =k.size:=CO k
   have g:bits .xor .u64 ((F7 11400714819323198485 (sb k):Nat):Int) (256+(k.size:Int))=((F7 11400714819323198485 (sb k)^^^(256+(sb k).length):Nat):Int):=by rw[s,show(256+(k.size:Int))=((256+k.size:Nat):Int) by omega];exact bits_xor_u64_nat _ _ d (by omega)
   have l:=h_ g;have m:Hid (F7 11400714819323198485 (sb k)^^^(256+(sb k).length)<18446744073709551616):=h_ (Jj d (by omega));have u:Hid (IN (sb k)=Kv (F7 11400714819323198485 (sb k)^^^(256+(sb k).length))):=h_ rfl;clear z f d s g a y;go_wp2_with fail;rw[l.out];refine(q.out _ m.out).mono ?_;rintro e D ⟨rfl,rfl⟩;rw[←u.out];go_wp2
   go_roundw
   case rel=>exact⟨.inr ⟨rfl,rfl⟩,by first|rfl|trivial⟩
   case measure=>simp only[intOf];omega
 ·go_wp2
  go_ret;exact⟨rfl,rfl⟩
theorem UG {w:World}(n i:Nat)(f:n≤1000)(d:i≤1000):Calls Tryz.prog 263 #[.int .i64 (n:Int),.int .i64 (i:Int)] w fun e c=>e=.returned (.int .u64 (MM n i:Int))∧c=w:=by have a:Hid ((n:Int)*1000003+(i:Int)=((n*1000003+i:Nat):Int)):=h_ (by omega);have b:=h_ (Q6 (w:=w) (n*1000003+i) (by omega));go_enter Tryz.func263,Tryz.ntmps263;go_wp2_with fail;rw[a.out];refine b.out.mono ?_;rintro e g ⟨rfl,rfl⟩;go_wp2;go_ret;exact⟨rfl,rfl⟩
theorem Ld:∀a b c:List Nat,JE a b=true→JE b c=true→JE a c=true
 |_,[],_,h,_=>by cases ‹List Nat›<;>simp[JE]at h
 |_,_::_,[],_,h=>by simp[JE]at h
 |[],_::_,_::_,_,_=>rfl
 |x::a,y::b,z::c,e,d=>by
  unfold JE at*;simp only[CQ,Ar,A0]at*;rcases e with e|⟨rfl,e⟩
  ·rcases d with d|⟨rfl,d⟩
   ·left;omega
   ·exact .inl e
  ·rcases d with d|⟨rfl,d⟩
   ·exact .inl d
   ·exact .inr ⟨rfl,Ld a b c e d⟩
theorem Le:∀a b:List Nat,JE a b=false→JE b a=false→a=b
 |[],[],_,_=>rfl
 |[],_::_,h,_=>by simp[JE]at h
 |_::_,[],_,h=>by simp[JE]at h
 |x::a,y::b,h1,h2=>by
  unfold JE at h1 h2;simp only[Bool.or_eq_false_iff,Bool.and_eq_false_iff,decide_eq_false_iff_not]at h1 h2;have e:x=y:=by omega
  subst e;have c:=h1.2.resolve_left (by simp);have d:=h2.2.resolve_left (by simp);rw[Le a b c d]
theorem sb_inj {a b:Str}(h:sb a=sb b):a=b:=by rw[←KY a,←KY b,h]
theorem Tz (a b c:Str)(h:UR a b=true)(k:UR b c=true):UR a c=true:=Ld _ _ _ h k
theorem T1 (a b:Str)(h:UR a b=false)(k:UR b a=false):a=b:=sb_inj (Le _ _ h k)
def COk (c:Cache):Prop:=c.Pairwise (fun a b=>UR a.1 b.1=true)
theorem Fd (k v:Str)(c:Cache)(x:Str):cGet ((k,v)::c) x=if k=x then some v else cGet c x:=by
 unfold cGet;rw[List.find?_cons];by_cases h:k=x
 ·simp[h]
 ·simp[h]
theorem Qy:∀(c:Cache) (k v x:Str),COk c→cGet (GA k v c) x=if x=k then some v else cGet c x
 |[],k,v,x,_=>by
  show cGet [(k,v)] x=_;rw[Fd];by_cases h:x=k
  ·rw[Ay h,Ay h.symm]
  ·rw[Aw h,Aw (fun e=>h e.symm)]
 |(k',v')::c,k,v,x,hc=>by
  unfold COk at hc;rw[B9]at hc;unfold GA;by_cases d:UR k k'=true
  ·rw[Ay d,Fd]
   by_cases h:x=k
   ·rw[Ay h,Ay h.symm]
   ·rw[Aw h,Aw (fun e=>h e.symm)]
  ·rw[Aw d]
   by_cases b:k=k'
   ·rw[Ay b,Fd,Fd]
    subst b;by_cases h:x=k
    ·rw[Ay h,Ay h.symm]
    ·rw[Aw h,Aw (fun e=>h e.symm),Aw (fun e=>h e.symm)]
   ·rw[Aw b,Fd,Fd,Qy c k v x hc.2]
    by_cases a:k'=x
    ·rw[Ay a,Ay a,Aw (fun e=>b (e.symm.trans a.symm))]
    ·rw[Aw a,Aw a]
theorem Qx:∀(c:Cache) (k v:Str) (p:Str×Str),p∈GA k v c→p=(k,v)∨p∈c
 |[],k,v,p,h=>by rcases Ah.1 h with rfl;exact .inl rfl
 |(k',v')::c,k,v,p,h=>by
  unfold GA at h
  split at h
  ·rcases Ac.1 h with h|h
   ·exact .inl h
   ·exact .inr h
  ·split at h
   ·rcases Ac.1 h with h|h
    ·exact .inl h
    ·exact .inr (Ap _ h)
   ·rcases Ac.1 h with h|h
    ·exact .inr (h▸Bx ..)
    ·rcases Qx c k v p h with h|h
     ·exact .inl h
     ·exact .inr (Ap _ h)
theorem Tc:∀(c:Cache) (k v:Str),COk c→COk (GA k v c)
 |[],k,v,_=>by unfold COk GA;simp
 |(k',v')::c,k,v,hc=>by
  unfold COk at hc⊢;have e:=hc;rw[B9]at hc;unfold GA;by_cases b:UR k k'=true
  ·rw[Ay b,B9]
   refine⟨fun p a=> ?_,e⟩;rcases Ac.1 a with rfl|a
   ·exact b
   ·exact Tz _ _ _ b (hc.1 p a)
  ·rw[Aw b]
   by_cases d:k=k'
   ·rw[Ay d,B9]
    subst d;exact⟨hc.1,hc.2⟩
   ·rw[Aw d,B9]
    refine⟨fun p a=> ?_,Tc c k v hc.2⟩;rcases Qx c k v p a with rfl|a
    ·cases f:UR k' k with
     |true=>rfl
     |false=>exact absurd (T1 k k' (by simpa using b) f) d
    ·exact hc.1 p a
theorem GJ (a b:Nat×Nat):GK a b=true↔a.1<b.1∨(a.1=b.1∧a.2<b.2):=by unfold GK;simp
theorem FY (a b:Nat×Nat):GK a b=false↔¬(a.1<b.1∨(a.1=b.1∧a.2<b.2)):=by rw[←GJ];simp
theorem TL (a b:Nat×Nat)(c:GK a b=false)(d:GK b a=false):a=b:=by
 rw[FY]at c d;obtain⟨x,y⟩:=a;obtain⟨z,u⟩:=b;simp only at c d;have e:x=z:=by omega
 subst e;have f:y=u:=by omega
 rw[f]
theorem IY (x:Nat×Nat):∀l,(Lo x l).Perm (x::l)
 |[]=>Df _
 |y::l=>by
  unfold Lo
  split
  ·exact Df _
  ·exact((IY x l).cons y).trans (List.Perm.swap ..)
theorem Kb:∀l,(NE l).Perm l
 |[]=>Df _
 |x::l=>(IY x _).trans ((Kb l).cons x)
def KD (l:List (Nat×Nat)):Prop:=l.Pairwise (fun a b=>GK b a=false)
theorem OY (x:Nat×Nat):∀l,KD l→KD (Lo x l)
 |[],_=>by unfold KD Lo;simp
 |y::l,h=>by
  unfold KD at h⊢;have c:=h;rw[B9]at h;unfold Lo;by_cases b:GK x y=true
  ·rw[Ay b,B9]
   refine⟨fun z a=> ?_,c⟩;rcases Ac.1 a with rfl|a
   ·rw[FY];rw[GJ]at b;omega
   ·have:=h.1 z a
    rw[FY]at this⊢;rw[GJ]at b;omega
  ·rw[Aw b,B9]
   refine⟨fun z a=> ?_,OY x l h.2⟩;rcases Ac.1 ((IY x l).mem_iff.1 a)with rfl|a
   ·simpa using b
   ·exact h.1 z a
theorem MK:∀l,KD (NE l)
 |[]=>Gp
 |x::l=>OY x _ (MK l)
theorem SD:∀l m:List (Nat×Nat),l.Perm m→KD l→KD m→l=m
 |[],m,h,_,_=>(List.nil_perm.1 h).symm
 |x::l,[],h,_,_=>absurd (List.perm_nil.1 h) (by simp)
 |x::l,y::m,h,hl,hm=>by
  have c:x=y:=by
   unfold KD at hl hm;rw[B9]at hl hm;have a:y∈x::l:=h.mem_iff.2 (Bx ..);have b:x∈y::m:=h.mem_iff.1 (Bx ..);rcases Ac.1 a with e|a
   ·exact e.symm
   ·rcases Ac.1 b with e|b
    ·exact e
    ·exact TL x y (hm.1 x b) (hl.1 y a)
  subst c;unfold KD at hl hm;rw[B9]at hl hm;rw[SD l m ((List.perm_cons x).1 h) hl.2 hm.2]
theorem Vx {mem:List Nat}{l:List (Nat×Nat)}(h:l.Perm (Dd mem))(a:KD l):l=ptsOf mem:=
 SD l _ (h.trans (Kb _).symm) a (MK _)
theorem Keep.cell1' {w b:World}{a:Addr}{v:Value}(k:Keep [] w b)(h:w.cell? a=some v):b.cell? a=some v:=by
 have c:a.block<w.heap.size:=by obtain⟨_,_,e,d,_⟩:=UD (w:=w) (a:=a) (by rw[h];rfl);rw[e];exact d
 exact(k.cell (p:=a) c (by simp)).trans h
def PtR (w:World)(v:Value)(L:List (Nat×Nat)):Prop:=∃g cap,v=.slice (some ⟨g,0,none⟩) L.length cap∧g<w.heap.size∧∀i a,L[i]?=some a→w.cell? ⟨g,i*2,none⟩=some (.int .u64 (a.1:Int))∧w.cell? ⟨g,i*2+1,none⟩=some (.int .i64 (a.2:Int))
theorem PtR.keep {w e:World}{v:Value}{L:List (Nat×Nat)}{S:List Nat}(h:PtR w v L)(k:Keep S w e)(l:∀b,v.ownBlock=some b→b∉S):PtR e v L:=by obtain⟨g,cap,rfl,c,n⟩:=h;have d:=l g rfl;refine⟨g,cap,rfl,AW c k.size,fun i a m=> ?_⟩;obtain⟨f,j⟩:=n i a m;exact⟨(k.cell (p:=⟨g,i*2,none⟩) c d).trans f,(k.cell (p:=⟨g,i*2+1,none⟩) c d).trans j⟩
structure RingAt (w:World) (rb ep:Nat) (mem:List Nat) (v1 v2:Value):Prop where
 blk:Blk w rb [.int .i64 (ep:Int),v1,v2] 166
 nodes:Rv w 1 v1 mem.length (ints (mem.map Int.ofNat))
 pts:PtR w v2 (ptsOf mem)
theorem Rg {L:List (Nat×Nat)}{h i:Nat}{a:Nat×Nat}(c:L[i]?=some a)(f:h≤a.1)(d:∀j b,j<i→L[j]?=some b→b.1<h):Eg L h=a.2:=by
 unfold Eg
 have:L.find? (fun p=>decide (h≤p.1))=some a:=by rw[List.find?_eq_some_iff_getElem];obtain⟨g,e⟩:=Ai.1 c;refine⟨by simpa using f,i,g,e,fun j k=> ?_⟩;have:=d j (L[j]'(by omega)) k (Ad (by omega));simp;omega
 rw[this]
theorem Rf {L:List (Nat×Nat)}{h:Nat}{a:Nat×Nat}(c:L[0]?=some a)(d:∀(j:Nat) b,L[j]?=some b→b.1<h):Eg L h=a.2:=by
 unfold Eg
 have:L.find? (fun p=>decide (h≤p.1))=none:=by rw[List.find?_eq_none];intro p f;obtain⟨j,e⟩:=Bf f;have:=d j p e;simp;omega
 rw[this]
 cases L with
 |nil=>simp at c
 |cons b L=>simp at c;rw[c]
theorem UH {w:World}(h:Value):Calls Tryz.prog 52 #[.pointer none,h] w fun e a=>e=.returned (.int .i64 0)∧a=w:=by go_enter Tryz.func52,Tryz.ntmps52;go_wp2;go_ret;exact⟨rfl,rfl⟩
theorem UJ {w:World}{A ep:Nat}{mem:List Nat}{W X:Value}(o:RingAt w A ep mem W X)(p:0<(ptsOf mem).length ∧(ptsOf mem).length ≤1000)(h:Nat)(hh:h<18446744073709551616):
  Calls Tryz.prog 52 #[pr A 0,.int .u64 (h:Int)] w fun e Y=>e=.returned (.int .i64 (Eg (ptsOf mem) h:Int))∧Keep [] w Y:=by
 have f:=o.blk.cell 2;obtain⟨g,cap,rfl,I,u⟩:=o.pts;simp only[List.getElem?_cons_succ,List.getElem?_cons_zero]at f;obtain⟨L,G⟩:∃L,L=ptsOf mem:=⟨_,rfl⟩;rw[←G]at f u p⊢;obtain⟨n,z⟩:∃n,n=L.length:=⟨_,rfl⟩;rw[←z]at f p;obtain⟨s,C,Z,aa,O⟩:=i_5 z u o.blk I f;clear G z u o I;go_enter Tryz.func52,Tryz.ntmps52;go_wp2_with fail;clear f
 go_loopw [14] (fun V wr=>∃i:Nat,V=.int .i64 (i:Int)∧i≤n∧Keep [] w wr∧∀j b,j<i→L[j]?=some b→b.1<h) (fun x _=>n+1-(intOf x).toNat)
 case atStart=>exact⟨0,rfl,AA _,By _ _,fun j b K=>absurd K (by omega)⟩
 case round=>
 obtain⟨i,rfl,R,F,H⟩:=hrel;obtain⟨d,r⟩:=i_2 F H;clear F H;by_cases S:i<n
 ·have T:decide ((i:Int)<(n:Int))=true:=An (by omega)
  obtain⟨a,c⟩:∃a,L[i]?=some a:=⟨_,Ad (by rw[←s.out];exact S)⟩;obtain⟨m,c1⟩:=C.out i a c;have q:=d.out.cell1' (a:=⟨g,i*2,none⟩) m;have N:=d.out.cell1' (a:=⟨g,i*2+1,none⟩) c1
  have M:wr.rangeAt g (i*2) [.int .u64 (a.1:Int),.int .i64 (a.2:Int)]:=fun j v l=>by
   rcases j with _|_|j
   ·simp at l;rw[←l];exact q
   ·simp at l;rw[←l];exact N
   ·simp at l
  obtain⟨B,E⟩:=i_2 c M;have D:=h_ (d.out.alloc (.cells #[.int .u64 (a.1:Int),.int .i64 (a.2:Int)] 168));clear m c1 c M q N;by_cases y:h≤a.1
  ·have q1:decide ((a.1:Int)≥(h:Int))=true:=An (by omega)
   have U:(h:Int)≤(a.1:Int):=by omega
   have t:Hid (Eg L h=a.2):=h_ (Rg B.out y r.out);clear y
   go_wp2_with (refine Bc rfl 168 _ rfl g (i*2) rfl [.int .u64 (a.1:Int),.int .i64 (a.2:Int)] _ E.out Tryz.underlying168 rfl (by rfl) ?_)
   go_ret;exact⟨by rw[t.out];first|rfl|skip,D.out⟩
  ·have U:¬(h:Int)≤(a.1:Int):=by omega
   have P:Hid (a.1<h):=h_ (by omega);clear y
   go_wp2_with (refine Bc rfl 168 _ rfl g (i*2) rfl [.int .u64 (a.1:Int),.int .i64 (a.2:Int)] _ E.out Tryz.underlying168 rfl (by rfl) ?_)
   go_roundw
   case rel=>exact⟨i+1,by go_num,by omega,D.out,fun j b K k=>by
    by_cases Q:j=i
    ·subst Q
     have:=B.out;rw[k]at this;injection this with this;rw[this];exact P.out
    ·exact r.out j b (by omega) k⟩
   case measure=>simp only[intOf];omega
 ·have J:i=n:=by omega
  have T:decide ((i:Int)<(n:Int))=false:=Ak (by omega);obtain⟨a,c⟩:∃a,L[0]?=some a:=⟨_,Ad (by rw[←s.out];exact p.1)⟩;obtain⟨m,c1⟩:=C.out 0 a c;have q:=d.out.cell1' (a:=⟨g,0*2+1,none⟩) c1;have f:=d.out.cell1' (a:=⟨A,2,none⟩) O.out;rw[Nat.zero_mul,AP]at q;have t:Hid (Eg L h=a.2):=h_ (Rf c (fun j b k=>r.out j b (by rw[J,s.out];exact(Ai.1 k).1) k));have ab:=p.1;clear m c1 c J R;go_wp2;go_ret;exact⟨by rw[t.out];first|rfl|skip,d.out⟩
theorem wrap_tdiv (A c:Int)(a:0≤A)(b:A<18446744073709551616)(f:0<c):IntKind.u64.wrap (A.tdiv c)=A/c:=by rw[Int.tdiv_eq_ediv_of_nonneg a,Dy];have d:0≤A/c:=Int.ediv_nonneg a (by omega);have e:A/c≤A:=Int.ediv_le_self _ a;omega
theorem stir_eqT (x:Nat)(f:x<18446744073709551616):∀A B:Int,A=IntKind.u64.wrap (bits .xor .u64 (x:Int) ((x:Int)/1073741824)*13787848793156543929)→B=IntKind.u64.wrap (bits .xor .u64 A (IntKind.u64.wrap (A.tdiv 134217728))*10723151780598845931)→bits .xor .u64 B (IntKind.u64.wrap (B.tdiv 2147483648))=((Kv x:Nat):Int):=by
 intro A B d a
 have e:∀z:Int,0≤IntKind.u64.wrap z∧IntKind.u64.wrap z<18446744073709551616:=fun z=>by rw[Dy];exact⟨Int.emod_nonneg _ (by decide),Int.emod_lt_of_pos _ (by decide)⟩
 have b:0≤A∧A<18446744073709551616:=d▸e _;have c:0≤B∧B<18446744073709551616:=a▸e _;rw[wrap_tdiv A _ b.1 b.2 (by decide)]at a;rw[wrap_tdiv B _ c.1 c.2 (by decide)];exact Xb x f A B d a
theorem RefStir_any {w:World}(x:Nat)(b:x<18446744073709551616):Calls Tryz.prog 57 #[.int .u64 (x:Int)] w fun e c=>e=.returned (.int .u64 (Kv x:Int))∧c=w:=by have a:=h_ (stir_eqT x b _ _ rfl rfl);go_enter Tryz.func57,Tryz.ntmps57;go_wp2;go_ret;exact⟨by rw[a.out];rfl,rfl⟩
theorem RefPoint_any {w:World}(n i:Nat)(f:n≤1000)(d:i≤1000):Calls Tryz.prog 56 #[.int .i64 (n:Int),.int .i64 (i:Int)] w fun e c=>e=.returned (.int .u64 (MM n i:Int))∧c=w:=by have a:Hid ((n:Int)*1000003+(i:Int)=((n*1000003+i:Nat):Int)):=h_ (by omega);have b:=h_ (RefStir_any (w:=w) (n*1000003+i) (by omega));go_enter Tryz.func56,Tryz.ntmps56;go_wp2_with fail;rw[a.out];refine b.out.mono ?_;rintro e g ⟨rfl,rfl⟩;go_wp2;go_ret;exact⟨rfl,rfl⟩
theorem RefOf_one {w:World}(b:Nat)(n cap:Nat)(B:n=1)(k:ByteArray)(G:w.cell? ⟨b,0,none⟩=some (.string k))(H:k.size≤1000000):Calls Tryz.prog 44 #[.slice (some ⟨b,0,none⟩) n cap] w fun e p=>e=.returned (.int .u64 (IN (sb k):Int))∧p=w:=by
 subst B;have q:Hid (∀x:Nat,x<18446744073709551616→Calls Tryz.prog 57 #[.int .u64 (x:Int)] w fun e p=>e=.returned (.int .u64 (Kv x:Int))∧p=w):=h_ (fun x g=>RefStir_any x g);go_enter Tryz.func44,Tryz.ntmps44;go_wp2
 go_loopw [4,3,5] (fun t i u wr=>((t=.int .i64 0∧i=.int .u64 11400714819323198485)∨(t=.int .i64 1∧i=.int .u64 (IN (sb k):Int)))∧w=wr) (fun x _ _ _=>2-(intOf x).toNat)
 case atStart=>exact⟨.inl ⟨rfl,rfl⟩,rfl⟩
 case round=>
 obtain⟨h,rfl⟩:=hrel;rcases h with⟨rfl,rfl⟩|⟨rfl,rfl⟩
 ·go_wp2
  go_loopw [5,3] (fun u i wr=>∃j:Nat,u=.int .i64 (j:Int)∧j≤k.size∧i=.int .u64 (F7 11400714819323198485 ((sb k).take j):Int)∧w=wr) (fun x _ _=>k.size+1-(intOf x).toNat)
  case atStart=>exact⟨0,rfl,AA _,rfl,rfl⟩
  case round=>
  obtain⟨j,rfl,z,rfl,rfl⟩:=hrel;by_cases a:j<k.size
  ·have C:decide ((j:Int)<(k.size:Int))=true:=An (by omega)
   have o:((k[j]'a).toNat :Int)=(((sb k)[j]'(by rw[CO];exact a):Nat):Int):=by simp only[sb,List.getElem_map];rfl
   have h:(sb k)[j]'(by rw[CO];exact a)<256:=by simp only[sb,List.getElem_map];exact UInt8.toNat_lt _
   have f:(sb k).take (j+1)=(sb k).take j++[(sb k)[j]'(by rw[CO];exact a)]:=by rw[Bw (by rw[CO];exact a)]
   obtain⟨c,r⟩:∃c,c=(sb k)[j]'(by rw[CO];exact a):=⟨_,rfl⟩;rw[←r]at o h f;have d:=Lw ((sb k).take j) 11400714819323198485 (by decide);have E:=h_ f
   have g:bits .xor .u64 ((F7 11400714819323198485 ((sb k).take j):Nat):Int) (IntKind.u64.wrap ((k[j]'a).toNat :Int))=((F7 11400714819323198485 ((sb k).take j)^^^c:Nat):Int):=by rw[o,show IntKind.u64.wrap (c:Int)=(c:Int) by rw[Dy];omega];exact UU _ c d h
   have l:=h_ g;have m:Hid (F7 11400714819323198485 ((sb k).take j)^^^c<18446744073709551616):=h_ (Jj d (by omega))
   have y:Hid (IntKind.u64.wrap ((Kv (F7 11400714819323198485 ((sb k).take j)^^^c):Int)+1)=(F7 11400714819323198485 ((sb k).take (j+1)):Int)):=h_ (by rw[f,Lv,Dy];rfl)
   have F:j≤1000000:=by omega
   clear o h f r d g;go_wp2_with fail;rw[l.out];refine(q.out _ m.out).mono ?_;rintro e D ⟨rfl,rfl⟩;go_wp2
   go_roundw
   case rel=>exact⟨j+1,by go_num,by omega,by rw[y.out],by first|rfl|trivial⟩
   case measure=>simp only[intOf];omega
  ·have A:j=k.size:=by omega
   have C:¬((j:Int)<(k.size:Int)):=by omega
   have f:(sb k).take j=sb k:=Ba (by rw[CO];omega);rw[f];have d:=Lw (sb k) 11400714819323198485 (by decide);have s:(sb k).length =k.size:=CO k
   have g:bits .xor .u64 ((F7 11400714819323198485 (sb k):Nat):Int) (256+(k.size:Int))=((F7 11400714819323198485 (sb k)^^^(256+(sb k).length):Nat):Int):=by rw[s,show(256+(k.size:Int))=((256+k.size:Nat):Int) by omega];exact bits_xor_u64_nat _ _ d (by omega)
   have l:=h_ g;have m:Hid (F7 11400714819323198485 (sb k)^^^(256+(sb k).length)<18446744073709551616):=h_ (Jj d (by omega));have v:Hid (IN (sb k)=Kv (F7 11400714819323198485 (sb k)^^^(256+(sb k).length))):=h_ rfl;clear A f d s g a z;go_wp2_with fail;rw[l.out];refine(q.out _ m.out).mono ?_;rintro e D ⟨rfl,rfl⟩;rw[←v.out];go_wp2
   go_roundw
   case rel=>exact⟨.inr ⟨rfl,rfl⟩,by first|rfl|trivial⟩
   case measure=>simp only[intOf];omega
 ·go_wp2
  go_ret;exact⟨rfl,rfl⟩
def JD (x:Int)(k:Nat):Nat:=(x.tmod (k:Int)).natAbs
theorem Tx (x:Int)(k:Nat)(c:0<k):JD x k<k:=by unfold JD;have a:=Int.tmod_lt_of_pos x (show(0:Int)<(k:Int) by omega);have b:=Int.lt_tmod_of_pos x (show(0:Int)<(k:Int) by omega);omega
theorem Nq {w:World}(x:Int)(k:Nat)(h:0<k∧k≤1000)(m: -9223372036854775808≤x∧x≤9223372036854775807):Calls Tryz.prog 7 #[.int .i64 x,.int .i64 (k:Int)] w fun e g=>e=.returned (.int .i64 (JD x k:Int))∧g=w:=by
 have d:=Int.tmod_lt_of_pos x (show(0:Int)<(k:Int) by omega);have f:=Int.lt_tmod_of_pos x (show(0:Int)<(k:Int) by omega);have i:¬(k:Int)=0:=by omega
 have j:¬(k:Int)= -1:=by omega
 obtain⟨r,a⟩:∃r,r=x.tmod (k:Int):=⟨_,rfl⟩;have b:Hid ((JD x k:Int)=if r<0 then-r else r):=h_ (by unfold JD;rw[←a];split<;>omega);rw[←a]at d f;have l:=a.symm;clear a;go_enter Tryz.func7,Tryz.ntmps7;by_cases c:r<0
 ·go_wp2
  go_ret;exact⟨by rw[b.out,Ay c];rfl,rfl⟩
 ·go_wp2
  go_ret;exact⟨by rw[b.out,Aw (by omega)];rfl,rfl⟩
end Go.Proofs.YtnhbioehiiifdaaGreat
