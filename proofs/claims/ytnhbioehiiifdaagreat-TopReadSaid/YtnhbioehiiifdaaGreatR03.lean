import Derived.Test.YtnhbioehiiifdaaGreatR01
set_option maxRecDepth 100000
set_option maxHeartbeats 16000000
set_option linter.all false
namespace Go.Proofs.YtnhbioehiiifdaaGreat
theorem Ky (a b:Nat)(e:a<256)(f:b<256):bits .and .u8 (a:Int) (b:Int)=((a&&&b:Nat):Int):=by
 have g:a&&&b<2^8:=Nat.and_lt_two_pow _ (by omega)
 have c:(BitVec.ofInt 8 (a:Int)).toNat =a:=by rw[BitVec.ofInt_natCast,Ck];exact AR (by omega)
 have d:(BitVec.ofInt 8 (b:Int)).toNat =b:=by rw[BitVec.ofInt_natCast,Ck];exact AR (by omega)
 show IntKind.u8.wrap ((BitVec.ofInt 8 (a:Int)&&&BitVec.ofInt 8 (b:Int)).toNat :Int)=_;rw[BitVec.toNat_and,c,d,IntKind.wrap_u8];omega
theorem LU (a b:Nat)(e:a<256)(f:b<256):bits .or .u8 (a:Int) (b:Int)=((a|||b:Nat):Int):=by
 have g:a|||b<2^8:=Nat.or_lt_two_pow (by omega) (by omega)
 have c:(BitVec.ofInt 8 (a:Int)).toNat =a:=by rw[BitVec.ofInt_natCast,Ck];exact AR (by omega)
 have d:(BitVec.ofInt 8 (b:Int)).toNat =b:=by rw[BitVec.ofInt_natCast,Ck];exact AR (by omega)
 show IntKind.u8.wrap ((BitVec.ofInt 8 (a:Int)|||BitVec.ofInt 8 (b:Int)).toNat :Int)=_;rw[BitVec.toNat_or,c,d,IntKind.wrap_u8];omega
theorem or128:∀x,x<256→x|||128=x % 128+128:=by decide+kernel
theorem and127 (x:Nat):x&&&127=x % 128:=Nat.and_two_pow_sub_one_eq_mod x 7
theorem or8 (u:Nat):bits .or .u8 (IntKind.u8.wrap (u:Int)) 128=((u % 128+128:Nat):Int):=by
 have e:IntKind.u8.wrap (u:Int)=((u % 256:Nat):Int):=by rw[IntKind.wrap_u8];omega
 rw[e,show(128:Int)=((128:Nat):Int)from rfl,LU _ _ (by omega) (by omega),or128 _ (by omega)];omega
theorem or8m (u:Nat):bits .or .u8 ((u:Int) % 256) 128=((u % 128+128:Nat):Int):=by rw[←or8,IntKind.wrap_u8]
theorem and8 (c:Nat)(h:c<256):bits .and .u8 (c:Int) 127=((c % 128:Nat):Int):=by rw[show(127:Int)=((127:Nat):Int)from rfl,Ky _ _ h (by omega),and127]
theorem Oy (x:Nat)(h:x<18446744073709551616):18446744073709551615^^^x=18446744073709551615-x:=by
 have a:=BitVec.toNat_not (x:=BitVec.ofNat 64 x);have b:(~~~(BitVec.ofNat 64 x))=BitVec.allOnes 64^^^BitVec.ofNat 64 x:=by rw[BitVec.allOnes_xor]
 rw[b,BitVec.toNat_xor,BitVec.toNat_allOnes,Ck,AR h]at a;simpa using a
theorem Pe (u x s:Nat)(h:u<2^s):u|||x*2^s=u+x*2^s:=by rw[Nat.or_comm,Nat.mul_comm,←Nat.two_pow_add_eq_or_of_lt h x];omega
theorem Xo (x:Nat)(h:x<9223372036854775808):bits .xor .i64 (-1) (x:Int)= -(x:Int)-1:=by
 have a:BitVec.ofInt 64 (-1)=BitVec.allOnes 64:=by decide
 have b:(BitVec.ofInt 64 (x:Int)).toNat =x:=by rw[BitVec.ofInt_natCast,Ck];exact AR (by omega)
 show IntKind.i64.wrap ((BitVec.ofInt 64 (-1)^^^BitVec.ofInt 64 (x:Int)).toNat :Int)=_;rw[a,BitVec.toNat_xor,b,BitVec.toNat_allOnes];have c:=Oy x (by omega);have e:(2^64-1:Nat)=18446744073709551615:=rfl;rw[e,c,A9];omega
open Go.ChangeShapes Go.WideShapes Go.ChangeAt Go.RowKit
theorem Xl (n:Int)(a: -9223372036854775808≤n)(b:n<0):bits .xor .u64 IntKind.u64.max (IntKind.u64.wrap (IntKind.u64.wrap n*2))=(zz n:Int):=by
 have e:IntKind.u64.wrap (IntKind.u64.wrap n*2)=((18446744073709551615-zz n:Nat):Int):=by simp only[Dy];unfold zz;rw[Aw (by omega)];omega
 have c:=IJ n a (by omega);rw[e,show IntKind.u64.max=((18446744073709551615:Nat):Int)from rfl,bits_xor_u64_nat _ _ (by omega) (by omega),Oy _ (by omega)];omega
theorem Xk (n:Int)(a:0≤n):n*2=(zz n:Int):=by unfold zz;rw[Ay a];omega
theorem Pf {w:World}(base:Nat)(v:Value)(l:List Nat)(n:Int)(s:Buf w base 5 v l)(M: -9223372036854775808≤n)(P:n≤9223372036854775807)(hl:l.length≤1099511627776)(Y:base≤w.heap.size):
  Calls Tryz.prog 155 #[v,.int .i64 n] w fun e W=>∃f,e=.returned f∧Onto w base 5 v (l++Ga (zz n)) f W:=by
 obtain⟨a,cap,rfl⟩:=s.slice;obtain⟨B,x,y,z,A⟩:=AU In;have V:n<0∨0≤n:=by omega
 rcases V with J|J
 ·go_enter Tryz.func155,Tryz.ntmps155
  go_wp2_with fail;rw[Xl n M J];have L:=IJ n M P;generalize r:zz n=Z at*;have D:=h_ r;clear r
  go_loopw [0,5] (fun b u wr=>∃(d:List Nat) (U:Nat) (f:Value),b=f∧u=.int .u64 U∧U<18446744073709551616∧d++Ga U=l++Ga Z∧Onto w base 5 (.slice a l.length cap) d f wr) (fun _ u _=>(intOf u).toNat)
  case atStart=>exact⟨l,Z,_,rfl,rfl,L,rfl,YB s⟩
  case round=>
   obtain⟨d,U,f,rfl,rfl,R,q,c⟩:=hrel;have g:=h_ q;clear q s;by_cases T:127<U
   ·have N:(127:Int)<U:=by omega
    obtain⟨E,F,rfl⟩:=c.buf.slice;have I:d.length+(Ga U).length =l.length+(Ga Z).length :=by have:=A3 List.length g.out;simpa using this
    have G:=DO 10 Z (by omega) (by omega);have H:=c.keep.size;obtain⟨X,m⟩:∃X:Nat,X=U % 128+128:=⟨_,rfl⟩;have K:=or8m U;rw[←m]at K;have C:=h_ m;clear m;have o:=c.buf
    go_wp2_with (at_builtin;refine Bl _ rfl _ _ 81 81 rfl base 5 B (.int .u8 0) 1 1 Ao x y z A rfl (by decide) _ _ _ rfl (o.alloc _) _ 1 (Bb [X]) rfl (Jn Ao _ X _) (by unfold maxLen;omega) (by omega) (by simp;omega) ?_;intro p O h i _ j)
    go_roundw
    case rel=>refine⟨d++[X],U/128,p,rfl,by go_num,by omega, ?_,(c.alloc _).app h i j⟩;rw[←g.out,J3 U (by omega),C.out];simp
    case measure=>simp[intOf];omega
   ·have N:(U:Int)≤127:=by omega
    obtain⟨E,F,rfl⟩:=c.buf.slice;have I:d.length+(Ga U).length =l.length+(Ga Z).length :=by have:=A3 List.length g.out;simpa using this
    have G:=DO 10 Z (by omega) (by omega);have k:=R6 U;have S:0<(Ga U).length :=Cs.2 k;have H:=c.keep.size;have Q:=h_ k;clear k;have o:=c.buf
    go_wp2_with (at_builtin;refine Bl _ rfl _ _ 81 81 rfl base 5 B (.int .u8 0) 1 1 Ao x y z A rfl (by decide) _ _ _ rfl (o.alloc _) _ 1 (Bb [U]) rfl (Jn Ao _ U _) (by unfold maxLen;omega) (by omega) (by simp;omega) ?_;intro p O h i _ j)
    go_ret;refine⟨p,rfl, ?_⟩;have t:=(c.alloc (.cells #[.int .u8 (U:Int)] 5)).app h i j;rw[←GO U (by omega),g.out,←D.out]at t;exact t
 ·go_enter Tryz.func155,Tryz.ntmps155
  go_wp2_with fail;rw[Xk n J];have L:=IJ n M P;generalize r:zz n=Z at*;have D:=h_ r;clear r
  go_loopw [0,5] (fun b u wr=>∃(d:List Nat) (U:Nat) (f:Value),b=f∧u=.int .u64 U∧U<18446744073709551616∧d++Ga U=l++Ga Z∧Onto w base 5 (.slice a l.length cap) d f wr) (fun _ u _=>(intOf u).toNat)
  case atStart=>exact⟨l,Z,_,rfl,rfl,L,rfl,YB s⟩
  case round=>
   obtain⟨d,U,f,rfl,rfl,R,q,c⟩:=hrel;have g:=h_ q;clear q s;by_cases T:127<U
   ·have N:(127:Int)<U:=by omega
    obtain⟨E,F,rfl⟩:=c.buf.slice;have I:d.length+(Ga U).length =l.length+(Ga Z).length :=by have:=A3 List.length g.out;simpa using this
    have G:=DO 10 Z (by omega) (by omega);have H:=c.keep.size;obtain⟨X,m⟩:∃X:Nat,X=U % 128+128:=⟨_,rfl⟩;have K:=or8m U;rw[←m]at K;have C:=h_ m;clear m;have o:=c.buf
    go_wp2_with (at_builtin;refine Bl _ rfl _ _ 81 81 rfl base 5 B (.int .u8 0) 1 1 Ao x y z A rfl (by decide) _ _ _ rfl (o.alloc _) _ 1 (Bb [X]) rfl (Jn Ao _ X _) (by unfold maxLen;omega) (by omega) (by simp;omega) ?_;intro p O h i _ j)
    go_roundw
    case rel=>refine⟨d++[X],U/128,p,rfl,by go_num,by omega, ?_,(c.alloc _).app h i j⟩;rw[←g.out,J3 U (by omega),C.out];simp
    case measure=>simp[intOf];omega
   ·have N:(U:Int)≤127:=by omega
    obtain⟨E,F,rfl⟩:=c.buf.slice;have I:d.length+(Ga U).length =l.length+(Ga Z).length :=by have:=A3 List.length g.out;simpa using this
    have G:=DO 10 Z (by omega) (by omega);have k:=R6 U;have S:0<(Ga U).length :=Cs.2 k;have H:=c.keep.size;have Q:=h_ k;clear k;have o:=c.buf
    go_wp2_with (at_builtin;refine Bl _ rfl _ _ 81 81 rfl base 5 B (.int .u8 0) 1 1 Ao x y z A rfl (by decide) _ _ _ rfl (o.alloc _) _ 1 (Bb [U]) rfl (Jn Ao _ U _) (by unfold maxLen;omega) (by omega) (by simp;omega) ?_;intro p O h i _ j)
    go_ret;refine⟨p,rfl, ?_⟩;have t:=(c.alloc (.cells #[.int .u8 (U:Int)] 5)).app h i j;rw[←GO U (by omega),g.out,←D.out]at t;exact t
def BL (l:List Int):List Nat:=(l.map fun n=>Ga (zz n)).flatten
theorem OW (l:List Int)(n:Int):BL (l++[n])=BL l++Ga (zz n):=by simp[BL]
theorem Ou {w:World}(base:Nat)(v:Value)(l:List Nat)(j:Value)(c:List Int)(q:Buf w base 5 v l)(s:Rv w 1 j c.length (ints c))(A:0<c.length→∀b,j.ownBlock=some b→v.ownBlock≠some b)
  (y:∀n∈c,II n) (P:l.length+10*c.length≤1099511627776) (K:base≤w.heap.size):
  Calls Tryz.prog 112 #[v,j] w fun e D=>∃f,e=.returned f∧Onto w base 5 v (l++BL c) f D:=by
 obtain⟨a,cap,rfl⟩:=q.slice;have t:=s;obtain⟨_,E,F,rfl,L,_⟩:=s;go_enter Tryz.func112,Tryz.ntmps112;go_wp2
 go_loopw [0,9] (fun b i wr=>∃(k:Nat) (f:Value),k≤c.length∧b=f∧i=.int .i64 k∧Onto w base 5 (.slice a l.length cap) (l++BL (c.take k)) f wr∧(l++BL (c.take k)).length ≤l.length+10*k) (fun _ i _=>c.length-(intOf i).toNat)
 case atStart=>exact⟨0,_,by omega,rfl,rfl,by simpa[BL]using YB q,by simp[BL]⟩
 case round=>
  obtain⟨k,f,M,rfl,rfl,d,J⟩:=hrel;by_cases g:k<c.length
  ·obtain⟨sb,B,G,r,_,z,p⟩:=t.at1 (by omega)
   simp only[Bn]at r;obtain⟨rfl,_,rfl⟩:=r
   have H:wr.cell? ⟨sb,B+k,none⟩=some (.int .i64 (c.getD k 0)):=by rw[d.keep.cell z (by have:=A (by omega) sb rfl;simp at this⊢;intro e;exact this e),p k g,Hm c k g]
   have m:=OW (c.take k) (c.getD k 0);rw[←EC _ _ _ g]at m;have o:=h_ m;have h:II (c.getD k 0):=y _ (by simp[Af,g]);clear m p t;generalize c.getD k 0=x at*;have N:(k:Int)<c.length:=by omega
   have O:=d.keep.size;have I:=DO 10 (zz x) (by have:=IJ x h.1 h.2;omega) (by omega);go_wp2_with fail;refine(Pf base _ _ x d.buf h.1 h.2 (by omega) (by omega)).mono ?_;rintro e Q ⟨C,rfl,u⟩;go_wp2
   go_roundw
   case rel=>exact⟨k+1,C,by omega,rfl,by go_num,by rw[o.out,←Ax];exact d.trans u,by rw[o.out,←Ax,Aj];omega⟩
   case measure=>simp[intOf];omega
  ·obtain rfl:k=c.length:=by omega
   rw[Bt]at d;go_wp2;go_ret;exact⟨_,rfl,d⟩
def Cf (t:ByteArray):List Nat:=Ga (zz (t.size:Int))++sb t
def B8 (l:List ByteArray):List Nat:=(l.map Cf).flatten
theorem Mq (l:List ByteArray)(t:ByteArray):B8 (l++[t])=B8 l++Cf t:=by simp[B8]
theorem Q7 {w:World}(base:Nat)(v:Value)(l:List Nat)(n:Value)(c:List ByteArray)(y:Buf w base 5 v l)(E:Rv w 1 n c.length (Tv c))(N:0<c.length→∀b,n.ownBlock=some b→v.ownBlock≠some b)
  (B:Nat) (j:∀t∈c,t.size≤B) (hl:l.length+(B+10)*c.length≤1099511627776) (ab:base≤w.heap.size):
  Calls Tryz.prog 219 #[v,n] w fun e T=>∃f,e=.returned f∧Onto w base 5 v (l++B8 c) f T:=by
 obtain⟨a,cap,rfl⟩:=y.slice;have F:=E;obtain⟨_,V,X,rfl,ad,_⟩:=E;obtain⟨R,K,O,P,Q⟩:=AU In
 have ai:c.length≤1099511627776:=by have:1*c.length≤(B+10)*c.length:=Ch _ (by omega);omega
 go_enter Tryz.func219,Tryz.ntmps219;go_wp2
 go_loopw [0,9] (fun b i wr=>∃(k:Nat) (f:Value),k≤c.length∧b=f∧i=.int .i64 k∧Onto w base 5 (.slice a l.length cap) (l++B8 (c.take k)) f wr∧(l++B8 (c.take k)).length ≤l.length+(B+10)*k) (fun _ i _=>c.length-(intOf i).toNat)
 case atStart=>exact⟨0,_,by omega,rfl,rfl,by simpa[B8]using YB y,by simp[B8]⟩
 case round=>
  obtain⟨k,f,hk,rfl,rfl,d,hL⟩:=hrel;by_cases g:k<c.length
  ·obtain⟨G,S,Y,A,_,M,u⟩:=F.at1 (by omega)
   simp only[Bn]at A;obtain⟨rfl,_,rfl⟩:=A
   have Z:wr.cell? ⟨G,S+k,none⟩=some (.string (c.getD k ByteArray.empty)):=by rw[d.keep.cell M (by have:=N (by omega) G rfl;simp at this⊢;intro e;exact this e),u k g,WZ c k g]
   have m:=Mq (c.take k) (c.getD k ByteArray.empty);rw[←EC _ _ _ g]at m;have q:=h_ m;have hx:(c.getD k ByteArray.empty).size ≤B:=j _ (by simp[Af,g]);have L:(B+10)*(k+1)≤(B+10)*c.length:=Nat.mul_le_mul_left _ g;have C:(B+10)*(k+1)=(B+10)*k+(B+10):=Nat.mul_succ _ _;have ac:(l++B8 (List.take k c)).length +(B+10)≤1099511627776:=by omega
   have H:=h_ C;clear m u F L C;generalize c.getD k ByteArray.empty=x at*;have ae:(k:Int)<c.length:=by omega
   have af:=d.keep.size;have aa:=DO 10 (zz (x.size:Int)) (by have:=IJ (x.size:Int) (by omega) (by omega);omega) (by omega);go_wp2_with fail;refine(Pf base _ _ _ d.buf (by omega) (by omega) (by omega) (by omega)).mono ?_;rintro e w1 ⟨v1,rfl,h⟩;have z:=h.buf;obtain⟨U,W,rfl⟩:=z.slice;have ah:(l++B8 (List.take k c)++Ga (zz ↑x.size)).length ≤(l++B8 (List.take k c)).length +10:=by rw[Aj];omega
   have ag:=h.keep.size;have D:x.size=(sb x).length :=(CO x).symm;have p:=h_ D;clear D;generalize s:(l++B8 (List.take k c)++Ga (zz ↑x.size))=L1 at*;have o:=h_ s;clear s
   go_wp2_with (at_builtin;refine Bl _ rfl _ _ 81 9 rfl base 5 R (.int .u8 0) 1 1 Ao K O P Q rfl (by decide) _ _ _ rfl z _ _ _ rfl (Src.ofString _ BG x) (by unfold maxLen;omega) (by omega) (by omega) ?_;intro v2 w2 r I _ J)
   go_roundw
   case rel=>rw[On,p.out]at r;have j:=(d.trans h).app r I J;exact⟨k+1,_,by omega,rfl,by go_num,by rw[q.out];unfold Cf;rw[←Ax,←Ax,o.out];exact j,by rw[q.out];unfold Cf;rw[←Ax,←Ax,o.out,Aj,H.out,←p.out];omega⟩
   case measure=>simp[intOf];omega
  ·obtain rfl:k=c.length:=by omega
   rw[Bt]at d;go_wp2;go_ret;exact⟨_,rfl,d⟩
theorem Hc (l:List Int)(h:∀n∈l,II n):(BL l).length ≤10*l.length:=by
 induction l with
 |nil=>simp[BL]
 |cons x l ih=>have a:=h x (by simp);have:=ih (fun n b=>h n (by simp[b]));have c:=DO 10 (zz x) (by have:=IJ x a.1 a.2;omega) (by omega);simp only[BL,Br,List.flatten_cons,Aj,List.length_cons]at*;omega
theorem Io (l:List Int):∀c∈BL l,c<256:=by intro c a;simp only[BL,DY,AI]at a;obtain⟨x,⟨n,_,rfl⟩,b⟩:=a;exact L5 _ c b
theorem SF (U c k:Nat)(e:U<128^k)(f:U+c % 128*128^k<18446744073709551616):
  bits .or .u64 (U:Int) (IntKind.u64.wrap ((c:Int) % 128*2^(7*k)))=((U+c % 128*128^k:Nat):Int):=by
 have a:(2:Nat)^(7*k)=128^k:=by rw[Nat.pow_mul]
 have b:((c:Int) % 128*2^(7*k))=((c % 128*128^k:Nat):Int):=by rw[←a];simp[Int.natCast_mul,Int.natCast_pow]
 have d:IntKind.u64.wrap ((c % 128*128^k:Nat):Int)=((c % 128*128^k:Nat):Int):=by rw[Dy];omega
 rw[b,d,bits_or_u64_nat _ _ (by omega) (by omega)]
 congr 1
 rw[←a];exact Pe U (c % 128) (7*k) (by rw[a];exact e)
theorem ML (k:Nat)(b:k≤8)(c:Nat):c % 128*128^k+128^k≤18446744073709551615:=by have d:(128:Nat)^k≤128^8:=EM (by decide) b;have a:(128:Nat)^8=72057594037927936:=rfl;rw[a]at d;have:c % 128*128^k≤127*128^k:=Ch _ (by omega);omega
theorem Vz (c:Nat)(a:c≤1):c % 128*128^9+128^9≤18446744073709551616:=by
 have h:c=0∨c=1:=by omega
 rcases h with rfl|rfl<;>decide+kernel
def WP (w:World)(r:Int×Nat×Nat)(e:Ending)(a:World):Prop:=e=.returned (.tuple #[.int .i64 r.1,.int .i64 (r.2.1:Int),.int .i64 (r.2.2:Int)])∧w=a
theorem VY {w:World}{r:Int×Nat×Nat}{a b k:Int}(h:a=b)(c:WP w r (.returned (.tuple #[.int .i64 b,.int .i64 k,.int .i64 0])) w):WP w r (.returned (.tuple #[.int .i64 a,.int .i64 k,.int .i64 0])) w:=by rw[h];exact c
theorem G6 {w:World}(v:Value)(l:List Nat)(h:Rd w v l)(E:∀c∈l,c<256)(hl:l.length≤9223372036854775807)(r:Int×Nat×Nat)(L:r=get l):
  Calls Tryz.prog 184 #[v] w (WP w r):=by
 have C:=h;obtain⟨_,a,cap,rfl,_,_⟩:=h;have n:=h_ L;clear L;go_enter Tryz.func184,Tryz.ntmps184;go_wp2_with fail
 go_loop [5,11] (fun u i=>∃(k U:Nat),k≤l.length∧k≤9∧i=.int .i64 k∧u=.int .u64 U∧U<128^k∧get l=D2 (l.drop k) k U) (fun _ i=>l.length-(intOf i).toNat)
 case atStart=>exact⟨0,0,by omega,by omega,rfl,rfl,by simp,by simp[get]⟩
 case round=>
  obtain⟨k,U,hk,ad,rfl,rfl,g,p⟩:=hrel;by_cases j:k<l.length
  ·obtain⟨af,so,ab,H,_,ae,D⟩:=C.at1 (by omega)
   simp only[Bn]at H;obtain⟨rfl,_,rfl⟩:=H;have B:=D k j;rw[EL l k j]at B;have S:l.getD k 0<256:=E _ (by simp[Af,j]);have F:l.drop k=l.getD k 0::l.drop (k+1):=by rw[Cj j];simp[Af,j]
   rw[F]at p;obtain⟨m,s⟩:=i_2 p g;clear p F D C E g;generalize l.getD k 0=c at*;unfold bc at B;have q0:(k:Int)<l.length:=by omega
   have ha:=and8 c S;have T:(k=9∧1<c)∨(¬(k=9∧1<c)∧127<c)∨(¬(k=9∧1<c)∧c≤127∧0<k∧c=0)∨(¬(k=9∧1<c)∧c≤127∧¬(0<k∧c=0)):=by omega
   rcases T with⟨rfl,e⟩|⟨d,e⟩|⟨d,e,f,t⟩|⟨d,e,f⟩
   ·have Z:(1:Int)<c:=by omega
    go_wp2
    go_ret3
    refine⟨?_,rfl⟩;rw[n.out,m.out];simp[D2,e]
   ·have Z:(127:Int)<c:=by omega
    have ac:k<9:=by omega
    have M:((k:Int)==9)=false:=by simp;omega
    go_wp2_with fail
    go_round
    case rel=>
     have x:=ML k (by omega) c;have g:=s.out;refine⟨k+1,U+c % 128*128^k,by omega,by omega,by go_num,by rw[SF U c k g (by omega)], ?_, ?_⟩
     ·rw[Nat.pow_succ]
      have:c % 128*128^k≤127*128^k:=Ch _ (by omega);omega
     ·rw[m.out]
      simp only[D2,d,D1,e,D5]
    case measure=>simp[intOf];omega
   ·have q5:((c:Int)==0)=true:=by simpa using t
    have q3:(0:Int)<k:=by omega
    have q6:¬((1:Int)<c):=by omega
    have N:=h_ t;clear t;by_cases o:k=9
    all_goals
     first
     |(have M:((k:Int)==9)=true:=by simp;omega)
     |(have M:((k:Int)==9)=false:=by simp;omega)
     have aa:=h_ o;clear o;go_wp2
     go_ret3
     refine⟨?_,rfl⟩;rw[n.out,m.out];simp only[D2,d,D1];rw[Aw (by omega),Ay ⟨f,N.out⟩];rfl
   ·obtain⟨b,q⟩:∃b:Nat,b=U+c*128^k:=⟨_,rfl⟩
    have J:b<18446744073709551616:=by
     have g:=s.out;by_cases o:k=9
     ·subst o
      have:=Vz c (by omega);rw[show c % 128=c by omega]at this;omega
     ·have:=ML k (by omega) c
      rw[show c % 128=c by omega]at this;omega
    have X:=SF U c k s.out (by rw[show c % 128=c by omega,←q];exact J);rw[show c % 128=c by omega,←q]at X;have P:=h_ q;clear q;have q6:¬((127:Int)<c):=by omega
    have I:WP w r (.returned (.tuple #[.int .i64 (O3 b),.int .i64 ((k:Int)+1),.int .i64 0])) w:=by refine⟨?_,rfl⟩;rw[n.out,m.out];simp only[D2,d,D1];rw[Aw (by omega),Aw f,←P.out];rfl
    have O:=h_ I;clear I
    have R:bits .and .u64 (b:Int) 1=((b % 2:Nat):Int):=by rw[show(1:Int)=((1:Nat):Int)from rfl,bits_and_u64_nat _ _ J (by omega),Nat.and_one_is_mod]
    have W:=Xo (b/2) (by omega);have G:((b/2:Nat):Int)=(b:Int)/2:=by omega
    rw[G]at W;have K:((b % 2:Nat):Int)=(b:Int) % 2:=by omega
    rw[K]at R;clear G K
    have Y:((b:Int) % 2==1)=true∨((b:Int) % 2==1)=false:=by cases ((b:Int) % 2==1)<;>simp
    have V:(((k:Int)==9)=true∧decide (0<k)=true∧((c:Int)==0)=false∧¬((1:Int)<c))∨(((k:Int)==9)=false∧decide (0<k)=true∧((c:Int)==0)=false)∨(((k:Int)==9)=false∧decide (0<k)=false):=by simp;omega
    obtain⟨H3,H9⟩:=i_2 f d;clear f d;rcases V with⟨z,A,Q,a4⟩|⟨z,A,Q⟩|⟨z,A⟩
    all_goals
     rcases Y with x|x
     all_goals
      go_wp2
      go_ret3
      have hF:=O.out;unfold O3 at hF;simp only[beq_iff_eq,beq_eq_false_iff_ne]at x
      first
      |(have y:b % 2=1:=by omega
        rw[Ay y]at hF;refine VY ?_ hF;omega)
      |(have y:¬b % 2=1:=by omega
        rw[Aw y]at hF;refine VY ?_ hF;omega)
  ·go_wp2
   go_ret3
   obtain rfl:k=l.length:=by omega
   refine⟨?_,rfl⟩;rw[n.out,p,List.drop_length];simp[D2]
def BR (l:List Nat):List Nat×Nat×Nat:=
 if(get l).2.2 ≠0 then([],0,(get l).2.2)else if(get l).1 <0∨65536<(get l).1 then([],0,1)
 else if((l.length-(get l).2.1 :Nat):Int)<(get l).1 then([],0,2)else((l.drop (get l).2.1).take (get l).1.toNat,(get l).2.1 +(get l).1.toNat,0)
def GotT (w:World)(r:List Nat×Nat×Nat)(e:Ending)(a:World):Prop:=e=.returned (.tuple #[.string (toStr r.1),.int .i64 (r.2.1:Int),.int .i64 (r.2.2:Int)])∧w=a
theorem Ks {w:World}(v:Value)(l:List Nat)(h:Rd w v l)(b:∀c∈l,c<256)(T:l.length≤4611686018427387904)(r:List Nat×Nat×Nat)(o:r=BR l):
  Calls Tryz.prog 298 #[v] w (GotT w r):=by
 have s:=h;obtain⟨_,a,cap,rfl,M,t⟩:=h;have p:=Fq l 0 0 (by omega) (by simp) b;unfold BR at o;have x:get l=D2 l 0 0:=rfl;rw[←x]at p;have d:=h_ s;clear s;generalize y:get l=g at*;obtain⟨n,k,e⟩:=g;simp only at p o;obtain⟨j,f⟩:=i_2 o y;clear o x y;rcases p with⟨rfl,Q,S,R,U,V⟩|⟨G,O,rfl,rfl⟩
 ·have E:n<0∨65536<n∨(0≤n∧n≤65536∧((l.length-k:Nat):Int)<n)∨(0≤n∧n≤65536∧n≤((l.length-k:Nat):Int)):=by omega
  rcases E with i|i|⟨i,z,u⟩|⟨i,z,u⟩
  ·go_enter Tryz.func298,GC
   go_wp2_with fail;refine(G6 _ l d.out b (by omega) _ f.out.symm).mono ?_;rintro e m ⟨rfl,rfl⟩;go_wp2
   go_ret3
   refine⟨?_,rfl⟩;rw[j.out,Aw (by simp),Ay (.inl i)];rfl
  ·go_enter Tryz.func298,GC
   go_wp2_with fail;refine(G6 _ l d.out b (by omega) _ f.out.symm).mono ?_;rintro e m ⟨rfl,rfl⟩;go_wp2
   go_ret3
   refine⟨?_,rfl⟩;rw[j.out,Aw (by simp),Ay (.inr i)];rfl
  ·have A:(l.length:Int)-k<n:=by omega
   go_enter Tryz.func298,GC;go_wp2_with fail;refine(G6 _ l d.out b (by omega) _ f.out.symm).mono ?_;rintro e m ⟨rfl,rfl⟩;go_wp2
   go_ret3
   refine⟨?_,rfl⟩;rw[j.out,Aw (by simp),Aw (by omega),Ay u];rfl
  ·obtain⟨N,rfl⟩:=Int.eq_ofNat_of_zero_le i
   have A:(N:Int)≤(l.length:Int)-k:=by omega
   obtain⟨sb,L,rfl,W,C⟩:=t (by simp;omega)
   have J:r=((l.drop k).take N,k+N,0):=by rw[j.out,Aw (by simp),Aw (by omega),Aw (by omega)];simp
   have q:=h_ J;clear C t;by_cases H:k=cap
   ·have B:N=0:=by omega
    subst B
    have F:∀(a:Option Addr) (c:Nat),Sem.run Tryz.prog (convert 81 9 (.slice a 0 c)) w=.ok (.string (toStr [])) w:=fun a c=>Rd.str (P:=Tryz.prog) (Rv.empty w 1 a c) (by simp) Ao EQ BG
    go_enter Tryz.func298,GC;go_wp2_with fail;refine(G6 _ l d.out b (by omega) _ f.out.symm).mono ?_;rintro e m ⟨rfl,rfl⟩;go_wp2
    go_ret3
    refine⟨?_,rfl⟩;rw[q.out];simp[H]
   ·have K:Rd w (.slice (some ⟨sb,L+k,none⟩) N (cap-k)) ((l.drop k).take N):=by
     have:=d.out.sub k N (cap-k) (by omega) (by omega);rw[D4]at this;have I:((l.drop k).take N).length =N:=by simp;omega
     unfold Rd;rw[I];exact this
    have F:=K.str (P:=Tryz.prog) (src:=81) (dst:=9) (fun c D=>b c (AB (AH D))) Ao EQ BG;go_enter Tryz.func298,GC;go_wp2_with fail;refine(G6 _ l d.out b (by omega) _ f.out.symm).mono ?_;rintro e m ⟨rfl,rfl⟩;go_wp2
    go_ret3
    refine⟨?_,rfl⟩;rw[q.out];simp
 ·have X:((e:Int) !=0)=true:=by simp;omega
  go_enter Tryz.func298,GC;go_wp2_with fail;refine(G6 _ l d.out b (by omega) _ f.out.symm).mono ?_;rintro e m ⟨rfl,rfl⟩;go_wp2
  go_ret3
  refine⟨?_,rfl⟩;rw[j.out,Ay G];rfl
def DA (s:ByteArray)(n:Nat):ByteArray:=if n<s.size then s.extract 0 n else s
theorem DP {w:World}(s:ByteArray)(n:Nat)(d:s.size≤9223372036854775807)(c:n≤1000000):
  Calls Tryz.prog 50 #[.string s,.int .i64 n] w fun e b=>e=.returned (.string (DA s n))∧w=b:=by
 by_cases h:n<s.size
 ·have a:(n:Int)<s.size:=by omega
  go_enter Tryz.func50,Tryz.ntmps50;go_wp2;go_ret;exact⟨by unfold DA;rw[Ay h];rfl,rfl⟩
 ·have a:¬(n:Int)<s.size:=by omega
  go_enter Tryz.func50,Tryz.ntmps50;go_wp2;go_ret;exact⟨by unfold DA;rw[Aw h];rfl,rfl⟩
theorem KY (t:ByteArray):toStr (sb t)=t:=by
 unfold toStr sb
 have e:(t.data.toList.map UInt8.toNat).map UInt8.ofNat=t.data.toList:=by
  rw[EW]
  conv=>rhs;rw[←List.map_id t.data.toList]
  apply List.map_congr_left;intro c _;simp
 rw[e]
theorem Hw (t:ByteArray)(c:t.size≤65536)(r:List Nat):BR (Cf t++r)=(sb t,(Cf t).length,0):=by
 have b:(Cf t).length =(Ga (zz (t.size:Int))).length +t.size:=by unfold Cf;rw[Aj,CO]
 unfold BR
 have a:get (Cf t++r)=((t.size:Int),(Ga (zz (t.size:Int))).length,0):=by unfold Cf;rw[Ax];exact NU _ (by omega) (by omega) _
 rw[a];simp only[ne_eq,E5,D1];rw[Aw (by omega),Aw (by rw[Aj];omega)]
 have e:(Cf t++r).drop (Ga (zz (t.size:Int))).length =sb t++r:=by unfold Cf;rw[Ax,Ec,C8,Bj,Bz (Av _),List.nil_append]
 rw[e,Int.toNat_natCast,b]
 congr 1
 rw[BE (by rw[CO];omega),Ba (by rw[CO];omega)]
abbrev L7 (k v:ByteArray)(n:Int)(g:Bool):Value:= .agg #[.string k,.string v,.int .i64 n,.bool g]
def E8 (k v:ByteArray)(n:Int)(g:Bool):List Value:=[.string k,.string v,.int .i64 n,.bool g]
def itKey (k:ByteArray):Bool:=decide (1≤k.size)&&decide (k.size≤40)
def itMay (k v:ByteArray)(n:Int)(g:Bool):Bool:=
 itKey k&&(decide (v.size≤200)&&(decide (0≤n)&&(decide (n≤1099511627776)&&(!g||(decide (v.size=0)&&decide (n=0))))))
def L8 (k v:ByteArray)(n:Int)(g:Bool)(now:Int):Bool:=itMay k v n g&&(!g&&(decide (n=0)||decide (now<n)))
theorem Jl (s:ByteArray):(s={data:=#[]})↔s.size=0:=by
 constructor
 ·rintro rfl;rfl
 ·intro h
  apply ByteArray.ext;exact Array.eq_empty_of_size_eq_zero h
theorem I5 {s:ByteArray}:s.toList=[]↔s.size=0:=by rw[toList_nil_iff_emptyBytes,←Jl];rfl
theorem UW {s t:ByteArray}(h:s.toList=t.toList):s=t:=by rw[DQ,DQ]at h;apply ByteArray.ext;exact Array.toList_inj.1 h
theorem KU {w:World}(s:ByteArray)(j:s.size≤9223372036854775807)(r:Bool)(c:r=itKey s):Calls Tryz.prog 177 #[.string s] w fun e g=>e=.returned (.bool r)∧w=g:=by
 have a:=h_ c;clear c;by_cases b:s.size=0
 ·obtain rfl:=(Jl s).2 b
  go_enter Tryz.func177,Tryz.ntmps177;go_wp2;go_ret;exact⟨by rw[a.out];rfl,rfl⟩
 ·have i:s.toList.isEmpty=false:=by
   cases h:s.toList with
   |nil=>exact absurd (I5.1 h) b
   |cons _ _=>rfl
  have f:decide (1≤s.size)=true:=An (by omega);go_enter Tryz.func177,Tryz.ntmps177;go_wp2;go_ret;refine⟨?_,rfl⟩;have d:decide ((s.size:Int)≤40)=decide (s.size≤40):=by apply decide_eq_decide.2;omega
  rw[a.out];unfold itKey;rw[f,Dx,←d];rfl
theorem FT {w:World}(k v:ByteArray)(n:Int)(g:Bool)(m:k.size≤9223372036854775807)(t:v.size≤9223372036854775807)(r:Bool)(h:r=itMay k v n g):
  Calls Tryz.prog 163 #[L7 k v n g] w fun e s=>e=.returned (.bool r)∧Keep [] w s:=by
 have b:=h_ h;clear h;go_enter Tryz.func163,Tryz.ntmps163;go_wp2_with fail;refine(KU k m _ rfl).mono ?_;rintro e y ⟨rfl,rfl⟩
 cases f:itKey k
 ·go_wp2
  go_ret;exact⟨by rw[b.out];unfold itMay;rw[f];rfl,(By _ _).alloc _⟩
 by_cases i:v.size≤200
 case neg=>have o:decide ((200:Int)<v.size)=true:=An (by omega);go_wp2;go_ret;exact⟨by rw[b.out];unfold itMay;rw[Ak (show¬v.size≤200 by omega)];simp,(By _ _).alloc _⟩
 have o:decide ((200:Int)<v.size)=false:=Ak (by omega);by_cases j:0≤n
 case neg=>have p:decide (n<0)=true:=An (by omega);go_wp2;go_ret;exact⟨by rw[b.out];unfold itMay;rw[Ak (show¬0≤n by omega)];simp,(By _ _).alloc _⟩
 have p:decide (n<0)=false:=Ak (by omega);by_cases l:n≤1099511627776
 case neg=>have q:decide (1099511627776<n)=true:=An (by omega);go_wp2;go_ret;exact⟨by rw[b.out];unfold itMay;rw[Ak (show¬n≤1099511627776 by omega)];simp,(By _ _).alloc _⟩
 have q:decide (1099511627776<n)=false:=Ak (by omega)
 have a:r=(!g||(decide (v.size=0)&&decide (n=0))):=by rw[b.out];unfold itMay;rw[f,An i,An j,An l];simp
 have a:=h_ a;cases g
 ·go_wp2
  go_ret;exact⟨by rw[a.out];rfl,(By _ _).alloc _⟩
 by_cases c:v.size=0
 case neg=>
  have u:¬v.toList=[]:=fun e=>c (I5.1 e)
  go_wp2;go_ret;exact⟨by rw[a.out];simp[c],(By _ _).alloc _⟩
 obtain rfl:=(Jl v).2 c;by_cases d:n=0
 ·subst d
  go_wp2;go_ret;exact⟨by rw[a.out];rfl,(By _ _).alloc _⟩
 ·have x:(n==0)=false:=by simpa using d
  go_wp2;go_ret;exact⟨by rw[a.out];simp[d],(By _ _).alloc _⟩
theorem WM {w:World}(k v:ByteArray)(n:Int)(g:Bool)(now:Int)(m:k.size≤9223372036854775807)(o:v.size≤9223372036854775807)(r:Bool)(j:r=L8 k v n g now):
  Calls Tryz.prog 259 #[L7 k v n g,.int .i64 now] w fun e p=>e=.returned (.bool r)∧Keep [] w p:=by
 have a:=h_ j;clear j;go_enter Tryz.func259,Tryz.ntmps259;go_wp2_with fail;refine(FT k v n g m o _ rfl).mono ?_;rintro e l ⟨rfl,i⟩;have f:Blk l w.heap.size (E8 k v n g) 171:=(BY w (E8 k v n g) 171).keep i (by simp);have c:Keep [] w l:=((By _ _).alloc _).trans i;have c2:=f.cell 2;have c3:=f.cell 3;simp only[E8,List.getElem?_cons_succ,List.getElem?_cons_zero]at c2 c3;clear i f
 cases h:itMay k v n g
 ·go_wp2
  go_ret;exact⟨by rw[a.out];unfold L8;rw[h];rfl,c⟩
 cases g
 case true=>go_wp2;go_ret;exact⟨by rw[a.out];unfold L8;rw[h];rfl,c⟩
 have b:r=(decide (n=0)||decide (now<n)):=by rw[a.out];unfold L8;rw[h];rfl
 have b:=h_ b;clear a;by_cases d:n=0
 ·subst d
  go_wp2;go_ret;exact⟨by rw[b.out];rfl,c⟩
 ·have q:(n==0)=false:=by simpa using d
  go_wp2;go_ret;exact⟨by rw[b.out,Ak d,CH];rfl,c⟩
theorem Tryz.sizeItem:(Tryz.prog.info? 171).map (·.size)=some 4:=by kernel_rfl
def If:=@Tryz.sizeItem
theorem EJ (k v:ByteArray)(n:Int)(g:Bool):∀u∈E8 k v n g,u.oneCell'=true:=by intro u a;simp[E8]at a;rcases a with rfl|rfl|rfl|rfl<;>rfl
theorem Tryz.infoItem:(Tryz.prog.info? 171).map (fun i=>(i.zero,i.size,i.bytes))=some (some (.agg #[.string ByteArray.empty,.string ByteArray.empty,.int .i64 0,.bool false]),4,48):=by kernel_rfl
abbrev It:=ByteArray×ByteArray×Int×Bool
def Yk (y:It):List Value:=E8 y.1 y.2.1 y.2.2.1 y.2.2.2
def ic (l:List It):List Value:=(l.map Yk).flatten
theorem ic_len (l:List It):(ic l).length =l.length*4:=Iv Yk 4 (fun _=>rfl) l
theorem X7 (l:List It)(y:It):ic (l++[y])=ic l++Yk y:=by simp[ic]
abbrev IRd (w:World)(v:Value)(l:List It):Prop:=Rv w 4 v l.length (ic l)
theorem VR {w:World}{v:Value}{l:List It}(h:IRd w v l)(i:Nat)(y:It)(e:l[i]?=some y):
  ∃sb b cap,v=.slice (some ⟨sb,b,none⟩) l.length cap∧l.length≤cap∧sb<w.heap.size∧w.cell? ⟨sb,b+i*4,none⟩=some (.string y.1)∧w.cell? ⟨sb,b+i*4+1,none⟩=some (.string y.2.1)∧
   w.cell? ⟨sb,b+i*4+2,none⟩=some (.int .i64 y.2.2.1)∧w.cell? ⟨sb,b+i*4+3,none⟩=some (.bool y.2.2.2):=by
 have p:i<l.length:=(Ai.1 e).1;have d:=ic_len l;obtain⟨o,a,cap,rfl,g,k⟩:=h;obtain⟨sb,b,rfl,n,f⟩:=k (by rw[d];omega)
 have c:∀j,j<4→w.cell? ⟨sb,b+(i*4+j),none⟩=(Yk y)[j]?:=by intro j m;rw[f _ (by rw[d];omega)];unfold ic;rw[Gc Yk 4 (fun _=>rfl) l i j m,e];rfl
 exact⟨sb,b,cap,rfl,g,n,c 0 (by omega),by rw[Cv];exact c 1 (by omega),by rw[Cv];exact c 2 (by omega),by rw[Cv];exact c 3 (by omega)⟩
def JW (w:World)(base:Nat)(v:Value)(l:List It):Prop:=w.ownsRow base 171 4 v l.length (ic l)
theorem JW.nil (w:World)(base:Nat):JW w base (.slice none 0 0) []:=AY w base _ 4
theorem JW.rd {w:World}{base:Nat}{v:Value}{l:List It}(h:JW w base v l):IRd w v l:=Fa h
theorem JW.lt {w:World}{base:Nat}{v:Value}{l:List It}(h:JW w base v l):∀k,v.ownBlock=some k→base≤k∧k<w.heap.size:=B3 h
theorem JW.slice {w:World}{base:Nat}{v:Value}{l:List It}(h:JW w base v l):∃a cap,v=.slice a l.length cap:=by
 rcases h.2 with⟨rfl,b⟩|⟨g,cap,c,rfl,_⟩
 ·exact⟨none,0,by rw[b]⟩
 ·exact⟨_,_,rfl⟩
theorem JW.ty {w:World}{base:Nat}{v:Value}{l:List It}(h:JW w base v l):∀k,v.ownBlock=some k→Ty w k 171:=by
 intro k a;rcases h.2 with⟨rfl,_⟩|⟨g,cap,c,rfl,_,b,_⟩
 ·cases a
 ·cases a;exact⟨_,_,b⟩
theorem JW.keep {w a:World}{base:Nat}{v:Value}{l:List It}{S:List Nat}(h:JW w base v l)(k:Keep S w a)(d:∀b,v.ownBlock=some b→b∉S):JW a base v l:=by
 refine⟨h.1, ?_⟩;have i:=h.lt;rcases h.2 with⟨rfl,j⟩|⟨g,cap,c,rfl,e,f,r⟩
 ·exact .inl ⟨rfl,j⟩
 ·exact .inr ⟨g,cap,c,rfl,e,by rw[k.block g (i g rfl).2 (d g rfl)];exact f,r⟩
theorem JW.alloc {w:World}{base:Nat}{v:Value}{l:List It}(h:JW w base v l)(o:Obj):JW (w.alloc o) base v l:=World.ownsRow.alloc h o
theorem JW.snoc {b:World}{base:Nat}{a:Value}{l:List It}{y:It}(h:b.ownsRow base 171 4 a (l.length+1) (ic l++Yk y)):JW b base a (l++[y]):=by unfold JW;rw[X7,Aj];exact h
theorem src_it {P:Program}{t e:TypeId}(c:P.underlying t=some (.slice e))(w:World)(b:Nat)(k v:ByteArray)(n:Int)(g:Bool)(h:Blk w b (E8 k v n g) 171):
  Src P 4 t (.slice (some ⟨b,0,none⟩) 1 1) 1 (Yk (k,v,n,g)) w:=by
 refine CC _ c ⟨b,0,none⟩ 1 1 (Yk (k,v,n,g)) rfl ?_ (EJ _ _ _ _);intro j x d;rw[show(⟨b,0,none⟩:Addr).add j=⟨b,j,none⟩ by by_cases a:j=0<;>simp[Addr.add,a],h.cell];exact d
def gN (g:Bool):Int:=if g=true then 1 else 0
def Dc (y:It):List Nat:=B8 [y.1,y.2.1]++BL [y.2.2.1,gN y.2.2.2]
def CE (l:List It):List Nat:=(l.map Dc).flatten
theorem Ka (l:List It)(y:It):CE (l++[y])=CE l++Dc y:=by simp[CE]
def Dj (y:It):Bool:=itMay y.1 y.2.1 y.2.2.1 y.2.2.2
def BM (l:List It):List Nat:=if l.all Dj=true then CE l else[]
theorem Onto.drew0 {w:World}{base:Nat}{E:TypeId}{v a:Value}{l:List Nat}{b:World}(h:Onto w base E v l a b):Onto w base E v l a b.drew:=⟨h.buf,h.keep.drew,h.own⟩
theorem JR {y:It}(h:Dj y=true):1≤y.1.size∧y.1.size≤40∧y.2.1.size≤200∧0≤y.2.2.1∧y.2.2.1≤1099511627776:=by unfold Dj itMay itKey at h;simp only[Ar,A0]at h;exact⟨h.1.1,h.1.2,h.2.1,h.2.2.1,h.2.2.2.1⟩
theorem Hb (k v:ByteArray)(c:k.size≤200)(d:v.size≤200):(B8 [k,v]).length ≤k.size+v.size+20:=by have a:=DO 10 (zz (k.size:Int)) (by have:=IJ (k.size:Int) (by omega) (by omega);omega) (by omega);have b:=DO 10 (zz (v.size:Int)) (by have:=IJ (v.size:Int) (by omega) (by omega);omega) (by omega);simp only[B8,Br,Cy,List.flatten_cons,List.flatten_nil,Aj,Cf,CO,List.length_nil];omega
theorem FG (k v:ByteArray):0<(B8 [k,v]).length :=by have:=R6 (zz (k.size:Int));simp only[B8,Br,List.flatten_cons,Aj,Cf];have:0<(Ga (zz (k.size:Int))).length :=Cs.2 this;omega
theorem RE (g:Bool):II (gN g):=by cases g<;>(unfold gN II;simp)
theorem MH {y:It}(h:Dj y=true):(Dc y).length ≤300:=by obtain⟨e,f,d,g,i⟩:=JR h;have a:=Hb y.1 y.2.1 (by omega) d;have b:=Hc [y.2.2.1,gN y.2.2.2] (by intro n c;simp at c;rcases c with rfl|rfl;exact⟨by omega,by omega⟩;exact RE _);unfold Dc;rw[Aj];simp only[List.length_cons,List.length_nil]at b;omega
def LM (L:List Nat)(k v:ByteArray)(n a:Int)(l:Nat→Bool):List Nat:=if l 11=true then L++B8 [k,v]++BL [n,a]else if l 6=true then L++B8 [k,v]else L
def LJ (a:Value)(l:Nat→Bool)(x:Nat→Value):Value:=if l 11=true then x 11 else if l 6=true then x 6 else a
def encJ (e:World)(base:Nat)(a:Value)(L:List Nat)(t:Nat)(k v:ByteArray)(n b:Int)(l:Nat→Bool)(x:Nat→Value)(c:World):Prop:=
 ∃B5 d,Onto e base 5 a (LM L k v n b l) (LJ a l x) c∧(l 11=true→l 6=true)∧(l 6=true→l 0=true)∧(l 12=false→x 12=a)∧(l 0=true→x 0=a)∧(l 1=true→x 1=pr t 0)∧(l 2=true→x 2=.string k)∧(l 3=true→x 3=pr t 1)∧(l 4=true→x 4=.string v)∧
 (l 5=true→x 5=.slice (some ⟨B5,0,none⟩) 2 2∧Blk c B5 (Tv [k,v]) 9)∧(l 7=true→x 7=pr t 2)∧(l 8=true→x 8=.int .i64 n)∧(l 9=true→x 9=.int .i64 b)∧
 (l 10=true→x 10=.slice (some ⟨d,0,none⟩) 2 2∧Blk c d (ints [n,b]) 2)∧(l 12=true→x 12=x 11∧l 11=true)
theorem J4 {w:World}(a:Value)(l:List It)(h:IRd w a l)(hl:l.length≤1000000)(hs:∀y∈l,y.1.size≤9223372036854775807∧y.2.1.size≤9223372036854775807):
  Calls Tryz.prog 174 #[a] w fun e P=>∃v,e=.returned v∧(Buf P w.heap.size 5 v (BM l)∧(BM l=[]→v=.slice none 0 0))∧Keep [] w P:=by
 obtain⟨_,aa,cap,rfl,bf,_⟩:=id h;go_enter Tryz.func174,Tryz.ntmps174;go_wp2
 go_loopw [3,9] (fun b i wr=>∃j:Nat,j≤l.length∧i=.int .i64 j∧(l.take j).all Dj=true∧(CE (l.take j)).length ≤300*j∧(Buf wr w.heap.size 5 b (CE (l.take j))∧(CE (l.take j)=[]→b=.slice none 0 0))∧Keep [] w wr) (fun _ i _=>l.length-(intOf i).toNat)
 case atStart=>exact⟨0,by omega,rfl,rfl,by simp[CE],⟨Y4 _ _ _,fun _=>rfl⟩,By _ _⟩
 case round=>
  obtain⟨j,hj,rfl,au,bi,⟨hB,ay⟩,hK⟩:=hrel;have a4:=h_ ay;clear ay;obtain⟨Q,R,rfl⟩:=hB.slice;have am:=h_ au;clear au;by_cases bd:j<l.length
  ·have q2:(j:Int)<l.length:=by omega
   obtain⟨y,X⟩:∃y,l[j]?=some y:=⟨_,Ad bd⟩;have al:=hs y (Aq X);obtain⟨og,oo,br,U,_,bm,c0,c1,c2,c3⟩:=VR (h.keep hK (by simp)) j y X;simp only[Bn]at U;obtain⟨rfl,_,rfl⟩:=U;have a1:l.take (j+1)=l.take j++[y]:=by rw[BH,X];rfl
   have ag:=h_ a1;have a3:=h_ (Aq X);clear a1 X;have a0:= @MH y;have af:= @JR y;have az:Dc y=B8 [y.1,y.2.1]++BL [y.2.2.1,gN y.2.2.2]:=rfl;obtain⟨aq,a5,ao⟩:=i_3 az a0 af;clear az a0 af;have aj:Dj y=itMay y.1 y.2.1 y.2.2.1 y.2.2.2:=rfl;obtain⟨m,S⟩:∃m,m=Dj y:=⟨_,rfl⟩;rw[←S]at aj;obtain⟨ad,ap⟩:=i_2 S aj;clear S aj;generalize ar:CE (l.take j)=L at*;have an:=h_ ar;clear ar;obtain⟨k,v,n,g⟩:=y;simp only at c0 c1 c2 c3 al ap aq ao;go_wp2_with fail;refine(FT k v n g al.1 al.2 m ap.out).mono ?_;rintro e w2 ⟨rfl,k2⟩;have ac:=(BY wr (E8 k v n g) 171).keep k2 (by simp);have ah:=(hB.alloc (.cells (E8 k v n g).toArray 171)).keep k2 (by simp);have K2:=(hK.alloc (.cells (E8 k v n g).toArray 171)).trans k2;have bp:=K2.size;clear c0 c1 c2 c3 hB hK k2;generalize wr.heap.size=t at*;have a2:=ac.cell 3;simp only[E8,List.getElem?_cons_succ,List.getElem?_cons_zero]at a2;cases m
   case false=>
    go_wp2;go_ret
    have hE:BM l=[]:=by unfold BM;rw[Aw];intro hc;have:=Cr.1 hc _ a3.out;rw[←ad.out]at this;cases this
    exact⟨_,rfl,⟨by rw[hE];exact Y4 _ _ _,fun _=>rfl⟩,K2⟩
   have af:=ao.out ad.out.symm;obtain⟨bg,bh,bq,bk,bl⟩:=af;go_upto_if 17 with fail;go_cut [6] (fun s wc=>s=.int .i64 (gN g)∧w2=wc)
   case first=>
    cases g
    ·go_wp2_with fail
     go_meet;exact⟨rfl,rfl⟩
    ·go_wp2_with fail
     go_meet;exact⟨rfl,rfl⟩
   case rest=>
   obtain⟨rfl,rfl⟩:=hcut;clear a2;have bb:=RE g;have bc:∀t∈[k,v],t.size≤200:=by intro t ht;simp at ht;rcases ht with rfl|rfl<;>omega
   have ax:∀z∈[n,gN g],II z:=by intro z hz;simp at hz;rcases hz with rfl|rfl;exact⟨by omega,by omega⟩;exact bb
   have bn:=Hb k v (by omega) (by omega);have a6:=h_ (show 0<(B8 [k,v]).length from FG k v);generalize gN g=gi at*;have ae:t∉(Value.slice Q L.length R).ownBlock.toList :=by intro S;exact ac.ty.ne (ah.ty' _ (Ae.1 S)) (by decide) rfl
   go_wp2_with fail;refine wIo (encJ w2 w.heap.size (Value.slice Q L.length R) L t k v n gi) ?z1xs (.s ?z1x0<|.s ?z1x1<|.s ?z1x2<|.s ?z1x3<|.s ?z1x4<|.s ?z1x5<|.s ?z1x6<|.s ?z1x7<|.s ?z1x8<|.s ?z1x9<|.s ?z1x10<|.s ?z1x11<|.s ?z1x12<|.n) 13 ?z1xf
   case z1xs=>exact⟨0,0,(YB ah).drew0,fun h=>absurd h (by decide),fun h=>absurd h (by decide),fun _=>rfl,fun h=>absurd h (by decide),fun h=>absurd h (by decide),fun h=>absurd h (by decide),fun h=>absurd h (by decide),fun h=>absurd h (by decide),fun h=>absurd h (by decide),fun h=>absurd h (by decide),fun h=>absurd h (by decide),fun h=>absurd h (by decide),fun h=>absurd h (by decide),fun h=>absurd h (by decide)⟩
   case z1x0=>
    intro l x P E O d;obtain⟨B5,A,f,B,F,C,r,o,p,D,H,u,I,K,N,G,M⟩:=E;have be:l 12=false:=by cases h:l 12 with|false=>rfl|true=>have:=F (B (M h).2);rw[O]at this;cases this
    have e12:=C be;refine Oq.of (b:= ?b0) ?e0 ?_
    case e0=>simp only[Al,Act.put,A8,A7,A6,e12];rfl
    intro T J;go_simp;exact J.go _ rfl ⟨B5,A,f,B,fun _=>rfl,C,fun _=>rfl,o,p,D,H,u,I,K,N,G,M⟩
   case z1x2=>
    intro l x P E O d;obtain⟨B5,A,f,B,F,C,r,o,p,hr⟩:=E;have e1:=o (d.at rfl);have hT:=ac.keep f.keep ae;have c:=hT.cell 0;simp only[E8,List.getElem?_cons_succ,List.getElem?_cons_zero]at c;refine Oq.of (b:= ?b2) ?e2 ?_
    case e2=>simp only[Al,Act.put,A8,A7,A6,e1];rfl
    intro T J;go_simp;exact J.go _ rfl ⟨B5,A,f,B,F,C,r,o,fun _=>rfl,hr⟩
   case z1x4=>
    intro l x P E O d;obtain⟨B5,A,f,B,F,C,r,o,p,D,H,hr⟩:=E;have e3:=D (d.at rfl);have hT:=ac.keep f.keep ae;have c:=hT.cell 1;simp only[E8,List.getElem?_cons_succ,List.getElem?_cons_zero]at c;refine Oq.of (b:= ?b4) ?e4 ?_
    case e4=>simp only[Al,Act.put,A8,A7,A6,e3];rfl
    intro T J;go_simp;exact J.go _ rfl ⟨B5,A,f,B,F,C,r,o,p,D,fun _=>rfl,hr⟩
   case z1x5=>
    intro l x P E O d;obtain⟨B5,A,f,B,F,C,r,o,p,D,H,u,I,K,N,G,M⟩:=E;have e2:=p (d.at rfl);have e4:=H (d.at rfl);refine Oq.of (b:= ?b5) ?e5 ?_
    case e5=>simp only[Al,Act.put,A8,A7,A6,e2,e4];rfl
    intro T J;go_simp;exact J.go _ rfl ⟨P.heap.size,A,f.alloc _,B,F,C,r,o,p,D,H,fun _=>⟨rfl,BY _ (Tv [k,v]) _⟩,I,K,N,fun h=>⟨(G h).1,(G h).2.alloc _⟩,M⟩
   case z1x6=>
    intro l x P E O d;obtain⟨B5,A,f,B,F,C,r,o,p,D,H,u,I,K,N,G,M⟩:=E;have e0:=r (d.at rfl);have e5:=u (d.at rfl);have l0:l 0=true:=by first|exact d.1 rfl|exact d.2.1 rfl|exact d.2.2.1 rfl|exact d.2.2.2.1 rfl|exact d.2.2.2.2.1 rfl|exact d.2.2.2.2.2.1 rfl
    have ab:l 11=false:=by cases h:l 11 with|false=>rfl|true=>have:=B h;rw[O]at this;cases this
    have eV:LJ (Value.slice Q L.length R) l x=(Value.slice Q L.length R):=by unfold LJ;rw[ab,O];rfl
    have eL:LM L k v n gi l=L:=by unfold LM;rw[ab,O];rfl
    rw[eV,eL]at f;refine Oq.of (b:= ?b6) ?e6 ?_
    case e6=>simp only[Al,Act.put,A8,A7,A6,e0,e5.1];rfl
    intro T J;go_simp;have W:=f.buf;have aw:∀q,(Value.slice Q L.length R).ownBlock =some q→B5≠q:=fun q V=>e5.2.ty.ne (W.ty' q V) (by decide)
    have ak:Rv P 1 (.slice (some ⟨B5,0,none⟩) [k,v].length [k,v].length) [k,v].length (Tv [k,v]):=Ih e5.2 rfl;refine(Q7 w.heap.size (Value.slice Q L.length R) L _ [k,v] W ak (by intro _ q V e;cases V;exact aw _ e rfl) 200 bc (by simp only[List.length_cons,List.length_nil];omega) (by have:=f.keep.size;omega)).mono ?_;rintro e w4 ⟨Z,rfl,Y⟩;go_simp;have a8:LJ (Value.slice Q L.length R) (upd l 6 true) (upd x 6 Z)=Z:=by unfold LJ;rw[Bs _ _ _ _ (by decide),ab,Bh];rfl
    have a7:LM L k v n gi (upd l 6 true)=L++B8 [k,v]:=by unfold LM;rw[Bs _ _ _ _ (by decide),ab,Bh];rfl
    have ai:Onto w2 w.heap.size 5 (Value.slice Q L.length R) (LM L k v n gi (upd l 6 true)) (LJ (Value.slice Q L.length R) (upd l 6 true) (upd x 6 Z)) w4:=by rw[a8,a7];exact f.trans Y
    exact J.go Z rfl ⟨B5,A,ai,fun _=>rfl,fun _=>l0,C,r,o,p,D,H,fun h=>⟨(u h).1,(u h).2.keep Y.keep (by intro S;exact aw _ (Ae.1 S) rfl)⟩,I,K,N,fun h=>⟨(G h).1,(G h).2.keep Y.keep (by intro S;exact(G h).2.ty.ne (W.ty' _ (Ae.1 S)) (by decide) rfl)⟩,M⟩
   case z1x8=>
    intro l x P E O d;obtain⟨B5,A,f,B,F,C,r,o,p,D,H,u,I,K,hr⟩:=E;have e7:=I (d.at rfl);have hT:=ac.keep f.keep ae;have c:=hT.cell 2;simp only[E8,List.getElem?_cons_succ,List.getElem?_cons_zero]at c;refine Oq.of (b:= ?b8) ?e8 ?_
    case e8=>simp only[Al,Act.put,A8,A7,A6,e7];rfl
    intro T J;go_simp;exact J.go _ rfl ⟨B5,A,f,B,F,C,r,o,p,D,H,u,I,fun _=>rfl,hr⟩
   case z1x10=>
    intro l x P E O d;obtain⟨B5,A,f,B,F,C,r,o,p,D,H,u,I,K,N,G,M⟩:=E;have e8:=K (d.at rfl);have e9:=N (d.at rfl);refine Oq.of (b:= ?b10) ?e10 ?_
    case e10=>simp only[Al,Act.put,A8,A7,A6,e8,e9];rfl
    intro T J;go_simp;exact J.go _ rfl ⟨B5,P.heap.size,f.alloc _,B,F,C,r,o,p,D,H,fun h=>⟨(u h).1,(u h).2.alloc _⟩,I,K,N,fun _=>⟨rfl,BY _ (ints [n,gi]) _⟩,M⟩
   case z1x11=>
    intro l x P E O d;obtain⟨B5,A,f,B,F,C,r,o,p,D,H,u,I,K,N,G,M⟩:=E;have e10:=G (d.at rfl);have l6:l 6=true:=by first|exact d.1 rfl|exact d.2.1 rfl|exact d.2.2.1 rfl|exact d.2.2.2.1 rfl|exact d.2.2.2.2.1 rfl|exact d.2.2.2.2.2.1 rfl
    have eV:LJ (Value.slice Q L.length R) l x=x 6:=by unfold LJ;rw[O,l6];rfl
    have eL:LM L k v n gi l=L++B8 [k,v]:=by unfold LM;rw[O,l6];rfl
    rw[eV,eL]at f;have L6:=h_ l6;clear l6;refine Oq.of (b:= ?b11) ?e11 ?_
    case e11=>simp only[Al,Act.put,A8,A7,A6,e10.1];rfl
    intro T J;go_simp;have W:=f.buf;have av:∀q,(x 6).ownBlock =some q→A≠q:=fun q V=>e10.2.ty.ne (W.ty' q V) (by decide)
    have ak:Rv P 1 (.slice (some ⟨A,0,none⟩) [n,gi].length [n,gi].length) [n,gi].length (ints [n,gi]):=Ih e10.2 rfl;refine(Ou w.heap.size (x 6) (L++B8 [k,v]) _ [n,gi] W ak (by intro _ q V e;cases V;exact av _ e rfl) ax (by rw[Aj];simp only[List.length_cons,List.length_nil];omega) (by have:=f.keep.size;omega)).mono ?_;rintro e w4 ⟨Z,rfl,Y⟩;go_simp;have ai:Onto w2 w.heap.size 5 (Value.slice Q L.length R) (LM L k v n gi (upd l 11 true)) (LJ (Value.slice Q L.length R) (upd l 11 true) (upd x 11 Z)) w4:=f.trans Y;exact J.go Z rfl ⟨B5,A,ai,fun _=>L6.out,F,C,r,o,p,D,H,fun h=>⟨(u h).1,(u h).2.keep Y.keep (by intro S;exact(u h).2.ty.ne (W.ty' _ (Ae.1 S)) (by decide) rfl)⟩,I,K,N,fun h=>⟨(G h).1,(G h).2.keep Y.keep (by intro S;exact av _ (Ae.1 S) rfl)⟩,fun h=>absurd ((M h).2.symm.trans O) (by decide)⟩
   case z1x12=>
    intro l x P E O d;obtain⟨B5,A,f,B,F,C,r,o,p,D,H,u,I,K,N,G,M⟩:=E;have ab:l 11=true:=by first|exact d.1 rfl|exact d.2.1 rfl|exact d.2.2.1 rfl|exact d.2.2.2.1 rfl|exact d.2.2.2.2.1 rfl|exact d.2.2.2.2.2.1 rfl
    refine Oq.of (b:= ?b12) ?e12 ?_
    case e12=>simp only[Al,Act.put,A8,A7,A6];rfl
    intro T J;go_simp;exact J.go _ rfl ⟨B5,A,f,B,F,fun h=>Bool.noConfusion (show true=false from h),r,o,p,D,H,u,I,K,N,G,fun _=>⟨rfl,ab⟩⟩
   case z1xf=>
    intro l' x w3 E hl;obtain⟨B5,A,f,B,F,C,r,o,p,D,H,u,I,K,N,G,M⟩:=E;have e12:=(M (hl 12 (by decide))).1;have eV:LJ (Value.slice Q L.length R) l' x=x 11:=by unfold LJ;rw[hl 11 (by decide)];rfl
    have eL:LM L k v n gi l'=L++B8 [k,v]++BL [n,gi]:=by unfold LM;rw[hl 11 (by decide)];rfl
    rw[eV,eL]at f;simp only[Al,Act.put,A8,A7,A6,e12];have ba:=K2.then f.keep (by intro y X bj;have e:=Ae.1 X;have:=(ah.lt _ e).1;omega);have a9:=f.buf;have bo:=Hc [n,gi] ax;clear r o p D H u I K N G M hl f eV eL e12 B F C ae;generalize x 11=v2 at*;go_wp2
    go_roundw
    case rel=>
     refine⟨j+1,by omega,by go_num, ?_, ?_, ?_,ba⟩
     ·rw[ag.out,List.all_append,am.out]
      simp only[List.all_cons,List.all_nil,Bool.and_true,Dx];exact ad.out.symm
     ·rw[ag.out,Ka,an.out,Aj]
      have:=a5.out ad.out.symm;omega
     ·rw[ag.out,Ka,an.out,aq.out,←Ax]
      exact⟨a9,fun U=>absurd U (by intro U;have o:=A3 List.length U;simp only[Aj,List.length_nil]at o;have p:=a6.out;omega)⟩
    case measure=>simp[intOf];omega
   all_goals
    intro l x P E O d;obtain⟨B5,A,f,B,F,C,r,o,p,D,H,u,I,K,N,G,M⟩:=E
    try simp[BD,Region.binds]at d
    apply Oq.of
    ·simp only[Al,Act.put,A8,A7,A6,d,r,o,p,D,H,u,I,K,N,G,M];rfl
    clear d;intro T J;go_simp;exact J.go _ rfl ⟨B5,A,f,B,F,C,by first|exact r|exact fun _=>rfl,by first|exact o|exact fun _=>rfl,by first|exact p|exact fun _=>rfl,by first|exact D|exact fun _=>rfl,by first|exact H|exact fun _=>rfl,by first|exact u|exact fun _=>rfl,by first|exact I|exact fun _=>rfl,by first|exact K|exact fun _=>rfl,by first|exact N|exact fun _=>rfl,by first|exact G|exact fun _=>rfl,by first|exact M|exact fun _=>rfl⟩
  ·obtain rfl:j=l.length:=by omega
   have o:l.take l.length=l:=Ba (Av _);have HA:=am.out;rw[o]at HA;have hE:BM l=CE l:=by unfold BM;rw[Ay HA]
   obtain⟨HE,H1⟩:=i_2 hE o;clear hE o;go_wp2;go_ret;refine⟨_,rfl,⟨?_, ?_⟩,hK⟩
   ·rw[HE.out]
    have h:=hB;rw[H1.out]at h;show Buf _ _ _ (Value.slice Q (CE (l.take l.length)).length R) _;rw[H1.out];exact h
   ·intro U
    rw[HE.out]at U;exact a4.out (by rw[H1.out];exact U)
def Xd (w:World)(p:Option Addr)(v:Int):World:=match p with|some a=>w.setCell a (.int .i64 v)|none=>w
def DR (w:World):List (Option Addr)→List Int→World
 |p::ps,v::vs=>DR (Xd w p v) ps vs
 |_,_=>w
theorem OH (p:Option Addr)(v:Int):∀(ps:List (Option Addr)) (a:List Int) (w:World),ps.length=a.length→DR w (ps++[p]) (a++[v])=Xd (DR w ps a) p v:=by
 intro ps
 induction ps with
 |nil=>intro a w h;have:a=[]:=Bv (by simpa using h.symm);subst this;rfl
 |cons q ps ih=>
  intro a w h
  cases a with
  |nil=>simp at h
  |cons u a=>simp only[List.cons_append,DR];exact ih a _ (by simpa using h)
theorem OG:∀(ps:List (Option Addr)) (a:List Int) (w:World),DR w (ps.take a.length) a=DR w ps a:=by
 intro ps
 induction ps with
 |nil=>intro a w;simp
 |cons p ps ih=>
  intro a w
  cases a with
  |nil=>rfl
  |cons v a=>simp only[List.length_cons,List.take_succ_cons,DR];exact ih a _
def QZ (l:List (Option Addr)):List Value:=l.map Value.pointer
theorem Xm (l:List (Option Addr))(i:Nat)(h:i<l.length):(QZ l)[i]?=some (.pointer (l.getD i none)):=by simp[QZ,AN,Af,h]
def DK (l:List (Option Addr)):List Nat:=l.filterMap fun p=>p.map (·.block)
theorem Ig (S:List Nat):∀(ps:List (Option Addr)) (c:List Int) (w d:World),Keep S w d→(∀b∈DK ps,b∈S)→Keep S w (DR d ps c):=by
 intro ps
 induction ps with
 |nil=>intro c w d h _;cases c<;>exact h
 |cons p ps ih=>
  intro c w d h e
  cases c with
  |nil=>exact h
  |cons v c=>
   simp only[DR]
   cases p with
   |none=>exact ih c w _ h (by simpa[DK]using e)
   |some a=>exact ih c w _ (h.setCell (.inl (e _ (by simp[DK]))) _) (fun b f=>e b (by simp only[DK,List.filterMap_cons,Option.map_some]at f⊢;exact Ap _ f))
theorem N2 (a:Addr):∀(ps:List (Option Addr)) (c:List Int) (w:World),(∃v,w.cell? a=some v)∧w.frozen? a=false→(∃v,(DR w ps c).cell? a=some v)∧(DR w ps c).frozen? a=false:=by
 intro ps
 induction ps with
 |nil=>intro c w h;cases c<;>exact h
 |cons p ps ih=>
  intro c w h
  cases c with
  |nil=>exact h
  |cons v c=>
   simp only[DR];apply ih
   cases p with
   |none=>exact h
   |some b=>obtain⟨⟨u,e⟩,d⟩:=h;exact⟨cell?_setCell_some e,by simp only[Xd];rw[World.frozen?_setCell];exact d⟩
def B4 (l:List Nat):Nat→List Int×Nat×Nat
 |0=>([],0,0)
 |m+1=>if(get l).2.2 ≠0 then([],0,(get l).2.2)else
  ((get l).1 ::(B4 (l.drop (get l).2.1) m).1,if(B4 (l.drop (get l).2.1) m).2.2 ≠0 then 0 else(get l).2.1 +(B4 (l.drop (get l).2.1) m).2.1,(B4 (l.drop (get l).2.1) m).2.2)
def after (a:List Int)(pos:Nat)(r:List Int×Nat×Nat):List Int×Nat×Nat:=(a++r.1,if r.2.2≠0 then 0 else pos+r.2.1,r.2.2)
theorem UA (l:List Nat)(m:Nat):B4 l m=after [] 0 (B4 l m):=by
 have key:∀m l,(B4 l m).2.2 ≠0→(B4 l m).2.1 =0:=by
  intro m
  cases m with
  |zero=>intro l h;simp[B4]at h
  |succ m=>
   intro l h;unfold B4 at h⊢
   split
   ·rfl
   ·rename_i h0
    simp only[h0,D1]at h;simp only[h,D5,ne_eq,not_false_eq_true]
 unfold after;by_cases h:(B4 l m).2.2 ≠0
 ·simp only[h,D5,List.nil_append,ne_eq,not_false_eq_true]
  rw[←key m l h]
 ·simp only[h,D1,List.nil_append,AP]
theorem Sl (b:List Int)(pos:Nat)(l:List Nat)(m:Nat)(h:(get l).2.2 =0):after b pos (B4 l (m+1))=after (b++[(get l).1]) (pos+(get l).2.1) (B4 (l.drop (get l).2.1) m):=by
 unfold after;simp only[B4,h,ne_eq,E5,D1,Ax,List.singleton_append];by_cases a:(B4 (l.drop (get l).2.1) m).2.2 =0
 ·simp only[a,E5,D1,Cv]
 ·simp only[a,not_false_eq_true,D5]
theorem UB (a:List Int)(pos:Nat)(l:List Nat)(m:Nat)(h:(get l).2.2 ≠0):after a pos (B4 l (m+1))=(a,0,(get l).2.2):=by unfold after;simp only[B4,h,ne_eq,not_false_eq_true,D5,AE]
def GotAll (w:World)(ps:List (Option Addr))(r:List Int×Nat×Nat)(e:Ending)(a:World):Prop:=e=.returned (.tuple #[.int .i64 (r.2.1:Int),.int .i64 (r.2.2:Int)])∧a=DR w ps r.1
theorem Tj {w:World}(v J:Value)(l:List Nat)(ps:List (Option Addr))(h:Rd w v l)(f:Rv w 1 J ps.length (QZ ps))(Q:∀c∈l,c<256)(hl:l.length≤4611686018427387904)(a4:ps.length≤1000)
  (q:∀a,some a∈ps→(∃u,w.cell? a=some u)∧w.frozen? a=false) (ah:∀b,v.ownBlock=some b→0<l.length→b∉DK ps) (ai:∀b,J.ownBlock=some b→b∉DK ps)
  (r:List Int×Nat×Nat) (W:r=B4 l ps.length):
  Calls Tryz.prog 134 #[v,J] w (GotAll w ps r):=by
 have M:=h;have V:=f;obtain⟨_,a,cap,rfl,aq,h3⟩:=h;obtain⟨_,a2,ao,rfl,ar,_⟩:=f;have m:=h_ W;clear W;obtain⟨i0,hi,a5,an,a6⟩:=AU In;go_enter Tryz.func134,Tryz.ntmps134;go_wp2
 go_loopw [6,14] (fun p i wr=>∃(k pos:Nat) (d:List Int),k≤ps.length∧pos≤l.length∧i=.int .i64 k∧p=.int .i64 pos∧d.length=k∧wr=DR w (ps.take k) d∧B4 l ps.length=after d pos (B4 (l.drop pos) (ps.length-k))) (fun _ i _=>ps.length-(intOf i).toNat)
 case atStart=>exact⟨0,0,[],by omega,by omega,rfl,rfl,rfl,by cases ps<;>rfl,by simpa using UA l ps.length⟩
 case round=>
  obtain⟨k,pos,d,hk,ag,rfl,rfl,al,z,g⟩:=hrel;by_cases x:k<ps.length
  ·obtain⟨aa,so,ap,s,_,aj,O⟩:=V.at1 (by omega)
   simp only[Bn]at s;obtain⟨rfl,_,rfl⟩:=s
   have ae:∀b∈DK (ps.take k),b∈DK ps:=by intro b Z;unfold DK at Z⊢;obtain⟨p,f,af⟩:=F6.1 Z;exact F6.2 ⟨p,AH f,af⟩
   have S:Keep (DK ps) w wr:=by rw[z];exact Ig _ _ _ _ _ (By _ _) ae
   have g4:wr.cell? ⟨aa,so+k,none⟩=some (.pointer (ps.getD k none)):=by rw[S.cell aj (ai aa rfl),O k x,Xm ps k x]
   have am:Rd wr (.slice a l.length cap) l:=M.keep0 S (fun b ad f=>ah b ad f)
   have I:∀a,ps.getD k none=some a→(∃u,wr.cell? a=some u)∧wr.frozen? a=false:=by intro a ha;rw[z];refine N2 a _ _ w (q a ?_);rw[←ha];simp[Af,x]
   have T:(l.drop pos).length =l.length-pos:=by simp
   have R:∀c∈l.drop pos,c<256:=fun c q=>Q c (AB q)
   obtain⟨P,o⟩:∃P,P=ps.getD k none:=⟨_,rfl⟩;rw[←o]at g4 I;have t:=Fq (l.drop pos) 0 0 (by omega) (by simp) R;have N:get (l.drop pos)=D2 (l.drop pos) 0 0:=rfl;rw[←N]at t;have U:ps.length-k=(ps.length-(k+1))+1:=by omega
   rw[U]at g;obtain⟨G,F⟩:∃G,G=get (l.drop pos):=⟨_,rfl⟩;have y:=Sl d pos (l.drop pos) (ps.length-(k+1));have H:=UB d pos (l.drop pos) (ps.length-(k+1));rw[←F]at t y H;rw[Bu]at y
   have X:DR w (ps.take (k+1)) (d++[G.1])=Xd (DR w (ps.take k) d) P G.1:=by rw[EC ps none k x,OH _ _ _ _ _ (by rw[Az];omega),o]
   obtain⟨B,ac,D,HP,K,L,ab,C⟩:=i_8 g F z o X y H T;have q1:(k:Int)<ps.length:=by omega
   clear g F z o X y H T O V M h3 q Q N U;obtain⟨n,A,E⟩:=G;simp only at t
   go_wp2_with (refine Et _ _ _ _ _ _ _ 5 i0 Ao hi an _ _ _ _ pos rfl rfl rfl am ag ?_;intro v1 Y a3)
   have ak:Rd wr v1 (l.drop pos):=by unfold Rd;rw[C.out];unfold Bb at Y⊢;rw[Dw];exact Y
   refine(G6 v1 (l.drop pos) ak R (by rw[C.out];omega) (n,A,E) ac.out).mono ?_;rintro e w' ⟨rfl,rfl⟩;rcases t with⟨rfl,aw,ay,ax,a0,a1⟩|⟨s,au,rfl,rfl⟩
   ·have az:A≤l.length-pos:=by have:=C.out;omega
    cases P with
    |none=>
     go_wp2
     go_roundw
     case rel=>
      refine⟨k+1,pos+A,d++[n],by omega,by omega,by go_num,by go_num,by simp;omega, ?_, ?_⟩
      ·rw[K.out,D.out];rfl
      ·rw[B.out,L.out (by trivial)]
     case measure=>simp[intOf];omega
    |some a=>
     obtain⟨⟨u,hu⟩,av⟩:=I a rfl;clear I;go_wp2
     go_roundw
     case rel=>
      refine⟨k+1,pos+A,d++[n],by omega,by omega,by go_num,by go_num,by simp;omega, ?_, ?_⟩
      ·rw[K.out,D.out];rfl
      ·rw[B.out,L.out (by trivial)]
     case measure=>simp[intOf];omega
   ·have q2:((E:Int) !=0)=true:=by simp;omega
    go_wp2;go_ret2;have j:B4 l ps.length=(d,0,E):=by rw[B.out,ab.out s]
    refine⟨by rw[m.out,j];rfl, ?_⟩;rw[m.out,j,D.out,←al];exact OG ps d w
  ·obtain rfl:k=ps.length:=by omega
   go_wp2;go_ret2;rw[C8]at g;have j:B4 l ps.length=(d,pos,0):=by rw[g];simp[after,B4]
   refine⟨by rw[m.out,j];rfl, ?_⟩;rw[m.out,j]
theorem X8 (l:List Nat)(h:∀c∈l,c<256):II (get l).1 :=by have:=Fq l 0 0 (by omega) (by decide) h;unfold get II;omega
theorem PK:∀(m:Nat) (l:List Nat),(∀c∈l,c<256)→∀n∈(B4 l m).1,II n:=by
 intro m
 induction m with
 |zero=>intro l _ n a;simp[B4]at a
 |succ m ih=>
  intro l h n a;unfold B4 at a
  split at a
  ·simp at a
  ·simp only[Ac]at a
   rcases a with rfl|a
   ·exact X8 l h
   ·exact ih _ (fun c b=>h c (AB b)) n a
theorem PJ:∀(m:Nat) (l:List Nat),(B4 l m).1.length ≤m∧((B4 l m).2.2 =0→(B4 l m).1.length =m):=by
 intro m
 induction m with
 |zero=>intro l;simp[B4]
 |succ m ih=>
  intro l;have:=ih (l.drop (get l).2.1);unfold B4
  split
  ·rename_i h0
   exact⟨by simp,fun h=>absurd h h0⟩
  ·exact⟨by simp;omega,fun h=>by simp;exact this.2 h⟩
theorem ND (x:Int)(l:List Int):BL (x::l)=Ga (zz x)++BL l:=by simp[BL]
theorem Kh:∀(a:List Int) (r:List Nat),(∀n∈a,II n)→B4 (BL a++r) a.length=(a,(BL a).length,0):=by
 intro a
 induction a with
 |nil=>intro r _;simp[B4,BL]
 |cons x a ih=>intro r h;have b:=h x (by simp);have c:=NU x b.1 b.2 (BL a++r);rw[ND,Ax];have d:=ih r (fun n e=>h n (by simp[e]));simp only[List.length_cons,B4,c];rw[Aw (by simp),EN,d];simp
theorem Nm {w:World}(v u:Value)(l m:List Nat)(r:Bool)(k:Rd w v l)(j:Rd w u m)(f:∀c∈l,c<256)(g:∀c∈m,c<256)(a:r=decide (l=m)):
  Calls Tryz.prog 299 #[v,u] w fun e o=>e=.returned (.bool r)∧w=o:=by
 have x:=Rd.str (P:=Tryz.prog) (src:=81) (dst:=9) k f Ao EQ BG;have n:=Rd.str (P:=Tryz.prog) (src:=81) (dst:=9) j g Ao EQ BG;obtain⟨_,p,c1,rfl,_,_⟩:=id k;obtain⟨_,q,c2,rfl,_,_⟩:=id j;by_cases h:l=m
 ·have b:r=true:=by rw[a];exact An h
  subst b;have d:toStr l=toStr m:=by rw[h]
  rw[←d]at n;clear a h d;go_enter Tryz.func299,Tryz.ntmps299;go_wp2;go_ret;exact⟨rfl,rfl⟩
 ·have b:r=false:=by rw[a];exact Ak h
  subst b;have i:toStr l≠toStr m:=fun e=>h (Tp f g e)
  have d:((toStr l).toList ==(toStr m).toList)=false:=by rw[beq_eq_false_iff_ne];intro e;apply i;rw[DQ,DQ]at e;exact bytes_inj e
  clear i;clear a h;generalize toStr l=s at*;generalize toStr m=t at*;go_enter Tryz.func299,Tryz.ntmps299;go_wp2;go_ret;exact⟨rfl,rfl⟩
theorem IR (l:List Nat)(a:∀c∈l,c<256)(h:(BR l).2.2 =0):1≤(BR l).2.1 ∧(BR l).2.1 ≤l.length∧(BR l).1.length ≤l.length∧∀c∈(BR l).1,c<256:=by
 have b:=Fq l 0 0 (by omega) (by simp) a;have d:get l=D2 l 0 0:=rfl;rw[←d]at b;unfold BR at h⊢;generalize get l=g at*;obtain⟨n,k,e⟩:=g;simp only at b h⊢
 split
 ·rename_i h0;rw[Ay h0]at h;exact absurd h h0
 ·rename_i h0
  rw[Aw h0]at h
  split
  ·rename_i h1;rw[Ay h1]at h;simp at h
  ·rename_i h1
   rw[Aw h1]at h
   split
   ·rename_i h2;rw[Ay h2]at h;simp at h
   ·rename_i h2
    have i:1≤k∧k≤l.length:=by omega
    refine⟨by simp only;omega,by simp only;omega,by simp only[Az,A5];omega, ?_⟩;intro c f;exact a c (AB (AH f))
theorem PI:∀(m:Nat) (l:List Nat),(∀c∈l,c<256)→(B4 l m).2.1 ≤l.length:=by
 intro m
 induction m with
 |zero=>intro l _;simp[B4]
 |succ m ih=>
  intro l a;have e:=Fq l 0 0 (by omega) (by simp) a;have b:get l=D2 l 0 0:=rfl;rw[←b]at e;have:=ih (l.drop (get l).2.1) (fun c d=>a c (AB d));unfold B4
  split
  ·simp
  ·simp only
   split
   ·simp
   ·rw[A5]at this;omega
def LP (b:List Nat):Option (It×Nat):=
 if(BR b).2.2 ≠0 then none else
 if(BR (b.drop (BR b).2.1)).2.2 ≠0 then none else
 if(B4 (b.drop ((BR b).2.1 +(BR (b.drop (BR b).2.1)).2.1)) 2).2.2 ≠0 then none else
 some ((toStr (BR b).1,toStr (BR (b.drop (BR b).2.1)).1,(B4 (b.drop ((BR b).2.1 +(BR (b.drop (BR b).2.1)).2.1)) 2).1.getD 0 0,(B4 (b.drop ((BR b).2.1 +(BR (b.drop (BR b).2.1)).2.1)) 2).1.getD 1 0==1),
  (BR b).2.1 +(BR (b.drop (BR b).2.1)).2.1 +(B4 (b.drop ((BR b).2.1 +(BR (b.drop (BR b).2.1)).2.1)) 2).2.1)
def JS:Nat→List Nat→Option (List It)
 |0,_=>some []
 |f+1,b=>if b=[]then some []else match LP b with
  |none=>none
  |some (y,n)=>(JS f (b.drop n)).map (y:: ·)
theorem Qe (f:Nat):JS f []=some []:=by cases f<;>rfl
def Fp (b:List Nat):Option (List It):=match JS b.length b with
 |none=>none
 |some l=>if BM l=b∧b≠[]then some l else none
theorem Wp (y:It)(h:Dj y=true)(r:List Nat):LP (Dc y++r)=some (y,(Dc y).length):=by
 obtain⟨k,v,n,g⟩:=y;obtain⟨f,i,j,l,m⟩:=JR h;simp only at f i j l m;have s:Dc (k,v,n,g)++r=Cf k++(Cf v++(BL [n,gN g]++r)):=by simp[Dc,B8,Ax]
 have d:=Hw k (by omega) (Cf v++(BL [n,gN g]++r));have e:=Hw v (by omega) (BL [n,gN g]++r);have q:∀z∈[n,gN g],II z:=by intro z c;simp at c;rcases c with rfl|rfl;exact⟨by omega,by omega⟩;exact RE _
 have a:=Kh [n,gN g] r q;rw[show[n,gN g].length =2 from rfl]at a;have b:(Cf k++(Cf v++(BL [n,gN g]++r))).drop (Cf k).length =Cf v++(BL [n,gN g]++r):=by rw[Cp rfl]
 have o:(Cf k++(Cf v++(BL [n,gN g]++r))).drop ((Cf k).length +(Cf v).length)=BL [n,gN g]++r:=by rw[←Bu,b,Cp rfl]
 rw[s];unfold LP;rw[d];simp only[ne_eq,E5,D1,b];rw[e];simp only[ne_eq,E5,D1,o];rw[a];simp only[ne_eq,E5,D1,KY,List.getD_cons_zero,List.getD_cons_succ];have p:(gN g==1)=g:=by cases g<;>rfl
 rw[p];simp[Dc,B8,Aj,Cv]
theorem TJ (y:It):0<(Dc y).length :=by unfold Dc;rw[Aj];have:=FG y.1 y.2.1;omega
theorem Wn:∀(l:List It) (f:Nat),l.all Dj=true→(CE l).length ≤f→JS f (CE l)=some l:=by
 intro l
 induction l with
 |nil=>intro f _ _;exact Qe f
 |cons y l ih=>
  intro f h c;simp only[List.all_cons,Ar]at h;have e:CE (y::l)=Dc y++CE l:=by simp[CE]
  have g:=TJ y;rw[e,Aj]at c
  cases f with
  |zero=>omega
  |succ f=>
   rw[e];have d:¬(Dc y++CE l=[]):=by intro a;have b:=A3 List.length a;rw[Aj,List.length_nil]at b;omega
   unfold JS;rw[Aw d,Wp y h.1];simp only;rw[Cp rfl,ih f h.2 (by omega)];rfl
theorem Uj (l:List It)(h:BM l≠[]):Fp (BM l)=some l:=by
 have a:l.all Dj=true:=by
  cases b:l.all Dj with
  |true=>rfl
  |false=>exact absurd (by unfold BM;rw[b];rfl) h
 have e:BM l=CE l:=by unfold BM;rw[Ay a]
 unfold Fp;rw[e,Wn l _ a (Av _)];rw[e]at h;simp only;rw[Ay ⟨e,h⟩]
theorem Uz (f:Nat)(b:List Nat)(y:It)(n:Nat)(a:b≠[])(h:LP b=some (y,n)):JS (f+1) b=(JS f (b.drop n)).map (y:: ·):=by simp only[JS];rw[Aw a,h]
theorem Wo (f:Nat)(b:List Nat)(a:b≠[])(h:LP b=none):JS (f+1) b=none:=by simp only[JS];rw[Aw a,h]
def GotIts (w:World)(b:List Nat)(e:Ending)(a:World):Prop:=Keep [] w a∧
 ((∃l v,Fp b=some l∧e=.returned (.tuple #[v,.int .i64 0])∧JW a w.heap.size v l)∨(Fp b=none∧e=.returned (.tuple #[.slice none 0 0,.int .i64 1])))
theorem Sx (t:ByteArray):∀c∈sb t,c<256:=by intro c a;unfold sb at a;obtain⟨x,_,rfl⟩:=AI.1 a;have:=x.toNat_lt;omega
theorem QY (y:It):∀c∈Dc y,c<256:=by
 intro c a;unfold Dc B8 at a;simp only[Br,Cy,List.flatten_cons,List.flatten_nil,AE,Ag,Cf]at a;rcases a with((a|a)|(a|a))|a
 ·exact L5 _ c a
 ·exact Sx _ c a
 ·exact L5 _ c a
 ·exact Sx _ c a
 ·exact Io _ c a
theorem LB (l:List It):∀c∈BM l,c<256:=by
 intro c a;unfold BM at a
 split at a
 ·unfold CE at a
  obtain⟨p,d,b⟩:=DY.1 a;obtain⟨y,_,rfl⟩:=AI.1 d;exact QY y c b
 ·cases a
theorem Ui (l:List It):(BM l).length ≤300*l.length:=by
 unfold BM
 split
 ·rename_i h
  induction l with
  |nil=>simp[CE]
  |cons y l ih=>
   simp only[List.all_cons,Ar]at h;have a:=MH h.1;have b:=ih h.2;have e:CE (y::l)=Dc y++CE l:=by simp[CE]
   rw[e,Aj,List.length_cons];omega
 ·simp
theorem set2 (w:World)(b a:Nat)(n g:Int):DR w [some ⟨b,2,none⟩,some ⟨a,0,none⟩] [n,g]=(w.setCell ⟨b,2,none⟩ (.int .i64 n)).setCell ⟨a,0,none⟩ (.int .i64 g):=rfl
theorem rd_add {w:World}{a:Option Addr}{n cap:Nat}{l:List Nat}(h:Rd w (.slice a n cap) l)(k:Nat)(r:k≤l.length):Rd w (.slice (a.map fun x=>x.add k) (l.length-k) (cap-k)) (l.drop k):=by
 obtain⟨s,o,p,d,q,f⟩:=h;simp only[Bn]at d;obtain⟨rfl,_,rfl⟩:=d;refine⟨by simp,_,_,by rw[A5],by rw[A5];omega,fun j=> ?_⟩;rw[Bd,A5]at j;obtain⟨sb,b,rfl,m,e⟩:=f (by rw[Bd];omega);refine⟨sb,b+k, ?_,m,fun i g=> ?_⟩
 ·by_cases c:k=0
  ·subst c;simp[Addr.add]
  ·simp[Addr.add,c]
 ·rw[Bd,A5]at g
  rw[show b+k+i=b+(k+i) by omega,e (k+i) (by rw[Bd];omega)];simp[Bb,Bp,Dw]
theorem PD {w:World}{v:Value}{l:List Nat}(k:Nat)(h:Rv w 1 v (l.length-k) ((Bb l).drop k)):Rd w v (l.drop k):=by unfold Rd;rw[A5,show Bb (l.drop k)=(Bb l).drop k by simp[Bb,Dw]];exact h
theorem NT {w:World}(bv:Value)(b:List Nat)(h:Rd w bv b)(hb:∀c∈b,c<256)(hl:b.length≤100000):
  Calls Tryz.prog 273 #[bv] w (GotIts w b):=by
 obtain⟨i0,hi,dv,cc,dw⟩:=AU In;obtain⟨VS,cz,da,db,dc⟩:=AU Tryz.infoItem;have dm:=fun(W:World) (a:Option Addr) (n c:Nat)=>Lib.run_eql_slice_nil (P:=Tryz.prog) W 81 5 a n c 0 0 Ao
 obtain⟨_,ba,di,rfl,_,_⟩:=id h;have br:=h.lo;obtain⟨H,cl⟩:=i_2 hb br;clear hb br;go_enter Tryz.func273,Tryz.ntmps273;go_wp2
 go_loopw [4,5] (fun lv at_ wr=>∃(pos f:Nat) (i:List It),pos≤b.length∧at_=.int .i64 pos∧b.length-pos≤f∧JS b.length b=(JS f (b.drop pos)).map (i++ ·)∧JW wr w.heap.size lv i∧i.length≤pos∧
  (∀y∈i,y.1.size≤100000∧y.2.1.size≤100000)∧Keep [] w wr) (fun _ at_ _=>b.length-(intOf at_).toNat)
 case atStart=>exact⟨0,b.length,[],by omega,rfl,by omega,by simp,JW.nil _ _,by simp,by simp,By _ _⟩
 case round=>
  obtain⟨pos,f,i,c6,rfl,hf,hD,F,dk,b4,hK⟩:=hrel;obtain⟨I,a8⟩:=i_2 hD b4;clear hD b4;obtain⟨la,a3,rfl⟩:=F.slice;by_cases c5:pos<b.length
  ·have q0:(pos:Int)<b.length:=by omega
   obtain⟨J,rfl⟩:∃J,f=J+1:=⟨f-1,by omega⟩;have a0:b.drop pos≠[]:=by intro h0;have v:=A3 List.length h0;rw[A5,List.length_nil]at v;omega
   have au:∀c∈b.drop pos,c<256:=fun c s=>H.out c (AB s)
   have bg:(b.drop pos).length =b.length-pos:=by simp
   have b3:=Uz J (b.drop pos);have be:=Wo J (b.drop pos) a0;have j:LP (b.drop pos)=LP (b.drop pos):=rfl
   conv at j=>rhs;unfold LP
   have ae:=IR (b.drop pos) au;obtain⟨K,hk⟩:∃K,K=BR (b.drop pos):=⟨_,rfl⟩;rw[←hk]at j ae;obtain⟨HK,co,cp,ah,cd,a4⟩:=i_6 hk a0 b3 be au bg;clear hk a0 b3 be au bg;obtain⟨m,g,ke⟩:=K;simp only at j ae;have a2:Blk (wr.alloc (.cells (E8 {data:=#[]} {data:=#[]} 0 false).toArray 171)) wr.heap.size (E8 {data:=#[]} {data:=#[]} 0 false) 171:=BY _ _ _;have E:=hK.alloc (.cells (E8 {data:=#[]} {data:=#[]} 0 false).toArray 171);have N:=F.alloc (.cells (E8 {data:=#[]} {data:=#[]} 0 false).toArray 171);have X:=h.keep E (by simp);have de:w.heap.size≤wr.heap.size:=hK.size;obtain⟨k,ag⟩:∃W,W=wr.alloc (.cells (E8 {data:=#[]} {data:=#[]} 0 false).toArray 171):=⟨_,rfl⟩;rw[←ag]at a2 E N X;have cb:k.heap.size=wr.heap.size+1:=by rw[ag];simp
   go_wp2_with fail;change Calls _ _ _ (wr.alloc (.cells (E8 {data:=#[]} {data:=#[]} 0 false).toArray 171)) _;rw[←ag];have cs:=h_ cb;have a7:=h_ (show∀q,(Value.slice la i.length a3).ownBlock =some q→q<wr.heap.size from fun q d=>(F.lt q d).2);clear ag cb F hK;generalize wr.heap.size=xb at*;refine(Ks _ (b.drop pos) (rd_add X pos c6) cd.out (by rw[a4.out];omega) (m,g,ke) HK.out).mono ?_;rintro e df ⟨rfl,rfl⟩;simp only;by_cases bn:ke=0
   case neg=>
    have A:LP (b.drop pos)=none:=by rw[j,Ay bn]
    have t:Fp b=none:=by unfold Fp;rw[I.out,ah.out A];rfl
    have q1:((ke:Int) !=0)=true:=by simp;omega
    clear j A;go_wp2;go_ret2;exact⟨E,.inr ⟨t,rfl⟩⟩
   subst bn;obtain⟨bo,bp,bq,dq⟩:=ae rfl;rw[a4.out]at bp bq;rw[Aw (by simp)]at j;clear ae;have av:∀c∈b.drop (pos+g),c<256:=fun c s=>H.out c (AB s)
   have bh:(b.drop (pos+g)).length =b.length-(pos+g):=by simp
   have af:=IR (b.drop (pos+g)) av;have T:(b.drop pos).drop g=b.drop (pos+g):=by rw[Bu]
   rw[T]at j;obtain⟨V,hv⟩:∃V,V=BR (b.drop (pos+g)):=⟨_,rfl⟩;rw[←hv]at j af;obtain⟨HV,ce,a5⟩:=i_3 hv av bh;clear hv av bh T;obtain⟨o,l,ve⟩:=V;simp only at j af;obtain⟨C,a9⟩:=i_2 j af;clear j af;have q2:IntKind.i64.wrap ((pos:Int)+g)=((pos+g:Nat):Int):=by rw[A9];omega
   clear q0
   go_wp2_with (refine Et _ _ _ _ _ _ _ 5 i0 Ao hi cc _ _ _ _ (pos+g) rfl rfl rfl X (by omega) ?_;intro G Y a1)
   have bz:Rd k G (b.drop (pos+g)):=PD _ Y;refine(Ks _ (b.drop (pos+g)) bz ce.out (by rw[a5.out];omega) (o,l,ve) HV.out).mono ?_;rintro e df ⟨rfl,rfl⟩;simp only;by_cases b7:ve=0
   case neg=>
    have A:LP (b.drop pos)=none:=by rw[C.out,Ay b7]
    have t:Fp b=none:=by unfold Fp;rw[I.out,ah.out A];rfl
    have q1:((ve:Int) !=0)=true:=by simp;omega
    clear A;go_wp2;go_ret2;exact⟨E,.inr ⟨t,rfl⟩⟩
   subst b7;obtain⟨dd,b8,b9,dt⟩:=a9.out rfl;rw[a5.out]at b8 b9;have j:=C.out;rw[Aw (by simp)]at j;clear a9 C bz Y a1;have ab:∀c∈b.drop (pos+(g+l)),c<256:=fun c s=>H.out c (AB s)
   have bi:(b.drop (pos+(g+l))).length =b.length-(pos+(g+l)):=by simp
   have ad:=PJ 2 (b.drop (pos+(g+l)));have ac:=PK 2 (b.drop (pos+(g+l))) ab;have U:=PI 2 (b.drop (pos+(g+l))) ab;have T:(b.drop pos).drop (g+l)=b.drop (pos+(g+l)):=by rw[Bu]
   rw[T]at j;obtain⟨M,p⟩:∃M,M=B4 (b.drop (pos+(g+l))) 2:=⟨_,rfl⟩;rw[←p]at j ad ac U;obtain⟨HM,cf,aj⟩:=i_3 p ab bi;clear p ab bi T;obtain⟨ms,mn,me⟩:=M;simp only at j ad ac U;rw[aj.out]at U;obtain⟨C,cm,dh⟩:=i_3 j ad ac;clear j ad ac;have ak:=h_ (show pos+(g+l)≤b.length∧1≤l by omega);have cj:=h_ (show g≤b.length-pos∧m.length≤b.length∧o.length≤b.length by omega);obtain⟨cn,ck⟩:=i_2 U bo;clear dd b8 bo bp U bq b9 c5;have c4:g≤100000∧l≤100000:=by have:=ak.out;omega
   obtain⟨dn,dp⟩:=c4;clear q2;have bl:Blk (k.alloc (.cells #[.int .i64 0] 2)) k.heap.size [.int .i64 0] 2:=BY k [.int .i64 0] _
   go_wp2_with (refine Et _ _ _ _ _ _ _ 5 i0 Ao hi cc _ _ _ _ (pos+g+l) rfl rfl rfl (X.alloc _) (by have:=ak.out;omega) ?_;intro G Y a1)
   have b6:Rv (k.alloc (.cells #[.int .i64 0] 2)) 1 G (b.length-(pos+g+l)) ((Bb b).drop (pos+g+l)):=Y;have b0:Rd (k.alloc (.cells #[.int .i64 0] 2)) G (b.drop (pos+(g+l))):=by rw[←Cv];exact PD _ b6
   have aq:Blk ((k.alloc (.cells #[.int .i64 0] 2)).alloc (.cells #[pr xb 2,pr k.heap.size 0] 236)) (k.heap.size+1) (QZ [some ⟨xb,2,none⟩,some ⟨k.heap.size,0,none⟩]) 236:=Yt _ (QZ [some ⟨xb,2,none⟩,some ⟨k.heap.size,0,none⟩]) _ _ (by simp);have O:=bl.alloc (.cells #[pr xb 2,pr k.heap.size 0] 236);have Q:=(a2.alloc (.cells #[.int .i64 0] 2)).alloc (.cells #[pr xb 2,pr k.heap.size 0] 236);have L:=(N.alloc (.cells #[.int .i64 0] 2)).alloc (.cells #[pr xb 2,pr k.heap.size 0] 236);have ar:=b0.alloc (.cells #[pr xb 2,pr k.heap.size 0] 236);have an:=(E.alloc (.cells #[.int .i64 0] 2)).alloc (.cells #[pr xb 2,pr k.heap.size 0] 236);obtain⟨w2,ca⟩:∃W,W=(k.alloc (.cells #[.int .i64 0] 2)).alloc (.cells #[pr xb 2,pr k.heap.size 0] 236):=⟨_,rfl⟩;rw[←ca]at aq O Q L ar an⊢;have du:w.heap.size≤xb∧xb<k.heap.size:=⟨de,by rw[cs.out];omega⟩;have bw:∀q,G.ownBlock=some q→0<(b.drop (pos+(g+l))).length →q<w.heap.size:=fun q d hp=>cl.out q (by rw[a1]at d;exact d) (by rw[aj.out]at hp;omega)
   have c8:∀q,(Value.slice la i.length a3).ownBlock =some q→w.heap.size≤q∧q<w2.heap.size:=fun q d=>L.lt q d
   have c9:∀q,(Value.slice la i.length a3).ownBlock =some q→q≠k.heap.size∧q<k.heap.size:=fun q d=>⟨by have:=(N.lt q d).2;omega,(N.lt q d).2⟩
   clear ca bl a2 N X b0 b6 Y E h;generalize k.heap.size=gb at*;refine(Tj G _ (b.drop (pos+(g+l))) [some ⟨xb,2,none⟩,some ⟨gb,0,none⟩] ar (Ih aq rfl) cf.out (by rw[aj.out];omega) (by simp) ?_ ?_ ?_ (ms,mn,me) HM.out).mono ?_
   ·intro a ha
    simp only[Ac,BU,Am,AG]at ha;rcases ha with rfl|rfl
    ·exact⟨⟨_,Q.cell 2⟩,Q.free 2⟩
    ·exact⟨⟨_,O.cell 0⟩,O.free 0⟩
   ·intro q d hp p
    have v:=bw q d hp;simp only[DK,List.filterMap_cons,List.filterMap_nil,Option.map_some,Ac,Am,AG]at p;omega
   ·intro q d p
    have v:gb+1=q:=Option.some.inj d;simp only[DK,List.filterMap_cons,List.filterMap_nil,Option.map_some,Ac,Am,AG]at p;omega
   rintro e u ⟨rfl,D⟩;simp only at D⊢
   have ay:Keep [xb,gb] w2 u:=by rw[D];exact Ig _ _ _ _ _ (By _ _) (by intro q d;simp only[DK,List.filterMap_cons,List.filterMap_nil,Option.map_some]at d;exact d)
   have ap:Keep [] w u:=an.then ay (by intro q d bs;simp at d;omega);by_cases bu:me=0
   case neg=>
    have A:LP (b.drop pos)=none:=by rw[C.out,Ay bu]
    have t:Fp b=none:=by unfold Fp;rw[I.out,ah.out A];rfl
    have q1:((me:Int) !=0)=true:=by simp;omega
    clear A D;go_wp2;go_ret2;exact⟨ap,.inr ⟨t,rfl⟩⟩
   subst bu;have bt:=(cm.out).2 rfl
   obtain⟨n,r,rfl⟩:∃n r,ms=[n,r]:=by
    match ms,bt with
    |[a,c],_=>exact⟨a,c,rfl⟩
   have j:=C.out;rw[Aw (by simp)]at j;simp only[List.getD_cons_zero,List.getD_cons_succ]at j;rw[set2]at D;have x:Blk u xb (E8 {data:=#[]} {data:=#[]} n false) 171:=by rw[D];exact(Q.set 2 (.int .i64 n)).other (by show xb≠gb;omega) _
   have bd:Blk u gb [.int .i64 r] 2:=by rw[D];exact((O.other (a:=⟨xb,2,none⟩) (by show gb≠xb;omega) _).set 0 (.int .i64 r))
   have bb:=L.keep ay (by intro q d p;have v:=c9 q d;have Z:=L.ty q d;simp only[Ac,Am,AG]at p;have:=a7.out q d;omega);have ci:=h_ j;clear D ay Q O L aq ar an C j bw c8 bt;have g0:=bd.cell 0;simp only[List.getElem?_cons_zero]at g0;have f0:=x.free 0;have f1:=x.free 1;have f3:=x.free 3;have x0:=x.cell 0;have x1:=x.cell 1;have x3:=x.cell 3;simp only[E8,List.getElem?_cons_zero,List.getElem?_cons_succ]at x0 x1 x3;go_upto_region 16 with fail;have R:Blk (((u.setCell ⟨xb,0,none⟩ (.string (toStr m))).setCell ⟨xb,1,none⟩ (.string (toStr o))).setCell ⟨xb,3,none⟩ (.bool (r==1))) xb (E8 (toStr m) (toStr o) n (r==1)) 171:=((x.set 0 (.string (toStr m))).set 1 (.string (toStr o))).set 3 (.bool (r==1));have az:Keep [xb] u (((u.setCell ⟨xb,0,none⟩ (.string (toStr m))).setCell ⟨xb,1,none⟩ (.string (toStr o))).setCell ⟨xb,3,none⟩ (.bool (r==1))):=(((By _ _).setCell (.inl (by simp)) _).setCell (.inl (by simp)) _).setCell (.inl (by simp)) _;have al:=bb.keep az (by intro q d p;simp only[Ac,Am,AG]at p;have:=a7.out q d;omega);have ao:Keep [] w (((u.setCell ⟨xb,0,none⟩ (.string (toStr m))).setCell ⟨xb,1,none⟩ (.string (toStr o))).setCell ⟨xb,3,none⟩ (.bool (r==1))):=ap.then az (by intro q d bs;simp only[Ac,Am,AG]at d;omega);clear x bb ap az bd g0 f0 f1 f3 x0 x1 x3;generalize bm:(r==1)=gv at*;have dg:=h_ bm;clear bm;generalize cx:(((u.setCell ⟨xb,0,none⟩ (.string (toStr m))).setCell ⟨xb,1,none⟩ (.string (toStr o))).setCell ⟨xb,3,none⟩ (.bool gv))=w4 at*;clear cx;have c0:=R.cell 0;have c1:=R.cell 1;have c2:=R.cell 2;have c3:=R.cell 3;simp only[E8,List.getElem?_cons_zero,List.getElem?_cons_succ]at c0 c1 c2 c3;have cr:=h_ (show(toStr m).size ≤100000∧(toStr o).size ≤100000 by have:=cj.out;rw[KX,KX];omega);have ds:=ao.size;have bc:=BY w4 (E8 (toStr m) (toStr o) n gv) 171;have b2:=src_it (P:=Tryz.prog) Tryz.underlying172 _ _ _ _ _ _ bc;have am:=h_ (show pos+(g+l+mn)≤b.length∧1≤g by have v:=ak.out;have Z:=cn.out;have h3:=ck.out;omega);have dr:mn≤100000:=by have:=am.out;omega
   go_wp2_with (at_builtin;refine Bl _ rfl _ _ 172 172 rfl w.heap.size 171 VS _ 4 48 Tryz.underlying172 cz da db dc rfl (by decide) _ _ _ rfl (al.alloc _) _ 1 _ rfl b2 (by unfold maxLen;omega) (by omega) (by simp;omega) ?_;intro v5 w5 v Z _ h3)
   have cu:=JW.snoc v;have cw:=(ao.alloc (.cells (E8 (toStr m) (toStr o) n gv).toArray 171)).then (DJ Z) (by intro q d bs;have e:=Ae.1 d;have:=(al.lt q e).1;omega);clear v Z h3 al ao c0 c1 c2 c3 R bc b2
   go_roundw
   case rel=>
    have d:=am.out;refine⟨pos+(g+l+mn),J,i++[(toStr m,toStr o,n,gv)],d.1,by go_num,by omega, ?_,cu,by simp;omega, ?_,cw⟩
    ·have e1:=cp.out _ _ co.out ci.out
     rw[I.out,e1,Bu,Option.map_map]
     congr 1
     funext z
     simp[Function.comp_def]
    ·intro y B
     rcases Ag.1 B with B|B
     ·exact a8.out y B
     ·simp only[Ah]at B
      subst B;exact cr.out
   case measure=>have d:=am.out;simp[intOf];omega
  ·obtain rfl:pos=b.length:=by omega
   have bj:b.drop b.length=[]:=Bz (Av _)
   have bf:JS b.length b=some i:=by rw[I.out,bj,Qe];simp
   have cy:i.length≤1000000:=by omega
   have b5:∀y∈i,y.1.size≤9223372036854775807∧y.2.1.size≤9223372036854775807:=fun y B=>by have:=a8.out y B;omega
   obtain⟨ai,cq⟩:=i_2 bf b5;have bk:∀c∈BM i,c<256:=LB i;have dl:(BM i).length ≤300*i.length:=Ui i;have a6:=h_ bk;clear bj bf b5 bk;go_wp2_with fail;refine(J4 _ i F.rd cy cq.out).mono ?_;rintro e w2 ⟨cv,rfl,⟨aw,ax⟩,k2⟩;have ct:=F.keep k2 (by simp);have aa:=hK.trans k2;have bx:=h.keep aa (by simp);by_cases S:BM i=[]
   ·obtain rfl:=ax S
    have t:Fp b=none:=by unfold Fp;rw[ai.out];simp only;rw[Aw];intro s;exact s.2 (by rw[←s.1];exact S)
    clear ax;go_wp2;go_ret2;exact⟨aa,.inr ⟨t,rfl⟩⟩
   ·have c7:0<(BM i).length :=Cs.2 S
    obtain⟨cg,dj,rfl,_⟩:=aw.at' c7;have ch:=h_ S;clear ax S;by_cases d:BM i=b
    ·have b1:Fp b=some i:=by
      unfold Fp;rw[ai.out];simp only;rw[Ay ⟨d,fun e=>ch.out (by rw[d];exact e)⟩]
     obtain⟨HS,HQ⟩:=i_2 b1 d;clear b1 d;go_wp2_with fail;refine(Nm _ _ (BM i) b true aw.rd bx a6.out H.out (An HQ.out).symm).mono ?_;rintro e w' ⟨rfl,rfl⟩;go_wp2;go_ret2;exact⟨aa,.inl ⟨i,_,HS.out,rfl,ct⟩⟩
    ·have t:Fp b=none:=by
      unfold Fp;rw[ai.out];simp only;rw[Aw (fun s=>d s.1)]
     obtain⟨HS,HQ⟩:=i_2 t d;clear t d;go_wp2_with fail;refine(Nm _ _ (BM i) b false aw.rd bx a6.out H.out (Ak HQ.out).symm).mono ?_;rintro e w' ⟨rfl,rfl⟩;go_wp2;go_ret2;exact⟨aa,.inr ⟨HS.out,rfl⟩⟩
abbrev Mk:=Int×ByteArray
structure Ms where
 kind:Int
 src:Int
 dst:Int
 epoch:Int
 tick:Int
 seq:Int
 n:Int
 id:Int
 op:Int
 key:ByteArray
 err:Int
 last:Bool
 it:It
 its:List It
 mks:List Mk
 mem:List Int
 base:Int
 old:List Int
def VS:It:=(ByteArray.empty,ByteArray.empty,0,false)
def Rz:Ms:=⟨0,0,0,0,0,0,0,0,0,ByteArray.empty,0,false,VS,[],[],[],0,[]⟩
def Ey (l:List Int)(j:Nat):Prop:=1≤l.getD j 0∧l.getD j 0≤5∧(0<j→l.getD (j-1) 0<l.getD j 0)
instance (l:List Int) (j:Nat):Decidable (Ey l j):=by unfold Ey;exact inferInstance
def nodesOk (l:List Int):Bool:=decide (0<l.length)&&decide (∀j,j<l.length→Ey l j)
def NQ:Mk:=(0,ByteArray.empty)
def P2 (l:List Mk)(j:Nat):Prop:=1≤(l.getD j NQ).1 ∧(l.getD j NQ).1 ≤1099511627776∧itKey (l.getD j NQ).2 =true∧(0<j→(l.getD (j-1) NQ).1 <(l.getD j NQ).1)
instance (l:List Mk) (j:Nat):Decidable (P2 l j):=by unfold P2;exact inferInstance
def MR (l:List Mk):Bool:=decide (∀j,j<l.length→P2 l j)
def QG (g:Int)(l:List Int):Bool:=l.all fun n=>decide (0≤n∧n≤g)
def Gb (m:Ms):Bool:=decide (1≤m.kind)&&(decide (m.kind≤14)&&(!decide (m.src=m.dst)&&(QG 5 [m.src,m.dst]&&(QG 1099511627776 [m.epoch,m.tick,m.seq,m.id,m.base]&&QG 1073741824 [m.n]))))
def MS (m:Ms):Bool:=QG 2 [m.op]&&(decide (m.key.size≤40)&&QG 10 [m.err])
def FM (m:Ms):Bool:=MR m.mks&&(m.its.all Dj&&(decide (m.its.length≤4)&&(decide (m.mks.length≤4)&&((decide (m.mem.length=0)||nodesOk m.mem)&&(decide (m.old.length=0)||nodesOk m.old)))))
def mayM (m:Ms):Bool:=Gb m&&(MS m&&((decide (m.it=VS)||Dj m.it)&&FM m))
theorem Pi:∀ {l:List Int},nodesOk l=true→l.length≤5∧∀n∈l,II n:=by
 intro l h;unfold nodesOk at h;simp only[Ar,A0]at h;obtain⟨_,h⟩:=h
 have c:∀j,j<l.length→(j:Int)+1≤l.getD j 0:=by
  intro j
  induction j with
  |zero=>intro c;have:=(h 0 c).1;omega
  |succ k ih=>intro b;have a:=ih (by omega);have d:=(h (k+1) b).2.2 (by omega);rw[Nat.add_sub_cancel]at d;omega
 constructor
 ·by_cases f:l.length=0
  ·omega
  ·have a:=c (l.length-1) (by omega)
   have d:=(h (l.length-1) (by omega)).2.1;omega
 ·intro n e
  obtain⟨k,b,rfl⟩:=Dq e;have a:=(h k b);unfold Ey at a;rw[Af,Ad b,Option.getD_some]at a;unfold II;have:=a.1;have:=a.2.1;omega
theorem Tryz.infoMsg:(Tryz.prog.info? 175).map (fun i=>(i.zero,i.size,i.bytes))=some (some (.agg #[.int .i64 0,.int .i64 0,.int .i64 0,.int .i64 0,.int .i64 0,.int .i64 0,.int .i64 0,.int .i64 0,.int .i64 0,.string ByteArray.empty,.int .i64 0,.bool false,.string ByteArray.empty,.string ByteArray.empty,.int .i64 0,.bool false,.slice none 0 0,.slice none 0 0,.slice none 0 0,.int .i64 0,.slice none 0 0]),21,256):=by kernel_rfl
def Y2:=@Tryz.infoMsg
theorem Tryz.sizeMsg:(Tryz.prog.info? 175).map (·.size)=some 21:=by kernel_rfl
def C4:=@Tryz.sizeMsg
def CZ (m:Ms)(a b c d:Value):List Value:=[.int .i64 m.kind,.int .i64 m.src,.int .i64 m.dst,.int .i64 m.epoch,.int .i64 m.tick,.int .i64 m.seq,.int .i64 m.n,.int .i64 m.id,.int .i64 m.op,.string m.key,.int .i64 m.err,.bool m.last,.string m.it.1,.string m.it.2.1,.int .i64 m.it.2.2.1,.bool m.it.2.2.2,a,b,c,.int .i64 m.base,d]
abbrev Yi (m:Ms)(a b c d:Value):Value:= .agg (CZ m a b c d).toArray
theorem Hf (m:Ms)(a b c d:Option Addr)(j f k g l h nd i:Nat):∀v∈CZ m (.slice a j f) (.slice b k g) (.slice c l h) (.slice d nd i),v.oneCell'=true:=by intro v e;simp only[CZ,Ac,Am,AG]at e;rcases e with rfl|rfl|rfl|rfl|rfl|rfl|rfl|rfl|rfl|rfl|rfl|rfl|rfl|rfl|rfl|rfl|rfl|rfl|rfl|rfl|rfl<;>rfl
theorem Uk {g:Int}{l:List Int}{j:Nat}(a:j<l.length)(h:¬(0≤l.getD j 0∧l.getD j 0≤g)):QG g l=false:=by unfold QG;rw[List.all_eq_false];refine⟨l[j],BS a, ?_⟩;rw[Af,Ad a,Option.getD_some]at h;simpa using h
theorem VU {g:Int}{l:List Int}(h:∀j,j<l.length→0≤l.getD j 0∧l.getD j 0≤g):QG g l=true:=by unfold QG;rw[Cr];intro x c;obtain⟨k,b,rfl⟩:=Dq c;have a:=h k b;rw[Af,Ad b,Option.getD_some]at a;simpa using a
theorem LD {w:World}(g:Int)(y:Value)(l:List Int)(h:Rv w 1 y l.length (ints l))(J:l.length≤1000000)(r:Bool)(v:r=QG g l):
  Calls Tryz.prog 162 #[.int .i64 g,y] w fun e G=>e=.returned (.bool r)∧w=G:=by
 have c:=h_ v;clear v;obtain⟨_,a,cap,rfl,_,_⟩:=id h;go_enter Tryz.func162,Tryz.ntmps162;go_wp2
 go_loopw [9] (fun i wr=>wr=w∧∃j:Nat,i=.int .i64 j∧j≤l.length∧∀k,k<j→0≤l.getD k 0∧l.getD k 0≤g) (fun i _=>l.length-(intOf i).toNat)
 case atStart=>exact⟨rfl,0,rfl,by omega,fun k u=>absurd u (by omega)⟩
 case round=>
  obtain⟨D,j,rfl,I,d⟩:=hrel;subst D;by_cases f:j<l.length
  ·have K:(j:Int)<l.length:=by omega
   obtain⟨sb,L,H,s,_,_,p⟩:=h.at1 (by omega);simp only[Bn]at s;obtain⟨rfl,_,rfl⟩:=s;have B:=p j f;rw[Hm _ _ f]at B;have A:=h_ (show l.getD j 0=l.getD j 0 from rfl);have q:=Uk (g:=g) f
   have t:0≤l.getD j 0→l.getD j 0≤g→∀k,k<j+1→0≤l.getD k 0∧l.getD k 0≤g:=fun a b k u=>by
    by_cases C:k<j
    ·exact d k C
    ·obtain rfl:k=j:=by omega
     exact⟨a,b⟩
   obtain⟨m,z⟩:=i_2 q t;clear q t d p A;generalize l.getD j 0=x at*;by_cases n:x<0
   ·have E:decide (x<0)=true:=An n
    go_wp2;go_ret;exact⟨by rw[c.out,m.out (by omega)];rfl,rfl⟩
   ·have E:decide (x<0)=false:=Ak n
    by_cases o:g<x
    ·have F:decide (g<x)=true:=An o
     go_wp2;go_ret;exact⟨by rw[c.out,m.out (by omega)];rfl,rfl⟩
    ·have F:decide (g<x)=false:=Ak o
     go_wp2
     go_roundw
     case rel=>exact⟨by trivial,j+1,by go_num,by omega,z.out (by omega) (by omega)⟩
     case measure=>simp[intOf];omega
  ·obtain rfl:j=l.length:=by omega
   go_wp2;go_ret;exact⟨by rw[c.out,VU d];rfl,rfl⟩
theorem Mu {l:List Int}{j:Nat}(b:j<l.length)(h:¬Ey l j):nodesOk l=false:=by
 unfold nodesOk;have:¬∀j,j<l.length→Ey l j:=fun a=>h (a j b)
 rw[Ak this,Bool.and_false]
theorem NH {l:List Int}(a:0<l.length)(h:∀j,j<l.length→Ey l j):nodesOk l=true:=by unfold nodesOk;rw[An a,An h];rfl
theorem Ph {l:List Int}(a:l.length=0):nodesOk l=false:=by unfold nodesOk;rw[Ak (by omega)];rfl
theorem Dr {w:World}(B:Value)(l:List Int)(h:Rv w 1 B l.length (ints l))(M:l.length≤9223372036854775807)(r:Bool)(A:r=nodesOk l):
  Calls Tryz.prog 62 #[B] w fun e J=>e=.returned (.bool r)∧w=J:=by
 have c:=h_ A;clear A;obtain⟨_,a,cap,rfl,_,_⟩:=id h;go_enter Tryz.func62,Tryz.ntmps62;go_wp2
 go_loopw [7] (fun i wr=>wr=w∧∃j:Nat,i=.int .i64 j∧j≤l.length∧∀k,k<j→Ey l k) (fun i _=>l.length-(intOf i).toNat)
 case atStart=>exact⟨rfl,0,rfl,by omega,fun k o=>absurd o (by omega)⟩
 case round=>
  obtain⟨H,j,rfl,L,m⟩:=hrel;subst H;by_cases p:j<l.length
  ·have C:(j:Int)<l.length:=by omega
   obtain⟨sb,Q,K,z,_,_,n⟩:=h.at1 (by omega);simp only[Bn]at z;obtain⟨rfl,_,rfl⟩:=z;have v:=n j p;rw[Hm _ _ p]at v;have d:=h_ (Mu p);have D:=h_ m;have b:=h_ (show Ey l j↔1≤l.getD j 0∧l.getD j 0≤5∧(0<j→l.getD (j-1) 0<l.getD j 0)from Iff.rfl);by_cases F:j=0
   ·subst F
    clear m n
    simp only[Nat.add_zero]at v;generalize l.getD 0 0=x at*;by_cases f:x<1
    ·have q:decide (x<1)=true:=An f
     go_wp2;go_ret;exact⟨by rw[c.out,d.out (by rw[b.out];omega)];rfl,rfl⟩
    ·have q:decide (x<1)=false:=Ak f
     by_cases g:5<x
     ·have s:decide (5<x)=true:=An g
      go_wp2;go_ret;exact⟨by rw[c.out,d.out (by rw[b.out];omega)];rfl,rfl⟩
     ·have s:decide (5<x)=false:=Ak g
      go_wp2
      go_roundw
      case rel=>
       refine⟨by trivial,1,by first|rfl|go_num,by omega,fun k o=> ?_⟩;obtain rfl:k=0:=by omega
       exact b.out.2 ⟨by omega,by omega,fun h=>absurd h (by omega)⟩
      case measure=>simp[intOf];omega
   ·have E:=n (j-1) (by omega)
    rw[Hm _ _ (by omega)]at E;have N:decide ((j:Int)>0)=true:=An (by omega);have O:IntKind.i64.wrap ((j:Int)-1)=((j-1:Nat):Int):=by rw[A9];omega
    have P:((j-1:Nat):Int)<l.length:=by omega
    clear m n
    generalize l.getD j 0=x at*;generalize l.getD (j-1) 0=y at*;by_cases f:x<1
    ·have q:decide (x<1)=true:=An f
     go_wp2;go_ret;exact⟨by rw[c.out,d.out (by rw[b.out];omega)];rfl,rfl⟩
    ·have q:decide (x<1)=false:=Ak f
     by_cases g:5<x
     ·have s:decide (5<x)=true:=An g
      go_wp2;go_ret;exact⟨by rw[c.out,d.out (by rw[b.out];omega)];rfl,rfl⟩
     ·have s:decide (5<x)=false:=Ak g
      by_cases u:x≤y
      ·have I:decide (x≤y)=true:=An u
       go_wp2;go_ret;exact⟨by rw[c.out,d.out (by rw[b.out];omega)];rfl,rfl⟩
      ·have I:decide (x≤y)=false:=Ak u
       go_wp2
       go_roundw
       case rel=>
        refine⟨by trivial,j+1,by go_num,by omega,fun k o=> ?_⟩;by_cases G:k<j
        ·exact D.out k G
        ·obtain rfl:k=j:=by omega
         exact b.out.2 ⟨by omega,by omega,fun h=>by omega⟩
       case measure=>simp[intOf];omega
  ·obtain rfl:j=l.length:=by omega
   by_cases t:l.length=0
   ·have C:decide (0<(l.length:Int))=false:=Ak (by omega)
    go_wp2;go_ret;exact⟨by rw[c.out,Ph t];simp[t],rfl⟩
   ·have C:decide (0<(l.length:Int))=true:=An (by omega)
    go_wp2;go_ret;exact⟨by rw[c.out,NH (by omega) m];simp;omega,rfl⟩
theorem Yh {w:World}{b:Nat}{m:Ms}{a c d e:Value}{T:TypeId}(h:Blk w b (CZ m a c d e) T):w.cell? ⟨b,0,none⟩=some (.int .i64 m.kind):=h.cell 0
theorem SL {w:World}{b:Nat}{m:Ms}{a c d e:Value}{T:TypeId}(h:Blk w b (CZ m a c d e) T):w.cell? ⟨b,1,none⟩=some (.int .i64 m.src):=h.cell 1
theorem Yg {w:World}{b:Nat}{m:Ms}{a c d e:Value}{T:TypeId}(h:Blk w b (CZ m a c d e) T):w.cell? ⟨b,2,none⟩=some (.int .i64 m.dst):=h.cell 2
theorem msc_3 {w:World}{b:Nat}{m:Ms}{a c d e:Value}{T:TypeId}(h:Blk w b (CZ m a c d e) T):w.cell? ⟨b,3,none⟩=some (.int .i64 m.epoch):=h.cell 3
theorem Yf {w:World}{b:Nat}{m:Ms}{a c d e:Value}{T:TypeId}(h:Blk w b (CZ m a c d e) T):w.cell? ⟨b,4,none⟩=some (.int .i64 m.tick):=h.cell 4
theorem Ye {w:World}{b:Nat}{m:Ms}{a c d e:Value}{T:TypeId}(h:Blk w b (CZ m a c d e) T):w.cell? ⟨b,5,none⟩=some (.int .i64 m.seq):=h.cell 5
theorem msc_6 {w:World}{b:Nat}{m:Ms}{a c d e:Value}{T:TypeId}(h:Blk w b (CZ m a c d e) T):w.cell? ⟨b,6,none⟩=some (.int .i64 m.n):=h.cell 6
theorem msc_7 {w:World}{b:Nat}{m:Ms}{a c d e:Value}{T:TypeId}(h:Blk w b (CZ m a c d e) T):w.cell? ⟨b,7,none⟩=some (.int .i64 m.id):=h.cell 7
theorem msc_8 {w:World}{b:Nat}{m:Ms}{a c d e:Value}{T:TypeId}(h:Blk w b (CZ m a c d e) T):w.cell? ⟨b,8,none⟩=some (.int .i64 m.op):=h.cell 8
theorem Yd {w:World}{b:Nat}{m:Ms}{a c d e:Value}{T:TypeId}(h:Blk w b (CZ m a c d e) T):w.cell? ⟨b,9,none⟩=some (.string m.key):=h.cell 9
theorem VH {w:World}{b:Nat}{m:Ms}{a c d e:Value}{T:TypeId}(h:Blk w b (CZ m a c d e) T):w.cell? ⟨b,10,none⟩=some (.int .i64 m.err):=h.cell 10
theorem msc_12 {w:World}{b:Nat}{m:Ms}{a c d e:Value}{T:TypeId}(h:Blk w b (CZ m a c d e) T):w.cell? ⟨b,12,none⟩=some (.string m.it.1):=h.cell 12
theorem msc_13 {w:World}{b:Nat}{m:Ms}{a c d e:Value}{T:TypeId}(h:Blk w b (CZ m a c d e) T):w.cell? ⟨b,13,none⟩=some (.string m.it.2.1):=h.cell 13
theorem msc_14 {w:World}{b:Nat}{m:Ms}{a c d e:Value}{T:TypeId}(h:Blk w b (CZ m a c d e) T):w.cell? ⟨b,14,none⟩=some (.int .i64 m.it.2.2.1):=h.cell 14
theorem msc_15 {w:World}{b:Nat}{m:Ms}{a c d e:Value}{T:TypeId}(h:Blk w b (CZ m a c d e) T):w.cell? ⟨b,15,none⟩=some (.bool m.it.2.2.2):=h.cell 15
theorem EH {w:World}{b:Nat}{m:Ms}{a c d e:Value}{T:TypeId}(h:Blk w b (CZ m a c d e) T):w.cell? ⟨b,16,none⟩=some (a):=h.cell 16
theorem Fb {w:World}{b:Nat}{m:Ms}{c a d e:Value}{T:TypeId}(h:Blk w b (CZ m c a d e) T):w.cell? ⟨b,17,none⟩=some (a):=h.cell 17
theorem msc_18 {w:World}{b:Nat}{m:Ms}{c d a e:Value}{T:TypeId}(h:Blk w b (CZ m c d a e) T):w.cell? ⟨b,18,none⟩=some (a):=h.cell 18
theorem msc_19 {w:World}{b:Nat}{m:Ms}{a c d e:Value}{T:TypeId}(h:Blk w b (CZ m a c d e) T):w.cell? ⟨b,19,none⟩=some (.int .i64 m.base):=h.cell 19
theorem msc_20 {w:World}{b:Nat}{m:Ms}{c d e a:Value}{T:TypeId}(h:Blk w b (CZ m c d e a) T):w.cell? ⟨b,20,none⟩=some (a):=h.cell 20
def mkc (x:Mk):List Value:=[.int .i64 x.1,.string x.2]
def kc (l:List Mk):List Value:=(l.map mkc).flatten
theorem kc_len (l:List Mk):(kc l).length =l.length*2:=Iv mkc 2 (fun _=>rfl) l
abbrev KRd (w:World)(v:Value)(l:List Mk):Prop:=Rv w 2 v l.length (kc l)
theorem mks_at {w:World}{v:Value}{l:List Mk}(h:KRd w v l)(n:0<l.length):∃sb b cap,v=.slice (some ⟨sb,b,none⟩) l.length cap∧
  ∀i,i<l.length→w.cell? ⟨sb,b+i*2,none⟩=some (.int .i64 (l.getD i NQ).1)∧w.cell? ⟨sb,b+i*2+1,none⟩=some (.string (l.getD i NQ).2):=by
 have d:=kc_len l;obtain⟨o,a,cap,rfl,m,g⟩:=h;obtain⟨sb,b,rfl,p,f⟩:=g (by rw[d];omega);refine⟨sb,b,cap,rfl,fun i e=> ?_⟩
 have c:∀j,j<2→w.cell? ⟨sb,b+(i*2+j),none⟩=(mkc (l.getD i NQ))[j]?:=by intro j k;rw[f _ (by rw[d];omega)];unfold kc;rw[Gc mkc 2 (fun _=>rfl) l i j k,Ad e,Af,Ad e];rfl
 refine⟨c 0 (by omega), ?_⟩;rw[Cv];exact c 1 (by omega)
structure MsRd (w:World) (m:Ms) (vi vk vm vo:Value):Prop where
 its:IRd w vi m.its
 mks:KRd w vk m.mks
 mem:Rv w 1 vm m.mem.length (ints m.mem)
 old:Rv w 1 vo m.old.length (ints m.old)
theorem MsRd.keep {w e:World}{m:Ms}{a b c d:Value}(h:MsRd w m a b c d)(k:Keep [] w e):MsRd e m a b c d:=
 ⟨h.its.keep k (by simp),h.mks.keep k (by simp),h.mem.keep k (by simp),h.old.keep k (by simp)⟩
theorem MsRd.alloc {w:World}{m:Ms}{a b c d:Value}(h:MsRd w m a b c d)(o:Obj):MsRd (w.alloc o) m a b c d:=h.keep ((By _ _).alloc o)
structure MsSz (m:Ms):Prop where
 key:m.key.size≤9223372036854775807
 it:m.it.1.size≤9223372036854775807∧m.it.2.1.size≤9223372036854775807
 its:∀y∈m.its,y.1.size≤9223372036854775807∧y.2.1.size≤9223372036854775807
 mks:∀y∈m.mks,y.2.size≤9223372036854775807
 itsn:m.its.length≤1000000
 mksn:m.mks.length≤1000000
 memn:m.mem.length≤1000000
 oldn:m.old.length≤1000000
theorem P0 {l:List Mk}{j:Nat}(b:j<l.length)(h:¬P2 l j):MR l=false:=by unfold MR;exact Ak (fun a=>h (a j b))
theorem R1 {l:List Mk}(h:∀j,j<l.length→P2 l j):MR l=true:=by unfold MR;exact An h
theorem Ue {m:Ms}(h:MR m.mks=false):FM m=false:=by unfold FM;rw[h];rfl
theorem Uf {m:Ms}{j:Nat}{y:It}(a:m.its[j]?=some y)(h:Dj y=false):FM m=false:=by
 unfold FM
 have:m.its.all Dj=false:=by rw[List.all_eq_false];exact⟨y,Aq a,by rw[h];decide⟩
 rw[this,Bool.false_and,Bool.and_false]
theorem GM {w:World}(m:Ms)(U V M N:Value)(h:MsRd w m U V M N)(O:MsSz m)(r:Bool)(hr:r=FM m):
  Calls Tryz.prog 164 #[Yi m U V M N] w fun e w'=>e=.returned (.bool r)∧Keep [] w w':=by
 have HR:=h_ hr;clear hr;have d:=BY w (CZ m U V M N) 175;have h0:=h.alloc (.cells (CZ m U V M N).toArray 175);have K0:=(By [] w).alloc (.cells (CZ m U V M N).toArray 175);have c14:=Fb d;have c13:=EH d;have ax:=O.mksn;have ay:=O.itsn;obtain⟨_,ka,an,rfl,_,_⟩:=id h.mks;obtain⟨_,ia,am,rfl,_,_⟩:=id h.its;go_enter Tryz.func164,Tryz.ntmps164;go_wp2
 go_loopw [3,11] (fun au i wr=>∃j:Nat,i=.int .i64 j∧j≤m.mks.length∧au=.int .i64 (if j=0 then 0 else(m.mks.getD (j-1) NQ).1)∧(∀k,k<j→P2 m.mks k)∧Blk wr w.heap.size (CZ m (.slice ia m.its.length am) (.slice ka m.mks.length an) M N) 175∧Keep [] w wr) (fun _ i _=>m.mks.length-(intOf i).toNat)
 case atStart=>exact⟨0,rfl,by omega,rfl,fun k X=>absurd X (by omega),d,K0⟩
 case round=>
  clear c13 c14 d h0 K0;obtain⟨j,rfl,hj,rfl,D,d,f⟩:=hrel;have q:=h.keep f;have C:=h_ D;clear D;by_cases E:j<m.mks.length
  ·have q0:(j:Int)<m.mks.length:=by omega
   obtain⟨sb,so,c',S,ai⟩:=mks_at q.mks (by omega);simp only[Bn]at S;obtain⟨rfl,_,rfl⟩:=S;obtain⟨e0,e1⟩:=ai j E
   have ac:(m.mks.getD j NQ).2.size ≤9223372036854775807:=by rw[Af,Ad E];exact O.mks _ (BS E)
   have HB:=h_ (fun T=>Ue (P0 E T));have HN:=h_ (show P2 m.mks j↔1≤(m.mks.getD j NQ).1 ∧(m.mks.getD j NQ).1 ≤1099511627776∧itKey (m.mks.getD j NQ).2 =true∧(0<j→(m.mks.getD (j-1) NQ).1 <(m.mks.getD j NQ).1)from Iff.rfl);have HM:=h_ d;have HP:=h_ (fun h0:0<j=>(C.out (j-1) (by omega)).1);clear ai d;generalize hx:m.mks.getD j NQ=x at*;obtain⟨xs,l⟩:=x;simp only at e0 e1 ac;obtain⟨B,ad⟩:∃B:Int,B=if j=0 then 0 else(m.mks.getD (j-1) NQ).1 :=⟨_,rfl⟩
   rw[←ad];obtain⟨HL,HX⟩:=i_2 ad hx;clear hx ad;have u:Blk (wr.alloc (.cells (mkc (xs,l)).toArray 261)) wr.heap.size [.int .i64 xs,.string l] 261:=BY wr (mkc (xs,l)) 261;have d0:(wr.alloc (.cells #[.int .i64 xs,.string l] 261)).cell? ⟨wr.heap.size,0,none⟩=some (.int .i64 xs):=u.cell 0;have d1:(wr.alloc (.cells #[.int .i64 xs,.string l] 261)).cell? ⟨wr.heap.size,1,none⟩=some (.string l):=u.cell 1;have I:=f.alloc (.cells #[.int .i64 xs,.string l] 261);have ab:B=(if j=0 then 0 else(m.mks.getD (j-1) NQ).1):=HL.out
   have aj:¬(B<xs∧xs≤1099511627776∧itKey l=true)→r=false:=fun T=>by
    rw[HR.out];refine HB.out (fun hm=>T ?_);have Y:=HN.out.1 hm;rw[ab];refine⟨?_,Y.2.1,Y.2.2.1⟩
    split
    ·exact Y.1
    ·exact Y.2.2.2 (by omega)
   have ak:B<xs→xs≤1099511627776→itKey l=true→∀k,k<j+1→P2 m.mks k:=fun a b c k X=>by
    by_cases ar:k<j
    ·exact C.out k ar
    ·obtain rfl:k=j:=by omega
     rw[ab]at a;refine HN.out.2 ⟨?_,b,c, ?_⟩
     ·split at a
      ·omega
      ·have:=HP.out (by omega);show 1≤xs;omega
     ·intro h0
      rw[Aw (by omega)]at a;exact a
   obtain⟨aa,ao⟩:=i_2 aj ak;clear aj ak ab u;by_cases Q:xs≤B
   ·have q1:decide (xs≤B)=true:=An Q
    go_wp2;go_ret;exact⟨by rw[aa.out (by omega)];rfl,I⟩
   have q1:decide (xs≤B)=false:=Ak Q;by_cases R:1099511627776<xs
   ·have q2:decide (1099511627776<xs)=true:=An R
    go_wp2;go_ret;exact⟨by rw[aa.out (by omega)];rfl,I⟩
   have q2:decide (1099511627776<xs)=false:=Ak R
   cases A:itKey l with
   |false=>have o:=h_ A.symm;clear A;go_wp2_with fail;refine(KU l ac false o.out).mono ?_;rintro e G ⟨rfl,rfl⟩;go_wp2;go_ret;exact⟨by rw[aa.out (by rw[←o.out];simp)];rfl,I⟩
   |true=>
    have o:=h_ A.symm;clear A;go_wp2_with fail;refine(KU l ac true o.out).mono ?_;rintro e G ⟨rfl,rfl⟩;go_wp2
    go_roundw
    case rel=>exact⟨j+1,by go_num,by omega,by rw[Aw (by omega),Nat.add_sub_cancel,HX.out],ao.out (by omega) (by omega) o.out.symm,HM.out.alloc _,I⟩
    case measure=>simp[intOf];omega
  ·obtain rfl:j=m.mks.length:=by omega
   have ap:=h_ (R1 C.out);generalize(if m.mks.length=0 then(0:Int)else(m.mks.getD (m.mks.length-1) NQ).1)=B;have c13:=EH d;clear C E;go_wp2
   go_loopw [36] (fun i wr=>∃j:Nat,i=.int .i64 j∧j≤m.its.length∧(∀k y,k<j→m.its[k]?=some y→Dj y=true)∧Blk wr w.heap.size (CZ m (.slice ia m.its.length am) (.slice ka m.mks.length an) M N) 175∧Keep [] w wr) (fun i _=>m.its.length-(intOf i).toNat)
   case atStart=>exact⟨0,rfl,by omega,fun k y X=>absurd X (by omega),d,f⟩
   case round=>
    clear c13 d f q;obtain⟨j,rfl,hj,D,d,f⟩:=hrel;have q:=h.keep f;have C:=h_ D;clear D;by_cases E:j<m.its.length
    ·have q0:(j:Int)<m.its.length:=by omega
     obtain⟨y,J⟩:∃y,m.its[j]?=some y:=⟨_,Ad E⟩;obtain⟨sb,so,c',S,_,_,e0,e1,e2,e3⟩:=VR q.its j y J;simp only[Bn]at S;obtain⟨rfl,_,rfl⟩:=S;obtain⟨ae,af⟩:=O.its y (Aq J);have HB:=h_ (fun T=>Uf J T);obtain⟨HM,HY⟩:=i_2 d J;obtain⟨k,v,n,g⟩:=y;simp only at e0 e1 e2 e3 ae af;clear d J q;have u:Blk (wr.alloc (.cells (E8 k v n g).toArray 171)) wr.heap.size (E8 k v n g) 171:=BY wr (E8 k v n g) 171;have d0:(wr.alloc (.cells #[.string k,.string v,.int .i64 n,.bool g] 171)).cell? ⟨wr.heap.size,0,none⟩=some (.string k):=u.cell 0;have d1:(wr.alloc (.cells #[.string k,.string v,.int .i64 n,.bool g] 171)).cell? ⟨wr.heap.size,1,none⟩=some (.string v):=u.cell 1;have d2:(wr.alloc (.cells #[.string k,.string v,.int .i64 n,.bool g] 171)).cell? ⟨wr.heap.size,2,none⟩=some (.int .i64 n):=u.cell 2;have d3:(wr.alloc (.cells #[.string k,.string v,.int .i64 n,.bool g] 171)).cell? ⟨wr.heap.size,3,none⟩=some (.bool g):=u.cell 3;have I:=f.alloc (.cells #[.string k,.string v,.int .i64 n,.bool g] 171);clear u
     cases A:itMay k v n g with
     |false=>have o:=h_ A.symm;clear A;go_wp2_with fail;refine(FT k v n g ae af false o.out).mono ?_;rintro e G ⟨rfl,Z⟩;go_wp2;go_ret;exact⟨by rw[HR.out,HB.out o.out.symm];rfl,I.trans Z⟩
     |true=>
      have o:=h_ A.symm;clear A;go_wp2_with fail;refine(FT k v n g ae af true o.out).mono ?_;rintro e G ⟨rfl,Z⟩;go_wp2
      go_roundw
      case rel=>
       refine⟨j+1,by go_num,by omega,fun i z hi ag=> ?_,(HM.out.alloc _).keep Z (by simp),I.trans Z⟩;by_cases aq:i<j
       ·exact C.out i z aq ag
       ·obtain rfl:i=j:=by omega
        rw[HY.out]at ag
        cases ag
        exact o.out.symm
      case measure=>simp[intOf];omega
    ·obtain rfl:j=m.its.length:=by omega
     have D:m.its.all Dj=true:=by rw[Cr];intro y J;obtain⟨i,hi,rfl⟩:=Dq J;exact C.out i _ hi (Ad hi)
     have al:r=(decide (m.its.length≤4)&&(decide (m.mks.length≤4)&&((decide (m.mem.length=0)||nodesOk m.mem)&&(decide (m.old.length=0)||nodesOk m.old)))):=by rw[HR.out];unfold FM;rw[ap.out,D];rfl
     have H:=h_ al;clear C E D al;obtain⟨_,ma,az,rfl,_,_⟩:=id h.mem;obtain⟨_,oa,a0,rfl,_,_⟩:=id h.old;have c16:=EH d;have c17:=Fb d;have c18:=msc_18 d;have c20:=msc_20 d;have av:=O.memn;have aw:=O.oldn;by_cases Q:m.its.length≤4
     case neg=>have q1:decide ((m.its.length:Int)≤4)=false:=Ak (by omega);have F:decide (m.its.length≤4)=false:=Ak Q;go_wp2;go_ret;exact⟨by rw[H.out,F];rfl,f⟩
     have q1:decide ((m.its.length:Int)≤4)=true:=An (by omega);have F:decide (m.its.length≤4)=true:=An Q;by_cases R:m.mks.length≤4
     case neg=>have q2:decide ((m.mks.length:Int)≤4)=false:=Ak (by omega);have K:decide (m.mks.length≤4)=false:=Ak R;go_wp2;go_ret;exact⟨by rw[H.out,F,K];rfl,f⟩
     have q2:decide ((m.mks.length:Int)≤4)=true:=An (by omega);have K:decide (m.mks.length≤4)=true:=An R;by_cases W:m.mem.length=0
     ·have q3:((m.mem.length:Int)==0)=true:=by simpa using W
      have P:decide (m.mem.length=0)=true:=An W;by_cases t:m.old.length=0
      ·have q4:((m.old.length:Int)==0)=true:=by simpa using t
       have L:decide (m.old.length=0)=true:=An t;go_wp2;go_ret;exact⟨by rw[H.out,F,K,P,L];rfl,f⟩
      ·have q4:((m.old.length:Int)==0)=false:=by simpa using t
       have L:decide (m.old.length=0)=false:=Ak t;obtain⟨b,s⟩:∃b,b=nodesOk m.old:=⟨_,rfl⟩;have p:=h_ s;clear s;go_wp2_with fail;refine(Dr _ m.old q.old (by omega) b p.out).mono ?_;rintro e G ⟨rfl,rfl⟩;go_wp2;go_ret;exact⟨by rw[H.out,F,K,P,L,p.out];simp,f⟩
     ·have q3:((m.mem.length:Int)==0)=false:=by simpa using W
      have P:decide (m.mem.length=0)=false:=Ak W
      cases s:nodesOk m.mem with
      |false=>have p:=h_ s.symm;clear s;go_wp2_with fail;refine(Dr _ m.mem q.mem (by omega) false p.out).mono ?_;rintro e G ⟨rfl,rfl⟩;go_wp2;go_ret;exact⟨by rw[H.out,F,K,P,←p.out];rfl,f⟩
      |true=>
       have p:=h_ s.symm;clear s;by_cases t:m.old.length=0
       ·have q4:((m.old.length:Int)==0)=true:=by simpa using t
        have L:decide (m.old.length=0)=true:=An t;go_wp2_with fail;refine(Dr _ m.mem q.mem (by omega) true p.out).mono ?_;rintro e G ⟨rfl,rfl⟩;go_wp2;go_ret;exact⟨by rw[H.out,F,K,P,←p.out,L];rfl,f⟩
       ·have q4:((m.old.length:Int)==0)=false:=by simpa using t
        have L:decide (m.old.length=0)=false:=Ak t;obtain⟨b,s⟩:∃b,b=nodesOk m.old:=⟨_,rfl⟩;have ah:=h_ s;clear s;go_wp2_with fail;refine(Dr _ m.mem q.mem (by omega) true p.out).mono ?_;rintro e G ⟨rfl,rfl⟩;go_wp2_with fail;refine(Dr _ m.old q.old (by omega) b ah.out).mono ?_;rintro e G ⟨rfl,rfl⟩;go_wp2;go_ret;exact⟨by rw[H.out,F,K,P,←p.out,L,ah.out];simp,f⟩
end Go.Proofs.YtnhbioehiiifdaaGreat
