import Derived.Test.YtnhbioehiiifdaaGreatA03
import Derived.Test.YtnhbioehiiifdaaGreatA04
import Derived.Test.YtnhbioehiiifdaaGreatA05
import Derived.Laws.Rows
set_option maxRecDepth 100000
set_option maxHeartbeats 16000000
set_option linter.all false
namespace Go.Proofs.YtnhbioehiiifdaaGreat
open Go.ChangeShapes Go.WideShapes Go.ChangeAt Go.RowKit
theorem Xl (n:Int)(a: -9223372036854775808≤n)(b:n<0):bits .xor .u64 IntKind.u64.max (IntKind.u64.wrap (IntKind.u64.wrap n*2))=(zz n:Int):=by
 have e:IntKind.u64.wrap (IntKind.u64.wrap n*2)=((18446744073709551615-zz n:Nat):Int):=by simp only[Dy];unfold zz;rw[Aw (by omega)];omega
 have c:=IJ n a (by omega);rw[e,show IntKind.u64.max=((18446744073709551615:Nat):Int)from rfl,bits_xor_u64_nat _ _ (by omega) (by omega),Oy _ (by omega)];omega
theorem Xk (n:Int)(a:0≤n):n*2=(zz n:Int):=by unfold zz;rw[Ay a];omega
theorem Pf {w:World}(base:Nat)(v:Value)(l:List Nat)(n:Int)(r:Buf w base 5 v l)(L: -9223372036854775808≤n)(O:n≤9223372036854775807)(Y:l.length≤1099511627776)(W:base≤w.heap.size):
  Calls Tryz.prog 155 #[v,.int .i64 n] w fun e V=>∃v',e=.returned v'∧Onto w base 5 v (l++Ga (zz n)) v' V:=by
 obtain⟨a,cap,rfl⟩:=r.slice;obtain⟨A,t,x,y,z⟩:=AU In;have T:n<0∨0≤n:=by omega
 rcases T with I|I
 ·go_enter Tryz.func155,Tryz.ntmps155
  go_wp2_with fail;rw[Xl n L I];have K:=IJ n L O;generalize q:zz n=Z at*;have C:=h_ q;clear q
  go_loopw [0,5] (fun b u wr=>∃(d:List Nat) (U:Nat) (v':Value),b=v'∧u=.int .u64 U∧U<18446744073709551616∧d++Ga U=l++Ga Z∧Onto w base 5 (.slice a l.length cap) d v' wr) (fun _ u _=>(intOf u).toNat)
  case atStart=>exact⟨l,Z,_,rfl,rfl,K,rfl,YB r⟩
  case round=>
   obtain⟨d,U,v',rfl,rfl,Q,p,c⟩:=hrel;have f:=h_ p;clear p r;by_cases S:127<U
   ·have M:(127:Int)<U:=by omega
    obtain⟨D,E,rfl⟩:=c.buf.slice;have H:d.length+(Ga U).length =l.length+(Ga Z).length :=by have:=A3 List.length f.out;simpa using this
    have F:=DO 10 Z (by omega) (by omega);have G:=c.keep.size;obtain⟨X,k⟩:∃X:Nat,X=U % 128+128:=⟨_,rfl⟩;have J:=or8m U;rw[←k]at J;have B:=h_ k;clear k;have m:=c.buf
    go_wp2_with (at_builtin;refine Bl _ rfl _ _ 81 81 rfl base 5 A (.int .u8 0) 1 1 Ao t x y z rfl (by decide) _ _ _ rfl (m.alloc _) _ 1 (Bb [X]) rfl (Jn Ao _ X _) (by unfold maxLen;omega) (by omega) (by simp;omega) ?_;intro o N g h _ i)
    go_roundw
    case rel=>refine⟨d++[X],U/128,o,rfl,by go_num,by omega, ?_,(c.alloc _).app g h i⟩;rw[←f.out,J3 U (by omega),B.out];simp
    case measure=>simp[intOf];omega
   ·have M:(U:Int)≤127:=by omega
    obtain⟨D,E,rfl⟩:=c.buf.slice;have H:d.length+(Ga U).length =l.length+(Ga Z).length :=by have:=A3 List.length f.out;simpa using this
    have F:=DO 10 Z (by omega) (by omega);have j:=R6 U;have R:0<(Ga U).length :=Cs.2 j;have G:=c.keep.size;have P:=h_ j;clear j;have m:=c.buf
    go_wp2_with (at_builtin;refine Bl _ rfl _ _ 81 81 rfl base 5 A (.int .u8 0) 1 1 Ao t x y z rfl (by decide) _ _ _ rfl (m.alloc _) _ 1 (Bb [U]) rfl (Jn Ao _ U _) (by unfold maxLen;omega) (by omega) (by simp;omega) ?_;intro o N g h _ i)
    go_ret;refine⟨o,rfl, ?_⟩;have s:=(c.alloc (.cells #[.int .u8 (U:Int)] 5)).app g h i;rw[←GO U (by omega),f.out,←C.out]at s;exact s
 ·go_enter Tryz.func155,Tryz.ntmps155
  go_wp2_with fail;rw[Xk n I];have K:=IJ n L O;generalize q:zz n=Z at*;have C:=h_ q;clear q
  go_loopw [0,5] (fun b u wr=>∃(d:List Nat) (U:Nat) (v':Value),b=v'∧u=.int .u64 U∧U<18446744073709551616∧d++Ga U=l++Ga Z∧Onto w base 5 (.slice a l.length cap) d v' wr) (fun _ u _=>(intOf u).toNat)
  case atStart=>exact⟨l,Z,_,rfl,rfl,K,rfl,YB r⟩
  case round=>
   obtain⟨d,U,v',rfl,rfl,Q,p,c⟩:=hrel;have f:=h_ p;clear p r;by_cases S:127<U
   ·have M:(127:Int)<U:=by omega
    obtain⟨D,E,rfl⟩:=c.buf.slice;have H:d.length+(Ga U).length =l.length+(Ga Z).length :=by have:=A3 List.length f.out;simpa using this
    have F:=DO 10 Z (by omega) (by omega);have G:=c.keep.size;obtain⟨X,k⟩:∃X:Nat,X=U % 128+128:=⟨_,rfl⟩;have J:=or8m U;rw[←k]at J;have B:=h_ k;clear k;have m:=c.buf
    go_wp2_with (at_builtin;refine Bl _ rfl _ _ 81 81 rfl base 5 A (.int .u8 0) 1 1 Ao t x y z rfl (by decide) _ _ _ rfl (m.alloc _) _ 1 (Bb [X]) rfl (Jn Ao _ X _) (by unfold maxLen;omega) (by omega) (by simp;omega) ?_;intro o N g h _ i)
    go_roundw
    case rel=>refine⟨d++[X],U/128,o,rfl,by go_num,by omega, ?_,(c.alloc _).app g h i⟩;rw[←f.out,J3 U (by omega),B.out];simp
    case measure=>simp[intOf];omega
   ·have M:(U:Int)≤127:=by omega
    obtain⟨D,E,rfl⟩:=c.buf.slice;have H:d.length+(Ga U).length =l.length+(Ga Z).length :=by have:=A3 List.length f.out;simpa using this
    have F:=DO 10 Z (by omega) (by omega);have j:=R6 U;have R:0<(Ga U).length :=Cs.2 j;have G:=c.keep.size;have P:=h_ j;clear j;have m:=c.buf
    go_wp2_with (at_builtin;refine Bl _ rfl _ _ 81 81 rfl base 5 A (.int .u8 0) 1 1 Ao t x y z rfl (by decide) _ _ _ rfl (m.alloc _) _ 1 (Bb [U]) rfl (Jn Ao _ U _) (by unfold maxLen;omega) (by omega) (by simp;omega) ?_;intro o N g h _ i)
    go_ret;refine⟨o,rfl, ?_⟩;have s:=(c.alloc (.cells #[.int .u8 (U:Int)] 5)).app g h i;rw[←GO U (by omega),f.out,←C.out]at s;exact s
def BL (l:List Int):List Nat:=(l.map fun n=>Ga (zz n)).flatten
theorem OW (l:List Int)(n:Int):BL (l++[n])=BL l++Ga (zz n):=by simp[BL]
theorem Ou {w:World}(base:Nat)(v:Value)(l:List Nat)(h:Value)(c:List Int)(p:Buf w base 5 v l)(r:Rv w 1 h c.length (ints c))(z:0<c.length→∀b,h.ownBlock=some b→v.ownBlock≠some b)
  (u:∀n∈c,II n) (O:l.length+10*c.length≤1099511627776) (J:base≤w.heap.size):
  Calls Tryz.prog 112 #[v,h] w fun e C=>∃v',e=.returned v'∧Onto w base 5 v (l++BL c) v' C:=by
 obtain⟨a,cap,rfl⟩:=p.slice;have s:=r;obtain⟨_,D,E,rfl,K,_⟩:=r;go_enter Tryz.func112,Tryz.ntmps112;go_wp2
 go_loopw [0,9] (fun b i wr=>∃(k:Nat) (v':Value),k≤c.length∧b=v'∧i=.int .i64 k∧Onto w base 5 (.slice a l.length cap) (l++BL (c.take k)) v' wr∧(l++BL (c.take k)).length ≤l.length+10*k) (fun _ i _=>c.length-(intOf i).toNat)
 case atStart=>exact⟨0,_,by omega,rfl,rfl,by simpa[BL]using YB p,by simp[BL]⟩
 case round=>
  obtain⟨k,v',L,rfl,rfl,d,I⟩:=hrel;by_cases f:k<c.length
  ·obtain⟨sb,A,F,q,_,y,o⟩:=s.at1 (by omega)
   simp only[Bn]at q;obtain⟨rfl,_,rfl⟩:=q
   have G:wr.cell? ⟨sb,A+k,none⟩=some (.int .i64 (c.getD k 0)):=by rw[d.keep.cell y (by have:=z (by omega) sb rfl;simp at this⊢;intro e;exact this e),o k f,Hm c k f]
   have j:=OW (c.take k) (c.getD k 0);rw[←EC _ _ _ f]at j;have m:=h_ j;have g:II (c.getD k 0):=u _ (by simp[Af,f]);clear j o s;generalize c.getD k 0=x at*;have M:(k:Int)<c.length:=by omega
   have N:=d.keep.size;have H:=DO 10 (zz x) (by have:=IJ x g.1 g.2;omega) (by omega);go_wp2_with fail;refine(Pf base _ _ x d.buf g.1 g.2 (by omega) (by omega)).mono ?_;rintro e P ⟨B,rfl,t⟩;go_wp2
   go_roundw
   case rel=>exact⟨k+1,B,by omega,rfl,by go_num,by rw[m.out,←Ax];exact d.trans t,by rw[m.out,←Ax,Aj];omega⟩
   case measure=>simp[intOf];omega
  ·obtain rfl:k=c.length:=by omega
   rw[Bt]at d;go_wp2;go_ret;exact⟨_,rfl,d⟩
def Cf (t:ByteArray):List Nat:=Ga (zz (t.size:Int))++sb t
def B8 (l:List ByteArray):List Nat:=(l.map Cf).flatten
theorem Mq (l:List ByteArray)(t:ByteArray):B8 (l++[t])=B8 l++Cf t:=by simp[B8]
theorem Q7 {w:World}(base:Nat)(v:Value)(l:List Nat)(m:Value)(c:List ByteArray)(u:Buf w base 5 v l)(D:Rv w 1 m c.length (Tv c))(M:0<c.length→∀b,m.ownBlock=some b→v.ownBlock≠some b)
  (B:Nat) (h:∀t∈c,t.size≤B) (hl:l.length+(B+10)*c.length≤1099511627776) (aa:base≤w.heap.size):
  Calls Tryz.prog 219 #[v,m] w fun e S=>∃v',e=.returned v'∧Onto w base 5 v (l++B8 c) v' S:=by
 obtain⟨a,cap,rfl⟩:=u.slice;have E:=D;obtain⟨_,U,W,rfl,ac,_⟩:=D;obtain⟨Q,J,N,O,P⟩:=AU In
 have ah:c.length≤1099511627776:=by have:1*c.length≤(B+10)*c.length:=Ch _ (by omega);omega
 go_enter Tryz.func219,Tryz.ntmps219;go_wp2
 go_loopw [0,9] (fun b i wr=>∃(k:Nat) (v':Value),k≤c.length∧b=v'∧i=.int .i64 k∧Onto w base 5 (.slice a l.length cap) (l++B8 (c.take k)) v' wr∧(l++B8 (c.take k)).length ≤l.length+(B+10)*k) (fun _ i _=>c.length-(intOf i).toNat)
 case atStart=>exact⟨0,_,by omega,rfl,rfl,by simpa[B8]using YB u,by simp[B8]⟩
 case round=>
  obtain⟨k,v',hk,rfl,rfl,d,hL⟩:=hrel;by_cases f:k<c.length
  ·obtain⟨F,R,X,z,_,L,s⟩:=E.at1 (by omega)
   simp only[Bn]at z;obtain⟨rfl,_,rfl⟩:=z
   have Y:wr.cell? ⟨F,R+k,none⟩=some (.string (c.getD k ByteArray.empty)):=by rw[d.keep.cell L (by have:=M (by omega) F rfl;simp at this⊢;intro e;exact this e),s k f,WZ c k f]
   have j:=Mq (c.take k) (c.getD k ByteArray.empty);rw[←EC _ _ _ f]at j;have p:=h_ j;have hx:(c.getD k ByteArray.empty).size ≤B:=h _ (by simp[Af,f]);have K:(B+10)*(k+1)≤(B+10)*c.length:=Nat.mul_le_mul_left _ f;have A:(B+10)*(k+1)=(B+10)*k+(B+10):=Nat.mul_succ _ _;have ab:(l++B8 (List.take k c)).length +(B+10)≤1099511627776:=by omega
   have G:=h_ A;clear j s E K A;generalize c.getD k ByteArray.empty=x at*;have ad:(k:Int)<c.length:=by omega
   have ae:=d.keep.size;have Z:=DO 10 (zz (x.size:Int)) (by have:=IJ (x.size:Int) (by omega) (by omega);omega) (by omega);go_wp2_with fail;refine(Pf base _ _ _ d.buf (by omega) (by omega) (by omega) (by omega)).mono ?_;rintro e w1 ⟨v1,rfl,g⟩;have y:=g.buf;obtain⟨T,V,rfl⟩:=y.slice;have ag:(l++B8 (List.take k c)++Ga (zz ↑x.size)).length ≤(l++B8 (List.take k c)).length +10:=by rw[Aj];omega
   have af:=g.keep.size;have C:x.size=(sb x).length :=(CO x).symm;have o:=h_ C;clear C;generalize r:(l++B8 (List.take k c)++Ga (zz ↑x.size))=L1 at*;have n:=h_ r;clear r
   go_wp2_with (at_builtin;refine Bl _ rfl _ _ 81 9 rfl base 5 Q (.int .u8 0) 1 1 Ao J N O P rfl (by decide) _ _ _ rfl y _ _ _ rfl (Src.ofString _ BG x) (by unfold maxLen;omega) (by omega) (by omega) ?_;intro v2 w2 q H _ I)
   go_roundw
   case rel=>rw[On,o.out]at q;have h:=(d.trans g).app q H I;exact⟨k+1,_,by omega,rfl,by go_num,by rw[p.out];unfold Cf;rw[←Ax,←Ax,n.out];exact h,by rw[p.out];unfold Cf;rw[←Ax,←Ax,n.out,Aj,G.out,←o.out];omega⟩
   case measure=>simp[intOf];omega
  ·obtain rfl:k=c.length:=by omega
   rw[Bt]at d;go_wp2;go_ret;exact⟨_,rfl,d⟩
theorem Hc (l:List Int)(h:∀n∈l,II n):(BL l).length ≤10*l.length:=by
 induction l with
 |nil=>simp[BL]
 |cons x l ih=>have a:=h x (by simp);have:=ih (fun n b=>h n (by simp[b]));have c:=DO 10 (zz x) (by have:=IJ x a.1 a.2;omega) (by omega);simp only[BL,Br,List.flatten_cons,Aj,List.length_cons]at*;omega
theorem Io (l:List Int):∀c∈BL l,c<256:=by intro c a;simp only[BL,DY,AI]at a;obtain⟨x,⟨n,_,rfl⟩,b⟩:=a;exact L5 _ c b
theorem SF (U c k:Nat)(e:U<128^k)(f:U+c % 128*128^k<18446744073709551616):
  bits .or .u64 (U:Int) (IntKind.u64.wrap ((c:Int) % 128*2^(7*k)))=((U+c % 128*128^k:Nat):Int):=by
 have a:(2:Nat)^(7*k)=128^k:=by rw[Nat.pow_mul]
 have b:((c:Int) % 128*2^(7*k))=((c % 128*128^k:Nat):Int):=by rw[←a];simp[Int.natCast_mul,Int.natCast_pow]
 have d:IntKind.u64.wrap ((c % 128*128^k:Nat):Int)=((c % 128*128^k:Nat):Int):=by rw[Dy];omega
 rw[b,d,bits_or_u64_nat _ _ (by omega) (by omega)]
 congr 1
 rw[←a];exact Pe U (c % 128) (7*k) (by rw[a];exact e)
theorem ML (k:Nat)(b:k≤8)(c:Nat):c % 128*128^k+128^k≤18446744073709551615:=by have d:(128:Nat)^k≤128^8:=EM (by decide) b;have a:(128:Nat)^8=72057594037927936:=rfl;rw[a]at d;have:c % 128*128^k≤127*128^k:=Ch _ (by omega);omega
theorem Vz (c:Nat)(a:c≤1):c % 128*128^9+128^9≤18446744073709551616:=by
 have h:c=0∨c=1:=by omega
 rcases h with rfl|rfl<;>decide+kernel
def WP (w:World)(r:Int×Nat×Nat)(e:Ending)(a:World):Prop:=e=.returned (.tuple #[.int .i64 r.1,.int .i64 (r.2.1:Int),.int .i64 (r.2.2:Int)])∧w=a
theorem VY {w:World}{r:Int×Nat×Nat}{a b k:Int}(h:a=b)(c:WP w r (.returned (.tuple #[.int .i64 b,.int .i64 k,.int .i64 0])) w):WP w r (.returned (.tuple #[.int .i64 a,.int .i64 k,.int .i64 0])) w:=by rw[h];exact c
theorem G6 {w:World}(v:Value)(l:List Nat)(h:Rd w v l)(E:∀c∈l,c<256)(hl:l.length≤9223372036854775807)(r:Int×Nat×Nat)(L:r=get l):
  Calls Tryz.prog 184 #[v] w (WP w r):=by
 have C:=h;obtain⟨_,a,cap,rfl,_,_⟩:=h;have n:=h_ L;clear L;go_enter Tryz.func184,Tryz.ntmps184;go_wp2_with fail
 go_loop [5,11] (fun u i=>∃(k U:Nat),k≤l.length∧k≤9∧i=.int .i64 k∧u=.int .u64 U∧U<128^k∧get l=D2 (l.drop k) k U) (fun _ i=>l.length-(intOf i).toNat)
 case atStart=>exact⟨0,0,by omega,by omega,rfl,rfl,by simp,by simp[get]⟩
 case round=>
  obtain⟨k,U,hk,ad,rfl,rfl,g,p⟩:=hrel;by_cases j:k<l.length
  ·obtain⟨af,so,ab,H,_,ae,D⟩:=C.at1 (by omega)
   simp only[Bn]at H;obtain⟨rfl,_,rfl⟩:=H;have B:=D k j;rw[EL l k j]at B;have S:l.getD k 0<256:=E _ (by simp[Af,j]);have F:l.drop k=l.getD k 0::l.drop (k+1):=by rw[Cj j];simp[Af,j]
   rw[F]at p;obtain⟨m,s⟩:=i_2 p g;clear p F D C E g;generalize l.getD k 0=c at*;unfold bc at B;have q0:(k:Int)<l.length:=by omega
   have ha:=and8 c S;have T:(k=9∧1<c)∨(¬(k=9∧1<c)∧127<c)∨(¬(k=9∧1<c)∧c≤127∧0<k∧c=0)∨(¬(k=9∧1<c)∧c≤127∧¬(0<k∧c=0)):=by omega
   rcases T with⟨rfl,e⟩|⟨d,e⟩|⟨d,e,f,t⟩|⟨d,e,f⟩
   ·have Z:(1:Int)<c:=by omega
    go_wp2
    go_ret3
    refine⟨?_,rfl⟩;rw[n.out,m.out];simp[D2,e]
   ·have Z:(127:Int)<c:=by omega
    have ac:k<9:=by omega
    have M:((k:Int)==9)=false:=by simp;omega
    go_wp2_with fail
    go_round
    case rel=>
     have x:=ML k (by omega) c;have g:=s.out;refine⟨k+1,U+c % 128*128^k,by omega,by omega,by go_num,by rw[SF U c k g (by omega)], ?_, ?_⟩
     ·rw[Nat.pow_succ]
      have:c % 128*128^k≤127*128^k:=Ch _ (by omega);omega
     ·rw[m.out]
      simp only[D2,d,D1,e,D5]
    case measure=>simp[intOf];omega
   ·have q5:((c:Int)==0)=true:=by simpa using t
    have q3:(0:Int)<k:=by omega
    have q6:¬((1:Int)<c):=by omega
    have N:=h_ t;clear t;by_cases o:k=9
    all_goals
     first
     |(have M:((k:Int)==9)=true:=by simp;omega)
     |(have M:((k:Int)==9)=false:=by simp;omega)
     have aa:=h_ o;clear o;go_wp2
     go_ret3
     refine⟨?_,rfl⟩;rw[n.out,m.out];simp only[D2,d,D1];rw[Aw (by omega),Ay ⟨f,N.out⟩];rfl
   ·obtain⟨b,q⟩:∃b:Nat,b=U+c*128^k:=⟨_,rfl⟩
    have J:b<18446744073709551616:=by
     have g:=s.out;by_cases o:k=9
     ·subst o
      have:=Vz c (by omega);rw[show c % 128=c by omega]at this;omega
     ·have:=ML k (by omega) c
      rw[show c % 128=c by omega]at this;omega
    have X:=SF U c k s.out (by rw[show c % 128=c by omega,←q];exact J);rw[show c % 128=c by omega,←q]at X;have P:=h_ q;clear q;have q6:¬((127:Int)<c):=by omega
    have I:WP w r (.returned (.tuple #[.int .i64 (O3 b),.int .i64 ((k:Int)+1),.int .i64 0])) w:=by refine⟨?_,rfl⟩;rw[n.out,m.out];simp only[D2,d,D1];rw[Aw (by omega),Aw f,←P.out];rfl
    have O:=h_ I;clear I
    have R:bits .and .u64 (b:Int) 1=((b % 2:Nat):Int):=by rw[show(1:Int)=((1:Nat):Int)from rfl,bits_and_u64_nat _ _ J (by omega),Nat.and_one_is_mod]
    have W:=Xo (b/2) (by omega);have G:((b/2:Nat):Int)=(b:Int)/2:=by omega
    rw[G]at W;have K:((b % 2:Nat):Int)=(b:Int) % 2:=by omega
    rw[K]at R;clear G K
    have Y:((b:Int) % 2==1)=true∨((b:Int) % 2==1)=false:=by cases ((b:Int) % 2==1)<;>simp
    have V:(((k:Int)==9)=true∧decide (0<k)=true∧((c:Int)==0)=false∧¬((1:Int)<c))∨(((k:Int)==9)=false∧decide (0<k)=true∧((c:Int)==0)=false)∨(((k:Int)==9)=false∧decide (0<k)=false):=by simp;omega
    obtain⟨H3,H9⟩:=i_2 f d;clear f d;rcases V with⟨z,A,Q,a4⟩|⟨z,A,Q⟩|⟨z,A⟩
    all_goals
     rcases Y with x|x
     all_goals
      go_wp2
      go_ret3
      have hF:=O.out;unfold O3 at hF;simp only[beq_iff_eq,beq_eq_false_iff_ne]at x
      first
      |(have y:b % 2=1:=by omega
        rw[Ay y]at hF;refine VY ?_ hF;omega)
      |(have y:¬b % 2=1:=by omega
        rw[Aw y]at hF;refine VY ?_ hF;omega)
  ·go_wp2
   go_ret3
   obtain rfl:k=l.length:=by omega
   refine⟨?_,rfl⟩;rw[n.out,p,List.drop_length];simp[D2]
def BR (l:List Nat):List Nat×Nat×Nat:=
 if(get l).2.2 ≠0 then([],0,(get l).2.2)else if(get l).1 <0∨65536<(get l).1 then([],0,1)
 else if((l.length-(get l).2.1 :Nat):Int)<(get l).1 then([],0,2)else((l.drop (get l).2.1).take (get l).1.toNat,(get l).2.1 +(get l).1.toNat,0)
def GotT (w:World)(r:List Nat×Nat×Nat)(e:Ending)(a:World):Prop:=e=.returned (.tuple #[.string (toStr r.1),.int .i64 (r.2.1:Int),.int .i64 (r.2.2:Int)])∧w=a
theorem Ks {w:World}(v:Value)(l:List Nat)(h:Rd w v l)(b:∀c∈l,c<256)(T:l.length≤4611686018427387904)(r:List Nat×Nat×Nat)(o:r=BR l):
  Calls Tryz.prog 298 #[v] w (GotT w r):=by
 have s:=h;obtain⟨_,a,cap,rfl,M,t⟩:=h;have p:=Fq l 0 0 (by omega) (by simp) b;unfold BR at o;have x:get l=D2 l 0 0:=rfl;rw[←x]at p;have d:=h_ s;clear s;generalize y:get l=g at*;obtain⟨n,k,e⟩:=g;simp only at p o;obtain⟨j,f⟩:=i_2 o y;clear o x y;rcases p with⟨rfl,Q,S,R,U,V⟩|⟨G,O,rfl,rfl⟩
 ·have E:n<0∨65536<n∨(0≤n∧n≤65536∧((l.length-k:Nat):Int)<n)∨(0≤n∧n≤65536∧n≤((l.length-k:Nat):Int)):=by omega
  rcases E with i|i|⟨i,z,u⟩|⟨i,z,u⟩
  ·go_enter Tryz.func298,GC
   go_wp2_with fail;refine(G6 _ l d.out b (by omega) _ f.out.symm).mono ?_;rintro e m ⟨rfl,rfl⟩;go_wp2
   go_ret3
   refine⟨?_,rfl⟩;rw[j.out,Aw (by simp),Ay (.inl i)];rfl
  ·go_enter Tryz.func298,GC
   go_wp2_with fail;refine(G6 _ l d.out b (by omega) _ f.out.symm).mono ?_;rintro e m ⟨rfl,rfl⟩;go_wp2
   go_ret3
   refine⟨?_,rfl⟩;rw[j.out,Aw (by simp),Ay (.inr i)];rfl
  ·have A:(l.length:Int)-k<n:=by omega
   go_enter Tryz.func298,GC;go_wp2_with fail;refine(G6 _ l d.out b (by omega) _ f.out.symm).mono ?_;rintro e m ⟨rfl,rfl⟩;go_wp2
   go_ret3
   refine⟨?_,rfl⟩;rw[j.out,Aw (by simp),Aw (by omega),Ay u];rfl
  ·obtain⟨N,rfl⟩:=Int.eq_ofNat_of_zero_le i
   have A:(N:Int)≤(l.length:Int)-k:=by omega
   obtain⟨sb,L,rfl,W,C⟩:=t (by simp;omega)
   have J:r=((l.drop k).take N,k+N,0):=by rw[j.out,Aw (by simp),Aw (by omega),Aw (by omega)];simp
   have q:=h_ J;clear C t;by_cases H:k=cap
   ·have B:N=0:=by omega
    subst B
    have F:∀(a:Option Addr) (c:Nat),Sem.run Tryz.prog (convert 81 9 (.slice a 0 c)) w=.ok (.string (toStr [])) w:=fun a c=>Rd.str (P:=Tryz.prog) (Rv.empty w 1 a c) (by simp) Ao EQ BG
    go_enter Tryz.func298,GC;go_wp2_with fail;refine(G6 _ l d.out b (by omega) _ f.out.symm).mono ?_;rintro e m ⟨rfl,rfl⟩;go_wp2
    go_ret3
    refine⟨?_,rfl⟩;rw[q.out];simp[H]
   ·have K:Rd w (.slice (some ⟨sb,L+k,none⟩) N (cap-k)) ((l.drop k).take N):=by
     have:=d.out.sub k N (cap-k) (by omega) (by omega);rw[D4]at this;have I:((l.drop k).take N).length =N:=by simp;omega
     unfold Rd;rw[I];exact this
    have F:=K.str (P:=Tryz.prog) (src:=81) (dst:=9) (fun c D=>b c (AB (AH D))) Ao EQ BG;go_enter Tryz.func298,GC;go_wp2_with fail;refine(G6 _ l d.out b (by omega) _ f.out.symm).mono ?_;rintro e m ⟨rfl,rfl⟩;go_wp2
    go_ret3
    refine⟨?_,rfl⟩;rw[q.out];simp
 ·have X:((e:Int) !=0)=true:=by simp;omega
  go_enter Tryz.func298,GC;go_wp2_with fail;refine(G6 _ l d.out b (by omega) _ f.out.symm).mono ?_;rintro e m ⟨rfl,rfl⟩;go_wp2
  go_ret3
  refine⟨?_,rfl⟩;rw[j.out,Ay G];rfl
def DA (s:ByteArray)(n:Nat):ByteArray:=if n<s.size then s.extract 0 n else s
theorem DP {w:World}(s:ByteArray)(n:Nat)(d:s.size≤9223372036854775807)(c:n≤1000000):
  Calls Tryz.prog 50 #[.string s,.int .i64 n] w fun e b=>e=.returned (.string (DA s n))∧w=b:=by
 by_cases h:n<s.size
 ·have a:(n:Int)<s.size:=by omega
  go_enter Tryz.func50,Tryz.ntmps50;go_wp2;go_ret;exact⟨by unfold DA;rw[Ay h];rfl,rfl⟩
 ·have a:¬(n:Int)<s.size:=by omega
  go_enter Tryz.func50,Tryz.ntmps50;go_wp2;go_ret;exact⟨by unfold DA;rw[Aw h];rfl,rfl⟩
theorem KY (t:ByteArray):toStr (sb t)=t:=by
 unfold toStr sb
 have e:(t.data.toList.map UInt8.toNat).map UInt8.ofNat=t.data.toList:=by
  rw[EW]
  conv=>rhs;rw[←List.map_id t.data.toList]
  apply List.map_congr_left;intro c _;simp
 rw[e]
theorem Hw (t:ByteArray)(c:t.size≤65536)(r:List Nat):BR (Cf t++r)=(sb t,(Cf t).length,0):=by
 have b:(Cf t).length =(Ga (zz (t.size:Int))).length +t.size:=by unfold Cf;rw[Aj,CO]
 unfold BR
 have a:get (Cf t++r)=((t.size:Int),(Ga (zz (t.size:Int))).length,0):=by unfold Cf;rw[Ax];exact NU _ (by omega) (by omega) _
 rw[a];simp only[ne_eq,E5,D1];rw[Aw (by omega),Aw (by rw[Aj];omega)]
 have e:(Cf t++r).drop (Ga (zz (t.size:Int))).length =sb t++r:=by unfold Cf;rw[Ax,Ec,C8,Bj,Bz (Av _),List.nil_append]
 rw[e,Int.toNat_natCast,b]
 congr 1
 rw[BE (by rw[CO];omega),Ba (by rw[CO];omega)]
abbrev L7 (k v:ByteArray)(n:Int)(g:Bool):Value:= .agg #[.string k,.string v,.int .i64 n,.bool g]
def E8 (k v:ByteArray)(n:Int)(g:Bool):List Value:=[.string k,.string v,.int .i64 n,.bool g]
def itKey (k:ByteArray):Bool:=decide (1≤k.size)&&decide (k.size≤40)
def itMay (k v:ByteArray)(n:Int)(g:Bool):Bool:=
 itKey k&&(decide (v.size≤200)&&(decide (0≤n)&&(decide (n≤1099511627776)&&(!g||(decide (v.size=0)&&decide (n=0))))))
def L8 (k v:ByteArray)(n:Int)(g:Bool)(a:Int):Bool:=itMay k v n g&&(!g&&(decide (n=0)||decide (a<n)))
theorem Jl (s:ByteArray):(s={data:=#[]})↔s.size=0:=by
 constructor
 ·rintro rfl;rfl
 ·intro h
  apply ByteArray.ext;exact Array.eq_empty_of_size_eq_zero h
theorem I5 {s:ByteArray}:s.toList=[]↔s.size=0:=by rw[toList_nil_iff_emptyBytes,←Jl];rfl
theorem UW {s t:ByteArray}(h:s.toList=t.toList):s=t:=by rw[DQ,DQ]at h;apply ByteArray.ext;exact Array.toList_inj.1 h
theorem KU {w:World}(s:ByteArray)(j:s.size≤9223372036854775807)(r:Bool)(c:r=itKey s):Calls Tryz.prog 177 #[.string s] w fun e g=>e=.returned (.bool r)∧w=g:=by
 have a:=h_ c;clear c;by_cases b:s.size=0
 ·obtain rfl:=(Jl s).2 b
  go_enter Tryz.func177,Tryz.ntmps177;go_wp2;go_ret;exact⟨by rw[a.out];rfl,rfl⟩
 ·have i:s.toList.isEmpty=false:=by
   cases h:s.toList with
   |nil=>exact absurd (I5.1 h) b
   |cons _ _=>rfl
  have f:decide (1≤s.size)=true:=An (by omega);go_enter Tryz.func177,Tryz.ntmps177;go_wp2;go_ret;refine⟨?_,rfl⟩;have d:decide ((s.size:Int)≤40)=decide (s.size≤40):=by apply decide_eq_decide.2;omega
  rw[a.out];unfold itKey;rw[f,Dx,←d];rfl
theorem Sq {w:World}(s:ByteArray)(i:s.size≤9223372036854775807)(r:Bool)(b:r=itKey s):Calls Tryz.prog 15 #[.string s] w fun e g=>e=.returned (.bool r)∧w=g:=by
 have a:=h_ b;clear b;by_cases d:s.size=0
 ·obtain rfl:=(Jl s).2 d
  go_enter Tryz.func15,Tryz.ntmps15;go_wp2;go_ret;exact⟨by rw[a.out];rfl,rfl⟩
 ·have f:decide (1≤s.size)=true:=An (by omega)
  have h:decide ((1:Int)≤s.size)=true:=An (by omega);go_enter Tryz.func15,Tryz.ntmps15;go_wp2;go_ret;refine⟨?_,rfl⟩;have c:decide ((s.size:Int)≤40)=decide (s.size≤40):=by apply decide_eq_decide.2;omega
  rw[a.out];unfold itKey;rw[f,Dx,←c];rfl
theorem FT {w:World}(k v:ByteArray)(n:Int)(g:Bool)(m:k.size≤9223372036854775807)(t:v.size≤9223372036854775807)(r:Bool)(h:r=itMay k v n g):
  Calls Tryz.prog 163 #[L7 k v n g] w fun e s=>e=.returned (.bool r)∧Keep [] w s:=by
 have b:=h_ h;clear h;go_enter Tryz.func163,Tryz.ntmps163;go_wp2_with fail;refine(KU k m _ rfl).mono ?_;rintro e y ⟨rfl,rfl⟩
 cases f:itKey k
 ·go_wp2
  go_ret;exact⟨by rw[b.out];unfold itMay;rw[f];rfl,(By _ _).alloc _⟩
 by_cases i:v.size≤200
 case neg=>have o:decide ((200:Int)<v.size)=true:=An (by omega);go_wp2;go_ret;exact⟨by rw[b.out];unfold itMay;rw[Ak (show¬v.size≤200 by omega)];simp,(By _ _).alloc _⟩
 have o:decide ((200:Int)<v.size)=false:=Ak (by omega);by_cases j:0≤n
 case neg=>have p:decide (n<0)=true:=An (by omega);go_wp2;go_ret;exact⟨by rw[b.out];unfold itMay;rw[Ak (show¬0≤n by omega)];simp,(By _ _).alloc _⟩
 have p:decide (n<0)=false:=Ak (by omega);by_cases l:n≤1099511627776
 case neg=>have q:decide (1099511627776<n)=true:=An (by omega);go_wp2;go_ret;exact⟨by rw[b.out];unfold itMay;rw[Ak (show¬n≤1099511627776 by omega)];simp,(By _ _).alloc _⟩
 have q:decide (1099511627776<n)=false:=Ak (by omega)
 have a:r=(!g||(decide (v.size=0)&&decide (n=0))):=by rw[b.out];unfold itMay;rw[f,An i,An j,An l];simp
 have a:=h_ a;cases g
 ·go_wp2
  go_ret;exact⟨by rw[a.out];rfl,(By _ _).alloc _⟩
 by_cases c:v.size=0
 case neg=>
  have u:¬v.toList=[]:=fun e=>c (I5.1 e)
  go_wp2;go_ret;exact⟨by rw[a.out];simp[c],(By _ _).alloc _⟩
 obtain rfl:=(Jl v).2 c;by_cases d:n=0
 ·subst d
  go_wp2;go_ret;exact⟨by rw[a.out];rfl,(By _ _).alloc _⟩
 ·have x:(n==0)=false:=by simpa using d
  go_wp2;go_ret;exact⟨by rw[a.out];simp[d],(By _ _).alloc _⟩
theorem WM {w:World}(k v:ByteArray)(n:Int)(g:Bool)(j:Int)(o:k.size≤9223372036854775807)(p:v.size≤9223372036854775807)(r:Bool)(l:r=L8 k v n g j):
  Calls Tryz.prog 259 #[L7 k v n g,.int .i64 j] w fun e q=>e=.returned (.bool r)∧Keep [] w q:=by
 have a:=h_ l;clear l;go_enter Tryz.func259,Tryz.ntmps259;go_wp2_with fail;refine(FT k v n g o p _ rfl).mono ?_;rintro e m ⟨rfl,i⟩;have f:Blk m w.heap.size (E8 k v n g) 171:=(BY w (E8 k v n g) 171).keep i (by simp);have c:Keep [] w m:=((By _ _).alloc _).trans i;have c2:=f.cell 2;have c3:=f.cell 3;simp only[E8,List.getElem?_cons_succ,List.getElem?_cons_zero]at c2 c3;clear i f
 cases h:itMay k v n g
 ·go_wp2
  go_ret;exact⟨by rw[a.out];unfold L8;rw[h];rfl,c⟩
 cases g
 case true=>go_wp2;go_ret;exact⟨by rw[a.out];unfold L8;rw[h];rfl,c⟩
 have b:r=(decide (n=0)||decide (j<n)):=by rw[a.out];unfold L8;rw[h];rfl
 have b:=h_ b;clear a;by_cases d:n=0
 ·subst d
  go_wp2;go_ret;exact⟨by rw[b.out];rfl,c⟩
 ·have s:(n==0)=false:=by simpa using d
  go_wp2;go_ret;exact⟨by rw[b.out,Ak d,CH];rfl,c⟩
theorem Tryz.sizeItem:(Tryz.prog.info? 171).map (·.size)=some 4:=by kernel_rfl
def If:=@Tryz.sizeItem
theorem EJ (k v:ByteArray)(n:Int)(g:Bool):∀u∈E8 k v n g,u.oneCell'=true:=by intro u a;simp[E8]at a;rcases a with rfl|rfl|rfl|rfl<;>rfl
theorem Tryz.infoItem:(Tryz.prog.info? 171).map (fun i=>(i.zero,i.size,i.bytes))=some (some (.agg #[.string ByteArray.empty,.string ByteArray.empty,.int .i64 0,.bool false]),4,48):=by kernel_rfl
abbrev It:=ByteArray×ByteArray×Int×Bool
def Yk (y:It):List Value:=E8 y.1 y.2.1 y.2.2.1 y.2.2.2
def ic (l:List It):List Value:=(l.map Yk).flatten
theorem ic_len (l:List It):(ic l).length =l.length*4:=Iv Yk 4 (fun _=>rfl) l
theorem X7 (l:List It)(y:It):ic (l++[y])=ic l++Yk y:=by simp[ic]
abbrev IRd (w:World)(v:Value)(l:List It):Prop:=Rv w 4 v l.length (ic l)
theorem VR {w:World}{v:Value}{l:List It}(h:IRd w v l)(i:Nat)(y:It)(e:l[i]?=some y):
  ∃sb b cap,v=.slice (some ⟨sb,b,none⟩) l.length cap∧l.length≤cap∧sb<w.heap.size∧w.cell? ⟨sb,b+i*4,none⟩=some (.string y.1)∧w.cell? ⟨sb,b+i*4+1,none⟩=some (.string y.2.1)∧
   w.cell? ⟨sb,b+i*4+2,none⟩=some (.int .i64 y.2.2.1)∧w.cell? ⟨sb,b+i*4+3,none⟩=some (.bool y.2.2.2):=by
 have p:i<l.length:=(Ai.1 e).1;have d:=ic_len l;obtain⟨o,a,cap,rfl,g,k⟩:=h;obtain⟨sb,b,rfl,n,f⟩:=k (by rw[d];omega)
 have c:∀j,j<4→w.cell? ⟨sb,b+(i*4+j),none⟩=(Yk y)[j]?:=by intro j m;rw[f _ (by rw[d];omega)];unfold ic;rw[Gc Yk 4 (fun _=>rfl) l i j m,e];rfl
 exact⟨sb,b,cap,rfl,g,n,c 0 (by omega),by rw[Cv];exact c 1 (by omega),by rw[Cv];exact c 2 (by omega),by rw[Cv];exact c 3 (by omega)⟩
def JW (w:World)(base:Nat)(v:Value)(l:List It):Prop:=w.ownsRow base 171 4 v l.length (ic l)
theorem JW.nil (w:World)(base:Nat):JW w base (.slice none 0 0) []:=AY w base _ 4
theorem JW.rd {w:World}{base:Nat}{v:Value}{l:List It}(h:JW w base v l):IRd w v l:=Fa h
theorem JW.lt {w:World}{base:Nat}{v:Value}{l:List It}(h:JW w base v l):∀k,v.ownBlock=some k→base≤k∧k<w.heap.size:=B3 h
theorem JW.slice {w:World}{base:Nat}{v:Value}{l:List It}(h:JW w base v l):∃a cap,v=.slice a l.length cap:=by
 rcases h.2 with⟨rfl,b⟩|⟨g,cap,c,rfl,_⟩
 ·exact⟨none,0,by rw[b]⟩
 ·exact⟨_,_,rfl⟩
theorem JW.ty {w:World}{base:Nat}{v:Value}{l:List It}(h:JW w base v l):∀k,v.ownBlock=some k→Ty w k 171:=by
 intro k a;rcases h.2 with⟨rfl,_⟩|⟨g,cap,c,rfl,_,b,_⟩
 ·cases a
 ·cases a;exact⟨_,_,b⟩
theorem JW.keep {w a:World}{base:Nat}{v:Value}{l:List It}{S:List Nat}(h:JW w base v l)(k:Keep S w a)(d:∀b,v.ownBlock=some b→b∉S):JW a base v l:=by
 refine⟨h.1, ?_⟩;have i:=h.lt;rcases h.2 with⟨rfl,j⟩|⟨g,cap,c,rfl,e,f,r⟩
 ·exact .inl ⟨rfl,j⟩
 ·exact .inr ⟨g,cap,c,rfl,e,by rw[k.block g (i g rfl).2 (d g rfl)];exact f,r⟩
theorem JW.alloc {w:World}{base:Nat}{v:Value}{l:List It}(h:JW w base v l)(o:Obj):JW (w.alloc o) base v l:=World.ownsRow.alloc h o
theorem JW.snoc {a:World}{base:Nat}{v':Value}{l:List It}{y:It}(h:a.ownsRow base 171 4 v' (l.length+1) (ic l++Yk y)):JW a base v' (l++[y]):=by unfold JW;rw[X7,Aj];exact h
theorem src_it {P:Program}{t e:TypeId}(c:P.underlying t=some (.slice e))(w:World)(b:Nat)(k v:ByteArray)(n:Int)(g:Bool)(h:Blk w b (E8 k v n g) 171):
  Src P 4 t (.slice (some ⟨b,0,none⟩) 1 1) 1 (Yk (k,v,n,g)) w:=by
 refine CC _ c ⟨b,0,none⟩ 1 1 (Yk (k,v,n,g)) rfl ?_ (EJ _ _ _ _);intro j x d;rw[show(⟨b,0,none⟩:Addr).add j=⟨b,j,none⟩ by by_cases a:j=0<;>simp[Addr.add,a],h.cell];exact d
def gN (g:Bool):Int:=if g=true then 1 else 0
def Dc (y:It):List Nat:=B8 [y.1,y.2.1]++BL [y.2.2.1,gN y.2.2.2]
def CE (l:List It):List Nat:=(l.map Dc).flatten
theorem Ka (l:List It)(y:It):CE (l++[y])=CE l++Dc y:=by simp[CE]
def Dj (y:It):Bool:=itMay y.1 y.2.1 y.2.2.1 y.2.2.2
def BM (l:List It):List Nat:=if l.all Dj=true then CE l else[]
theorem Onto.drew0 {w:World}{base:Nat}{E:TypeId}{v v':Value}{l:List Nat}{a:World}(h:Onto w base E v l v' a):Onto w base E v l v' a.drew:=⟨h.buf,h.keep.drew,h.own⟩
theorem JR {y:It}(h:Dj y=true):1≤y.1.size∧y.1.size≤40∧y.2.1.size≤200∧0≤y.2.2.1∧y.2.2.1≤1099511627776:=by unfold Dj itMay itKey at h;simp only[Ar,A0]at h;exact⟨h.1.1,h.1.2,h.2.1,h.2.2.1,h.2.2.2.1⟩
theorem Hb (k v:ByteArray)(c:k.size≤200)(d:v.size≤200):(B8 [k,v]).length ≤k.size+v.size+20:=by have a:=DO 10 (zz (k.size:Int)) (by have:=IJ (k.size:Int) (by omega) (by omega);omega) (by omega);have b:=DO 10 (zz (v.size:Int)) (by have:=IJ (v.size:Int) (by omega) (by omega);omega) (by omega);simp only[B8,Br,Cy,List.flatten_cons,List.flatten_nil,Aj,Cf,CO,List.length_nil];omega
theorem FG (k v:ByteArray):0<(B8 [k,v]).length :=by have:=R6 (zz (k.size:Int));simp only[B8,Br,List.flatten_cons,Aj,Cf];have:0<(Ga (zz (k.size:Int))).length :=Cs.2 this;omega
theorem RE (g:Bool):II (gN g):=by cases g<;>(unfold gN II;simp)
theorem MH {y:It}(h:Dj y=true):(Dc y).length ≤300:=by obtain⟨e,f,d,g,i⟩:=JR h;have a:=Hb y.1 y.2.1 (by omega) d;have b:=Hc [y.2.2.1,gN y.2.2.2] (by intro n c;simp at c;rcases c with rfl|rfl;exact⟨by omega,by omega⟩;exact RE _);unfold Dc;rw[Aj];simp only[List.length_cons,List.length_nil]at b;omega
def LM (L:List Nat)(k v:ByteArray)(n a:Int)(l:Nat→Bool):List Nat:=if l 11=true then L++B8 [k,v]++BL [n,a]else if l 6=true then L++B8 [k,v]else L
def LJ (a:Value)(l:Nat→Bool)(x:Nat→Value):Value:=if l 11=true then x 11 else if l 6=true then x 6 else a
def encJ (f:World)(base:Nat)(a:Value)(L:List Nat)(t:Nat)(k v:ByteArray)(n b:Int)(l:Nat→Bool)(x:Nat→Value)(c:World):Prop:=
 ∃e d,Onto f base 5 a (LM L k v n b l) (LJ a l x) c∧(l 11=true→l 6=true)∧(l 6=true→l 0=true)∧(l 12=false→x 12=a)∧(l 0=true→x 0=a)∧(l 1=true→x 1=pr t 0)∧(l 2=true→x 2=.string k)∧(l 3=true→x 3=pr t 1)∧(l 4=true→x 4=.string v)∧
 (l 5=true→x 5=.slice (some ⟨e,0,none⟩) 2 2∧Blk c e (Tv [k,v]) 9)∧(l 7=true→x 7=pr t 2)∧(l 8=true→x 8=.int .i64 n)∧(l 9=true→x 9=.int .i64 b)∧
 (l 10=true→x 10=.slice (some ⟨d,0,none⟩) 2 2∧Blk c d (ints [n,b]) 2)∧(l 12=true→x 12=x 11∧l 11=true)
theorem J4 {w:World}(a:Value)(l:List It)(h:IRd w a l)(hl:l.length≤1000000)(hs:∀y∈l,y.1.size≤9223372036854775807∧y.2.1.size≤9223372036854775807):
  Calls Tryz.prog 174 #[a] w fun e Q=>∃v,e=.returned v∧(Buf Q w.heap.size 5 v (BM l)∧(BM l=[]→v=.slice none 0 0))∧Keep [] w Q:=by
 obtain⟨_,aa,cap,rfl,bf,_⟩:=id h;go_enter Tryz.func174,Tryz.ntmps174;go_wp2
 go_loopw [3,9] (fun b i wr=>∃j:Nat,j≤l.length∧i=.int .i64 j∧(l.take j).all Dj=true∧(CE (l.take j)).length ≤300*j∧(Buf wr w.heap.size 5 b (CE (l.take j))∧(CE (l.take j)=[]→b=.slice none 0 0))∧Keep [] w wr) (fun _ i _=>l.length-(intOf i).toNat)
 case atStart=>exact⟨0,by omega,rfl,rfl,by simp[CE],⟨Y4 _ _ _,fun _=>rfl⟩,By _ _⟩
 case round=>
  obtain⟨j,hj,rfl,au,bi,⟨hB,ay⟩,hK⟩:=hrel;have a4:=h_ ay;clear ay;obtain⟨R,S,rfl⟩:=hB.slice;have am:=h_ au;clear au;by_cases bd:j<l.length
  ·have q2:(j:Int)<l.length:=by omega
   obtain⟨y,Y⟩:∃y,l[j]?=some y:=⟨_,Ad bd⟩;have al:=hs y (Aq Y);obtain⟨og,oo,br,V,_,bm,c0,c1,c2,c3⟩:=VR (h.keep hK (by simp)) j y Y;simp only[Bn]at V;obtain⟨rfl,_,rfl⟩:=V;have a1:l.take (j+1)=l.take j++[y]:=by rw[BH,Y];rfl
   have ag:=h_ a1;have a3:=h_ (Aq Y);clear a1 Y;have a0:= @MH y;have af:= @JR y;have az:Dc y=B8 [y.1,y.2.1]++BL [y.2.2.1,gN y.2.2.2]:=rfl;obtain⟨aq,a5,ao⟩:=i_3 az a0 af;clear az a0 af;have aj:Dj y=itMay y.1 y.2.1 y.2.2.1 y.2.2.2:=rfl;obtain⟨m,T⟩:∃m,m=Dj y:=⟨_,rfl⟩;rw[←T]at aj;obtain⟨ad,ap⟩:=i_2 T aj;clear T aj;generalize ar:CE (l.take j)=L at*;have an:=h_ ar;clear ar;obtain⟨k,v,n,g⟩:=y;simp only at c0 c1 c2 c3 al ap aq ao;go_wp2_with fail;refine(FT k v n g al.1 al.2 m ap.out).mono ?_;rintro e w2 ⟨rfl,k2⟩;have ac:=(BY wr (E8 k v n g) 171).keep k2 (by simp);have ah:=(hB.alloc (.cells (E8 k v n g).toArray 171)).keep k2 (by simp);have K2:=(hK.alloc (.cells (E8 k v n g).toArray 171)).trans k2;have bp:=K2.size;clear c0 c1 c2 c3 hB hK k2;generalize wr.heap.size=t at*;have a2:=ac.cell 3;simp only[E8,List.getElem?_cons_succ,List.getElem?_cons_zero]at a2;cases m
   case false=>
    go_wp2;go_ret
    have hE:BM l=[]:=by unfold BM;rw[Aw];intro hc;have:=Cr.1 hc _ a3.out;rw[←ad.out]at this;cases this
    exact⟨_,rfl,⟨by rw[hE];exact Y4 _ _ _,fun _=>rfl⟩,K2⟩
   have af:=ao.out ad.out.symm;obtain⟨bg,bh,bq,bk,bl⟩:=af;go_upto_if 17 with fail;go_cut [6] (fun s wc=>s=.int .i64 (gN g)∧w2=wc)
   case first=>
    cases g
    ·go_wp2_with fail
     go_meet;exact⟨rfl,rfl⟩
    ·go_wp2_with fail
     go_meet;exact⟨rfl,rfl⟩
   case rest=>
   obtain⟨rfl,rfl⟩:=hcut;clear a2;have bb:=RE g;have bc:∀t∈[k,v],t.size≤200:=by intro t ht;simp at ht;rcases ht with rfl|rfl<;>omega
   have ax:∀z∈[n,gN g],II z:=by intro z hz;simp at hz;rcases hz with rfl|rfl;exact⟨by omega,by omega⟩;exact bb
   have bn:=Hb k v (by omega) (by omega);have a6:=h_ (show 0<(B8 [k,v]).length from FG k v);generalize gN g=gi at*;have ae:t∉(Value.slice R L.length S).ownBlock.toList :=by intro T;exact ac.ty.ne (ah.ty' _ (Ae.1 T)) (by decide) rfl
   go_wp2_with fail;refine wIo (encJ w2 w.heap.size (Value.slice R L.length S) L t k v n gi) ?z1xs (.s ?z1x0<|.s ?z1x1<|.s ?z1x2<|.s ?z1x3<|.s ?z1x4<|.s ?z1x5<|.s ?z1x6<|.s ?z1x7<|.s ?z1x8<|.s ?z1x9<|.s ?z1x10<|.s ?z1x11<|.s ?z1x12<|.n) 13 ?z1xf
   case z1xs=>exact⟨0,0,(YB ah).drew0,fun h=>absurd h (by decide),fun h=>absurd h (by decide),fun _=>rfl,fun h=>absurd h (by decide),fun h=>absurd h (by decide),fun h=>absurd h (by decide),fun h=>absurd h (by decide),fun h=>absurd h (by decide),fun h=>absurd h (by decide),fun h=>absurd h (by decide),fun h=>absurd h (by decide),fun h=>absurd h (by decide),fun h=>absurd h (by decide),fun h=>absurd h (by decide)⟩
   case z1x0=>
    intro l x Q F P d;obtain⟨B,A,f,C,G,D,r,o,p,E,I,u,J,M,O,H,N⟩:=F;have be:l 12=false:=by cases h:l 12 with|false=>rfl|true=>have:=G (C (N h).2);rw[P]at this;cases this
    have e12:=D be;refine Oq.of (b:= ?b0) ?e0 ?_
    case e0=>simp only[Al,Act.put,A8,A7,A6,e12];rfl
    intro U K;go_simp;exact K.go _ rfl ⟨B,A,f,C,fun _=>rfl,D,fun _=>rfl,o,p,E,I,u,J,M,O,H,N⟩
   case z1x2=>
    intro l x Q F P d;obtain⟨B,A,f,C,G,D,r,o,p,hr⟩:=F;have e1:=o (d.at rfl);have hT:=ac.keep f.keep ae;have c:=hT.cell 0;simp only[E8,List.getElem?_cons_succ,List.getElem?_cons_zero]at c;refine Oq.of (b:= ?b2) ?e2 ?_
    case e2=>simp only[Al,Act.put,A8,A7,A6,e1];rfl
    intro U K;go_simp;exact K.go _ rfl ⟨B,A,f,C,G,D,r,o,fun _=>rfl,hr⟩
   case z1x4=>
    intro l x Q F P d;obtain⟨B,A,f,C,G,D,r,o,p,E,I,hr⟩:=F;have e3:=E (d.at rfl);have hT:=ac.keep f.keep ae;have c:=hT.cell 1;simp only[E8,List.getElem?_cons_succ,List.getElem?_cons_zero]at c;refine Oq.of (b:= ?b4) ?e4 ?_
    case e4=>simp only[Al,Act.put,A8,A7,A6,e3];rfl
    intro U K;go_simp;exact K.go _ rfl ⟨B,A,f,C,G,D,r,o,p,E,fun _=>rfl,hr⟩
   case z1x5=>
    intro l x Q F P d;obtain⟨B,A,f,C,G,D,r,o,p,E,I,u,J,M,O,H,N⟩:=F;have e2:=p (d.at rfl);have e4:=I (d.at rfl);refine Oq.of (b:= ?b5) ?e5 ?_
    case e5=>simp only[Al,Act.put,A8,A7,A6,e2,e4];rfl
    intro U K;go_simp;exact K.go _ rfl ⟨Q.heap.size,A,f.alloc _,C,G,D,r,o,p,E,I,fun _=>⟨rfl,BY _ (Tv [k,v]) _⟩,J,M,O,fun h=>⟨(H h).1,(H h).2.alloc _⟩,N⟩
   case z1x6=>
    intro l x Q F P d;obtain⟨B,A,f,C,G,D,r,o,p,E,I,u,J,M,O,H,N⟩:=F;have e0:=r (d.at rfl);have e5:=u (d.at rfl);have l0:l 0=true:=by first|exact d.1 rfl|exact d.2.1 rfl|exact d.2.2.1 rfl|exact d.2.2.2.1 rfl|exact d.2.2.2.2.1 rfl|exact d.2.2.2.2.2.1 rfl
    have ab:l 11=false:=by cases h:l 11 with|false=>rfl|true=>have:=C h;rw[P]at this;cases this
    have eV:LJ (Value.slice R L.length S) l x=(Value.slice R L.length S):=by unfold LJ;rw[ab,P];rfl
    have eL:LM L k v n gi l=L:=by unfold LM;rw[ab,P];rfl
    rw[eV,eL]at f;refine Oq.of (b:= ?b6) ?e6 ?_
    case e6=>simp only[Al,Act.put,A8,A7,A6,e0,e5.1];rfl
    intro U K;go_simp;have X:=f.buf;have aw:∀q,(Value.slice R L.length S).ownBlock =some q→B≠q:=fun q W=>e5.2.ty.ne (X.ty' q W) (by decide)
    have ak:Rv Q 1 (.slice (some ⟨B,0,none⟩) [k,v].length [k,v].length) [k,v].length (Tv [k,v]):=Ih e5.2 rfl;refine(Q7 w.heap.size (Value.slice R L.length S) L _ [k,v] X ak (by intro _ q W e;cases W;exact aw _ e rfl) 200 bc (by simp only[List.length_cons,List.length_nil];omega) (by have:=f.keep.size;omega)).mono ?_;rintro e w4 ⟨v1,rfl,Z⟩;go_simp;have a8:LJ (Value.slice R L.length S) (upd l 6 true) (upd x 6 v1)=v1:=by unfold LJ;rw[Bs _ _ _ _ (by decide),ab,Bh];rfl
    have a7:LM L k v n gi (upd l 6 true)=L++B8 [k,v]:=by unfold LM;rw[Bs _ _ _ _ (by decide),ab,Bh];rfl
    have ai:Onto w2 w.heap.size 5 (Value.slice R L.length S) (LM L k v n gi (upd l 6 true)) (LJ (Value.slice R L.length S) (upd l 6 true) (upd x 6 v1)) w4:=by rw[a8,a7];exact f.trans Z
    exact K.go v1 rfl ⟨B,A,ai,fun _=>rfl,fun _=>l0,D,r,o,p,E,I,fun h=>⟨(u h).1,(u h).2.keep Z.keep (by intro T;exact aw _ (Ae.1 T) rfl)⟩,J,M,O,fun h=>⟨(H h).1,(H h).2.keep Z.keep (by intro T;exact(H h).2.ty.ne (X.ty' _ (Ae.1 T)) (by decide) rfl)⟩,N⟩
   case z1x8=>
    intro l x Q F P d;obtain⟨B,A,f,C,G,D,r,o,p,E,I,u,J,M,hr⟩:=F;have e7:=J (d.at rfl);have hT:=ac.keep f.keep ae;have c:=hT.cell 2;simp only[E8,List.getElem?_cons_succ,List.getElem?_cons_zero]at c;refine Oq.of (b:= ?b8) ?e8 ?_
    case e8=>simp only[Al,Act.put,A8,A7,A6,e7];rfl
    intro U K;go_simp;exact K.go _ rfl ⟨B,A,f,C,G,D,r,o,p,E,I,u,J,fun _=>rfl,hr⟩
   case z1x10=>
    intro l x Q F P d;obtain⟨B,A,f,C,G,D,r,o,p,E,I,u,J,M,O,H,N⟩:=F;have e8:=M (d.at rfl);have e9:=O (d.at rfl);refine Oq.of (b:= ?b10) ?e10 ?_
    case e10=>simp only[Al,Act.put,A8,A7,A6,e8,e9];rfl
    intro U K;go_simp;exact K.go _ rfl ⟨B,Q.heap.size,f.alloc _,C,G,D,r,o,p,E,I,fun h=>⟨(u h).1,(u h).2.alloc _⟩,J,M,O,fun _=>⟨rfl,BY _ (ints [n,gi]) _⟩,N⟩
   case z1x11=>
    intro l x Q F P d;obtain⟨B,A,f,C,G,D,r,o,p,E,I,u,J,M,O,H,N⟩:=F;have e10:=H (d.at rfl);have l6:l 6=true:=by first|exact d.1 rfl|exact d.2.1 rfl|exact d.2.2.1 rfl|exact d.2.2.2.1 rfl|exact d.2.2.2.2.1 rfl|exact d.2.2.2.2.2.1 rfl
    have eV:LJ (Value.slice R L.length S) l x=x 6:=by unfold LJ;rw[P,l6];rfl
    have eL:LM L k v n gi l=L++B8 [k,v]:=by unfold LM;rw[P,l6];rfl
    rw[eV,eL]at f;have L6:=h_ l6;clear l6;refine Oq.of (b:= ?b11) ?e11 ?_
    case e11=>simp only[Al,Act.put,A8,A7,A6,e10.1];rfl
    intro U K;go_simp;have X:=f.buf;have av:∀q,(x 6).ownBlock =some q→A≠q:=fun q W=>e10.2.ty.ne (X.ty' q W) (by decide)
    have ak:Rv Q 1 (.slice (some ⟨A,0,none⟩) [n,gi].length [n,gi].length) [n,gi].length (ints [n,gi]):=Ih e10.2 rfl;refine(Ou w.heap.size (x 6) (L++B8 [k,v]) _ [n,gi] X ak (by intro _ q W e;cases W;exact av _ e rfl) ax (by rw[Aj];simp only[List.length_cons,List.length_nil];omega) (by have:=f.keep.size;omega)).mono ?_;rintro e w4 ⟨v1,rfl,Z⟩;go_simp;have ai:Onto w2 w.heap.size 5 (Value.slice R L.length S) (LM L k v n gi (upd l 11 true)) (LJ (Value.slice R L.length S) (upd l 11 true) (upd x 11 v1)) w4:=f.trans Z;exact K.go v1 rfl ⟨B,A,ai,fun _=>L6.out,G,D,r,o,p,E,I,fun h=>⟨(u h).1,(u h).2.keep Z.keep (by intro T;exact(u h).2.ty.ne (X.ty' _ (Ae.1 T)) (by decide) rfl)⟩,J,M,O,fun h=>⟨(H h).1,(H h).2.keep Z.keep (by intro T;exact av _ (Ae.1 T) rfl)⟩,fun h=>absurd ((N h).2.symm.trans P) (by decide)⟩
   case z1x12=>
    intro l x Q F P d;obtain⟨B,A,f,C,G,D,r,o,p,E,I,u,J,M,O,H,N⟩:=F;have ab:l 11=true:=by first|exact d.1 rfl|exact d.2.1 rfl|exact d.2.2.1 rfl|exact d.2.2.2.1 rfl|exact d.2.2.2.2.1 rfl|exact d.2.2.2.2.2.1 rfl
    refine Oq.of (b:= ?b12) ?e12 ?_
    case e12=>simp only[Al,Act.put,A8,A7,A6];rfl
    intro U K;go_simp;exact K.go _ rfl ⟨B,A,f,C,G,fun h=>Bool.noConfusion (show true=false from h),r,o,p,E,I,u,J,M,O,H,fun _=>⟨rfl,ab⟩⟩
   case z1xf=>
    intro l' x w3 F hl;obtain⟨B,A,f,C,G,D,r,o,p,E,I,u,J,M,O,H,N⟩:=F;have e12:=(N (hl 12 (by decide))).1;have eV:LJ (Value.slice R L.length S) l' x=x 11:=by unfold LJ;rw[hl 11 (by decide)];rfl
    have eL:LM L k v n gi l'=L++B8 [k,v]++BL [n,gi]:=by unfold LM;rw[hl 11 (by decide)];rfl
    rw[eV,eL]at f;simp only[Al,Act.put,A8,A7,A6,e12];have ba:=K2.then f.keep (by intro y Y bj;have e:=Ae.1 Y;have:=(ah.lt _ e).1;omega);have a9:=f.buf;have bo:=Hc [n,gi] ax;clear r o p E I u J M O H N hl f eV eL e12 C G D ae;generalize x 11=v2 at*;go_wp2
    go_roundw
    case rel=>
     refine⟨j+1,by omega,by go_num, ?_, ?_, ?_,ba⟩
     ·rw[ag.out,List.all_append,am.out]
      simp only[List.all_cons,List.all_nil,Bool.and_true,Dx];exact ad.out.symm
     ·rw[ag.out,Ka,an.out,Aj]
      have:=a5.out ad.out.symm;omega
     ·rw[ag.out,Ka,an.out,aq.out,←Ax]
      exact⟨a9,fun V=>absurd V (by intro V;have o:=A3 List.length V;simp only[Aj,List.length_nil]at o;have p:=a6.out;omega)⟩
    case measure=>simp[intOf];omega
   all_goals
    intro l x Q F P d;obtain⟨B,A,f,C,G,D,r,o,p,E,I,u,J,M,O,H,N⟩:=F
    try simp[BD,Region.binds]at d
    apply Oq.of
    ·simp only[Al,Act.put,A8,A7,A6,d,r,o,p,E,I,u,J,M,O,H,N];rfl
    clear d;intro U K;go_simp;exact K.go _ rfl ⟨B,A,f,C,G,D,by first|exact r|exact fun _=>rfl,by first|exact o|exact fun _=>rfl,by first|exact p|exact fun _=>rfl,by first|exact E|exact fun _=>rfl,by first|exact I|exact fun _=>rfl,by first|exact u|exact fun _=>rfl,by first|exact J|exact fun _=>rfl,by first|exact M|exact fun _=>rfl,by first|exact O|exact fun _=>rfl,by first|exact H|exact fun _=>rfl,by first|exact N|exact fun _=>rfl⟩
  ·obtain rfl:j=l.length:=by omega
   have o:l.take l.length=l:=Ba (Av _);have HA:=am.out;rw[o]at HA;have hE:BM l=CE l:=by unfold BM;rw[Ay HA]
   obtain⟨HE,H1⟩:=i_2 hE o;clear hE o;go_wp2;go_ret;refine⟨_,rfl,⟨?_, ?_⟩,hK⟩
   ·rw[HE.out]
    have h:=hB;rw[H1.out]at h;show Buf _ _ _ (Value.slice R (CE (l.take l.length)).length S) _;rw[H1.out];exact h
   ·intro V
    rw[HE.out]at V;exact a4.out (by rw[H1.out];exact V)
def Xd (w:World)(p:Option Addr)(v:Int):World:=match p with|some a=>w.setCell a (.int .i64 v)|none=>w
def DR (w:World):List (Option Addr)→List Int→World
 |p::ps,v::vs=>DR (Xd w p v) ps vs
 |_,_=>w
theorem OH (p:Option Addr)(v:Int):∀(ps:List (Option Addr)) (a:List Int) (w:World),ps.length=a.length→DR w (ps++[p]) (a++[v])=Xd (DR w ps a) p v:=by
 intro ps
 induction ps with
 |nil=>intro a w h;have:a=[]:=Bv (by simpa using h.symm);subst this;rfl
 |cons q ps ih=>
  intro a w h
  cases a with
  |nil=>simp at h
  |cons u a=>simp only[List.cons_append,DR];exact ih a _ (by simpa using h)
theorem OG:∀(ps:List (Option Addr)) (a:List Int) (w:World),DR w (ps.take a.length) a=DR w ps a:=by
 intro ps
 induction ps with
 |nil=>intro a w;simp
 |cons p ps ih=>
  intro a w
  cases a with
  |nil=>rfl
  |cons v a=>simp only[List.length_cons,List.take_succ_cons,DR];exact ih a _
def QZ (l:List (Option Addr)):List Value:=l.map Value.pointer
theorem Xm (l:List (Option Addr))(i:Nat)(h:i<l.length):(QZ l)[i]?=some (.pointer (l.getD i none)):=by simp[QZ,AN,Af,h]
def DK (l:List (Option Addr)):List Nat:=l.filterMap fun p=>p.map (·.block)
theorem Ig (S:List Nat):∀(ps:List (Option Addr)) (c:List Int) (w d:World),Keep S w d→(∀b∈DK ps,b∈S)→Keep S w (DR d ps c):=by
 intro ps
 induction ps with
 |nil=>intro c w d h _;cases c<;>exact h
 |cons p ps ih=>
  intro c w d h e
  cases c with
  |nil=>exact h
  |cons v c=>
   simp only[DR]
   cases p with
   |none=>exact ih c w _ h (by simpa[DK]using e)
   |some a=>exact ih c w _ (h.setCell (.inl (e _ (by simp[DK]))) _) (fun b f=>e b (by simp only[DK,List.filterMap_cons,Option.map_some]at f⊢;exact Ap _ f))
theorem N2 (a:Addr):∀(ps:List (Option Addr)) (c:List Int) (w:World),(∃v,w.cell? a=some v)∧w.frozen? a=false→(∃v,(DR w ps c).cell? a=some v)∧(DR w ps c).frozen? a=false:=by
 intro ps
 induction ps with
 |nil=>intro c w h;cases c<;>exact h
 |cons p ps ih=>
  intro c w h
  cases c with
  |nil=>exact h
  |cons v c=>
   simp only[DR];apply ih
   cases p with
   |none=>exact h
   |some b=>obtain⟨⟨u,e⟩,d⟩:=h;exact⟨cell?_setCell_some e,by simp only[Xd];rw[World.frozen?_setCell];exact d⟩
def B4 (l:List Nat):Nat→List Int×Nat×Nat
 |0=>([],0,0)
 |m+1=>if(get l).2.2 ≠0 then([],0,(get l).2.2)else
  ((get l).1 ::(B4 (l.drop (get l).2.1) m).1,if(B4 (l.drop (get l).2.1) m).2.2 ≠0 then 0 else(get l).2.1 +(B4 (l.drop (get l).2.1) m).2.1,(B4 (l.drop (get l).2.1) m).2.2)
def after (a:List Int)(pos:Nat)(r:List Int×Nat×Nat):List Int×Nat×Nat:=(a++r.1,if r.2.2≠0 then 0 else pos+r.2.1,r.2.2)
theorem UA (l:List Nat)(m:Nat):B4 l m=after [] 0 (B4 l m):=by
 have key:∀m l,(B4 l m).2.2 ≠0→(B4 l m).2.1 =0:=by
  intro m
  cases m with
  |zero=>intro l h;simp[B4]at h
  |succ m=>
   intro l h;unfold B4 at h⊢
   split
   ·rfl
   ·rename_i h0
    simp only[h0,D1]at h;simp only[h,D5,ne_eq,not_false_eq_true]
 unfold after;by_cases h:(B4 l m).2.2 ≠0
 ·simp only[h,D5,List.nil_append,ne_eq,not_false_eq_true]
  rw[←key m l h]
 ·simp only[h,D1,List.nil_append,AP]
theorem Sl (b:List Int)(pos:Nat)(l:List Nat)(m:Nat)(h:(get l).2.2 =0):after b pos (B4 l (m+1))=after (b++[(get l).1]) (pos+(get l).2.1) (B4 (l.drop (get l).2.1) m):=by
 unfold after;simp only[B4,h,ne_eq,E5,D1,Ax,List.singleton_append];by_cases a:(B4 (l.drop (get l).2.1) m).2.2 =0
 ·simp only[a,E5,D1,Cv]
 ·simp only[a,not_false_eq_true,D5]
theorem UB (a:List Int)(pos:Nat)(l:List Nat)(m:Nat)(h:(get l).2.2 ≠0):after a pos (B4 l (m+1))=(a,0,(get l).2.2):=by unfold after;simp only[B4,h,ne_eq,not_false_eq_true,D5,AE]
def GotAll (w:World)(ps:List (Option Addr))(r:List Int×Nat×Nat)(e:Ending)(a:World):Prop:=e=.returned (.tuple #[.int .i64 (r.2.1:Int),.int .i64 (r.2.2:Int)])∧a=DR w ps r.1
theorem Tj {w:World}(v J:Value)(l:List Nat)(ps:List (Option Addr))(h:Rd w v l)(f:Rv w 1 J ps.length (QZ ps))(Q:∀c∈l,c<256)(hl:l.length≤4611686018427387904)(a4:ps.length≤1000)
  (q:∀a,some a∈ps→(∃u,w.cell? a=some u)∧w.frozen? a=false) (ah:∀b,v.ownBlock=some b→0<l.length→b∉DK ps) (ai:∀b,J.ownBlock=some b→b∉DK ps)
  (r:List Int×Nat×Nat) (W:r=B4 l ps.length):
  Calls Tryz.prog 134 #[v,J] w (GotAll w ps r):=by
 have M:=h;have V:=f;obtain⟨_,a,cap,rfl,aq,h3⟩:=h;obtain⟨_,a2,ao,rfl,ar,_⟩:=f;have m:=h_ W;clear W;obtain⟨i0,hi,a5,an,a6⟩:=AU In;go_enter Tryz.func134,Tryz.ntmps134;go_wp2
 go_loopw [6,14] (fun p i wr=>∃(k pos:Nat) (d:List Int),k≤ps.length∧pos≤l.length∧i=.int .i64 k∧p=.int .i64 pos∧d.length=k∧wr=DR w (ps.take k) d∧B4 l ps.length=after d pos (B4 (l.drop pos) (ps.length-k))) (fun _ i _=>ps.length-(intOf i).toNat)
 case atStart=>exact⟨0,0,[],by omega,by omega,rfl,rfl,rfl,by cases ps<;>rfl,by simpa using UA l ps.length⟩
 case round=>
  obtain⟨k,pos,d,hk,ag,rfl,rfl,al,z,g⟩:=hrel;by_cases x:k<ps.length
  ·obtain⟨aa,so,ap,s,_,aj,O⟩:=V.at1 (by omega)
   simp only[Bn]at s;obtain⟨rfl,_,rfl⟩:=s
   have ae:∀b∈DK (ps.take k),b∈DK ps:=by intro b Z;unfold DK at Z⊢;obtain⟨p,f,af⟩:=F6.1 Z;exact F6.2 ⟨p,AH f,af⟩
   have S:Keep (DK ps) w wr:=by rw[z];exact Ig _ _ _ _ _ (By _ _) ae
   have g4:wr.cell? ⟨aa,so+k,none⟩=some (.pointer (ps.getD k none)):=by rw[S.cell aj (ai aa rfl),O k x,Xm ps k x]
   have am:Rd wr (.slice a l.length cap) l:=M.keep0 S (fun b ad f=>ah b ad f)
   have I:∀a,ps.getD k none=some a→(∃u,wr.cell? a=some u)∧wr.frozen? a=false:=by intro a ha;rw[z];refine N2 a _ _ w (q a ?_);rw[←ha];simp[Af,x]
   have T:(l.drop pos).length =l.length-pos:=by simp
   have R:∀c∈l.drop pos,c<256:=fun c q=>Q c (AB q)
   obtain⟨P,o⟩:∃P,P=ps.getD k none:=⟨_,rfl⟩;rw[←o]at g4 I;have t:=Fq (l.drop pos) 0 0 (by omega) (by simp) R;have N:get (l.drop pos)=D2 (l.drop pos) 0 0:=rfl;rw[←N]at t;have U:ps.length-k=(ps.length-(k+1))+1:=by omega
   rw[U]at g;obtain⟨G,F⟩:∃G,G=get (l.drop pos):=⟨_,rfl⟩;have y:=Sl d pos (l.drop pos) (ps.length-(k+1));have H:=UB d pos (l.drop pos) (ps.length-(k+1));rw[←F]at t y H;rw[Bu]at y
   have X:DR w (ps.take (k+1)) (d++[G.1])=Xd (DR w (ps.take k) d) P G.1:=by rw[EC ps none k x,OH _ _ _ _ _ (by rw[Az];omega),o]
   obtain⟨B,ac,D,HP,K,L,ab,C⟩:=i_8 g F z o X y H T;have q1:(k:Int)<ps.length:=by omega
   clear g F z o X y H T O V M h3 q Q N U;obtain⟨n,A,E⟩:=G;simp only at t
   go_wp2_with (refine Et _ _ _ _ _ _ _ 5 i0 Ao hi an _ _ _ _ pos rfl rfl rfl am ag ?_;intro v1 Y a3)
   have ak:Rd wr v1 (l.drop pos):=by unfold Rd;rw[C.out];unfold Bb at Y⊢;rw[Dw];exact Y
   refine(G6 v1 (l.drop pos) ak R (by rw[C.out];omega) (n,A,E) ac.out).mono ?_;rintro e w' ⟨rfl,rfl⟩;rcases t with⟨rfl,aw,ay,ax,a0,a1⟩|⟨s,au,rfl,rfl⟩
   ·have az:A≤l.length-pos:=by have:=C.out;omega
    cases P with
    |none=>
     go_wp2
     go_roundw
     case rel=>
      refine⟨k+1,pos+A,d++[n],by omega,by omega,by go_num,by go_num,by simp;omega, ?_, ?_⟩
      ·rw[K.out,D.out];rfl
      ·rw[B.out,L.out (by trivial)]
     case measure=>simp[intOf];omega
    |some a=>
     obtain⟨⟨u,hu⟩,av⟩:=I a rfl;clear I;go_wp2
     go_roundw
     case rel=>
      refine⟨k+1,pos+A,d++[n],by omega,by omega,by go_num,by go_num,by simp;omega, ?_, ?_⟩
      ·rw[K.out,D.out];rfl
      ·rw[B.out,L.out (by trivial)]
     case measure=>simp[intOf];omega
   ·have q2:((E:Int) !=0)=true:=by simp;omega
    go_wp2;go_ret2;have j:B4 l ps.length=(d,0,E):=by rw[B.out,ab.out s]
    refine⟨by rw[m.out,j];rfl, ?_⟩;rw[m.out,j,D.out,←al];exact OG ps d w
  ·obtain rfl:k=ps.length:=by omega
   go_wp2;go_ret2;rw[C8]at g;have j:B4 l ps.length=(d,pos,0):=by rw[g];simp[after,B4]
   refine⟨by rw[m.out,j];rfl, ?_⟩;rw[m.out,j]
theorem X8 (l:List Nat)(h:∀c∈l,c<256):II (get l).1 :=by have:=Fq l 0 0 (by omega) (by decide) h;unfold get II;omega
theorem PK:∀(m:Nat) (l:List Nat),(∀c∈l,c<256)→∀n∈(B4 l m).1,II n:=by
 intro m
 induction m with
 |zero=>intro l _ n a;simp[B4]at a
 |succ m ih=>
  intro l h n a;unfold B4 at a
  split at a
  ·simp at a
  ·simp only[Ac]at a
   rcases a with rfl|a
   ·exact X8 l h
   ·exact ih _ (fun c b=>h c (AB b)) n a
theorem PJ:∀(m:Nat) (l:List Nat),(B4 l m).1.length ≤m∧((B4 l m).2.2 =0→(B4 l m).1.length =m):=by
 intro m
 induction m with
 |zero=>intro l;simp[B4]
 |succ m ih=>
  intro l;have:=ih (l.drop (get l).2.1);unfold B4
  split
  ·rename_i h0
   exact⟨by simp,fun h=>absurd h h0⟩
  ·exact⟨by simp;omega,fun h=>by simp;exact this.2 h⟩
theorem ND (x:Int)(l:List Int):BL (x::l)=Ga (zz x)++BL l:=by simp[BL]
theorem Kh:∀(a:List Int) (r:List Nat),(∀n∈a,II n)→B4 (BL a++r) a.length=(a,(BL a).length,0):=by
 intro a
 induction a with
 |nil=>intro r _;simp[B4,BL]
 |cons x a ih=>intro r h;have b:=h x (by simp);have c:=NU x b.1 b.2 (BL a++r);rw[ND,Ax];have d:=ih r (fun n e=>h n (by simp[e]));simp only[List.length_cons,B4,c];rw[Aw (by simp),EN,d];simp
theorem Nm {w:World}(v u:Value)(l m:List Nat)(r:Bool)(k:Rd w v l)(j:Rd w u m)(f:∀c∈l,c<256)(g:∀c∈m,c<256)(a:r=decide (l=m)):
  Calls Tryz.prog 299 #[v,u] w fun e o=>e=.returned (.bool r)∧w=o:=by
 have x:=Rd.str (P:=Tryz.prog) (src:=81) (dst:=9) k f Ao EQ BG;have n:=Rd.str (P:=Tryz.prog) (src:=81) (dst:=9) j g Ao EQ BG;obtain⟨_,p,c1,rfl,_,_⟩:=id k;obtain⟨_,q,c2,rfl,_,_⟩:=id j;by_cases h:l=m
 ·have b:r=true:=by rw[a];exact An h
  subst b;have d:toStr l=toStr m:=by rw[h]
  rw[←d]at n;clear a h d;go_enter Tryz.func299,Tryz.ntmps299;go_wp2;go_ret;exact⟨rfl,rfl⟩
 ·have b:r=false:=by rw[a];exact Ak h
  subst b;have i:toStr l≠toStr m:=fun e=>h (Tp f g e)
  have d:((toStr l).toList ==(toStr m).toList)=false:=by rw[beq_eq_false_iff_ne];intro e;apply i;rw[DQ,DQ]at e;exact bytes_inj e
  clear i;clear a h;generalize toStr l=s at*;generalize toStr m=t at*;go_enter Tryz.func299,Tryz.ntmps299;go_wp2;go_ret;exact⟨rfl,rfl⟩
theorem IR (l:List Nat)(a:∀c∈l,c<256)(h:(BR l).2.2 =0):1≤(BR l).2.1 ∧(BR l).2.1 ≤l.length∧(BR l).1.length ≤l.length∧∀c∈(BR l).1,c<256:=by
 have b:=Fq l 0 0 (by omega) (by simp) a;have d:get l=D2 l 0 0:=rfl;rw[←d]at b;unfold BR at h⊢;generalize get l=g at*;obtain⟨n,k,e⟩:=g;simp only at b h⊢
 split
 ·rename_i h0;rw[Ay h0]at h;exact absurd h h0
 ·rename_i h0
  rw[Aw h0]at h
  split
  ·rename_i h1;rw[Ay h1]at h;simp at h
  ·rename_i h1
   rw[Aw h1]at h
   split
   ·rename_i h2;rw[Ay h2]at h;simp at h
   ·rename_i h2
    have i:1≤k∧k≤l.length:=by omega
    refine⟨by simp only;omega,by simp only;omega,by simp only[Az,A5];omega, ?_⟩;intro c f;exact a c (AB (AH f))
theorem PI:∀(m:Nat) (l:List Nat),(∀c∈l,c<256)→(B4 l m).2.1 ≤l.length:=by
 intro m
 induction m with
 |zero=>intro l _;simp[B4]
 |succ m ih=>
  intro l a;have e:=Fq l 0 0 (by omega) (by simp) a;have b:get l=D2 l 0 0:=rfl;rw[←b]at e;have:=ih (l.drop (get l).2.1) (fun c d=>a c (AB d));unfold B4
  split
  ·simp
  ·simp only
   split
   ·simp
   ·rw[A5]at this;omega
def LP (b:List Nat):Option (It×Nat):=
 if(BR b).2.2 ≠0 then none else
 if(BR (b.drop (BR b).2.1)).2.2 ≠0 then none else
 if(B4 (b.drop ((BR b).2.1 +(BR (b.drop (BR b).2.1)).2.1)) 2).2.2 ≠0 then none else
 some ((toStr (BR b).1,toStr (BR (b.drop (BR b).2.1)).1,(B4 (b.drop ((BR b).2.1 +(BR (b.drop (BR b).2.1)).2.1)) 2).1.getD 0 0,(B4 (b.drop ((BR b).2.1 +(BR (b.drop (BR b).2.1)).2.1)) 2).1.getD 1 0==1),
  (BR b).2.1 +(BR (b.drop (BR b).2.1)).2.1 +(B4 (b.drop ((BR b).2.1 +(BR (b.drop (BR b).2.1)).2.1)) 2).2.1)
def JS:Nat→List Nat→Option (List It)
 |0,_=>some []
 |f+1,b=>if b=[]then some []else match LP b with
  |none=>none
  |some (y,n)=>(JS f (b.drop n)).map (y:: ·)
theorem Qe (f:Nat):JS f []=some []:=by cases f<;>rfl
def Fp (b:List Nat):Option (List It):=match JS b.length b with
 |none=>none
 |some l=>if BM l=b∧b≠[]then some l else none
theorem Wp (y:It)(h:Dj y=true)(r:List Nat):LP (Dc y++r)=some (y,(Dc y).length):=by
 obtain⟨k,v,n,g⟩:=y;obtain⟨f,i,j,l,m⟩:=JR h;simp only at f i j l m;have s:Dc (k,v,n,g)++r=Cf k++(Cf v++(BL [n,gN g]++r)):=by simp[Dc,B8,Ax]
 have d:=Hw k (by omega) (Cf v++(BL [n,gN g]++r));have e:=Hw v (by omega) (BL [n,gN g]++r);have q:∀z∈[n,gN g],II z:=by intro z c;simp at c;rcases c with rfl|rfl;exact⟨by omega,by omega⟩;exact RE _
 have a:=Kh [n,gN g] r q;rw[show[n,gN g].length =2 from rfl]at a;have b:(Cf k++(Cf v++(BL [n,gN g]++r))).drop (Cf k).length =Cf v++(BL [n,gN g]++r):=by rw[Cp rfl]
 have o:(Cf k++(Cf v++(BL [n,gN g]++r))).drop ((Cf k).length +(Cf v).length)=BL [n,gN g]++r:=by rw[←Bu,b,Cp rfl]
 rw[s];unfold LP;rw[d];simp only[ne_eq,E5,D1,b];rw[e];simp only[ne_eq,E5,D1,o];rw[a];simp only[ne_eq,E5,D1,KY,List.getD_cons_zero,List.getD_cons_succ];have p:(gN g==1)=g:=by cases g<;>rfl
 rw[p];simp[Dc,B8,Aj,Cv]
theorem TJ (y:It):0<(Dc y).length :=by unfold Dc;rw[Aj];have:=FG y.1 y.2.1;omega
theorem Wn:∀(l:List It) (f:Nat),l.all Dj=true→(CE l).length ≤f→JS f (CE l)=some l:=by
 intro l
 induction l with
 |nil=>intro f _ _;exact Qe f
 |cons y l ih=>
  intro f h c;simp only[List.all_cons,Ar]at h;have e:CE (y::l)=Dc y++CE l:=by simp[CE]
  have g:=TJ y;rw[e,Aj]at c
  cases f with
  |zero=>omega
  |succ f=>
   rw[e];have d:¬(Dc y++CE l=[]):=by intro a;have b:=A3 List.length a;rw[Aj,List.length_nil]at b;omega
   unfold JS;rw[Aw d,Wp y h.1];simp only;rw[Cp rfl,ih f h.2 (by omega)];rfl
theorem Uj (l:List It)(h:BM l≠[]):Fp (BM l)=some l:=by
 have a:l.all Dj=true:=by
  cases b:l.all Dj with
  |true=>rfl
  |false=>exact absurd (by unfold BM;rw[b];rfl) h
 have e:BM l=CE l:=by unfold BM;rw[Ay a]
 unfold Fp;rw[e,Wn l _ a (Av _)];rw[e]at h;simp only;rw[Ay ⟨e,h⟩]
theorem Uz (f:Nat)(b:List Nat)(y:It)(n:Nat)(a:b≠[])(h:LP b=some (y,n)):JS (f+1) b=(JS f (b.drop n)).map (y:: ·):=by simp only[JS];rw[Aw a,h]
theorem Wo (f:Nat)(b:List Nat)(a:b≠[])(h:LP b=none):JS (f+1) b=none:=by simp only[JS];rw[Aw a,h]
def GotIts (w:World)(b:List Nat)(e:Ending)(a:World):Prop:=Keep [] w a∧
 ((∃l v,Fp b=some l∧e=.returned (.tuple #[v,.int .i64 0])∧JW a w.heap.size v l)∨(Fp b=none∧e=.returned (.tuple #[.slice none 0 0,.int .i64 1])))
theorem Sx (t:ByteArray):∀c∈sb t,c<256:=by intro c a;unfold sb at a;obtain⟨x,_,rfl⟩:=AI.1 a;have:=x.toNat_lt;omega
theorem QY (y:It):∀c∈Dc y,c<256:=by
 intro c a;unfold Dc B8 at a;simp only[Br,Cy,List.flatten_cons,List.flatten_nil,AE,Ag,Cf]at a;rcases a with((a|a)|(a|a))|a
 ·exact L5 _ c a
 ·exact Sx _ c a
 ·exact L5 _ c a
 ·exact Sx _ c a
 ·exact Io _ c a
theorem LB (l:List It):∀c∈BM l,c<256:=by
 intro c a;unfold BM at a
 split at a
 ·unfold CE at a
  obtain⟨p,d,b⟩:=DY.1 a;obtain⟨y,_,rfl⟩:=AI.1 d;exact QY y c b
 ·cases a
theorem Ui (l:List It):(BM l).length ≤300*l.length:=by
 unfold BM
 split
 ·rename_i h
  induction l with
  |nil=>simp[CE]
  |cons y l ih=>
   simp only[List.all_cons,Ar]at h;have a:=MH h.1;have b:=ih h.2;have e:CE (y::l)=Dc y++CE l:=by simp[CE]
   rw[e,Aj,List.length_cons];omega
 ·simp
theorem set2 (w:World)(b a:Nat)(n g:Int):DR w [some ⟨b,2,none⟩,some ⟨a,0,none⟩] [n,g]=(w.setCell ⟨b,2,none⟩ (.int .i64 n)).setCell ⟨a,0,none⟩ (.int .i64 g):=rfl
theorem rd_add {w:World}{a:Option Addr}{n cap:Nat}{l:List Nat}(h:Rd w (.slice a n cap) l)(k:Nat)(r:k≤l.length):Rd w (.slice (a.map fun x=>x.add k) (l.length-k) (cap-k)) (l.drop k):=by
 obtain⟨s,o,p,d,q,f⟩:=h;simp only[Bn]at d;obtain⟨rfl,_,rfl⟩:=d;refine⟨by simp,_,_,by rw[A5],by rw[A5];omega,fun j=> ?_⟩;rw[Bd,A5]at j;obtain⟨sb,b,rfl,m,e⟩:=f (by rw[Bd];omega);refine⟨sb,b+k, ?_,m,fun i g=> ?_⟩
 ·by_cases c:k=0
  ·subst c;simp[Addr.add]
  ·simp[Addr.add,c]
 ·rw[Bd,A5]at g
  rw[show b+k+i=b+(k+i) by omega,e (k+i) (by rw[Bd];omega)];simp[Bb,Bp,Dw]
theorem PD {w:World}{v:Value}{l:List Nat}(k:Nat)(h:Rv w 1 v (l.length-k) ((Bb l).drop k)):Rd w v (l.drop k):=by unfold Rd;rw[A5,show Bb (l.drop k)=(Bb l).drop k by simp[Bb,Dw]];exact h
theorem NT {w:World}(bv:Value)(b:List Nat)(h:Rd w bv b)(hb:∀c∈b,c<256)(hl:b.length≤100000):
  Calls Tryz.prog 273 #[bv] w (GotIts w b):=by
 obtain⟨i0,hi,dv,cc,dw⟩:=AU In;obtain⟨VS,cz,da,db,dc⟩:=AU Tryz.infoItem;have dm:=fun(W:World) (a:Option Addr) (n c:Nat)=>Lib.run_eql_slice_nil (P:=Tryz.prog) W 81 5 a n c 0 0 Ao
 obtain⟨_,ba,di,rfl,_,_⟩:=id h;have br:=h.lo;obtain⟨H,cl⟩:=i_2 hb br;clear hb br;go_enter Tryz.func273,Tryz.ntmps273;go_wp2
 go_loopw [4,5] (fun lv at_ wr=>∃(pos f:Nat) (i:List It),pos≤b.length∧at_=.int .i64 pos∧b.length-pos≤f∧JS b.length b=(JS f (b.drop pos)).map (i++ ·)∧JW wr w.heap.size lv i∧i.length≤pos∧
  (∀y∈i,y.1.size≤100000∧y.2.1.size≤100000)∧Keep [] w wr) (fun _ at_ _=>b.length-(intOf at_).toNat)
 case atStart=>exact⟨0,b.length,[],by omega,rfl,by omega,by simp,JW.nil _ _,by simp,by simp,By _ _⟩
 case round=>
  obtain⟨pos,f,i,c6,rfl,hf,hD,F,dk,b4,hK⟩:=hrel;obtain⟨I,a8⟩:=i_2 hD b4;clear hD b4;obtain⟨la,a3,rfl⟩:=F.slice;by_cases c5:pos<b.length
  ·have q0:(pos:Int)<b.length:=by omega
   obtain⟨J,rfl⟩:∃J,f=J+1:=⟨f-1,by omega⟩;have a0:b.drop pos≠[]:=by intro h0;have v:=A3 List.length h0;rw[A5,List.length_nil]at v;omega
   have au:∀c∈b.drop pos,c<256:=fun c s=>H.out c (AB s)
   have bg:(b.drop pos).length =b.length-pos:=by simp
   have b3:=Uz J (b.drop pos);have be:=Wo J (b.drop pos) a0;have j:LP (b.drop pos)=LP (b.drop pos):=rfl
   conv at j=>rhs;unfold LP
   have ae:=IR (b.drop pos) au;obtain⟨K,hk⟩:∃K,K=BR (b.drop pos):=⟨_,rfl⟩;rw[←hk]at j ae;obtain⟨HK,co,cp,ah,cd,a4⟩:=i_6 hk a0 b3 be au bg;clear hk a0 b3 be au bg;obtain⟨m,g,ke⟩:=K;simp only at j ae;have a2:Blk (wr.alloc (.cells (E8 {data:=#[]} {data:=#[]} 0 false).toArray 171)) wr.heap.size (E8 {data:=#[]} {data:=#[]} 0 false) 171:=BY _ _ _;have E:=hK.alloc (.cells (E8 {data:=#[]} {data:=#[]} 0 false).toArray 171);have N:=F.alloc (.cells (E8 {data:=#[]} {data:=#[]} 0 false).toArray 171);have X:=h.keep E (by simp);have de:w.heap.size≤wr.heap.size:=hK.size;obtain⟨k,ag⟩:∃W,W=wr.alloc (.cells (E8 {data:=#[]} {data:=#[]} 0 false).toArray 171):=⟨_,rfl⟩;rw[←ag]at a2 E N X;have cb:k.heap.size=wr.heap.size+1:=by rw[ag];simp
   go_wp2_with fail;change Calls _ _ _ (wr.alloc (.cells (E8 {data:=#[]} {data:=#[]} 0 false).toArray 171)) _;rw[←ag];have cs:=h_ cb;have a7:=h_ (show∀q,(Value.slice la i.length a3).ownBlock =some q→q<wr.heap.size from fun q d=>(F.lt q d).2);clear ag cb F hK;generalize wr.heap.size=xb at*;refine(Ks _ (b.drop pos) (rd_add X pos c6) cd.out (by rw[a4.out];omega) (m,g,ke) HK.out).mono ?_;rintro e df ⟨rfl,rfl⟩;simp only;by_cases bn:ke=0
   case neg=>
    have A:LP (b.drop pos)=none:=by rw[j,Ay bn]
    have t:Fp b=none:=by unfold Fp;rw[I.out,ah.out A];rfl
    have q1:((ke:Int) !=0)=true:=by simp;omega
    clear j A;go_wp2;go_ret2;exact⟨E,.inr ⟨t,rfl⟩⟩
   subst bn;obtain⟨bo,bp,bq,dq⟩:=ae rfl;rw[a4.out]at bp bq;rw[Aw (by simp)]at j;clear ae;have av:∀c∈b.drop (pos+g),c<256:=fun c s=>H.out c (AB s)
   have bh:(b.drop (pos+g)).length =b.length-(pos+g):=by simp
   have af:=IR (b.drop (pos+g)) av;have T:(b.drop pos).drop g=b.drop (pos+g):=by rw[Bu]
   rw[T]at j;obtain⟨V,hv⟩:∃V,V=BR (b.drop (pos+g)):=⟨_,rfl⟩;rw[←hv]at j af;obtain⟨HV,ce,a5⟩:=i_3 hv av bh;clear hv av bh T;obtain⟨o,l,ve⟩:=V;simp only at j af;obtain⟨C,a9⟩:=i_2 j af;clear j af;have q2:IntKind.i64.wrap ((pos:Int)+g)=((pos+g:Nat):Int):=by rw[A9];omega
   clear q0
   go_wp2_with (refine Et _ _ _ _ _ _ _ 5 i0 Ao hi cc _ _ _ _ (pos+g) rfl rfl rfl X (by omega) ?_;intro G Y a1)
   have bz:Rd k G (b.drop (pos+g)):=PD _ Y;refine(Ks _ (b.drop (pos+g)) bz ce.out (by rw[a5.out];omega) (o,l,ve) HV.out).mono ?_;rintro e df ⟨rfl,rfl⟩;simp only;by_cases b7:ve=0
   case neg=>
    have A:LP (b.drop pos)=none:=by rw[C.out,Ay b7]
    have t:Fp b=none:=by unfold Fp;rw[I.out,ah.out A];rfl
    have q1:((ve:Int) !=0)=true:=by simp;omega
    clear A;go_wp2;go_ret2;exact⟨E,.inr ⟨t,rfl⟩⟩
   subst b7;obtain⟨dd,b8,b9,dt⟩:=a9.out rfl;rw[a5.out]at b8 b9;have j:=C.out;rw[Aw (by simp)]at j;clear a9 C bz Y a1;have ab:∀c∈b.drop (pos+(g+l)),c<256:=fun c s=>H.out c (AB s)
   have bi:(b.drop (pos+(g+l))).length =b.length-(pos+(g+l)):=by simp
   have ad:=PJ 2 (b.drop (pos+(g+l)));have ac:=PK 2 (b.drop (pos+(g+l))) ab;have U:=PI 2 (b.drop (pos+(g+l))) ab;have T:(b.drop pos).drop (g+l)=b.drop (pos+(g+l)):=by rw[Bu]
   rw[T]at j;obtain⟨M,p⟩:∃M,M=B4 (b.drop (pos+(g+l))) 2:=⟨_,rfl⟩;rw[←p]at j ad ac U;obtain⟨HM,cf,aj⟩:=i_3 p ab bi;clear p ab bi T;obtain⟨ms,mn,me⟩:=M;simp only at j ad ac U;rw[aj.out]at U;obtain⟨C,cm,dh⟩:=i_3 j ad ac;clear j ad ac;have ak:=h_ (show pos+(g+l)≤b.length∧1≤l by omega);have cj:=h_ (show g≤b.length-pos∧m.length≤b.length∧o.length≤b.length by omega);obtain⟨cn,ck⟩:=i_2 U bo;clear dd b8 bo bp U bq b9 c5;have c4:g≤100000∧l≤100000:=by have:=ak.out;omega
   obtain⟨dn,dp⟩:=c4;clear q2;have bl:Blk (k.alloc (.cells #[.int .i64 0] 2)) k.heap.size [.int .i64 0] 2:=BY k [.int .i64 0] _
   go_wp2_with (refine Et _ _ _ _ _ _ _ 5 i0 Ao hi cc _ _ _ _ (pos+g+l) rfl rfl rfl (X.alloc _) (by have:=ak.out;omega) ?_;intro G Y a1)
   have b6:Rv (k.alloc (.cells #[.int .i64 0] 2)) 1 G (b.length-(pos+g+l)) ((Bb b).drop (pos+g+l)):=Y;have b0:Rd (k.alloc (.cells #[.int .i64 0] 2)) G (b.drop (pos+(g+l))):=by rw[←Cv];exact PD _ b6
   have aq:Blk ((k.alloc (.cells #[.int .i64 0] 2)).alloc (.cells #[pr xb 2,pr k.heap.size 0] 236)) (k.heap.size+1) (QZ [some ⟨xb,2,none⟩,some ⟨k.heap.size,0,none⟩]) 236:=Yt _ (QZ [some ⟨xb,2,none⟩,some ⟨k.heap.size,0,none⟩]) _ _ (by simp);have O:=bl.alloc (.cells #[pr xb 2,pr k.heap.size 0] 236);have Q:=(a2.alloc (.cells #[.int .i64 0] 2)).alloc (.cells #[pr xb 2,pr k.heap.size 0] 236);have L:=(N.alloc (.cells #[.int .i64 0] 2)).alloc (.cells #[pr xb 2,pr k.heap.size 0] 236);have ar:=b0.alloc (.cells #[pr xb 2,pr k.heap.size 0] 236);have an:=(E.alloc (.cells #[.int .i64 0] 2)).alloc (.cells #[pr xb 2,pr k.heap.size 0] 236);obtain⟨w2,ca⟩:∃W,W=(k.alloc (.cells #[.int .i64 0] 2)).alloc (.cells #[pr xb 2,pr k.heap.size 0] 236):=⟨_,rfl⟩;rw[←ca]at aq O Q L ar an⊢;have du:w.heap.size≤xb∧xb<k.heap.size:=⟨de,by rw[cs.out];omega⟩;have bw:∀q,G.ownBlock=some q→0<(b.drop (pos+(g+l))).length →q<w.heap.size:=fun q d hp=>cl.out q (by rw[a1]at d;exact d) (by rw[aj.out]at hp;omega)
   have c8:∀q,(Value.slice la i.length a3).ownBlock =some q→w.heap.size≤q∧q<w2.heap.size:=fun q d=>L.lt q d
   have c9:∀q,(Value.slice la i.length a3).ownBlock =some q→q≠k.heap.size∧q<k.heap.size:=fun q d=>⟨by have:=(N.lt q d).2;omega,(N.lt q d).2⟩
   clear ca bl a2 N X b0 b6 Y E h;generalize k.heap.size=gb at*;refine(Tj G _ (b.drop (pos+(g+l))) [some ⟨xb,2,none⟩,some ⟨gb,0,none⟩] ar (Ih aq rfl) cf.out (by rw[aj.out];omega) (by simp) ?_ ?_ ?_ (ms,mn,me) HM.out).mono ?_
   ·intro a ha
    simp only[Ac,BU,Am,AG]at ha;rcases ha with rfl|rfl
    ·exact⟨⟨_,Q.cell 2⟩,Q.free 2⟩
    ·exact⟨⟨_,O.cell 0⟩,O.free 0⟩
   ·intro q d hp p
    have v:=bw q d hp;simp only[DK,List.filterMap_cons,List.filterMap_nil,Option.map_some,Ac,Am,AG]at p;omega
   ·intro q d p
    have v:gb+1=q:=Option.some.inj d;simp only[DK,List.filterMap_cons,List.filterMap_nil,Option.map_some,Ac,Am,AG]at p;omega
   rintro e u ⟨rfl,D⟩;simp only at D⊢
   have ay:Keep [xb,gb] w2 u:=by rw[D];exact Ig _ _ _ _ _ (By _ _) (by intro q d;simp only[DK,List.filterMap_cons,List.filterMap_nil,Option.map_some]at d;exact d)
   have ap:Keep [] w u:=an.then ay (by intro q d bs;simp at d;omega);by_cases bu:me=0
   case neg=>
    have A:LP (b.drop pos)=none:=by rw[C.out,Ay bu]
    have t:Fp b=none:=by unfold Fp;rw[I.out,ah.out A];rfl
    have q1:((me:Int) !=0)=true:=by simp;omega
    clear A D;go_wp2;go_ret2;exact⟨ap,.inr ⟨t,rfl⟩⟩
   subst bu;have bt:=(cm.out).2 rfl
   obtain⟨n,r,rfl⟩:∃n r,ms=[n,r]:=by
    match ms,bt with
    |[a,c],_=>exact⟨a,c,rfl⟩
   have j:=C.out;rw[Aw (by simp)]at j;simp only[List.getD_cons_zero,List.getD_cons_succ]at j;rw[set2]at D;have x:Blk u xb (E8 {data:=#[]} {data:=#[]} n false) 171:=by rw[D];exact(Q.set 2 (.int .i64 n)).other (by show xb≠gb;omega) _
   have bd:Blk u gb [.int .i64 r] 2:=by rw[D];exact((O.other (a:=⟨xb,2,none⟩) (by show gb≠xb;omega) _).set 0 (.int .i64 r))
   have bb:=L.keep ay (by intro q d p;have v:=c9 q d;have Z:=L.ty q d;simp only[Ac,Am,AG]at p;have:=a7.out q d;omega);have ci:=h_ j;clear D ay Q O L aq ar an C j bw c8 bt;have g0:=bd.cell 0;simp only[List.getElem?_cons_zero]at g0;have f0:=x.free 0;have f1:=x.free 1;have f3:=x.free 3;have x0:=x.cell 0;have x1:=x.cell 1;have x3:=x.cell 3;simp only[E8,List.getElem?_cons_zero,List.getElem?_cons_succ]at x0 x1 x3;go_upto_region 16 with fail;have R:Blk (((u.setCell ⟨xb,0,none⟩ (.string (toStr m))).setCell ⟨xb,1,none⟩ (.string (toStr o))).setCell ⟨xb,3,none⟩ (.bool (r==1))) xb (E8 (toStr m) (toStr o) n (r==1)) 171:=((x.set 0 (.string (toStr m))).set 1 (.string (toStr o))).set 3 (.bool (r==1));have az:Keep [xb] u (((u.setCell ⟨xb,0,none⟩ (.string (toStr m))).setCell ⟨xb,1,none⟩ (.string (toStr o))).setCell ⟨xb,3,none⟩ (.bool (r==1))):=(((By _ _).setCell (.inl (by simp)) _).setCell (.inl (by simp)) _).setCell (.inl (by simp)) _;have al:=bb.keep az (by intro q d p;simp only[Ac,Am,AG]at p;have:=a7.out q d;omega);have ao:Keep [] w (((u.setCell ⟨xb,0,none⟩ (.string (toStr m))).setCell ⟨xb,1,none⟩ (.string (toStr o))).setCell ⟨xb,3,none⟩ (.bool (r==1))):=ap.then az (by intro q d bs;simp only[Ac,Am,AG]at d;omega);clear x bb ap az bd g0 f0 f1 f3 x0 x1 x3;generalize bm:(r==1)=gv at*;have dg:=h_ bm;clear bm;generalize cx:(((u.setCell ⟨xb,0,none⟩ (.string (toStr m))).setCell ⟨xb,1,none⟩ (.string (toStr o))).setCell ⟨xb,3,none⟩ (.bool gv))=w4 at*;clear cx;have c0:=R.cell 0;have c1:=R.cell 1;have c2:=R.cell 2;have c3:=R.cell 3;simp only[E8,List.getElem?_cons_zero,List.getElem?_cons_succ]at c0 c1 c2 c3;have cr:=h_ (show(toStr m).size ≤100000∧(toStr o).size ≤100000 by have:=cj.out;rw[KX,KX];omega);have ds:=ao.size;have bc:=BY w4 (E8 (toStr m) (toStr o) n gv) 171;have b2:=src_it (P:=Tryz.prog) Tryz.underlying172 _ _ _ _ _ _ bc;have am:=h_ (show pos+(g+l+mn)≤b.length∧1≤g by have v:=ak.out;have Z:=cn.out;have h3:=ck.out;omega);have dr:mn≤100000:=by have:=am.out;omega
   go_wp2_with (at_builtin;refine Bl _ rfl _ _ 172 172 rfl w.heap.size 171 VS _ 4 48 Tryz.underlying172 cz da db dc rfl (by decide) _ _ _ rfl (al.alloc _) _ 1 _ rfl b2 (by unfold maxLen;omega) (by omega) (by simp;omega) ?_;intro v5 w5 v Z _ h3)
   have cu:=JW.snoc v;have cw:=(ao.alloc (.cells (E8 (toStr m) (toStr o) n gv).toArray 171)).then (DJ Z) (by intro q d bs;have e:=Ae.1 d;have:=(al.lt q e).1;omega);clear v Z h3 al ao c0 c1 c2 c3 R bc b2
   go_roundw
   case rel=>
    have d:=am.out;refine⟨pos+(g+l+mn),J,i++[(toStr m,toStr o,n,gv)],d.1,by go_num,by omega, ?_,cu,by simp;omega, ?_,cw⟩
    ·have e1:=cp.out _ _ co.out ci.out
     rw[I.out,e1,Bu,Option.map_map]
     congr 1
     funext z
     simp[Function.comp_def]
    ·intro y B
     rcases Ag.1 B with B|B
     ·exact a8.out y B
     ·simp only[Ah]at B
      subst B;exact cr.out
   case measure=>have d:=am.out;simp[intOf];omega
  ·obtain rfl:pos=b.length:=by omega
   have bj:b.drop b.length=[]:=Bz (Av _)
   have bf:JS b.length b=some i:=by rw[I.out,bj,Qe];simp
   have cy:i.length≤1000000:=by omega
   have b5:∀y∈i,y.1.size≤9223372036854775807∧y.2.1.size≤9223372036854775807:=fun y B=>by have:=a8.out y B;omega
   obtain⟨ai,cq⟩:=i_2 bf b5;have bk:∀c∈BM i,c<256:=LB i;have dl:(BM i).length ≤300*i.length:=Ui i;have a6:=h_ bk;clear bj bf b5 bk;go_wp2_with fail;refine(J4 _ i F.rd cy cq.out).mono ?_;rintro e w2 ⟨cv,rfl,⟨aw,ax⟩,k2⟩;have ct:=F.keep k2 (by simp);have aa:=hK.trans k2;have bx:=h.keep aa (by simp);by_cases S:BM i=[]
   ·obtain rfl:=ax S
    have t:Fp b=none:=by unfold Fp;rw[ai.out];simp only;rw[Aw];intro s;exact s.2 (by rw[←s.1];exact S)
    clear ax;go_wp2;go_ret2;exact⟨aa,.inr ⟨t,rfl⟩⟩
   ·have c7:0<(BM i).length :=Cs.2 S
    obtain⟨cg,dj,rfl,_⟩:=aw.at' c7;have ch:=h_ S;clear ax S;by_cases d:BM i=b
    ·have b1:Fp b=some i:=by
      unfold Fp;rw[ai.out];simp only;rw[Ay ⟨d,fun e=>ch.out (by rw[d];exact e)⟩]
     obtain⟨HS,HQ⟩:=i_2 b1 d;clear b1 d;go_wp2_with fail;refine(Nm _ _ (BM i) b true aw.rd bx a6.out H.out (An HQ.out).symm).mono ?_;rintro e w' ⟨rfl,rfl⟩;go_wp2;go_ret2;exact⟨aa,.inl ⟨i,_,HS.out,rfl,ct⟩⟩
    ·have t:Fp b=none:=by
      unfold Fp;rw[ai.out];simp only;rw[Aw (fun s=>d s.1)]
     obtain⟨HS,HQ⟩:=i_2 t d;clear t d;go_wp2_with fail;refine(Nm _ _ (BM i) b false aw.rd bx a6.out H.out (Ak HQ.out).symm).mono ?_;rintro e w' ⟨rfl,rfl⟩;go_wp2;go_ret2;exact⟨aa,.inr ⟨HS.out,rfl⟩⟩
abbrev Mk:=Int×ByteArray
structure Ms where
 kind:Int
 src:Int
 dst:Int
 epoch:Int
 tick:Int
 seq:Int
 n:Int
 id:Int
 op:Int
 key:ByteArray
 err:Int
 last:Bool
 it:It
 its:List It
 mks:List Mk
 mem:List Int
 base:Int
 old:List Int
def VS:It:=(ByteArray.empty,ByteArray.empty,0,false)
def Rz:Ms:=⟨0,0,0,0,0,0,0,0,0,ByteArray.empty,0,false,VS,[],[],[],0,[]⟩
def Ey (l:List Int)(j:Nat):Prop:=1≤l.getD j 0∧l.getD j 0≤5∧(0<j→l.getD (j-1) 0<l.getD j 0)
instance (l:List Int) (j:Nat):Decidable (Ey l j):=by unfold Ey;exact inferInstance
def nodesOk (l:List Int):Bool:=decide (0<l.length)&&decide (∀j,j<l.length→Ey l j)
def NQ:Mk:=(0,ByteArray.empty)
def P2 (l:List Mk)(j:Nat):Prop:=1≤(l.getD j NQ).1 ∧(l.getD j NQ).1 ≤1099511627776∧itKey (l.getD j NQ).2 =true∧(0<j→(l.getD (j-1) NQ).1 <(l.getD j NQ).1)
instance (l:List Mk) (j:Nat):Decidable (P2 l j):=by unfold P2;exact inferInstance
def MR (l:List Mk):Bool:=decide (∀j,j<l.length→P2 l j)
def QG (g:Int)(l:List Int):Bool:=l.all fun n=>decide (0≤n∧n≤g)
def Gb (m:Ms):Bool:=decide (1≤m.kind)&&(decide (m.kind≤14)&&(!decide (m.src=m.dst)&&(QG 5 [m.src,m.dst]&&(QG 1099511627776 [m.epoch,m.tick,m.seq,m.id,m.base]&&QG 1073741824 [m.n]))))
def MS (m:Ms):Bool:=QG 2 [m.op]&&(decide (m.key.size≤40)&&QG 10 [m.err])
def FM (m:Ms):Bool:=MR m.mks&&(m.its.all Dj&&(decide (m.its.length≤4)&&(decide (m.mks.length≤4)&&((decide (m.mem.length=0)||nodesOk m.mem)&&(decide (m.old.length=0)||nodesOk m.old)))))
def mayM (m:Ms):Bool:=Gb m&&(MS m&&((decide (m.it=VS)||Dj m.it)&&FM m))
theorem Pi:∀ {l:List Int},nodesOk l=true→l.length≤5∧∀n∈l,II n:=by
 intro l h;unfold nodesOk at h;simp only[Ar,A0]at h;obtain⟨_,h⟩:=h
 have c:∀j,j<l.length→(j:Int)+1≤l.getD j 0:=by
  intro j
  induction j with
  |zero=>intro c;have:=(h 0 c).1;omega
  |succ k ih=>intro b;have a:=ih (by omega);have d:=(h (k+1) b).2.2 (by omega);rw[Nat.add_sub_cancel]at d;omega
 constructor
 ·by_cases f:l.length=0
  ·omega
  ·have a:=c (l.length-1) (by omega)
   have d:=(h (l.length-1) (by omega)).2.1;omega
 ·intro n e
  obtain⟨k,b,rfl⟩:=Dq e;have a:=(h k b);unfold Ey at a;rw[Af,Ad b,Option.getD_some]at a;unfold II;have:=a.1;have:=a.2.1;omega
theorem Tryz.infoMsg:(Tryz.prog.info? 175).map (fun i=>(i.zero,i.size,i.bytes))=some (some (.agg #[.int .i64 0,.int .i64 0,.int .i64 0,.int .i64 0,.int .i64 0,.int .i64 0,.int .i64 0,.int .i64 0,.int .i64 0,.string ByteArray.empty,.int .i64 0,.bool false,.string ByteArray.empty,.string ByteArray.empty,.int .i64 0,.bool false,.slice none 0 0,.slice none 0 0,.slice none 0 0,.int .i64 0,.slice none 0 0]),21,256):=by kernel_rfl
def Y2:=@Tryz.infoMsg
theorem Tryz.sizeMsg:(Tryz.prog.info? 175).map (·.size)=some 21:=by kernel_rfl
def C4:=@Tryz.sizeMsg
def CZ (m:Ms)(a b c d:Value):List Value:=[.int .i64 m.kind,.int .i64 m.src,.int .i64 m.dst,.int .i64 m.epoch,.int .i64 m.tick,.int .i64 m.seq,.int .i64 m.n,.int .i64 m.id,.int .i64 m.op,.string m.key,.int .i64 m.err,.bool m.last,.string m.it.1,.string m.it.2.1,.int .i64 m.it.2.2.1,.bool m.it.2.2.2,a,b,c,.int .i64 m.base,d]
abbrev Yi (m:Ms)(a b c d:Value):Value:= .agg (CZ m a b c d).toArray
theorem Hf (m:Ms)(a b c d:Option Addr)(j f k g l h nd i:Nat):∀v∈CZ m (.slice a j f) (.slice b k g) (.slice c l h) (.slice d nd i),v.oneCell'=true:=by intro v e;simp only[CZ,Ac,Am,AG]at e;rcases e with rfl|rfl|rfl|rfl|rfl|rfl|rfl|rfl|rfl|rfl|rfl|rfl|rfl|rfl|rfl|rfl|rfl|rfl|rfl|rfl|rfl<;>rfl
theorem Uk {g:Int}{l:List Int}{j:Nat}(a:j<l.length)(h:¬(0≤l.getD j 0∧l.getD j 0≤g)):QG g l=false:=by unfold QG;rw[List.all_eq_false];refine⟨l[j],BS a, ?_⟩;rw[Af,Ad a,Option.getD_some]at h;simpa using h
theorem VU {g:Int}{l:List Int}(h:∀j,j<l.length→0≤l.getD j 0∧l.getD j 0≤g):QG g l=true:=by unfold QG;rw[Cr];intro x c;obtain⟨k,b,rfl⟩:=Dq c;have a:=h k b;rw[Af,Ad b,Option.getD_some]at a;simpa using a
theorem LD {w:World}(g:Int)(y:Value)(l:List Int)(h:Rv w 1 y l.length (ints l))(J:l.length≤1000000)(r:Bool)(v:r=QG g l):
  Calls Tryz.prog 162 #[.int .i64 g,y] w fun e G=>e=.returned (.bool r)∧w=G:=by
 have c:=h_ v;clear v;obtain⟨_,a,cap,rfl,_,_⟩:=id h;go_enter Tryz.func162,Tryz.ntmps162;go_wp2
 go_loopw [9] (fun i wr=>wr=w∧∃j:Nat,i=.int .i64 j∧j≤l.length∧∀k,k<j→0≤l.getD k 0∧l.getD k 0≤g) (fun i _=>l.length-(intOf i).toNat)
 case atStart=>exact⟨rfl,0,rfl,by omega,fun k u=>absurd u (by omega)⟩
 case round=>
  obtain⟨D,j,rfl,I,d⟩:=hrel;subst D;by_cases f:j<l.length
  ·have K:(j:Int)<l.length:=by omega
   obtain⟨sb,L,H,s,_,_,p⟩:=h.at1 (by omega);simp only[Bn]at s;obtain⟨rfl,_,rfl⟩:=s;have B:=p j f;rw[Hm _ _ f]at B;have A:=h_ (show l.getD j 0=l.getD j 0 from rfl);have q:=Uk (g:=g) f
   have t:0≤l.getD j 0→l.getD j 0≤g→∀k,k<j+1→0≤l.getD k 0∧l.getD k 0≤g:=fun a b k u=>by
    by_cases C:k<j
    ·exact d k C
    ·obtain rfl:k=j:=by omega
     exact⟨a,b⟩
   obtain⟨m,z⟩:=i_2 q t;clear q t d p A;generalize l.getD j 0=x at*;by_cases n:x<0
   ·have E:decide (x<0)=true:=An n
    go_wp2;go_ret;exact⟨by rw[c.out,m.out (by omega)];rfl,rfl⟩
   ·have E:decide (x<0)=false:=Ak n
    by_cases o:g<x
    ·have F:decide (g<x)=true:=An o
     go_wp2;go_ret;exact⟨by rw[c.out,m.out (by omega)];rfl,rfl⟩
    ·have F:decide (g<x)=false:=Ak o
     go_wp2
     go_roundw
     case rel=>exact⟨by trivial,j+1,by go_num,by omega,z.out (by omega) (by omega)⟩
     case measure=>simp[intOf];omega
  ·obtain rfl:j=l.length:=by omega
   go_wp2;go_ret;exact⟨by rw[c.out,VU d];rfl,rfl⟩
theorem Mu {l:List Int}{j:Nat}(b:j<l.length)(h:¬Ey l j):nodesOk l=false:=by
 unfold nodesOk;have:¬∀j,j<l.length→Ey l j:=fun a=>h (a j b)
 rw[Ak this,Bool.and_false]
theorem NH {l:List Int}(a:0<l.length)(h:∀j,j<l.length→Ey l j):nodesOk l=true:=by unfold nodesOk;rw[An a,An h];rfl
theorem Ph {l:List Int}(a:l.length=0):nodesOk l=false:=by unfold nodesOk;rw[Ak (by omega)];rfl
theorem Dr {w:World}(B:Value)(l:List Int)(h:Rv w 1 B l.length (ints l))(M:l.length≤9223372036854775807)(r:Bool)(A:r=nodesOk l):
  Calls Tryz.prog 62 #[B] w fun e J=>e=.returned (.bool r)∧w=J:=by
 have c:=h_ A;clear A;obtain⟨_,a,cap,rfl,_,_⟩:=id h;go_enter Tryz.func62,Tryz.ntmps62;go_wp2
 go_loopw [7] (fun i wr=>wr=w∧∃j:Nat,i=.int .i64 j∧j≤l.length∧∀k,k<j→Ey l k) (fun i _=>l.length-(intOf i).toNat)
 case atStart=>exact⟨rfl,0,rfl,by omega,fun k o=>absurd o (by omega)⟩
 case round=>
  obtain⟨H,j,rfl,L,m⟩:=hrel;subst H;by_cases p:j<l.length
  ·have C:(j:Int)<l.length:=by omega
   obtain⟨sb,Q,K,z,_,_,n⟩:=h.at1 (by omega);simp only[Bn]at z;obtain⟨rfl,_,rfl⟩:=z;have v:=n j p;rw[Hm _ _ p]at v;have d:=h_ (Mu p);have D:=h_ m;have b:=h_ (show Ey l j↔1≤l.getD j 0∧l.getD j 0≤5∧(0<j→l.getD (j-1) 0<l.getD j 0)from Iff.rfl);by_cases F:j=0
   ·subst F
    clear m n
    simp only[Nat.add_zero]at v;generalize l.getD 0 0=x at*;by_cases f:x<1
    ·have q:decide (x<1)=true:=An f
     go_wp2;go_ret;exact⟨by rw[c.out,d.out (by rw[b.out];omega)];rfl,rfl⟩
    ·have q:decide (x<1)=false:=Ak f
     by_cases g:5<x
     ·have s:decide (5<x)=true:=An g
      go_wp2;go_ret;exact⟨by rw[c.out,d.out (by rw[b.out];omega)];rfl,rfl⟩
     ·have s:decide (5<x)=false:=Ak g
      go_wp2
      go_roundw
      case rel=>
       refine⟨by trivial,1,by first|rfl|go_num,by omega,fun k o=> ?_⟩;obtain rfl:k=0:=by omega
       exact b.out.2 ⟨by omega,by omega,fun h=>absurd h (by omega)⟩
      case measure=>simp[intOf];omega
   ·have E:=n (j-1) (by omega)
    rw[Hm _ _ (by omega)]at E;have N:decide ((j:Int)>0)=true:=An (by omega);have O:IntKind.i64.wrap ((j:Int)-1)=((j-1:Nat):Int):=by rw[A9];omega
    have P:((j-1:Nat):Int)<l.length:=by omega
    clear m n
    generalize l.getD j 0=x at*;generalize l.getD (j-1) 0=y at*;by_cases f:x<1
    ·have q:decide (x<1)=true:=An f
     go_wp2;go_ret;exact⟨by rw[c.out,d.out (by rw[b.out];omega)];rfl,rfl⟩
    ·have q:decide (x<1)=false:=Ak f
     by_cases g:5<x
     ·have s:decide (5<x)=true:=An g
      go_wp2;go_ret;exact⟨by rw[c.out,d.out (by rw[b.out];omega)];rfl,rfl⟩
     ·have s:decide (5<x)=false:=Ak g
      by_cases u:x≤y
      ·have I:decide (x≤y)=true:=An u
       go_wp2;go_ret;exact⟨by rw[c.out,d.out (by rw[b.out];omega)];rfl,rfl⟩
      ·have I:decide (x≤y)=false:=Ak u
       go_wp2
       go_roundw
       case rel=>
        refine⟨by trivial,j+1,by go_num,by omega,fun k o=> ?_⟩;by_cases G:k<j
        ·exact D.out k G
        ·obtain rfl:k=j:=by omega
         exact b.out.2 ⟨by omega,by omega,fun h=>by omega⟩
       case measure=>simp[intOf];omega
  ·obtain rfl:j=l.length:=by omega
   by_cases t:l.length=0
   ·have C:decide (0<(l.length:Int))=false:=Ak (by omega)
    go_wp2;go_ret;exact⟨by rw[c.out,Ph t];simp[t],rfl⟩
   ·have C:decide (0<(l.length:Int))=true:=An (by omega)
    go_wp2;go_ret;exact⟨by rw[c.out,NH (by omega) m];simp;omega,rfl⟩
theorem Yh {w:World}{b:Nat}{m:Ms}{a c d e:Value}{T:TypeId}(h:Blk w b (CZ m a c d e) T):w.cell? ⟨b,0,none⟩=some (.int .i64 m.kind):=h.cell 0
theorem SL {w:World}{b:Nat}{m:Ms}{a c d e:Value}{T:TypeId}(h:Blk w b (CZ m a c d e) T):w.cell? ⟨b,1,none⟩=some (.int .i64 m.src):=h.cell 1
theorem Yg {w:World}{b:Nat}{m:Ms}{a c d e:Value}{T:TypeId}(h:Blk w b (CZ m a c d e) T):w.cell? ⟨b,2,none⟩=some (.int .i64 m.dst):=h.cell 2
theorem msc_3 {w:World}{b:Nat}{m:Ms}{a c d e:Value}{T:TypeId}(h:Blk w b (CZ m a c d e) T):w.cell? ⟨b,3,none⟩=some (.int .i64 m.epoch):=h.cell 3
theorem Yf {w:World}{b:Nat}{m:Ms}{a c d e:Value}{T:TypeId}(h:Blk w b (CZ m a c d e) T):w.cell? ⟨b,4,none⟩=some (.int .i64 m.tick):=h.cell 4
theorem Ye {w:World}{b:Nat}{m:Ms}{a c d e:Value}{T:TypeId}(h:Blk w b (CZ m a c d e) T):w.cell? ⟨b,5,none⟩=some (.int .i64 m.seq):=h.cell 5
theorem msc_6 {w:World}{b:Nat}{m:Ms}{a c d e:Value}{T:TypeId}(h:Blk w b (CZ m a c d e) T):w.cell? ⟨b,6,none⟩=some (.int .i64 m.n):=h.cell 6
theorem msc_7 {w:World}{b:Nat}{m:Ms}{a c d e:Value}{T:TypeId}(h:Blk w b (CZ m a c d e) T):w.cell? ⟨b,7,none⟩=some (.int .i64 m.id):=h.cell 7
theorem msc_8 {w:World}{b:Nat}{m:Ms}{a c d e:Value}{T:TypeId}(h:Blk w b (CZ m a c d e) T):w.cell? ⟨b,8,none⟩=some (.int .i64 m.op):=h.cell 8
theorem Yd {w:World}{b:Nat}{m:Ms}{a c d e:Value}{T:TypeId}(h:Blk w b (CZ m a c d e) T):w.cell? ⟨b,9,none⟩=some (.string m.key):=h.cell 9
theorem VH {w:World}{b:Nat}{m:Ms}{a c d e:Value}{T:TypeId}(h:Blk w b (CZ m a c d e) T):w.cell? ⟨b,10,none⟩=some (.int .i64 m.err):=h.cell 10
theorem msc_12 {w:World}{b:Nat}{m:Ms}{a c d e:Value}{T:TypeId}(h:Blk w b (CZ m a c d e) T):w.cell? ⟨b,12,none⟩=some (.string m.it.1):=h.cell 12
theorem msc_13 {w:World}{b:Nat}{m:Ms}{a c d e:Value}{T:TypeId}(h:Blk w b (CZ m a c d e) T):w.cell? ⟨b,13,none⟩=some (.string m.it.2.1):=h.cell 13
theorem msc_14 {w:World}{b:Nat}{m:Ms}{a c d e:Value}{T:TypeId}(h:Blk w b (CZ m a c d e) T):w.cell? ⟨b,14,none⟩=some (.int .i64 m.it.2.2.1):=h.cell 14
theorem msc_15 {w:World}{b:Nat}{m:Ms}{a c d e:Value}{T:TypeId}(h:Blk w b (CZ m a c d e) T):w.cell? ⟨b,15,none⟩=some (.bool m.it.2.2.2):=h.cell 15
theorem EH {w:World}{b:Nat}{m:Ms}{a c d e:Value}{T:TypeId}(h:Blk w b (CZ m a c d e) T):w.cell? ⟨b,16,none⟩=some (a):=h.cell 16
theorem Fb {w:World}{b:Nat}{m:Ms}{c a d e:Value}{T:TypeId}(h:Blk w b (CZ m c a d e) T):w.cell? ⟨b,17,none⟩=some (a):=h.cell 17
theorem msc_18 {w:World}{b:Nat}{m:Ms}{c d a e:Value}{T:TypeId}(h:Blk w b (CZ m c d a e) T):w.cell? ⟨b,18,none⟩=some (a):=h.cell 18
theorem msc_19 {w:World}{b:Nat}{m:Ms}{a c d e:Value}{T:TypeId}(h:Blk w b (CZ m a c d e) T):w.cell? ⟨b,19,none⟩=some (.int .i64 m.base):=h.cell 19
theorem msc_20 {w:World}{b:Nat}{m:Ms}{c d e a:Value}{T:TypeId}(h:Blk w b (CZ m c d e a) T):w.cell? ⟨b,20,none⟩=some (a):=h.cell 20
def mkc (x:Mk):List Value:=[.int .i64 x.1,.string x.2]
def kc (l:List Mk):List Value:=(l.map mkc).flatten
theorem kc_len (l:List Mk):(kc l).length =l.length*2:=Iv mkc 2 (fun _=>rfl) l
abbrev KRd (w:World)(v:Value)(l:List Mk):Prop:=Rv w 2 v l.length (kc l)
theorem mks_at {w:World}{v:Value}{l:List Mk}(h:KRd w v l)(n:0<l.length):∃sb b cap,v=.slice (some ⟨sb,b,none⟩) l.length cap∧
  ∀i,i<l.length→w.cell? ⟨sb,b+i*2,none⟩=some (.int .i64 (l.getD i NQ).1)∧w.cell? ⟨sb,b+i*2+1,none⟩=some (.string (l.getD i NQ).2):=by
 have d:=kc_len l;obtain⟨o,a,cap,rfl,m,g⟩:=h;obtain⟨sb,b,rfl,p,f⟩:=g (by rw[d];omega);refine⟨sb,b,cap,rfl,fun i e=> ?_⟩
 have c:∀j,j<2→w.cell? ⟨sb,b+(i*2+j),none⟩=(mkc (l.getD i NQ))[j]?:=by intro j k;rw[f _ (by rw[d];omega)];unfold kc;rw[Gc mkc 2 (fun _=>rfl) l i j k,Ad e,Af,Ad e];rfl
 refine⟨c 0 (by omega), ?_⟩;rw[Cv];exact c 1 (by omega)
structure MsRd (w:World) (m:Ms) (vi vk vm vo:Value):Prop where
 its:IRd w vi m.its
 mks:KRd w vk m.mks
 mem:Rv w 1 vm m.mem.length (ints m.mem)
 old:Rv w 1 vo m.old.length (ints m.old)
theorem MsRd.keep {w e:World}{m:Ms}{a b c d:Value}(h:MsRd w m a b c d)(k:Keep [] w e):MsRd e m a b c d:=
 ⟨h.its.keep k (by simp),h.mks.keep k (by simp),h.mem.keep k (by simp),h.old.keep k (by simp)⟩
theorem MsRd.alloc {w:World}{m:Ms}{a b c d:Value}(h:MsRd w m a b c d)(o:Obj):MsRd (w.alloc o) m a b c d:=h.keep ((By _ _).alloc o)
structure MsSz (m:Ms):Prop where
 key:m.key.size≤9223372036854775807
 it:m.it.1.size≤9223372036854775807∧m.it.2.1.size≤9223372036854775807
 its:∀y∈m.its,y.1.size≤9223372036854775807∧y.2.1.size≤9223372036854775807
 mks:∀y∈m.mks,y.2.size≤9223372036854775807
 itsn:m.its.length≤1000000
 mksn:m.mks.length≤1000000
 memn:m.mem.length≤1000000
 oldn:m.old.length≤1000000
theorem P0 {l:List Mk}{j:Nat}(b:j<l.length)(h:¬P2 l j):MR l=false:=by unfold MR;exact Ak (fun a=>h (a j b))
theorem R1 {l:List Mk}(h:∀j,j<l.length→P2 l j):MR l=true:=by unfold MR;exact An h
theorem Ue {m:Ms}(h:MR m.mks=false):FM m=false:=by unfold FM;rw[h];rfl
theorem Uf {m:Ms}{j:Nat}{y:It}(a:m.its[j]?=some y)(h:Dj y=false):FM m=false:=by
 unfold FM
 have:m.its.all Dj=false:=by rw[List.all_eq_false];exact⟨y,Aq a,by rw[h];decide⟩
 rw[this,Bool.false_and,Bool.and_false]
theorem GM {w:World}(m:Ms)(U V M N:Value)(h:MsRd w m U V M N)(O:MsSz m)(r:Bool)(hr:r=FM m):
  Calls Tryz.prog 164 #[Yi m U V M N] w fun e w'=>e=.returned (.bool r)∧Keep [] w w':=by
 have HR:=h_ hr;clear hr;have d:=BY w (CZ m U V M N) 175;have h0:=h.alloc (.cells (CZ m U V M N).toArray 175);have K0:=(By [] w).alloc (.cells (CZ m U V M N).toArray 175);have c14:=Fb d;have c13:=EH d;have ax:=O.mksn;have ay:=O.itsn;obtain⟨_,ka,an,rfl,_,_⟩:=id h.mks;obtain⟨_,ia,am,rfl,_,_⟩:=id h.its;go_enter Tryz.func164,Tryz.ntmps164;go_wp2
 go_loopw [3,11] (fun au i wr=>∃j:Nat,i=.int .i64 j∧j≤m.mks.length∧au=.int .i64 (if j=0 then 0 else(m.mks.getD (j-1) NQ).1)∧(∀k,k<j→P2 m.mks k)∧Blk wr w.heap.size (CZ m (.slice ia m.its.length am) (.slice ka m.mks.length an) M N) 175∧Keep [] w wr) (fun _ i _=>m.mks.length-(intOf i).toNat)
 case atStart=>exact⟨0,rfl,by omega,rfl,fun k X=>absurd X (by omega),d,K0⟩
 case round=>
  clear c13 c14 d h0 K0;obtain⟨j,rfl,hj,rfl,D,d,f⟩:=hrel;have q:=h.keep f;have C:=h_ D;clear D;by_cases E:j<m.mks.length
  ·have q0:(j:Int)<m.mks.length:=by omega
   obtain⟨sb,so,c',S,ai⟩:=mks_at q.mks (by omega);simp only[Bn]at S;obtain⟨rfl,_,rfl⟩:=S;obtain⟨e0,e1⟩:=ai j E
   have ac:(m.mks.getD j NQ).2.size ≤9223372036854775807:=by rw[Af,Ad E];exact O.mks _ (BS E)
   have HB:=h_ (fun T=>Ue (P0 E T));have HN:=h_ (show P2 m.mks j↔1≤(m.mks.getD j NQ).1 ∧(m.mks.getD j NQ).1 ≤1099511627776∧itKey (m.mks.getD j NQ).2 =true∧(0<j→(m.mks.getD (j-1) NQ).1 <(m.mks.getD j NQ).1)from Iff.rfl);have HM:=h_ d;have HP:=h_ (fun h0:0<j=>(C.out (j-1) (by omega)).1);clear ai d;generalize hx:m.mks.getD j NQ=x at*;obtain⟨xs,l⟩:=x;simp only at e0 e1 ac;obtain⟨B,ad⟩:∃B:Int,B=if j=0 then 0 else(m.mks.getD (j-1) NQ).1 :=⟨_,rfl⟩
   rw[←ad];obtain⟨HL,HX⟩:=i_2 ad hx;clear hx ad;have u:Blk (wr.alloc (.cells (mkc (xs,l)).toArray 261)) wr.heap.size [.int .i64 xs,.string l] 261:=BY wr (mkc (xs,l)) 261;have d0:(wr.alloc (.cells #[.int .i64 xs,.string l] 261)).cell? ⟨wr.heap.size,0,none⟩=some (.int .i64 xs):=u.cell 0;have d1:(wr.alloc (.cells #[.int .i64 xs,.string l] 261)).cell? ⟨wr.heap.size,1,none⟩=some (.string l):=u.cell 1;have I:=f.alloc (.cells #[.int .i64 xs,.string l] 261);have ab:B=(if j=0 then 0 else(m.mks.getD (j-1) NQ).1):=HL.out
   have aj:¬(B<xs∧xs≤1099511627776∧itKey l=true)→r=false:=fun T=>by
    rw[HR.out];refine HB.out (fun hm=>T ?_);have Y:=HN.out.1 hm;rw[ab];refine⟨?_,Y.2.1,Y.2.2.1⟩
    split
    ·exact Y.1
    ·exact Y.2.2.2 (by omega)
   have ak:B<xs→xs≤1099511627776→itKey l=true→∀k,k<j+1→P2 m.mks k:=fun a b c k X=>by
    by_cases ar:k<j
    ·exact C.out k ar
    ·obtain rfl:k=j:=by omega
     rw[ab]at a;refine HN.out.2 ⟨?_,b,c, ?_⟩
     ·split at a
      ·omega
      ·have:=HP.out (by omega);show 1≤xs;omega
     ·intro h0
      rw[Aw (by omega)]at a;exact a
   obtain⟨aa,ao⟩:=i_2 aj ak;clear aj ak ab u;by_cases Q:xs≤B
   ·have q1:decide (xs≤B)=true:=An Q
    go_wp2;go_ret;exact⟨by rw[aa.out (by omega)];rfl,I⟩
   have q1:decide (xs≤B)=false:=Ak Q;by_cases R:1099511627776<xs
   ·have q2:decide (1099511627776<xs)=true:=An R
    go_wp2;go_ret;exact⟨by rw[aa.out (by omega)];rfl,I⟩
   have q2:decide (1099511627776<xs)=false:=Ak R
   cases A:itKey l with
   |false=>have o:=h_ A.symm;clear A;go_wp2_with fail;refine(KU l ac false o.out).mono ?_;rintro e G ⟨rfl,rfl⟩;go_wp2;go_ret;exact⟨by rw[aa.out (by rw[←o.out];simp)];rfl,I⟩
   |true=>
    have o:=h_ A.symm;clear A;go_wp2_with fail;refine(KU l ac true o.out).mono ?_;rintro e G ⟨rfl,rfl⟩;go_wp2
    go_roundw
    case rel=>exact⟨j+1,by go_num,by omega,by rw[Aw (by omega),Nat.add_sub_cancel,HX.out],ao.out (by omega) (by omega) o.out.symm,HM.out.alloc _,I⟩
    case measure=>simp[intOf];omega
  ·obtain rfl:j=m.mks.length:=by omega
   have ap:=h_ (R1 C.out);generalize(if m.mks.length=0 then(0:Int)else(m.mks.getD (m.mks.length-1) NQ).1)=B;have c13:=EH d;clear C E;go_wp2
   go_loopw [36] (fun i wr=>∃j:Nat,i=.int .i64 j∧j≤m.its.length∧(∀k y,k<j→m.its[k]?=some y→Dj y=true)∧Blk wr w.heap.size (CZ m (.slice ia m.its.length am) (.slice ka m.mks.length an) M N) 175∧Keep [] w wr) (fun i _=>m.its.length-(intOf i).toNat)
   case atStart=>exact⟨0,rfl,by omega,fun k y X=>absurd X (by omega),d,f⟩
   case round=>
    clear c13 d f q;obtain⟨j,rfl,hj,D,d,f⟩:=hrel;have q:=h.keep f;have C:=h_ D;clear D;by_cases E:j<m.its.length
    ·have q0:(j:Int)<m.its.length:=by omega
     obtain⟨y,J⟩:∃y,m.its[j]?=some y:=⟨_,Ad E⟩;obtain⟨sb,so,c',S,_,_,e0,e1,e2,e3⟩:=VR q.its j y J;simp only[Bn]at S;obtain⟨rfl,_,rfl⟩:=S;obtain⟨ae,af⟩:=O.its y (Aq J);have HB:=h_ (fun T=>Uf J T);obtain⟨HM,HY⟩:=i_2 d J;obtain⟨k,v,n,g⟩:=y;simp only at e0 e1 e2 e3 ae af;clear d J q;have u:Blk (wr.alloc (.cells (E8 k v n g).toArray 171)) wr.heap.size (E8 k v n g) 171:=BY wr (E8 k v n g) 171;have d0:(wr.alloc (.cells #[.string k,.string v,.int .i64 n,.bool g] 171)).cell? ⟨wr.heap.size,0,none⟩=some (.string k):=u.cell 0;have d1:(wr.alloc (.cells #[.string k,.string v,.int .i64 n,.bool g] 171)).cell? ⟨wr.heap.size,1,none⟩=some (.string v):=u.cell 1;have d2:(wr.alloc (.cells #[.string k,.string v,.int .i64 n,.bool g] 171)).cell? ⟨wr.heap.size,2,none⟩=some (.int .i64 n):=u.cell 2;have d3:(wr.alloc (.cells #[.string k,.string v,.int .i64 n,.bool g] 171)).cell? ⟨wr.heap.size,3,none⟩=some (.bool g):=u.cell 3;have I:=f.alloc (.cells #[.string k,.string v,.int .i64 n,.bool g] 171);clear u
     cases A:itMay k v n g with
     |false=>have o:=h_ A.symm;clear A;go_wp2_with fail;refine(FT k v n g ae af false o.out).mono ?_;rintro e G ⟨rfl,Z⟩;go_wp2;go_ret;exact⟨by rw[HR.out,HB.out o.out.symm];rfl,I.trans Z⟩
     |true=>
      have o:=h_ A.symm;clear A;go_wp2_with fail;refine(FT k v n g ae af true o.out).mono ?_;rintro e G ⟨rfl,Z⟩;go_wp2
      go_roundw
      case rel=>
       refine⟨j+1,by go_num,by omega,fun i z hi ag=> ?_,(HM.out.alloc _).keep Z (by simp),I.trans Z⟩;by_cases aq:i<j
       ·exact C.out i z aq ag
       ·obtain rfl:i=j:=by omega
        rw[HY.out]at ag
        cases ag
        exact o.out.symm
      case measure=>simp[intOf];omega
    ·obtain rfl:j=m.its.length:=by omega
     have D:m.its.all Dj=true:=by rw[Cr];intro y J;obtain⟨i,hi,rfl⟩:=Dq J;exact C.out i _ hi (Ad hi)
     have al:r=(decide (m.its.length≤4)&&(decide (m.mks.length≤4)&&((decide (m.mem.length=0)||nodesOk m.mem)&&(decide (m.old.length=0)||nodesOk m.old)))):=by rw[HR.out];unfold FM;rw[ap.out,D];rfl
     have H:=h_ al;clear C E D al;obtain⟨_,ma,az,rfl,_,_⟩:=id h.mem;obtain⟨_,oa,a0,rfl,_,_⟩:=id h.old;have c16:=EH d;have c17:=Fb d;have c18:=msc_18 d;have c20:=msc_20 d;have av:=O.memn;have aw:=O.oldn;by_cases Q:m.its.length≤4
     case neg=>have q1:decide ((m.its.length:Int)≤4)=false:=Ak (by omega);have F:decide (m.its.length≤4)=false:=Ak Q;go_wp2;go_ret;exact⟨by rw[H.out,F];rfl,f⟩
     have q1:decide ((m.its.length:Int)≤4)=true:=An (by omega);have F:decide (m.its.length≤4)=true:=An Q;by_cases R:m.mks.length≤4
     case neg=>have q2:decide ((m.mks.length:Int)≤4)=false:=Ak (by omega);have K:decide (m.mks.length≤4)=false:=Ak R;go_wp2;go_ret;exact⟨by rw[H.out,F,K];rfl,f⟩
     have q2:decide ((m.mks.length:Int)≤4)=true:=An (by omega);have K:decide (m.mks.length≤4)=true:=An R;by_cases W:m.mem.length=0
     ·have q3:((m.mem.length:Int)==0)=true:=by simpa using W
      have P:decide (m.mem.length=0)=true:=An W;by_cases t:m.old.length=0
      ·have q4:((m.old.length:Int)==0)=true:=by simpa using t
       have L:decide (m.old.length=0)=true:=An t;go_wp2;go_ret;exact⟨by rw[H.out,F,K,P,L];rfl,f⟩
      ·have q4:((m.old.length:Int)==0)=false:=by simpa using t
       have L:decide (m.old.length=0)=false:=Ak t;obtain⟨b,s⟩:∃b,b=nodesOk m.old:=⟨_,rfl⟩;have p:=h_ s;clear s;go_wp2_with fail;refine(Dr _ m.old q.old (by omega) b p.out).mono ?_;rintro e G ⟨rfl,rfl⟩;go_wp2;go_ret;exact⟨by rw[H.out,F,K,P,L,p.out];simp,f⟩
     ·have q3:((m.mem.length:Int)==0)=false:=by simpa using W
      have P:decide (m.mem.length=0)=false:=Ak W
      cases s:nodesOk m.mem with
      |false=>have p:=h_ s.symm;clear s;go_wp2_with fail;refine(Dr _ m.mem q.mem (by omega) false p.out).mono ?_;rintro e G ⟨rfl,rfl⟩;go_wp2;go_ret;exact⟨by rw[H.out,F,K,P,←p.out];rfl,f⟩
      |true=>
       have p:=h_ s.symm;clear s;by_cases t:m.old.length=0
       ·have q4:((m.old.length:Int)==0)=true:=by simpa using t
        have L:decide (m.old.length=0)=true:=An t;go_wp2_with fail;refine(Dr _ m.mem q.mem (by omega) true p.out).mono ?_;rintro e G ⟨rfl,rfl⟩;go_wp2;go_ret;exact⟨by rw[H.out,F,K,P,←p.out,L];rfl,f⟩
       ·have q4:((m.old.length:Int)==0)=false:=by simpa using t
        have L:decide (m.old.length=0)=false:=Ak t;obtain⟨b,s⟩:∃b,b=nodesOk m.old:=⟨_,rfl⟩;have ah:=h_ s;clear s;go_wp2_with fail;refine(Dr _ m.mem q.mem (by omega) true p.out).mono ?_;rintro e G ⟨rfl,rfl⟩;go_wp2_with fail;refine(Dr _ m.old q.old (by omega) b ah.out).mono ?_;rintro e G ⟨rfl,rfl⟩;go_wp2;go_ret;exact⟨by rw[H.out,F,K,P,←p.out,L,ah.out];simp,f⟩
theorem BA {P:Program}{c:Array Oper}{rest:List Oper}{o:Oper}{a:Act}{w:World}{Q:Exit→Act→World→Prop}(ty:TypeId)(x:Operand)(m:o.op=.load ty x)
  (g:Nat) (p:a.eval x=pr g 0) (t:TypeId) (b:Array Value) (e:Nat×Nat) (d:TypeDesc) (j:w.heap[g]?=some (.cells b t e))
  (n:P.underlying ty=some d) (i:(match d with| .struct _| .array _ _=>true|_=>false)=true) (l:(P.info? ty).map (·.size)=some b.size)
  (k:Region.wanted o (yielded c a.tmps)=true)
  (h:wpList P c Q rest (a.put o.dst (.agg b)) w):wpList P c Q (o::rest) a w:=
 wpList_step fun K f=>by rw[Ay k];exact wp_load_row ty x m g p t b e d j n i l (f _ _ h)
theorem JP {w:World}(m:Ms)(i j k l:Value)(h:MsRd w m i j k l)(C:MsSz m)(r:Bool)(hr:r=mayM m):
  Calls Tryz.prog 116 #[Yi m i j k l] w fun e w'=>e=.returned (.bool r)∧Keep [] w w':=by
 have a:=BY w (CZ m i j k l) 175;have d:=h.alloc (.cells (CZ m i j k l).toArray 175);have c:=(By [] w).alloc (.cells (CZ m i j k l).toArray 175);have t:=h_ hr;clear hr;go_enter Tryz.func116,Tryz.ntmps116;have c0:=Yh a;have c1:=SL a;have c2:=Yg a;by_cases P:m.kind<1
 ·have q1:decide (m.kind<1)=true:=An P
  have z:decide (1≤m.kind)=false:=Ak (by omega);go_wp2;go_ret;exact⟨by rw[t.out];unfold mayM Gb;rw[z];rfl,c⟩
 have q1:decide (m.kind<1)=false:=Ak P;have z:decide (1≤m.kind)=true:=An (by omega);by_cases Q:14<m.kind
 ·have q2:decide (14<m.kind)=true:=An Q
  have A:decide (m.kind≤14)=false:=Ak (by omega);go_wp2;go_ret;exact⟨by rw[t.out];unfold mayM Gb;rw[z,A];rfl,c⟩
 have q2:decide (14<m.kind)=false:=Ak Q;have A:decide (m.kind≤14)=true:=An (by omega);by_cases I:m.src=m.dst
 ·have q3:(m.src==m.dst)=true:=by simpa using I
  have E:decide (m.src=m.dst)=true:=An I;go_wp2;go_ret;exact⟨by rw[t.out];unfold mayM Gb;rw[z,A,E];rfl,c⟩
 have q3:(m.src==m.dst)=false:=by simpa using I
 have E:decide (m.src=m.dst)=false:=Ak I;obtain⟨Y,af⟩:∃b,b=QG 5 [m.src,m.dst]:=⟨_,rfl⟩;have F:=h_ af;clear af;go_wp2_with fail;have an:Rv ((w.alloc (.cells (CZ m i j k l).toArray 175)).alloc (.cells #[.int .i64 m.src,.int .i64 m.dst] 2)) 1 (.slice (some ⟨w.heap.size+1,0,none⟩) 2 2) 2 (ints [m.src,m.dst]):=Y1 _ (ints [m.src,m.dst]) 2 1 2 2 rfl (by omega) (w.heap.size+1) (by simp);refine(LD 5 _ [m.src,m.dst] an (by simp) Y F.out).mono ?_;rintro e o ⟨rfl,rfl⟩;clear an;have aa:=a.alloc (.cells #[.int .i64 m.src,.int .i64 m.dst] 2);have T:=c.alloc (.cells #[.int .i64 m.src,.int .i64 m.dst] 2);have h4:=d.alloc (.cells #[.int .i64 m.src,.int .i64 m.dst] 2);clear a c d c0 c1 c2;generalize(w.alloc (.cells (CZ m i j k l).toArray 175)).alloc (.cells #[.int .i64 m.src,.int .i64 m.dst] 2)=w4 at*;have a:=aa;have c:=T;have d:=h4;clear aa T h4
 cases Y with
 |false=>go_wp2;go_ret;exact⟨by rw[t.out];unfold mayM Gb;rw[z,A,E,←F.out];rfl,c⟩
 |true=>
 have c3:=msc_3 a;have c4:=Yf a;have c5:=Ye a;have c7:=msc_7 a;have c19:=msc_19 a;obtain⟨Z,ag⟩:∃b,b=QG 1099511627776 [m.epoch,m.tick,m.seq,m.id,m.base]:=⟨_,rfl⟩;have H:=h_ ag;clear ag;go_wp2_with fail;have ao:Rv ((w4).alloc (.cells #[.int .i64 m.epoch,.int .i64 m.tick,.int .i64 m.seq,.int .i64 m.id,.int .i64 m.base] 2)) 1 (.slice (some ⟨w4.heap.size,0,none⟩) 5 5) 5 (ints [m.epoch,m.tick,m.seq,m.id,m.base]):=Y1 _ (ints [m.epoch,m.tick,m.seq,m.id,m.base]) 2 1 5 5 rfl (by omega) (w4.heap.size) (by simp);refine(LD 1099511627776 _ [m.epoch,m.tick,m.seq,m.id,m.base] ao (by simp) Z H.out).mono ?_;rintro e o ⟨rfl,rfl⟩;clear ao;have ab:=a.alloc (.cells #[.int .i64 m.epoch,.int .i64 m.tick,.int .i64 m.seq,.int .i64 m.id,.int .i64 m.base] 2);have U:=c.alloc (.cells #[.int .i64 m.epoch,.int .i64 m.tick,.int .i64 m.seq,.int .i64 m.id,.int .i64 m.base] 2);have h5:=d.alloc (.cells #[.int .i64 m.epoch,.int .i64 m.tick,.int .i64 m.seq,.int .i64 m.id,.int .i64 m.base] 2);clear a c d c3 c4 c5 c7 c19;generalize(w4).alloc (.cells #[.int .i64 m.epoch,.int .i64 m.tick,.int .i64 m.seq,.int .i64 m.id,.int .i64 m.base] 2)=o at*;have a:=ab;have c:=U;have d:=h5;clear ab U h5
 cases Z with
 |false=>go_wp2;go_ret;exact⟨by rw[t.out];unfold mayM Gb;rw[z,A,E,←F.out,←H.out];rfl,c⟩
 |true=>
 have c6:=msc_6 a;obtain⟨b6,ah⟩:∃b,b=QG 1073741824 [m.n]:=⟨_,rfl⟩;have K:=h_ ah;clear ah;go_wp2_with fail;have ap:Rv ((o).alloc (.cells #[.int .i64 m.n] 2)) 1 (.slice (some ⟨o.heap.size,0,none⟩) 1 1) 1 (ints [m.n]):=Y1 _ (ints [m.n]) 2 1 1 1 rfl (by omega) (o.heap.size) (by simp);refine(LD 1073741824 _ [m.n] ap (by simp) b6 K.out).mono ?_;rintro e o ⟨rfl,rfl⟩;clear ap;have ac:=a.alloc (.cells #[.int .i64 m.n] 2);have V:=c.alloc (.cells #[.int .i64 m.n] 2);have h6:=d.alloc (.cells #[.int .i64 m.n] 2);clear a c d c6;generalize(o).alloc (.cells #[.int .i64 m.n] 2)=B at*;have a:=ac;have c:=V;have d:=h6;clear ac V h6
 cases b6 with
 |false=>go_wp2;go_ret;exact⟨by rw[t.out];unfold mayM Gb;rw[z,A,E,←F.out,←H.out,←K.out];rfl,c⟩
 |true=>
 have M:Gb m=true:=by unfold Gb;rw[z,A,E,←F.out,←H.out,←K.out];rfl
 clear z A E q1 q2 q3 P Q I F H K;have c8:=msc_8 a;have c9:=Yd a;have c10:=VH a;obtain⟨b7,ai⟩:∃b,b=QG 2 [m.op]:=⟨_,rfl⟩;have G:=h_ ai;clear ai;go_wp2_with fail;have aq:Rv ((B).alloc (.cells #[.int .i64 m.op] 2)) 1 (.slice (some ⟨B.heap.size,0,none⟩) 1 1) 1 (ints [m.op]):=Y1 _ (ints [m.op]) 2 1 1 1 rfl (by omega) (B.heap.size) (by simp);refine(LD 2 _ [m.op] aq (by simp) b7 G.out).mono ?_;rintro e o ⟨rfl,rfl⟩;clear aq;have ad:=a.alloc (.cells #[.int .i64 m.op] 2);have W:=c.alloc (.cells #[.int .i64 m.op] 2);have h7:=d.alloc (.cells #[.int .i64 m.op] 2);clear a c d c8 c9 c10;generalize(B).alloc (.cells #[.int .i64 m.op] 2)=w7 at*;have a:=ad;have c:=W;have d:=h7;clear ad W h7
 cases b7 with
 |false=>go_wp2;go_ret;exact⟨by rw[t.out];unfold mayM MS;rw[M,←G.out];rfl,c⟩
 |true=>
 have c9:=Yd a;have c10:=VH a;have av:=C.key;by_cases g8:40<m.key.size
 ·have q8:decide (40<(m.key.size:Int))=true:=An (by omega)
  have J:decide (m.key.size≤40)=false:=Ak (by omega);go_wp2;go_ret;exact⟨by rw[t.out];unfold mayM MS;rw[M,←G.out,J];rfl,c⟩
 have q8:decide (40<(m.key.size:Int))=false:=Ak (by omega);have J:decide (m.key.size≤40)=true:=An (by omega);obtain⟨b9,aj⟩:∃b,b=QG 10 [m.err]:=⟨_,rfl⟩;have L:=h_ aj;clear aj;go_wp2_with fail;have ar:Rv ((w7).alloc (.cells #[.int .i64 m.err] 2)) 1 (.slice (some ⟨w7.heap.size,0,none⟩) 1 1) 1 (ints [m.err]):=Y1 _ (ints [m.err]) 2 1 1 1 rfl (by omega) (w7.heap.size) (by simp);refine(LD 10 _ [m.err] ar (by simp) b9 L.out).mono ?_;rintro e o ⟨rfl,rfl⟩;clear ar;have ae:=a.alloc (.cells #[.int .i64 m.err] 2);have X:=c.alloc (.cells #[.int .i64 m.err] 2);have h9:=d.alloc (.cells #[.int .i64 m.err] 2);clear a c d c9 c10;generalize(w7).alloc (.cells #[.int .i64 m.err] 2)=w9 at*;have a:=ae;have c:=X;have d:=h9;clear ae X h9
 cases b9 with
 |false=>go_wp2;go_ret;exact⟨by rw[t.out];unfold mayM MS;rw[M,←G.out,J,←L.out];rfl,c⟩
 |true=>
 have hm:MS m=true:=by unfold MS;rw[←G.out,J,←L.out];rfl
 clear G L J q8 g8

 have c12:=msc_12 a;have c13:=msc_13 a;have c14:=msc_14 a;have c15:=msc_15 a;obtain⟨u,al⟩:∃b,b=FM m:=⟨_,rfl⟩;have s:=h_ al;clear al;have am:r=((decide (m.it=VS)||Dj m.it)&&FM m):=by rw[t.out];unfold mayM;rw[M,hm,Dx,Dx]
 have v:=h_ am;clear am;obtain⟨N,O⟩:=C.it;by_cases y:m.it=VS
 ·have z1:m.it.1.toList=[]:=I5.2 (by rw[y];rfl)
  have z2:m.it.2.1.toList=[]:=I5.2 (by rw[y];rfl);have R:m.it.2.2.1=0:=by rw[y];rfl
  have S:m.it.2.2.2=false:=by rw[y];rfl
  have q:=h_ (show decide (m.it=VS)=true from An y);clear y
  go_wp2_with (refine BA 175 _ rfl w.heap.size rfl 175 (CZ m i j k l).toArray (0,0) _ a AV rfl C4 (by rfl) ?_)
  refine(GM m i j k l d C u s.out).mono ?_;rintro e o ⟨rfl,f⟩;go_wp2;go_ret;have g:r=u:=by rw[v.out,q.out,←s.out,Bool.true_or,Dx]
  exact⟨by rw[g];rfl,c.trans f⟩
 have q:=h_ (show decide (m.it=VS)=false from Ak y);have HN:=h_ y;clear y;obtain⟨x,ak⟩:∃b,b=itMay m.it.1 m.it.2.1 m.it.2.2.1 m.it.2.2.2:=⟨_,rfl⟩;have p:=h_ ak;clear ak;by_cases z1:m.it.1.toList=[]
 case neg=>
   go_wp2_with fail;refine(FT m.it.1 m.it.2.1 m.it.2.2.1 m.it.2.2.2 N O x p.out).mono ?_;rintro e o ⟨rfl,f⟩;replace a:=a.keep f (by simp);replace d:=d.keep f;replace c:=c.trans f;clear c12 c13 c14 c15 f
   cases x with
   |false=>
    go_wp2;go_ret;have g:r=false:=by rw[v.out,q.out,show Dj m.it=false from p.out.symm,CH,Bool.false_and]
    exact⟨by rw[g];rfl,c⟩
   |true=>
    go_wp2_with (refine BA 175 _ rfl w.heap.size rfl 175 (CZ m i j k l).toArray (0,0) _ a AV rfl C4 (by rfl) ?_)
    refine(GM m i j k l d C u s.out).mono ?_;rintro e B ⟨rfl,D⟩;go_wp2;go_ret;have g:r=u:=by rw[v.out,q.out,show Dj m.it=true from p.out.symm,←s.out,CH,Dx]
    exact⟨by rw[g];rfl,c.trans D⟩
 by_cases z2:m.it.2.1.toList=[]
 case neg=>
   go_wp2_with fail;refine(FT m.it.1 m.it.2.1 m.it.2.2.1 m.it.2.2.2 N O x p.out).mono ?_;rintro e o ⟨rfl,f⟩;replace a:=a.keep f (by simp);replace d:=d.keep f;replace c:=c.trans f;clear c12 c13 c14 c15 f
   cases x with
   |false=>
    go_wp2;go_ret;have g:r=false:=by rw[v.out,q.out,show Dj m.it=false from p.out.symm,CH,Bool.false_and]
    exact⟨by rw[g];rfl,c⟩
   |true=>
    go_wp2_with (refine BA 175 _ rfl w.heap.size rfl 175 (CZ m i j k l).toArray (0,0) _ a AV rfl C4 (by rfl) ?_)
    refine(GM m i j k l d C u s.out).mono ?_;rintro e B ⟨rfl,D⟩;go_wp2;go_ret;have g:r=u:=by rw[v.out,q.out,show Dj m.it=true from p.out.symm,←s.out,CH,Dx]
    exact⟨by rw[g];rfl,c.trans D⟩
 by_cases R:m.it.2.2.1=0
 case neg=>
   go_wp2_with fail;refine(FT m.it.1 m.it.2.1 m.it.2.2.1 m.it.2.2.2 N O x p.out).mono ?_;rintro e o ⟨rfl,f⟩;replace a:=a.keep f (by simp);replace d:=d.keep f;replace c:=c.trans f;clear c12 c13 c14 c15 f
   cases x with
   |false=>
    go_wp2;go_ret;have g:r=false:=by rw[v.out,q.out,show Dj m.it=false from p.out.symm,CH,Bool.false_and]
    exact⟨by rw[g];rfl,c⟩
   |true=>
    go_wp2_with (refine BA 175 _ rfl w.heap.size rfl 175 (CZ m i j k l).toArray (0,0) _ a AV rfl C4 (by rfl) ?_)
    refine(GM m i j k l d C u s.out).mono ?_;rintro e B ⟨rfl,D⟩;go_wp2;go_ret;have g:r=u:=by rw[v.out,q.out,show Dj m.it=true from p.out.symm,←s.out,CH,Dx]
    exact⟨by rw[g];rfl,c.trans D⟩
 by_cases S:m.it.2.2.2=true
 case pos=>
   have au:Hid (x=itMay m.it.1 m.it.2.1 0 true):=h_ (by have:=p.out;rw[R,S]at this;exact this);go_wp2_with fail;refine(FT m.it.1 m.it.2.1 0 true N O x au.out).mono ?_;rintro e o ⟨rfl,f⟩;replace a:=a.keep f (by simp);replace d:=d.keep f;replace c:=c.trans f;clear c12 c13 c14 c15 f
   cases x with
   |false=>
    go_wp2;go_ret;have g:r=false:=by rw[v.out,q.out,show Dj m.it=false from p.out.symm,CH,Bool.false_and]
    exact⟨by rw[g];rfl,c⟩
   |true=>
    go_wp2_with (refine BA 175 _ rfl w.heap.size rfl 175 (CZ m i j k l).toArray (0,0) _ a AV rfl C4 (by rfl) ?_)
    refine(GM m i j k l d C u s.out).mono ?_;rintro e B ⟨rfl,D⟩;go_wp2;go_ret;have g:r=u:=by rw[v.out,q.out,show Dj m.it=true from p.out.symm,←s.out,CH,Dx]
    exact⟨by rw[g];rfl,c.trans D⟩
 exact absurd (Prod.ext (UW (z1.trans (I5.2 rfl).symm)) (Prod.ext (UW (z2.trans (I5.2 rfl).symm)) (Prod.ext R (show m.it.2.2.2=false by simpa using S)))) HN.out
def GotIdx (w:World)(l:List Int)(x:Int)(e:Ending)(a:World):Prop:=∃i:Int,e=.returned (.int .i64 i)∧(0≤i↔x∈l)∧w=a
theorem Own.islice {w:World}{base:Nat}{E:TypeId}{v:Value}{l:List Int}(h:Own w base E v (ints l)):∃a cap,v=.slice a l.length cap:=by obtain⟨a,cap,rfl⟩:=h.slice;exact⟨a,cap,by rw[CK]⟩
theorem Own.irv {w:World}{base:Nat}{E:TypeId}{v:Value}{l:List Int}(h:Own w base E v (ints l)):Rv w 1 v l.length (ints l):=by have:=h.rv;rw[CK]at this;exact this
theorem VK {l:List Int}{x:Int}(h:x∈l):∃k,k<l.length∧l.getD k 0=x:=by obtain⟨k,a,rfl⟩:=Dq h;exact⟨k,a,by rw[Af,Ad a];rfl⟩
theorem PM {l:List Int}{k:Nat}(h:k<l.length):l.getD k 0∈l:=by rw[Af,Ad h];exact BS h
theorem UM {w:World}(v:Value)(l:List Int)(x:Int)(h:Rv w 1 v l.length (ints l))(D:l.length≤1000000):
  Calls Tryz.prog 185 #[v,.int .i64 x] w (GotIdx w l x):=by
 obtain⟨_,a,cap,rfl,_,_⟩:=id h;go_enter Tryz.func185,Tryz.ntmps185;go_wp2_with fail
 go_loop [8] (fun i=>∃j:Nat,i=.int .i64 j∧j≤l.length∧∀k,k<j→l.getD k 0≠x) (fun i=>l.length-(intOf i).toNat)
 case atStart=>exact⟨0,rfl,by omega,fun k c=>absurd c (by omega)⟩
 case round=>
  obtain⟨j,rfl,C,m⟩:=hrel;have g:=h_ m;clear m;by_cases f:j<l.length
  ·have E:(j:Int)<l.length:=by omega
   obtain⟨sb,F,B,o,_,_,n⟩:=h.at1 (by omega);simp only[Bn]at o;obtain⟨rfl,_,rfl⟩:=o;have s:=n j f;rw[Hm _ _ f]at s;have p:=h_ (PM f)
   have r:=h_ (show l.getD j 0≠x→∀k,k<j+1→l.getD k 0≠x from fun z k c=>by
    by_cases t:k<j
    ·exact g.out k t
    ·obtain rfl:k=j:=by omega
     exact z)
   clear n
   generalize l.getD j 0=y at*;by_cases b:x=y
   ·have A:(x==y)=true:=by simpa using b
    have d:=h_ b;clear b;go_wp2;go_ret;exact⟨_,rfl,⟨fun _=>by rw[d.out];exact p.out,fun _=>by omega⟩,rfl⟩
   ·have A:(x==y)=false:=by simpa using b
    have d:=h_ b;clear b;go_wp2_with fail
    go_round
    case rel=>exact⟨j+1,by go_num,by omega,r.out (fun e=>d.out e.symm)⟩
    case measure=>simp[intOf];omega
  ·obtain rfl:j=l.length:=by omega
   have q:=h_ (show¬x∈l from fun u=>by obtain⟨k,c,e⟩:=VK u;exact g.out k c e)
   go_wp2;go_ret;exact⟨_,rfl,⟨fun h=>absurd h (by omega),fun h=>absurd h q.out⟩,rfl⟩
theorem Ov {w:World}(v:Value)(l:List Int)(x:Int)(h:Rv w 1 v l.length (ints l))(k:l.length≤1000000)(r:Bool)(j:r=decide (x∈l)):
  Calls Tryz.prog 136 #[v,.int .i64 x] w fun e o=>e=.returned (.bool r)∧w=o:=by
 have f:=h_ j;clear j;obtain⟨_,a,cap,rfl,_,_⟩:=id h;go_enter Tryz.func136,Tryz.ntmps136;go_wp2_with fail;refine(UM _ l x h k).mono ?_;rintro e p ⟨i,rfl,g,rfl⟩;have d:=h_ g;clear g;by_cases b:0≤i
 ·have n:decide (0≤i)=true:=An b
  have c:Hid (r=true):=h_ (by rw[f.out];exact An (d.out.1 b));go_wp2;go_ret;exact⟨by rw[c.out];rfl,rfl⟩
 ·have n:decide (0≤i)=false:=Ak b
  have c:Hid (r=false):=h_ (by rw[f.out];exact Ak (fun m=>b (d.out.2 m)));go_wp2;go_ret;exact⟨by rw[c.out];rfl,rfl⟩
theorem Jh {w:World}(v:Value)(l:List Int)(h:Rv w 1 v l.length (ints l))(B:l.length≤1000000)(i:0<l.length):
  Calls Tryz.prog 82 #[v] w fun e f=>∃v',e=.returned v'∧Own f w.heap.size 3 v' (ints l)∧Keep [] w f:=by
 obtain⟨x,p,s,t,u⟩:=AU Tryz.infoI;obtain⟨sb,D,cap,o,_,_,_⟩:=h.at1 i;subst o;have z:=BY w [] 3;have j:=h.alloc (.cells #[] 3);have g:=(By [] w).alloc (.cells #[] 3);have r:=Rv.src (P:=Tryz.prog) j Dl (PE l);have m:Own (w.alloc (.cells #[] 3)) w.heap.size 3 (.slice (some ⟨w.heap.size,0,none⟩) 0 0) []:=⟨rfl,.inr ⟨w.heap.size,0,#[],rfl,Av _,BY w [] 3,by simp,by unfold maxLen;omega,rfl,rfl⟩⟩;have A:=fun(W:World) (a:Option Addr) (n c:Nat)=>Lib.run_eql_slice_nil (P:=Tryz.prog) W 22 3 a n c 0 0 Dl
 go_enter Tryz.func82,Tryz.ntmps82
 go_wp2_with (at_builtin;refine Bl _ rfl _ _ 22 22 rfl w.heap.size 3 x (.int .i64 0) 1 8 Dl p s t u rfl (by decide) _ 0 [] rfl m _ _ _ rfl r (by unfold maxLen;omega) (by omega) (by simp) ?_;intro E F b k _ y)
 go_ret;refine⟨_,rfl, ?_, ?_⟩
 ·rw[AP,List.nil_append]at b
  unfold Own;rw[CK];exact b
 ·exact g.then (DJ k) (fun q d C=>by change q∈[w.heap.size]at d;simp at d;omega)
def Q5:List (List Int):=[[1],[2],[3],[4],[5],[1,2],[1,3],[1,4],[1,5],[2,3],[2,4],[2,5],[3,4],[3,5],[4,5],[1,2,3],[1,2,4],[1,2,5],[1,3,4],[1,3,5],[1,4,5],[2,3,4],[2,3,5],[2,4,5],[3,4,5],[1,2,3,4],[1,2,3,5],[1,2,4,5],[1,3,4,5],[2,3,4,5],[1,2,3,4,5]]
theorem TV {l:List Int}(h:nodesOk l=true):l∈Q5:=by
 have n:=(Pi h).1;unfold nodesOk at h;simp only[Ar,A0]at h;obtain⟨k,h⟩:=h
 match l,n,k,h with
 |[a],_,_,h=>have f:=h 0 (by simp);simp[Ey]at f;rcases(show a=1∨a=2∨a=3∨a=4∨a=5 by omega)with rfl|rfl|rfl|rfl|rfl<;>decide
 |[a,b],_,_,h=>have f:=h 0 (by simp);have g:=h 1 (by simp);simp[Ey]at f g;rcases(show a=1∨a=2∨a=3∨a=4 by omega)with rfl|rfl|rfl|rfl<;>rcases(show b=2∨b=3∨b=4∨b=5 by omega)with rfl|rfl|rfl|rfl<;>first|omega|decide
 |[a,b,c],_,_,h=>have f:=h 0 (by simp);have g:=h 1 (by simp);have i:=h 2 (by simp);simp[Ey]at f g i;rcases(show a=1∨a=2∨a=3 by omega)with rfl|rfl|rfl<;>rcases(show b=2∨b=3∨b=4 by omega)with rfl|rfl|rfl<;>rcases(show c=3∨c=4∨c=5 by omega)with rfl|rfl|rfl<;>first|omega|decide
 |[a,b,c,d],_,_,h=>have f:=h 0 (by simp);have g:=h 1 (by simp);have i:=h 2 (by simp);have j:=h 3 (by simp);simp[Ey]at f g i j;rcases(show a=1∨a=2 by omega)with rfl|rfl<;>rcases(show b=2∨b=3 by omega)with rfl|rfl<;>rcases(show c=3∨c=4 by omega)with rfl|rfl<;>rcases(show d=4∨d=5 by omega)with rfl|rfl<;>first|omega|decide
 |[a,b,c,d,e],_,_,h=>
  have f:=h 0 (by simp);have g:=h 1 (by simp);have i:=h 2 (by simp);have j:=h 3 (by simp);have m:=h 4 (by simp);simp[Ey]at f g i j m;obtain rfl:a=1:=by omega
  obtain rfl:b=2:=by omega
  obtain rfl:c=3:=by omega
  obtain rfl:d=4:=by omega
  obtain rfl:e=5:=by omega
  decide
def Hx (l:List Int):Nat:=l.foldl (fun b n=>b|||2^n.toNat) 0
theorem RZ (l:List Int)(n:Int):Hx (l++[n])=Hx l|||2^n.toNat:=by unfold Hx;rw[Gn];rfl
theorem LV (l:List Int)(h:∀n∈l,1≤n∧n≤5):Hx l<64:=by
 have key:∀(l:List Int) (b:Nat),b<64→(∀n∈l,1≤n∧n≤5)→l.foldl (fun b n=>b|||2^n.toNat) b<64:=by
  intro l
  induction l with
  |nil=>intro b c _;exact c
  |cons a t ih=>intro b c h;have e:=h a (by simp);refine ih _ ?_ (fun n d=>h n (by simp[d]));have:2^a.toNat<2^6:=Nat.pow_lt_pow_right (by omega) (by omega);exact Nat.or_lt_two_pow (n:=6) c this
 exact key l 0 (by omega) h
theorem DH (a b:Nat)(e:a<4611686018427387904)(f:b<4611686018427387904):bits .or .i64 (a:Int) (b:Int)=((a|||b:Nat):Int):=by
 have g:a|||b<2^62:=Nat.or_lt_two_pow (by omega) (by omega)
 have c:(BitVec.ofInt 64 (a:Int)).toNat =a:=by rw[BitVec.ofInt_natCast,Ck];exact AR (by omega)
 have d:(BitVec.ofInt 64 (b:Int)).toNat =b:=by rw[BitVec.ofInt_natCast,Ck];exact AR (by omega)
 show IntKind.i64.wrap ((BitVec.ofInt 64 (a:Int)|||BitVec.ofInt 64 (b:Int)).toNat :Int)=_;rw[BitVec.toNat_or,c,d,A9];omega
def stT (a top:Int)(l:List Int):List Nat:=BL [a,top,(Hx l:Int)]
abbrev stV (a top:Int)(b:Value):Value:= .agg #[.int .i64 a,.int .i64 top,b]
theorem QL {w:World}(c top:Int)(u:Value)(l:List Int)(h:Rv w 1 u l.length (ints l))(p:∀n∈l,1≤n∧n≤5)(M:l.length≤1000)(k:II c)(H:II top):
  Calls Tryz.prog 84 #[stV c top u] w fun e v=>∃v',e=.returned v'∧Buf v w.heap.size 5 v' (stT c top l)∧Keep [] w v:=by
 obtain⟨_,a,cap,rfl,_,_⟩:=id h;have o:=BY w [.int .i64 c,.int .i64 top,.slice a l.length cap] 151;have C:=h.alloc (.cells #[.int .i64 c,.int .i64 top,.slice a l.length cap] 151);have A:=(By [] w).alloc (.cells #[.int .i64 c,.int .i64 top,.slice a l.length cap] 151);have c2:(w.alloc (.cells #[.int .i64 c,.int .i64 top,.slice a l.length cap] 151)).cell? ⟨w.heap.size,2,none⟩=some (.slice a l.length cap):=o.cell 2;go_enter Tryz.func84,Tryz.ntmps84;go_wp2_with fail
 go_loop [3,9] (fun b i=>∃j:Nat,i=.int .i64 j∧j≤l.length∧b=.int .i64 ((Hx (l.take j):Nat):Int)) (fun _ i=>l.length-(intOf i).toNat)
 case atStart=>exact⟨0,rfl,by omega,rfl⟩
 case round=>
  obtain⟨j,rfl,L,rfl⟩:=hrel;by_cases g:j<l.length
  ·have O:(j:Int)<l.length:=by omega
   obtain⟨sb,P,J,k,_,_,q⟩:=C.at1 (by omega);simp only[Bn]at k;obtain⟨rfl,_,rfl⟩:=k;have F:=q j g;rw[Hm _ _ g]at F;have N:=p _ (PM g);have D:=LV (l.take j) (fun n m=>p n (AH m))
   have r:Hx (l.take (j+1))=Hx (l.take j)|||2^(l.getD j 0).toNat :=by rw[EC l 0 j g,RZ]
   have f:=h_ r;clear r q
   generalize Hx (l.take j)=B at*;generalize l.getD j 0=x at*;rcases(show x=1∨x=2∨x=3∨x=4∨x=5 by omega)with rfl|rfl|rfl|rfl|rfl
   ·have d:=DH B 2 (by omega) (by omega)
    go_wp2_with fail
    go_round
    case rel=>exact⟨j+1,by go_num,by omega,by rw[f.out];exact A3 (Value.int .i64) d⟩
    case measure=>simp[intOf];omega
   ·have d:=DH B 4 (by omega) (by omega)
    go_wp2_with fail
    go_round
    case rel=>exact⟨j+1,by go_num,by omega,by rw[f.out];exact A3 (Value.int .i64) d⟩
    case measure=>simp[intOf];omega
   ·have d:=DH B 8 (by omega) (by omega)
    go_wp2_with fail
    go_round
    case rel=>exact⟨j+1,by go_num,by omega,by rw[f.out];exact A3 (Value.int .i64) d⟩
    case measure=>simp[intOf];omega
   ·have d:=DH B 16 (by omega) (by omega)
    go_wp2_with fail
    go_round
    case rel=>exact⟨j+1,by go_num,by omega,by rw[f.out];exact A3 (Value.int .i64) d⟩
    case measure=>simp[intOf];omega
   ·have d:=DH B 32 (by omega) (by omega)
    go_wp2_with fail
    go_round
    case rel=>exact⟨j+1,by go_num,by omega,by rw[f.out];exact A3 (Value.int .i64) d⟩
    case measure=>simp[intOf];omega
  ·obtain rfl:j=l.length:=by omega
   have D:=LV l p;have s:l.take l.length=l:=Bt;have z:Hid (stT c top l=BL [c,top,((Hx l:Nat):Int)]):=h_ rfl;rw[s];clear s g;generalize Hx l=B at*;have K:(w.alloc (.cells #[.int .i64 c,.int .i64 top,.slice a l.length cap] 151)).cell? ⟨w.heap.size,0,none⟩=some (.int .i64 c):=o.cell 0;have c1:(w.alloc (.cells #[.int .i64 c,.int .i64 top,.slice a l.length cap] 151)).cell? ⟨w.heap.size,1,none⟩=some (.int .i64 top):=o.cell 1;go_wp2_with fail;have G:Rv ((w.alloc (.cells #[.int .i64 c,.int .i64 top,.slice a l.length cap] 151)).alloc (.cells #[.int .i64 c,.int .i64 top,.int .i64 (B:Int)] 2)) 1 (.slice (some ⟨w.heap.size+1,0,none⟩) 3 3) 3 (ints [c,top,(B:Int)]):=Y1 _ (ints [c,top,(B:Int)]) 2 1 3 3 rfl (by omega) (w.heap.size+1) (by simp);refine(Ou (w.heap.size+2) (.slice none 0 0) [] _ [c,top,(B:Int)] (Y4 _ _ _) G (fun _ b E=>by simp[Value.ownBlock]at E⊢) (by intro n m;simp at m;rcases m with rfl|rfl|rfl;exact k;exact H;exact⟨by omega,by omega⟩) (by simp) (by simp)).mono ?_;rintro e R ⟨Q,rfl,t⟩;go_wp2;go_ret;refine⟨_,rfl, ?_, ?_⟩
   ·rw[z.out]
    exact t.buf.mono (by omega)
   ·exact(A.alloc _).trans (t.keep.mono (by intro y I _;cases I))
abbrev SP (b e r:Int)(f:Bool):Value:= .agg #[.int .i64 b,.int .i64 e,.int .i64 r,.bool f]
def IP (b e r:Int)(f:Bool):List Value:=[.int .i64 b,.int .i64 e,.int .i64 r,.bool f]
def Ly (n:Int):Bool:=decide (0≤n)&&decide (n≤1099511627776)
def Ep (b e r:Int)(f:Bool):Bool:=Ly b&&(Ly e&&(Ly r&&((decide (r=0)||decide (e<r))&&(!f||decide (0<r)))))
theorem Fo (n:Int):Ly n=true↔0≤n∧n≤1099511627776:=by unfold Ly;rw[Ar,A0,A0]
theorem X2 {n:Int}(h:¬(0≤n∧n≤1099511627776)):Ly n=false:=by
 cases a:Ly n with
 |false=>rfl
 |true=>exact absurd ((Fo n).1 a) h
theorem MT {w:World}(b e r:Int)(f:Bool)(q:Bool)(hq:q=Ep b e r f):
  Calls Tryz.prog 208 #[SP b e r f] w fun x P=>x=.returned (.bool q)∧Keep [] w P:=by
 have z:=h_ hq;clear hq;go_enter Tryz.func208,Tryz.ntmps208;go_wp2_with fail;have m:Blk ((w.alloc (.cells (IP b e r f).toArray 49)).alloc (.cells (ints [b,e,r]).toArray 2)) w.heap.size (IP b e r f) 49:=(BY _ _ _).alloc _;have l:Blk ((w.alloc (.cells (IP b e r f).toArray 49)).alloc (.cells (ints [b,e,r]).toArray 2)) (w.heap.size+1) (ints [b,e,r]) 2:=Yt _ _ _ _ (by simp);have d:Keep [] w ((w.alloc (.cells (IP b e r f).toArray 49)).alloc (.cells (ints [b,e,r]).toArray 2)):=((By _ _).alloc _).alloc _;obtain⟨Q,G⟩:∃W,W=(w.alloc (.cells (IP b e r f).toArray 49)).alloc (.cells (ints [b,e,r]).toArray 2):=⟨_,rfl⟩;change Code.wp _ _ _ _ ((w.alloc (.cells (IP b e r f).toArray 49)).alloc (.cells (ints [b,e,r]).toArray 2));rw[←G]at m l d⊢;clear G;generalize w.heap.size+1=sb at*;generalize w.heap.size=xb at*;have M:=l.cell 0;have N:=l.cell 1;have O:=l.cell 2;simp only[ints,Br,Cy,List.getElem?_cons_succ,List.getElem?_cons_zero]at M N O;have R:=m.cell 1;have S:=m.cell 2;have T:=m.cell 3;simp only[IP,List.getElem?_cons_succ,List.getElem?_cons_zero]at R S T;clear m l
 have F:∀n:Int,n∈[b,e,r]→¬(0≤n∧n≤1099511627776)→q=false:=by intro n E h;have t:=X2 h;rw[z.out];unfold Ep;simp only[Ac,Am,AG]at E;rcases E with rfl|rfl|rfl<;>simp[t]
 have k:=h_ F;clear F
 go_loopw [13] (fun i wr=>∃j:Nat,j≤3∧i=.int .i64 j∧wr=Q∧(0<j→0≤b∧b≤1099511627776)∧(1<j→0≤e∧e≤1099511627776)∧(2<j→0≤r∧r≤1099511627776)) (fun i _=>3-(intOf i).toNat)
 case atStart=>exact⟨0,by omega,rfl,rfl,by omega,by omega,by omega⟩
 case round=>
  obtain⟨j,V,rfl,rfl,t,B,C⟩:=hrel;obtain⟨u,v,A⟩:=i_3 t B C;clear t B C;have K:j=0∨j=1∨j=2∨j=3:=by omega
  rcases K with rfl|rfl|rfl|rfl
  ·by_cases a:b<0
   ·have c:=k.out b (by simp) (by omega)
    have o:decide (b<0)=true:=An a;subst c;go_wp2;go_ret;exact⟨rfl,d⟩
   have o:decide (b<0)=false:=Ak a;by_cases g:1099511627776<b
   ·have c:=k.out b (by simp) (by omega)
    have p:decide (1099511627776<b)=true:=An g;subst c;go_wp2;go_ret;exact⟨rfl,d⟩
   have p:decide (1099511627776<b)=false:=Ak g;go_wp2
   go_roundw
   case rel=>exact⟨1,by omega,by first|rfl|trivial,by first|rfl|trivial,by intros;omega,by intros;omega,by intros;omega⟩
   case measure=>simp[intOf]
  ·by_cases a:e<0
   ·have c:=k.out e (by simp) (by omega)
    have o:decide (e<0)=true:=An a;subst c;go_wp2;go_ret;exact⟨rfl,d⟩
   have o:decide (e<0)=false:=Ak a;by_cases g:1099511627776<e
   ·have c:=k.out e (by simp) (by omega)
    have p:decide (1099511627776<e)=true:=An g;subst c;go_wp2;go_ret;exact⟨rfl,d⟩
   have p:decide (1099511627776<e)=false:=Ak g;go_wp2
   go_roundw
   case rel=>exact⟨2,by omega,by first|rfl|trivial,by first|rfl|trivial,by have:=u.out (by omega);intros;omega,by intros;omega,by intros;omega⟩
   case measure=>simp[intOf]
  ·by_cases a:r<0
   ·have c:=k.out r (by simp) (by omega)
    have o:decide (r<0)=true:=An a;subst c;go_wp2;go_ret;exact⟨rfl,d⟩
   have o:decide (r<0)=false:=Ak a;by_cases g:1099511627776<r
   ·have c:=k.out r (by simp) (by omega)
    have p:decide (1099511627776<r)=true:=An g;subst c;go_wp2;go_ret;exact⟨rfl,d⟩
   have p:decide (1099511627776<r)=false:=Ak g;go_wp2
   go_roundw
   case rel=>exact⟨3,by omega,by first|rfl|trivial,by first|rfl|trivial,by have:=u.out (by omega);intros;omega,by have:=v.out (by omega);intros;omega,by intros;omega⟩
   case measure=>simp[intOf]
  ·have H:=(Fo b).2 (u.out (by omega))
   have I:=(Fo e).2 (v.out (by omega));have J:=(Fo r).2 (A.out (by omega));have X:=(A.out (by omega)).1;have U:=(v.out (by omega)).1;have D:q=((decide (r=0)||decide (e<r))&&(!f||decide (0<r))):=by rw[z.out];unfold Ep;rw[H,I,J];rfl
   have s:=h_ D;clear H I J D;by_cases a:r=0
   ·subst a
    cases f
    ·have c:q=true:=by rw[s.out];rfl
     subst c;go_wp2;go_ret;exact⟨rfl,d⟩
    ·have c:q=false:=by rw[s.out];rfl
     subst c;go_wp2;go_ret;exact⟨rfl,d⟩
   have Y:(r==0)=false:=by simpa using a
   by_cases g:e<r
   ·have y:decide (e<r)=true:=An g
    have L:decide (0<r)=true:=An (by omega);have c:q=true:=by rw[s.out,y,L];simp
    subst c;cases f
    ·go_wp2
     go_ret;exact⟨rfl,d⟩
    ·go_wp2
     go_ret;exact⟨rfl,d⟩
   ·have y:decide (e<r)=false:=Ak g
    have c:q=false:=by rw[s.out,y,Ak a];rfl
    subst c;go_wp2;go_ret;exact⟨rfl,d⟩
def fN (f:Bool):Int:=if f=true then 1 else 0
theorem RL (f:Bool):II (fN f):=by cases f<;>(unfold fN II;simp)
def meText (b e r:Int)(f:Bool):List Nat:=BL [b,e,r,fN f]
theorem Jc {b e r:Int}{f:Bool}(h:∀n∈[b,e,r],II n):(meText b e r f).length ≤40:=by have:=Hc [b,e,r,fN f] (by intro n a;simp only[Ac,Am,AG]at a;rcases a with rfl|rfl|rfl|rfl;exact h _ (by simp);exact h _ (by simp);exact h _ (by simp);exact RL f);unfold meText;simpa using this
theorem Lx {w:World}(b e r:Int)(f:Bool)(hi:∀n∈[b,e,r],II n):
  Calls Tryz.prog 211 #[SP b e r f] w fun x k=>∃v,x=.returned v∧Buf k w.heap.size 5 v (meText b e r f)∧Keep [] w k:=by
 have c:=h_ hi;clear hi;go_enter Tryz.func211,Tryz.ntmps211;go_upto_if 5 with fail;go_cut [3] (fun s wc=>s=.int .i64 (fN f)∧Blk wc w.heap.size (IP b e r f) 49∧Keep [] w wc)
 case first=>
  cases f
  ·go_wp2_with fail
   go_meet;exact⟨rfl,BY _ _ _,(By _ _).alloc _⟩
  ·go_wp2_with fail
   go_meet;exact⟨rfl,BY _ _ _,(By _ _).alloc _⟩
 case rest=>
 obtain⟨rfl,a,d⟩:=hcut;have D:=d.size;have z:=a.cell 0;have A:=a.cell 1;have B:=a.cell 2;simp only[IP,List.getElem?_cons_succ,List.getElem?_cons_zero]at z A B;have i:=RL f;have h:∀n∈[b,e,r,fN f],II n:=by intro n j;simp only[Ac,Am,AG]at j;rcases j with rfl|rfl|rfl|rfl;exact c.out _ (by simp);exact c.out _ (by simp);exact c.out _ (by simp);exact i
 have g:meText b e r f=BL [b,e,r,fN f]:=rfl;obtain⟨m,l⟩:=i_2 g h;clear g h i a;generalize fN f=fn at*;go_wp2_with fail;have p:Rv (wc.alloc (.cells (ints [b,e,r,fn]).toArray 2)) 1 (.slice (some ⟨wc.heap.size,0,none⟩) [b,e,r,fn].length [b,e,r,fn].length) [b,e,r,fn].length (ints [b,e,r,fn]):=Ih (Yt _ _ _ _ (by simp)) rfl;refine(Ou w.heap.size (.slice none 0 0) [] _ [b,e,r,fn] (Y4 _ _ _) p (by intro _ q C t;cases t) l.out (by simp) (by simp;omega)).mono ?_;rintro x E ⟨v,rfl,o⟩;go_wp2;go_ret;refine⟨v,rfl, ?_,(d.alloc _).trans (o.keep.mono (by intro y u _;cases u))⟩;rw[m.out];have:=o.buf
 rwa [List.nil_append]at this
def WO (w:World)(k s d at_ turn a:Nat)(b e r:Int)(f:Bool):Prop:=
 Blk w k [pr s 0,.int .i64 b,.int .i64 e,.int .i64 r,.bool f] 116∧Hy w s d at_ turn (meText b e r f) a
theorem N4 (W:World):(Instr.build 49 #[]).run Tryz.prog W=.ok (SP 0 0 0 false) W:=DD W _ _ _ (by kernel_rfl)
theorem P4:(meText 0 0 0 false).length ≤40:=Jc (by intro n a;simp at a;subst a;exact⟨by omega,by omega⟩)
theorem Iq (b e r:Int)(f:Bool):∀c∈meText b e r f,c<256:=Io _
theorem JQ {b e r:Int}{f:Bool}(h:true=Ep b e r f):∀n∈[b,e,r],II n:=by
 have h:=h.symm;unfold Ep at h;simp only[Ar,Fo]at h;intro n a;simp only[Ac,Am,AG]at a;rcases a with rfl|rfl|rfl
 ·exact⟨by omega,by omega⟩
 ·exact⟨by omega,by omega⟩
 ·exact⟨by omega,by omega⟩
theorem Uc {w:World}{d sb:Nat}{L:List Sec}{c:Nat}(hd:IsDev w d sb L c)(at_:Nat)(hat:at_+1<L.length)(hc:c+5≤1099511627776):
  Calls Tryz.prog 161 #[pr d 0,.int .i64 at_] w fun x e=>∃k s,x=.returned (.tuple #[pr k 0,.int .i64 0])∧
   IsDev e d sb (((L.map flushSec).set (at_+1) zeroSec).set at_ ⟨Cz 1 (meText 0 0 0 false),Cz 1 (meText 0 0 0 false),false⟩) (c+5)∧WO e k s d at_ 1 0 0 0 0 false∧Keep [d,sb] w e∧w.heap.size≤k∧w.heap.size≤s:=by
 have A:=N4;have p:=hd.dev.lt;have r:=hd.secs.lt;go_enter Tryz.func161,Tryz.ntmps161;go_wp2_with fail;refine(Lx 0 0 0 false (by intro n g;simp at g;subst g;exact⟨by omega,by omega⟩)).mono ?_;rintro x B ⟨v,rfl,b,a⟩;have f:=hd.keep a (by simp) (by simp);have y:=a.size;go_wp2_with fail;refine(Ti f at_ hat v (meText 0 0 0 false) b.rd (Iq _ _ _ _) P4 hc (fun q o _=>by have:=b.lt q o;omega)).mono ?_;rintro x j ⟨s,rfl,m,h,i,u⟩;have l:Keep [d,sb] w j:=(a.mono (by simp)).trans i;have z:=i.size;have t:=h.lt;clear hd f b a;go_wp2;go_ret2;refine⟨j.heap.size,s,rfl,m.keep ((By [] _).alloc _) (by simp) (by simp),⟨BY _ _ _,h.keep ((By [] _).alloc _) (by simp) (by simp)⟩,l.alloc _,by omega,by omega⟩
def svD (j:World)(c k s:Nat)(b e r:Int)(f:Bool)(d g i:Int)(h:Bool)(l:Nat→Bool)(x:Nat→Value)(a:World):Prop:=
 (Blk a c (IP b e r f) 49)∧
 (Blk a k [pr s 0,.int .i64 d,.int .i64 g,.int .i64 i,.bool h] 116)∧
 (Keep [] j a)∧
 SlV l x 0 [some (SP b e r f),some (.bool true),some (.bool false),some (.bool false),some (pr c 0),some (.int .i64 b),some (pr k 0),some (pr k 0),some (pr k 1),some (pr k 1),some (.int .i64 d),some (.bool false),some (.bool false),some (.bool false),some (pr c 1),some (.int .i64 e),some (pr k 0),some (pr k 0),some (pr k 1),some (pr k 2),some (.int .i64 g),some (.bool false),some (.bool false),some (.bool false)]
def opJ (n:World)(k g s d at_ turn m:Nat)(h:Option Addr)(i:Nat)(a:List Nat)(b e r j:Int)(l:Nat→Bool)(x:Nat→Value)(c:World):Prop:=
 ∃f,(l 14=false→Blk c k [pr s 0,.int .i64 0,.int .i64 0,.int .i64 0,.bool false] 116∧Blk c g [.int .i64 0] 2)∧
 (l 14=true→Blk c k [pr s 0,.int .i64 b,.int .i64 e,.int .i64 r,.bool false] 116∧Blk c g [.int .i64 j] 2)∧
 (Hy c s d at_ turn a m)∧
 (Rd c (.slice h a.length i) a)∧
 (Keep [k,g] n c)∧
 (l 13=true→x 13=.slice (some ⟨f,0,none⟩) 4 4∧Blk c f (QZ [some ⟨k,1,none⟩,some ⟨k,2,none⟩,some ⟨k,3,none⟩,some ⟨g,0,none⟩]) 236)∧
 SlV l x 0 [some (.slice h a.length i),some (pr k 0),some (pr k 0),some (pr k 1),some (pr k 1),some (pr k 0),some (pr k 0),some (pr k 1),some (pr k 2),some (pr k 0),some (pr k 0),some (pr k 1),some (pr k 3),none,some (.tuple #[.int .i64 (a.length:Int),.int .i64 0]),some (.tuple #[.int .i64 (a.length:Int),.int .i64 0]),some (.int .i64 (a.length:Int)),some (.int .i64 0),some (.int .i64 (a.length:Int)),some (.int .i64 0)]
theorem P5 {w:World}{d sb:Nat}{L:List Sec}{c:Nat}(B:IsDev w d sb L c){at_ slot turn:Nat}{b e r:Int}{f:Bool}(h:Pair L at_ slot turn (meText b e r f))(hs:slot≤1)
  (i:true=Ep b e r f) (h0:0<turn) (M:turn<9223372036854775808):
  Calls Tryz.prog 157 #[pr d 0,.int .i64 at_] w fun x G=>∃k s,x=.returned (.tuple #[pr k 0,.int .i64 0])∧WO G k s d at_ turn slot b e r f∧Keep [] w G∧w.heap.size≤k∧w.heap.size≤s:=by
 have y:=JQ i;have T:=Jc (f:=f) y;have S:=Iq b e r f;have E:=Kh [b,e,r,fN f] [] (by intro n M;simp only[Ac,Am,AG]at M;rcases M with rfl|rfl|rfl|rfl;exact y _ (by simp);exact y _ (by simp);exact y _ (by simp);exact RL f);rw[AE]at E;have ag:B4 (meText b e r f) 4=([b,e,r,fN f],(meText b e r f).length,0):=E;have bg:(fN f==1)=f:=by cases f<;>rfl
 have HQ:=h_ i;have Z:=h_ (UK B h hs T S h0 M);obtain⟨p,ae⟩:∃p,meText b e r f=p:=⟨_,rfl⟩;rw[ae]at T S ag Z;have aq:=h_ ae;generalize fN f=fn at*;have HM:=h_ ag.symm;have ai:=h_ (show(∀c∈p,c<256)∧p.length≤4611686018427387904 from⟨S,by omega⟩);have ar:=h_ T;clear y T S E ag i h hs h0 M ae B;go_enter Tryz.func157,Tryz.ntmps157;go_wp2_with fail;refine Z.out.mono ?_;rintro x m ⟨s,rfl,bb,ad,k1⟩;have bc:=k1.size;have az:=ad.lt;clear Z;go_wp2_with fail;have ac:Blk ((m.alloc (.cells #[pr s 0,.int .i64 0,.int .i64 0,.int .i64 0,.bool false] 116)).alloc (.cells #[.int .i64 0] 2)) m.heap.size [pr s 0,.int .i64 0,.int .i64 0,.int .i64 0,.bool false] 116:=(BY _ _ _).alloc _;have ab:Blk ((m.alloc (.cells #[pr s 0,.int .i64 0,.int .i64 0,.int .i64 0,.bool false] 116)).alloc (.cells #[.int .i64 0] 2)) (m.heap.size+1) [.int .i64 0] 2:=Yt _ [.int .i64 0] _ _ (by simp);have R:=(ad.keep ((By [] _).alloc (.cells #[pr s 0,.int .i64 0,.int .i64 0,.int .i64 0,.bool false] 116)) (by simp) (by simp)).keep ((By [] _).alloc (.cells #[.int .i64 0] 2)) (by simp) (by simp);have K2:=(k1.alloc (.cells #[pr s 0,.int .i64 0,.int .i64 0,.int .i64 0,.bool false] 116)).alloc (.cells #[.int .i64 0] 2);obtain⟨O,u⟩:∃W,W=(m.alloc (.cells #[pr s 0,.int .i64 0,.int .i64 0,.int .i64 0,.bool false] 116)).alloc (.cells #[.int .i64 0] 2):=⟨_,rfl⟩;rw[←u]at ac ab R K2⊢;have bd:O.heap.size=m.heap.size+2:=by rw[u];simp
 clear u ad k1;refine(WG R ar.out).mono ?_;rintro x w3 ⟨v,rfl,U,N⟩;have an:=ac.keep N (by simp);have am:=ab.keep N (by simp);have ao:=R.keep N (by simp) (by simp);have K3:=K2.trans N;have ap:=U.rd;obtain⟨ba,aa,rfl⟩:=U.slice;have aj:=h_ (show∀q,(Value.slice ba p.length aa).ownBlock =some q→q≠m.heap.size∧q≠m.heap.size+1 from fun q i=>by have:=(U.lt q i).1;omega);have I:=h_ (show m.heap.size≠m.heap.size+1∧w.heap.size≤m.heap.size∧w.heap.size≤m.heap.size+1∧w.heap.size≤s by omega);clear ac ab R K2 N U bd bc az bb;generalize m.heap.size+1=g at*;generalize m.heap.size=k at*;go_wp2_with fail;refine wI (opJ w3 k g s d at_ turn slot ba aa p b e r fn) ?aS (.s ?a0<|.s ?a1<|.s ?a2<|.s ?a3<|.s ?a4<|.s ?a5<|.s ?a6<|.s ?a7<|.s ?a8<|.s ?a9<|.s ?a10<|.s ?a11<|.s ?a12<|.s ?a13<|.s ?a14<|.s ?a15<|.s ?a16<|.s ?a17<|.s ?a18<|.s ?a19<|.n) 20 ?aF
 case aS=>intro x;exact⟨0,fun _=>⟨an.drew,am.drew⟩,fun h=>absurd h (by decide),ao.keep ((By [] _).drew) (by simp) (by simp),ap.keep ((By [] _).drew) (by simp),(By _ _).drew,fun h=>absurd h (by decide),Yr⟩
 case a14=>
  intro l x G J y B;obtain⟨H,C,D,o,F,A,z,vS⟩:=J;have e0:=vS.a 0 (B.at rfl) rfl;have P:=z (B.at rfl);refine Oq.of (b:= ?bO14) ?eO14 ?_
  case eO14=>simp only[Al,Act.put,A8,A7,A6,e0,P.1];rfl
  intro K' Q;go_simp;obtain⟨j,t⟩:=C y;have ah:∀q∈DK ([some ⟨k,1,none⟩,some ⟨k,2,none⟩,some ⟨k,3,none⟩,some ⟨g,0,none⟩]:List (Option Addr)),q=k∨q=g:=by intro q i;simp only[DK,List.filterMap_cons,List.filterMap_nil,Option.map_some,Ac,Am,AG]at i;omega
  have bf:=P.2.ty.ne j.ty (by decide);have be:=P.2.ty.ne t.ty (by decide);refine(Tj (.slice ba p.length aa) _ p [some ⟨k,1,none⟩,some ⟨k,2,none⟩,some ⟨k,3,none⟩,some ⟨g,0,none⟩] F (Ih P.2 rfl) ai.out.1 ai.out.2 (by simp) ?_ (fun q i _ E=>by have:=aj.out q i;have:=ah q E;omega) (fun q i E=>by have h1:H=q:=Option.some.inj i;have:=ah q E;omega) ([b,e,r,fn],p.length,0) HM.out).mono ?_
  ·intro a ha
   simp only[Ac,BU,Am,AG]at ha;rcases ha with rfl|rfl|rfl|rfl
   ·exact⟨⟨_,j.cell 1⟩,j.free 1⟩
   ·exact⟨⟨_,j.cell 2⟩,j.free 2⟩
   ·exact⟨⟨_,j.cell 3⟩,j.free 3⟩
   ·exact⟨⟨_,t.cell 0⟩,t.free 0⟩
  rintro x2 O ⟨rfl,u⟩;simp only at u⊢;have V:Keep [k,g] G O:=by rw[u];exact Ig _ _ _ _ _ (By _ _) (by intro q i;have:=ah q i;simp;omega)
  have bh:=I.out;have av:Blk O k [pr s 0,.int .i64 b,.int .i64 e,.int .i64 r,.bool false] 116:=by rw[u];exact(((j.set 1 (.int .i64 b)).set 2 (.int .i64 e)).set 3 (.int .i64 r)).other (by show k≠g;omega) _
  have au:Blk O g [.int .i64 fn] 2:=by rw[u];exact((((t.other (a:=⟨k,1,none⟩) (by show g≠k;omega) _).other (a:=⟨k,2,none⟩) (by show g≠k;omega) _).other (a:=⟨k,3,none⟩) (by show g≠k;omega) _).set 0 (.int .i64 fn))
  have bi:s≠k∧s≠g:=⟨o.ty.ne j.ty (by decide),o.ty.ne t.ty (by decide)⟩;have ay:∀q∈[k,g],¬Ty G q 5:=by intro q i;simp only[Ac,Am,AG]at i;rcases i with rfl|rfl;exact fun h=>j.ty.ne h (by decide) rfl;exact fun h=>t.ty.ne h (by decide) rfl
  clear u;go_simp;exact Q.go _ rfl ⟨H,fun h=>Bool.noConfusion (show true=false from h),fun _=>⟨av,au⟩,o.keep V (by simp;omega) ay,Yw F V (fun q i _=>by have:=aj.out q i;simp;omega),A.trans V,fun h=>⟨(z h).1,(z h).2.keep V (by simp;omega)⟩,vS.r⟩
 case aF=>intro l x Y J X;obtain⟨H,C,D,o,F,A,z,vS⟩:=J;have ak:=vS.a 18 (X 18 (by decide)) rfl;have al:=vS.a 19 (X 19 (by decide)) rfl;obtain⟨j,t⟩:=D (X 14 (by decide));simp only[Al,Act.put,A8,A7,A6,ak,al];clear z ak al X C D an am ao ap vS;have K4:=K3.then A (by intro q i ax;have:=I.out;simp at i;omega);have g0:=t.cell 0;have k4:=j.cell 4;have f4:=j.free 4;simp only[List.getElem?_cons_zero,List.getElem?_cons_succ]at g0 k4;go_upto_region 9 with fail;have K:Blk (Y.setCell ⟨k,4,none⟩ (.bool f)) k [pr s 0,.int .i64 b,.int .i64 e,.int .i64 r,.bool f] 116:=j.set 4 (.bool f);have af:Keep [k] Y (Y.setCell ⟨k,4,none⟩ (.bool f)):=(By _ _).setCell (.inl (by simp)) _;have aw:=o.keep af (by have:=o.ty.ne j.ty (by decide);simp;omega) (by intro q i;simp at i;subst i;exact fun h=>j.ty.ne h (by decide) rfl);have K5:=K4.then af (by intro q i ax;have:=I.out;simp at i;omega);clear j t o af K4 g0 k4 f4 F A;generalize Y.setCell ⟨k,4,none⟩ (.bool f)=w5 at*;have c1:=K.cell 1;have c2:=K.cell 2;have c3:=K.cell 3;have c4:=K.cell 4;simp only[List.getElem?_cons_zero,List.getElem?_cons_succ]at c1 c2 c3 c4;go_wp2_with fail;refine(MT b e r f true HQ.out).mono ?_;rintro x6 w6 ⟨rfl,k6⟩;go_wp2;go_ret2;exact⟨k,s,rfl,⟨K.keep k6 (by simp),by rw[aq.out];exact aw.keep k6 (by simp) (by simp)⟩,K5.trans k6,I.out.2.1,I.out.2.2.2⟩
 all_goals
  intro l x G J y B;obtain⟨H,C,D,o,F,A,z,vS⟩:=J;have hW:=vS;have hD:=B;simp only[SlV]at hW
  try simp[BD,Region.binds]at hD
  refine Oq.of (by simp only[Al,Act.put,A8,A7,A6,hD,hW];rfl) ?_;clear hD hW;intro K' Q
 case a13=>go_simp;exact Q.go _ rfl ⟨G.heap.size,fun h=>⟨(C h).1.alloc _,(C h).2.alloc _⟩,fun h=>⟨(D h).1.alloc _,(D h).2.alloc _⟩,o.keep ((By [] _).alloc _) (by simp) (by simp),F.alloc _,A.alloc _,fun _=>⟨rfl,BY _ (QZ [some ⟨k,1,none⟩,some ⟨k,2,none⟩,some ⟨k,3,none⟩,some ⟨g,0,none⟩]) _⟩,vS.s rfl⟩
 all_goals go_simp;exact Q.go _ rfl ⟨H,C,D,o,F,A,z,vS.r⟩
theorem Ld:∀a b c:List Nat,JE a b=true→JE b c=true→JE a c=true
 |_,[],_,h,_=>by cases ‹List Nat›<;>simp[JE]at h
 |_,_::_,[],_,h=>by simp[JE]at h
 |[],_::_,_::_,_,_=>rfl
 |x::a,y::b,z::c,e,d=>by
  unfold JE at*;simp only[CQ,Ar,A0]at*;rcases e with e|⟨rfl,e⟩
  ·rcases d with d|⟨rfl,d⟩
   ·left;omega
   ·exact .inl e
  ·rcases d with d|⟨rfl,d⟩
   ·exact .inl d
   ·exact .inr ⟨rfl,Ld a b c e d⟩
theorem Le:∀a b:List Nat,JE a b=false→JE b a=false→a=b
 |[],[],_,_=>rfl
 |[],_::_,h,_=>by simp[JE]at h
 |_::_,[],_,h=>by simp[JE]at h
 |x::a,y::b,h1,h2=>by
  unfold JE at h1 h2;simp only[Bool.or_eq_false_iff,Bool.and_eq_false_iff,decide_eq_false_iff_not]at h1 h2;have e:x=y:=by omega
  subst e;have c:=h1.2.resolve_left (by simp);have d:=h2.2.resolve_left (by simp);rw[Le a b c d]
theorem sb_inj {a b:Str}(h:sb a=sb b):a=b:=by rw[←KY a,←KY b,h]
theorem Tz (a b c:Str)(h:UR a b=true)(k:UR b c=true):UR a c=true:=Ld _ _ _ h k
theorem T1 (a b:Str)(h:UR a b=false)(k:UR b a=false):a=b:=sb_inj (Le _ _ h k)
def COk (c:Cache):Prop:=c.Pairwise (fun a b=>UR a.1 b.1=true)
theorem Fd (k v:Str)(c:Cache)(x:Str):cGet ((k,v)::c) x=if k=x then some v else cGet c x:=by
 unfold cGet;rw[List.find?_cons];by_cases h:k=x
 ·simp[h]
 ·simp[h]
theorem Qy:∀(c:Cache) (k v x:Str),COk c→cGet (GA k v c) x=if x=k then some v else cGet c x
 |[],k,v,x,_=>by
  show cGet [(k,v)] x=_;rw[Fd];by_cases h:x=k
  ·rw[Ay h,Ay h.symm]
  ·rw[Aw h,Aw (fun e=>h e.symm)]
 |(k',v')::c,k,v,x,hc=>by
  unfold COk at hc;rw[B9]at hc;unfold GA;by_cases d:UR k k'=true
  ·rw[Ay d,Fd]
   by_cases h:x=k
   ·rw[Ay h,Ay h.symm]
   ·rw[Aw h,Aw (fun e=>h e.symm)]
  ·rw[Aw d]
   by_cases b:k=k'
   ·rw[Ay b,Fd,Fd]
    subst b;by_cases h:x=k
    ·rw[Ay h,Ay h.symm]
    ·rw[Aw h,Aw (fun e=>h e.symm),Aw (fun e=>h e.symm)]
   ·rw[Aw b,Fd,Fd,Qy c k v x hc.2]
    by_cases a:k'=x
    ·rw[Ay a,Ay a,Aw (fun e=>b (e.symm.trans a.symm))]
    ·rw[Aw a,Aw a]
theorem Qx:∀(c:Cache) (k v:Str) (p:Str×Str),p∈GA k v c→p=(k,v)∨p∈c
 |[],k,v,p,h=>by rcases Ah.1 h with rfl;exact .inl rfl
 |(k',v')::c,k,v,p,h=>by
  unfold GA at h
  split at h
  ·rcases Ac.1 h with h|h
   ·exact .inl h
   ·exact .inr h
  ·split at h
   ·rcases Ac.1 h with h|h
    ·exact .inl h
    ·exact .inr (Ap _ h)
   ·rcases Ac.1 h with h|h
    ·exact .inr (h▸Bx ..)
    ·rcases Qx c k v p h with h|h
     ·exact .inl h
     ·exact .inr (Ap _ h)
theorem Tc:∀(c:Cache) (k v:Str),COk c→COk (GA k v c)
 |[],k,v,_=>by unfold COk GA;simp
 |(k',v')::c,k,v,hc=>by
  unfold COk at hc⊢;have e:=hc;rw[B9]at hc;unfold GA;by_cases b:UR k k'=true
  ·rw[Ay b,B9]
   refine⟨fun p a=> ?_,e⟩;rcases Ac.1 a with rfl|a
   ·exact b
   ·exact Tz _ _ _ b (hc.1 p a)
  ·rw[Aw b]
   by_cases d:k=k'
   ·rw[Ay d,B9]
    subst d;exact⟨hc.1,hc.2⟩
   ·rw[Aw d,B9]
    refine⟨fun p a=> ?_,Tc c k v hc.2⟩;rcases Qx c k v p a with rfl|a
    ·cases f:UR k' k with
     |true=>rfl
     |false=>exact absurd (T1 k k' (by simpa using b) f) d
    ·exact hc.1 p a
end Go.Proofs.YtnhbioehiiifdaaGreat
