import Derived.Test.YtnhbioehiiifdaaGreatR03
import Derived.Test.YtnhbioehiiifdaaGreatR04
import Derived.Test.YtnhbioehiiifdaaGreatR05
set_option maxRecDepth 100000
set_option maxHeartbeats 16000000
set_option linter.all false
namespace Go.Proofs.YtnhbioehiiifdaaGreat
open Go.ChangeShapes Go.WideShapes Go.ChangeAt Go.RowKit
theorem BA {P:Program}{c:Array Oper}{rest:List Oper}{o:Oper}{a:Act}{w:World}{Q:Exit→Act→World→Prop}(ty:TypeId)(x:Operand)(m:o.op=.load ty x)
  (g:Nat) (p:a.eval x=pr g 0) (t:TypeId) (b:Array Value) (e:Nat×Nat) (d:TypeDesc) (j:w.heap[g]?=some (.cells b t e))
  (n:P.underlying ty=some d) (i:(match d with| .struct _| .array _ _=>true|_=>false)=true) (l:(P.info? ty).map (·.size)=some b.size)
  (k:Region.wanted o (yielded c a.tmps)=true)
  (h:wpList P c Q rest (a.put o.dst (.agg b)) w):wpList P c Q (o::rest) a w:=
 wpList_step fun K f=>by rw[Ay k];exact wp_load_row ty x m g p t b e d j n i l (f _ _ h)
theorem JP {w:World}(m:Ms)(i j k l:Value)(h:MsRd w m i j k l)(C:MsSz m)(r:Bool)(hr:r=mayM m):
  Calls Tryz.prog 116 #[Yi m i j k l] w fun e w'=>e=.returned (.bool r)∧Keep [] w w':=by
 have a:=BY w (CZ m i j k l) 175;have d:=h.alloc (.cells (CZ m i j k l).toArray 175);have c:=(By [] w).alloc (.cells (CZ m i j k l).toArray 175);have t:=h_ hr;clear hr;go_enter Tryz.func116,Tryz.ntmps116;have c0:=Yh a;have c1:=SL a;have c2:=Yg a;by_cases P:m.kind<1
 ·have q1:decide (m.kind<1)=true:=An P
  have z:decide (1≤m.kind)=false:=Ak (by omega);go_wp2;go_ret;exact⟨by rw[t.out];unfold mayM Gb;rw[z];rfl,c⟩
 have q1:decide (m.kind<1)=false:=Ak P;have z:decide (1≤m.kind)=true:=An (by omega);by_cases Q:14<m.kind
 ·have q2:decide (14<m.kind)=true:=An Q
  have A:decide (m.kind≤14)=false:=Ak (by omega);go_wp2;go_ret;exact⟨by rw[t.out];unfold mayM Gb;rw[z,A];rfl,c⟩
 have q2:decide (14<m.kind)=false:=Ak Q;have A:decide (m.kind≤14)=true:=An (by omega);by_cases I:m.src=m.dst
 ·have q3:(m.src==m.dst)=true:=by simpa using I
  have E:decide (m.src=m.dst)=true:=An I;go_wp2;go_ret;exact⟨by rw[t.out];unfold mayM Gb;rw[z,A,E];rfl,c⟩
 have q3:(m.src==m.dst)=false:=by simpa using I
 have E:decide (m.src=m.dst)=false:=Ak I;obtain⟨Y,af⟩:∃b,b=QG 5 [m.src,m.dst]:=⟨_,rfl⟩;have F:=h_ af;clear af;go_wp2_with fail;have an:Rv ((w.alloc (.cells (CZ m i j k l).toArray 175)).alloc (.cells #[.int .i64 m.src,.int .i64 m.dst] 2)) 1 (.slice (some ⟨w.heap.size+1,0,none⟩) 2 2) 2 (ints [m.src,m.dst]):=Y1 _ (ints [m.src,m.dst]) 2 1 2 2 rfl (by omega) (w.heap.size+1) (by simp);refine(LD 5 _ [m.src,m.dst] an (by simp) Y F.out).mono ?_;rintro e o ⟨rfl,rfl⟩;clear an;have aa:=a.alloc (.cells #[.int .i64 m.src,.int .i64 m.dst] 2);have T:=c.alloc (.cells #[.int .i64 m.src,.int .i64 m.dst] 2);have h4:=d.alloc (.cells #[.int .i64 m.src,.int .i64 m.dst] 2);clear a c d c0 c1 c2;generalize(w.alloc (.cells (CZ m i j k l).toArray 175)).alloc (.cells #[.int .i64 m.src,.int .i64 m.dst] 2)=w4 at*;have a:=aa;have c:=T;have d:=h4;clear aa T h4
 cases Y with
 |false=>go_wp2;go_ret;exact⟨by rw[t.out];unfold mayM Gb;rw[z,A,E,←F.out];rfl,c⟩
 |true=>
 have c3:=msc_3 a;have c4:=Yf a;have c5:=Ye a;have c7:=msc_7 a;have c19:=msc_19 a;obtain⟨Z,ag⟩:∃b,b=QG 1099511627776 [m.epoch,m.tick,m.seq,m.id,m.base]:=⟨_,rfl⟩;have H:=h_ ag;clear ag;go_wp2_with fail;have ao:Rv ((w4).alloc (.cells #[.int .i64 m.epoch,.int .i64 m.tick,.int .i64 m.seq,.int .i64 m.id,.int .i64 m.base] 2)) 1 (.slice (some ⟨w4.heap.size,0,none⟩) 5 5) 5 (ints [m.epoch,m.tick,m.seq,m.id,m.base]):=Y1 _ (ints [m.epoch,m.tick,m.seq,m.id,m.base]) 2 1 5 5 rfl (by omega) (w4.heap.size) (by simp);refine(LD 1099511627776 _ [m.epoch,m.tick,m.seq,m.id,m.base] ao (by simp) Z H.out).mono ?_;rintro e o ⟨rfl,rfl⟩;clear ao;have ab:=a.alloc (.cells #[.int .i64 m.epoch,.int .i64 m.tick,.int .i64 m.seq,.int .i64 m.id,.int .i64 m.base] 2);have U:=c.alloc (.cells #[.int .i64 m.epoch,.int .i64 m.tick,.int .i64 m.seq,.int .i64 m.id,.int .i64 m.base] 2);have h5:=d.alloc (.cells #[.int .i64 m.epoch,.int .i64 m.tick,.int .i64 m.seq,.int .i64 m.id,.int .i64 m.base] 2);clear a c d c3 c4 c5 c7 c19;generalize(w4).alloc (.cells #[.int .i64 m.epoch,.int .i64 m.tick,.int .i64 m.seq,.int .i64 m.id,.int .i64 m.base] 2)=o at*;have a:=ab;have c:=U;have d:=h5;clear ab U h5
 cases Z with
 |false=>go_wp2;go_ret;exact⟨by rw[t.out];unfold mayM Gb;rw[z,A,E,←F.out,←H.out];rfl,c⟩
 |true=>
 have c6:=msc_6 a;obtain⟨b6,ah⟩:∃b,b=QG 1073741824 [m.n]:=⟨_,rfl⟩;have K:=h_ ah;clear ah;go_wp2_with fail;have ap:Rv ((o).alloc (.cells #[.int .i64 m.n] 2)) 1 (.slice (some ⟨o.heap.size,0,none⟩) 1 1) 1 (ints [m.n]):=Y1 _ (ints [m.n]) 2 1 1 1 rfl (by omega) (o.heap.size) (by simp);refine(LD 1073741824 _ [m.n] ap (by simp) b6 K.out).mono ?_;rintro e o ⟨rfl,rfl⟩;clear ap;have ac:=a.alloc (.cells #[.int .i64 m.n] 2);have V:=c.alloc (.cells #[.int .i64 m.n] 2);have h6:=d.alloc (.cells #[.int .i64 m.n] 2);clear a c d c6;generalize(o).alloc (.cells #[.int .i64 m.n] 2)=B at*;have a:=ac;have c:=V;have d:=h6;clear ac V h6
 cases b6 with
 |false=>go_wp2;go_ret;exact⟨by rw[t.out];unfold mayM Gb;rw[z,A,E,←F.out,←H.out,←K.out];rfl,c⟩
 |true=>
 have M:Gb m=true:=by unfold Gb;rw[z,A,E,←F.out,←H.out,←K.out];rfl
 clear z A E q1 q2 q3 P Q I F H K;have c8:=msc_8 a;have c9:=Yd a;have c10:=VH a;obtain⟨b7,ai⟩:∃b,b=QG 2 [m.op]:=⟨_,rfl⟩;have G:=h_ ai;clear ai;go_wp2_with fail;have aq:Rv ((B).alloc (.cells #[.int .i64 m.op] 2)) 1 (.slice (some ⟨B.heap.size,0,none⟩) 1 1) 1 (ints [m.op]):=Y1 _ (ints [m.op]) 2 1 1 1 rfl (by omega) (B.heap.size) (by simp);refine(LD 2 _ [m.op] aq (by simp) b7 G.out).mono ?_;rintro e o ⟨rfl,rfl⟩;clear aq;have ad:=a.alloc (.cells #[.int .i64 m.op] 2);have W:=c.alloc (.cells #[.int .i64 m.op] 2);have h7:=d.alloc (.cells #[.int .i64 m.op] 2);clear a c d c8 c9 c10;generalize(B).alloc (.cells #[.int .i64 m.op] 2)=w7 at*;have a:=ad;have c:=W;have d:=h7;clear ad W h7
 cases b7 with
 |false=>go_wp2;go_ret;exact⟨by rw[t.out];unfold mayM MS;rw[M,←G.out];rfl,c⟩
 |true=>
 have c9:=Yd a;have c10:=VH a;have av:=C.key;by_cases g8:40<m.key.size
 ·have q8:decide (40<(m.key.size:Int))=true:=An (by omega)
  have J:decide (m.key.size≤40)=false:=Ak (by omega);go_wp2;go_ret;exact⟨by rw[t.out];unfold mayM MS;rw[M,←G.out,J];rfl,c⟩
 have q8:decide (40<(m.key.size:Int))=false:=Ak (by omega);have J:decide (m.key.size≤40)=true:=An (by omega);obtain⟨b9,aj⟩:∃b,b=QG 10 [m.err]:=⟨_,rfl⟩;have L:=h_ aj;clear aj;go_wp2_with fail;have ar:Rv ((w7).alloc (.cells #[.int .i64 m.err] 2)) 1 (.slice (some ⟨w7.heap.size,0,none⟩) 1 1) 1 (ints [m.err]):=Y1 _ (ints [m.err]) 2 1 1 1 rfl (by omega) (w7.heap.size) (by simp);refine(LD 10 _ [m.err] ar (by simp) b9 L.out).mono ?_;rintro e o ⟨rfl,rfl⟩;clear ar;have ae:=a.alloc (.cells #[.int .i64 m.err] 2);have X:=c.alloc (.cells #[.int .i64 m.err] 2);have h9:=d.alloc (.cells #[.int .i64 m.err] 2);clear a c d c9 c10;generalize(w7).alloc (.cells #[.int .i64 m.err] 2)=w9 at*;have a:=ae;have c:=X;have d:=h9;clear ae X h9
 cases b9 with
 |false=>go_wp2;go_ret;exact⟨by rw[t.out];unfold mayM MS;rw[M,←G.out,J,←L.out];rfl,c⟩
 |true=>
 have hm:MS m=true:=by unfold MS;rw[←G.out,J,←L.out];rfl
 clear G L J q8 g8;have c12:=msc_12 a;have c13:=msc_13 a;have c14:=msc_14 a;have c15:=msc_15 a;obtain⟨u,al⟩:∃b,b=FM m:=⟨_,rfl⟩;have s:=h_ al;clear al;have am:r=((decide (m.it=VS)||Dj m.it)&&FM m):=by rw[t.out];unfold mayM;rw[M,hm,Dx,Dx]
 have v:=h_ am;clear am;obtain⟨N,O⟩:=C.it;by_cases y:m.it=VS
 ·have z1:m.it.1.toList=[]:=I5.2 (by rw[y];rfl)
  have z2:m.it.2.1.toList=[]:=I5.2 (by rw[y];rfl);have R:m.it.2.2.1=0:=by rw[y];rfl
  have S:m.it.2.2.2=false:=by rw[y];rfl
  have q:=h_ (show decide (m.it=VS)=true from An y);clear y
  go_wp2_with (refine BA 175 _ rfl w.heap.size rfl 175 (CZ m i j k l).toArray (0,0) _ a AV rfl C4 (by rfl) ?_)
  refine(GM m i j k l d C u s.out).mono ?_;rintro e o ⟨rfl,f⟩;go_wp2;go_ret;have g:r=u:=by rw[v.out,q.out,←s.out,Bool.true_or,Dx]
  exact⟨by rw[g];rfl,c.trans f⟩
 have q:=h_ (show decide (m.it=VS)=false from Ak y);have HN:=h_ y;clear y;obtain⟨x,ak⟩:∃b,b=itMay m.it.1 m.it.2.1 m.it.2.2.1 m.it.2.2.2:=⟨_,rfl⟩;have p:=h_ ak;clear ak;by_cases z1:m.it.1.toList=[]
 case neg=>
   go_wp2_with fail;refine(FT m.it.1 m.it.2.1 m.it.2.2.1 m.it.2.2.2 N O x p.out).mono ?_;rintro e o ⟨rfl,f⟩;replace a:=a.keep f (by simp);replace d:=d.keep f;replace c:=c.trans f;clear c12 c13 c14 c15 f
   cases x with
   |false=>
    go_wp2;go_ret;have g:r=false:=by rw[v.out,q.out,show Dj m.it=false from p.out.symm,CH,Bool.false_and]
    exact⟨by rw[g];rfl,c⟩
   |true=>
    go_wp2_with (refine BA 175 _ rfl w.heap.size rfl 175 (CZ m i j k l).toArray (0,0) _ a AV rfl C4 (by rfl) ?_)
    refine(GM m i j k l d C u s.out).mono ?_;rintro e B ⟨rfl,D⟩;go_wp2;go_ret;have g:r=u:=by rw[v.out,q.out,show Dj m.it=true from p.out.symm,←s.out,CH,Dx]
    exact⟨by rw[g];rfl,c.trans D⟩
 by_cases z2:m.it.2.1.toList=[]
 case neg=>
   go_wp2_with fail;refine(FT m.it.1 m.it.2.1 m.it.2.2.1 m.it.2.2.2 N O x p.out).mono ?_;rintro e o ⟨rfl,f⟩;replace a:=a.keep f (by simp);replace d:=d.keep f;replace c:=c.trans f;clear c12 c13 c14 c15 f
   cases x with
   |false=>
    go_wp2;go_ret;have g:r=false:=by rw[v.out,q.out,show Dj m.it=false from p.out.symm,CH,Bool.false_and]
    exact⟨by rw[g];rfl,c⟩
   |true=>
    go_wp2_with (refine BA 175 _ rfl w.heap.size rfl 175 (CZ m i j k l).toArray (0,0) _ a AV rfl C4 (by rfl) ?_)
    refine(GM m i j k l d C u s.out).mono ?_;rintro e B ⟨rfl,D⟩;go_wp2;go_ret;have g:r=u:=by rw[v.out,q.out,show Dj m.it=true from p.out.symm,←s.out,CH,Dx]
    exact⟨by rw[g];rfl,c.trans D⟩
 by_cases R:m.it.2.2.1=0
 case neg=>
   go_wp2_with fail;refine(FT m.it.1 m.it.2.1 m.it.2.2.1 m.it.2.2.2 N O x p.out).mono ?_;rintro e o ⟨rfl,f⟩;replace a:=a.keep f (by simp);replace d:=d.keep f;replace c:=c.trans f;clear c12 c13 c14 c15 f
   cases x with
   |false=>
    go_wp2;go_ret;have g:r=false:=by rw[v.out,q.out,show Dj m.it=false from p.out.symm,CH,Bool.false_and]
    exact⟨by rw[g];rfl,c⟩
   |true=>
    go_wp2_with (refine BA 175 _ rfl w.heap.size rfl 175 (CZ m i j k l).toArray (0,0) _ a AV rfl C4 (by rfl) ?_)
    refine(GM m i j k l d C u s.out).mono ?_;rintro e B ⟨rfl,D⟩;go_wp2;go_ret;have g:r=u:=by rw[v.out,q.out,show Dj m.it=true from p.out.symm,←s.out,CH,Dx]
    exact⟨by rw[g];rfl,c.trans D⟩
 by_cases S:m.it.2.2.2=true
 case pos=>
   have au:Hid (x=itMay m.it.1 m.it.2.1 0 true):=h_ (by have:=p.out;rw[R,S]at this;exact this);go_wp2_with fail;refine(FT m.it.1 m.it.2.1 0 true N O x au.out).mono ?_;rintro e o ⟨rfl,f⟩;replace a:=a.keep f (by simp);replace d:=d.keep f;replace c:=c.trans f;clear c12 c13 c14 c15 f
   cases x with
   |false=>
    go_wp2;go_ret;have g:r=false:=by rw[v.out,q.out,show Dj m.it=false from p.out.symm,CH,Bool.false_and]
    exact⟨by rw[g];rfl,c⟩
   |true=>
    go_wp2_with (refine BA 175 _ rfl w.heap.size rfl 175 (CZ m i j k l).toArray (0,0) _ a AV rfl C4 (by rfl) ?_)
    refine(GM m i j k l d C u s.out).mono ?_;rintro e B ⟨rfl,D⟩;go_wp2;go_ret;have g:r=u:=by rw[v.out,q.out,show Dj m.it=true from p.out.symm,←s.out,CH,Dx]
    exact⟨by rw[g];rfl,c.trans D⟩
 exact absurd (Prod.ext (UW (z1.trans (I5.2 rfl).symm)) (Prod.ext (UW (z2.trans (I5.2 rfl).symm)) (Prod.ext R (show m.it.2.2.2=false by simpa using S)))) HN.out
def GotIdx (w:World)(l:List Int)(x:Int)(e:Ending)(a:World):Prop:=∃i:Int,e=.returned (.int .i64 i)∧(0≤i↔x∈l)∧w=a
theorem Own.islice {w:World}{base:Nat}{E:TypeId}{v:Value}{l:List Int}(h:Own w base E v (ints l)):∃a cap,v=.slice a l.length cap:=by obtain⟨a,cap,rfl⟩:=h.slice;exact⟨a,cap,by rw[CK]⟩
theorem Own.irv {w:World}{base:Nat}{E:TypeId}{v:Value}{l:List Int}(h:Own w base E v (ints l)):Rv w 1 v l.length (ints l):=by have:=h.rv;rw[CK]at this;exact this
theorem VK {l:List Int}{x:Int}(h:x∈l):∃k,k<l.length∧l.getD k 0=x:=by obtain⟨k,a,rfl⟩:=Dq h;exact⟨k,a,by rw[Af,Ad a];rfl⟩
theorem PM {l:List Int}{k:Nat}(h:k<l.length):l.getD k 0∈l:=by rw[Af,Ad h];exact BS h
theorem UM {w:World}(v:Value)(l:List Int)(x:Int)(h:Rv w 1 v l.length (ints l))(D:l.length≤1000000):
  Calls Tryz.prog 185 #[v,.int .i64 x] w (GotIdx w l x):=by
 obtain⟨_,a,cap,rfl,_,_⟩:=id h;go_enter Tryz.func185,Tryz.ntmps185;go_wp2_with fail
 go_loop [8] (fun i=>∃j:Nat,i=.int .i64 j∧j≤l.length∧∀k,k<j→l.getD k 0≠x) (fun i=>l.length-(intOf i).toNat)
 case atStart=>exact⟨0,rfl,by omega,fun k c=>absurd c (by omega)⟩
 case round=>
  obtain⟨j,rfl,C,m⟩:=hrel;have g:=h_ m;clear m;by_cases f:j<l.length
  ·have E:(j:Int)<l.length:=by omega
   obtain⟨sb,F,B,o,_,_,n⟩:=h.at1 (by omega);simp only[Bn]at o;obtain⟨rfl,_,rfl⟩:=o;have s:=n j f;rw[Hm _ _ f]at s;have p:=h_ (PM f)
   have r:=h_ (show l.getD j 0≠x→∀k,k<j+1→l.getD k 0≠x from fun z k c=>by
    by_cases t:k<j
    ·exact g.out k t
    ·obtain rfl:k=j:=by omega
     exact z)
   clear n
   generalize l.getD j 0=y at*;by_cases b:x=y
   ·have A:(x==y)=true:=by simpa using b
    have d:=h_ b;clear b;go_wp2;go_ret;exact⟨_,rfl,⟨fun _=>by rw[d.out];exact p.out,fun _=>by omega⟩,rfl⟩
   ·have A:(x==y)=false:=by simpa using b
    have d:=h_ b;clear b;go_wp2_with fail
    go_round
    case rel=>exact⟨j+1,by go_num,by omega,r.out (fun e=>d.out e.symm)⟩
    case measure=>simp[intOf];omega
  ·obtain rfl:j=l.length:=by omega
   have q:=h_ (show¬x∈l from fun u=>by obtain⟨k,c,e⟩:=VK u;exact g.out k c e)
   go_wp2;go_ret;exact⟨_,rfl,⟨fun h=>absurd h (by omega),fun h=>absurd h q.out⟩,rfl⟩
theorem Ov {w:World}(v:Value)(l:List Int)(x:Int)(h:Rv w 1 v l.length (ints l))(k:l.length≤1000000)(r:Bool)(j:r=decide (x∈l)):
  Calls Tryz.prog 136 #[v,.int .i64 x] w fun e o=>e=.returned (.bool r)∧w=o:=by
 have f:=h_ j;clear j;obtain⟨_,a,cap,rfl,_,_⟩:=id h;go_enter Tryz.func136,Tryz.ntmps136;go_wp2_with fail;refine(UM _ l x h k).mono ?_;rintro e p ⟨i,rfl,g,rfl⟩;have d:=h_ g;clear g;by_cases b:0≤i
 ·have n:decide (0≤i)=true:=An b
  have c:Hid (r=true):=h_ (by rw[f.out];exact An (d.out.1 b));go_wp2;go_ret;exact⟨by rw[c.out];rfl,rfl⟩
 ·have n:decide (0≤i)=false:=Ak b
  have c:Hid (r=false):=h_ (by rw[f.out];exact Ak (fun m=>b (d.out.2 m)));go_wp2;go_ret;exact⟨by rw[c.out];rfl,rfl⟩
theorem Jh {w:World}(v:Value)(l:List Int)(h:Rv w 1 v l.length (ints l))(C:l.length≤1000000)(j:0<l.length):
  Calls Tryz.prog 82 #[v] w fun e g=>∃f,e=.returned f∧Own g w.heap.size 3 f (ints l)∧Keep [] w g:=by
 obtain⟨y,r,t,u,x⟩:=AU Tryz.infoI;obtain⟨sb,E,cap,p,_,_,_⟩:=h.at1 j;subst p;have A:=BY w [] 3;have k:=h.alloc (.cells #[] 3);have i:=(By [] w).alloc (.cells #[] 3);have s:=Rv.src (P:=Tryz.prog) k Dl (PE l);have o:Own (w.alloc (.cells #[] 3)) w.heap.size 3 (.slice (some ⟨w.heap.size,0,none⟩) 0 0) []:=⟨rfl,.inr ⟨w.heap.size,0,#[],rfl,Av _,BY w [] 3,by simp,by unfold maxLen;omega,rfl,rfl⟩⟩;have B:=fun(W:World) (a:Option Addr) (n c:Nat)=>Lib.run_eql_slice_nil (P:=Tryz.prog) W 22 3 a n c 0 0 Dl
 go_enter Tryz.func82,Tryz.ntmps82
 go_wp2_with (at_builtin;refine Bl _ rfl _ _ 22 22 rfl w.heap.size 3 y (.int .i64 0) 1 8 Dl r t u x rfl (by decide) _ 0 [] rfl o _ _ _ rfl s (by unfold maxLen;omega) (by omega) (by simp) ?_;intro F G b m _ z)
 go_ret;refine⟨_,rfl, ?_, ?_⟩
 ·rw[AP,List.nil_append]at b
  unfold Own;rw[CK];exact b
 ·exact i.then (DJ m) (fun q d D=>by change q∈[w.heap.size]at d;simp at d;omega)
def Q5:List (List Int):=[[1],[2],[3],[4],[5],[1,2],[1,3],[1,4],[1,5],[2,3],[2,4],[2,5],[3,4],[3,5],[4,5],[1,2,3],[1,2,4],[1,2,5],[1,3,4],[1,3,5],[1,4,5],[2,3,4],[2,3,5],[2,4,5],[3,4,5],[1,2,3,4],[1,2,3,5],[1,2,4,5],[1,3,4,5],[2,3,4,5],[1,2,3,4,5]]
theorem TV {l:List Int}(h:nodesOk l=true):l∈Q5:=by
 have n:=(Pi h).1;unfold nodesOk at h;simp only[Ar,A0]at h;obtain⟨k,h⟩:=h
 match l,n,k,h with
 |[a],_,_,h=>have f:=h 0 (by simp);simp[Ey]at f;rcases(show a=1∨a=2∨a=3∨a=4∨a=5 by omega)with rfl|rfl|rfl|rfl|rfl<;>decide
 |[a,b],_,_,h=>have f:=h 0 (by simp);have g:=h 1 (by simp);simp[Ey]at f g;rcases(show a=1∨a=2∨a=3∨a=4 by omega)with rfl|rfl|rfl|rfl<;>rcases(show b=2∨b=3∨b=4∨b=5 by omega)with rfl|rfl|rfl|rfl<;>first|omega|decide
 |[a,b,c],_,_,h=>have f:=h 0 (by simp);have g:=h 1 (by simp);have i:=h 2 (by simp);simp[Ey]at f g i;rcases(show a=1∨a=2∨a=3 by omega)with rfl|rfl|rfl<;>rcases(show b=2∨b=3∨b=4 by omega)with rfl|rfl|rfl<;>rcases(show c=3∨c=4∨c=5 by omega)with rfl|rfl|rfl<;>first|omega|decide
 |[a,b,c,d],_,_,h=>have f:=h 0 (by simp);have g:=h 1 (by simp);have i:=h 2 (by simp);have j:=h 3 (by simp);simp[Ey]at f g i j;rcases(show a=1∨a=2 by omega)with rfl|rfl<;>rcases(show b=2∨b=3 by omega)with rfl|rfl<;>rcases(show c=3∨c=4 by omega)with rfl|rfl<;>rcases(show d=4∨d=5 by omega)with rfl|rfl<;>first|omega|decide
 |[a,b,c,d,e],_,_,h=>
  have f:=h 0 (by simp);have g:=h 1 (by simp);have i:=h 2 (by simp);have j:=h 3 (by simp);have m:=h 4 (by simp);simp[Ey]at f g i j m;obtain rfl:a=1:=by omega
  obtain rfl:b=2:=by omega
  obtain rfl:c=3:=by omega
  obtain rfl:d=4:=by omega
  obtain rfl:e=5:=by omega
  decide
def Hx (l:List Int):Nat:=l.foldl (fun b n=>b|||2^n.toNat) 0
theorem RZ (l:List Int)(n:Int):Hx (l++[n])=Hx l|||2^n.toNat:=by unfold Hx;rw[Gn];rfl
theorem LV (l:List Int)(h:∀n∈l,1≤n∧n≤5):Hx l<64:=by
 have key:∀(l:List Int) (b:Nat),b<64→(∀n∈l,1≤n∧n≤5)→l.foldl (fun b n=>b|||2^n.toNat) b<64:=by
  intro l
  induction l with
  |nil=>intro b c _;exact c
  |cons a t ih=>intro b c h;have e:=h a (by simp);refine ih _ ?_ (fun n d=>h n (by simp[d]));have:2^a.toNat<2^6:=Nat.pow_lt_pow_right (by omega) (by omega);exact Nat.or_lt_two_pow (n:=6) c this
 exact key l 0 (by omega) h
theorem DH (a b:Nat)(e:a<4611686018427387904)(f:b<4611686018427387904):bits .or .i64 (a:Int) (b:Int)=((a|||b:Nat):Int):=by
 have g:a|||b<2^62:=Nat.or_lt_two_pow (by omega) (by omega)
 have c:(BitVec.ofInt 64 (a:Int)).toNat =a:=by rw[BitVec.ofInt_natCast,Ck];exact AR (by omega)
 have d:(BitVec.ofInt 64 (b:Int)).toNat =b:=by rw[BitVec.ofInt_natCast,Ck];exact AR (by omega)
 show IntKind.i64.wrap ((BitVec.ofInt 64 (a:Int)|||BitVec.ofInt 64 (b:Int)).toNat :Int)=_;rw[BitVec.toNat_or,c,d,A9];omega
def stT (a top:Int)(l:List Int):List Nat:=BL [a,top,(Hx l:Int)]
abbrev stV (a top:Int)(b:Value):Value:= .agg #[.int .i64 a,.int .i64 top,b]
theorem QL {w:World}(c top:Int)(v:Value)(l:List Int)(h:Rv w 1 v l.length (ints l))(p:∀n∈l,1≤n∧n≤5)(N:l.length≤1000)(k:II c)(I:II top):
  Calls Tryz.prog 84 #[stV c top v] w fun e z=>∃u,e=.returned u∧Buf z w.heap.size 5 u (stT c top l)∧Keep [] w z:=by
 obtain⟨_,a,cap,rfl,_,_⟩:=id h;have o:=BY w [.int .i64 c,.int .i64 top,.slice a l.length cap] 151;have D:=h.alloc (.cells #[.int .i64 c,.int .i64 top,.slice a l.length cap] 151);have C:=(By [] w).alloc (.cells #[.int .i64 c,.int .i64 top,.slice a l.length cap] 151);have c2:(w.alloc (.cells #[.int .i64 c,.int .i64 top,.slice a l.length cap] 151)).cell? ⟨w.heap.size,2,none⟩=some (.slice a l.length cap):=o.cell 2;go_enter Tryz.func84,Tryz.ntmps84;go_wp2_with fail
 go_loop [3,9] (fun b i=>∃j:Nat,i=.int .i64 j∧j≤l.length∧b=.int .i64 ((Hx (l.take j):Nat):Int)) (fun _ i=>l.length-(intOf i).toNat)
 case atStart=>exact⟨0,rfl,by omega,rfl⟩
 case round=>
  obtain⟨j,rfl,M,rfl⟩:=hrel;by_cases g:j<l.length
  ·have P:(j:Int)<l.length:=by omega
   obtain⟨sb,Q,K,k,_,_,q⟩:=D.at1 (by omega);simp only[Bn]at k;obtain⟨rfl,_,rfl⟩:=k;have G:=q j g;rw[Hm _ _ g]at G;have O:=p _ (PM g);have E:=LV (l.take j) (fun n m=>p n (AH m))
   have r:Hx (l.take (j+1))=Hx (l.take j)|||2^(l.getD j 0).toNat :=by rw[EC l 0 j g,RZ]
   have f:=h_ r;clear r q
   generalize Hx (l.take j)=B at*;generalize l.getD j 0=x at*;rcases(show x=1∨x=2∨x=3∨x=4∨x=5 by omega)with rfl|rfl|rfl|rfl|rfl
   ·have d:=DH B 2 (by omega) (by omega)
    go_wp2_with fail
    go_round
    case rel=>exact⟨j+1,by go_num,by omega,by rw[f.out];exact A3 (Value.int .i64) d⟩
    case measure=>simp[intOf];omega
   ·have d:=DH B 4 (by omega) (by omega)
    go_wp2_with fail
    go_round
    case rel=>exact⟨j+1,by go_num,by omega,by rw[f.out];exact A3 (Value.int .i64) d⟩
    case measure=>simp[intOf];omega
   ·have d:=DH B 8 (by omega) (by omega)
    go_wp2_with fail
    go_round
    case rel=>exact⟨j+1,by go_num,by omega,by rw[f.out];exact A3 (Value.int .i64) d⟩
    case measure=>simp[intOf];omega
   ·have d:=DH B 16 (by omega) (by omega)
    go_wp2_with fail
    go_round
    case rel=>exact⟨j+1,by go_num,by omega,by rw[f.out];exact A3 (Value.int .i64) d⟩
    case measure=>simp[intOf];omega
   ·have d:=DH B 32 (by omega) (by omega)
    go_wp2_with fail
    go_round
    case rel=>exact⟨j+1,by go_num,by omega,by rw[f.out];exact A3 (Value.int .i64) d⟩
    case measure=>simp[intOf];omega
  ·obtain rfl:j=l.length:=by omega
   have E:=LV l p;have s:l.take l.length=l:=Bt;have A:Hid (stT c top l=BL [c,top,((Hx l:Nat):Int)]):=h_ rfl;rw[s];clear s g;generalize Hx l=B at*;have L:(w.alloc (.cells #[.int .i64 c,.int .i64 top,.slice a l.length cap] 151)).cell? ⟨w.heap.size,0,none⟩=some (.int .i64 c):=o.cell 0;have c1:(w.alloc (.cells #[.int .i64 c,.int .i64 top,.slice a l.length cap] 151)).cell? ⟨w.heap.size,1,none⟩=some (.int .i64 top):=o.cell 1;go_wp2_with fail;have H:Rv ((w.alloc (.cells #[.int .i64 c,.int .i64 top,.slice a l.length cap] 151)).alloc (.cells #[.int .i64 c,.int .i64 top,.int .i64 (B:Int)] 2)) 1 (.slice (some ⟨w.heap.size+1,0,none⟩) 3 3) 3 (ints [c,top,(B:Int)]):=Y1 _ (ints [c,top,(B:Int)]) 2 1 3 3 rfl (by omega) (w.heap.size+1) (by simp);refine(Ou (w.heap.size+2) (.slice none 0 0) [] _ [c,top,(B:Int)] (Y4 _ _ _) H (fun _ b F=>by simp[Value.ownBlock]at F⊢) (by intro n m;simp at m;rcases m with rfl|rfl|rfl;exact k;exact I;exact⟨by omega,by omega⟩) (by simp) (by simp)).mono ?_;rintro e S ⟨R,rfl,t⟩;go_wp2;go_ret;refine⟨_,rfl, ?_, ?_⟩
   ·rw[A.out]
    exact t.buf.mono (by omega)
   ·exact(C.alloc _).trans (t.keep.mono (by intro y J _;cases J))
def rpC (r:Rp):List Value:=[.int .i64 (r.id:Int),.int .i64 (r.op:Int),.string r.key,.int .i64 (r.err:Int),.string r.val,.bool r.has]
def caC (c:Call):List Value:=[.int .i64 (c.id:Int),.int .i64 (c.op:Int),.string c.key,.int .i64 (c.node:Int),.int .i64 (c.frm:Int),.int .i64 (c.too:Int),.bool c.done]++rpC c.rp
theorem CX (c:Call):(caC c).length =13:=rfl
theorem J7 (c:Call):∀v∈caC c,v.oneCell'=true:=by intro v a;simp only[caC,rpC,List.cons_append,List.nil_append,Ac,Am,AG]at a;rcases a with rfl|rfl|rfl|rfl|rfl|rfl|rfl|rfl|rfl|rfl|rfl|rfl|rfl<;>rfl
theorem Tryz.infoCall:(Tryz.prog.info? 87).map (fun i=>(i.zero,i.size,i.bytes))=some (some (.agg #[.int .i64 0,.int .i64 0,.string ByteArray.empty,.int .i64 0,.int .i64 0,.int .i64 0,.bool false,.int .i64 0,.int .i64 0,.string ByteArray.empty,.int .i64 0,.string ByteArray.empty,.bool false]),13,128):=by kernel_rfl
structure ClAt (w:World) (p:Nat) (v:Value) (L:List Call):Prop where
 blk:Blk w p [v] 123
 own:w.ownsRow 0 87 13 v L.length (rows caC L)
 len:L.length≤10000
section
variable {w w':World} {p:Nat} {v:Value} {L:List Call}
theorem ClAt.vty (h:ClAt w p v L):∀b,v.ownBlock=some b→Ty w b 87:=C5 h.own
theorem ClAt.slice (h:ClAt w p v L):∃a cap,v=.slice a L.length cap:=A4 h.own
theorem ClAt.keep {S:List Nat}(h:ClAt w p v L)(k:Keep S w w')(c:∀q∈S,q∉p::v.ownBlock.toList):ClAt w' p v L:=
 ⟨h.blk.keep k (fun b=>c p b (Bx ..)),by
  have j:=B3 h.own;refine⟨h.own.1, ?_⟩;rcases h.own.2 with⟨a,l⟩|⟨g,cap,e,a,f,i,r⟩
  ·exact .inl ⟨a,l⟩
  ·have d:v.ownBlock=some g:=by rw[a];rfl
   exact .inr ⟨g,cap,e,a,f,by rw[k.block g (j g d).2 (fun b=>c g b (Ap _ (Ae.2 d)))];exact i,r⟩,h.len⟩
theorem U2 {w:World}:Calls Tryz.prog 66 #[] w fun e w'=>∃p,e=.returned (pr p 0)∧ClAt w' p (.slice none 0 0) []∧Keep [] w w'∧w.heap.size≤p:=by go_enter Tryz.func66,Tryz.ntmps66;go_wp2;go_ret;exact⟨_,rfl,⟨BY w _ _,AY _ _ _ 13,by simp⟩,(By _ _).alloc _,Av _⟩
theorem RR {w:World}{base:Nat}(v:Value)(L:List Call)(h:w.ownsRow base 87 13 v L.length (rows caC L))(D:L.length≤10000):
  Calls Tryz.prog 48 #[v] w fun e w'=>∃f,e=.returned f∧w'.ownsRow w.heap.size 87 13 f L.length (rows caC L)∧Keep [] w w':=by
 obtain⟨z,o,u,x,y⟩:=AU Tryz.infoCall;have s:=Fa h;have C:=fun(W:World) (a:Option Addr) (n c:Nat)=>Lib.run_eql_slice_nil (P:=Tryz.prog) W 82 87 a n c 0 0 Ge
 have k:=Wf w 87 13;have i:=(By [] w).alloc (.cells #[] 87);have t:=Rv.src (P:=Tryz.prog) (s.alloc (.cells #[] 87)) Ge (ON J7 L);obtain⟨a,cap,rfl⟩:=A4 h
 cases a with
 |none=>
  have l:L=[]:=by
   rcases h.2 with⟨_,r⟩|⟨g,cap,A,m,_⟩
   ·exact Bv r
   ·cases m
  subst l;go_enter Tryz.func48,Tryz.ntmps48;go_wp2;go_ret;exact⟨_,rfl,AY _ _ _ 13,By _ _⟩
 |some a=>
  clear h;go_enter Tryz.func48,Tryz.ntmps48
  go_wp2_with (at_builtin;refine Bl _ rfl _ _ 82 82 rfl w.heap.size 87 z _ 13 128 Ge o u x y rfl (by decide) _ 0 [] rfl k _ _ _ rfl t (by unfold maxLen;omega) (by omega) (by simp) ?_;intro F G b j _ B)
  go_ret;rw[AP,List.nil_append]at b;exact⟨_,rfl,b,i.then (DJ j) (fun q d E=>by change q∈[w.heap.size]at d;simp at d;omega)⟩
theorem Nk (h:ClAt w p v L):Calls Tryz.prog 29 #[pr p 0] w fun e w'=>∃b,e=.returned b∧w'.ownsRow w.heap.size 87 13 b L.length (rows caC L)∧Keep [] w w':=by have i:=h.blk.cell 0;have d:=h_ (RR v L h.own h.len);obtain⟨a,cap,rfl⟩:=h.slice;clear h;go_enter Tryz.func29,Tryz.ntmps29;go_wp2_with fail;refine d.out.mono ?_;rintro e j ⟨b,rfl,c,f⟩;obtain⟨g,c2,rfl⟩:=A4 c;go_wp2;go_ret;exact⟨_,rfl,c,f⟩
def Ml (id op:Nat)(key:Str)(a pos:Nat):Call:=⟨id,op,key,a,pos,0,false,⟨0,0,se,0,se,false⟩⟩
theorem Qu (h:ClAt w p v L)(W:L.length<10000)(op:Nat)(key:Str)(c pos:Nat)(X:op≤1000∧c≤1000∧pos≤1000000):
  Calls Tryz.prog 97 #[pr p 0,.int .i64 (op:Int),.string key,.int .i64 (c:Int),.int .i64 (pos:Int)] w fun e w'=>∃A,e=.returned (.int .i64 ((L.length+1:Nat):Int))∧ClAt w' p A (L++[Ml (L.length+1) op key c pos])∧Keep (p::v.ownBlock.toList) w w'∧(∀q,A.ownBlock=some q→v.ownBlock=some q∨w.heap.size≤q):=by
 obtain⟨O,H,K,M,N⟩:=AU Tryz.infoCall;have T:=h.blk.cell 0;have U:=h.blk.free 0
 have r:caC (Ml (L.length+1) op key c pos)=[.int .i64 ((L.length:Int)+1),.int .i64 (op:Int),.string key,.int .i64 (c:Int),.int .i64 (pos:Int),.int .i64 0,.bool false,.int .i64 0,.int .i64 0,.string ByteArray.empty,.int .i64 0,.string ByteArray.empty,.bool false]:=by simp[caC,Ml,rpC]
 obtain⟨D,S⟩:=i_2 h.blk h.own;have x:=h.vty;have o:∀b,v.ownBlock=some b→b≠p:=fun b l e=>by subst e;exact(x _ l).ne h.blk.ty (by decide) rfl
 have I:=h.own;have n:=B3 h.own;obtain⟨a,cap,rfl⟩:=h.slice;have t:=h_ (World.ownsRow.alloc h.own (.cells (caC (Ml (L.length+1) op key c pos)).toArray 87));have m:=KI (P:=Tryz.prog) Ge (w.alloc (.cells (caC (Ml (L.length+1) op key c pos)).toArray 87)) w.heap.size _ (CX (Ml (L.length+1) op key c pos)) (BY w (caC (Ml (L.length+1) op key c pos)) 87) (J7 _);rw[r]at t m;obtain⟨F,G⟩:=i_2 m r;have u:=h_2 o n;clear r h m x o n I;go_enter Tryz.func97,Tryz.ntmps97
 go_wp2_with (first|(at_builtin;refine Bl _ rfl _ _ 82 82 rfl 0 87 O _ 13 128 Ge H K M N rfl (by decide) _ L.length _ rfl t.out _ 1 _ rfl F.out (by unfold maxLen;omega) (by omega) (AA _) ?_;intro Y s f i _ j;have d:=(D.out.alloc (.cells [.int .i64 ((L.length:Int)+1),.int .i64 (op:Int),.string key,.int .i64 (c:Int),.int .i64 (pos:Int),.int .i64 0,.bool false,.int .i64 0,.int .i64 0,.string ByteArray.empty,.int .i64 0,.string ByteArray.empty,.bool false].toArray 87)).keep (DJ i) (fun k=>u.out.1 _ (Ae.1 k) rfl);have c1:=d.cell 0;have V:=d.free 0;obtain⟨B,C,rfl⟩:=A4 f;have E:=h_4 f i j d;clear f i j d))
 go_ret;obtain⟨o,n⟩:=u.out;obtain⟨f,i,j,d⟩:=E.out;have Q:=DJ i;have y:Keep [] w (w.alloc (.cells [.int .i64 ((L.length:Int)+1),.int .i64 (op:Int),.string key,.int .i64 (c:Int),.int .i64 (pos:Int),.int .i64 0,.bool false,.int .i64 0,.int .i64 0,.string ByteArray.empty,.int .i64 0,.string ByteArray.empty,.bool false].toArray 87)):=(By _ _).alloc _;have z:Keep [p] s (s.setCell ⟨p,0,none⟩ (.slice B (L.length+1) C)):=(By _ _).setCell (.inl (by simp)) _;have R:Keep (p::(Value.slice a L.length cap).ownBlock.toList) w (s.setCell ⟨p,0,none⟩ (.slice B (L.length+1) C)):=((y.mono (by simp)).trans (Q.mono (fun q g _=>Ap _ g))).trans (z.mono (fun q g _=>by simp at g;rw[g];exact Bx ..));have J:=y.size;refine⟨_,by push_cast;rfl,⟨d.set 0 _, ?_,by simp;omega⟩,R,fun q g=> ?_⟩
 ·rw[I8,Aj,G.out]
  refine Do f z (fun b l k=> ?_);simp only[Ah]at k;subst k;exact(C5 f _ l).ne d.ty (by decide) rfl
 ·rcases j q g with h|h
  ·exact .inl h
  ·exact .inr (AJ J h)
end
end Go.Proofs.YtnhbioehiiifdaaGreat
