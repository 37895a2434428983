import Derived.Test.YtnhbioehiiifdaaGreatR06
set_option maxRecDepth 100000
set_option maxHeartbeats 16000000
set_option linter.all false
namespace Go.Proofs.YtnhbioehiiifdaaGreat
open Go.ChangeShapes Go.WideShapes Go.ChangeAt Go.RowKit
def DG (lb:Nat)(vl:Value)(l:List Sg):List Nat:=lb::(vl.ownBlock.toList++sgF l)
structure LogAt (w:World) (B lb d frm segs nx run:Nat) (fr:Bool) (vl:Value) (l:List Sg):Prop where
 blk:Blk w lb (lgC d (frm:Int) (segs:Int) vl (nx:Int) (run:Int) fr) 333
 row:SgRow w B vl l
 nd:(sgF l).Nodup
 new:B≤lb
section
variable {w w':World} {B lb d frm segs nx run:Nat} {fr:Bool} {vl:Value} {l:List Sg}
theorem SgRow.keep {S:List Nat}(h:SgRow w B vl l)(k:Keep S w w')(b:∀q∈vl.ownBlock.toList++sgF l,q∉S):SgRow w' B vl l:=
 ⟨h.own.keep k (fun q a=>b q (A2 _ (Ae.2 a))),fun s c=>(h.ok s c).keep k (fun q a=>b q (AQ _ (Bm.2 ⟨s,c,a⟩)))⟩
theorem LogAt.keep {S:List Nat}(h:LogAt w B lb d frm segs nx run fr vl l)(k:Keep S w w')(a:∀q∈DG lb vl l,q∉S):LogAt w' B lb d frm segs nx run fr vl l:=
 ⟨h.blk.keep k (a lb (by simp[DG])),h.row.keep k (fun q b=>a q (Ap _ b)),h.nd,h.new⟩
theorem LogAt.still (h:LogAt w B lb d frm segs nx run fr vl l)(k:Keep [] w w'):LogAt w' B lb d frm segs nx run fr vl l:=h.keep k (by simp)
theorem LogAt.ty (h:LogAt w B lb d frm segs nx run fr vl l):∀q∈DG lb vl l,Ty w q 333∨Ty w q 359∨Ty w q 358∨Ty w q 353∨Ty w q 5:=by
 intro q a;unfold DG at a;rcases Ac.1 a with rfl|a
 ·exact .inl h.blk.ty
 ·rcases Ag.1 a with a|a
  ·exact .inr (.inl (h.row.own.ty q (Ae.1 a)))
  ·obtain⟨s,b,a⟩:=Bm.1 a
   exact .inr (.inr ((h.row.ok s b).ty q a))
theorem LogAt.lt (h:LogAt w B lb d frm segs nx run fr vl l):∀q∈DG lb vl l,B≤q∧q<w.heap.size:=by
 intro q a;unfold DG at a;rcases Ac.1 a with rfl|a
 ·exact⟨h.new,h.blk.lt⟩
 ·rcases Ag.1 a with a|a
  ·exact h.row.own.lt q (Ae.1 a)
  ·obtain⟨s,b,a⟩:=Bm.1 a
   exact(h.row.ok s b).lt q a
theorem LogAt.apartT {T:TypeId}{b:Nat}(h:LogAt w B lb d frm segs nx run fr vl l)(a:Ty w b T)(c:T∉ [333,359,358,353,5]):b∉DG lb vl l:=by
 intro e;simp only[Ac,Am,AG,not_or]at c;obtain⟨f,g,i,j,k⟩:=c;rcases h.ty b e with t|t|t|t|t
 ·exact a.ne t f rfl
 ·exact a.ne t g rfl
 ·exact a.ne t i rfl
 ·exact a.ne t j rfl
 ·exact a.ne t k rfl
theorem LogAt.apart {L:List Sec}{sb c a:Nat}(h:LogAt w B lb d frm segs nx run fr vl l)(b:IsDev w a sb L c):∀q∈DG lb vl l,q∉ [a,sb]:=by
 intro q f e;simp only[Ac,Am,AG]at e;rcases e with rfl|rfl
 ·exact h.apartT b.dev.ty (by decide) f
 ·exact h.apartT b.secs.ty (by decide) f
theorem LogAt.seg_at (h:LogAt w B lb d frm segs nx run fr vl l)(i:Nat)(s:Sg)(c:l[i]?=some s):∃a cap,vl=.slice (some ⟨a,0,none⟩) l.length cap∧w.cell? ⟨a,i,none⟩=some (pr s.p 0):=by have e:i<l.length:=(Ai.1 c).1;obtain⟨a,cap,b,_⟩:=h.row.own.at_ (by rw[AD];omega);rw[AD]at b;subst b;refine⟨a,cap,rfl, ?_⟩;rw[(h.row.own.cell (by simp) i e).1,AN,c];rfl
theorem LogAt.slice (h:LogAt w B lb d frm segs nx run fr vl l):∃a cap,vl=.slice a l.length cap:=by obtain⟨a,cap,b⟩:=h.row.own.slice;rw[AD]at b;exact⟨a,cap,b⟩
theorem NA:∀(L:List Rc) (i:Nat) (b:i<L.length),(rcCs L)[i*2]?=some (.int .i64 ((L[i]).r.1 :Int))∧(rcCs L)[i*2+1]?=some (L[i]).v
 |y::L,0,_=>by simp[rcCs,rcC]
 |y::L,i+1,b=>by
  have c:=NA L i (by simpa using b);have e:rcCs (y::L)=rcC y++rcCs L:=by simp[rcCs]
  have a:(rcC y).length =2:=rfl;rw[e];refine⟨?_, ?_⟩
  ·rw[AC (by rw[a];omega),a,show(i+1)*2-2=i*2 by omega,c.1];rfl
  ·rw[AC (by rw[a];omega),a,show(i+1)*2+1-2=i*2+1 by omega,c.2];rfl
theorem RRow.at_ {v:Value}{L:List Rc}(h:RRow w B v L)(i:Nat)(a:i<L.length):∃g cap,v=.slice (some ⟨g,0,none⟩) L.length cap∧w.cell? ⟨g,i*2,none⟩=some (.int .i64 ((L[i]).r.1 :Int))∧w.cell? ⟨g,i*2+1,none⟩=some (L[i]).v :=by
 have b:=h.own;rcases h.own.2 with⟨_,f⟩|⟨g,cap,e,c,_⟩
 ·omega
 ·subst c
  refine⟨g,cap,rfl, ?_, ?_⟩
  ·rw[Cg b (i*2) (by omega),(NA L i a).1]
  ·rw[Cg b (i*2+1) (by omega),(NA L i a).2]
theorem Mf {L:List Sec}{sb c:Nat}(h:LogAt w B lb d frm segs nx run fr vl l)(g:IsDev w d sb L c)(f:c<1099511627776):
  Calls Tryz.prog 176 #[pr lb 0] w fun e w'=>e=.returned (.int .i64 0)∧IsDev w' d sb (L.map flushSec) (c+1)∧Keep [d,sb] w w':=by
 have m:=Ug h.blk;have k:=h_ (GV g f);clear h g f;go_enter Tryz.func176,Tryz.ntmps176;go_wp2_with fail;refine k.out.mono ?_;rintro e n ⟨rfl,a,b⟩;obtain⟨i,j⟩:=i_2 a b;clear a b m;go_wp2;go_ret;exact⟨rfl,i.out,j.out⟩
def Ix (l:List Sg)(nx:Nat):Nat:=match l.flatMap Sg.rs with|[]=>nx|r::_=>r.1
theorem UN (h:LogAt w B lb d frm segs nx run fr vl l)(u:l.length≤1000):
  Calls Tryz.prog 218 #[pr lb 0] w fun e w'=>e=.returned (.int .i64 (Ix l nx:Int))∧w'=w:=by
 have c3:=Hk h.blk;obtain⟨a,cap,rfl⟩:=h.slice;obtain⟨H,A⟩:=i_2 h u;clear h u;go_enter Tryz.func218,Tryz.ntmps218;go_wp2_with fail;clear c3
 go_loopw [12] (fun J wr=>∃i:Nat,J=.int .i64 (i:Int)∧i≤l.length∧(l.take i).flatMap Sg.rs=[]∧wr=w) (fun x _=>l.length+1-(intOf x).toNat)
 case atStart=>exact⟨0,rfl,AA _,by simp,rfl⟩
 case round=>
 obtain⟨i,rfl,O,f,rfl⟩:=hrel;by_cases v:i<l.length
 ·have G:decide ((i:Int)<(l.length:Int))=true:=An (by omega)
  obtain⟨s,k⟩:∃s,l[i]?=some s:=⟨_,Ad v⟩;obtain⟨K,M,o,L⟩:=H.out.seg_at i s k;injection o with o;subst o;have j:=H.out.row.ok s (Aq k);have c4:=IL j.blk;obtain⟨R,S,n⟩:=j.recs.slice;rw[n]at c4;obtain⟨E,c,D,C,p⟩:=i_5 j f n v k;have P:=A.out;clear j f n k
  cases b:s.recs with
  |nil=>
   rw[b]at c4;have I:decide ((0:Int)<((([]:List Rc).length :Nat):Int))=false:=by simp
   have m:=h_ b;clear b;rw[show(([]:List Rc).length :Nat)=0 from rfl]at c4;go_wp2
   go_roundw
   case rel=>refine⟨i+1,by go_num,by omega, ?_,by first|exact rfl|trivial⟩;rw[BH,Bg,c.out,p.out];simp[Sg.rs,m.out]
   case measure=>simp only[intOf];omega
  |cons y ys=>
   have m:=h_ b;obtain⟨g,N,t,z,F⟩:=E.out.recs.at_ 0 (by rw[b];simp);rw[D.out]at t;injection t with hg1 hg2 hg3;subst hg1 hg3;rw[Nat.zero_mul]at z;rw[b]at c4;have q:s.recs[0]'(by rw[b];simp)=y:=by simp[b]
   rw[q]at z;clear F;rw[List.length_cons]at c4;have I:decide ((0:Int)<((ys.length+1:Nat):Int))=true:=An (by omega);have Q:(0<ys.length+1)=True:=eq_true (by omega);clear b hg2 q;go_wp2;go_ret;refine⟨?_,rfl⟩
   have:l.flatMap Sg.rs=y.r::(ys.map (·.r)++(l.drop (i+1)).flatMap Sg.rs):=by
    conv=>lhs;rw[←BX i l,Bg,c.out,Cj C.out,(Ai.1 p.out).2]
    simp[Sg.rs,m.out]
   unfold Ix;rw[this];rfl
 ·obtain rfl:i=l.length:=by omega
  have G:decide ((l.length:Int)<(l.length:Int))=false:=by simp
  have c:=h_ f;have c4:=PA H.out.blk;clear f;go_wp2;go_ret;refine⟨?_,rfl⟩;have:=c.out;rw[Bt]at this;unfold Ix;rw[this];rfl
end
theorem SW:∀(l:List Sg) (n:Nat),(∀s∈l,s.recs.length≤n)→(l.flatMap Sg.rs).length ≤l.length*n
 |[],n,_=>by simp
 |s::l,n,h=>by have b:=h s (by simp);have c:=SW l n (fun x a=>h x (by simp[a]));simp only[BI,Aj,List.length_cons,Sg.rs,AD];rw[Dv];omega
def allJ (j:World)(n g pos:Nat)(e k:Option Addr)(f m:Nat)(a:List Rc)(body:List Nat)(l:Nat→Bool)(x:Nat→Value)(b:World):Prop:=
 ∃c d h i o,(l 8=false→Blk b g [.int .i64 (pos:Int),.slice k body.length m] 353)∧
 (Buf b 0 5 (.slice k body.length m) body)∧
 (l 8=false→RRow b n (.slice e a.length f) a)∧
 (l 8=true→RRow b n (.slice h (a.length+1) i) (a++[⟨(pos,body),.slice c body.length d⟩]))∧
 (l 8=true→l 2=true∧l 4=true∧l 5=true)∧
 (l 9=true→l 0=true∧l 8=true)∧
 (l 5=true→l 4=true)∧
 (l 9=false→x 9=.slice e a.length f)∧
 (Keep (.slice e a.length f:Value).ownBlock.toList j b)∧
 (l 5=true→x 5=.slice c body.length d∧(l 8=false→Buf b j.heap.size 5 (.slice c body.length d) body)∧∀q,(.slice c body.length d:Value).ownBlock =some q→j.heap.size≤q)∧
 (l 6=true→x 6=.agg #[.int .i64 (pos:Int),.slice c body.length d]∧Hid (l 5=true)∧Hid (l 2=true∧l 4=true))∧
 (l 7=true→x 7=.slice (some ⟨o,0,none⟩) 1 1∧(l 8=false→Blk b o [.int .i64 (pos:Int),.slice c body.length d] 353)∧Hid (l 5=true)∧Hid (l 2=true∧l 4=true))∧
 (l 8=true→x 8=.slice h (a.length+1) i∧Hid (l 0=true))∧
 (l 9=true→x 9=.slice h (a.length+1) i)∧
 SlV l x 0 [some (.slice e a.length f),some (pr g 0),some (.int .i64 (pos:Int)),some (pr g 1),some (.slice k body.length m)]
theorem Mg {w:World}{B lb d frm segs nx b6:Nat}{fr:Bool}{vl:Value}{l₀:List Sg}(h:LogAt w B lb d frm segs nx b6 fr vl l₀)(hl:l₀.length≤1000∧∀s∈l₀,s.recs.length≤1000)(bf:∀s∈l₀,∀r∈s.rs,r.ok):
  Calls Tryz.prog 246 #[pr lb 0] w fun e T=>∃v L,e=.returned v∧RRow T w.heap.size v L∧L.map (·.r)=l₀.flatMap Sg.rs∧Keep [] w T:=by
 obtain⟨iR,b2,b3,b4,b5⟩:=AU YF;have c3:=Hk h.blk;obtain⟨a,cap,rfl⟩:=h.slice;obtain⟨H,HL,bq⟩:=i_3 h hl bf;clear h hl bf;go_enter Tryz.func246,Tryz.ntmps246;go_wp2_with fail;clear c3
 go_loopw [3,15] (fun s3 b7 wr=>∃(i:Nat) (L:List Rc),b7=.int .i64 (i:Int)∧i≤l₀.length∧RRow wr w.heap.size s3 L∧L.map (·.r)=(l₀.take i).flatMap Sg.rs∧Keep [] w wr) (fun _ x _=>l₀.length+1-(intOf x).toNat)
 case atStart=>exact⟨0,[],rfl,AA _,RRow.nil _ _,by simp,By _ _⟩
 case round=>
 obtain⟨i,L,rfl,C,V,he,c⟩:=hrel;by_cases be:i<l₀.length
 ·have q0:decide ((i:Int)<(l₀.length:Int))=true:=An (by omega)
  obtain⟨s,aa⟩:∃s,l₀[i]?=some s:=⟨_,Ad be⟩;have Z:=H.out.still c;obtain⟨ba,cb,hv,c0⟩:=Z.seg_at i s aa;injection hv with hv;subst hv;have X:=Z.row.ok s (Aq aa);have c4:=IL X.blk;obtain⟨ra,rc,an⟩:=X.recs.slice;rw[an]at c4;obtain⟨HS,bu,ay,HE,W,HK⟩:=i_6 X an aa he V c;have hn:=HL.out.1;have cc:=HL.out.2 s (Aq aa);have bt:=h_ (bq.out s (Aq aa));clear X an aa he V c Z;go_wp2
  go_loopw [3,24] (fun s3 b8 bh=>∃(j:Nat) (L:List Rc),b8=.int .i64 (j:Int)∧j≤s.recs.length∧RRow bh w.heap.size s3 L∧L.map (·.r)=(l₀.take i).flatMap Sg.rs++(s.recs.take j).map (·.r)∧Keep [] w bh) (fun _ x _=>s.recs.length+1-(intOf x).toNat)
  case atStart=>exact⟨0,L,rfl,AA _,W.out,by rw[HE.out];simp,HK.out⟩
  case round=>
  obtain⟨j,U,rfl,hj,V,ai,c⟩:=hrel;clear W c0 c4;by_cases aj:j<s.recs.length
  ·have q1:decide ((j:Int)<(s.recs.length:Int))=true:=An (by omega)
   have Z:=H.out.still c;have X:=Z.row.ok s (Aq ay.out);obtain⟨y,hy⟩:∃y,s.recs[j]?=some y:=⟨_,Ad aj⟩;obtain⟨g,gc,hg,k0,k1⟩:=X.recs.at_ j aj;rw[bu.out]at hg;injection hg with hg1 hg2 hg3;subst hg1 hg3;have bg:s.recs[j]'aj=y:=(Ai.1 hy).2;rw[bg]at k0 k1;obtain⟨ya,ab,ap⟩:=((X.recs.ok y (Aq hy)).1).slice;obtain⟨oa,aq,rfl⟩:=V.slice;obtain⟨pos,al⟩:∃p,p=y.r.1:=⟨_,rfl⟩;obtain⟨body,ah⟩:∃b,b=y.r.2:=⟨_,rfl⟩;rw[←al]at k0;rw[ap,←ah]at k1
   have bd:Buf wr 0 5 (.slice ya body.length ab) body:=by have:=((X.recs.ok y (Aq hy)).1).mono (AA _);rw[ap,←ah]at this;exact this
   have ao:y.r=(pos,body):=by rw[al,ah]
   obtain⟨bw,HY,W,ae,af,bv⟩:=i_6 ao hy V ai c bd
   have bi:Hid (body.length≤300):=h_ (by have:=bt.out y.r (AI.2 ⟨y,Aq hy,rfl⟩);have h2:=this.2.1;rw[ao]at h2;exact h2)
   have b9:=h_ aj;clear hg2 ap bg al ah V ai c Z X hy bd ao
   have ax:Hid (U.length≤1001000):=h_ (by
    have h1:U.length=((l₀.take i).flatMap Sg.rs++(s.recs.take j).map (·.r)).length :=by rw[←ae.out,AD]
    have h2:=SW (l₀.take i) 1000 (fun x hx=>HL.out.2 x (AH hx));rw[h1,Aj,AD,Az]
    have h3:(l₀.take i).length *1000≤1000000:=by
     rw[Az];have:=HL.out.1;have:min i l₀.length≤1000:=by omega
     calc min i l₀.length*1000≤1000*1000:=Ch _ this
      _=1000000:=by decide
    omega)
   go_upto_region 10 with fail;have ag:=BY wr [.int .i64 (pos:Int),.slice ya body.length ab] 353;have KA:=(By [] wr).alloc (.cells #[.int .i64 (pos:Int),.slice ya body.length ab] 353);have bs:=h_ W.out.lt;obtain⟨rb,am⟩:∃rb,rb=wr.heap.size:=⟨_,rfl⟩;rw[←am]at ag⊢;simp only[List.toArray]at ag;have ca:=h_ am;generalize hW:wr.alloc (.cells #[.int .i64 (pos:Int),.slice ya body.length ab] 353)=wa at*;have av:Hid (w.heap.size≤wa.heap.size):=h_ (AJ af.out.size KA.size);have bb:=W.out.still KA;have bc:=bv.out.keep KA (by simp);have bk:=h_ KA;clear am hW KA;refine wIo (allJ wa w.heap.size rb pos oa ya aq ab U body) ?aS (.s ?a0<|.s ?a1<|.s ?a2<|.s ?a3<|.s ?a4<|.s ?a5<|.s ?a6<|.s ?a7<|.s ?a8<|.s ?a9<|.n) 10 ?aF
   case aS=>exact⟨none,0,none,0,0,fun _=>ag.drew,bc.keep (By [] _).drew (by simp),fun _=>bb.still (By [] _).drew,fun h=>absurd h (by decide),fun h=>absurd h (by decide),fun h=>absurd h (by decide),fun h=>absurd h (by decide),fun _=>rfl,(By _ _).drew,fun h=>absurd h (by decide),fun h=>absurd h (by decide),fun h=>absurd h (by decide),fun h=>absurd h (by decide),fun h=>absurd h (by decide),Yr⟩
   case a0=>
    intro l x T R C F;obtain⟨t,u,P,Q,J,E,A,z,M,k,D,N,I,c,m,o,f,G,K,vS⟩:=R;have f9:l 9=false:=by cases S:l 9 with|false=>rfl|true=>exact absurd (D S).1 (by simp[C])
    have e9:=I f9;refine Oq.of (b:= ?bA0) ?eA0 ?_
    case eA0=>simp only[Al,Act.put,A8,A7,A6,e9];rfl
    intro K' O;go_simp;exact O.go _ rfl ⟨t,u,P,Q,J,E,A,z,M,k,fun h=>⟨rfl,(D h).2⟩,N,I,c,m,o,f,fun h=>⟨(G h).1,h_ rfl⟩,K,vS.r⟩
   case a6=>
    intro l x T R C F;obtain⟨t,u,P,Q,J,E,A,z,M,k,D,N,I,c,m,o,f,G,K,vS⟩:=R;have e2:=vS.a 2 (F.at rfl) rfl;have e5:=m (F.at rfl);have ac:Hid (l 5=true):=h_ (F.at rfl);have bm:Hid (l 2=true):=h_ (F.at rfl);refine Oq.of (b:= ?bA6) ?eA6 ?_
    case eA6=>simp only[Al,Act.put,A8,A7,A6,e2,e5.1];rfl
    intro K' O;go_simp;exact O.go _ rfl ⟨t,u,P,Q,J,E,A,z,M,k,D,N,I,c,m,fun _=>⟨rfl,ac,h_ ⟨bm.out,N ac.out⟩⟩,f,G,K,vS.s rfl⟩
   case a7=>
    intro l x T R C F;obtain⟨t,u,P,Q,J,E,A,z,M,k,D,N,I,c,m,o,f,G,K,vS⟩:=R;have e6:=o (F.at rfl);refine Oq.of (b:= ?bA7) ?eA7 ?_
    case eA7=>simp only[Al,Act.put,A8,A7,A6,e6.1];rfl
    intro K' O;go_simp;exact O.go _ rfl ⟨t,u,P,Q,T.heap.size,fun h=>(E h).alloc _,A.alloc _,fun h=>(z h).still ((By [] _).alloc _),fun h=>(M h).still ((By [] _).alloc _),k,D,N,I,c.alloc _,fun h=>⟨(m h).1,fun ad=>((m h).2.1 ad).alloc _,(m h).2.2⟩,o,fun _=>⟨rfl,fun _=>BY _ [.int .i64 (pos:Int),.slice t body.length u] _,e6.2.1,e6.2.2⟩,G,K,vS.s rfl⟩
   case a8=>
    intro l x T R C F;obtain⟨t,u,P,Q,J,E,A,z,M,k,D,N,I,c,m,o,f,G,K,vS⟩:=R;have e0:=vS.a 0 (F.at rfl) rfl;have e7:=f (F.at rfl);have bl:Hid (l 0=true):=h_ (F.at rfl);have ac:=e7.2.2.1;have bp:Hid (l 2=true∧l 4=true∧l 5=true):=h_ ⟨e7.2.2.2.out.1,e7.2.2.2.out.2,ac.out⟩;have b0:=(m ac.out).2.1 C;have b1:=e7.2.1 C;refine Oq.of (b:= ?bA8) ?eA8 ?_
    case eA8=>simp only[Al,Act.put,A8,A7,A6,e0,e7.1];rfl
    intro K' O;refine BO _ rfl (.tmp 28) (.tmp 35) 350 350 rfl w.heap.size 353 iR _ 2 32 El b2 b3 b4 b5 rfl (by decide) (.slice oa U.length aq) U.length (rcCs U) rfl (z C).own _ 1 [.int .i64 (pos:Int),.slice t body.length u] rfl (QO T J _ _ b1 El rfl) (by unfold maxLen;have:=ax.out;omega) (by have:=ax.out;omega) (AJ av.out c.size) ?_;intro v2 w2 g2 g3 _ g4;obtain⟨ar,au,rfl⟩:=A4 g2;have Y:Keep (.slice oa U.length aq:Value).ownBlock.toList T w2:=DJ g3;have bx:RRow w2 w.heap.size (.slice ar (U.length+1) au) (U++[⟨(pos,body),.slice t body.length u⟩]):=(z C).snoc ⟨(pos,body),.slice t body.length u⟩ (b0.mono av.out) rfl g2 Y;have bz:=z C;exact O.go (.slice ar (U.length+1) au) rfl ⟨t,u,ar,au,J,fun h=>Bool.noConfusion (show true=false from h),A.keep Y (fun q S=>bz.rty (A.ty' q S) (by decide)),fun h=>Bool.noConfusion (show true=false from h),fun _=>bx,fun _=>bp.out,fun h=>⟨(D h).1,rfl⟩,N,I,c.trans Y,fun h=>⟨(m h).1,fun ad=>Bool.noConfusion (show true=false from ad),(m h).2.2⟩,o,fun h=>⟨(f h).1,fun ad=>Bool.noConfusion (show true=false from ad),(f h).2.2⟩,fun _=>⟨rfl,bl⟩,fun h=>absurd (D h).2 (by simp[C]),vS.s rfl⟩
   case a9=>
    intro l x T R C F;obtain⟨t,u,P,Q,J,E,A,z,M,k,D,N,I,c,m,o,f,G,K,vS⟩:=R;have e8:=G (F.at rfl);have bo:Hid (l 8=true):=h_ (F.at rfl);refine Oq.of (b:= ?bA9) ?eA9 ?_
    case eA9=>simp only[Al,Act.put,A8,A7,A6,e8.1];rfl
    intro K' O;go_simp;exact O.go _ rfl ⟨t,u,P,Q,J,E,A,z,M,k,fun _=>⟨e8.2.out,bo.out⟩,N,fun h=>Bool.noConfusion (show true=false from h),c,m,o,f,G,fun _=>rfl,vS.s rfl⟩
   case aF=>
    intro l x w3 R hl;obtain⟨t,u,P,Q,J,E,A,z,M,k,D,N,I,c,m,o,f,G,K,vS⟩:=R;have az:=M (hl 8 (by decide));have e9:=K (hl 9 (by decide));simp only[Al,Act.put,A8,A7,A6,e9];have br:=h_ az
    have bj:Hid (Keep [] w w3):=h_ ((af.out.trans bk.out).then c (fun q S be=>by exact absurd (bs.out q (A2 _ S)).1 (by omega)))
    clear m o f G K E A z M k D N I c hl az e9 bb bc ag k0 k1 vS;go_wp2
    go_roundw
    case rel=>refine⟨j+1,U++[⟨(pos,body),.slice t body.length u⟩],by go_num,by omega,br.out, ?_,bj.out⟩;rw[AL,ae.out,BH,HY.out,AL,Ax];simp[bw.out]
    case measure=>simp only[intOf];omega
   all_goals
    intro l x T R C F;obtain⟨t,u,P,Q,J,E,A,z,M,k,D,N,I,c,m,o,f,G,K,vS⟩:=R;have hW:=vS;have hD:=F;simp only[SlV]at hW
    try simp[BD,Region.binds]at hD
    refine Oq.of (by simp only[Al,Act.put,A8,A7,A6,hD,hW];rfl) ?_;clear hD hW;intro K' O
   case a2=>
    have f8:l 8=false:=by cases S:l 8 with|false=>rfl|true=>exact absurd (k S).1 (by simp[C])
    have c0:T.cell? ⟨rb,0,none⟩=some (.int .i64 (pos:Int)):=(E f8).cell 0;go_simp;exact O.go _ rfl ⟨t,u,P,Q,J,E,A,z,M,fun h=>⟨rfl,(k h).2.1,(k h).2.2⟩,D,N,I,c,m,fun h=>⟨(o h).1,(o h).2.1,h_ ⟨rfl,(o h).2.2.out.2⟩⟩,fun h=>⟨(f h).1,(f h).2.1,(f h).2.2.1,h_ ⟨rfl,(f h).2.2.2.out.2⟩⟩,G,K,vS.r⟩
   case a4=>
    have f8:l 8=false:=by cases S:l 8 with|false=>rfl|true=>exact absurd (k S).2.1 (by simp[C])
    have c1:T.cell? ⟨rb,1,none⟩=some (.slice ya body.length ab):=(E f8).cell 1;go_simp;exact O.go _ rfl ⟨t,u,P,Q,J,E,A,z,M,fun h=>⟨(k h).1,rfl,(k h).2.2⟩,D,fun _=>rfl,I,c,m,fun h=>⟨(o h).1,(o h).2.1,h_ ⟨(o h).2.2.out.1,rfl⟩⟩,fun h=>⟨(f h).1,(f h).2.1,(f h).2.2.1,h_ ⟨(f h).2.2.2.out.1,rfl⟩⟩,G,K,vS.r⟩
   case a5=>
    have f8:l 8=false:=by cases S:l 8 with|false=>rfl|true=>exact absurd (k S).2.2 (by simp[C])
    have bn:Hid (l 4=true):=h_ (F.at rfl);go_simp;refine(Fg _ body A.rd (by have:=bi.out;omega)).mono ?_;rintro e w2 ⟨v2,rfl,ak,Y⟩;obtain⟨c2,c3,rfl⟩:=ak.slice;have aw:=h_ (ak.mono c.size);clear ak;go_simp;exact O.go (.slice c2 body.length c3) rfl ⟨c2,c3,P,Q,J,fun h=>(E h).keep Y (by simp),A.keep Y (by simp),fun h=>(z h).still Y,fun h=>absurd (f8.symm.trans h) (by decide),fun h=>⟨(k h).1,(k h).2.1,rfl⟩,D,fun _=>bn.out,I,c.trans (Y.mono (by simp)),fun _=>⟨rfl,fun _=>aw.out,fun q S=>(aw.out.lt q S).1⟩,fun h=>absurd (o h).2.1.out (by simp[C]),fun h=>absurd (f h).2.2.1.out (by simp[C]),G,K,vS.s rfl⟩
   all_goals go_simp;exact O.go _ rfl ⟨t,u,P,Q,J,E,A,z,M,k,D,N,I,c,m,o,f,G,K,vS.r⟩
  ·obtain rfl:j=s.recs.length:=by omega
   have q1:decide ((s.recs.length:Int)<(s.recs.length:Int))=false:=by simp
   obtain⟨W,ae,af⟩:=i_3 V ai c;clear V ai c;go_wp2
   go_roundw
   case rel=>refine⟨_,_,_,_,⟨i+1,rfl,by omega,U,W.out, ?_,af.out⟩,rfl,rfl,rfl,by go_num⟩;rw[ae.out,BH,Bg,ay.out,Bt];simp[Sg.rs]
   case measure=>simp only[intOf];omega
 ·obtain rfl:i=l₀.length:=by omega
  have q0:decide ((l₀.length:Int)<(l₀.length:Int))=false:=by simp
  obtain⟨W,HE,HK⟩:=i_3 V he c;clear V he c;go_wp2;go_ret;refine⟨_,L,rfl,W.out, ?_,HK.out⟩;rw[HE.out,Bt]
def Kx (a b:Nat):Int:=if a<b then-1 else if b<a then 1 else 0
theorem OR {w:World}(a b:Nat)(v:Value)(f:a<281474976710656∧b<281474976710656)(l:v.oneCell'=true):
  Calls Tryz.prog 301 #[.agg #[.int .i64 (a:Int),v],.int .i64 (b:Int)] w fun e k=>e=.returned (.int .i64 (Kx a b))∧Keep [] w k:=by
 have g:=BY w [.int .i64 (a:Int),v] 353;have K:=(By [] w).alloc (.cells #[.int .i64 (a:Int),v] 353);have d:=g.cell 0;obtain⟨i,h⟩:=i_2 K f;have m:(w.alloc (.cells #[.int .i64 (a:Int),v] 353)).cell? ⟨w.heap.size,0,none⟩=some (.int .i64 (a:Int)):=d;clear d g K f;have c:wrap64 ((a:Int)-(b:Int))=(a:Int)-(b:Int):=by have:=h.out;unfold wrap64;omega
 have j:=h_ c;clear c;go_enter Tryz.func301,Tryz.ntmps301;go_wp2_with fail
 all_goals
  go_ret;refine⟨?_,i.out⟩;have c:=j.out;refine A3 (fun z=>Ending.returned (Value.int .i64 z)) ?_;unfold Kx
  (repeat' split)<;>omega
def Q9 (L:List Rc):Prop:=L.Pairwise (fun a b=>a.r.1<b.r.1)
def RFN:Value:= .func (.func 301) #[] #[]
theorem Q9.le {L:List Rc}(h:Q9 L){i j:Nat}{a b:Rc}(e:L[i]?=some a)(f:L[j]?=some b)(g:i<j):a.r.1<b.r.1:=by obtain⟨c,rfl⟩:=Ai.1 e;obtain⟨d,rfl⟩:=Ai.1 f;exact DB.1 h i j c d g
theorem Qz {w:World}{B:Nat}{v:Value}{L:List Rc}(h:RRow w B v L)(Z:Q9 L)(V:L.length≤1000)(X:∀y∈L,y.r.1<281474976710656)(pos:Nat)(Y:pos<281474976710656):
  Calls Tryz.prog 300 #[v,.int .i64 (pos:Int),RFN] w fun e w'=>∃(i:Nat) (b:Bool),e=.returned (.tuple #[.int .i64 (i:Int),.bool b])∧(b=true→∃y,L[i]?=some y∧y.r.1=pos)∧(b=false→∀y∈L,y.r.1≠pos)∧Keep [] w w':=by
 obtain⟨a,cap,rfl⟩:=h.slice;obtain⟨H,K,R,S,T⟩:=i_5 h Z V X Y;clear h Z V X Y;unfold RFN;go_enter Tryz.func300,Tryz.ntmps300;go_wp2
 go_loopw [9,10] (fun s9 aa wr=>∃(i j:Nat),s9=.int .i64 (i:Int)∧aa=.int .i64 (j:Int)∧i≤j∧j≤L.length∧(∀k y,L[k]?=some y→k<i→y.r.1<pos)∧(∀k y,L[k]?=some y→j≤k→pos≤y.r.1)∧Keep [] w wr) (fun x y _=>(intOf y).toNat -(intOf x).toNat)
 case atStart=>exact⟨0,L.length,rfl,rfl,AA _,Av _,fun k y _ h=>absurd h (by omega),fun k y f h=>by have:=(Ai.1 f).1;omega,By _ _⟩
 case round=>
 obtain⟨i,j,rfl,rfl,ab,ac,F,E,s⟩:=hrel;obtain⟨J,Q,I⟩:=i_3 F E s;by_cases ad:i<j
 ·have q0:decide ((i:Int)<(j:Int))=true:=An (by omega)
  have W:(i+j)/2<L.length:=by omega
  obtain⟨y,f⟩:∃y,L[(i+j)/2]?=some y:=⟨_,Ad W⟩;have q:=H.out.still s;obtain⟨g,gc,O,A,C⟩:=q.at_ ((i+j)/2) W;injection O with hg1 hg2 hg3;subst hg1 hg3;rw[(Ai.1 f).2]at A C;have p:=(q.ok y (Aq f)).2;have o:=h_ f;have hn:=R.out;have G:=h_ p;have M:=h_ (S.out y (Aq f));clear F E s hg2 q f p;go_wp2_with fail;refine(OR y.r.1 pos y.v ⟨M.out,T.out⟩ G.out).mono ?_;rintro e w2 ⟨rfl,D⟩;have t:=h_ (I.out.trans D);clear D A C;by_cases l:y.r.1<pos
  ·rw[show Kx y.r.1 pos= -1 from Ay l]
   have n:=h_ l;clear l;go_wp2
   go_roundw
   case rel=>
    refine⟨(i+j)/2+1,j,by go_num,rfl,by omega,by omega, ?_,Q.out,t.out⟩;intro k z d m;by_cases N:k=(i+j)/2
    ·subst N
     rw[o.out]at d;injection d with d;subst d;exact n.out
    ·exact Nat.lt_trans (K.out.le d o.out (by omega)) n.out
   case measure=>simp only[intOf];omega
  ·have P:decide (Kx y.r.1 pos<0)=false:=by
    refine Ak ?_;unfold Kx;rw[Aw l]
    split<;>omega
   have n:=h_ l;obtain⟨cv,u⟩:∃c:Int,c=Kx y.r.1 pos:=⟨_,rfl⟩;rw[←u]at P⊢;clear l u;go_wp2
   go_roundw
   case rel=>
    refine⟨i,(i+j)/2,rfl,by go_num,by omega,by omega,J.out, ?_,t.out⟩;intro k z d m;by_cases N:k=(i+j)/2
    ·subst N
     rw[o.out]at d;injection d with d;subst d;exact EU n.out
    ·exact AJ (EU n.out) (EV (K.out.le o.out d (by omega)))
   case measure=>simp only[intOf];omega
 ·obtain rfl:i=j:=by omega
  have q0:decide ((i:Int)<(i:Int))=false:=by simp
  by_cases U:i<L.length
  ·have q1:decide ((i:Int)<(L.length:Int))=true:=An (by omega)
   obtain⟨y,f⟩:∃y,L[i]?=some y:=⟨_,Ad U⟩;have q:=H.out.still s;obtain⟨g,gc,O,A,C⟩:=q.at_ i U;injection O with hg1 hg2 hg3;subst hg1 hg3;rw[(Ai.1 f).2]at A C;have p:=(q.ok y (Aq f)).2;have o:=h_ f;have hn:=R.out;have G:=h_ p;have M:=h_ (S.out y (Aq f));clear F E s hg2 q f p;go_wp2_with fail;refine(OR y.r.1 pos y.v ⟨M.out,T.out⟩ G.out).mono ?_;rintro e w2 ⟨rfl,D⟩;have t:=h_ (I.out.trans D);clear D A C;by_cases l:y.r.1=pos
   ·rw[show Kx y.r.1 pos=0 by unfold Kx;rw[l];simp]
    have n:=h_ l;clear l;go_wp2;go_ret2;exact⟨i,true,rfl,fun _=>⟨y,o.out,n.out⟩,fun h=>absurd h (by decide),t.out⟩
   ·have P:(Kx y.r.1 pos==0)=false:=by
     have:Kx y.r.1 pos≠0:=by unfold Kx;split;omega;split<;>omega
     simpa using this
    have n:=h_ l;obtain⟨cv,u⟩:∃c:Int,c=Kx y.r.1 pos:=⟨_,rfl⟩;rw[←u]at P⊢;clear l u;go_wp2;go_ret2;refine⟨i,false,rfl,fun h=>absurd h (by decide),fun _ z d=> ?_,t.out⟩;obtain⟨k,m⟩:=Bf d;by_cases p:k<i
    ·exact Nat.ne_of_lt (J.out k z m p)
    ·by_cases h2:k=i
     ·subst h2
      rw[o.out]at m;injection m with m;subst m;exact n.out
     ·have h3:=K.out.le o.out m (by omega)
      have h4:=Q.out i y o.out (Av _);omega
  ·have q1:decide ((i:Int)<(L.length:Int))=false:=by simp;omega
   clear F E s;go_wp2;go_ret2;refine⟨i,false,rfl,fun h=>absurd h (by decide),fun _ z d=> ?_,I.out⟩;obtain⟨k,m⟩:=Bf d;have:=(Ai.1 m).1;exact Nat.ne_of_lt (J.out k z m (by omega))
def GotRec (b:World)(l:List Sg)(pos:Nat)(e:Ending)(a:World):Prop:=
 (∃v r,e=.returned (.tuple #[v,.int .i64 0])∧r∈l.flatMap Sg.rs∧r.1=pos∧Buf a b.heap.size 5 v r.2)∨(e=.returned (.tuple #[.slice none 0 0,.int .i64 9])∧∀r∈l.flatMap Sg.rs,r.1≠pos)
theorem UL {w:World}{B W d frm segs nx ah:Nat}{fr:Bool}{vl:Value}{l:List Sg}(h:LogAt w B W d frm segs nx ah fr vl l)(P:l.length≤1000∧∀s∈l,s.recs.length≤1000)(Q:∀s∈l,∀r∈s.rs,r.ok)(S:∀s∈l,Q9 s.recs)(pos:Nat)(R:pos<281474976710656):
  Calls Tryz.prog 279 #[pr W 0,.int .i64 (pos:Int)] w fun e X=>GotRec w l pos e X∧Keep [] w X:=by
 have c3:=Hk h.blk;obtain⟨a,cap,rfl⟩:=h.slice;obtain⟨H,z,K,HU,HP⟩:=i_5 h P Q S R;clear h P Q S R;go_enter Tryz.func279,Tryz.ntmps279;go_wp2_with fail;clear c3
 go_loopw [17] (fun ai wr=>∃i:Nat,ai=.int .i64 (i:Int)∧i≤l.length∧(∀r∈(l.take i).flatMap Sg.rs,r.1≠pos)∧Keep [] w wr) (fun x _=>l.length+1-(intOf x).toNat)
 case atStart=>exact⟨0,rfl,AA _,by simp,By _ _⟩
 case round=>
 obtain⟨i,rfl,hi,F,n⟩:=hrel;obtain⟨I,J⟩:=i_2 F n;by_cases af:i<l.length
 ·have q0:decide ((i:Int)<(l.length:Int))=true:=An (by omega)
  obtain⟨s,p⟩:∃s,l[i]?=some s:=⟨_,Ad af⟩;have D:=H.out.still n;obtain⟨ba,aj,m,L⟩:=D.seg_at i s p;injection m with m hv2 hv3;subst m hv3;clear hv2;have j:=Aq p;have o:=D.row.ok s j;have c4:=IL o.blk;obtain⟨HS,C⟩:=i_2 o p;have hn:=z.out.1;have G:=h_ (@Qz wr B s.vr s.recs o.recs (HU.out s j) (z.out.2 s j) (fun y c=>(K.out s j y.r (AI.2 ⟨y,c,rfl⟩)).2.2.1) pos HP.out);unfold RFN at G;have ab:=h_ (K.out s j);clear o p D j F n;go_wp2_with fail;refine G.out.mono ?_;rintro e w2 ⟨k,b,rfl,E,hF,t⟩;have u:=h_ (J.out.trans t);have A:=h_ (HS.out.still t)
  cases b with
  |false=>
   have Z:=h_ (hF rfl);clear t E hF L c4;go_wp2
   go_roundw
   case rel=>
    refine⟨i+1,by go_num,by omega, ?_,u.out⟩;intro r f;rw[BH,Bg,C.out]at f;rcases Ag.1 f with f|f
    ·exact I.out r f
    ·simp[Sg.rs]at f
     obtain⟨y,c,rfl⟩:=f;exact Z.out y c
   case measure=>simp only[intOf];omega
  |true=>obtain⟨y,c,T⟩:=E rfl;have ae:=(Ai.1 c).1;have M:=IL A.out.blk;obtain⟨g,gc,O,k0,U⟩:=A.out.recs.at_ k ae;rw[O]at M;rw[(Ai.1 c).2]at U;have q:=Aq c;have N:=(A.out.recs.ok y q).1;have ag:=(ab.out y.r (AI.2 ⟨y,q,rfl⟩)).2.1;have Y:=h_ (Fg y.v y.r.2 N.rd (by omega));obtain⟨ac,ad⟩:=i_2 q T;have ak:=z.out.2 s (Aq C.out);clear t E hF L c4 c T q N ag O k0;go_wp2_with fail;refine Y.out.mono ?_;rintro e w3 ⟨v,rfl,m,V⟩;obtain⟨HV,aa⟩:=i_2 m V;clear m V U M;go_wp2;go_ret2;refine⟨.inl ⟨v,y.r,rfl, ?_,ad.out,HV.out.mono u.out.size⟩,u.out.trans aa.out⟩;exact Bm.2 ⟨s,Aq C.out,AI.2 ⟨y,ac.out,rfl⟩⟩
 ·obtain rfl:i=l.length:=by omega
  have q0:decide ((l.length:Int)<(l.length:Int))=false:=by simp
  clear F n;go_wp2;go_ret2;refine⟨.inr ⟨rfl, ?_⟩,J.out⟩;have:=I.out
  rwa [Bt]at this
theorem Keep.cell1 {S:List Nat}{w e:World}{a:Addr}{v:Value}(k:Keep S w e)(h:w.cell? a=some v)(g:a.block∉S):e.cell? a=some v:=by
 have f:a.block<w.heap.size:=by
  rcases Gi a.block w.heap.size with b|b
  ·exact b
  ·simp[World.cell?,Dt b]at h
 rw[k.cell f g];exact h
def nextGen (l:List Sg):Nat:=match l.getLast? with|none=>1|some s=>s.gen+1
def nilS:Value:= .slice none 0 0
theorem Tryz.infoPs:(Tryz.prog.info? 359).map (fun i=>(i.zero,i.size,i.bytes))=some (some (.pointer none),1,8):=by kernel_rfl
theorem Ya {w:World}{B:Nat}{T:TypeId}{v:Value}{l:List Sg}(h:Own w B T v (l.map sgPtr)):w.ownsRow B T 1 v l.length (l.map sgPtr):=by unfold Own at h;rw[AD]at h;exact h
theorem V3 {w:World}{B:Nat}{T:TypeId}{v:Value}{l:List Sg}{u:Value}(h:w.ownsRow B T 1 v (l.length+1) (l.map sgPtr++[u])):Own w B T v (l.map sgPtr++[u]):=by unfold Own;rw[Aj,AD];exact h
theorem Ki {α β:Type}(f:α→List β){l m:List α}(h:l.Sublist m):(l.flatMap f).Sublist (m.flatMap f):=by
 induction h with
 |slnil=>simp
 |cons a _ ih=>rw[BI];exact ih.trans (List.sublist_append_right _ _)
 |cons_cons a _ ih=>rw[BI,BI];exact List.Sublist.append (List.Sublist.refl _) ih
def begJ4 (h:World)(p c1 c2 lb e f n cap b g nx:Nat)(l:Nat→Bool)(x:Nat→Value)(a:World):Prop:=
 (a.cell? ⟨c1,0,none⟩=some (pr p 0))∧
 (a.cell? ⟨c2,0,none⟩=some (pr lb 0))∧
 (a.cell? ⟨lb,3,none⟩=some (.slice (some ⟨e,0,none⟩) n cap))∧
 (a.cell? ⟨e,f,none⟩=some (pr b 0))∧
 (a.cell? ⟨b,0,none⟩=some (.int .i64 (g:Int)))∧
 (l 15=false→Blk a p (sgC 1 (nx:Int) 0 nilS nilS) 358)∧
 (l 15=true→Blk a p (sgC ((g:Int)+1) (nx:Int) 0 nilS nilS) 358)∧
 (Keep [p] h a)∧
 SlV l x 0 [some (pr p 0),some (pr lb 0),some (pr lb 0),some (pr lb 3),some (.slice (some ⟨e,0,none⟩) n cap),some (.int .i64 (n:Int)),some (.int .i64 (f:Int)),some (pr e f),some (pr b 0),some (pr b 0),some (pr b 0),some (.int .i64 (g:Int)),some (.int .i64 ((g:Int)+1)),some (pr p 0),some (pr p 0),none]
def begJ8 (h:World)(B d lb p c1 c2 G frm segs nx run:Nat)(fr:Bool)(vl:Value)(g b:List Sg)(l:Nat→Bool)(x:Nat→Value)(a:World):Prop:=
 ∃e f,(a.cell? ⟨c1,0,none⟩=some (pr p 0))∧
 (a.cell? ⟨c2,0,none⟩=some (pr lb 0))∧
 (l 6=false→Own a B 359 vl (g.map sgPtr))∧
 (l 6=true→Own a B 359 (.slice e b.length f) (b.map sgPtr))∧
 (l 6=true→(.slice e b.length f:Value).ownBlock =vl.ownBlock)∧
 (l 9=false→Blk a lb (lgC d (frm:Int) (segs:Int) vl (nx:Int) (run:Int) fr) 333)∧
 (l 9=true→Blk a lb (lgC d (frm:Int) (segs:Int) (.slice e b.length f) (nx:Int) (run:Int) fr) 333)∧
 (∀s∈g,Ed a s)∧
 (Ed a ⟨p,G,nx,0,nilS,nilS,[]⟩)∧
 (l 9=true→l 6=true)∧
 (l 6=true→l 4=true)∧
 (Keep (lb::vl.ownBlock.toList) h a)∧
 SlV l x 0 [some (pr lb 0),some (pr lb 0),some (pr lb 0),some (pr lb 3),some vl,some (.func (.func 275) #[] #[pr c1 0,pr c2 0]),some (.slice e b.length f),some (pr lb 0),some (pr lb 3),none]
def begJ9 (j:World)(B d lb p c1 c2 frm segs nx run:Nat)(fr:Bool)(e:Option Addr)(f:Nat)(a:List Sg)(l:Nat→Bool)(x:Nat→Value)(b:World):Prop:=
 ∃g h i,(b.cell? ⟨c1,0,none⟩=some (pr p 0))∧
 (b.cell? ⟨c2,0,none⟩=some (pr lb 0))∧
 (l 7=false→Own b B 359 (.slice e a.length f) (a.map sgPtr))∧
 (l 7=true→Own b B 359 (.slice g (a.length+1) h) (a.map sgPtr++[pr p 0]))∧
 (l 7=true→∀q,(.slice g (a.length+1) h:Value).ownBlock =some q→(.slice e a.length f:Value).ownBlock =some q∨j.heap.size≤q)∧
 (l 10=false→Blk b lb (lgC d (frm:Int) (segs:Int) (.slice e a.length f) (nx:Int) (run:Int) fr) 333)∧
 (l 10=true→Blk b lb (lgC d (frm:Int) (segs:Int) (.slice g (a.length+1) h) (nx:Int) (run:Int) fr) 333)∧
 (l 10=true→l 7=true)∧
 (l 7=true→l 4=true)∧
 (Keep (lb::(.slice e a.length f:Value).ownBlock.toList) j b)∧
 (l 6=true→x 6=.slice (some ⟨i,0,none⟩) 1 1∧(l 7=false→Blk b i [pr p 0] 359∧j.heap.size≤i))∧
 SlV l x 0 [some (pr lb 0),some (pr lb 0),some (pr lb 0),some (pr lb 3),some (.slice e a.length f),some (pr p 0),none,some (.slice g (a.length+1) h),some (pr lb 0),some (pr lb 3),none]
section
variable {w:World} {B lb d sb c frm segs nx run:Nat} {fr:Bool} {vl:Value} {l₀:List Sg} {L:List Sec}
theorem R7 (h:LogAt w B lb d frm segs nx run fr vl l₀)(M:IsDev w d sb L c)(hc:c+2<1099511627776)(N:l₀.length≤200)(hg:∀s∈l₀,0<s.gen∧s.gen+1<281474976710656)(du:nx<281474976710656)(dx:run<4294967296)
  (dz:0<segs∧segs≤200) (dp:frm≤100000) (ae:Nat) (ce:ae=frm+(nextGen l₀-1) % segs*8) (ah:ae<L.length):
  Calls Tryz.prog 251 #[pr lb 0] w fun e J=>∃p ed,e=.returned (.int .i64 0)∧LogAt J B lb d frm segs nx run fr ed (l₀.filter (fun s=> !decide ((s.gen:Int)≤(nextGen l₀:Int)-(segs:Int)))++[⟨p,nextGen l₀,nx,0,nilS,nilS,[]⟩])∧
   IsDev J d sb ((L.set ae ⟨sgImg (nextGen l₀) nx run 0 [],(L.getD ae zeroSec).lasts,true⟩).map flushSec) (c+2)∧Keep (d::sb::lb::vl.ownBlock.toList) w J∧w.heap.size≤p∧(∀q,ed.ownBlock=some q→vl.ownBlock=some q∨w.heap.size≤q):=by
 obtain⟨G,hG⟩:∃G,G=nextGen l₀:=⟨_,rfl⟩;rw[←hG]at ce⊢;obtain⟨D,bv⟩:∃D,D=l₀.filter (fun s=> !decide ((s.gen:Int)≤(G:Int)-(segs:Int))):=⟨_,rfl⟩;have aw:=h_ bv;rw[←bv];clear bv
 have dd:0<G∧G<281474976710656:=by
  rw[hG];unfold nextGen
  cases hh:l₀.getLast? with
  |none=>exact⟨by decide,by decide⟩
  |some s=>have:=hg s (GT hh);exact⟨by simp,this.2⟩
 obtain⟨HG,H,HD,HC,HL,co,eu,ev,cw⟩:=i_9 hG h M hc N hg du dx dz;obtain⟨ej,en,er,bp⟩:=i_4 dp ce ah dd;obtain⟨a,cap,ar⟩:=h.slice;obtain⟨iP,e7,fd,fe,ff⟩:=AU Tryz.infoPs;have ab:=BY w [pr lb 0] 280;have K1:=(By [] w).alloc (.cells #[pr lb 0] 280);have k4:=K1.cell1 (PA h.blk) (by simp);have ch:(w.alloc (.cells #[pr lb 0] 280)).heap.size =w.heap.size+1:=by simp
 obtain⟨w1,d5⟩:∃w1,w1=w.alloc (.cells #[pr lb 0] 280):=⟨_,rfl⟩;simp only[List.toArray]at ab;have db:=ab.cell 0;simp only[List.getElem?_cons_zero]at db;clear h M hc N hg du dx dz dp ce ah dd hG;go_enter Tryz.func251,Tryz.ntmps251;go_upto_region 2 with fail;rw[←d5]at ab K1 ch⊢;clear k4 db;have ap:=BY w1 (sgC 1 (nx:Int) 0 nilS nilS) 358;have KS:=(By [] w1).alloc (.cells (sgC 1 (nx:Int) 0 nilS nilS).toArray 358);have d2:(w1.alloc (.cells (sgC 1 (nx:Int) 0 nilS nilS).toArray 358)).heap.size =w1.heap.size+1:=by simp
 rw[show(#[Value.int .i64 1,.int .i64 (nx:Int),.int .i64 0,.slice none 0 0,.slice none 0 0]:Array Value)=(sgC 1 (nx:Int) 0 nilS nilS).toArray from rfl];generalize w1.alloc (.cells (sgC 1 (nx:Int) 0 nilS nilS).toArray 358)=w2 at*;rw[←ch,←d2];obtain⟨p,hp⟩:∃p,p=w1.heap.size:=⟨_,rfl⟩;rw[←hp]at ap⊢;have ao:=BY w2 [pr p 0] 359;have KC:=(By [] w2).alloc (.cells #[pr p 0] 359);simp only[List.toArray]at ao;obtain⟨c1,dk⟩:∃c1,c1=w2.heap.size:=⟨_,rfl⟩;rw[←dk]at ao⊢;obtain⟨c2,cc⟩:∃c2,c2=w.heap.size:=⟨_,rfl⟩;rw[←cc]at ab⊢;generalize w2.alloc (.cells #[pr p 0] 359)=w3 at*;have ap:=ap.keep KC (by simp);have ab:=(ab.keep KS (by simp)).keep KC (by simp);have bq:Hid (Keep [] w w3):=h_ (K1.trans (KS.trans KC));have HN:Hid (c2=w.heap.size∧c2<p∧p<c1):=h_ ⟨cc,by have:=KS.size;omega,by omega⟩;have h3:=H.out.still bq.out;clear K1 KS KC ch d2 hp dk cc d5;have C:=Hk h3.blk;have i:=ab.cell 0;have j:=ao.cell 0;simp only[List.getElem?_cons_zero]at j i;subst ar;obtain⟨bn,cl,cm,H3⟩:=i_4 ap ab ao h3;clear ap ab ao h3;go_upto_if 18 with fail;go_cut [] (fun wc=>Blk wc p (sgC (G:Int) (nx:Int) 0 nilS nilS) 358∧Keep [p] w3 wc)
 case first=>
  by_cases aq:l₀=[]
  ·have dq:G=1:=by rw[HG.out,aq];rfl
   have hz:l₀.length=0:=by rw[aq];rfl
   have ey:¬0<l₀.length:=by omega
   have ek:=h_ dq;clear dq aq hz;go_wp2_with fail;go_meet;refine⟨?_,By _ _⟩;rw[ek.out];exact bn.out
  ·obtain⟨n,hn⟩:∃n,l₀.length=n:=⟨_,rfl⟩
   obtain⟨N1,ca⟩:∃N1,n=N1+1:=⟨n-1,by have:=Cs.2 aq;omega⟩;obtain⟨s,bh⟩:∃s,l₀[N1]?=some s:=⟨_,Ad (by omega)⟩;have ds:l₀.getLast?=some s:=by rw[Ci,hn,ca];exact bh
   have dr:G=s.gen+1:=by rw[HG.out];unfold nextGen;rw[ds]
   obtain⟨ba,fi,hv,ec⟩:=H3.out.seg_at N1 s bh;injection hv with hv bj hv3;subst hv hv3;have bi:s∈l₀:=Aq bh;have dy:=H3.out.row.ok s bi;have eb:=Fl dy.blk
   have am:Hid (c1∉ [p]∧c2∉ [p]∧lb∉ [p]∧ba∉ [p]∧s.p∉ [p]):=h_ (by have hn:=HN.out;have ah:=H.out.lt;have h1:=(ah lb (by simp[DG])).2;have h2:=(ah ba (by simp[DG,Value.ownBlock])).2;have h3:=(ah s.p (by simp only[DG,Ac,Ag];exact .inr (.inr (Bm.2 ⟨s,bi,by simp[Sg.F]⟩)))).2;simp only[Ah];refine⟨by omega,by omega,by omega,by omega,by omega⟩)
   have cg:=HL.out;have ey:0<l₀.length:=by omega
   rw[hn]at cg;have es:Hid (n=N1+1∧n≤200):=h_ ⟨ca,cg⟩;have et:Hid (IntKind.i64.wrap ((n:Int)-1)=(N1:Int)):=h_ (by rw[A9];omega);have em:Hid (IntKind.i64.wrap ((s.gen:Int)+1)=(s.gen:Int)+1):=h_ (by rw[A9];have:=co.out s bi;omega);have el:Hid ((G:Int)=(s.gen:Int)+1):=h_ (by rw[dr];simp);have d8:=j;have ea:=i;have cj:=C;have ct:=h_ hn;clear bj bh ca dr dy j i C bi aq ds cg;clear hn;go_upto_region 4 with fail;rw[ct.out]at cj⊢;refine wI (begJ4 w3 p c1 c2 lb ba N1 n cap s.p s.gen nx) ?aS (.s ?a0<|.s ?a1<|.s ?a2<|.s ?a3<|.s ?a4<|.s ?a5<|.s ?a6<|.s ?a7<|.s ?a8<|.s ?a9<|.s ?a10<|.s ?a11<|.s ?a12<|.s ?a13<|.s ?a14<|.s ?a15<|.n) 16 ?aF
   case aS=>intro x;exact⟨d8,ea,cj,ec,eb,fun _=>bn.out.drew,fun h=>absurd h (by decide),(By _ _).drew,Yr⟩
   case aF=>intro l x w3 P N;obtain⟨j,i,C,X,V,Q,aa,o,vS⟩:=P;have hS:=aa (N 15 (by decide));simp only[Al,Act.put,A8,A7,A6];obtain⟨HS,ep⟩:=i_2 hS o;clear N Q aa o hS j i C X V d8 ea cj ec eb vS;rw[←ct.out];go_wp2_with fail;go_meet;refine⟨?_,ep.out⟩;have:=HS.out;rw[el.out];exact this
   all_goals
    intro l x J P z M;obtain⟨j,i,C,X,V,Q,aa,o,vS⟩:=P;have hW:=vS;have hD:=M;simp only[SlV]at hW
    try simp[BD,Region.binds]at hD
    refine Oq.of (by simp only[Al,Act.put,A8,A7,A6,hD,hW];rfl) ?_;clear hD hW;intro K' A
   case a1=>have c0:=i;go_simp;exact A.go _ rfl ⟨j,i,C,X,V,Q,aa,o,vS.r⟩
   case a4=>have c0:=C;go_simp;exact A.go _ rfl ⟨j,i,C,X,V,Q,aa,o,vS.r⟩
   case a6=>go_simp;exact A.go _ rfl ⟨j,i,C,X,V,Q,aa,o,vS.q ((by first|rfl|exact A3 (Value.int .i64) et.out))⟩
   case a7=>go_simp;rw[Ay (by have:=es.out;omega)];exact A.go _ rfl ⟨j,i,C,X,V,Q,aa,o,vS.r⟩
   case a8=>have c0:=X;go_simp;exact A.go _ rfl ⟨j,i,C,X,V,Q,aa,o,vS.r⟩
   case a11=>have c0:=V;go_simp;exact A.go _ rfl ⟨j,i,C,X,V,Q,aa,o,vS.r⟩
   case a12=>go_simp;exact A.go _ rfl ⟨j,i,C,X,V,Q,aa,o,vS.q ((by first|rfl|exact A3 (Value.int .i64) em.out))⟩
   case a15=>have c0:=Fl (Q z);have f0:=(Q z).free 0;go_simp;have v:Keep [p] J _:=((By [p] J).setCell (p:=⟨p,0,none⟩) (.inl (by simp)) (.int .i64 ((s.gen:Int)+1)));have e0:=(Q z).set 0 (.int .i64 ((s.gen:Int)+1));exact A.go undef rfl ⟨v.cell1 j am.out.1,v.cell1 i am.out.2.1,v.cell1 C am.out.2.2.1,v.cell1 X am.out.2.2.2.1,v.cell1 V am.out.2.2.2.2,fun h=>Bool.noConfusion (show true=false from h),fun _=>e0,o.trans v,vS.s rfl⟩
   all_goals have c0:=j;go_simp;exact A.go _ rfl ⟨j,i,C,X,V,Q,aa,o,vS.r⟩
 case rest=>
 obtain⟨di,ai⟩:=hcut;have hn:=HN.out;have cf:=H.out.lt;have dt:=(cf lb (by simp[DG])).2;have dj:∀q,(Value.slice a l₀.length cap).ownBlock =some q→q<w.heap.size:=fun q f=>(cf q (Ap _ (A2 _ (Ae.2 f)))).2
 have bb:Keep [] w wc:=bq.out.then ai (by intro x hx ah;simp at hx;omega);have h4:=H.out.still bb;have dl:=HD.out.keep bb (by simp) (by simp);have j:=ai.cell1 j (by simp;omega);have i:=ai.cell1 i (by simp;omega);have dg:=cm.out.keep ai (by simp;omega);have dh:=cl.out.keep ai (by simp;omega);obtain⟨aj,H4,az,bl,bm,cp,eq,eg⟩:=i_8 dl h4 di dg dh bb dt dj;clear di ai cf h4 dl dg dh bb bn cl cm H3 bq C hn dt dj;generalize wc=w4 at*;go_wp2_with fail;refine(Lz aj.out (by have:=HC.out;omega) frm segs _ (nx:Int) run fr H4.out.blk G nx 0 nilS nilS [] az.out (Y6 _ _) (by simp) (by simp) 0 (by decide) ⟨bp.out.2,eu.out,ev.out⟩ bp.out.1 cw.out ej.out ae (by rw[en.out,Nat.add_zero]) er.out (by intro q f;cases f)).mono ?_;rintro e w5 ⟨rfl,dm,k5⟩;have ak:=h_ dm;have br:Hid (Keep [d,sb] w w5):=h_ ((cp.out.mono (by simp)).trans k5);have H5:=h_ (H4.out.keep k5 (H4.out.apart aj.out))
 have bf:∀ {b:Nat} {T:TypeId},Ty w4 b T→T≠182→T≠232→b∉ [d,sb]:=by
  intro b T ht h1 h2 m;simp only[Ac,Am,AG]at m;rcases m with rfl|rfl
  ·exact ht.ne aj.out.dev.ty h1 rfl
  ·exact ht.ne aj.out.secs.ty h2 rfl
 have bu:=h_ (az.out.keep k5 (bf az.out.ty (by decide) (by decide)));have ee:=h_ (bl.out.keep k5 (bf bl.out.ty (by decide) (by decide)));have ef:=h_ (bm.out.keep k5 (bf bm.out.ty (by decide) (by decide)));clear dm k5 bf az bl bm H4 aj cp j i;have j:=ee.out.cell 0;have i:=ef.out.cell 0;simp only[List.getElem?_cons_zero]at j i;have C:=Hk H5.out.blk
 have S:∀s∈l₀,Ed w5 s:=fun s u=>by have hA:=H5.out.row.ok s u;exact⟨Fl hA.blk,hA.blk.ty,by have:=(co.out s u).2;omega⟩
 have ac:Ed w5 ⟨p,G,nx,0,nilS,nilS,[]⟩:=⟨Fl bu.out,bu.out.ty,bp.out.2⟩;have bx:=H5.out.blk;have be:=H5.out.row.own
 have R:Hid (∀b,b=p∨b=c1∨b=c2→b∉(Value.slice a l₀.length cap).ownBlock.toList):=h_ (by intro b hb m;have:=eg.out b (Ae.1 m);have:=HN.out;omega)
 have ag:Hid (p≠lb∧c1≠lb∧c2≠lb):=h_ (by have:=HN.out;have:=eq.out;omega);obtain⟨vl,ar⟩:∃vl,vl=Value.slice a l₀.length cap:=⟨_,rfl⟩;rw[←ar]at C bx be R;have cz:=h_ ar;have da:Hid (∀q∈vl.ownBlock.toList,Ty w5 q 359):=h_ (fun q f=>be.ty q (Ae.1 f));clear ar;go_upto_region 8 with fail;refine wI (begJ8 w5 B d lb p c1 c2 G frm segs nx run fr vl l₀ D) ?bS (.s ?b0<|.s ?b1<|.s ?b2<|.s ?b3<|.s ?b4<|.s ?b5<|.s ?b6<|.s ?b7<|.s ?b8<|.s ?b9<|.n) 10 ?bF
 case bS=>intro x;exact⟨none,0,j,i,fun _=>be.drew,fun h=>absurd h (by decide),fun h=>absurd h (by decide),fun _=>bx.drew,fun h=>absurd h (by decide),fun s u=>(S s u).keep0 (By [] _).drew,ac.keep0 (By [] _).drew,fun h=>absurd h (by decide),fun h=>absurd h (by decide),(By _ _).drew,Yr⟩
 case bF=>
  intro l x w3 P N;obtain⟨Y,Z,j,i,I,E,K,y,O,S,ac,d9,d6,o,vS⟩:=P;have cb:=E (N 6 (by decide));have bd:=O (N 9 (by decide));have ci:=K (N 6 (by decide));simp only[Al,Act.put,A8,A7,A6];simp only[AP,Nat.reduceAdd];obtain⟨cy,ax⟩:=i_2 ci o;have cs:=R;have R:Hid (∀b,b=p∨b=c1∨b=c2→b∉(Value.slice Y D.length Z).ownBlock.toList):=h_ (fun b hb=>by rw[ci];exact cs.out b hb);have fg:=j;have fh:=i;clear I E K y O d9 d6 N ci be bx C vS;have C:=Hk bd
  have ew:Hid (Blk w3 p (sgC (G:Int) (nx:Int) 0 nilS nilS) 358):=h_ (bu.out.keep o (fun m=>by
   rcases Ac.1 m with h|h
   ·exact ag.out.1 h
   ·exact cs.out p (.inl rfl) h))
  have cn:Hid (D.length≤200):=h_ (by rw[aw.out];exact AJ (D6 _ _) HL.out);have eh:Hid (B≤w3.heap.size):=h_ (by have:=H.out.lt lb (by simp[DG]);have:=br.out.size;have:=ax.out.size;omega);clear o S ac fg fh;generalize w3=w8 at*;go_upto_region 9 with fail;refine wI (begJ9 w8 B d lb p c1 c2 frm segs nx run fr Y Z D) ?cS (.s ?c0<|.s ?c1<|.s ?c2<|.s ?c3<|.s ?c4<|.s ?c5<|.s ?c6<|.s ?c7<|.s ?c8<|.s ?c9<|.s ?c10<|.n) 11 ?cF
  case cS=>intro x;exact⟨none,0,0,j,i,fun _=>cb.drew,fun h=>absurd h (by decide),fun h=>absurd h (by decide),fun _=>bd.drew,fun h=>absurd h (by decide),fun h=>absurd h (by decide),fun h=>absurd h (by decide),(By _ _).drew,fun h=>absurd h (by decide),Yr⟩
  case c7=>
   intro l x J P z M;obtain⟨ua,af,B6,j,i,I,E,K,y,O,ad,d7,o,h6,vS⟩:=P;have e4:=vS.a 4 (M.at rfl) rfl;have e6:=h6 (M.at rfl);have bs:Hid (l 4=true):=h_ (M.at rfl);have bc:l 10=false:=by cases f:l 10 with|false=>rfl|true=>exact absurd (ad f) (by simp[z])
   obtain⟨e5,fj⟩:=e6.2 z;have U:=(y bc).ty;have bk:=(I z).ty;have fk:=(I z).lt;have bg:lb∉(.slice Y D.length Z:Value).ownBlock.toList :=fun m=>U.ne (bk lb (Ae.1 m)) (by decide) rfl
   refine Oq.of (b:= ?bC7) ?eC7 ?_
   case eC7=>simp only[Al,Act.put,A8,A7,A6,e4,e6.1];rfl
   intro K' A;refine BO _ rfl (.tmp 53) (.tmp 55) 331 331 rfl B 359 iP _ 1 8 Fz e7 fd fe ff rfl (by decide) (.slice Y D.length Z) D.length (D.map sgPtr) rfl (Ya (I z)) _ 1 [pr p 0] rfl (src_at Fz J B6 _ (e5.cell 0) rfl) (by unfold maxLen;have:=cn.out;omega) (by have:=cn.out;omega) (AJ eh.out o.size) ?_;intro v2 w2 g2 g3 _ g4;obtain⟨au,av,rfl⟩:=A4 g2;have v:Keep (.slice Y D.length Z:Value).ownBlock.toList J w2:=DJ g3;have an:=V3 g2;exact A.go (.slice au (D.length+1) av) rfl ⟨au,av,B6,v.cell1 j (fun m=>R.out c1 (.inr (.inl rfl)) m),v.cell1 i (fun m=>R.out c2 (.inr (.inr rfl)) m),fun h=>Bool.noConfusion (show true=false from h),fun _=>an,fun _ q f=>(g4 q f).imp id (fun h=>AJ o.size h),fun h=>(y h).keep v bg,fun h=>absurd (bc.symm.trans h) (by decide),fun _=>rfl,fun _=>bs.out,o.trans (v.mono (fun q f _=>Ap _ f)),fun h=>⟨(h6 h).1,fun ck=>Bool.noConfusion (show true=false from ck)⟩,vS.r⟩
  case cF=>
   intro l x w3 P N;obtain⟨ua,af,B6,j,i,I,E,K,y,O,ad,d7,o,h6,vS⟩:=P;have df:=E (N 7 (by decide));have bz:=O (N 10 (by decide));have d4:=K (N 7 (by decide));simp only[Al,Act.put,A8,A7,A6];simp only[AP,Nat.reduceAdd];obtain⟨cr,cu,ex,eo⟩:=i_4 bz df d4 o;have U:=bd.ty;have cx:Hid (∀q∈(Value.slice Y D.length Z).ownBlock.toList,Ty w8 q 359):=h_ (fun q f=>cb.ty q (Ae.1 f))
   have al:Hid (IsDev w8 d sb (L.set ae ⟨sgImg G nx run 0 [],(L.getD ae zeroSec).lasts,true⟩) (c+1)):=h_ (ak.out.keep ax.out (fun m=>by
     rcases Ac.1 m with h|h
     ·exact ak.out.dev.ty.ne H5.out.blk.ty (by decide) h
     ·exact ak.out.dev.ty.ne (da.out d h) (by decide) rfl) (fun m=>by
     rcases Ac.1 m with h|h
     ·exact ak.out.secs.ty.ne H5.out.blk.ty (by decide) h
     ·exact ak.out.secs.ty.ne (da.out sb h) (by decide) rfl))
   have bo:Hid (IsDev w3 d sb (L.set ae ⟨sgImg G nx run 0 [],(L.getD ae zeroSec).lasts,true⟩) (c+1)):=h_ (al.out.keep o (fun m=>by
     rcases Ac.1 m with h|h
     ·exact al.out.dev.ty.ne U (by decide) h
     ·exact al.out.dev.ty.ne (cx.out d h) (by decide) rfl) (fun m=>by
     rcases Ac.1 m with h|h
     ·exact al.out.secs.ty.ne U (by decide) h
     ·exact al.out.secs.ty.ne (cx.out sb h) (by decide) rfl))
   have cv:Hid (Blk w3 p (sgC (G:Int) (nx:Int) 0 nilS nilS) 358):=h_ (ew.out.keep o (fun m=>by
    rcases Ac.1 m with h|h
    ·exact ag.out.1 h
    ·exact R.out p (.inl rfl) h))
   have q0:=Ug bz;clear h6 I E K y O ad d7 N d4 df bz bd cb j o U vS;generalize w3=w9 at*;go_wp2_with fail;refine(GV bo.out (by have:=HC.out;omega)).mono ?_;rintro e wa ⟨rfl,dn,ka⟩;obtain⟨ei,ay⟩:=i_2 dn ka;clear dn ka q0 i C;go_wp2;go_ret
   have e8:Keep (d::sb::lb::vl.ownBlock.toList) w5 wa:=by
    have e1:Keep (d::sb::lb::vl.ownBlock.toList) w5 w8:=ax.out.mono (fun q f _=>Ap _ (Ap _ f))
    have e2:Keep (d::sb::lb::vl.ownBlock.toList) w8 w9:=eo.out.mono (fun q f _=>by rw[cy.out]at f;exact Ap _ (Ap _ f))
    have e3:Keep (d::sb::lb::vl.ownBlock.toList) w9 wa:=ay.out.mono (fun q f _=>by simp only[Ac,Am,AG]at f;rcases f with rfl|rfl<;>simp)
    exact e1.trans (e2.trans e3)
   have de:Keep (d::sb::lb::(Value.slice a l₀.length cap).ownBlock.toList) w wa:=by
    rw[←cz.out]
    exact(br.out.mono (fun q f _=>by simp only[Ac,Am,AG]at f;rcases f with rfl|rfl<;>simp)).trans e8
   have cd:∀ {b:Nat} {T:TypeId},Ty w9 b T→T≠182→T≠232→b∉ [d,sb]:=by
    intro b T ht h1 h2 m;simp only[Ac,Am,AG]at m;rcases m with rfl|rfl
    ·exact ht.ne bo.out.dev.ty h1 rfl
    ·exact ht.ne bo.out.secs.ty h2 rfl
   have fa:∀s∈l₀,∀q∈s.F,q∉(d::sb::lb::(Value.slice a l₀.length cap).ownBlock.toList):=by
    intro s u q f m;have dw:q∈DG lb (.slice a l₀.length cap) l₀:=Ap _ (AQ _ (Bm.2 ⟨s,u,f⟩));have d3:=(H.out.row.ok s u).ty q f;simp only[Ac]at m;rcases m with h|h|h|h
    ·exact H.out.apart HD.out q dw (by simp[h])
    ·exact H.out.apart HD.out q dw (by simp[h])
    ·subst h
     rcases d3 with t|t|t
     ·exact H.out.blk.ty.ne t (by decide) rfl
     ·exact H.out.blk.ty.ne t (by decide) rfl
     ·exact H.out.blk.ty.ne t (by decide) rfl
    ·have t0:=H.out.row.own.ty q (Ae.1 h)
     rcases d3 with t|t|t
     ·exact t0.ne t (by decide) rfl
     ·exact t0.ne t (by decide) rfl
     ·exact t0.ne t (by decide) rfl
   have ez:B≤w.heap.size:=by have:=H.out.lt lb (by simp[DG]);omega
   have dv:w.heap.size≤p:=by have:=HN.out;omega
   have dc:∀s∈D,s∈l₀:=fun s u=>by rw[aw.out]at u;exact(List.mem_filter.1 u).1
   refine⟨p,_,rfl,⟨cr.out.keep ay.out (cd cr.out.ty (by decide) (by decide)),⟨?_, ?_⟩, ?_,H.out.new⟩,ei.out,de,dv, ?_⟩
   ·rw[AL]
    exact cu.out.keep ay.out (fun q f=>cd (cu.out.ty q f) (by decide) (by decide))
   ·intro s u
    rcases Ag.1 u with u|u
    ·exact(H.out.row.ok s (dc s u)).keep de (fa s (dc s u))
    ·simp only[Ac,Am,AG]at u
     subst u;exact⟨cv.out.keep ay.out (cd cv.out.ty (by decide) (by decide)),Y4 _ _ _,RRow.nil _ _,AJ ez dv,by simp[Sg.F,Mj,nilS,Value.ownBlock]⟩
   ·unfold sgF
    rw[Bg]
    have d1:(D.flatMap Sg.F).Sublist (l₀.flatMap Sg.F):=by rw[aw.out];exact Ki Sg.F List.filter_sublist
    have e9:(l₀.flatMap Sg.F).Nodup :=H.out.nd;rw[BV];refine⟨d1.nodup e9,by simp[Sg.F,Mj,nilS,Value.ownBlock], ?_⟩;intro q f r hr fb;subst fb;have h1:=(H.out.lt q (Ap _ (AQ _ (d1.subset f)))).2;simp[Sg.F,Mj,nilS,Value.ownBlock]at hr;omega
   ·intro q f
    rcases ex.out q f with h|h
    ·left
     rw[cy.out,cz.out]at h;exact h
    ·right
     have:=br.out.size;have:=ax.out.size;omega
  all_goals
   intro l x J P z M;obtain⟨ua,af,B6,j,i,I,E,K,y,O,ad,d7,o,h6,vS⟩:=P;have hW:=vS;have hD:=M;simp only[SlV]at hW
   try simp[BD,Region.binds]at hD
   refine Oq.of (by simp only[Al,Act.put,A8,A7,A6,hD,hW];rfl) ?_;clear hD hW;intro K' A
  case c4=>
   have bc:l 10=false:=by cases f:l 10 with|false=>rfl|true=>exact absurd (d7 (ad f)) (by simp[z])
   have c0:=Hk (y bc);go_simp;exact A.go _ rfl ⟨ua,af,B6,j,i,I,E,K,y,O,ad,fun _=>rfl,o,h6,vS.r⟩
  case c5=>have c0:=j;go_simp;exact A.go _ rfl ⟨ua,af,B6,j,i,I,E,K,y,O,ad,d7,o,h6,vS.r⟩
  case c6=>go_simp;exact A.go _ rfl ⟨ua,af,J.heap.size,((By [] _).alloc _).cell1 j (by simp),((By [] _).alloc _).cell1 i (by simp),fun h=>(I h).alloc _,fun h=>(E h).alloc _,K,fun h=>(y h).alloc _,fun h=>(O h).alloc _,ad,d7,o.alloc _,fun _=>⟨rfl,fun _=>⟨BY _ [pr p 0] _,o.size⟩⟩,vS.s rfl⟩
  case c10=>have bt:Hid (l 7=true):=h_ (M.at rfl);have c0:=Hk (y z);have f0:=(y z).free 3;go_simp;have v:Keep [lb] J _:=((By [lb] J).setCell (p:=⟨lb,3,none⟩) (.inl (by simp)) (.slice ua (D.length+1) af));have bw:=(y z).set 3 (.slice ua (D.length+1) af);have U:=(y z).ty;exact A.go undef rfl ⟨ua,af,B6,v.cell1 j (by simp;exact ag.out.2.1),v.cell1 i (by simp;exact ag.out.2.2),fun h=>absurd (h.symm.trans bt.out) (by decide),fun h=>(E h).keep v (fun q f m=>by simp only[Ah]at m;subst m;exact((E h).ty _ f).ne U (by decide) rfl),K,fun h=>Bool.noConfusion (show true=false from h),fun _=>bw,fun _=>bt.out,d7,o.trans (v.mono (by simp)),fun h=>⟨(h6 h).1,fun ck=>absurd (ck.symm.trans bt.out) (by decide)⟩,vS.s rfl⟩
  all_goals have c0:=i;go_simp;exact A.go _ rfl ⟨ua,af,B6,j,i,I,E,K,y,O,ad,d7,o,h6,vS.r⟩
 all_goals
  intro l x J P z M;obtain⟨Y,Z,j,i,I,E,K,y,O,S,ac,d9,d6,o,vS⟩:=P;have hW:=vS;have hD:=M;simp only[SlV]at hW
  try simp[BD,Region.binds]at hD
  refine Oq.of (by simp only[Al,Act.put,A8,A7,A6,hD,hW];rfl) ?_;clear hD hW;intro K' A
 case b4=>
  have f9:l 9=false:=by cases f:l 9 with|false=>rfl|true=>exact absurd (d6 (d9 f)) (by simp[z])
  have c0:=Hk (y f9);go_simp;exact A.go _ rfl ⟨Y,Z,j,i,I,E,K,y,O,S,ac,d9,fun _=>rfl,o,vS.r⟩
 case b6=>
  have bs:Hid (l 4=true):=h_ (M.at rfl);have f9:l 9=false:=by cases f:l 9 with|false=>rfl|true=>exact absurd (d9 f) (by simp[z])
  have U:=(y f9).ty;have bk:=(I z).ty;have bg:lb∉vl.ownBlock.toList:=fun m=>U.ne (bk lb (Ae.1 m)) (by decide) rfl
  have d0:∀s∈l₀,s.p∉vl.ownBlock.toList:=fun s u m=>(S s u).2.1.ne (bk s.p (Ae.1 m)) (by decide) rfl
  have fc:=h_ (show∀W,Keep vl.ownBlock.toList J W→WH W 275 c1 c2 l₀ (fun g=>decide ((g:Int)≤(G:Int)-(segs:Int)))from fun W k s u=>Uy (k.cell1 (S s u).1 (d0 s u)) (k.cell1 ac.1 (R.out p (.inl rfl))) (k.cell1 j (R.out c1 (.inr (.inl rfl)))) (k.cell1 i (R.out c2 (.inr (.inr rfl)))) (k.cell1 (lg_2 (y f9)) bg) ⟨(S s u).2.2,ac.2.2,cw.out.2⟩);go_simp;refine(Oc (I z) fc.out (by have:=HL.out;omega)).mono ?_;rintro e w2 ⟨v2,rfl,an,v,ab⟩;rw[←aw.out]at an;obtain⟨au,av,bj⟩:=an.slice;rw[AD]at bj;subst bj;go_simp;exact A.go (.slice au D.length av) rfl ⟨au,av,v.cell1 j (R.out c1 (.inr (.inl rfl))),v.cell1 i (R.out c2 (.inr (.inr rfl))),fun h=>Bool.noConfusion (show true=false from h),fun _=>an,fun _=>ab,fun h=>(y h).keep v bg,fun h=>absurd (f9.symm.trans h) (by decide),fun s u=>(S s u).keep v (d0 s u),ac.keep v (R.out p (.inl rfl)),fun _=>rfl,fun _=>bs.out,o.trans (v.mono (fun q f _=>Ap _ f)),vS.r⟩
 case b9=>have cq:Hid (l 6=true):=h_ (M.at rfl);have c0:=Hk (y z);have f0:=(y z).free 3;go_simp;have v:Keep [lb] J _:=((By [lb] J).setCell (p:=⟨lb,3,none⟩) (.inl (by simp)) (.slice Y D.length Z));have bw:=(y z).set 3 (.slice Y D.length Z);have U:=(y z).ty;exact A.go undef rfl ⟨Y,Z,v.cell1 j (by simp;exact ag.out.2.1),v.cell1 i (by simp;exact ag.out.2.2),fun h=>absurd (h.symm.trans cq.out) (by decide),fun h=>(E h).keep v (fun q f m=>by simp only[Ah]at m;subst m;exact((E h).ty _ f).ne U (by decide) rfl),K,fun h=>Bool.noConfusion (show true=false from h),fun _=>bw,fun s u=>(S s u).keep v (fun m=>by simp only[Ah]at m;exact(S s u).2.1.ne U (by decide) m),ac.keep v (by simp;exact ag.out.1),fun _=>cq.out,d6,o.trans (v.mono (by simp)),vS.s rfl⟩
 all_goals have c0:=i;go_simp;exact A.go _ rfl ⟨Y,Z,j,i,I,E,K,y,O,S,ac,d9,d6,o,vS.r⟩
end
def need (l:List Sg)(n:Nat):Prop:=match l.getLast? with|none=>True|some s=>370-(n:Int)<((encRs s.rs).length :Int)
structure Ready (w wc:World) (B lb d sb frm segs nx run:Nat) (fr:Bool) (vl vl1:Value) (l₀ l1:List Sg) (L L1:List Sec) (c c1 n:Nat):Prop where
 at_:LogAt wc B lb d frm segs nx run fr vl1 l1
 dev:IsDev wc d sb L1 c1
 keep:Keep (d::sb::lb::vl.ownBlock.toList) w wc
 own:∀q,vl1.ownBlock=some q→vl.ownBlock=some q∨w.heap.size≤q
 how:(¬need l₀ n∧l1=l₀∧L1=L∧c1=c)∨(need l₀ n∧c1=c+2∧(∃p,l1=l₀.filter (fun s=> !decide ((s.gen:Int)≤(nextGen l₀:Int)-(segs:Int)))++[⟨p,nextGen l₀,nx,0,nilS,nilS,[]⟩]∧w.heap.size≤p)∧
  L1=(L.set (frm+(nextGen l₀-1) % segs*8) ⟨sgImg (nextGen l₀) nx run 0 [],(L.getD (frm+(nextGen l₀-1) % segs*8) zeroSec).lasts,true⟩).map flushSec)
theorem Ready.last {w wc:World}{B v d sb frm segs l x:Nat}{o:Bool}{y z:Value}{l₀ g:List Sg}{L m:List Sec}{c c1 n:Nat}(h:Ready w wc B v d sb frm segs l x o y z l₀ g L m c c1 n)(D:n≤300)(k:l₀.length≤199)
  (j:∀s∈l₀,0<s.gen∧s.gen+1<281474976710656∧s.base<281474976710656) (q:l<281474976710656) (t:∀s∈l₀,∀r∈s.rs,r.ok) (u:∀s∈l₀,(encRs s.rs).length ≤378∧s.recs.length≤100):
  ∃A s,g=A++[s]∧A.length≤199∧(0<s.gen∧s.gen<281474976710656∧s.base<281474976710656)∧(∀r∈s.rs,r.ok)∧(encRs s.rs).length +n≤370∧s.recs.length≤100:=by
 rcases h.how with⟨e,rfl,rfl,rfl⟩|⟨e,rfl,⟨p,rfl,E⟩,rfl⟩
 ·cases b:g.getLast? with
  |none=>exact absurd (by unfold need;rw[b];trivial) e
  |some s=>
   obtain⟨A,rfl⟩:=EY.1 b;have f:s∈A++[s]:=by simp
   have C:¬(370-(n:Int)<((encRs s.rs).length :Int)):=by have a:=e;unfold need at a;rw[b]at a;exact a
   have i:=j s f;refine⟨A,s,rfl,by simp at k;omega,⟨i.1,by omega,i.2.2⟩,t s f,by omega,(u s f).2⟩
 ·refine⟨_,_,rfl, ?_,⟨?_, ?_,q⟩,by simp[Sg.rs],by simp[Sg.rs,encRs];omega,by simp⟩
  ·exact AJ (D6 _ _) k
  ·unfold nextGen;split<;>simp
  ·show nextGen l₀<281474976710656
   unfold nextGen
   split
   ·decide
   ·rename_i s hh
    exact(j s (GT hh)).2.1
theorem Ready.foot {w wc:World}{B e d sb frm segs r s:Nat}{k:Bool}{g i:Value}{l₀ f:List Sg}{L j:List Sec}{c c1 n:Nat}(h:Ready w wc B e d sb frm segs r s k g i l₀ f L j c c1 n):∀q∈DG e i f,q∈DG e g l₀∨w.heap.size≤q:=by
 intro q a;unfold DG at a⊢;rcases Ac.1 a with rfl|a
 ·exact .inl (by simp)
 ·rcases Ag.1 a with a|a
  ·rcases h.own q (Ae.1 a)with b|b
   ·exact .inl (Ap _ (A2 _ (Ae.2 b)))
   ·exact .inr b
  ·rcases h.how with⟨_,rfl,_⟩|⟨_,_,⟨p,rfl,l⟩,_⟩
   ·exact .inl (Ap _ (AQ _ a))
   ·unfold sgF at a
    rw[Bg]at a;rcases Ag.1 a with a|a
    ·obtain⟨x,o,m⟩:=Bm.1 a
     exact .inl (Ap _ (AQ _ (Bm.2 ⟨x,(List.mem_filter.1 o).1,m⟩)))
    ·simp[Sg.F,Mj,nilS,Value.ownBlock]at a
     subst a;exact .inr l
def Gu (a c base d:Nat)(b:List Nat)(e:Nat)(L:List Sec):Nat→List Sec
 |0=>L
 |k+1=>if e<st0 (k+1)∧st0 k<b.length then(Gu a c base d b e L k).set (a+k) ⟨sgImg c base d k b,((Gu a c base d b e L k).getD (a+k) zeroSec).lasts,true⟩else Gu a c base d b e L k
theorem GD (a c base d:Nat)(b:List Nat)(e:Nat)(L:List Sec):∀k,(Gu a c base d b e L k).length =L.length
 |0=>rfl
 |k+1=>by
  unfold Gu
  split
  ·rw[Bi];exact GD a c base d b e L k
  ·exact GD a c base d b e L k
theorem XJ {w:World}{a:Nat}{X:List Nat}{T:TypeId}(h:Blk w a (Bb X) T)(b:X.length=8):Rd w (.slice (some ⟨a,0,none⟩) 8 8) X:=by refine⟨by simp,some ⟨a,0,none⟩,8,by rw[b],by omega,fun _=>⟨a,0,rfl,h.lt,fun i c=> ?_⟩⟩;rw[h.cell,AP]
theorem Yo {w:World}{B:Nat}{E:TypeId}{v:Value}{l:List Nat}{n:Nat}(h:Buf w B E v l)(a:l.length=n):w.ownsRow B E 1 v n (Bb l):=by subst a;exact h
theorem XV {P:Program}{t:TypeId}{v:Value}{l:List Nat}{n:Nat}{w:World}(h:Src P 1 t v l.length (Bb l) w)(a:l.length=n):Src P 1 t v n (Bb l) w:=by subst a;exact h
theorem Td {w:World}{B:Nat}{E:TypeId}{v:Value}{l m:List Nat}{n k:Nat}(h:w.ownsRow B E 1 v (n+k) (Bb l++Bb m))(b:l.length=n)(a:m.length=k):Buf w B E v (l++m):=by subst b a;unfold Buf;rw[Aj,DW];exact h
theorem Keep.then2 {S S':List Nat}{a b c:World}(h:Keep S a b)(k:Keep S' b c)(d:∀x∈S',x<a.heap.size→x∈S):Keep S a c:=h.then k d
theorem rrow_n {w:World}{B:Nat}{v:Value}{L:List Rc}(h:RRow w B v L):w.ownsRow B 353 2 v L.length (rcCs L):=h.own
theorem TU {p:Nat}{l n m o s:Option Nat}{R r:List Nat}(g v:Nat)
  (A:(r++(p::(l.toList++(n.toList++R)))).Nodup) (k:∀q∈r++(p::(l.toList++(n.toList++R))),q<g) (O:g≤v)
  (x:∀q,m=some q→l=some q∨g≤q) (F:∀q,m=some q→q<v) (y:∀q,o=some q→n=some q∨v≤q) (t:∀q,s=some q→v≤q)
  (G:∀q,o=some q→s=some q→False) (H:∀q,m=some q→o=some q→False):
  (r++(p::(m.toList++(o.toList++(R++s.toList))))).Nodup :=by
 have hF:∀q∈r,q<g:=fun q i=>k q (by simp[i])
 have P:p<g:=k p (by simp);have w:∀q∈R,q<g:=fun q i=>k q (by simp[i])
 have Q:∀q,l=some q→q<g:=fun q i=>k q (by simp[i])
 have S:∀q,n=some q→q<g:=fun q i=>k q (by simp[i])
 rw[BV]at A⊢;obtain⟨L,D,M⟩:=A;rw[List.nodup_cons]at D⊢;obtain⟨u,B⟩:=D;rw[BV]at B⊢;obtain⟨_,C,I⟩:=B;rw[BV]at C⊢;obtain⟨_,J,K⟩:=C;refine⟨L,⟨?_,⟨by cases m<;>simp,⟨by cases o<;>simp, ?_, ?_⟩, ?_⟩⟩, ?_⟩
 ·intro z
  simp only[Ag,Ae]at z u;rcases z with h|h|h|h
  ·rcases x p h with c|c
   ·exact u (.inl c)
   ·omega
  ·rcases y p h with c|c
   ·exact u (.inr (.inl c))
   ·omega
  ·exact u (.inr (.inr h))
  ·have:=t p h;omega
 ·rw[BV]
  refine⟨J,by cases s<;>simp,fun a f b d e=> ?_⟩;subst e;have E:=w a f;have N:=t a (Ae.1 d);omega
 ·intro a f b d e
  subst e;have j:=Ae.1 f;rcases Ag.1 d with h|h
  ·rcases y a j with c|c
   ·exact K a (Ae.2 c) a h rfl
   ·have:=w a h;omega
  ·exact G a j (Ae.1 h)
 ·intro a f b d e
  subst e;have j:=Ae.1 f;simp only[Ag,Ae]at d;rcases d with h|h|h
  ·exact H a j h
  ·rcases x a j with c|c
   ·exact I a (Ae.2 c) a (AQ _ h) rfl
   ·have:=w a h;omega
  ·have:=F a j;have:=t a h;omega
 ·intro a f b d e
  subst e;have E:=hF a f;simp only[Ac,Ag,Ae]at d;have key:a∈p::(l.toList++(n.toList++R))→False:=fun h=>M a f a h rfl
  simp only[Ac,Ag,Ae]at key;rcases d with h|h|h|h|h
  ·exact key (.inl h)
  ·rcases x a h with c|c
   ·exact key (.inr (.inl c))
   ·omega
  ·rcases y a h with c|c
   ·exact key (.inr (.inr (.inl c)))
   ·omega
  ·exact key (.inr (.inr (.inr h)))
  ·have:=t a h;omega
def fl (a:Bool)(L:List Sec):List Sec:=if a=true then L.map flushSec else L
def Sg.add (s:Sg)(b c:Value)(pos:Nat)(body:List Nat)(a:Value):Sg:=⟨s.p,s.gen,s.base,s.run,b,c,s.recs++[⟨(pos,body),a⟩]⟩
def AppOut (w h:World)(B a d sb frm segs b e:Nat)(l:Bool)(f:Value)(l₀:List Sg)(L:List Sec)(c:Nat)(body:List Nat):Prop:=
 ∃wc g A s i c1 m n k j,Ready w wc B a d sb frm segs b e l f g l₀ (A++[s]) L i c c1 body.length∧LogAt h B a d frm segs (b+1) e false g (A++[s.add m n b body k])∧
  IsDev h d sb (fl l (Gu (frm+(s.gen-1) % segs*8) s.gen s.base e (encRs (s.rs++[(b,body)])) (encRs s.rs).length i 8)) j∧j≤c+12∧Keep (d::sb::DG a f l₀) w h∧
  ∀q∈DG a g (A++[s.add m n b body k]),q∈DG a f l₀∨w.heap.size≤q
theorem XQ {o H wr m:World}{B Z d sb frm segs nx aa c:Nat}{S:Bool}{R k l j:Value}{A:List Sg}{s:Sg}{L:List Sec}{I body:List Nat}{nx':Nat}(u:LogAt o B Z d frm segs nx aa S R (A++[s]))(E:IsDev o d sb L c)
  (N:Keep (s.p::s.vb.ownBlock.toList) o H) (P:Keep [d,sb] H wr) (O:Keep (s.p::s.vr.ownBlock.toList) wr m)
  (ao:Blk m Z (lgC d (frm:Int) (segs:Int) R (nx:Int) (aa:Int) S) 333) (ar:Blk m s.p (sgC (s.gen:Int) (s.base:Int) (s.run:Int) k l) 358)
  (U:Buf H B 5 k I) (an:I=encRs (s.rs++[((nx',body):Rcd)])) (X:RRow m B l (s.recs++[⟨(nx',body),j⟩]))
  (K:∀q,k.ownBlock=some q→s.vb.ownBlock=some q∨o.heap.size≤q) (ai:∀q,l.ownBlock=some q→s.vr.ownBlock=some q∨wr.heap.size≤q) (ae:∀q,j.ownBlock=some q→wr.heap.size≤q):
  LogAt m B Z d frm segs nx aa S R (A++[s.add k l nx' body j])∧∀q∈(s.add k l nx' body j).F,q∈s.F∨o.heap.size≤q:=by
 have i:=u.row.ok s (by simp)
 have G:∀ {b:Nat} {T:TypeId},Ty H b T→T≠182→T≠232→b∉ [d,sb]:=by
  have af:IsDev H d sb L c:=E.keep N (fun f=>by
    rcases Ac.1 f with h|h
    ·exact E.dev.ty.ne i.blk.ty (by decide) h
    ·exact E.dev.ty.ne (i.buf.ty' _ (Ae.1 h)) (by decide) rfl) (fun f=>by
    rcases Ac.1 f with h|h
    ·exact E.secs.ty.ne i.blk.ty (by decide) h
    ·exact E.secs.ty.ne (i.buf.ty' _ (Ae.1 h)) (by decide) rfl)
  intro b T ht z C f;simp only[Ac,Am,AG]at f;rcases f with rfl|rfl
  ·exact ht.ne af.dev.ty z rfl
  ·exact ht.ne af.secs.ty C rfl
 have z6:=N.size;have zr:=P.size;have z8:=O.size;have J:=u.nd;unfold sgF at J;rw[Bg,BI,Eb,AE]at J;have aw:=BV.1 J;have ag:=i.nd;unfold Sg.F Mj at ag
 have ad:Own m B 359 R ((A++[s]).map sgPtr):=by
  have D:=u.row.own
  have ac:=D.keep N (fun q a f=>by
   rcases Ac.1 f with h|h
   ·exact(D.ty q a).ne i.blk.ty (by decide) h
   ·exact(D.ty q a).ne (i.buf.ty' _ (Ae.1 h)) (by decide) rfl)
  have ap:=ac.keep P (fun q a=>G (ac.ty q a) (by decide) (by decide));refine ap.keep O (fun q a f=> ?_);rcases Ac.1 f with h|h
  ·subst h
   have Q:=D.ty _ a;exact Q.ne i.blk.ty (by decide) rfl
  ·have Q:=D.ty q a
   have t2:=i.recs.ty q (A2 _ h);rcases t2 with t|t
   ·exact Q.ne t (by decide) rfl
   ·exact Q.ne t (by decide) rfl
 have am:∀x∈A,SgAt m B x:=by
  intro x n;have ax:=u.row.ok x (by simp[n]);have M:∀q∈x.F,∀r∈s.F,q≠r:=fun q a r hr=>aw.2.2 q (Bm.2 ⟨x,n,a⟩) r hr
  have ak:=ax.keep N (fun q a f=>by
   rcases Ac.1 f with h|h
   ·exact M q a s.p (by simp[Sg.F]) h
   ·exact M q a q (by simp only[Sg.F,Ac,Ag];exact .inr (.inl h)) rfl)
  have ay:=ak.keep P (fun q a=>by
   rcases ak.ty q a with t|t|t
   ·exact G t (by decide) (by decide)
   ·exact G t (by decide) (by decide)
   ·exact G t (by decide) (by decide))
  exact ay.keep O (fun q a f=>by
   rcases Ac.1 f with h|h
   ·exact M q a s.p (by simp[Sg.F]) h
   ·exact M q a q (by simp only[Sg.F,Mj,Ac,Ag];exact .inr (.inr (.inl h))) rfl)
 have V:=U.keep P (fun q a=>G (U.ty' q a) (by decide) (by decide))
 have aq:∀q,s.vr.ownBlock=some q→Ty o q 353:=by
  intro q a;rcases i.recs.own.2 with⟨e,_⟩|⟨g,cap,al,e,_,Y,_⟩
  ·rw[e]at a;cases a
  ·rw[e]at a;cases a;exact⟨_,_,Y⟩
 have ab:Buf m B 5 k I:=V.keep O (fun q a f=>by
  have tq:=U.ty' q a;have az:=V.ty' q a;rcases Ac.1 f with h|h
  ·subst h
   have h5:=i.blk.lt;rcases K _ a with w|w
   ·exact(List.nodup_cons.1 ag).1 (A2 _ (Ae.2 w))
   ·omega
  ·have t5:=aq q (Ae.1 h)
   rcases K _ a with w|w
   ·exact t5.ne (i.buf.ty' q w) (by decide) rfl
   ·have:=t5.lt;omega)
 have av:∀q∈A.flatMap Sg.F++s.F,q<o.heap.size:=by intro q a;refine(u.lt q ?_).2;unfold DG sgF;rw[Bg,BI,Eb,AE];exact Ap _ (AQ _ a)
 have aj:∀q,l.ownBlock=some q→Ty m q 353:=by
  intro q a;rcases X.own.2 with⟨e,_⟩|⟨g,cap,al,e,_,Y,_⟩
  ·rw[e]at a;cases a
  ·rw[e]at a;cases a;exact⟨_,_,Y⟩
 have au:∀q,j.ownBlock=some q→Ty m q 5:=fun q a=>(X.ok ⟨(nx',body),j⟩ (by simp)).1.ty' q a
 have ah:(A.flatMap Sg.F++(s.p::(k.ownBlock.toList++(l.ownBlock.toList++(s.recs.flatMap (fun y=>y.v.ownBlock.toList)++j.ownBlock.toList))))).Nodup :=by
  refine TU o.heap.size wr.heap.size J av (by omega) K (fun q a=>(V.lt q a).2) ai ae ?_ ?_
  ·intro q z C
   exact(aj q z).ne (au q C) (by decide) rfl
  ·intro q z C
   exact(aj q C).ne (ab.ty' q z) (by decide) rfl
 have W:(s.add k l nx' body j).F =s.p::(k.ownBlock.toList++(l.ownBlock.toList++(s.recs.flatMap (fun y=>y.v.ownBlock.toList)++j.ownBlock.toList))):=by unfold Sg.F Mj Sg.add;simp
 refine⟨⟨ao,⟨?_, ?_⟩, ?_,u.new⟩, ?_⟩
 ·rw[AL]at ad⊢
  exact ad
 ·intro x n
  rcases Ag.1 n with n|n
  ·exact am x n
  ·simp only[Ac,Am,AG]at n
   subst n;refine⟨ar, ?_,X,i.new, ?_⟩
   ·have e:encRs (s.add k l nx' body j).rs =I:=by rw[an];simp[Sg.add,Sg.rs]
    rw[e];exact ab
   ·rw[W]
    exact(BV.1 ah).2.1
 ·unfold sgF
  rw[Bg,BI,Eb,AE,W];exact ah
 ·intro q a
  rw[W]at a;simp only[Ac,Ag,Ae]at a;simp only[Sg.F,Mj,Ac,Ag,Ae];rcases a with h|h|h|h|h
  ·exact .inl (.inl h)
  ·exact(K q h).imp (fun h=> .inr (.inl h)) id
  ·exact(ai q h).imp (fun h=> .inr (.inr (.inl h))) (fun h=>by omega)
  ·exact .inl (.inr (.inr (.inr h)))
  ·exact .inr (by have:=ae q h;omega)
theorem LogAt.setC {w:World}{B b d frm segs m n nx' run':Nat}{g fr':Bool}{e:Value}{l:List Sg}(h:LogAt w B b d frm segs m n g e l)(k:Nat)(u:Value)(i:Blk (w.setCell ⟨b,k,none⟩ u) b (lgC d (frm:Int) (segs:Int) e (nx':Int) (run':Int) fr') 333):
  LogAt (w.setCell ⟨b,k,none⟩ u) B b d frm segs nx' run' fr' e l:=by
 refine⟨i,h.row.keep ((By [b] w).setCell (p:=⟨b,k,none⟩) (.inl (by simp)) u) (fun q a f=> ?_),h.nd,h.new⟩;simp only[Ah]at f;subst f;have c:=h.blk.ty;rcases Ag.1 a with a|a
 ·exact c.ne (h.row.own.ty _ (Ae.1 a)) (by decide) rfl
 ·obtain⟨s,j,a⟩:=Bm.1 a
  rcases(h.row.ok s j).ty _ a with t|t|t
  ·exact c.ne t (by decide) rfl
  ·exact c.ne t (by decide) rfl
  ·exact c.ne t (by decide) rfl
def appJ15 (p:World)(B a t g bs N n f s:Nat)(u:Int)(e r:Option Addr)(v:Value)(m j body:List Nat)(l:Nat→Bool)(x:Nat→Value)(b:World):Prop:=
 ∃k o h i,(l 11=false→Blk b a (sgC (g:Int) (bs:Int) (u:Int) (.slice e N f) v) 358)∧
 (l 11=true→Blk b a (sgC (g:Int) (bs:Int) (u:Int) (.slice h (N+8+n) i) v) 358)∧
 (l 6=false→Buf b B 5 (.slice e N f) m)∧
 (l 6=true→l 8=false→Buf b B 5 (.slice k (N+8) o) (m++j))∧
 (l 8=true→Buf b B 5 (.slice h (N+8+n) i) (m++j++body))∧
 (Blk b t (Bb j) 360)∧
 (Rd b (.slice r n s) body)∧
 (l 6=true→∀q,(.slice k (N+8) o:Value).ownBlock =some q→(.slice e N f:Value).ownBlock =some q∨p.heap.size≤q)∧
 (l 8=true→∀q,(.slice h (N+8+n) i:Value).ownBlock =some q→(.slice e N f:Value).ownBlock =some q∨p.heap.size≤q)∧
 (l 11=true→l 8=true)∧
 (l 8=true→l 6=true)∧
 (l 6=true→l 4=true)∧
 (Keep (a::(.slice e N f:Value).ownBlock.toList) p b)∧
 (l 8=true→x 8=.slice h (N+8+n) i)∧
 SlV l x 0 [some (pr a 0),some (pr a 0),some (pr a 0),some (pr a 3),some (.slice e N f),some (.slice (some ⟨t,0,none⟩) 8 8),some (.slice k (N+8) o),some (.slice r n s),none,some (pr a 0),some (pr a 3),none]
def appJ24 (o:World)(B b lb g bs n a nx j t:Nat)(u:Int)(i s:Option Addr)(v:Value)(r:List Rc)(body:List Nat)(l:Nat→Bool)(x:Nat→Value)(e:World):Prop:=
 ∃f h k m p,(l 16=false→Blk e b (sgC (g:Int) (bs:Int) (u:Int) v (.slice i a j)) 358)∧
 (l 16=true→Blk e b (sgC (g:Int) (bs:Int) (u:Int) v (.slice k (a+1) m)) 358)∧
 (e.cell? ⟨lb,4,none⟩=some (.int .i64 (nx:Int)))∧
 (Rd e (.slice s n t) body)∧
 (l 13=false→RRow e B (.slice i a j) r)∧
 (l 13=true→RRow e B (.slice k (a+1) m) (r++[⟨(nx,body),.slice f n h⟩]))∧
 (l 13=true→∀q,(.slice k (a+1) m:Value).ownBlock =some q→(.slice i a j:Value).ownBlock =some q∨o.heap.size≤q)∧
 (l 10=true→∀q,(.slice f n h:Value).ownBlock =some q→o.heap.size≤q)∧
 (l 16=true→l 13=true)∧
 (l 13=true→l 4=true∧l 10=true)∧
 (Keep (b::(.slice i a j:Value).ownBlock.toList) o e)∧
 (l 10=true→x 10=.slice f n h∧(l 13=false→Buf e o.heap.size 5 (.slice f n h) body))∧
 (l 11=true→x 11=.agg #[.int .i64 (nx:Int),.slice f n h]∧Hid (l 10=true))∧
 (l 12=true→x 12=.slice (some ⟨p,0,none⟩) 1 1∧(l 13=false→Blk e p [.int .i64 (nx:Int),.slice f n h] 353)∧Hid (l 10=true))∧
 SlV l x 0 [some (pr b 0),some (pr b 0),some (pr b 0),some (pr b 4),some (.slice i a j),some (pr lb 0),some (pr lb 0),some (pr lb 4),some (.int .i64 (nx:Int)),some (.slice s n t),none,none,none,some (.slice k (a+1) m),some (pr b 0),some (pr b 4),none]
def appJ28 (f:World)(lb d sb frm segs nx run e:Nat)(vl:Value)(b:List Sec)(l:Nat→Bool)(x:Nat→Value)(a:World):Prop:=
 (Blk a lb (lgC d (frm:Int) (segs:Int) vl (((nx+1:Nat):Nat):Int) (run:Int) false) 333)∧
 (l 9=false→IsDev a d sb b e)∧
 (l 9=true→IsDev a d sb (b.map flushSec) (e+1))∧
 (Keep [d,sb] f a)∧
 SlV l x 0 [some (pr lb 0),some (pr lb 0),some (pr lb 4),some (.int .i64 (((nx+1:Nat):Nat):Int)),some (.int .i64 (nx:Int)),some (pr lb 0),some (pr lb 0),some (pr lb 0),some (pr d 0),some (.int .i64 0),some (.int .i64 (nx:Int)),some (.int .i64 0)]
section
variable {w:World} {B lb d sb c frm segs nx run:Nat} {fr:Bool} {vl bv:Value} {l₀:List Sg} {L:List Sec} {body:List Nat}
theorem Sh (h:LogAt w B lb d frm segs nx run fr vl l₀)(v:IsDev w d sb L c)(hc:c+20<1099511627776)(J:l₀.length≤199)(hg:∀s∈l₀,0<s.gen∧s.gen+1<281474976710656∧s.base<281474976710656)(gh:nx+1<281474976710656)(gl:run<4294967296)
  (cy:0<segs∧segs≤200) (ga:frm≤100000) (ak:frm+segs*8≤L.length) (gi:∀s∈l₀,∀r∈s.rs,r.ok) (gj:∀s∈l₀,(encRs s.rs).length ≤378∧s.recs.length≤100)
  (P:Rd w bv body) (dr:1≤body.length∧body.length≤300) (f5:∀c∈body,c<256) (f6:∀q,bv.ownBlock=some q→q∉d::sb::DG lb vl l₀):
  Calls Tryz.prog 216 #[pr lb 0,bv] w fun e z=>e=.returned (.tuple #[.int .i64 (nx:Int),.int .i64 0])∧AppOut w z B lb d sb frm segs nx run fr vl l₀ L c body:=by
 obtain⟨_,ba,bb,iw,_⟩:=id P;subst iw;obtain⟨H,HD,HC,HL,de,az,fh,dk,e0⟩:=i_9 h v hc J hg gh gl cy ga;obtain⟨fd,ff,d1,HB,ey,g7,bm⟩:=i_7 ak gi gj P dr f5 f6;obtain⟨a,cap,i3⟩:=h.slice;subst i3;obtain⟨i8,gc,gt,gu,gv⟩:=AU In;obtain⟨iR,iy,i4,i5,i6⟩:=AU YF;have k3:=Hk h.blk;have q1:decide ((body.length:Int)<1)=false:=Ak (by omega);have jp:decide (body.length<1)=false:=Ak (by omega);have q2:decide ((body.length:Int)>300)=false:=Ak (by omega);have jq:decide (300<body.length)=false:=Ak (by omega);have q3:¬body.length<1:=by omega
 have q4:¬300<body.length:=by omega
 have ir:1≤body.length:=dr.1;have f3:body.length≤300:=dr.2;clear h v hc hg gh gl cy ga ak gi gj P dr f5 f6;go_enter Tryz.func216,Tryz.ntmps216;go_upto_region 6 with fail
 obtain⟨nb,gg⟩:∃b:Bool,(b=true↔need l₀ body.length):=by
  by_cases hh:need l₀ body.length
  ·exact⟨true,by simp[hh]⟩
  ·exact⟨false,by simp[hh]⟩
 have ai:=h_ gg;clear gg;go_cut [49] (fun s wc=>s=.bool nb∧w=wc)
 case first=>
  by_cases cx:l₀=[]
  ·have hz:l₀.length=0:=by rw[cx];rfl
   have i0:nb=true:=ai.out.2 (by rw[cx];trivial);subst i0;have q0:((l₀.length:Int)==0)=true:=by rw[hz];rfl
   clear cx hz k3;go_wp2_with fail;go_meet;exact⟨rfl,rfl⟩
  ·have jk:0<l₀.length:=Cs.2 cx
   obtain⟨s,cz⟩:∃s,l₀[l₀.length-1]?=some s:=⟨_,Ad (by omega)⟩;have gb:l₀.getLast?=some s:=by rw[Ci];exact cz
   have eo:need l₀ body.length↔370-(body.length:Int)<((encRs s.rs).length :Int):=by unfold need;rw[gb]
   obtain⟨la,jg,E,c0⟩:=H.out.seg_at _ s cz;injection E with E au hv3;subst E hv3;have ep:=H.out.row.ok s (Aq cz);have c3:=Hv ep.blk;obtain⟨va,bl,av⟩:=ep.buf.slice;rw[av]at c3;have q0:((l₀.length:Int)==0)=false:=by simp;omega
   have jn:(l₀.length==0)=false:=by simp;omega
   have jo:¬l₀.length=0:=by omega
   have f:nb=decide (370-(body.length:Int)<((encRs s.rs).length :Int)):=by
    cases nb with
    |true=>exact(An (eo.1 (ai.out.1 rfl))).symm
    |false=>exact(Ak (fun h=>Bool.noConfusion (ai.out.2 (eo.2 h)))).symm
   have i2:=(d1.out s (Aq cz)).1;have HQ:=h_ f;obtain⟨N,hN⟩:∃N,N=(encRs s.rs).length :=⟨_,rfl⟩;rw[←hN]at c3 i2 HQ;have h0:Hid (decide ((N:Int)>370-(body.length:Int))=nb):=h_ HQ.out.symm;clear au cz gb eo ep av f hN cx;go_wp2_with fail;go_meet;exact⟨A3 Value.bool h0.out,rfl⟩
 case rest=>
 obtain⟨rfl,rfl⟩:=hcut;go_upto_if 49 with fail;go_cut [] (fun wc=>∃gz l1 L1 c1,Ready w wc B lb d sb frm segs nx run fr (.slice a l₀.length cap) gz l₀ l1 L L1 c c1 body.length)
 case first=>
  have g8:=h_ (@R7 w B lb d sb c frm segs nx run fr (.slice a l₀.length cap) l₀ L H.out HD.out (by have:=HC.out;omega) (by have:=HL.out;omega) (fun s hs=>⟨(de.out s hs).1,(de.out s hs).2.1⟩) (by have:=az.out;omega) fh.out dk.out e0.out _ rfl (by have o:=fd.out;have h2:(nextGen l₀-1) % segs<segs:=C1 _ dk.out.1;omega))
  clear k3
  cases nb with
  |true=>have d0:=h_ (ai.out.1 rfl);go_wp2_with fail;refine g8.out.mono ?_;rintro e K ⟨p,jb,rfl,hA,bj,cq,hp,f⟩;obtain⟨HA,dd,bf,HP,HQ⟩:=i_5 hA bj cq hp f;clear hA bj cq hp f;go_wp2_with fail;go_meet;exact⟨jb,_,_,_,HA.out,dd.out,bf.out,HQ.out,.inr ⟨d0.out,rfl,⟨p,rfl,HP.out⟩,rfl⟩⟩
  |false=>have d0:=h_ (fun h=>Bool.noConfusion (ai.out.2 h):¬need l₀ body.length);go_wp2_with fail;go_meet;exact⟨_,l₀,L,c,H.out,HD.out,By _ _,fun q f=> .inl f,.inl ⟨d0.out,rfl,rfl,rfl⟩⟩
 case rest=>
 obtain⟨gz,l1,L1,c1,hR⟩:=hcut;obtain⟨A,s,iz,il,cy,gn,gp,gm⟩:=hR.last ey.out.2 HL.out de.out (by have:=az.out;omega) ff.out d1.out;subst iz;have gd:(A++[s]).length =A.length+1:=by simp
 obtain⟨la,bh,E,c0⟩:=hR.at_.seg_at A.length s (by simp);rw[gd]at E;subst E;have k3:=Hk hR.at_.blk;obtain⟨V,d2,h9,ib,h7⟩:=i_5 hR cy gn gp gm;clear hR cy gn gp gm gd ai ff d1 de;have jh:=il;go_upto_region 10 with fail
 go_quiet (fail)
 have fk:=V.out.at_.keep (Ek (By [] wc) nq) (by simp);have bj:=V.out.dev.keep (Ek (By [] wc) nq) (by simp) (by simp);have cq:=Ek V.out.keep nq;generalize wc.drewN nq=K at*;obtain⟨bf,db,dd⟩:=i_3 cq fk bj;clear fk bj cq c0 k3;go_upto_region 12 with fail;have ej:=BY K (Bb ([]++([0,0]++[0,0,0,0,0,0]))) 360;have KH:=(By [] K).alloc (.cells (Bb ([]++([0,0]++[0,0,0,0,0,0]))).toArray 360);rw[show(#[.int .u8 0,.int .u8 0,.int .u8 0,.int .u8 0,.int .u8 0,.int .u8 0,.int .u8 0,.int .u8 0]:Array Value)=(Bb ([]++([0,0]++[0,0,0,0,0,0]))).toArray from rfl];obtain⟨P,el⟩:∃P,P=K.heap.size:=⟨_,rfl⟩;rw[←el]at ej⊢;have cl:=h_ el;generalize K.alloc (.cells (Bb ([]++([0,0]++[0,0,0,0,0,0]))).toArray 360)=w3 at*;obtain⟨dw,ex⟩:=i_2 KH ej;clear el ej KH;go_wp2_with fail;refine(Jo [] [0,0] [0,0,0,0,0,0] 0 2 8 body.length ex.out rfl rfl (by have:=ey.out.2;omega) (by decide) (by simp)).mono ?_;rintro e w4 ⟨rfl,cs,eu⟩;have ew:=h_ cs;have dt:=h_ ((db.out.still dw.out).keep eu (fun q f=>by have:=(db.out.lt q f).2;have:=cl.out;simp;omega));have e5:Hid (Keep [] K w4):=h_ (dw.out.then eu (by intro x hx ak;simp at hx;have:=cl.out;omega));have G:=PA dt.out.blk;clear cs eu ex dw;go_upto_region 13 with fail;refine BJ 6 (by kernel_rfl) (by kernel_rfl) ?_;simp only[List.take_succ_cons,List.take_zero,BB,Bj]
 repeat still_step
 refine Du ?_;go_wp2_with fail;rw[show IntKind.u64.wrap (nx:Int)=(nx:Int) by rw[Dy];have:=az.out;omega]
 have cs:Blk w4.drew P (Bb (be 2 body.length++([0,0,0,0,0,0]++[]))) 360:=by have:=ew.out.drew;simp only[List.nil_append,AE]at this⊢;exact this
 refine(Jo (be 2 body.length) [0,0,0,0,0,0] [] 2 6 6 nx cs (by simp) rfl (by have:=az.out;omega) (by decide) (by simp)).mono ?_;rintro e w5 ⟨rfl,ei,gx⟩;obtain⟨bp,dn⟩:∃H,H=be 2 body.length++be 6 nx:=⟨_,rfl⟩;rw[AE,←dn]at ei;have di:Hid (bp.length=8):=h_ (by rw[dn];simp);have ho:=h_ dn;have d7:Keep [P] w4 w5:=((By [P] w4).drew).trans gx
 have bd:=h_ (dt.out.keep d7 (fun q f=>by have o:=db.out.lt q f;have h2:=cl.out;simp;omega))
 have bg:Hid (Keep [] K w5):=h_ (e5.out.then d7 (by intro x hx ak;simp at hx;have:=cl.out;omega));have g6:=h_ ei;clear cs dn gx d7 G ei ew dt e5;have ar:=bd.out.row.ok s (by simp);obtain⟨va,bl,av⟩:=ar.buf.slice;have c3:=Hv ar.blk;rw[av]at c3;obtain⟨N,hN⟩:∃N,N=(encRs s.rs).length :=⟨_,rfl⟩;rw[←hN]at c3 av;have cf:=ar.blk;have cb:=ar.buf;rw[av]at cf cb;have dl:=h_ av;have ai:Hid ((encRs s.rs).length =N):=h_ hN.symm;have dz:Hid ((encRs s.rs++bp).length =N+8):=h_ (by rw[Aj,di.out,hN]);have jd:Hid (body.length=body.length):=h_ rfl;have bt:Hid (N+body.length≤370):=h_ (by rw[hN];exact ib.out);have ft:=g6.out
 have f1:Rd w5 (.slice ba body.length bb) body:=by
  have o:=HB.out.keep0 bf.out (fun q f _ g=>bm.out q f (by
   simp only[Ac]at g⊢;rcases g with rfl|rfl|rfl|g
   ·exact .inl rfl
   ·exact .inr (.inl rfl)
   ·exact .inr (.inr (by simp[DG]))
   ·exact .inr (.inr (Ap _ (A2 _ g)))))
  exact o.keep0 bg.out (by simp)
 have bn:Hid (B≤w5.heap.size):=h_ (by have o:=bd.out.lt lb (by simp[DG]);omega);have ek:∀q,(Value.slice ba body.length bb).ownBlock =some q→q<w.heap.size:=fun q f=>HB.out.lo q f (by omega)
 have cj:Hid (∀q,(Value.slice ba body.length bb).ownBlock =some q→q∉(Value.slice va N bl).ownBlock.toList ∧q<w5.heap.size):=h_ (fun q f=>⟨fun g=>by
   have cv:q∈DG lb (.slice (some ⟨la,0,none⟩) (A.length+1) bh) (A++[s]):=by simp only[DG,Ac,Ag];refine .inr (.inr (Bm.2 ⟨s,by simp, ?_⟩));unfold Sg.F;rw[av];exact Ap _ (A2 _ g)
   rcases V.out.foot q cv with o|o
   ·exact bm.out q f (Ap _ (Ap _ o))
   ·have:=ek q f;omega,by have o:=ek q f;have h2:=bf.out.size;have h3:=bg.out.size;omega⟩)
 have du:Hid (∀q,(Value.slice ba body.length bb).ownBlock =some q→q≠s.p):=h_ (fun q f he=>by
   have cv:q∈DG lb (.slice (some ⟨la,0,none⟩) (A.length+1) bh) (A++[s]):=by simp only[DG,Ac,Ag];refine .inr (.inr (Bm.2 ⟨s,by simp, ?_⟩));simp[Sg.F,he]
   rcases V.out.foot q cv with o|o
   ·exact bm.out q f (Ap _ (Ap _ o))
   ·have:=ek q f;omega)
 have ia:Hid (P≠s.p):=h_ (by have o:=(db.out.lt s.p (by simp only[DG,Ac,Ag];exact .inr (.inr (Bm.2 ⟨s,by simp,by simp[Sg.F]⟩)))).2;have h2:=cl.out;omega)
 have im:=bt.out;clear av hN ar;go_upto_region 15 with fail;clear im;refine wI (appJ15 w5 B s.p P s.gen s.base N body.length bl bb s.run va ba s.vr (encRs s.rs) bp body) ?aS (.s ?a0<|.s ?a1<|.s ?a2<|.s ?a3<|.s ?a4<|.s ?a5<|.s ?a6<|.s ?a7<|.s ?a8<|.s ?a9<|.s ?a10<|.s ?a11<|.n) 12 ?aF
 case aS=>intro x;exact⟨none,0,none,0,fun _=>cf.drew,fun h=>absurd h (by decide),fun _=>cb.keep (By [] _).drew (by simp),fun h=>absurd h (by decide),fun h=>absurd h (by decide),ft.drew,f1.keep0 (By [] _).drew (by simp),fun h=>absurd h (by decide),fun h=>absurd h (by decide),fun h=>absurd h (by decide),fun h=>absurd h (by decide),fun h=>absurd h (by decide),(By _ _).drew,fun h=>absurd h (by decide),Yr⟩
 case a11=>
  intro l x z D u v;obtain⟨a1,am,a2,aa,m,I,bz,ca,ac,hH,y,bc,au,ap,d8,d6,i,h8,vS⟩:=D;have e8:=h8 (v.at rfl);have bw:=vS.a 10 (v.at rfl) rfl;have ah:Hid (l 8=true):=h_ (v.at rfl);have c0:=Hv (m u);have f0:=(m u).free 3;refine Oq.of (b:= ?bA11) ?eA11 ?_
  case eA11=>simp only[Al,Act.put,A8,A7,A6,e8,bw];rfl
  intro K' C;go_simp;have j:Keep [s.p] z _:=((By [s.p] z).setCell (p:=⟨s.p,3,none⟩) (.inl (by simp)) (.slice a2 (N+8+body.length) aa));have ef:=(m u).set 3 (.slice a2 (N+8+body.length) aa);have an:=(m u).ty;exact C.go undef rfl ⟨a1,am,a2,aa,fun h=>Bool.noConfusion (show true=false from h),fun _=>ef,fun h=>absurd (h.symm.trans (d8 ah.out)) (by decide),fun _ h=>absurd (h.symm.trans ah.out) (by decide),fun h=>(ac h).keep j (fun q f g=>by simp only[Ah]at g;subst g;exact((ac h).ty' _ f).ne an (by decide) rfl),hH.keep j (by simp;exact ia.out),y.keep0 j (fun q f _ g=>by simp only[Ah]at g;subst g;exact du.out _ f rfl),bc,au,fun _=>ah.out,d8,d6,i.trans (j.mono (by simp)),h8,vS.s rfl⟩
 case aF=>
  intro l x w3 D J;obtain⟨a1,am,a2,aa,m,I,bz,ca,ac,hH,y,bc,au,ap,d8,d6,i,h8,vS⟩:=D;have fy:=I (J 11 (by decide));have ea:=ac (J 8 (by decide));have gq:=au (J 8 (by decide));simp only[Al,Act.put,A8,A7,A6];simp only[AP,Nat.reduceAdd];obtain⟨fi,ic,bq⟩:=i_3 fy gq i;obtain⟨B2,cp⟩:∃X,X=encRs s.rs++bp++body:=⟨_,rfl⟩;rw[←cp]at ea;obtain⟨jc,dc⟩:=i_2 cp ea;have bs:Hid (B2.length=N+8+body.length):=h_ (by rw[cp,Aj,dz.out]);have dj:Hid (B2=encRs (s.rs++[((nx,body):Rcd)])):=h_ (by rw[cp,Hn,ho.out];simp[J5]);have h5:Hid (Rcd.ok (nx,body)):=h_ ⟨ir,f3,by have:=az.out;omega,g7.out⟩
  have g1:Hid (∀c∈B2,c<256):=h_ (by
   rw[dj.out];refine Ho _ (fun r hr=> ?_);rcases Ag.1 hr with hr|hr
   ·exact h9.out r hr
   ·simp only[Ac,Am,AG]at hr
    subst hr;exact h5.out)
  have fm:IsDev w3 d sb L1 c1:=by
   have cu:=dd.out.keep bg.out (by simp) (by simp);refine cu.keep i (fun g=> ?_) (fun g=> ?_)
   ·rcases Ac.1 g with h|h
    ·exact cu.dev.ty.ne cf.ty (by decide) h
    ·exact cu.dev.ty.ne (cb.ty' _ (Ae.1 h)) (by decide) rfl
   ·rcases Ac.1 g with h|h
    ·exact cu.secs.ty.ne cf.ty (by decide) h
    ·exact cu.secs.ty.ne (cb.ty' _ (Ae.1 h)) (by decide) rfl
  have fv:Blk w3 lb (lgC d (frm:Int) (segs:Int) (.slice (some ⟨la,0,none⟩) (A.length+1) bh) (nx:Int) (run:Int) fr) 333:=bd.out.blk.keep i (fun g=>by
   rcases Ac.1 g with h|h
   ·exact bd.out.blk.ty.ne cf.ty (by decide) h
   ·exact bd.out.blk.ty.ne (cb.ty' _ (Ae.1 h)) (by decide) rfl)
  have e9:=h_ fv
  have cm:Hid (L1.length=L.length∧c1≤c+2):=h_ (by
   rcases V.out.how with⟨_,_,rfl,rfl⟩|⟨_,rfl,_,rfl⟩
   ·exact⟨rfl,by omega⟩
   ·refine⟨by simp,by omega⟩)
  clear h8 m I bz ca ac hH y bc au ap d8 d6 J i fy ea gq cp fv cf cb ft f1 c3 vS;generalize w3=w6 at*;have ck:=h_ fm;clear fm;go_wp2
  go_loopw [95] (fun ja wr=>∃(k cc:Nat),ja=.int .i64 (k:Int)∧k≤8∧cc≤c1+k∧IsDev wr d sb (Gu (frm+(s.gen-1) % segs*8) s.gen s.base run B2 N L1 k) cc∧Keep [d,sb] w6 wr) (fun x _=>9-(intOf x).toNat)
  case atStart=>exact⟨0,c1,rfl,by omega,by omega,ck.out,By _ _⟩
  case round=>
  obtain⟨k,cc,rfl,ji,ds,fq,cr⟩:=hrel
  have aq:∀ {b:Nat} {T:TypeId},Ty w6 b T→T≠182→T≠232→b∉ [d,sb]:=by
   intro b T ht o h2 g;simp only[Ac,Am,AG]at g;rcases g with rfl|rfl
   ·exact ht.ne ck.out.dev.ty o rfl
   ·exact ht.ne ck.out.secs.ty h2 rfl
  have eh:=fi.out.keep cr (aq fi.out.ty (by decide) (by decide));have fl:=dc.out.keep cr (fun q f=>aq (dc.out.ty' q f) (by decide) (by decide));have fw:=e9.out.keep cr (aq e9.out.ty (by decide) (by decide));have c3:=Hv eh;obtain⟨bu,hd,cn,al,ao⟩:=i_5 eh fl fw fq cr;have ig:Hid (∀q,(Value.slice a2 (N+8+body.length) aa).ownBlock =some q→q∉ [d,sb]):=h_ (fun q f=>aq (dc.out.ty' q f) (by decide) (by decide));clear eh fl fw fq cr aq;by_cases hk:k<8
  ·have q5:decide ((k:Int)<8)=true:=An (by omega)
   have br:=h_ hk;have jm:st0 (k+1)≤400:=by unfold st0;omega
   have jl:st0 k≤400:=by unfold st0;omega
   have HW:Hid (IntKind.i64.wrap ((k:Int)+1)=(k:Int)+1):=h_ (by rw[A9];omega);have d4:Hid (∀W:World,Calls Tryz.prog 253 #[.int .i64 ((k:Int)+1)] W fun e z=>e=.returned (.int .i64 (st0 (k+1):Int))∧z=W):=h_ (fun W=>(show Calls Tryz.prog 253 #[.int .i64 ((k+1:Nat):Int)] W _ from(I6 (k+1) (by omega) _ rfl).mono (fun e z ⟨a,b⟩=>⟨a,b.symm⟩)));have d3:Hid (∀W:World,Calls Tryz.prog 253 #[.int .i64 (k:Int)] W fun e z=>e=.returned (.int .i64 (st0 k:Int))∧z=W):=h_ (fun W=>(I6 k (by omega) _ rfl).mono (fun e z ⟨a,b⟩=>⟨a,b.symm⟩));by_cases hw:N<st0 (k+1)∧st0 k<B2.length
   ·have q6:decide ((st0 (k+1):Int)>(N:Int))=true:=An (by omega)
    have q7:decide ((st0 k:Int)<((N+8+body.length:Nat):Int))=true:=An (by have:=bs.out;omega);have gy:decide (N<st0 (k+1))=true:=An (by omega);have i9:decide (st0 k<N+8+body.length)=true:=An (by have:=bs.out;omega);have q8:decide ((st0 k:Int)<(N:Int)+8+(body.length:Int))=true:=An (by have:=bs.out;omega);have io:(st0 k:Int)<(N:Int)+8+(body.length:Int):=by have:=bs.out;omega
    have ih:=h_ hw;clear hw;go_upto_region 19 with fail
    go_quiet ((go_at_call 253;first|exact Calls.quiet_of_same (d4.out _)|exact Calls.quiet_of_same (d3.out _)))
    have KQ:=Ek (By [] wr) nq;have ag:=h_ KQ;generalize wr.drewN nq=wq at*;clear KQ c3;go_wp2_with fail
    refine(Lz (al.out.keep ag.out (by simp) (by simp)) (by have:=HC.out;have:=cm.out;omega) frm segs _ (nx:Int) run fr (cn.out.keep ag.out (by simp)) s.gen s.base s.run _ s.vr B2 (bu.out.keep ag.out (by simp)) (hd.out.keep ag.out (by simp)).rd g1.out (by have:=bs.out;have:=bt.out;omega) k br.out ⟨d2.out.2.1,d2.out.2.2,fh.out⟩ d2.out.1 dk.out e0.out (frm+(s.gen-1) % segs*8+k) rfl (by rw[GD];have o:=fd.out;have h2:(s.gen-1) % segs<segs:=C1 _ dk.out.1;have h3:=cm.out.1;have h4:=br.out;omega) (fun q f _=>ig.out q f)).mono ?_
    rintro e w7 ⟨rfl,fn,k7⟩;obtain⟨hj,hq⟩:=i_2 fn k7;clear fn k7;go_wp2
    go_roundw
    case rel=>refine⟨k+1,cc+1,by go_num,by omega,by omega, ?_,ao.out.trans ((ag.out.mono (by simp)).trans hq.out)⟩;show IsDev w7 d sb (if _ then _ else _) _;rw[Ay ih.out];exact hj.out
    case measure=>simp only[intOf];omega
   ·have et:Gu (frm+(s.gen-1) % segs*8) s.gen s.base run B2 N L1 (k+1)=Gu (frm+(s.gen-1) % segs*8) s.gen s.base run B2 N L1 k:=by
     show(if _ then _ else _)=_;rw[Aw hw]
    have fj:=h_ et;have gf:=bs.out;by_cases gs:N<st0 (k+1)
    ·have q6:decide ((st0 (k+1):Int)>(N:Int))=true:=An (by omega)
     have q7:decide ((st0 k:Int)<((N+8+body.length:Nat):Int))=false:=Ak (by omega);have gy:decide (N<st0 (k+1))=true:=An (by omega);have i9:decide (st0 k<N+8+body.length)=false:=Ak (by omega);have q8:decide ((st0 k:Int)<(N:Int)+8+(body.length:Int))=false:=Ak (by omega);have io:¬(st0 k:Int)<(N:Int)+8+(body.length:Int):=by omega
     clear hw gs gf et;go_upto_region 19 with fail
     go_quiet ((go_at_call 253;first|exact Calls.quiet_of_same (d4.out _)|exact Calls.quiet_of_same (d3.out _)))
     have KQ:=Ek (By [] wr) nq;have ag:=h_ KQ;generalize wr.drewN nq=wq at*;clear KQ c3;go_wp2
     go_roundw
     case rel=>refine⟨k+1,cc,by go_num,by omega,by omega, ?_,ao.out.trans (ag.out.mono (by simp))⟩;rw[fj.out];exact al.out.keep ag.out (by simp) (by simp)
     case measure=>simp only[intOf];omega
    ·have q6:decide ((st0 (k+1):Int)>(N:Int))=false:=Ak (by omega)
     have gy:decide (N<st0 (k+1))=false:=Ak (by omega);clear hw gs gf et;go_upto_region 19 with fail
     go_quiet ((go_at_call 253;first|exact Calls.quiet_of_same (d4.out _)|exact Calls.quiet_of_same (d3.out _)))
     have KQ:=Ek (By [] wr) nq;have ag:=h_ KQ;generalize wr.drewN nq=wq at*;clear KQ c3;go_wp2
     go_roundw
     case rel=>refine⟨k+1,cc,by go_num,by omega,by omega, ?_,ao.out.trans (ag.out.mono (by simp))⟩;rw[fj.out];exact al.out.keep ag.out (by simp) (by simp)
     case measure=>simp only[intOf];omega
  ·obtain rfl:k=8:=by omega
   have q5:decide (((8:Nat):Int)<8)=false:=by simp
   have jr:decide ((8:Int)<8)=false:=by simp
   have g9:Hid (body.length≤300):=h_ f3;have je:Hid (body.length=body.length∧True):=h_ ⟨rfl,trivial⟩;have jf:Hid (s.recs.length=s.recs.length∧True):=h_ ⟨rfl,trivial⟩;have fe:Hid (s.recs.length≤100):=h_ h7.out;have hb:=bn;have bn:Hid (B≤wr.heap.size):=h_ (by have o:=hb.out;have h2:=bq.out.size;have h3:=ao.out.size;omega);have fb:Hid (lb≠s.p):=h_ (cn.out.ty.ne bu.out.ty (by decide))
   have aq:∀ {b:Nat} {T:TypeId},Ty w6 b T→T≠182→T≠232→b∉ [d,sb]:=by
    intro b T ht o h2 g;simp only[Ac,Am,AG]at g;rcases g with rfl|rfl
    ·exact ht.ne ck.out.dev.ty o rfl
    ·exact ht.ne ck.out.secs.ty h2 rfl
   have ar:=bd.out.row.ok s (by simp);have cw:=ar.nd;unfold Sg.F at cw;rw[dl.out,List.nodup_cons,BV]at cw
   have ed:RRow w6 B s.vr s.recs:=ar.recs.keep bq.out (fun q f g=>by
    rcases Ac.1 g with h|h
    ·subst h;exact cw.1 (AQ _ f)
    ·exact cw.2.2.2 q h q f rfl)
   have ce:RRow wr B s.vr s.recs:=ed.keep ao.out (fun q f=>by
    rcases ed.ty q f with h|h
    ·exact aq h (by decide) (by decide)
    ·exact aq h (by decide) (by decide))
   have f2:Rd wr (.slice ba body.length bb) body:=by
    have o:=HB.out.keep0 bf.out (fun q f _ g=>bm.out q f (by
     simp only[Ac]at g⊢;rcases g with rfl|rfl|rfl|g
     ·exact .inl rfl
     ·exact .inr (.inl rfl)
     ·exact .inr (.inr (by simp[DG]))
     ·exact .inr (.inr (Ap _ (A2 _ g)))))
    have h2:=o.keep0 bg.out (by simp)
    have h3:=h2.keep0 bq.out (fun q f _ g=>by
     rcases Ac.1 g with h|h
     ·exact du.out q f h
     ·exact(cj.out q f).1 h)
    exact h3.keep0 ao.out (fun q f _ g=>bm.out q f (by
     simp only[Ac,Am,AG]at g⊢;rcases g with rfl|rfl
     ·exact .inl rfl
     ·exact .inr (.inl rfl)))
   clear ed ar cw aq;have G:=PA cn.out;have c4:=IL bu.out;obtain⟨ra,da,ci⟩:=ce.slice;rw[ci]at c4
   have fa:Hid (lb∉(Value.slice ra s.recs.length da).ownBlock.toList):=h_ (by rw[←ci];exact ce.rty cn.out.ty (by decide))
   have ha:Hid (∀q,(Value.slice ba body.length bb).ownBlock =some q→q∉(Value.slice ra s.recs.length da).ownBlock.toList ∧q<wr.heap.size):=h_ (fun q f=>⟨fun g=>by
    have cv:q∈DG lb (.slice (some ⟨la,0,none⟩) (A.length+1) bh) (A++[s]):=by simp only[DG,Ac,Ag];refine .inr (.inr (Bm.2 ⟨s,by simp, ?_⟩));unfold Sg.F Mj;rw[ci];exact Ap _ (AQ _ (A2 _ g))
    rcases V.out.foot q cv with o|o
    ·exact bm.out q f (Ap _ (Ap _ o))
    ·have:=HB.out.lo q f (by omega);omega,by have o:=(cj.out q f).2;have h2:=bq.out.size;have h3:=ao.out.size;omega⟩)
   have eg:=bu.out;rw[ci]at eg ce;have d5:=h_ ci;clear c3 ci;go_upto_region 24 with fail;refine wI (appJ24 wr B s.p lb s.gen s.base body.length s.recs.length nx da bb s.run ra ba (.slice a2 (N+8+body.length) aa) s.recs body) ?bS (.s ?b0<|.s ?b1<|.s ?b2<|.s ?b3<|.s ?b4<|.s ?b5<|.s ?b6<|.s ?b7<|.s ?b8<|.s ?b9<|.s ?b10<|.s ?b11<|.s ?b12<|.s ?b13<|.s ?b14<|.s ?b15<|.s ?b16<|.n) 17 ?bF
   case bS=>intro x;exact⟨none,0,none,0,0,fun _=>eg.drew,fun h=>absurd h (by decide),G,f2.keep0 (By [] _).drew (by simp),fun _=>ce.still (By [] _).drew,fun h=>absurd h (by decide),fun h=>absurd h (by decide),fun h=>absurd h (by decide),fun h=>absurd h (by decide),fun h=>absurd h (by decide),(By _ _).drew,fun h=>absurd h (by decide),fun h=>absurd h (by decide),fun h=>absurd h (by decide),Yr⟩
   case b11=>
    intro l x z D u v;obtain⟨M,O,S,U,af,m,I,G,y,aj,ad,E,ae,Z,Y,i,Q,ab,R,vS⟩:=D;have e8:=vS.a 8 (v.at rfl) rfl;have bw:=Q (v.at rfl);have df:Hid (l 10=true):=h_ (v.at rfl);refine Oq.of (b:= ?bB11) ?eB11 ?_
    case eB11=>simp only[Al,Act.put,A8,A7,A6,e8,bw.1];rfl
    intro K' C;go_simp;exact C.go _ rfl ⟨M,O,S,U,af,m,I,G,y,aj,ad,E,ae,Z,Y,i,Q,fun _=>⟨rfl,df⟩,R,vS.s rfl⟩
   case b12=>
    intro l x z D u v;obtain⟨M,O,S,U,af,m,I,G,y,aj,ad,E,ae,Z,Y,i,Q,ab,R,vS⟩:=D;have co:=ab (v.at rfl);refine Oq.of (b:= ?bB12) ?eB12 ?_
    case eB12=>simp only[Al,Act.put,A8,A7,A6,co.1];rfl
    intro K' C;go_simp;exact C.go _ rfl ⟨M,O,S,U,z.heap.size,fun h=>(m h).alloc _,fun h=>(I h).alloc _,((By [] _).alloc _).cell1 G (by simp),y.keep0 ((By [] _).alloc _) (by simp),fun h=>(aj h).still ((By [] _).alloc _),fun h=>(ad h).still ((By [] _).alloc _),E,ae,Z,Y,i.alloc _,fun h=>⟨(Q h).1,fun ay=>((Q h).2 ay).alloc _⟩,ab,fun _=>⟨rfl,fun _=>BY _ [.int .i64 (nx:Int),.slice M body.length O] _,co.2⟩,vS.s rfl⟩
   case b13=>
    intro l x z D u v;obtain⟨M,O,S,U,af,m,I,G,y,aj,ad,E,ae,Z,Y,i,Q,ab,R,vS⟩:=D;have e4:=vS.a 4 (v.at rfl) rfl;have d9:=R (v.at rfl);have dx:Hid (l 4=true):=h_ (v.at rfl);have df:=d9.2.2;have bx:l 16=false:=by cases f:l 16 with|false=>rfl|true=>exact absurd (Z f) (by simp[u])
    have it:=(Q df.out).2 u;have iv:=d9.2.1 u;have ee:=aj u;have an:=(m bx).ty;refine Oq.of (b:= ?bB13) ?eB13 ?_
    case eB13=>simp only[Al,Act.put,A8,A7,A6,e4,d9.1];rfl
    intro K' C;refine BO _ rfl (.tmp 125) (.tmp 133) 350 350 rfl B 353 iR _ 2 32 El iy i4 i5 i6 rfl (by decide) (.slice ra s.recs.length da) s.recs.length (rcCs s.recs) rfl (rrow_n ee) _ 1 [.int .i64 (nx:Int),.slice M body.length O] rfl (QO z af _ _ iv El rfl) (by unfold maxLen;have:=fe.out;omega) (by have:=fe.out;omega) (AJ bn.out i.size) ?_;intro v2 K g2 g3 _ g4;obtain⟨aw,ax,rfl⟩:=A4 g2;have j:Keep (.slice ra s.recs.length da:Value).ownBlock.toList z K:=DJ g3;have ip:RRow K B (.slice aw (s.recs.length+1) ax) (s.recs++[⟨(nx,body),.slice M body.length O⟩]):=ee.snoc ⟨(nx,body),.slice M body.length O⟩ (it.mono bn.out) rfl g2 j;exact C.go (.slice aw (s.recs.length+1) ax) rfl ⟨M,O,aw,ax,af,fun h=>(m h).keep j (ee.rty an (by decide)),fun h=>absurd (bx.symm.trans h) (by decide),j.cell1 G fa.out,y.keep0 j (fun q f _=>(ha.out q f).1),fun h=>Bool.noConfusion (show true=false from h),fun _=>ip,fun _ q f=>(g4 q f).imp id (fun h=>AJ i.size h),ae,fun _=>rfl,fun _=>⟨dx.out,df.out⟩,i.trans (j.mono (fun q f _=>Ap _ f)),fun h=>⟨(Q h).1,fun ay=>Bool.noConfusion (show true=false from ay)⟩,ab,fun h=>⟨(R h).1,fun ay=>Bool.noConfusion (show true=false from ay),(R h).2.2⟩,vS.r⟩
   case bF=>
    intro l x w3 D J;obtain⟨M,O,S,U,af,m,I,G,y,aj,ad,E,ae,Z,Y,i,Q,ab,R,vS⟩:=D;have fz:=I (J 16 (by decide));have fx:=ad (J 13 (by decide));have gr:=E (J 13 (by decide));have f7:=ae (J 10 (by decide))
    have dp:=cn.out.keep i (fun g=>by
     rcases Ac.1 g with h|h
     ·exact fb.out h
     ·exact fa.out h)
    simp only[Al,Act.put,A8,A7,A6];simp only[AP,Nat.reduceAdd];obtain⟨h6,h1,ie,hf,ah,br,fg⟩:=i_7 fz fx gr f7 dp i ce;have k6:=lg_6 dp;have f4:=dp.free 4;have jj:nx+1<281474976710656:=az.out;clear Q ab R m I y aj ad E ae Z Y J i fz fx gr f7 dp f2 ce eg c4 vS;generalize w3=w8 at*;have en:= @XQ w5 w6 wr w8 B lb d sb frm segs nx run c1 fr (.slice (some ⟨la,0,none⟩) (A.length+1) bh) (.slice a2 (N+8+body.length) aa) (.slice S (s.recs.length+1) U) (.slice M body.length O) A s L1 B2 body nx bd.out (dd.out.keep bg.out (by simp) (by simp)) (by rw[dl.out];exact bq.out) ao.out (by rw[d5.out];exact br.out) ah.out h6.out dc.out dj.out h1.out (by rw[dl.out];exact ic.out) (by rw[d5.out];exact ie.out) hf.out;obtain⟨hv,hn⟩:=i_2 en.1 en.2
    have fo:IsDev w8 d sb (Gu (frm+(s.gen-1) % segs*8) s.gen s.base run B2 N L1 8) cc:=al.out.keep br.out (fun g=>by
     rcases Ac.1 g with h|h
     ·exact al.out.dev.ty.ne bu.out.ty (by decide) h
     ·rcases fg.out.ty d (A2 _ h)with t|t
      ·exact al.out.dev.ty.ne t (by decide) rfl
      ·exact al.out.dev.ty.ne t (by decide) rfl) (fun g=>by
     rcases Ac.1 g with h|h
     ·exact al.out.secs.ty.ne bu.out.ty (by decide) h
     ·rcases fg.out.ty sb (A2 _ h)with t|t
      ·exact al.out.secs.ty.ne t (by decide) rfl
      ·exact al.out.secs.ty.ne t (by decide) rfl)
    have bo:=h_ fo
    have eq:∀q∈s.F,q∈DG lb (.slice a l₀.length cap) l₀∨w.heap.size≤q:=fun q f=>V.out.foot q (by simp only[DG,Ac,Ag];exact .inr (.inr (Bm.2 ⟨s,by simp,f⟩)))
    have fu:Keep (d::sb::DG lb (.slice a l₀.length cap) l₀) w w8:=by
     have e1:Keep (d::sb::DG lb (.slice a l₀.length cap) l₀) w K:=bf.out.mono (fun q f _=>by
      simp only[DG,Ac,Ag]at f⊢;rcases f with h|h|h|h
      ·exact .inl h
      ·exact .inr (.inl h)
      ·exact .inr (.inr (.inl h))
      ·exact .inr (.inr (.inr (.inl h))))
     have e2:=e1.trans (bg.out.mono (by simp))
     have up:∀q∈s.F,q<w.heap.size→q∈d::sb::DG lb (.slice a l₀.length cap) l₀:=fun q f ak=>by
      rcases eq q f with h|h
      ·exact Ap _ (Ap _ h)
      ·omega
     have e3:=e2.then bq.out (fun q f ak=>by
      refine up q ?_ ak;unfold Sg.F;rw[dl.out];rcases Ac.1 f with h|h
      ·exact Ac.2 (.inl h)
      ·exact Ap _ (A2 _ h))
     have e4:=e3.trans (ao.out.mono (fun q f _=>by simp only[Ac,Am,AG]at f;rcases f with rfl|rfl<;>simp))
     exact e4.then br.out (fun q f ak=>by
      refine up q ?_ ak;unfold Sg.F Mj;rw[d5.out];rcases Ac.1 f with h|h
      ·exact Ac.2 (.inl h)
      ·exact Ap _ (AQ _ (A2 _ h)))
    have e7:=h_ fu
    have fs:∀q∈DG lb (.slice (some ⟨la,0,none⟩) (A.length+1) bh) (A++[s.add (.slice a2 (N+8+body.length) aa) (.slice S (s.recs.length+1) U) nx body (.slice M body.length O)]),q∈DG lb (.slice a l₀.length cap) l₀∨w.heap.size≤q:=by
     intro q f;have hz:w.heap.size≤w5.heap.size:=by have o:=bf.out.size;have h2:=bg.out.size;omega
     have ix:=hn.out;simp only[DG,sgF,Bg,BI,Eb,AE,Ac,Ag]at f;rcases f with h|h|h|h
     ·exact V.out.foot q (by simp[DG,h])
     ·exact V.out.foot q (by simp only[DG,Ac,Ag];exact .inr (.inl h))
     ·exact V.out.foot q (by simp only[DG,sgF,Bg,Ac,Ag];exact .inr (.inr (.inl h)))
     ·rcases ix q h with h'|h'
      ·exact eq q h'
      ·exact .inr (by omega)
    have ez:=h_ fs;have i7:w8.cell? ⟨lb,4,none⟩=some (.int .i64 (nx:Int)):=PA ah.out;have bk:=(ah.out.set 4 (.int .i64 ((nx:Int)+1)));have ge:=hv.out.setC (nx':=nx+1) (run':=run) (fr':=fr) 4 (.int .i64 ((nx:Int)+1)) bk;have fc:=h_ ge;have ds:=ds;have dv:=h_ ds;clear en fo fu fs ge ds eq
    cases fr with
    |false=>have gw:=lg_6 bk;clear bk G;go_wp2;go_ret2;refine⟨rfl,wc,_,A,s,L1,c1,_,_,_,cc,V.out,fc.out, ?_,by have:=dv.out;have:=cm.out;omega,e7.out.setCell (.inl (by simp[DG])) _,ez.out⟩;rw[←dj.out,ai.out];exact bo.out.keep ((By [lb] w8).setCell (p:=⟨lb,4,none⟩) (.inl (by simp)) _) (by simp;exact bo.out.dev.ty.ne ah.out.ty (by decide)) (by simp;exact bo.out.secs.ty.ne ah.out.ty (by decide))
    |true=>
     have gw:=lg_6 bk;have ik:=bk.free 6;have iu:=bk.set 6 (.bool false);have dy:=h_ (fc.out.setC (nx':=nx+1) (run':=run) (fr':=false) 6 (.bool false) iu);have cd:=bo.out.keep (((By [lb] w8).setCell (p:=⟨lb,4,none⟩) (.inl (by simp)) (.int .i64 ((nx:Int)+1))).setCell (p:=⟨lb,6,none⟩) (.inl (by simp)) (.bool false)) (by simp;exact bo.out.dev.ty.ne ah.out.ty (by decide)) (by simp;exact bo.out.secs.ty.ne ah.out.ty (by decide));have hu:Hid (Keep (d::sb::DG lb (.slice a l₀.length cap) l₀) w ((w8.setCell ⟨lb,4,none⟩ (.int .i64 ((nx:Int)+1))).setCell ⟨lb,6,none⟩ (.bool false))):=h_ ((e7.out.setCell (.inl (by simp[DG])) _).setCell (.inl (by simp[DG])) _);clear G;go_upto_region 28 with fail;clear gw ik bk f4 i7;generalize(w8.setCell ⟨lb,4,none⟩ (.int .i64 ((nx:Int)+1))).setCell ⟨lb,6,none⟩ (.bool false)=w9 at*;have dq:=dy.out.blk;have hi:Hid (cc<1099511627776):=h_ (by have:=dv.out;have:=cm.out;have:=HC.out;omega);have ii:Hid (IntKind.i64.wrap ((nx:Int)+1-1)=(nx:Int)):=h_ (by rw[A9];have:=az.out;omega);have ij:Hid (IntKind.i64.wrap (nx:Int)=(nx:Int)):=h_ (by rw[A9];have:=az.out;omega)
     have f9:lb∉ [d,sb]:=by simp only[Ac,Am,AG,not_or];exact⟨dq.ty.ne cd.dev.ty (by decide),dq.ty.ne cd.secs.ty (by decide)⟩
     have hm:=h_ f9;obtain⟨LW,ec⟩:∃LW,LW=Gu (frm+(s.gen-1) % segs*8) s.gen s.base run B2 N L1 8:=⟨_,rfl⟩;rw[←ec]at cd;have hy:=h_ ec;clear ec f9;refine wI (appJ28 w9 lb d sb frm segs nx run cc (.slice (some ⟨la,0,none⟩) (A.length+1) bh) LW) ?cS (.s ?c0<|.s ?c1<|.s ?c2<|.s ?c3<|.s ?c4<|.s ?c5<|.s ?c6<|.s ?c7<|.s ?c8<|.s ?c9<|.s ?c10<|.s ?c11<|.n) 12 ?cF
     case cS=>intro x;exact⟨dq.drew,fun _=>cd.keep (By [] _).drew (by simp) (by simp),fun h=>absurd h (by decide),(By _ _).drew,Yr⟩
     case cF=>
      intro l x w3 D J;obtain⟨hL,cg,ch,i,vS⟩:=D;have fp:=ch (J 9 (by decide));have bw:=vS.a 10 (J 10 (by decide)) rfl;have co:=vS.a 11 (J 11 (by decide)) rfl;simp only[Al,Act.put,A8,A7,A6,bw,co];simp only[AP,Nat.reduceAdd];obtain⟨hl,e6⟩:=i_2 fp i;have g0:=h_ (dy.out.apart cd);clear hL cg ch i J fp bw co cd dq vS;generalize w3=wz at*;go_wp2;go_ret2;refine⟨rfl,wc,_,A,s,L1,c1,_,_,_,cc+1,V.out,dy.out.keep e6.out (fun q f g=> ?_), ?_,by have:=dv.out;have:=cm.out;omega,hu.out.trans (e6.out.mono (fun q f _=>by simp only[Ac,Am,AG]at f;rcases f with rfl|rfl<;>simp)),ez.out⟩
      ·exact g0.out q f g
      ·rw[←dj.out,ai.out,←hy.out]
       exact hl.out
     all_goals
      intro l x z D u v;obtain⟨hL,cg,ch,i,vS⟩:=D;have hW:=vS;have hD:=v;simp only[SlV]at hW
      try simp[BD,Region.binds]at hD
      refine Oq.of (by simp only[Al,Act.put,A8,A7,A6,hD,hW];rfl) ?_;clear hD hW;intro K' C
     case c4=>go_simp;exact C.go _ rfl ⟨hL,cg,ch,i,vS.q ((by first|rfl|exact A3 (Value.int .i64) ii.out|exact A3 (Value.int .i64) ij.out))⟩
     case c8=>have c0:=Ug hL;go_simp;exact C.go _ rfl ⟨hL,cg,ch,i,vS.r⟩
     case c9=>go_simp;refine(GV (cg u) hi.out).mono ?_;rintro e K ⟨rfl,bj,j⟩;go_simp;exact C.go _ rfl ⟨hL.keep j hm.out,fun h=>Bool.noConfusion (show true=false from h),fun _=>bj,i.trans j,vS.r⟩
     all_goals have c0:=PA hL;go_simp;exact C.go _ rfl ⟨hL,cg,ch,i,vS.r⟩
   all_goals
    intro l x z D u v;obtain⟨M,O,S,U,af,m,I,G,y,aj,ad,E,ae,Z,Y,i,Q,ab,R,vS⟩:=D;have hW:=vS;have hD:=v;simp only[SlV]at hW
    try simp[BD,Region.binds]at hD
    refine Oq.of (by simp only[Al,Act.put,A8,A7,A6,hD,hW];rfl) ?_;clear hD hW;intro K' C
   case b4=>
    have dm:l 13=false:=by cases f:l 13 with|false=>rfl|true=>exact absurd (Y f).1 (by simp[u])
    have bx:l 16=false:=by cases f:l 16 with|false=>rfl|true=>exact absurd (Z f) (by simp[dm])
    have c0:=IL (m bx);go_simp;exact C.go _ rfl ⟨M,O,S,U,af,m,I,G,y,aj,ad,E,ae,Z,fun h=>⟨rfl,(Y h).2⟩,i,Q,ab,R,vS.r⟩
   case b10=>
    have dm:l 13=false:=by cases f:l 13 with|false=>rfl|true=>exact absurd (Y f).2 (by simp[u])
    have bx:l 16=false:=by cases f:l 16 with|false=>rfl|true=>exact absurd (Z f) (by simp[dm])
    go_simp;refine(Fg _ body y (by have:=g9.out;omega)).mono ?_;rintro e K ⟨v2,rfl,ac,j⟩;obtain⟨p2,p3,i1⟩:=ac.slice;subst i1;have ev:=h_ (ac.mono i.size);have g5:=h_ (fun q f=>(ev.out.lt q f).1);clear ac;go_simp;exact C.go (.slice p2 body.length p3) rfl ⟨p2,p3,S,U,af,fun h=>(m h).keep j (by simp),fun h=>absurd (bx.symm.trans h) (by decide),j.cell1 G (by simp),y.keep0 j (by simp),fun h=>(aj h).still j,fun h=>absurd (dm.symm.trans h) (by decide),E,fun _=>g5.out,Z,fun h=>⟨(Y h).1,rfl⟩,i.trans (j.mono (by simp)),fun _=>⟨rfl,fun _=>ev.out⟩,fun h=>absurd (ab h).2.out (by simp[u]),fun h=>absurd (R h).2.2.out (by simp[u]),vS.s rfl⟩
   case b16=>have dg:Hid (l 13=true):=h_ (v.at rfl);have c0:=IL (m u);have f0:=(m u).free 4;go_simp;have j:Keep [s.p] z _:=((By [s.p] z).setCell (p:=⟨s.p,4,none⟩) (.inl (by simp)) (.slice S (s.recs.length+1) U));have ef:=(m u).set 4 (.slice S (s.recs.length+1) U);have an:=(m u).ty;exact C.go undef rfl ⟨M,O,S,U,af,fun h=>Bool.noConfusion (show true=false from h),fun _=>ef,j.cell1 G (by simp;exact fb.out),y.keep0 j (fun q f _ g=>by simp only[Ah]at g;exact du.out q f g),fun h=>absurd (h.symm.trans dg.out) (by decide),fun h=>(ad h).keep j (fun q f g=>by simp only[Ah]at g;subst g;rcases(ad h).ty _ f with o|o;exact o.ne an (by decide) rfl;exact o.ne an (by decide) rfl),E,ae,fun _=>dg.out,Y,i.trans (j.mono (by simp)),fun h=>⟨(Q h).1,fun ay=>absurd (ay.symm.trans dg.out) (by decide)⟩,ab,fun h=>⟨(R h).1,fun ay=>absurd (ay.symm.trans dg.out) (by decide),(R h).2.2⟩,vS.s rfl⟩
   all_goals have c0:=G;go_simp;exact C.go _ rfl ⟨M,O,S,U,af,m,I,G,y,aj,ad,E,ae,Z,Y,i,Q,ab,R,vS.r⟩
 all_goals
  intro l x z D u v;obtain⟨a1,am,a2,aa,m,I,bz,ca,ac,hH,y,bc,au,ap,d8,d6,i,h8,vS⟩:=D;have hW:=vS;have hD:=v;simp only[SlV]at hW
  try simp[BD,Region.binds]at hD
  refine Oq.of (by simp only[Al,Act.put,A8,A7,A6,hD,hW];rfl) ?_;clear hD hW;intro K' C
 case a4=>
  have bi:l 11=false:=by cases f:l 11 with|false=>rfl|true=>exact absurd (d6 (d8 (ap f))) (by simp[u])
  have c0:=Hv (m bi);go_simp;exact C.go _ rfl ⟨a1,am,a2,aa,m,I,bz,ca,ac,hH,y,bc,au,ap,d8,fun _=>rfl,i,h8,vS.r⟩
 case a6=>
  have dx:Hid (l 4=true):=h_ (v.at rfl);have f8:l 8=false:=by cases f:l 8 with|false=>rfl|true=>exact absurd (d8 f) (by simp[u])
  have bi:l 11=false:=by cases f:l 11 with|false=>rfl|true=>exact absurd (ap f) (by simp[f8])
  have hB:=bz u;have an:=(m bi).ty;have ct:=hB.ty';have iq:=XJ hH di.out;refine BO _ rfl (.tmp 88) (.tmp 89) 81 81 rfl B 5 i8 _ 1 1 Ao gc gt gu gv rfl (by decide) (.slice va N bl) N (Bb (encRs s.rs)) rfl (Yo hB ai.out) _ 8 (Bb bp) rfl (XV (iq.src Ao) di.out) (by unfold maxLen;have:=bt.out;omega) (by have:=bt.out;omega) (AJ bn.out i.size) ?_;intro v2 K g2 g3 _ g4;obtain⟨aw,ax,rfl⟩:=A4 g2;have j:Keep (.slice va N bl:Value).ownBlock.toList z K:=DJ g3;have eb:=Td g2 ai.out di.out;have er:s.p∉(.slice va N bl:Value).ownBlock.toList :=fun g=>(ct s.p (Ae.1 g)).ne an (by decide) rfl
  have em:P∉(.slice va N bl:Value).ownBlock.toList :=fun g=>(ct P (Ae.1 g)).ne hH.ty (by decide) rfl
  exact C.go (.slice aw (N+8) ax) rfl ⟨aw,ax,a2,aa,fun h=>(m h).keep j er,fun h=>absurd (bi.symm.trans h) (by decide),fun h=>Bool.noConfusion (show true=false from h),fun _ _=>eb,fun h=>absurd (f8.symm.trans h) (by decide),hH.keep j em,y.keep0 j (fun q f _=>(cj.out q f).1),fun _ q f=>(g4 q f).imp id (fun h=>AJ i.size h),fun h=>absurd (f8.symm.trans h) (by decide),ap,fun _=>rfl,fun _=>dx.out,i.trans (j.mono (fun q f _=>Ap _ f)),fun h=>absurd (f8.symm.trans h) (by decide),vS.r⟩
 case a8=>
  have dh:Hid (l 6=true):=h_ (v.at rfl);have bi:l 11=false:=by cases f:l 11 with|false=>rfl|true=>exact absurd (ap f) (by simp[u])
  have hB:=ca dh.out u;have an:=(m bi).ty;have ct:=hB.ty';have es:=bc dh.out;refine BO _ rfl (.tmp 90) (.tmp 91) 81 81 rfl B 5 i8 _ 1 1 Ao gc gt gu gv rfl (by decide) (.slice a1 (N+8) am) (N+8) (Bb ((encRs s.rs)++bp)) rfl (Yo hB dz.out) _ body.length (Bb body) rfl (XV (y.src Ao) rfl) (by unfold maxLen;have:=bt.out;omega) (by have:=bt.out;omega) (AJ bn.out i.size) ?_;intro v2 K g2 g3 _ g4;obtain⟨aw,ax,rfl⟩:=A4 g2;have j:Keep (.slice a1 (N+8) am:Value).ownBlock.toList z K:=DJ g3;have eb:=Td g2 dz.out rfl;have er:s.p∉(.slice a1 (N+8) am:Value).ownBlock.toList :=fun g=>(ct s.p (Ae.1 g)).ne an (by decide) rfl
  have em:P∉(.slice a1 (N+8) am:Value).ownBlock.toList :=fun g=>(ct P (Ae.1 g)).ne hH.ty (by decide) rfl
  exact C.go (.slice aw (N+8+body.length) ax) rfl ⟨a1,am,aw,ax,fun h=>(m h).keep j er,fun h=>absurd (bi.symm.trans h) (by decide),fun h=>absurd (h.symm.trans dh.out) (by decide),fun _ h=>Bool.noConfusion (show true=false from h),fun _=>eb,hH.keep j em,y.keep0 j (fun q f _ g=>by rcases es q (Ae.1 g)with h|h;exact(cj.out q f).1 (Ae.2 h);have:=(cj.out q f).2;omega),bc,fun _ q f=>by rcases g4 q f with h|h;exact es q h;exact .inr (AJ i.size h),fun _=>rfl,fun _=>dh.out,d6,i.then2 j (fun q f ak=>by rcases es q (Ae.1 f)with h|h;exact Ap _ (Ae.2 h);exact absurd ak (by omega)),fun _=>rfl,vS.s rfl⟩
 all_goals go_simp;exact C.go _ rfl ⟨a1,am,a2,aa,m,I,bz,ca,ac,hH,y,bc,au,ap,d8,d6,i,h8,vS.r⟩
end
structure PSeg where
 gen:Nat
 base:Nat
 rs:List Rcd
 rn:Nat→Nat
structure PS where
 gen:Nat
 base:Nat
 rs:List Rcd
def Sg.ps (s:Sg):PS:=⟨s.gen,s.base,s.rs⟩
theorem LogAt.reblk {w g:World}{B b d frm segs o p nx' run':Nat}{j fr':Bool}{f:Value}{l:List Sg}(h:LogAt w B b d frm segs o p j f l)(k:Keep [b] w g)(m:Blk g b (lgC d (frm:Int) (segs:Int) f (nx':Int) (run':Int) fr') 333):
  LogAt g B b d frm segs nx' run' fr' f l:=by
 refine⟨m,h.row.keep k (fun q a i=> ?_),h.nd,h.new⟩;simp only[Ah]at i;subst i;have e:=h.blk.ty;rcases Ag.1 a with a|a
 ·exact e.ne (h.row.own.ty _ (Ae.1 a)) (by decide) rfl
 ·obtain⟨s,n,a⟩:=Bm.1 a
  rcases(h.row.ok s n).ty _ a with t|t|t
  ·exact e.ne t (by decide) rfl
  ·exact e.ne t (by decide) rfl
  ·exact e.ne t (by decide) rfl
theorem Ik:∀(l:List Rcd),(∀r∈l,r.ok)→9*l.length≤(encRs l).length
 |[],_=>by simp[encRs]
 |r::l,h=>by
  have f:=Ik l (fun x a=>h x (by simp[a]));have b:=(h r (by simp)).1;have e:encRs (r::l)=J5 r++encRs l:=by simp[encRs]
  rw[e,Aj,Fr,List.length_cons];omega
end Go.Proofs.YtnhbioehiiifdaaGreat
