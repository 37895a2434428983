import Derived.Test.YtnhbioehiiifdaaGreatD02
import Derived.Test.YtnhbioehiiifdaaGreatD03
import Derived.Test.YtnhbioehiiifdaaGreatD04
set_option maxRecDepth 100000
set_option maxHeartbeats 16000000
set_option linter.all false
namespace Go.Proofs.YtnhbioehiiifdaaGreat
open Go.ChangeShapes Go.WideShapes Go.ChangeAt Go.RowKit
theorem Tryz.sizeItem:(Tryz.prog.info? 171).map (·.size)=some 4:=by kernel_rfl
def If:=@Tryz.sizeItem
theorem EJ (k v:ByteArray)(n:Int)(g:Bool):∀u∈E8 k v n g,u.oneCell'=true:=by intro u a;simp[E8]at a;rcases a with rfl|rfl|rfl|rfl<;>rfl
theorem Tryz.infoItem:(Tryz.prog.info? 171).map (fun i=>(i.zero,i.size,i.bytes))=some (some (.agg #[.string ByteArray.empty,.string ByteArray.empty,.int .i64 0,.bool false]),4,48):=by kernel_rfl
abbrev It:=ByteArray×ByteArray×Int×Bool
def Yk (y:It):List Value:=E8 y.1 y.2.1 y.2.2.1 y.2.2.2
def ic (l:List It):List Value:=(l.map Yk).flatten
theorem ic_len (l:List It):(ic l).length =l.length*4:=Iv Yk 4 (fun _=>rfl) l
theorem X7 (l:List It)(y:It):ic (l++[y])=ic l++Yk y:=by simp[ic]
abbrev IRd (w:World)(v:Value)(l:List It):Prop:=Rv w 4 v l.length (ic l)
theorem VR {w:World}{v:Value}{l:List It}(h:IRd w v l)(i:Nat)(y:It)(e:l[i]?=some y):
  ∃sb b cap,v=.slice (some ⟨sb,b,none⟩) l.length cap∧l.length≤cap∧sb<w.heap.size∧w.cell? ⟨sb,b+i*4,none⟩=some (.string y.1)∧w.cell? ⟨sb,b+i*4+1,none⟩=some (.string y.2.1)∧
   w.cell? ⟨sb,b+i*4+2,none⟩=some (.int .i64 y.2.2.1)∧w.cell? ⟨sb,b+i*4+3,none⟩=some (.bool y.2.2.2):=by
 have p:i<l.length:=(Ai.1 e).1;have d:=ic_len l;obtain⟨o,a,cap,rfl,g,k⟩:=h;obtain⟨sb,b,rfl,n,f⟩:=k (by rw[d];omega)
 have c:∀j,j<4→w.cell? ⟨sb,b+(i*4+j),none⟩=(Yk y)[j]?:=by intro j m;rw[f _ (by rw[d];omega)];unfold ic;rw[Gc Yk 4 (fun _=>rfl) l i j m,e];rfl
 exact⟨sb,b,cap,rfl,g,n,c 0 (by omega),by rw[Cv];exact c 1 (by omega),by rw[Cv];exact c 2 (by omega),by rw[Cv];exact c 3 (by omega)⟩
def JW (w:World)(base:Nat)(v:Value)(l:List It):Prop:=w.ownsRow base 171 4 v l.length (ic l)
theorem JW.nil (w:World)(base:Nat):JW w base (.slice none 0 0) []:=AY w base _ 4
theorem JW.rd {w:World}{base:Nat}{v:Value}{l:List It}(h:JW w base v l):IRd w v l:=Fa h
theorem JW.lt {w:World}{base:Nat}{v:Value}{l:List It}(h:JW w base v l):∀k,v.ownBlock=some k→base≤k∧k<w.heap.size:=B3 h
theorem JW.slice {w:World}{base:Nat}{v:Value}{l:List It}(h:JW w base v l):∃a cap,v=.slice a l.length cap:=by
 rcases h.2 with⟨rfl,b⟩|⟨g,cap,c,rfl,_⟩
 ·exact⟨none,0,by rw[b]⟩
 ·exact⟨_,_,rfl⟩
theorem JW.ty {w:World}{base:Nat}{v:Value}{l:List It}(h:JW w base v l):∀k,v.ownBlock=some k→Ty w k 171:=by
 intro k a;rcases h.2 with⟨rfl,_⟩|⟨g,cap,c,rfl,_,b,_⟩
 ·cases a
 ·cases a;exact⟨_,_,b⟩
theorem JW.keep {w a:World}{base:Nat}{v:Value}{l:List It}{S:List Nat}(h:JW w base v l)(k:Keep S w a)(d:∀b,v.ownBlock=some b→b∉S):JW a base v l:=by
 refine⟨h.1, ?_⟩;have i:=h.lt;rcases h.2 with⟨rfl,j⟩|⟨g,cap,c,rfl,e,f,r⟩
 ·exact .inl ⟨rfl,j⟩
 ·exact .inr ⟨g,cap,c,rfl,e,by rw[k.block g (i g rfl).2 (d g rfl)];exact f,r⟩
theorem JW.alloc {w:World}{base:Nat}{v:Value}{l:List It}(h:JW w base v l)(o:Obj):JW (w.alloc o) base v l:=World.ownsRow.alloc h o
theorem JW.snoc {b:World}{base:Nat}{a:Value}{l:List It}{y:It}(h:b.ownsRow base 171 4 a (l.length+1) (ic l++Yk y)):JW b base a (l++[y]):=by unfold JW;rw[X7,Aj];exact h
theorem src_it {P:Program}{t e:TypeId}(c:P.underlying t=some (.slice e))(w:World)(b:Nat)(k v:ByteArray)(n:Int)(g:Bool)(h:Blk w b (E8 k v n g) 171):
  Src P 4 t (.slice (some ⟨b,0,none⟩) 1 1) 1 (Yk (k,v,n,g)) w:=by
 refine CC _ c ⟨b,0,none⟩ 1 1 (Yk (k,v,n,g)) rfl ?_ (EJ _ _ _ _);intro j x d;rw[show(⟨b,0,none⟩:Addr).add j=⟨b,j,none⟩ by by_cases a:j=0<;>simp[Addr.add,a],h.cell];exact d
def gN (g:Bool):Int:=if g=true then 1 else 0
def Dc (y:It):List Nat:=B8 [y.1,y.2.1]++BL [y.2.2.1,gN y.2.2.2]
def CE (l:List It):List Nat:=(l.map Dc).flatten
theorem Ka (l:List It)(y:It):CE (l++[y])=CE l++Dc y:=by simp[CE]
def Dj (y:It):Bool:=itMay y.1 y.2.1 y.2.2.1 y.2.2.2
def BM (l:List It):List Nat:=if l.all Dj=true then CE l else[]
theorem Onto.drew0 {w:World}{base:Nat}{E:TypeId}{v a:Value}{l:List Nat}{b:World}(h:Onto w base E v l a b):Onto w base E v l a b.drew:=⟨h.buf,h.keep.drew,h.own⟩
theorem JR {y:It}(h:Dj y=true):1≤y.1.size∧y.1.size≤40∧y.2.1.size≤200∧0≤y.2.2.1∧y.2.2.1≤1099511627776:=by unfold Dj itMay itKey at h;simp only[Ar,A0]at h;exact⟨h.1.1,h.1.2,h.2.1,h.2.2.1,h.2.2.2.1⟩
theorem Hb (k v:ByteArray)(c:k.size≤200)(d:v.size≤200):(B8 [k,v]).length ≤k.size+v.size+20:=by have a:=DO 10 (zz (k.size:Int)) (by have:=IJ (k.size:Int) (by omega) (by omega);omega) (by omega);have b:=DO 10 (zz (v.size:Int)) (by have:=IJ (v.size:Int) (by omega) (by omega);omega) (by omega);simp only[B8,Br,Cy,List.flatten_cons,List.flatten_nil,Aj,Cf,CO,List.length_nil];omega
theorem FG (k v:ByteArray):0<(B8 [k,v]).length :=by have:=R6 (zz (k.size:Int));simp only[B8,Br,List.flatten_cons,Aj,Cf];have:0<(Ga (zz (k.size:Int))).length :=Cs.2 this;omega
theorem RE (g:Bool):II (gN g):=by cases g<;>(unfold gN II;simp)
theorem MH {y:It}(h:Dj y=true):(Dc y).length ≤300:=by obtain⟨e,f,d,g,i⟩:=JR h;have a:=Hb y.1 y.2.1 (by omega) d;have b:=Hc [y.2.2.1,gN y.2.2.2] (by intro n c;simp at c;rcases c with rfl|rfl;exact⟨by omega,by omega⟩;exact RE _);unfold Dc;rw[Aj];simp only[List.length_cons,List.length_nil]at b;omega
def LM (L:List Nat)(k v:ByteArray)(n a:Int)(l:Nat→Bool):List Nat:=if l 11=true then L++B8 [k,v]++BL [n,a]else if l 6=true then L++B8 [k,v]else L
def LJ (a:Value)(l:Nat→Bool)(x:Nat→Value):Value:=if l 11=true then x 11 else if l 6=true then x 6 else a
def encJ (e:World)(base:Nat)(a:Value)(L:List Nat)(t:Nat)(k v:ByteArray)(n b:Int)(l:Nat→Bool)(x:Nat→Value)(c:World):Prop:=
 ∃B5 d,Onto e base 5 a (LM L k v n b l) (LJ a l x) c∧(l 11=true→l 6=true)∧(l 6=true→l 0=true)∧(l 12=false→x 12=a)∧(l 0=true→x 0=a)∧(l 1=true→x 1=pr t 0)∧(l 2=true→x 2=.string k)∧(l 3=true→x 3=pr t 1)∧(l 4=true→x 4=.string v)∧
 (l 5=true→x 5=.slice (some ⟨B5,0,none⟩) 2 2∧Blk c B5 (Tv [k,v]) 9)∧(l 7=true→x 7=pr t 2)∧(l 8=true→x 8=.int .i64 n)∧(l 9=true→x 9=.int .i64 b)∧
 (l 10=true→x 10=.slice (some ⟨d,0,none⟩) 2 2∧Blk c d (ints [n,b]) 2)∧(l 12=true→x 12=x 11∧l 11=true)
theorem J4 {w:World}(a:Value)(l:List It)(h:IRd w a l)(hl:l.length≤1000000)(hs:∀y∈l,y.1.size≤9223372036854775807∧y.2.1.size≤9223372036854775807):
  Calls Tryz.prog 174 #[a] w fun e P=>∃v,e=.returned v∧(Buf P w.heap.size 5 v (BM l)∧(BM l=[]→v=.slice none 0 0))∧Keep [] w P:=by
 obtain⟨_,aa,cap,rfl,bf,_⟩:=id h;go_enter Tryz.func174,Tryz.ntmps174;go_wp2
 go_loopw [3,9] (fun b i wr=>∃j:Nat,j≤l.length∧i=.int .i64 j∧(l.take j).all Dj=true∧(CE (l.take j)).length ≤300*j∧(Buf wr w.heap.size 5 b (CE (l.take j))∧(CE (l.take j)=[]→b=.slice none 0 0))∧Keep [] w wr) (fun _ i _=>l.length-(intOf i).toNat)
 case atStart=>exact⟨0,by omega,rfl,rfl,by simp[CE],⟨Y4 _ _ _,fun _=>rfl⟩,By _ _⟩
 case round=>
  obtain⟨j,hj,rfl,au,bi,⟨hB,ay⟩,hK⟩:=hrel;have a4:=h_ ay;clear ay;obtain⟨Q,R,rfl⟩:=hB.slice;have am:=h_ au;clear au;by_cases bd:j<l.length
  ·have q2:(j:Int)<l.length:=by omega
   obtain⟨y,X⟩:∃y,l[j]?=some y:=⟨_,Ad bd⟩;have al:=hs y (Aq X);obtain⟨og,oo,br,U,_,bm,c0,c1,c2,c3⟩:=VR (h.keep hK (by simp)) j y X;simp only[Bn]at U;obtain⟨rfl,_,rfl⟩:=U;have a1:l.take (j+1)=l.take j++[y]:=by rw[BH,X];rfl
   have ag:=h_ a1;have a3:=h_ (Aq X);clear a1 X;have a0:= @MH y;have af:= @JR y;have az:Dc y=B8 [y.1,y.2.1]++BL [y.2.2.1,gN y.2.2.2]:=rfl;obtain⟨aq,a5,ao⟩:=i_3 az a0 af;clear az a0 af;have aj:Dj y=itMay y.1 y.2.1 y.2.2.1 y.2.2.2:=rfl;obtain⟨m,S⟩:∃m,m=Dj y:=⟨_,rfl⟩;rw[←S]at aj;obtain⟨ad,ap⟩:=i_2 S aj;clear S aj;generalize ar:CE (l.take j)=L at*;have an:=h_ ar;clear ar;obtain⟨k,v,n,g⟩:=y;simp only at c0 c1 c2 c3 al ap aq ao;go_wp2_with fail;refine(FT k v n g al.1 al.2 m ap.out).mono ?_;rintro e w2 ⟨rfl,k2⟩;have ac:=(BY wr (E8 k v n g) 171).keep k2 (by simp);have ah:=(hB.alloc (.cells (E8 k v n g).toArray 171)).keep k2 (by simp);have K2:=(hK.alloc (.cells (E8 k v n g).toArray 171)).trans k2;have bp:=K2.size;clear c0 c1 c2 c3 hB hK k2;generalize wr.heap.size=t at*;have a2:=ac.cell 3;simp only[E8,List.getElem?_cons_succ,List.getElem?_cons_zero]at a2;cases m
   case false=>
    go_wp2;go_ret
    have hE:BM l=[]:=by unfold BM;rw[Aw];intro hc;have:=Cr.1 hc _ a3.out;rw[←ad.out]at this;cases this
    exact⟨_,rfl,⟨by rw[hE];exact Y4 _ _ _,fun _=>rfl⟩,K2⟩
   have af:=ao.out ad.out.symm;obtain⟨bg,bh,bq,bk,bl⟩:=af;go_upto_if 17 with fail;go_cut [6] (fun s wc=>s=.int .i64 (gN g)∧w2=wc)
   case first=>
    cases g
    ·go_wp2_with fail
     go_meet;exact⟨rfl,rfl⟩
    ·go_wp2_with fail
     go_meet;exact⟨rfl,rfl⟩
   case rest=>
   obtain⟨rfl,rfl⟩:=hcut;clear a2;have bb:=RE g;have bc:∀t∈[k,v],t.size≤200:=by intro t ht;simp at ht;rcases ht with rfl|rfl<;>omega
   have ax:∀z∈[n,gN g],II z:=by intro z hz;simp at hz;rcases hz with rfl|rfl;exact⟨by omega,by omega⟩;exact bb
   have bn:=Hb k v (by omega) (by omega);have a6:=h_ (show 0<(B8 [k,v]).length from FG k v);generalize gN g=gi at*;have ae:t∉(Value.slice Q L.length R).ownBlock.toList :=by intro S;exact ac.ty.ne (ah.ty' _ (Ae.1 S)) (by decide) rfl
   go_wp2_with fail;refine wIo (encJ w2 w.heap.size (Value.slice Q L.length R) L t k v n gi) ?z1xs (.s ?z1x0<|.s ?z1x1<|.s ?z1x2<|.s ?z1x3<|.s ?z1x4<|.s ?z1x5<|.s ?z1x6<|.s ?z1x7<|.s ?z1x8<|.s ?z1x9<|.s ?z1x10<|.s ?z1x11<|.s ?z1x12<|.n) 13 ?z1xf
   case z1xs=>exact⟨0,0,(YB ah).drew0,fun h=>absurd h (by decide),fun h=>absurd h (by decide),fun _=>rfl,fun h=>absurd h (by decide),fun h=>absurd h (by decide),fun h=>absurd h (by decide),fun h=>absurd h (by decide),fun h=>absurd h (by decide),fun h=>absurd h (by decide),fun h=>absurd h (by decide),fun h=>absurd h (by decide),fun h=>absurd h (by decide),fun h=>absurd h (by decide),fun h=>absurd h (by decide)⟩
   case z1x0=>
    intro l x P E O d;obtain⟨B5,A,f,B,F,C,r,o,p,D,H,u,I,K,N,G,M⟩:=E;have be:l 12=false:=by cases h:l 12 with|false=>rfl|true=>have:=F (B (M h).2);rw[O]at this;cases this
    have e12:=C be;refine Oq.of (b:= ?b0) ?e0 ?_
    case e0=>simp only[Al,Act.put,A8,A7,A6,e12];rfl
    intro T J;go_simp;exact J.go _ rfl ⟨B5,A,f,B,fun _=>rfl,C,fun _=>rfl,o,p,D,H,u,I,K,N,G,M⟩
   case z1x2=>
    intro l x P E O d;obtain⟨B5,A,f,B,F,C,r,o,p,hr⟩:=E;have e1:=o (d.at rfl);have hT:=ac.keep f.keep ae;have c:=hT.cell 0;simp only[E8,List.getElem?_cons_succ,List.getElem?_cons_zero]at c;refine Oq.of (b:= ?b2) ?e2 ?_
    case e2=>simp only[Al,Act.put,A8,A7,A6,e1];rfl
    intro T J;go_simp;exact J.go _ rfl ⟨B5,A,f,B,F,C,r,o,fun _=>rfl,hr⟩
   case z1x4=>
    intro l x P E O d;obtain⟨B5,A,f,B,F,C,r,o,p,D,H,hr⟩:=E;have e3:=D (d.at rfl);have hT:=ac.keep f.keep ae;have c:=hT.cell 1;simp only[E8,List.getElem?_cons_succ,List.getElem?_cons_zero]at c;refine Oq.of (b:= ?b4) ?e4 ?_
    case e4=>simp only[Al,Act.put,A8,A7,A6,e3];rfl
    intro T J;go_simp;exact J.go _ rfl ⟨B5,A,f,B,F,C,r,o,p,D,fun _=>rfl,hr⟩
   case z1x5=>
    intro l x P E O d;obtain⟨B5,A,f,B,F,C,r,o,p,D,H,u,I,K,N,G,M⟩:=E;have e2:=p (d.at rfl);have e4:=H (d.at rfl);refine Oq.of (b:= ?b5) ?e5 ?_
    case e5=>simp only[Al,Act.put,A8,A7,A6,e2,e4];rfl
    intro T J;go_simp;exact J.go _ rfl ⟨P.heap.size,A,f.alloc _,B,F,C,r,o,p,D,H,fun _=>⟨rfl,BY _ (Tv [k,v]) _⟩,I,K,N,fun h=>⟨(G h).1,(G h).2.alloc _⟩,M⟩
   case z1x6=>
    intro l x P E O d;obtain⟨B5,A,f,B,F,C,r,o,p,D,H,u,I,K,N,G,M⟩:=E;have e0:=r (d.at rfl);have e5:=u (d.at rfl);have l0:l 0=true:=by first|exact d.1 rfl|exact d.2.1 rfl|exact d.2.2.1 rfl|exact d.2.2.2.1 rfl|exact d.2.2.2.2.1 rfl|exact d.2.2.2.2.2.1 rfl
    have ab:l 11=false:=by cases h:l 11 with|false=>rfl|true=>have:=B h;rw[O]at this;cases this
    have eV:LJ (Value.slice Q L.length R) l x=(Value.slice Q L.length R):=by unfold LJ;rw[ab,O];rfl
    have eL:LM L k v n gi l=L:=by unfold LM;rw[ab,O];rfl
    rw[eV,eL]at f;refine Oq.of (b:= ?b6) ?e6 ?_
    case e6=>simp only[Al,Act.put,A8,A7,A6,e0,e5.1];rfl
    intro T J;go_simp;have W:=f.buf;have aw:∀q,(Value.slice Q L.length R).ownBlock =some q→B5≠q:=fun q V=>e5.2.ty.ne (W.ty' q V) (by decide)
    have ak:Rv P 1 (.slice (some ⟨B5,0,none⟩) [k,v].length [k,v].length) [k,v].length (Tv [k,v]):=Ih e5.2 rfl;refine(Q7 w.heap.size (Value.slice Q L.length R) L _ [k,v] W ak (by intro _ q V e;cases V;exact aw _ e rfl) 200 bc (by simp only[List.length_cons,List.length_nil];omega) (by have:=f.keep.size;omega)).mono ?_;rintro e w4 ⟨Z,rfl,Y⟩;go_simp;have a8:LJ (Value.slice Q L.length R) (upd l 6 true) (upd x 6 Z)=Z:=by unfold LJ;rw[Bs _ _ _ _ (by decide),ab,Bh];rfl
    have a7:LM L k v n gi (upd l 6 true)=L++B8 [k,v]:=by unfold LM;rw[Bs _ _ _ _ (by decide),ab,Bh];rfl
    have ai:Onto w2 w.heap.size 5 (Value.slice Q L.length R) (LM L k v n gi (upd l 6 true)) (LJ (Value.slice Q L.length R) (upd l 6 true) (upd x 6 Z)) w4:=by rw[a8,a7];exact f.trans Y
    exact J.go Z rfl ⟨B5,A,ai,fun _=>rfl,fun _=>l0,C,r,o,p,D,H,fun h=>⟨(u h).1,(u h).2.keep Y.keep (by intro S;exact aw _ (Ae.1 S) rfl)⟩,I,K,N,fun h=>⟨(G h).1,(G h).2.keep Y.keep (by intro S;exact(G h).2.ty.ne (W.ty' _ (Ae.1 S)) (by decide) rfl)⟩,M⟩
   case z1x8=>
    intro l x P E O d;obtain⟨B5,A,f,B,F,C,r,o,p,D,H,u,I,K,hr⟩:=E;have e7:=I (d.at rfl);have hT:=ac.keep f.keep ae;have c:=hT.cell 2;simp only[E8,List.getElem?_cons_succ,List.getElem?_cons_zero]at c;refine Oq.of (b:= ?b8) ?e8 ?_
    case e8=>simp only[Al,Act.put,A8,A7,A6,e7];rfl
    intro T J;go_simp;exact J.go _ rfl ⟨B5,A,f,B,F,C,r,o,p,D,H,u,I,fun _=>rfl,hr⟩
   case z1x10=>
    intro l x P E O d;obtain⟨B5,A,f,B,F,C,r,o,p,D,H,u,I,K,N,G,M⟩:=E;have e8:=K (d.at rfl);have e9:=N (d.at rfl);refine Oq.of (b:= ?b10) ?e10 ?_
    case e10=>simp only[Al,Act.put,A8,A7,A6,e8,e9];rfl
    intro T J;go_simp;exact J.go _ rfl ⟨B5,P.heap.size,f.alloc _,B,F,C,r,o,p,D,H,fun h=>⟨(u h).1,(u h).2.alloc _⟩,I,K,N,fun _=>⟨rfl,BY _ (ints [n,gi]) _⟩,M⟩
   case z1x11=>
    intro l x P E O d;obtain⟨B5,A,f,B,F,C,r,o,p,D,H,u,I,K,N,G,M⟩:=E;have e10:=G (d.at rfl);have l6:l 6=true:=by first|exact d.1 rfl|exact d.2.1 rfl|exact d.2.2.1 rfl|exact d.2.2.2.1 rfl|exact d.2.2.2.2.1 rfl|exact d.2.2.2.2.2.1 rfl
    have eV:LJ (Value.slice Q L.length R) l x=x 6:=by unfold LJ;rw[O,l6];rfl
    have eL:LM L k v n gi l=L++B8 [k,v]:=by unfold LM;rw[O,l6];rfl
    rw[eV,eL]at f;have L6:=h_ l6;clear l6;refine Oq.of (b:= ?b11) ?e11 ?_
    case e11=>simp only[Al,Act.put,A8,A7,A6,e10.1];rfl
    intro T J;go_simp;have W:=f.buf;have av:∀q,(x 6).ownBlock =some q→A≠q:=fun q V=>e10.2.ty.ne (W.ty' q V) (by decide)
    have ak:Rv P 1 (.slice (some ⟨A,0,none⟩) [n,gi].length [n,gi].length) [n,gi].length (ints [n,gi]):=Ih e10.2 rfl;refine(Ou w.heap.size (x 6) (L++B8 [k,v]) _ [n,gi] W ak (by intro _ q V e;cases V;exact av _ e rfl) ax (by rw[Aj];simp only[List.length_cons,List.length_nil];omega) (by have:=f.keep.size;omega)).mono ?_;rintro e w4 ⟨Z,rfl,Y⟩;go_simp;have ai:Onto w2 w.heap.size 5 (Value.slice Q L.length R) (LM L k v n gi (upd l 11 true)) (LJ (Value.slice Q L.length R) (upd l 11 true) (upd x 11 Z)) w4:=f.trans Y;exact J.go Z rfl ⟨B5,A,ai,fun _=>L6.out,F,C,r,o,p,D,H,fun h=>⟨(u h).1,(u h).2.keep Y.keep (by intro S;exact(u h).2.ty.ne (W.ty' _ (Ae.1 S)) (by decide) rfl)⟩,I,K,N,fun h=>⟨(G h).1,(G h).2.keep Y.keep (by intro S;exact av _ (Ae.1 S) rfl)⟩,fun h=>absurd ((M h).2.symm.trans O) (by decide)⟩
   case z1x12=>
    intro l x P E O d;obtain⟨B5,A,f,B,F,C,r,o,p,D,H,u,I,K,N,G,M⟩:=E;have ab:l 11=true:=by first|exact d.1 rfl|exact d.2.1 rfl|exact d.2.2.1 rfl|exact d.2.2.2.1 rfl|exact d.2.2.2.2.1 rfl|exact d.2.2.2.2.2.1 rfl
    refine Oq.of (b:= ?b12) ?e12 ?_
    case e12=>simp only[Al,Act.put,A8,A7,A6];rfl
    intro T J;go_simp;exact J.go _ rfl ⟨B5,A,f,B,F,fun h=>Bool.noConfusion (show true=false from h),r,o,p,D,H,u,I,K,N,G,fun _=>⟨rfl,ab⟩⟩
   case z1xf=>
    intro l' x w3 E hl;obtain⟨B5,A,f,B,F,C,r,o,p,D,H,u,I,K,N,G,M⟩:=E;have e12:=(M (hl 12 (by decide))).1;have eV:LJ (Value.slice Q L.length R) l' x=x 11:=by unfold LJ;rw[hl 11 (by decide)];rfl
    have eL:LM L k v n gi l'=L++B8 [k,v]++BL [n,gi]:=by unfold LM;rw[hl 11 (by decide)];rfl
    rw[eV,eL]at f;simp only[Al,Act.put,A8,A7,A6,e12];have ba:=K2.then f.keep (by intro y X bj;have e:=Ae.1 X;have:=(ah.lt _ e).1;omega);have a9:=f.buf;have bo:=Hc [n,gi] ax;clear r o p D H u I K N G M hl f eV eL e12 B F C ae;generalize x 11=v2 at*;go_wp2
    go_roundw
    case rel=>
     refine⟨j+1,by omega,by go_num, ?_, ?_, ?_,ba⟩
     ·rw[ag.out,List.all_append,am.out]
      simp only[List.all_cons,List.all_nil,Bool.and_true,Dx];exact ad.out.symm
     ·rw[ag.out,Ka,an.out,Aj]
      have:=a5.out ad.out.symm;omega
     ·rw[ag.out,Ka,an.out,aq.out,←Ax]
      exact⟨a9,fun U=>absurd U (by intro U;have o:=A3 List.length U;simp only[Aj,List.length_nil]at o;have p:=a6.out;omega)⟩
    case measure=>simp[intOf];omega
   all_goals
    intro l x P E O d;obtain⟨B5,A,f,B,F,C,r,o,p,D,H,u,I,K,N,G,M⟩:=E
    try simp[BD,Region.binds]at d
    apply Oq.of
    ·simp only[Al,Act.put,A8,A7,A6,d,r,o,p,D,H,u,I,K,N,G,M];rfl
    clear d;intro T J;go_simp;exact J.go _ rfl ⟨B5,A,f,B,F,C,by first|exact r|exact fun _=>rfl,by first|exact o|exact fun _=>rfl,by first|exact p|exact fun _=>rfl,by first|exact D|exact fun _=>rfl,by first|exact H|exact fun _=>rfl,by first|exact u|exact fun _=>rfl,by first|exact I|exact fun _=>rfl,by first|exact K|exact fun _=>rfl,by first|exact N|exact fun _=>rfl,by first|exact G|exact fun _=>rfl,by first|exact M|exact fun _=>rfl⟩
  ·obtain rfl:j=l.length:=by omega
   have o:l.take l.length=l:=Ba (Av _);have HA:=am.out;rw[o]at HA;have hE:BM l=CE l:=by unfold BM;rw[Ay HA]
   obtain⟨HE,H1⟩:=i_2 hE o;clear hE o;go_wp2;go_ret;refine⟨_,rfl,⟨?_, ?_⟩,hK⟩
   ·rw[HE.out]
    have h:=hB;rw[H1.out]at h;show Buf _ _ _ (Value.slice Q (CE (l.take l.length)).length R) _;rw[H1.out];exact h
   ·intro U
    rw[HE.out]at U;exact a4.out (by rw[H1.out];exact U)
theorem IR (l:List Nat)(a:∀c∈l,c<256)(h:(BR l).2.2 =0):1≤(BR l).2.1 ∧(BR l).2.1 ≤l.length∧(BR l).1.length ≤l.length∧∀c∈(BR l).1,c<256:=by
 have b:=Fq l 0 0 (by omega) (by simp) a;have d:get l=D2 l 0 0:=rfl;rw[←d]at b;unfold BR at h⊢;generalize get l=g at*;obtain⟨n,k,e⟩:=g;simp only at b h⊢
 split
 ·rename_i h0;rw[Ay h0]at h;exact absurd h h0
 ·rename_i h0
  rw[Aw h0]at h
  split
  ·rename_i h1;rw[Ay h1]at h;simp at h
  ·rename_i h1
   rw[Aw h1]at h
   split
   ·rename_i h2;rw[Ay h2]at h;simp at h
   ·rename_i h2
    have i:1≤k∧k≤l.length:=by omega
    refine⟨by simp only;omega,by simp only;omega,by simp only[Az,A5];omega, ?_⟩;intro c f;exact a c (AB (AH f))
theorem PI:∀(m:Nat) (l:List Nat),(∀c∈l,c<256)→(B4 l m).2.1 ≤l.length:=by
 intro m
 induction m with
 |zero=>intro l _;simp[B4]
 |succ m ih=>
  intro l a;have e:=Fq l 0 0 (by omega) (by simp) a;have b:get l=D2 l 0 0:=rfl;rw[←b]at e;have:=ih (l.drop (get l).2.1) (fun c d=>a c (AB d));unfold B4
  split
  ·simp
  ·simp only
   split
   ·simp
   ·rw[A5]at this;omega
def LP (b:List Nat):Option (It×Nat):=
 if(BR b).2.2 ≠0 then none else
 if(BR (b.drop (BR b).2.1)).2.2 ≠0 then none else
 if(B4 (b.drop ((BR b).2.1 +(BR (b.drop (BR b).2.1)).2.1)) 2).2.2 ≠0 then none else
 some ((toStr (BR b).1,toStr (BR (b.drop (BR b).2.1)).1,(B4 (b.drop ((BR b).2.1 +(BR (b.drop (BR b).2.1)).2.1)) 2).1.getD 0 0,(B4 (b.drop ((BR b).2.1 +(BR (b.drop (BR b).2.1)).2.1)) 2).1.getD 1 0==1),
  (BR b).2.1 +(BR (b.drop (BR b).2.1)).2.1 +(B4 (b.drop ((BR b).2.1 +(BR (b.drop (BR b).2.1)).2.1)) 2).2.1)
def JS:Nat→List Nat→Option (List It)
 |0,_=>some []
 |f+1,b=>if b=[]then some []else match LP b with
  |none=>none
  |some (y,n)=>(JS f (b.drop n)).map (y:: ·)
theorem Qe (f:Nat):JS f []=some []:=by cases f<;>rfl
def Fp (b:List Nat):Option (List It):=match JS b.length b with
 |none=>none
 |some l=>if BM l=b∧b≠[]then some l else none
theorem Wp (y:It)(h:Dj y=true)(r:List Nat):LP (Dc y++r)=some (y,(Dc y).length):=by
 obtain⟨k,v,n,g⟩:=y;obtain⟨f,i,j,l,m⟩:=JR h;simp only at f i j l m;have s:Dc (k,v,n,g)++r=Cf k++(Cf v++(BL [n,gN g]++r)):=by simp[Dc,B8,Ax]
 have d:=Hw k (by omega) (Cf v++(BL [n,gN g]++r));have e:=Hw v (by omega) (BL [n,gN g]++r);have q:∀z∈[n,gN g],II z:=by intro z c;simp at c;rcases c with rfl|rfl;exact⟨by omega,by omega⟩;exact RE _
 have a:=Kh [n,gN g] r q;rw[show[n,gN g].length =2 from rfl]at a;have b:(Cf k++(Cf v++(BL [n,gN g]++r))).drop (Cf k).length =Cf v++(BL [n,gN g]++r):=by rw[Cp rfl]
 have o:(Cf k++(Cf v++(BL [n,gN g]++r))).drop ((Cf k).length +(Cf v).length)=BL [n,gN g]++r:=by rw[←Bu,b,Cp rfl]
 rw[s];unfold LP;rw[d];simp only[ne_eq,E5,D1,b];rw[e];simp only[ne_eq,E5,D1,o];rw[a];simp only[ne_eq,E5,D1,KY,List.getD_cons_zero,List.getD_cons_succ];have p:(gN g==1)=g:=by cases g<;>rfl
 rw[p];simp[Dc,B8,Aj,Cv]
theorem TJ (y:It):0<(Dc y).length :=by unfold Dc;rw[Aj];have:=FG y.1 y.2.1;omega
theorem Wn:∀(l:List It) (f:Nat),l.all Dj=true→(CE l).length ≤f→JS f (CE l)=some l:=by
 intro l
 induction l with
 |nil=>intro f _ _;exact Qe f
 |cons y l ih=>
  intro f h c;simp only[List.all_cons,Ar]at h;have e:CE (y::l)=Dc y++CE l:=by simp[CE]
  have g:=TJ y;rw[e,Aj]at c
  cases f with
  |zero=>omega
  |succ f=>
   rw[e];have d:¬(Dc y++CE l=[]):=by intro a;have b:=A3 List.length a;rw[Aj,List.length_nil]at b;omega
   unfold JS;rw[Aw d,Wp y h.1];simp only;rw[Cp rfl,ih f h.2 (by omega)];rfl
theorem Uj (l:List It)(h:BM l≠[]):Fp (BM l)=some l:=by
 have a:l.all Dj=true:=by
  cases b:l.all Dj with
  |true=>rfl
  |false=>exact absurd (by unfold BM;rw[b];rfl) h
 have e:BM l=CE l:=by unfold BM;rw[Ay a]
 unfold Fp;rw[e,Wn l _ a (Av _)];rw[e]at h;simp only;rw[Ay ⟨e,h⟩]
theorem Uz (f:Nat)(b:List Nat)(y:It)(n:Nat)(a:b≠[])(h:LP b=some (y,n)):JS (f+1) b=(JS f (b.drop n)).map (y:: ·):=by simp only[JS];rw[Aw a,h]
theorem Wo (f:Nat)(b:List Nat)(a:b≠[])(h:LP b=none):JS (f+1) b=none:=by simp only[JS];rw[Aw a,h]
def GotIts (w:World)(b:List Nat)(e:Ending)(a:World):Prop:=Keep [] w a∧
 ((∃l v,Fp b=some l∧e=.returned (.tuple #[v,.int .i64 0])∧JW a w.heap.size v l)∨(Fp b=none∧e=.returned (.tuple #[.slice none 0 0,.int .i64 1])))
theorem Sx (t:ByteArray):∀c∈sb t,c<256:=by intro c a;unfold sb at a;obtain⟨x,_,rfl⟩:=AI.1 a;have:=x.toNat_lt;omega
theorem QY (y:It):∀c∈Dc y,c<256:=by
 intro c a;unfold Dc B8 at a;simp only[Br,Cy,List.flatten_cons,List.flatten_nil,AE,Ag,Cf]at a;rcases a with((a|a)|(a|a))|a
 ·exact L5 _ c a
 ·exact Sx _ c a
 ·exact L5 _ c a
 ·exact Sx _ c a
 ·exact Io _ c a
theorem LB (l:List It):∀c∈BM l,c<256:=by
 intro c a;unfold BM at a
 split at a
 ·unfold CE at a
  obtain⟨p,d,b⟩:=DY.1 a;obtain⟨y,_,rfl⟩:=AI.1 d;exact QY y c b
 ·cases a
theorem Ui (l:List It):(BM l).length ≤300*l.length:=by
 unfold BM
 split
 ·rename_i h
  induction l with
  |nil=>simp[CE]
  |cons y l ih=>
   simp only[List.all_cons,Ar]at h;have a:=MH h.1;have b:=ih h.2;have e:CE (y::l)=Dc y++CE l:=by simp[CE]
   rw[e,Aj,List.length_cons];omega
 ·simp
theorem set2 (w:World)(b a:Nat)(n g:Int):DR w [some ⟨b,2,none⟩,some ⟨a,0,none⟩] [n,g]=(w.setCell ⟨b,2,none⟩ (.int .i64 n)).setCell ⟨a,0,none⟩ (.int .i64 g):=rfl
theorem rd_add {w:World}{a:Option Addr}{n cap:Nat}{l:List Nat}(h:Rd w (.slice a n cap) l)(k:Nat)(r:k≤l.length):Rd w (.slice (a.map fun x=>x.add k) (l.length-k) (cap-k)) (l.drop k):=by
 obtain⟨s,o,p,d,q,f⟩:=h;simp only[Bn]at d;obtain⟨rfl,_,rfl⟩:=d;refine⟨by simp,_,_,by rw[A5],by rw[A5];omega,fun j=> ?_⟩;rw[Bd,A5]at j;obtain⟨sb,b,rfl,m,e⟩:=f (by rw[Bd];omega);refine⟨sb,b+k, ?_,m,fun i g=> ?_⟩
 ·by_cases c:k=0
  ·subst c;simp[Addr.add]
  ·simp[Addr.add,c]
 ·rw[Bd,A5]at g
  rw[show b+k+i=b+(k+i) by omega,e (k+i) (by rw[Bd];omega)];simp[Bb,Bp,Dw]
theorem PD {w:World}{v:Value}{l:List Nat}(k:Nat)(h:Rv w 1 v (l.length-k) ((Bb l).drop k)):Rd w v (l.drop k):=by unfold Rd;rw[A5,show Bb (l.drop k)=(Bb l).drop k by simp[Bb,Dw]];exact h
theorem NT {w:World}(bv:Value)(b:List Nat)(h:Rd w bv b)(hb:∀c∈b,c<256)(hl:b.length≤100000):
  Calls Tryz.prog 273 #[bv] w (GotIts w b):=by
 obtain⟨i0,hi,dv,cc,dw⟩:=AU In;obtain⟨VS,cz,da,db,dc⟩:=AU Tryz.infoItem;have dm:=fun(W:World) (a:Option Addr) (n c:Nat)=>Lib.run_eql_slice_nil (P:=Tryz.prog) W 81 5 a n c 0 0 Ao
 obtain⟨_,ba,di,rfl,_,_⟩:=id h;have br:=h.lo;obtain⟨H,cl⟩:=i_2 hb br;clear hb br;go_enter Tryz.func273,Tryz.ntmps273;go_wp2
 go_loopw [4,5] (fun lv at_ wr=>∃(pos f:Nat) (i:List It),pos≤b.length∧at_=.int .i64 pos∧b.length-pos≤f∧JS b.length b=(JS f (b.drop pos)).map (i++ ·)∧JW wr w.heap.size lv i∧i.length≤pos∧
  (∀y∈i,y.1.size≤100000∧y.2.1.size≤100000)∧Keep [] w wr) (fun _ at_ _=>b.length-(intOf at_).toNat)
 case atStart=>exact⟨0,b.length,[],by omega,rfl,by omega,by simp,JW.nil _ _,by simp,by simp,By _ _⟩
 case round=>
  obtain⟨pos,f,i,c6,rfl,hf,hD,F,dk,b4,hK⟩:=hrel;obtain⟨I,a8⟩:=i_2 hD b4;clear hD b4;obtain⟨la,a3,rfl⟩:=F.slice;by_cases c5:pos<b.length
  ·have q0:(pos:Int)<b.length:=by omega
   obtain⟨J,rfl⟩:∃J,f=J+1:=⟨f-1,by omega⟩;have a0:b.drop pos≠[]:=by intro h0;have v:=A3 List.length h0;rw[A5,List.length_nil]at v;omega
   have au:∀c∈b.drop pos,c<256:=fun c s=>H.out c (AB s)
   have bg:(b.drop pos).length =b.length-pos:=by simp
   have b3:=Uz J (b.drop pos);have be:=Wo J (b.drop pos) a0;have j:LP (b.drop pos)=LP (b.drop pos):=rfl
   conv at j=>rhs;unfold LP
   have ae:=IR (b.drop pos) au;obtain⟨K,hk⟩:∃K,K=BR (b.drop pos):=⟨_,rfl⟩;rw[←hk]at j ae;obtain⟨HK,co,cp,ah,cd,a4⟩:=i_6 hk a0 b3 be au bg;clear hk a0 b3 be au bg;obtain⟨m,g,ke⟩:=K;simp only at j ae;have a2:Blk (wr.alloc (.cells (E8 {data:=#[]} {data:=#[]} 0 false).toArray 171)) wr.heap.size (E8 {data:=#[]} {data:=#[]} 0 false) 171:=BY _ _ _;have E:=hK.alloc (.cells (E8 {data:=#[]} {data:=#[]} 0 false).toArray 171);have N:=F.alloc (.cells (E8 {data:=#[]} {data:=#[]} 0 false).toArray 171);have X:=h.keep E (by simp);have de:w.heap.size≤wr.heap.size:=hK.size;obtain⟨k,ag⟩:∃W,W=wr.alloc (.cells (E8 {data:=#[]} {data:=#[]} 0 false).toArray 171):=⟨_,rfl⟩;rw[←ag]at a2 E N X;have cb:k.heap.size=wr.heap.size+1:=by rw[ag];simp
   go_wp2_with fail;change Calls _ _ _ (wr.alloc (.cells (E8 {data:=#[]} {data:=#[]} 0 false).toArray 171)) _;rw[←ag];have cs:=h_ cb;have a7:=h_ (show∀q,(Value.slice la i.length a3).ownBlock =some q→q<wr.heap.size from fun q d=>(F.lt q d).2);clear ag cb F hK;generalize wr.heap.size=xb at*;refine(Ks _ (b.drop pos) (rd_add X pos c6) cd.out (by rw[a4.out];omega) (m,g,ke) HK.out).mono ?_;rintro e df ⟨rfl,rfl⟩;simp only;by_cases bn:ke=0
   case neg=>
    have A:LP (b.drop pos)=none:=by rw[j,Ay bn]
    have t:Fp b=none:=by unfold Fp;rw[I.out,ah.out A];rfl
    have q1:((ke:Int) !=0)=true:=by simp;omega
    clear j A;go_wp2;go_ret2;exact⟨E,.inr ⟨t,rfl⟩⟩
   subst bn;obtain⟨bo,bp,bq,dq⟩:=ae rfl;rw[a4.out]at bp bq;rw[Aw (by simp)]at j;clear ae;have av:∀c∈b.drop (pos+g),c<256:=fun c s=>H.out c (AB s)
   have bh:(b.drop (pos+g)).length =b.length-(pos+g):=by simp
   have af:=IR (b.drop (pos+g)) av;have T:(b.drop pos).drop g=b.drop (pos+g):=by rw[Bu]
   rw[T]at j;obtain⟨V,hv⟩:∃V,V=BR (b.drop (pos+g)):=⟨_,rfl⟩;rw[←hv]at j af;obtain⟨HV,ce,a5⟩:=i_3 hv av bh;clear hv av bh T;obtain⟨o,l,ve⟩:=V;simp only at j af;obtain⟨C,a9⟩:=i_2 j af;clear j af;have q2:IntKind.i64.wrap ((pos:Int)+g)=((pos+g:Nat):Int):=by rw[A9];omega
   clear q0
   go_wp2_with (refine Et _ _ _ _ _ _ _ 5 i0 Ao hi cc _ _ _ _ (pos+g) rfl rfl rfl X (by omega) ?_;intro G Y a1)
   have bz:Rd k G (b.drop (pos+g)):=PD _ Y;refine(Ks _ (b.drop (pos+g)) bz ce.out (by rw[a5.out];omega) (o,l,ve) HV.out).mono ?_;rintro e df ⟨rfl,rfl⟩;simp only;by_cases b7:ve=0
   case neg=>
    have A:LP (b.drop pos)=none:=by rw[C.out,Ay b7]
    have t:Fp b=none:=by unfold Fp;rw[I.out,ah.out A];rfl
    have q1:((ve:Int) !=0)=true:=by simp;omega
    clear A;go_wp2;go_ret2;exact⟨E,.inr ⟨t,rfl⟩⟩
   subst b7;obtain⟨dd,b8,b9,dt⟩:=a9.out rfl;rw[a5.out]at b8 b9;have j:=C.out;rw[Aw (by simp)]at j;clear a9 C bz Y a1;have ab:∀c∈b.drop (pos+(g+l)),c<256:=fun c s=>H.out c (AB s)
   have bi:(b.drop (pos+(g+l))).length =b.length-(pos+(g+l)):=by simp
   have ad:=PJ 2 (b.drop (pos+(g+l)));have ac:=PK 2 (b.drop (pos+(g+l))) ab;have U:=PI 2 (b.drop (pos+(g+l))) ab;have T:(b.drop pos).drop (g+l)=b.drop (pos+(g+l)):=by rw[Bu]
   rw[T]at j;obtain⟨M,p⟩:∃M,M=B4 (b.drop (pos+(g+l))) 2:=⟨_,rfl⟩;rw[←p]at j ad ac U;obtain⟨HM,cf,aj⟩:=i_3 p ab bi;clear p ab bi T;obtain⟨ms,mn,me⟩:=M;simp only at j ad ac U;rw[aj.out]at U;obtain⟨C,cm,dh⟩:=i_3 j ad ac;clear j ad ac;have ak:=h_ (show pos+(g+l)≤b.length∧1≤l by omega);have cj:=h_ (show g≤b.length-pos∧m.length≤b.length∧o.length≤b.length by omega);obtain⟨cn,ck⟩:=i_2 U bo;clear dd b8 bo bp U bq b9 c5;have c4:g≤100000∧l≤100000:=by have:=ak.out;omega
   obtain⟨dn,dp⟩:=c4;clear q2;have bl:Blk (k.alloc (.cells #[.int .i64 0] 2)) k.heap.size [.int .i64 0] 2:=BY k [.int .i64 0] _
   go_wp2_with (refine Et _ _ _ _ _ _ _ 5 i0 Ao hi cc _ _ _ _ (pos+g+l) rfl rfl rfl (X.alloc _) (by have:=ak.out;omega) ?_;intro G Y a1)
   have b6:Rv (k.alloc (.cells #[.int .i64 0] 2)) 1 G (b.length-(pos+g+l)) ((Bb b).drop (pos+g+l)):=Y;have b0:Rd (k.alloc (.cells #[.int .i64 0] 2)) G (b.drop (pos+(g+l))):=by rw[←Cv];exact PD _ b6
   have aq:Blk ((k.alloc (.cells #[.int .i64 0] 2)).alloc (.cells #[pr xb 2,pr k.heap.size 0] 236)) (k.heap.size+1) (QZ [some ⟨xb,2,none⟩,some ⟨k.heap.size,0,none⟩]) 236:=Yt _ (QZ [some ⟨xb,2,none⟩,some ⟨k.heap.size,0,none⟩]) _ _ (by simp);have O:=bl.alloc (.cells #[pr xb 2,pr k.heap.size 0] 236);have Q:=(a2.alloc (.cells #[.int .i64 0] 2)).alloc (.cells #[pr xb 2,pr k.heap.size 0] 236);have L:=(N.alloc (.cells #[.int .i64 0] 2)).alloc (.cells #[pr xb 2,pr k.heap.size 0] 236);have ar:=b0.alloc (.cells #[pr xb 2,pr k.heap.size 0] 236);have an:=(E.alloc (.cells #[.int .i64 0] 2)).alloc (.cells #[pr xb 2,pr k.heap.size 0] 236);obtain⟨w2,ca⟩:∃W,W=(k.alloc (.cells #[.int .i64 0] 2)).alloc (.cells #[pr xb 2,pr k.heap.size 0] 236):=⟨_,rfl⟩;rw[←ca]at aq O Q L ar an⊢;have du:w.heap.size≤xb∧xb<k.heap.size:=⟨de,by rw[cs.out];omega⟩;have bw:∀q,G.ownBlock=some q→0<(b.drop (pos+(g+l))).length →q<w.heap.size:=fun q d hp=>cl.out q (by rw[a1]at d;exact d) (by rw[aj.out]at hp;omega)
   have c8:∀q,(Value.slice la i.length a3).ownBlock =some q→w.heap.size≤q∧q<w2.heap.size:=fun q d=>L.lt q d
   have c9:∀q,(Value.slice la i.length a3).ownBlock =some q→q≠k.heap.size∧q<k.heap.size:=fun q d=>⟨by have:=(N.lt q d).2;omega,(N.lt q d).2⟩
   clear ca bl a2 N X b0 b6 Y E h;generalize k.heap.size=gb at*;refine(Tj G _ (b.drop (pos+(g+l))) [some ⟨xb,2,none⟩,some ⟨gb,0,none⟩] ar (Ih aq rfl) cf.out (by rw[aj.out];omega) (by simp) ?_ ?_ ?_ (ms,mn,me) HM.out).mono ?_
   ·intro a ha
    simp only[Ac,BU,Am,AG]at ha;rcases ha with rfl|rfl
    ·exact⟨⟨_,Q.cell 2⟩,Q.free 2⟩
    ·exact⟨⟨_,O.cell 0⟩,O.free 0⟩
   ·intro q d hp p
    have v:=bw q d hp;simp only[DK,List.filterMap_cons,List.filterMap_nil,Option.map_some,Ac,Am,AG]at p;omega
   ·intro q d p
    have v:gb+1=q:=Option.some.inj d;simp only[DK,List.filterMap_cons,List.filterMap_nil,Option.map_some,Ac,Am,AG]at p;omega
   rintro e u ⟨rfl,D⟩;simp only at D⊢
   have ay:Keep [xb,gb] w2 u:=by rw[D];exact Ig _ _ _ _ _ (By _ _) (by intro q d;simp only[DK,List.filterMap_cons,List.filterMap_nil,Option.map_some]at d;exact d)
   have ap:Keep [] w u:=an.then ay (by intro q d bs;simp at d;omega);by_cases bu:me=0
   case neg=>
    have A:LP (b.drop pos)=none:=by rw[C.out,Ay bu]
    have t:Fp b=none:=by unfold Fp;rw[I.out,ah.out A];rfl
    have q1:((me:Int) !=0)=true:=by simp;omega
    clear A D;go_wp2;go_ret2;exact⟨ap,.inr ⟨t,rfl⟩⟩
   subst bu;have bt:=(cm.out).2 rfl
   obtain⟨n,r,rfl⟩:∃n r,ms=[n,r]:=by
    match ms,bt with
    |[a,c],_=>exact⟨a,c,rfl⟩
   have j:=C.out;rw[Aw (by simp)]at j;simp only[List.getD_cons_zero,List.getD_cons_succ]at j;rw[set2]at D;have x:Blk u xb (E8 {data:=#[]} {data:=#[]} n false) 171:=by rw[D];exact(Q.set 2 (.int .i64 n)).other (by show xb≠gb;omega) _
   have bd:Blk u gb [.int .i64 r] 2:=by rw[D];exact((O.other (a:=⟨xb,2,none⟩) (by show gb≠xb;omega) _).set 0 (.int .i64 r))
   have bb:=L.keep ay (by intro q d p;have v:=c9 q d;have Z:=L.ty q d;simp only[Ac,Am,AG]at p;have:=a7.out q d;omega);have ci:=h_ j;clear D ay Q O L aq ar an C j bw c8 bt;have g0:=bd.cell 0;simp only[List.getElem?_cons_zero]at g0;have f0:=x.free 0;have f1:=x.free 1;have f3:=x.free 3;have x0:=x.cell 0;have x1:=x.cell 1;have x3:=x.cell 3;simp only[E8,List.getElem?_cons_zero,List.getElem?_cons_succ]at x0 x1 x3;go_upto_region 16 with fail;have R:Blk (((u.setCell ⟨xb,0,none⟩ (.string (toStr m))).setCell ⟨xb,1,none⟩ (.string (toStr o))).setCell ⟨xb,3,none⟩ (.bool (r==1))) xb (E8 (toStr m) (toStr o) n (r==1)) 171:=((x.set 0 (.string (toStr m))).set 1 (.string (toStr o))).set 3 (.bool (r==1));have az:Keep [xb] u (((u.setCell ⟨xb,0,none⟩ (.string (toStr m))).setCell ⟨xb,1,none⟩ (.string (toStr o))).setCell ⟨xb,3,none⟩ (.bool (r==1))):=(((By _ _).setCell (.inl (by simp)) _).setCell (.inl (by simp)) _).setCell (.inl (by simp)) _;have al:=bb.keep az (by intro q d p;simp only[Ac,Am,AG]at p;have:=a7.out q d;omega);have ao:Keep [] w (((u.setCell ⟨xb,0,none⟩ (.string (toStr m))).setCell ⟨xb,1,none⟩ (.string (toStr o))).setCell ⟨xb,3,none⟩ (.bool (r==1))):=ap.then az (by intro q d bs;simp only[Ac,Am,AG]at d;omega);clear x bb ap az bd g0 f0 f1 f3 x0 x1 x3;generalize bm:(r==1)=gv at*;have dg:=h_ bm;clear bm;generalize cx:(((u.setCell ⟨xb,0,none⟩ (.string (toStr m))).setCell ⟨xb,1,none⟩ (.string (toStr o))).setCell ⟨xb,3,none⟩ (.bool gv))=w4 at*;clear cx;have c0:=R.cell 0;have c1:=R.cell 1;have c2:=R.cell 2;have c3:=R.cell 3;simp only[E8,List.getElem?_cons_zero,List.getElem?_cons_succ]at c0 c1 c2 c3;have cr:=h_ (show(toStr m).size ≤100000∧(toStr o).size ≤100000 by have:=cj.out;rw[KX,KX];omega);have ds:=ao.size;have bc:=BY w4 (E8 (toStr m) (toStr o) n gv) 171;have b2:=src_it (P:=Tryz.prog) Tryz.underlying172 _ _ _ _ _ _ bc;have am:=h_ (show pos+(g+l+mn)≤b.length∧1≤g by have v:=ak.out;have Z:=cn.out;have h3:=ck.out;omega);have dr:mn≤100000:=by have:=am.out;omega
   go_wp2_with (at_builtin;refine Bl _ rfl _ _ 172 172 rfl w.heap.size 171 VS _ 4 48 Tryz.underlying172 cz da db dc rfl (by decide) _ _ _ rfl (al.alloc _) _ 1 _ rfl b2 (by unfold maxLen;omega) (by omega) (by simp;omega) ?_;intro v5 w5 v Z _ h3)
   have cu:=JW.snoc v;have cw:=(ao.alloc (.cells (E8 (toStr m) (toStr o) n gv).toArray 171)).then (DJ Z) (by intro q d bs;have e:=Ae.1 d;have:=(al.lt q e).1;omega);clear v Z h3 al ao c0 c1 c2 c3 R bc b2
   go_roundw
   case rel=>
    have d:=am.out;refine⟨pos+(g+l+mn),J,i++[(toStr m,toStr o,n,gv)],d.1,by go_num,by omega, ?_,cu,by simp;omega, ?_,cw⟩
    ·have e1:=cp.out _ _ co.out ci.out
     rw[I.out,e1,Bu,Option.map_map]
     congr 1
     funext z
     simp[Function.comp_def]
    ·intro y B
     rcases Ag.1 B with B|B
     ·exact a8.out y B
     ·simp only[Ah]at B
      subst B;exact cr.out
   case measure=>have d:=am.out;simp[intOf];omega
  ·obtain rfl:pos=b.length:=by omega
   have bj:b.drop b.length=[]:=Bz (Av _)
   have bf:JS b.length b=some i:=by rw[I.out,bj,Qe];simp
   have cy:i.length≤1000000:=by omega
   have b5:∀y∈i,y.1.size≤9223372036854775807∧y.2.1.size≤9223372036854775807:=fun y B=>by have:=a8.out y B;omega
   obtain⟨ai,cq⟩:=i_2 bf b5;have bk:∀c∈BM i,c<256:=LB i;have dl:(BM i).length ≤300*i.length:=Ui i;have a6:=h_ bk;clear bj bf b5 bk;go_wp2_with fail;refine(J4 _ i F.rd cy cq.out).mono ?_;rintro e w2 ⟨cv,rfl,⟨aw,ax⟩,k2⟩;have ct:=F.keep k2 (by simp);have aa:=hK.trans k2;have bx:=h.keep aa (by simp);by_cases S:BM i=[]
   ·obtain rfl:=ax S
    have t:Fp b=none:=by unfold Fp;rw[ai.out];simp only;rw[Aw];intro s;exact s.2 (by rw[←s.1];exact S)
    clear ax;go_wp2;go_ret2;exact⟨aa,.inr ⟨t,rfl⟩⟩
   ·have c7:0<(BM i).length :=Cs.2 S
    obtain⟨cg,dj,rfl,_⟩:=aw.at' c7;have ch:=h_ S;clear ax S;by_cases d:BM i=b
    ·have b1:Fp b=some i:=by
      unfold Fp;rw[ai.out];simp only;rw[Ay ⟨d,fun e=>ch.out (by rw[d];exact e)⟩]
     obtain⟨HS,HQ⟩:=i_2 b1 d;clear b1 d;go_wp2_with fail;refine(Nm _ _ (BM i) b true aw.rd bx a6.out H.out (An HQ.out).symm).mono ?_;rintro e w' ⟨rfl,rfl⟩;go_wp2;go_ret2;exact⟨aa,.inl ⟨i,_,HS.out,rfl,ct⟩⟩
    ·have t:Fp b=none:=by
      unfold Fp;rw[ai.out];simp only;rw[Aw (fun s=>d s.1)]
     obtain⟨HS,HQ⟩:=i_2 t d;clear t d;go_wp2_with fail;refine(Nm _ _ (BM i) b false aw.rd bx a6.out H.out (Ak HQ.out).symm).mono ?_;rintro e w' ⟨rfl,rfl⟩;go_wp2;go_ret2;exact⟨aa,.inr ⟨HS.out,rfl⟩⟩
abbrev Mk:=Int×ByteArray
structure Ms where
 kind:Int
 src:Int
 dst:Int
 epoch:Int
 tick:Int
 seq:Int
 n:Int
 id:Int
 op:Int
 key:ByteArray
 err:Int
 last:Bool
 it:It
 its:List It
 mks:List Mk
 mem:List Int
 base:Int
 old:List Int
def VS:It:=(ByteArray.empty,ByteArray.empty,0,false)
def Rz:Ms:=⟨0,0,0,0,0,0,0,0,0,ByteArray.empty,0,false,VS,[],[],[],0,[]⟩
def Ey (l:List Int)(j:Nat):Prop:=1≤l.getD j 0∧l.getD j 0≤5∧(0<j→l.getD (j-1) 0<l.getD j 0)
instance (l:List Int) (j:Nat):Decidable (Ey l j):=by unfold Ey;exact inferInstance
def nodesOk (l:List Int):Bool:=decide (0<l.length)&&decide (∀j,j<l.length→Ey l j)
def NQ:Mk:=(0,ByteArray.empty)
def P2 (l:List Mk)(j:Nat):Prop:=1≤(l.getD j NQ).1 ∧(l.getD j NQ).1 ≤1099511627776∧itKey (l.getD j NQ).2 =true∧(0<j→(l.getD (j-1) NQ).1 <(l.getD j NQ).1)
instance (l:List Mk) (j:Nat):Decidable (P2 l j):=by unfold P2;exact inferInstance
def MR (l:List Mk):Bool:=decide (∀j,j<l.length→P2 l j)
def QG (g:Int)(l:List Int):Bool:=l.all fun n=>decide (0≤n∧n≤g)
def Gb (m:Ms):Bool:=decide (1≤m.kind)&&(decide (m.kind≤14)&&(!decide (m.src=m.dst)&&(QG 5 [m.src,m.dst]&&(QG 1099511627776 [m.epoch,m.tick,m.seq,m.id,m.base]&&QG 1073741824 [m.n]))))
def MS (m:Ms):Bool:=QG 2 [m.op]&&(decide (m.key.size≤40)&&QG 10 [m.err])
def FM (m:Ms):Bool:=MR m.mks&&(m.its.all Dj&&(decide (m.its.length≤4)&&(decide (m.mks.length≤4)&&((decide (m.mem.length=0)||nodesOk m.mem)&&(decide (m.old.length=0)||nodesOk m.old)))))
def mayM (m:Ms):Bool:=Gb m&&(MS m&&((decide (m.it=VS)||Dj m.it)&&FM m))
theorem Pi:∀ {l:List Int},nodesOk l=true→l.length≤5∧∀n∈l,II n:=by
 intro l h;unfold nodesOk at h;simp only[Ar,A0]at h;obtain⟨_,h⟩:=h
 have c:∀j,j<l.length→(j:Int)+1≤l.getD j 0:=by
  intro j
  induction j with
  |zero=>intro c;have:=(h 0 c).1;omega
  |succ k ih=>intro b;have a:=ih (by omega);have d:=(h (k+1) b).2.2 (by omega);rw[Nat.add_sub_cancel]at d;omega
 constructor
 ·by_cases f:l.length=0
  ·omega
  ·have a:=c (l.length-1) (by omega)
   have d:=(h (l.length-1) (by omega)).2.1;omega
 ·intro n e
  obtain⟨k,b,rfl⟩:=Dq e;have a:=(h k b);unfold Ey at a;rw[Af,Ad b,Option.getD_some]at a;unfold II;have:=a.1;have:=a.2.1;omega
theorem Tryz.infoMsg:(Tryz.prog.info? 175).map (fun i=>(i.zero,i.size,i.bytes))=some (some (.agg #[.int .i64 0,.int .i64 0,.int .i64 0,.int .i64 0,.int .i64 0,.int .i64 0,.int .i64 0,.int .i64 0,.int .i64 0,.string ByteArray.empty,.int .i64 0,.bool false,.string ByteArray.empty,.string ByteArray.empty,.int .i64 0,.bool false,.slice none 0 0,.slice none 0 0,.slice none 0 0,.int .i64 0,.slice none 0 0]),21,256):=by kernel_rfl
def Y2:=@Tryz.infoMsg
theorem Tryz.sizeMsg:(Tryz.prog.info? 175).map (·.size)=some 21:=by kernel_rfl
def C4:=@Tryz.sizeMsg
def CZ (m:Ms)(a b c d:Value):List Value:=[.int .i64 m.kind,.int .i64 m.src,.int .i64 m.dst,.int .i64 m.epoch,.int .i64 m.tick,.int .i64 m.seq,.int .i64 m.n,.int .i64 m.id,.int .i64 m.op,.string m.key,.int .i64 m.err,.bool m.last,.string m.it.1,.string m.it.2.1,.int .i64 m.it.2.2.1,.bool m.it.2.2.2,a,b,c,.int .i64 m.base,d]
abbrev Yi (m:Ms)(a b c d:Value):Value:= .agg (CZ m a b c d).toArray
theorem Hf (m:Ms)(a b c d:Option Addr)(j f k g l h nd i:Nat):∀v∈CZ m (.slice a j f) (.slice b k g) (.slice c l h) (.slice d nd i),v.oneCell'=true:=by intro v e;simp only[CZ,Ac,Am,AG]at e;rcases e with rfl|rfl|rfl|rfl|rfl|rfl|rfl|rfl|rfl|rfl|rfl|rfl|rfl|rfl|rfl|rfl|rfl|rfl|rfl|rfl|rfl<;>rfl
theorem Uk {g:Int}{l:List Int}{j:Nat}(a:j<l.length)(h:¬(0≤l.getD j 0∧l.getD j 0≤g)):QG g l=false:=by unfold QG;rw[List.all_eq_false];refine⟨l[j],BS a, ?_⟩;rw[Af,Ad a,Option.getD_some]at h;simpa using h
theorem VU {g:Int}{l:List Int}(h:∀j,j<l.length→0≤l.getD j 0∧l.getD j 0≤g):QG g l=true:=by unfold QG;rw[Cr];intro x c;obtain⟨k,b,rfl⟩:=Dq c;have a:=h k b;rw[Af,Ad b,Option.getD_some]at a;simpa using a
theorem LD {w:World}(g:Int)(y:Value)(l:List Int)(h:Rv w 1 y l.length (ints l))(J:l.length≤1000000)(r:Bool)(v:r=QG g l):
  Calls Tryz.prog 162 #[.int .i64 g,y] w fun e G=>e=.returned (.bool r)∧w=G:=by
 have c:=h_ v;clear v;obtain⟨_,a,cap,rfl,_,_⟩:=id h;go_enter Tryz.func162,Tryz.ntmps162;go_wp2
 go_loopw [9] (fun i wr=>wr=w∧∃j:Nat,i=.int .i64 j∧j≤l.length∧∀k,k<j→0≤l.getD k 0∧l.getD k 0≤g) (fun i _=>l.length-(intOf i).toNat)
 case atStart=>exact⟨rfl,0,rfl,by omega,fun k u=>absurd u (by omega)⟩
 case round=>
  obtain⟨D,j,rfl,I,d⟩:=hrel;subst D;by_cases f:j<l.length
  ·have K:(j:Int)<l.length:=by omega
   obtain⟨sb,L,H,s,_,_,p⟩:=h.at1 (by omega);simp only[Bn]at s;obtain⟨rfl,_,rfl⟩:=s;have B:=p j f;rw[Hm _ _ f]at B;have A:=h_ (show l.getD j 0=l.getD j 0 from rfl);have q:=Uk (g:=g) f
   have t:0≤l.getD j 0→l.getD j 0≤g→∀k,k<j+1→0≤l.getD k 0∧l.getD k 0≤g:=fun a b k u=>by
    by_cases C:k<j
    ·exact d k C
    ·obtain rfl:k=j:=by omega
     exact⟨a,b⟩
   obtain⟨m,z⟩:=i_2 q t;clear q t d p A;generalize l.getD j 0=x at*;by_cases n:x<0
   ·have E:decide (x<0)=true:=An n
    go_wp2;go_ret;exact⟨by rw[c.out,m.out (by omega)];rfl,rfl⟩
   ·have E:decide (x<0)=false:=Ak n
    by_cases o:g<x
    ·have F:decide (g<x)=true:=An o
     go_wp2;go_ret;exact⟨by rw[c.out,m.out (by omega)];rfl,rfl⟩
    ·have F:decide (g<x)=false:=Ak o
     go_wp2
     go_roundw
     case rel=>exact⟨by trivial,j+1,by go_num,by omega,z.out (by omega) (by omega)⟩
     case measure=>simp[intOf];omega
  ·obtain rfl:j=l.length:=by omega
   go_wp2;go_ret;exact⟨by rw[c.out,VU d];rfl,rfl⟩
theorem Mu {l:List Int}{j:Nat}(b:j<l.length)(h:¬Ey l j):nodesOk l=false:=by
 unfold nodesOk;have:¬∀j,j<l.length→Ey l j:=fun a=>h (a j b)
 rw[Ak this,Bool.and_false]
theorem NH {l:List Int}(a:0<l.length)(h:∀j,j<l.length→Ey l j):nodesOk l=true:=by unfold nodesOk;rw[An a,An h];rfl
theorem Ph {l:List Int}(a:l.length=0):nodesOk l=false:=by unfold nodesOk;rw[Ak (by omega)];rfl
theorem Dr {w:World}(B:Value)(l:List Int)(h:Rv w 1 B l.length (ints l))(M:l.length≤9223372036854775807)(r:Bool)(A:r=nodesOk l):
  Calls Tryz.prog 62 #[B] w fun e J=>e=.returned (.bool r)∧w=J:=by
 have c:=h_ A;clear A;obtain⟨_,a,cap,rfl,_,_⟩:=id h;go_enter Tryz.func62,Tryz.ntmps62;go_wp2
 go_loopw [7] (fun i wr=>wr=w∧∃j:Nat,i=.int .i64 j∧j≤l.length∧∀k,k<j→Ey l k) (fun i _=>l.length-(intOf i).toNat)
 case atStart=>exact⟨rfl,0,rfl,by omega,fun k o=>absurd o (by omega)⟩
 case round=>
  obtain⟨H,j,rfl,L,m⟩:=hrel;subst H;by_cases p:j<l.length
  ·have C:(j:Int)<l.length:=by omega
   obtain⟨sb,Q,K,z,_,_,n⟩:=h.at1 (by omega);simp only[Bn]at z;obtain⟨rfl,_,rfl⟩:=z;have v:=n j p;rw[Hm _ _ p]at v;have d:=h_ (Mu p);have D:=h_ m;have b:=h_ (show Ey l j↔1≤l.getD j 0∧l.getD j 0≤5∧(0<j→l.getD (j-1) 0<l.getD j 0)from Iff.rfl);by_cases F:j=0
   ·subst F
    clear m n
    simp only[Nat.add_zero]at v;generalize l.getD 0 0=x at*;by_cases f:x<1
    ·have q:decide (x<1)=true:=An f
     go_wp2;go_ret;exact⟨by rw[c.out,d.out (by rw[b.out];omega)];rfl,rfl⟩
    ·have q:decide (x<1)=false:=Ak f
     by_cases g:5<x
     ·have s:decide (5<x)=true:=An g
      go_wp2;go_ret;exact⟨by rw[c.out,d.out (by rw[b.out];omega)];rfl,rfl⟩
     ·have s:decide (5<x)=false:=Ak g
      go_wp2
      go_roundw
      case rel=>
       refine⟨by trivial,1,by first|rfl|go_num,by omega,fun k o=> ?_⟩;obtain rfl:k=0:=by omega
       exact b.out.2 ⟨by omega,by omega,fun h=>absurd h (by omega)⟩
      case measure=>simp[intOf];omega
   ·have E:=n (j-1) (by omega)
    rw[Hm _ _ (by omega)]at E;have N:decide ((j:Int)>0)=true:=An (by omega);have O:IntKind.i64.wrap ((j:Int)-1)=((j-1:Nat):Int):=by rw[A9];omega
    have P:((j-1:Nat):Int)<l.length:=by omega
    clear m n
    generalize l.getD j 0=x at*;generalize l.getD (j-1) 0=y at*;by_cases f:x<1
    ·have q:decide (x<1)=true:=An f
     go_wp2;go_ret;exact⟨by rw[c.out,d.out (by rw[b.out];omega)];rfl,rfl⟩
    ·have q:decide (x<1)=false:=Ak f
     by_cases g:5<x
     ·have s:decide (5<x)=true:=An g
      go_wp2;go_ret;exact⟨by rw[c.out,d.out (by rw[b.out];omega)];rfl,rfl⟩
     ·have s:decide (5<x)=false:=Ak g
      by_cases u:x≤y
      ·have I:decide (x≤y)=true:=An u
       go_wp2;go_ret;exact⟨by rw[c.out,d.out (by rw[b.out];omega)];rfl,rfl⟩
      ·have I:decide (x≤y)=false:=Ak u
       go_wp2
       go_roundw
       case rel=>
        refine⟨by trivial,j+1,by go_num,by omega,fun k o=> ?_⟩;by_cases G:k<j
        ·exact D.out k G
        ·obtain rfl:k=j:=by omega
         exact b.out.2 ⟨by omega,by omega,fun h=>by omega⟩
       case measure=>simp[intOf];omega
  ·obtain rfl:j=l.length:=by omega
   by_cases t:l.length=0
   ·have C:decide (0<(l.length:Int))=false:=Ak (by omega)
    go_wp2;go_ret;exact⟨by rw[c.out,Ph t];simp[t],rfl⟩
   ·have C:decide (0<(l.length:Int))=true:=An (by omega)
    go_wp2;go_ret;exact⟨by rw[c.out,NH (by omega) m];simp;omega,rfl⟩
theorem Yh {w:World}{b:Nat}{m:Ms}{a c d e:Value}{T:TypeId}(h:Blk w b (CZ m a c d e) T):w.cell? ⟨b,0,none⟩=some (.int .i64 m.kind):=h.cell 0
theorem SL {w:World}{b:Nat}{m:Ms}{a c d e:Value}{T:TypeId}(h:Blk w b (CZ m a c d e) T):w.cell? ⟨b,1,none⟩=some (.int .i64 m.src):=h.cell 1
theorem Yg {w:World}{b:Nat}{m:Ms}{a c d e:Value}{T:TypeId}(h:Blk w b (CZ m a c d e) T):w.cell? ⟨b,2,none⟩=some (.int .i64 m.dst):=h.cell 2
theorem msc_3 {w:World}{b:Nat}{m:Ms}{a c d e:Value}{T:TypeId}(h:Blk w b (CZ m a c d e) T):w.cell? ⟨b,3,none⟩=some (.int .i64 m.epoch):=h.cell 3
theorem Yf {w:World}{b:Nat}{m:Ms}{a c d e:Value}{T:TypeId}(h:Blk w b (CZ m a c d e) T):w.cell? ⟨b,4,none⟩=some (.int .i64 m.tick):=h.cell 4
theorem Ye {w:World}{b:Nat}{m:Ms}{a c d e:Value}{T:TypeId}(h:Blk w b (CZ m a c d e) T):w.cell? ⟨b,5,none⟩=some (.int .i64 m.seq):=h.cell 5
theorem msc_6 {w:World}{b:Nat}{m:Ms}{a c d e:Value}{T:TypeId}(h:Blk w b (CZ m a c d e) T):w.cell? ⟨b,6,none⟩=some (.int .i64 m.n):=h.cell 6
theorem msc_7 {w:World}{b:Nat}{m:Ms}{a c d e:Value}{T:TypeId}(h:Blk w b (CZ m a c d e) T):w.cell? ⟨b,7,none⟩=some (.int .i64 m.id):=h.cell 7
theorem msc_8 {w:World}{b:Nat}{m:Ms}{a c d e:Value}{T:TypeId}(h:Blk w b (CZ m a c d e) T):w.cell? ⟨b,8,none⟩=some (.int .i64 m.op):=h.cell 8
theorem Yd {w:World}{b:Nat}{m:Ms}{a c d e:Value}{T:TypeId}(h:Blk w b (CZ m a c d e) T):w.cell? ⟨b,9,none⟩=some (.string m.key):=h.cell 9
theorem VH {w:World}{b:Nat}{m:Ms}{a c d e:Value}{T:TypeId}(h:Blk w b (CZ m a c d e) T):w.cell? ⟨b,10,none⟩=some (.int .i64 m.err):=h.cell 10
theorem msc_12 {w:World}{b:Nat}{m:Ms}{a c d e:Value}{T:TypeId}(h:Blk w b (CZ m a c d e) T):w.cell? ⟨b,12,none⟩=some (.string m.it.1):=h.cell 12
theorem msc_13 {w:World}{b:Nat}{m:Ms}{a c d e:Value}{T:TypeId}(h:Blk w b (CZ m a c d e) T):w.cell? ⟨b,13,none⟩=some (.string m.it.2.1):=h.cell 13
theorem msc_14 {w:World}{b:Nat}{m:Ms}{a c d e:Value}{T:TypeId}(h:Blk w b (CZ m a c d e) T):w.cell? ⟨b,14,none⟩=some (.int .i64 m.it.2.2.1):=h.cell 14
theorem msc_15 {w:World}{b:Nat}{m:Ms}{a c d e:Value}{T:TypeId}(h:Blk w b (CZ m a c d e) T):w.cell? ⟨b,15,none⟩=some (.bool m.it.2.2.2):=h.cell 15
theorem EH {w:World}{b:Nat}{m:Ms}{a c d e:Value}{T:TypeId}(h:Blk w b (CZ m a c d e) T):w.cell? ⟨b,16,none⟩=some (a):=h.cell 16
theorem Fb {w:World}{b:Nat}{m:Ms}{c a d e:Value}{T:TypeId}(h:Blk w b (CZ m c a d e) T):w.cell? ⟨b,17,none⟩=some (a):=h.cell 17
theorem msc_18 {w:World}{b:Nat}{m:Ms}{c d a e:Value}{T:TypeId}(h:Blk w b (CZ m c d a e) T):w.cell? ⟨b,18,none⟩=some (a):=h.cell 18
theorem msc_19 {w:World}{b:Nat}{m:Ms}{a c d e:Value}{T:TypeId}(h:Blk w b (CZ m a c d e) T):w.cell? ⟨b,19,none⟩=some (.int .i64 m.base):=h.cell 19
theorem msc_20 {w:World}{b:Nat}{m:Ms}{c d e a:Value}{T:TypeId}(h:Blk w b (CZ m c d e a) T):w.cell? ⟨b,20,none⟩=some (a):=h.cell 20
def mkc (x:Mk):List Value:=[.int .i64 x.1,.string x.2]
def kc (l:List Mk):List Value:=(l.map mkc).flatten
theorem kc_len (l:List Mk):(kc l).length =l.length*2:=Iv mkc 2 (fun _=>rfl) l
abbrev KRd (w:World)(v:Value)(l:List Mk):Prop:=Rv w 2 v l.length (kc l)
theorem mks_at {w:World}{v:Value}{l:List Mk}(h:KRd w v l)(n:0<l.length):∃sb b cap,v=.slice (some ⟨sb,b,none⟩) l.length cap∧
  ∀i,i<l.length→w.cell? ⟨sb,b+i*2,none⟩=some (.int .i64 (l.getD i NQ).1)∧w.cell? ⟨sb,b+i*2+1,none⟩=some (.string (l.getD i NQ).2):=by
 have d:=kc_len l;obtain⟨o,a,cap,rfl,m,g⟩:=h;obtain⟨sb,b,rfl,p,f⟩:=g (by rw[d];omega);refine⟨sb,b,cap,rfl,fun i e=> ?_⟩
 have c:∀j,j<2→w.cell? ⟨sb,b+(i*2+j),none⟩=(mkc (l.getD i NQ))[j]?:=by intro j k;rw[f _ (by rw[d];omega)];unfold kc;rw[Gc mkc 2 (fun _=>rfl) l i j k,Ad e,Af,Ad e];rfl
 refine⟨c 0 (by omega), ?_⟩;rw[Cv];exact c 1 (by omega)
structure MsRd (w:World) (m:Ms) (vi vk vm vo:Value):Prop where
 its:IRd w vi m.its
 mks:KRd w vk m.mks
 mem:Rv w 1 vm m.mem.length (ints m.mem)
 old:Rv w 1 vo m.old.length (ints m.old)
theorem MsRd.keep {w e:World}{m:Ms}{a b c d:Value}(h:MsRd w m a b c d)(k:Keep [] w e):MsRd e m a b c d:=
 ⟨h.its.keep k (by simp),h.mks.keep k (by simp),h.mem.keep k (by simp),h.old.keep k (by simp)⟩
theorem MsRd.alloc {w:World}{m:Ms}{a b c d:Value}(h:MsRd w m a b c d)(o:Obj):MsRd (w.alloc o) m a b c d:=h.keep ((By _ _).alloc o)
structure MsSz (m:Ms):Prop where
 key:m.key.size≤9223372036854775807
 it:m.it.1.size≤9223372036854775807∧m.it.2.1.size≤9223372036854775807
 its:∀y∈m.its,y.1.size≤9223372036854775807∧y.2.1.size≤9223372036854775807
 mks:∀y∈m.mks,y.2.size≤9223372036854775807
 itsn:m.its.length≤1000000
 mksn:m.mks.length≤1000000
 memn:m.mem.length≤1000000
 oldn:m.old.length≤1000000
theorem P0 {l:List Mk}{j:Nat}(b:j<l.length)(h:¬P2 l j):MR l=false:=by unfold MR;exact Ak (fun a=>h (a j b))
theorem R1 {l:List Mk}(h:∀j,j<l.length→P2 l j):MR l=true:=by unfold MR;exact An h
theorem Ue {m:Ms}(h:MR m.mks=false):FM m=false:=by unfold FM;rw[h];rfl
theorem Uf {m:Ms}{j:Nat}{y:It}(a:m.its[j]?=some y)(h:Dj y=false):FM m=false:=by
 unfold FM
 have:m.its.all Dj=false:=by rw[List.all_eq_false];exact⟨y,Aq a,by rw[h];decide⟩
 rw[this,Bool.false_and,Bool.and_false]
theorem GM {w:World}(m:Ms)(U V M N:Value)(h:MsRd w m U V M N)(O:MsSz m)(r:Bool)(hr:r=FM m):
  Calls Tryz.prog 164 #[Yi m U V M N] w fun e w'=>e=.returned (.bool r)∧Keep [] w w':=by
 have HR:=h_ hr;clear hr;have d:=BY w (CZ m U V M N) 175;have h0:=h.alloc (.cells (CZ m U V M N).toArray 175);have K0:=(By [] w).alloc (.cells (CZ m U V M N).toArray 175);have c14:=Fb d;have c13:=EH d;have ax:=O.mksn;have ay:=O.itsn;obtain⟨_,ka,an,rfl,_,_⟩:=id h.mks;obtain⟨_,ia,am,rfl,_,_⟩:=id h.its;go_enter Tryz.func164,Tryz.ntmps164;go_wp2
 go_loopw [3,11] (fun au i wr=>∃j:Nat,i=.int .i64 j∧j≤m.mks.length∧au=.int .i64 (if j=0 then 0 else(m.mks.getD (j-1) NQ).1)∧(∀k,k<j→P2 m.mks k)∧Blk wr w.heap.size (CZ m (.slice ia m.its.length am) (.slice ka m.mks.length an) M N) 175∧Keep [] w wr) (fun _ i _=>m.mks.length-(intOf i).toNat)
 case atStart=>exact⟨0,rfl,by omega,rfl,fun k X=>absurd X (by omega),d,K0⟩
 case round=>
  clear c13 c14 d h0 K0;obtain⟨j,rfl,hj,rfl,D,d,f⟩:=hrel;have q:=h.keep f;have C:=h_ D;clear D;by_cases E:j<m.mks.length
  ·have q0:(j:Int)<m.mks.length:=by omega
   obtain⟨sb,so,c',S,ai⟩:=mks_at q.mks (by omega);simp only[Bn]at S;obtain⟨rfl,_,rfl⟩:=S;obtain⟨e0,e1⟩:=ai j E
   have ac:(m.mks.getD j NQ).2.size ≤9223372036854775807:=by rw[Af,Ad E];exact O.mks _ (BS E)
   have HB:=h_ (fun T=>Ue (P0 E T));have HN:=h_ (show P2 m.mks j↔1≤(m.mks.getD j NQ).1 ∧(m.mks.getD j NQ).1 ≤1099511627776∧itKey (m.mks.getD j NQ).2 =true∧(0<j→(m.mks.getD (j-1) NQ).1 <(m.mks.getD j NQ).1)from Iff.rfl);have HM:=h_ d;have HP:=h_ (fun h0:0<j=>(C.out (j-1) (by omega)).1);clear ai d;generalize hx:m.mks.getD j NQ=x at*;obtain⟨xs,l⟩:=x;simp only at e0 e1 ac;obtain⟨B,ad⟩:∃B:Int,B=if j=0 then 0 else(m.mks.getD (j-1) NQ).1 :=⟨_,rfl⟩
   rw[←ad];obtain⟨HL,HX⟩:=i_2 ad hx;clear hx ad;have u:Blk (wr.alloc (.cells (mkc (xs,l)).toArray 261)) wr.heap.size [.int .i64 xs,.string l] 261:=BY wr (mkc (xs,l)) 261;have d0:(wr.alloc (.cells #[.int .i64 xs,.string l] 261)).cell? ⟨wr.heap.size,0,none⟩=some (.int .i64 xs):=u.cell 0;have d1:(wr.alloc (.cells #[.int .i64 xs,.string l] 261)).cell? ⟨wr.heap.size,1,none⟩=some (.string l):=u.cell 1;have I:=f.alloc (.cells #[.int .i64 xs,.string l] 261);have ab:B=(if j=0 then 0 else(m.mks.getD (j-1) NQ).1):=HL.out
   have aj:¬(B<xs∧xs≤1099511627776∧itKey l=true)→r=false:=fun T=>by
    rw[HR.out];refine HB.out (fun hm=>T ?_);have Y:=HN.out.1 hm;rw[ab];refine⟨?_,Y.2.1,Y.2.2.1⟩
    split
    ·exact Y.1
    ·exact Y.2.2.2 (by omega)
   have ak:B<xs→xs≤1099511627776→itKey l=true→∀k,k<j+1→P2 m.mks k:=fun a b c k X=>by
    by_cases ar:k<j
    ·exact C.out k ar
    ·obtain rfl:k=j:=by omega
     rw[ab]at a;refine HN.out.2 ⟨?_,b,c, ?_⟩
     ·split at a
      ·omega
      ·have:=HP.out (by omega);show 1≤xs;omega
     ·intro h0
      rw[Aw (by omega)]at a;exact a
   obtain⟨aa,ao⟩:=i_2 aj ak;clear aj ak ab u;by_cases Q:xs≤B
   ·have q1:decide (xs≤B)=true:=An Q
    go_wp2;go_ret;exact⟨by rw[aa.out (by omega)];rfl,I⟩
   have q1:decide (xs≤B)=false:=Ak Q;by_cases R:1099511627776<xs
   ·have q2:decide (1099511627776<xs)=true:=An R
    go_wp2;go_ret;exact⟨by rw[aa.out (by omega)];rfl,I⟩
   have q2:decide (1099511627776<xs)=false:=Ak R
   cases A:itKey l with
   |false=>have o:=h_ A.symm;clear A;go_wp2_with fail;refine(KU l ac false o.out).mono ?_;rintro e G ⟨rfl,rfl⟩;go_wp2;go_ret;exact⟨by rw[aa.out (by rw[←o.out];simp)];rfl,I⟩
   |true=>
    have o:=h_ A.symm;clear A;go_wp2_with fail;refine(KU l ac true o.out).mono ?_;rintro e G ⟨rfl,rfl⟩;go_wp2
    go_roundw
    case rel=>exact⟨j+1,by go_num,by omega,by rw[Aw (by omega),Nat.add_sub_cancel,HX.out],ao.out (by omega) (by omega) o.out.symm,HM.out.alloc _,I⟩
    case measure=>simp[intOf];omega
  ·obtain rfl:j=m.mks.length:=by omega
   have ap:=h_ (R1 C.out);generalize(if m.mks.length=0 then(0:Int)else(m.mks.getD (m.mks.length-1) NQ).1)=B;have c13:=EH d;clear C E;go_wp2
   go_loopw [36] (fun i wr=>∃j:Nat,i=.int .i64 j∧j≤m.its.length∧(∀k y,k<j→m.its[k]?=some y→Dj y=true)∧Blk wr w.heap.size (CZ m (.slice ia m.its.length am) (.slice ka m.mks.length an) M N) 175∧Keep [] w wr) (fun i _=>m.its.length-(intOf i).toNat)
   case atStart=>exact⟨0,rfl,by omega,fun k y X=>absurd X (by omega),d,f⟩
   case round=>
    clear c13 d f q;obtain⟨j,rfl,hj,D,d,f⟩:=hrel;have q:=h.keep f;have C:=h_ D;clear D;by_cases E:j<m.its.length
    ·have q0:(j:Int)<m.its.length:=by omega
     obtain⟨y,J⟩:∃y,m.its[j]?=some y:=⟨_,Ad E⟩;obtain⟨sb,so,c',S,_,_,e0,e1,e2,e3⟩:=VR q.its j y J;simp only[Bn]at S;obtain⟨rfl,_,rfl⟩:=S;obtain⟨ae,af⟩:=O.its y (Aq J);have HB:=h_ (fun T=>Uf J T);obtain⟨HM,HY⟩:=i_2 d J;obtain⟨k,v,n,g⟩:=y;simp only at e0 e1 e2 e3 ae af;clear d J q;have u:Blk (wr.alloc (.cells (E8 k v n g).toArray 171)) wr.heap.size (E8 k v n g) 171:=BY wr (E8 k v n g) 171;have d0:(wr.alloc (.cells #[.string k,.string v,.int .i64 n,.bool g] 171)).cell? ⟨wr.heap.size,0,none⟩=some (.string k):=u.cell 0;have d1:(wr.alloc (.cells #[.string k,.string v,.int .i64 n,.bool g] 171)).cell? ⟨wr.heap.size,1,none⟩=some (.string v):=u.cell 1;have d2:(wr.alloc (.cells #[.string k,.string v,.int .i64 n,.bool g] 171)).cell? ⟨wr.heap.size,2,none⟩=some (.int .i64 n):=u.cell 2;have d3:(wr.alloc (.cells #[.string k,.string v,.int .i64 n,.bool g] 171)).cell? ⟨wr.heap.size,3,none⟩=some (.bool g):=u.cell 3;have I:=f.alloc (.cells #[.string k,.string v,.int .i64 n,.bool g] 171);clear u
     cases A:itMay k v n g with
     |false=>have o:=h_ A.symm;clear A;go_wp2_with fail;refine(FT k v n g ae af false o.out).mono ?_;rintro e G ⟨rfl,Z⟩;go_wp2;go_ret;exact⟨by rw[HR.out,HB.out o.out.symm];rfl,I.trans Z⟩
     |true=>
      have o:=h_ A.symm;clear A;go_wp2_with fail;refine(FT k v n g ae af true o.out).mono ?_;rintro e G ⟨rfl,Z⟩;go_wp2
      go_roundw
      case rel=>
       refine⟨j+1,by go_num,by omega,fun i z hi ag=> ?_,(HM.out.alloc _).keep Z (by simp),I.trans Z⟩;by_cases aq:i<j
       ·exact C.out i z aq ag
       ·obtain rfl:i=j:=by omega
        rw[HY.out]at ag
        cases ag
        exact o.out.symm
      case measure=>simp[intOf];omega
    ·obtain rfl:j=m.its.length:=by omega
     have D:m.its.all Dj=true:=by rw[Cr];intro y J;obtain⟨i,hi,rfl⟩:=Dq J;exact C.out i _ hi (Ad hi)
     have al:r=(decide (m.its.length≤4)&&(decide (m.mks.length≤4)&&((decide (m.mem.length=0)||nodesOk m.mem)&&(decide (m.old.length=0)||nodesOk m.old)))):=by rw[HR.out];unfold FM;rw[ap.out,D];rfl
     have H:=h_ al;clear C E D al;obtain⟨_,ma,az,rfl,_,_⟩:=id h.mem;obtain⟨_,oa,a0,rfl,_,_⟩:=id h.old;have c16:=EH d;have c17:=Fb d;have c18:=msc_18 d;have c20:=msc_20 d;have av:=O.memn;have aw:=O.oldn;by_cases Q:m.its.length≤4
     case neg=>have q1:decide ((m.its.length:Int)≤4)=false:=Ak (by omega);have F:decide (m.its.length≤4)=false:=Ak Q;go_wp2;go_ret;exact⟨by rw[H.out,F];rfl,f⟩
     have q1:decide ((m.its.length:Int)≤4)=true:=An (by omega);have F:decide (m.its.length≤4)=true:=An Q;by_cases R:m.mks.length≤4
     case neg=>have q2:decide ((m.mks.length:Int)≤4)=false:=Ak (by omega);have K:decide (m.mks.length≤4)=false:=Ak R;go_wp2;go_ret;exact⟨by rw[H.out,F,K];rfl,f⟩
     have q2:decide ((m.mks.length:Int)≤4)=true:=An (by omega);have K:decide (m.mks.length≤4)=true:=An R;by_cases W:m.mem.length=0
     ·have q3:((m.mem.length:Int)==0)=true:=by simpa using W
      have P:decide (m.mem.length=0)=true:=An W;by_cases t:m.old.length=0
      ·have q4:((m.old.length:Int)==0)=true:=by simpa using t
       have L:decide (m.old.length=0)=true:=An t;go_wp2;go_ret;exact⟨by rw[H.out,F,K,P,L];rfl,f⟩
      ·have q4:((m.old.length:Int)==0)=false:=by simpa using t
       have L:decide (m.old.length=0)=false:=Ak t;obtain⟨b,s⟩:∃b,b=nodesOk m.old:=⟨_,rfl⟩;have p:=h_ s;clear s;go_wp2_with fail;refine(Dr _ m.old q.old (by omega) b p.out).mono ?_;rintro e G ⟨rfl,rfl⟩;go_wp2;go_ret;exact⟨by rw[H.out,F,K,P,L,p.out];simp,f⟩
     ·have q3:((m.mem.length:Int)==0)=false:=by simpa using W
      have P:decide (m.mem.length=0)=false:=Ak W
      cases s:nodesOk m.mem with
      |false=>have p:=h_ s.symm;clear s;go_wp2_with fail;refine(Dr _ m.mem q.mem (by omega) false p.out).mono ?_;rintro e G ⟨rfl,rfl⟩;go_wp2;go_ret;exact⟨by rw[H.out,F,K,P,←p.out];rfl,f⟩
      |true=>
       have p:=h_ s.symm;clear s;by_cases t:m.old.length=0
       ·have q4:((m.old.length:Int)==0)=true:=by simpa using t
        have L:decide (m.old.length=0)=true:=An t;go_wp2_with fail;refine(Dr _ m.mem q.mem (by omega) true p.out).mono ?_;rintro e G ⟨rfl,rfl⟩;go_wp2;go_ret;exact⟨by rw[H.out,F,K,P,←p.out,L];rfl,f⟩
       ·have q4:((m.old.length:Int)==0)=false:=by simpa using t
        have L:decide (m.old.length=0)=false:=Ak t;obtain⟨b,s⟩:∃b,b=nodesOk m.old:=⟨_,rfl⟩;have ah:=h_ s;clear s;go_wp2_with fail;refine(Dr _ m.mem q.mem (by omega) true p.out).mono ?_;rintro e G ⟨rfl,rfl⟩;go_wp2_with fail;refine(Dr _ m.old q.old (by omega) b ah.out).mono ?_;rintro e G ⟨rfl,rfl⟩;go_wp2;go_ret;exact⟨by rw[H.out,F,K,P,←p.out,L,ah.out];simp,f⟩
theorem BA {P:Program}{c:Array Oper}{rest:List Oper}{o:Oper}{a:Act}{w:World}{Q:Exit→Act→World→Prop}(ty:TypeId)(x:Operand)(m:o.op=.load ty x)
  (g:Nat) (p:a.eval x=pr g 0) (t:TypeId) (b:Array Value) (e:Nat×Nat) (d:TypeDesc) (j:w.heap[g]?=some (.cells b t e))
  (n:P.underlying ty=some d) (i:(match d with| .struct _| .array _ _=>true|_=>false)=true) (l:(P.info? ty).map (·.size)=some b.size)
  (k:Region.wanted o (yielded c a.tmps)=true)
  (h:wpList P c Q rest (a.put o.dst (.agg b)) w):wpList P c Q (o::rest) a w:=
 wpList_step fun K f=>by rw[Ay k];exact wp_load_row ty x m g p t b e d j n i l (f _ _ h)
theorem JP {w:World}(m:Ms)(i j k l:Value)(h:MsRd w m i j k l)(C:MsSz m)(r:Bool)(hr:r=mayM m):
  Calls Tryz.prog 116 #[Yi m i j k l] w fun e w'=>e=.returned (.bool r)∧Keep [] w w':=by
 have a:=BY w (CZ m i j k l) 175;have d:=h.alloc (.cells (CZ m i j k l).toArray 175);have c:=(By [] w).alloc (.cells (CZ m i j k l).toArray 175);have t:=h_ hr;clear hr;go_enter Tryz.func116,Tryz.ntmps116;have c0:=Yh a;have c1:=SL a;have c2:=Yg a;by_cases P:m.kind<1
 ·have q1:decide (m.kind<1)=true:=An P
  have z:decide (1≤m.kind)=false:=Ak (by omega);go_wp2;go_ret;exact⟨by rw[t.out];unfold mayM Gb;rw[z];rfl,c⟩
 have q1:decide (m.kind<1)=false:=Ak P;have z:decide (1≤m.kind)=true:=An (by omega);by_cases Q:14<m.kind
 ·have q2:decide (14<m.kind)=true:=An Q
  have A:decide (m.kind≤14)=false:=Ak (by omega);go_wp2;go_ret;exact⟨by rw[t.out];unfold mayM Gb;rw[z,A];rfl,c⟩
 have q2:decide (14<m.kind)=false:=Ak Q;have A:decide (m.kind≤14)=true:=An (by omega);by_cases I:m.src=m.dst
 ·have q3:(m.src==m.dst)=true:=by simpa using I
  have E:decide (m.src=m.dst)=true:=An I;go_wp2;go_ret;exact⟨by rw[t.out];unfold mayM Gb;rw[z,A,E];rfl,c⟩
 have q3:(m.src==m.dst)=false:=by simpa using I
 have E:decide (m.src=m.dst)=false:=Ak I;obtain⟨Y,af⟩:∃b,b=QG 5 [m.src,m.dst]:=⟨_,rfl⟩;have F:=h_ af;clear af;go_wp2_with fail;have an:Rv ((w.alloc (.cells (CZ m i j k l).toArray 175)).alloc (.cells #[.int .i64 m.src,.int .i64 m.dst] 2)) 1 (.slice (some ⟨w.heap.size+1,0,none⟩) 2 2) 2 (ints [m.src,m.dst]):=Y1 _ (ints [m.src,m.dst]) 2 1 2 2 rfl (by omega) (w.heap.size+1) (by simp);refine(LD 5 _ [m.src,m.dst] an (by simp) Y F.out).mono ?_;rintro e o ⟨rfl,rfl⟩;clear an;have aa:=a.alloc (.cells #[.int .i64 m.src,.int .i64 m.dst] 2);have T:=c.alloc (.cells #[.int .i64 m.src,.int .i64 m.dst] 2);have h4:=d.alloc (.cells #[.int .i64 m.src,.int .i64 m.dst] 2);clear a c d c0 c1 c2;generalize(w.alloc (.cells (CZ m i j k l).toArray 175)).alloc (.cells #[.int .i64 m.src,.int .i64 m.dst] 2)=w4 at*;have a:=aa;have c:=T;have d:=h4;clear aa T h4
 cases Y with
 |false=>go_wp2;go_ret;exact⟨by rw[t.out];unfold mayM Gb;rw[z,A,E,←F.out];rfl,c⟩
 |true=>
 have c3:=msc_3 a;have c4:=Yf a;have c5:=Ye a;have c7:=msc_7 a;have c19:=msc_19 a;obtain⟨Z,ag⟩:∃b,b=QG 1099511627776 [m.epoch,m.tick,m.seq,m.id,m.base]:=⟨_,rfl⟩;have H:=h_ ag;clear ag;go_wp2_with fail;have ao:Rv ((w4).alloc (.cells #[.int .i64 m.epoch,.int .i64 m.tick,.int .i64 m.seq,.int .i64 m.id,.int .i64 m.base] 2)) 1 (.slice (some ⟨w4.heap.size,0,none⟩) 5 5) 5 (ints [m.epoch,m.tick,m.seq,m.id,m.base]):=Y1 _ (ints [m.epoch,m.tick,m.seq,m.id,m.base]) 2 1 5 5 rfl (by omega) (w4.heap.size) (by simp);refine(LD 1099511627776 _ [m.epoch,m.tick,m.seq,m.id,m.base] ao (by simp) Z H.out).mono ?_;rintro e o ⟨rfl,rfl⟩;clear ao;have ab:=a.alloc (.cells #[.int .i64 m.epoch,.int .i64 m.tick,.int .i64 m.seq,.int .i64 m.id,.int .i64 m.base] 2);have U:=c.alloc (.cells #[.int .i64 m.epoch,.int .i64 m.tick,.int .i64 m.seq,.int .i64 m.id,.int .i64 m.base] 2);have h5:=d.alloc (.cells #[.int .i64 m.epoch,.int .i64 m.tick,.int .i64 m.seq,.int .i64 m.id,.int .i64 m.base] 2);clear a c d c3 c4 c5 c7 c19;generalize(w4).alloc (.cells #[.int .i64 m.epoch,.int .i64 m.tick,.int .i64 m.seq,.int .i64 m.id,.int .i64 m.base] 2)=o at*;have a:=ab;have c:=U;have d:=h5;clear ab U h5
 cases Z with
 |false=>go_wp2;go_ret;exact⟨by rw[t.out];unfold mayM Gb;rw[z,A,E,←F.out,←H.out];rfl,c⟩
 |true=>
 have c6:=msc_6 a;obtain⟨b6,ah⟩:∃b,b=QG 1073741824 [m.n]:=⟨_,rfl⟩;have K:=h_ ah;clear ah;go_wp2_with fail;have ap:Rv ((o).alloc (.cells #[.int .i64 m.n] 2)) 1 (.slice (some ⟨o.heap.size,0,none⟩) 1 1) 1 (ints [m.n]):=Y1 _ (ints [m.n]) 2 1 1 1 rfl (by omega) (o.heap.size) (by simp);refine(LD 1073741824 _ [m.n] ap (by simp) b6 K.out).mono ?_;rintro e o ⟨rfl,rfl⟩;clear ap;have ac:=a.alloc (.cells #[.int .i64 m.n] 2);have V:=c.alloc (.cells #[.int .i64 m.n] 2);have h6:=d.alloc (.cells #[.int .i64 m.n] 2);clear a c d c6;generalize(o).alloc (.cells #[.int .i64 m.n] 2)=B at*;have a:=ac;have c:=V;have d:=h6;clear ac V h6
 cases b6 with
 |false=>go_wp2;go_ret;exact⟨by rw[t.out];unfold mayM Gb;rw[z,A,E,←F.out,←H.out,←K.out];rfl,c⟩
 |true=>
 have M:Gb m=true:=by unfold Gb;rw[z,A,E,←F.out,←H.out,←K.out];rfl
 clear z A E q1 q2 q3 P Q I F H K;have c8:=msc_8 a;have c9:=Yd a;have c10:=VH a;obtain⟨b7,ai⟩:∃b,b=QG 2 [m.op]:=⟨_,rfl⟩;have G:=h_ ai;clear ai;go_wp2_with fail;have aq:Rv ((B).alloc (.cells #[.int .i64 m.op] 2)) 1 (.slice (some ⟨B.heap.size,0,none⟩) 1 1) 1 (ints [m.op]):=Y1 _ (ints [m.op]) 2 1 1 1 rfl (by omega) (B.heap.size) (by simp);refine(LD 2 _ [m.op] aq (by simp) b7 G.out).mono ?_;rintro e o ⟨rfl,rfl⟩;clear aq;have ad:=a.alloc (.cells #[.int .i64 m.op] 2);have W:=c.alloc (.cells #[.int .i64 m.op] 2);have h7:=d.alloc (.cells #[.int .i64 m.op] 2);clear a c d c8 c9 c10;generalize(B).alloc (.cells #[.int .i64 m.op] 2)=w7 at*;have a:=ad;have c:=W;have d:=h7;clear ad W h7
 cases b7 with
 |false=>go_wp2;go_ret;exact⟨by rw[t.out];unfold mayM MS;rw[M,←G.out];rfl,c⟩
 |true=>
 have c9:=Yd a;have c10:=VH a;have av:=C.key;by_cases g8:40<m.key.size
 ·have q8:decide (40<(m.key.size:Int))=true:=An (by omega)
  have J:decide (m.key.size≤40)=false:=Ak (by omega);go_wp2;go_ret;exact⟨by rw[t.out];unfold mayM MS;rw[M,←G.out,J];rfl,c⟩
 have q8:decide (40<(m.key.size:Int))=false:=Ak (by omega);have J:decide (m.key.size≤40)=true:=An (by omega);obtain⟨b9,aj⟩:∃b,b=QG 10 [m.err]:=⟨_,rfl⟩;have L:=h_ aj;clear aj;go_wp2_with fail;have ar:Rv ((w7).alloc (.cells #[.int .i64 m.err] 2)) 1 (.slice (some ⟨w7.heap.size,0,none⟩) 1 1) 1 (ints [m.err]):=Y1 _ (ints [m.err]) 2 1 1 1 rfl (by omega) (w7.heap.size) (by simp);refine(LD 10 _ [m.err] ar (by simp) b9 L.out).mono ?_;rintro e o ⟨rfl,rfl⟩;clear ar;have ae:=a.alloc (.cells #[.int .i64 m.err] 2);have X:=c.alloc (.cells #[.int .i64 m.err] 2);have h9:=d.alloc (.cells #[.int .i64 m.err] 2);clear a c d c9 c10;generalize(w7).alloc (.cells #[.int .i64 m.err] 2)=w9 at*;have a:=ae;have c:=X;have d:=h9;clear ae X h9
 cases b9 with
 |false=>go_wp2;go_ret;exact⟨by rw[t.out];unfold mayM MS;rw[M,←G.out,J,←L.out];rfl,c⟩
 |true=>
 have hm:MS m=true:=by unfold MS;rw[←G.out,J,←L.out];rfl
 clear G L J q8 g8;have c12:=msc_12 a;have c13:=msc_13 a;have c14:=msc_14 a;have c15:=msc_15 a;obtain⟨u,al⟩:∃b,b=FM m:=⟨_,rfl⟩;have s:=h_ al;clear al;have am:r=((decide (m.it=VS)||Dj m.it)&&FM m):=by rw[t.out];unfold mayM;rw[M,hm,Dx,Dx]
 have v:=h_ am;clear am;obtain⟨N,O⟩:=C.it;by_cases y:m.it=VS
 ·have z1:m.it.1.toList=[]:=I5.2 (by rw[y];rfl)
  have z2:m.it.2.1.toList=[]:=I5.2 (by rw[y];rfl);have R:m.it.2.2.1=0:=by rw[y];rfl
  have S:m.it.2.2.2=false:=by rw[y];rfl
  have q:=h_ (show decide (m.it=VS)=true from An y);clear y
  go_wp2_with (refine BA 175 _ rfl w.heap.size rfl 175 (CZ m i j k l).toArray (0,0) _ a AV rfl C4 (by rfl) ?_)
  refine(GM m i j k l d C u s.out).mono ?_;rintro e o ⟨rfl,f⟩;go_wp2;go_ret;have g:r=u:=by rw[v.out,q.out,←s.out,Bool.true_or,Dx]
  exact⟨by rw[g];rfl,c.trans f⟩
 have q:=h_ (show decide (m.it=VS)=false from Ak y);have HN:=h_ y;clear y;obtain⟨x,ak⟩:∃b,b=itMay m.it.1 m.it.2.1 m.it.2.2.1 m.it.2.2.2:=⟨_,rfl⟩;have p:=h_ ak;clear ak;by_cases z1:m.it.1.toList=[]
 case neg=>
   go_wp2_with fail;refine(FT m.it.1 m.it.2.1 m.it.2.2.1 m.it.2.2.2 N O x p.out).mono ?_;rintro e o ⟨rfl,f⟩;replace a:=a.keep f (by simp);replace d:=d.keep f;replace c:=c.trans f;clear c12 c13 c14 c15 f
   cases x with
   |false=>
    go_wp2;go_ret;have g:r=false:=by rw[v.out,q.out,show Dj m.it=false from p.out.symm,CH,Bool.false_and]
    exact⟨by rw[g];rfl,c⟩
   |true=>
    go_wp2_with (refine BA 175 _ rfl w.heap.size rfl 175 (CZ m i j k l).toArray (0,0) _ a AV rfl C4 (by rfl) ?_)
    refine(GM m i j k l d C u s.out).mono ?_;rintro e B ⟨rfl,D⟩;go_wp2;go_ret;have g:r=u:=by rw[v.out,q.out,show Dj m.it=true from p.out.symm,←s.out,CH,Dx]
    exact⟨by rw[g];rfl,c.trans D⟩
 by_cases z2:m.it.2.1.toList=[]
 case neg=>
   go_wp2_with fail;refine(FT m.it.1 m.it.2.1 m.it.2.2.1 m.it.2.2.2 N O x p.out).mono ?_;rintro e o ⟨rfl,f⟩;replace a:=a.keep f (by simp);replace d:=d.keep f;replace c:=c.trans f;clear c12 c13 c14 c15 f
   cases x with
   |false=>
    go_wp2;go_ret;have g:r=false:=by rw[v.out,q.out,show Dj m.it=false from p.out.symm,CH,Bool.false_and]
    exact⟨by rw[g];rfl,c⟩
   |true=>
    go_wp2_with (refine BA 175 _ rfl w.heap.size rfl 175 (CZ m i j k l).toArray (0,0) _ a AV rfl C4 (by rfl) ?_)
    refine(GM m i j k l d C u s.out).mono ?_;rintro e B ⟨rfl,D⟩;go_wp2;go_ret;have g:r=u:=by rw[v.out,q.out,show Dj m.it=true from p.out.symm,←s.out,CH,Dx]
    exact⟨by rw[g];rfl,c.trans D⟩
 by_cases R:m.it.2.2.1=0
 case neg=>
   go_wp2_with fail;refine(FT m.it.1 m.it.2.1 m.it.2.2.1 m.it.2.2.2 N O x p.out).mono ?_;rintro e o ⟨rfl,f⟩;replace a:=a.keep f (by simp);replace d:=d.keep f;replace c:=c.trans f;clear c12 c13 c14 c15 f
   cases x with
   |false=>
    go_wp2;go_ret;have g:r=false:=by rw[v.out,q.out,show Dj m.it=false from p.out.symm,CH,Bool.false_and]
    exact⟨by rw[g];rfl,c⟩
   |true=>
    go_wp2_with (refine BA 175 _ rfl w.heap.size rfl 175 (CZ m i j k l).toArray (0,0) _ a AV rfl C4 (by rfl) ?_)
    refine(GM m i j k l d C u s.out).mono ?_;rintro e B ⟨rfl,D⟩;go_wp2;go_ret;have g:r=u:=by rw[v.out,q.out,show Dj m.it=true from p.out.symm,←s.out,CH,Dx]
    exact⟨by rw[g];rfl,c.trans D⟩
 by_cases S:m.it.2.2.2=true
 case pos=>
   have au:Hid (x=itMay m.it.1 m.it.2.1 0 true):=h_ (by have:=p.out;rw[R,S]at this;exact this);go_wp2_with fail;refine(FT m.it.1 m.it.2.1 0 true N O x au.out).mono ?_;rintro e o ⟨rfl,f⟩;replace a:=a.keep f (by simp);replace d:=d.keep f;replace c:=c.trans f;clear c12 c13 c14 c15 f
   cases x with
   |false=>
    go_wp2;go_ret;have g:r=false:=by rw[v.out,q.out,show Dj m.it=false from p.out.symm,CH,Bool.false_and]
    exact⟨by rw[g];rfl,c⟩
   |true=>
    go_wp2_with (refine BA 175 _ rfl w.heap.size rfl 175 (CZ m i j k l).toArray (0,0) _ a AV rfl C4 (by rfl) ?_)
    refine(GM m i j k l d C u s.out).mono ?_;rintro e B ⟨rfl,D⟩;go_wp2;go_ret;have g:r=u:=by rw[v.out,q.out,show Dj m.it=true from p.out.symm,←s.out,CH,Dx]
    exact⟨by rw[g];rfl,c.trans D⟩
 exact absurd (Prod.ext (UW (z1.trans (I5.2 rfl).symm)) (Prod.ext (UW (z2.trans (I5.2 rfl).symm)) (Prod.ext R (show m.it.2.2.2=false by simpa using S)))) HN.out
def GotIdx (w:World)(l:List Int)(x:Int)(e:Ending)(a:World):Prop:=∃i:Int,e=.returned (.int .i64 i)∧(0≤i↔x∈l)∧w=a
theorem Own.islice {w:World}{base:Nat}{E:TypeId}{v:Value}{l:List Int}(h:Own w base E v (ints l)):∃a cap,v=.slice a l.length cap:=by obtain⟨a,cap,rfl⟩:=h.slice;exact⟨a,cap,by rw[CK]⟩
theorem Own.irv {w:World}{base:Nat}{E:TypeId}{v:Value}{l:List Int}(h:Own w base E v (ints l)):Rv w 1 v l.length (ints l):=by have:=h.rv;rw[CK]at this;exact this
theorem VK {l:List Int}{x:Int}(h:x∈l):∃k,k<l.length∧l.getD k 0=x:=by obtain⟨k,a,rfl⟩:=Dq h;exact⟨k,a,by rw[Af,Ad a];rfl⟩
theorem PM {l:List Int}{k:Nat}(h:k<l.length):l.getD k 0∈l:=by rw[Af,Ad h];exact BS h
theorem UM {w:World}(v:Value)(l:List Int)(x:Int)(h:Rv w 1 v l.length (ints l))(D:l.length≤1000000):
  Calls Tryz.prog 185 #[v,.int .i64 x] w (GotIdx w l x):=by
 obtain⟨_,a,cap,rfl,_,_⟩:=id h;go_enter Tryz.func185,Tryz.ntmps185;go_wp2_with fail
 go_loop [8] (fun i=>∃j:Nat,i=.int .i64 j∧j≤l.length∧∀k,k<j→l.getD k 0≠x) (fun i=>l.length-(intOf i).toNat)
 case atStart=>exact⟨0,rfl,by omega,fun k c=>absurd c (by omega)⟩
 case round=>
  obtain⟨j,rfl,C,m⟩:=hrel;have g:=h_ m;clear m;by_cases f:j<l.length
  ·have E:(j:Int)<l.length:=by omega
   obtain⟨sb,F,B,o,_,_,n⟩:=h.at1 (by omega);simp only[Bn]at o;obtain⟨rfl,_,rfl⟩:=o;have s:=n j f;rw[Hm _ _ f]at s;have p:=h_ (PM f)
   have r:=h_ (show l.getD j 0≠x→∀k,k<j+1→l.getD k 0≠x from fun z k c=>by
    by_cases t:k<j
    ·exact g.out k t
    ·obtain rfl:k=j:=by omega
     exact z)
   clear n
   generalize l.getD j 0=y at*;by_cases b:x=y
   ·have A:(x==y)=true:=by simpa using b
    have d:=h_ b;clear b;go_wp2;go_ret;exact⟨_,rfl,⟨fun _=>by rw[d.out];exact p.out,fun _=>by omega⟩,rfl⟩
   ·have A:(x==y)=false:=by simpa using b
    have d:=h_ b;clear b;go_wp2_with fail
    go_round
    case rel=>exact⟨j+1,by go_num,by omega,r.out (fun e=>d.out e.symm)⟩
    case measure=>simp[intOf];omega
  ·obtain rfl:j=l.length:=by omega
   have q:=h_ (show¬x∈l from fun u=>by obtain⟨k,c,e⟩:=VK u;exact g.out k c e)
   go_wp2;go_ret;exact⟨_,rfl,⟨fun h=>absurd h (by omega),fun h=>absurd h q.out⟩,rfl⟩
theorem Ov {w:World}(v:Value)(l:List Int)(x:Int)(h:Rv w 1 v l.length (ints l))(k:l.length≤1000000)(r:Bool)(j:r=decide (x∈l)):
  Calls Tryz.prog 136 #[v,.int .i64 x] w fun e o=>e=.returned (.bool r)∧w=o:=by
 have f:=h_ j;clear j;obtain⟨_,a,cap,rfl,_,_⟩:=id h;go_enter Tryz.func136,Tryz.ntmps136;go_wp2_with fail;refine(UM _ l x h k).mono ?_;rintro e p ⟨i,rfl,g,rfl⟩;have d:=h_ g;clear g;by_cases b:0≤i
 ·have n:decide (0≤i)=true:=An b
  have c:Hid (r=true):=h_ (by rw[f.out];exact An (d.out.1 b));go_wp2;go_ret;exact⟨by rw[c.out];rfl,rfl⟩
 ·have n:decide (0≤i)=false:=Ak b
  have c:Hid (r=false):=h_ (by rw[f.out];exact Ak (fun m=>b (d.out.2 m)));go_wp2;go_ret;exact⟨by rw[c.out];rfl,rfl⟩
theorem Jh {w:World}(v:Value)(l:List Int)(h:Rv w 1 v l.length (ints l))(C:l.length≤1000000)(j:0<l.length):
  Calls Tryz.prog 82 #[v] w fun e g=>∃f,e=.returned f∧Own g w.heap.size 3 f (ints l)∧Keep [] w g:=by
 obtain⟨y,r,t,u,x⟩:=AU Tryz.infoI;obtain⟨sb,E,cap,p,_,_,_⟩:=h.at1 j;subst p;have A:=BY w [] 3;have k:=h.alloc (.cells #[] 3);have i:=(By [] w).alloc (.cells #[] 3);have s:=Rv.src (P:=Tryz.prog) k Dl (PE l);have o:Own (w.alloc (.cells #[] 3)) w.heap.size 3 (.slice (some ⟨w.heap.size,0,none⟩) 0 0) []:=⟨rfl,.inr ⟨w.heap.size,0,#[],rfl,Av _,BY w [] 3,by simp,by unfold maxLen;omega,rfl,rfl⟩⟩;have B:=fun(W:World) (a:Option Addr) (n c:Nat)=>Lib.run_eql_slice_nil (P:=Tryz.prog) W 22 3 a n c 0 0 Dl
 go_enter Tryz.func82,Tryz.ntmps82
 go_wp2_with (at_builtin;refine Bl _ rfl _ _ 22 22 rfl w.heap.size 3 y (.int .i64 0) 1 8 Dl r t u x rfl (by decide) _ 0 [] rfl o _ _ _ rfl s (by unfold maxLen;omega) (by omega) (by simp) ?_;intro F G b m _ z)
 go_ret;refine⟨_,rfl, ?_, ?_⟩
 ·rw[AP,List.nil_append]at b
  unfold Own;rw[CK];exact b
 ·exact i.then (DJ m) (fun q d D=>by change q∈[w.heap.size]at d;simp at d;omega)
def bothP (a b:List Int)(c n:Int):Bool:= !decide (n=c)&&(decide (n∈a)||decide (n∈b))
def bothL (a b:List Int)(c:Int):List Int:=([1,2,3,4,5]:List Int).filter (bothP a b c)
theorem five_take (k:Nat)(h:k<5):(([1,2,3,4,5]:List Int).take (k+1))=(([1,2,3,4,5]:List Int).take k)++[((k+1:Nat):Int)]:=by rcases(show k=0∨k=1∨k=2∨k=3∨k=4 by omega)with rfl|rfl|rfl|rfl|rfl<;>rfl
def bothU (a b:List Int)(c:Int)(k:Nat):List Int:=(([1,2,3,4,5]:List Int).take k).filter (bothP a b c)
theorem bothU_succ (a b:List Int)(c:Int)(k:Nat)(h:k<5):bothU a b c (k+1)=bothU a b c k++(if bothP a b c ((k+1:Nat):Int)=true then[((k+1:Nat):Int)]else[]):=by
 unfold bothU;rw[five_take k h,List.filter_append]
 congr 1
 by_cases d:bothP a b c ((k+1:Nat):Int)=true
 ·rw[Ay d,List.filter_cons_of_pos d];rfl
 ·rw[Aw d,List.filter_cons_of_neg d];rfl
theorem bothU_len (a b:List Int)(c:Int)(k:Nat):(bothU a b c k).length ≤5:=by unfold bothU;refine AJ (D6 _ _) ?_;simp;omega
def Q5:List (List Int):=[[1],[2],[3],[4],[5],[1,2],[1,3],[1,4],[1,5],[2,3],[2,4],[2,5],[3,4],[3,5],[4,5],[1,2,3],[1,2,4],[1,2,5],[1,3,4],[1,3,5],[1,4,5],[2,3,4],[2,3,5],[2,4,5],[3,4,5],[1,2,3,4],[1,2,3,5],[1,2,4,5],[1,3,4,5],[2,3,4,5],[1,2,3,4,5]]
theorem TV {l:List Int}(h:nodesOk l=true):l∈Q5:=by
 have n:=(Pi h).1;unfold nodesOk at h;simp only[Ar,A0]at h;obtain⟨k,h⟩:=h
 match l,n,k,h with
 |[a],_,_,h=>have f:=h 0 (by simp);simp[Ey]at f;rcases(show a=1∨a=2∨a=3∨a=4∨a=5 by omega)with rfl|rfl|rfl|rfl|rfl<;>decide
 |[a,b],_,_,h=>have f:=h 0 (by simp);have g:=h 1 (by simp);simp[Ey]at f g;rcases(show a=1∨a=2∨a=3∨a=4 by omega)with rfl|rfl|rfl|rfl<;>rcases(show b=2∨b=3∨b=4∨b=5 by omega)with rfl|rfl|rfl|rfl<;>first|omega|decide
 |[a,b,c],_,_,h=>have f:=h 0 (by simp);have g:=h 1 (by simp);have i:=h 2 (by simp);simp[Ey]at f g i;rcases(show a=1∨a=2∨a=3 by omega)with rfl|rfl|rfl<;>rcases(show b=2∨b=3∨b=4 by omega)with rfl|rfl|rfl<;>rcases(show c=3∨c=4∨c=5 by omega)with rfl|rfl|rfl<;>first|omega|decide
 |[a,b,c,d],_,_,h=>have f:=h 0 (by simp);have g:=h 1 (by simp);have i:=h 2 (by simp);have j:=h 3 (by simp);simp[Ey]at f g i j;rcases(show a=1∨a=2 by omega)with rfl|rfl<;>rcases(show b=2∨b=3 by omega)with rfl|rfl<;>rcases(show c=3∨c=4 by omega)with rfl|rfl<;>rcases(show d=4∨d=5 by omega)with rfl|rfl<;>first|omega|decide
 |[a,b,c,d,e],_,_,h=>
  have f:=h 0 (by simp);have g:=h 1 (by simp);have i:=h 2 (by simp);have j:=h 3 (by simp);have m:=h 4 (by simp);simp[Ey]at f g i j m;obtain rfl:a=1:=by omega
  obtain rfl:b=2:=by omega
  obtain rfl:c=3:=by omega
  obtain rfl:d=4:=by omega
  obtain rfl:e=5:=by omega
  decide
def Hx (l:List Int):Nat:=l.foldl (fun b n=>b|||2^n.toNat) 0
theorem RZ (l:List Int)(n:Int):Hx (l++[n])=Hx l|||2^n.toNat:=by unfold Hx;rw[Gn];rfl
theorem LV (l:List Int)(h:∀n∈l,1≤n∧n≤5):Hx l<64:=by
 have key:∀(l:List Int) (b:Nat),b<64→(∀n∈l,1≤n∧n≤5)→l.foldl (fun b n=>b|||2^n.toNat) b<64:=by
  intro l
  induction l with
  |nil=>intro b c _;exact c
  |cons a t ih=>intro b c h;have e:=h a (by simp);refine ih _ ?_ (fun n d=>h n (by simp[d]));have:2^a.toNat<2^6:=Nat.pow_lt_pow_right (by omega) (by omega);exact Nat.or_lt_two_pow (n:=6) c this
 exact key l 0 (by omega) h
theorem DH (a b:Nat)(e:a<4611686018427387904)(f:b<4611686018427387904):bits .or .i64 (a:Int) (b:Int)=((a|||b:Nat):Int):=by
 have g:a|||b<2^62:=Nat.or_lt_two_pow (by omega) (by omega)
 have c:(BitVec.ofInt 64 (a:Int)).toNat =a:=by rw[BitVec.ofInt_natCast,Ck];exact AR (by omega)
 have d:(BitVec.ofInt 64 (b:Int)).toNat =b:=by rw[BitVec.ofInt_natCast,Ck];exact AR (by omega)
 show IntKind.i64.wrap ((BitVec.ofInt 64 (a:Int)|||BitVec.ofInt 64 (b:Int)).toNat :Int)=_;rw[BitVec.toNat_or,c,d,A9];omega
theorem bits_and_i64_nat (a b:Nat)(e:a<4611686018427387904)(f:b<4611686018427387904):bits .and .i64 (a:Int) (b:Int)=((a&&&b:Nat):Int):=by
 have g:a&&&b<2^62:=Nat.and_lt_two_pow _ (by omega)
 have c:(BitVec.ofInt 64 (a:Int)).toNat =a:=by rw[BitVec.ofInt_natCast,Ck];exact AR (by omega)
 have d:(BitVec.ofInt 64 (b:Int)).toNat =b:=by rw[BitVec.ofInt_natCast,Ck];exact AR (by omega)
 show IntKind.i64.wrap ((BitVec.ofInt 64 (a:Int)&&&BitVec.ofInt 64 (b:Int)).toNat :Int)=_;rw[BitVec.toNat_and,c,d,A9];omega
def stT (a top:Int)(l:List Int):List Nat:=BL [a,top,(Hx l:Int)]
abbrev stV (a top:Int)(b:Value):Value:= .agg #[.int .i64 a,.int .i64 top,b]
theorem QL {w:World}(c top:Int)(v:Value)(l:List Int)(h:Rv w 1 v l.length (ints l))(p:∀n∈l,1≤n∧n≤5)(N:l.length≤1000)(k:II c)(I:II top):
  Calls Tryz.prog 84 #[stV c top v] w fun e z=>∃u,e=.returned u∧Buf z w.heap.size 5 u (stT c top l)∧Keep [] w z:=by
 obtain⟨_,a,cap,rfl,_,_⟩:=id h;have o:=BY w [.int .i64 c,.int .i64 top,.slice a l.length cap] 151;have D:=h.alloc (.cells #[.int .i64 c,.int .i64 top,.slice a l.length cap] 151);have C:=(By [] w).alloc (.cells #[.int .i64 c,.int .i64 top,.slice a l.length cap] 151);have c2:(w.alloc (.cells #[.int .i64 c,.int .i64 top,.slice a l.length cap] 151)).cell? ⟨w.heap.size,2,none⟩=some (.slice a l.length cap):=o.cell 2;go_enter Tryz.func84,Tryz.ntmps84;go_wp2_with fail
 go_loop [3,9] (fun b i=>∃j:Nat,i=.int .i64 j∧j≤l.length∧b=.int .i64 ((Hx (l.take j):Nat):Int)) (fun _ i=>l.length-(intOf i).toNat)
 case atStart=>exact⟨0,rfl,by omega,rfl⟩
 case round=>
  obtain⟨j,rfl,M,rfl⟩:=hrel;by_cases g:j<l.length
  ·have P:(j:Int)<l.length:=by omega
   obtain⟨sb,Q,K,k,_,_,q⟩:=D.at1 (by omega);simp only[Bn]at k;obtain⟨rfl,_,rfl⟩:=k;have G:=q j g;rw[Hm _ _ g]at G;have O:=p _ (PM g);have E:=LV (l.take j) (fun n m=>p n (AH m))
   have r:Hx (l.take (j+1))=Hx (l.take j)|||2^(l.getD j 0).toNat :=by rw[EC l 0 j g,RZ]
   have f:=h_ r;clear r q
   generalize Hx (l.take j)=B at*;generalize l.getD j 0=x at*;rcases(show x=1∨x=2∨x=3∨x=4∨x=5 by omega)with rfl|rfl|rfl|rfl|rfl
   ·have d:=DH B 2 (by omega) (by omega)
    go_wp2_with fail
    go_round
    case rel=>exact⟨j+1,by go_num,by omega,by rw[f.out];exact A3 (Value.int .i64) d⟩
    case measure=>simp[intOf];omega
   ·have d:=DH B 4 (by omega) (by omega)
    go_wp2_with fail
    go_round
    case rel=>exact⟨j+1,by go_num,by omega,by rw[f.out];exact A3 (Value.int .i64) d⟩
    case measure=>simp[intOf];omega
   ·have d:=DH B 8 (by omega) (by omega)
    go_wp2_with fail
    go_round
    case rel=>exact⟨j+1,by go_num,by omega,by rw[f.out];exact A3 (Value.int .i64) d⟩
    case measure=>simp[intOf];omega
   ·have d:=DH B 16 (by omega) (by omega)
    go_wp2_with fail
    go_round
    case rel=>exact⟨j+1,by go_num,by omega,by rw[f.out];exact A3 (Value.int .i64) d⟩
    case measure=>simp[intOf];omega
   ·have d:=DH B 32 (by omega) (by omega)
    go_wp2_with fail
    go_round
    case rel=>exact⟨j+1,by go_num,by omega,by rw[f.out];exact A3 (Value.int .i64) d⟩
    case measure=>simp[intOf];omega
  ·obtain rfl:j=l.length:=by omega
   have E:=LV l p;have s:l.take l.length=l:=Bt;have A:Hid (stT c top l=BL [c,top,((Hx l:Nat):Int)]):=h_ rfl;rw[s];clear s g;generalize Hx l=B at*;have L:(w.alloc (.cells #[.int .i64 c,.int .i64 top,.slice a l.length cap] 151)).cell? ⟨w.heap.size,0,none⟩=some (.int .i64 c):=o.cell 0;have c1:(w.alloc (.cells #[.int .i64 c,.int .i64 top,.slice a l.length cap] 151)).cell? ⟨w.heap.size,1,none⟩=some (.int .i64 top):=o.cell 1;go_wp2_with fail;have H:Rv ((w.alloc (.cells #[.int .i64 c,.int .i64 top,.slice a l.length cap] 151)).alloc (.cells #[.int .i64 c,.int .i64 top,.int .i64 (B:Int)] 2)) 1 (.slice (some ⟨w.heap.size+1,0,none⟩) 3 3) 3 (ints [c,top,(B:Int)]):=Y1 _ (ints [c,top,(B:Int)]) 2 1 3 3 rfl (by omega) (w.heap.size+1) (by simp);refine(Ou (w.heap.size+2) (.slice none 0 0) [] _ [c,top,(B:Int)] (Y4 _ _ _) H (fun _ b F=>by simp[Value.ownBlock]at F⊢) (by intro n m;simp at m;rcases m with rfl|rfl|rfl;exact k;exact I;exact⟨by omega,by omega⟩) (by simp) (by simp)).mono ?_;rintro e S ⟨R,rfl,t⟩;go_wp2;go_ret;refine⟨_,rfl, ?_, ?_⟩
   ·rw[A.out]
    exact t.buf.mono (by omega)
   ·exact(C.alloc _).trans (t.keep.mono (by intro y J _;cases J))
def rpC (r:Rp):List Value:=[.int .i64 (r.id:Int),.int .i64 (r.op:Int),.string r.key,.int .i64 (r.err:Int),.string r.val,.bool r.has]
def caC (c:Call):List Value:=[.int .i64 (c.id:Int),.int .i64 (c.op:Int),.string c.key,.int .i64 (c.node:Int),.int .i64 (c.frm:Int),.int .i64 (c.too:Int),.bool c.done]++rpC c.rp
theorem CX (c:Call):(caC c).length =13:=rfl
theorem J7 (c:Call):∀v∈caC c,v.oneCell'=true:=by intro v a;simp only[caC,rpC,List.cons_append,List.nil_append,Ac,Am,AG]at a;rcases a with rfl|rfl|rfl|rfl|rfl|rfl|rfl|rfl|rfl|rfl|rfl|rfl|rfl<;>rfl
theorem Tryz.infoCall:(Tryz.prog.info? 87).map (fun i=>(i.zero,i.size,i.bytes))=some (some (.agg #[.int .i64 0,.int .i64 0,.string ByteArray.empty,.int .i64 0,.int .i64 0,.int .i64 0,.bool false,.int .i64 0,.int .i64 0,.string ByteArray.empty,.int .i64 0,.string ByteArray.empty,.bool false]),13,128):=by kernel_rfl
structure ClAt (w:World) (p:Nat) (v:Value) (L:List Call):Prop where
 blk:Blk w p [v] 123
 own:w.ownsRow 0 87 13 v L.length (rows caC L)
 len:L.length≤10000
section
variable {w w':World} {p:Nat} {v:Value} {L:List Call}
theorem ClAt.vty (h:ClAt w p v L):∀b,v.ownBlock=some b→Ty w b 87:=C5 h.own
theorem ClAt.slice (h:ClAt w p v L):∃a cap,v=.slice a L.length cap:=A4 h.own
theorem ClAt.keep {S:List Nat}(h:ClAt w p v L)(k:Keep S w w')(c:∀q∈S,q∉p::v.ownBlock.toList):ClAt w' p v L:=
 ⟨h.blk.keep k (fun b=>c p b (Bx ..)),by
  have j:=B3 h.own;refine⟨h.own.1, ?_⟩;rcases h.own.2 with⟨a,l⟩|⟨g,cap,e,a,f,i,r⟩
  ·exact .inl ⟨a,l⟩
  ·have d:v.ownBlock=some g:=by rw[a];rfl
   exact .inr ⟨g,cap,e,a,f,by rw[k.block g (j g d).2 (fun b=>c g b (Ap _ (Ae.2 d)))];exact i,r⟩,h.len⟩
theorem U2 {w:World}:Calls Tryz.prog 66 #[] w fun e w'=>∃p,e=.returned (pr p 0)∧ClAt w' p (.slice none 0 0) []∧Keep [] w w'∧w.heap.size≤p:=by go_enter Tryz.func66,Tryz.ntmps66;go_wp2;go_ret;exact⟨_,rfl,⟨BY w _ _,AY _ _ _ 13,by simp⟩,(By _ _).alloc _,Av _⟩
theorem RR {w:World}{base:Nat}(v:Value)(L:List Call)(h:w.ownsRow base 87 13 v L.length (rows caC L))(D:L.length≤10000):
  Calls Tryz.prog 48 #[v] w fun e w'=>∃f,e=.returned f∧w'.ownsRow w.heap.size 87 13 f L.length (rows caC L)∧Keep [] w w':=by
 obtain⟨z,o,u,x,y⟩:=AU Tryz.infoCall;have s:=Fa h;have C:=fun(W:World) (a:Option Addr) (n c:Nat)=>Lib.run_eql_slice_nil (P:=Tryz.prog) W 82 87 a n c 0 0 Ge
 have k:=Wf w 87 13;have i:=(By [] w).alloc (.cells #[] 87);have t:=Rv.src (P:=Tryz.prog) (s.alloc (.cells #[] 87)) Ge (ON J7 L);obtain⟨a,cap,rfl⟩:=A4 h
 cases a with
 |none=>
  have l:L=[]:=by
   rcases h.2 with⟨_,r⟩|⟨g,cap,A,m,_⟩
   ·exact Bv r
   ·cases m
  subst l;go_enter Tryz.func48,Tryz.ntmps48;go_wp2;go_ret;exact⟨_,rfl,AY _ _ _ 13,By _ _⟩
 |some a=>
  clear h;go_enter Tryz.func48,Tryz.ntmps48
  go_wp2_with (at_builtin;refine Bl _ rfl _ _ 82 82 rfl w.heap.size 87 z _ 13 128 Ge o u x y rfl (by decide) _ 0 [] rfl k _ _ _ rfl t (by unfold maxLen;omega) (by omega) (by simp) ?_;intro F G b j _ B)
  go_ret;rw[AP,List.nil_append]at b;exact⟨_,rfl,b,i.then (DJ j) (fun q d E=>by change q∈[w.heap.size]at d;simp at d;omega)⟩
theorem Nk (h:ClAt w p v L):Calls Tryz.prog 29 #[pr p 0] w fun e w'=>∃b,e=.returned b∧w'.ownsRow w.heap.size 87 13 b L.length (rows caC L)∧Keep [] w w':=by have i:=h.blk.cell 0;have d:=h_ (RR v L h.own h.len);obtain⟨a,cap,rfl⟩:=h.slice;clear h;go_enter Tryz.func29,Tryz.ntmps29;go_wp2_with fail;refine d.out.mono ?_;rintro e j ⟨b,rfl,c,f⟩;obtain⟨g,c2,rfl⟩:=A4 c;go_wp2;go_ret;exact⟨_,rfl,c,f⟩
def Ml (id op:Nat)(key:Str)(a pos:Nat):Call:=⟨id,op,key,a,pos,0,false,⟨0,0,se,0,se,false⟩⟩
theorem Qu (h:ClAt w p v L)(W:L.length<10000)(op:Nat)(key:Str)(c pos:Nat)(X:op≤1000∧c≤1000∧pos≤1000000):
  Calls Tryz.prog 97 #[pr p 0,.int .i64 (op:Int),.string key,.int .i64 (c:Int),.int .i64 (pos:Int)] w fun e w'=>∃A,e=.returned (.int .i64 ((L.length+1:Nat):Int))∧ClAt w' p A (L++[Ml (L.length+1) op key c pos])∧Keep (p::v.ownBlock.toList) w w'∧(∀q,A.ownBlock=some q→v.ownBlock=some q∨w.heap.size≤q):=by
 obtain⟨O,H,K,M,N⟩:=AU Tryz.infoCall;have T:=h.blk.cell 0;have U:=h.blk.free 0
 have r:caC (Ml (L.length+1) op key c pos)=[.int .i64 ((L.length:Int)+1),.int .i64 (op:Int),.string key,.int .i64 (c:Int),.int .i64 (pos:Int),.int .i64 0,.bool false,.int .i64 0,.int .i64 0,.string ByteArray.empty,.int .i64 0,.string ByteArray.empty,.bool false]:=by simp[caC,Ml,rpC]
 obtain⟨D,S⟩:=i_2 h.blk h.own;have x:=h.vty;have o:∀b,v.ownBlock=some b→b≠p:=fun b l e=>by subst e;exact(x _ l).ne h.blk.ty (by decide) rfl
 have I:=h.own;have n:=B3 h.own;obtain⟨a,cap,rfl⟩:=h.slice;have t:=h_ (World.ownsRow.alloc h.own (.cells (caC (Ml (L.length+1) op key c pos)).toArray 87));have m:=KI (P:=Tryz.prog) Ge (w.alloc (.cells (caC (Ml (L.length+1) op key c pos)).toArray 87)) w.heap.size _ (CX (Ml (L.length+1) op key c pos)) (BY w (caC (Ml (L.length+1) op key c pos)) 87) (J7 _);rw[r]at t m;obtain⟨F,G⟩:=i_2 m r;have u:=h_2 o n;clear r h m x o n I;go_enter Tryz.func97,Tryz.ntmps97
 go_wp2_with (first|(at_builtin;refine Bl _ rfl _ _ 82 82 rfl 0 87 O _ 13 128 Ge H K M N rfl (by decide) _ L.length _ rfl t.out _ 1 _ rfl F.out (by unfold maxLen;omega) (by omega) (AA _) ?_;intro Y s f i _ j;have d:=(D.out.alloc (.cells [.int .i64 ((L.length:Int)+1),.int .i64 (op:Int),.string key,.int .i64 (c:Int),.int .i64 (pos:Int),.int .i64 0,.bool false,.int .i64 0,.int .i64 0,.string ByteArray.empty,.int .i64 0,.string ByteArray.empty,.bool false].toArray 87)).keep (DJ i) (fun k=>u.out.1 _ (Ae.1 k) rfl);have c1:=d.cell 0;have V:=d.free 0;obtain⟨B,C,rfl⟩:=A4 f;have E:=h_4 f i j d;clear f i j d))
 go_ret;obtain⟨o,n⟩:=u.out;obtain⟨f,i,j,d⟩:=E.out;have Q:=DJ i;have y:Keep [] w (w.alloc (.cells [.int .i64 ((L.length:Int)+1),.int .i64 (op:Int),.string key,.int .i64 (c:Int),.int .i64 (pos:Int),.int .i64 0,.bool false,.int .i64 0,.int .i64 0,.string ByteArray.empty,.int .i64 0,.string ByteArray.empty,.bool false].toArray 87)):=(By _ _).alloc _;have z:Keep [p] s (s.setCell ⟨p,0,none⟩ (.slice B (L.length+1) C)):=(By _ _).setCell (.inl (by simp)) _;have R:Keep (p::(Value.slice a L.length cap).ownBlock.toList) w (s.setCell ⟨p,0,none⟩ (.slice B (L.length+1) C)):=((y.mono (by simp)).trans (Q.mono (fun q g _=>Ap _ g))).trans (z.mono (fun q g _=>by simp at g;rw[g];exact Bx ..));have J:=y.size;refine⟨_,by push_cast;rfl,⟨d.set 0 _, ?_,by simp;omega⟩,R,fun q g=> ?_⟩
 ·rw[I8,Aj,G.out]
  refine Do f z (fun b l k=> ?_);simp only[Ah]at k;subst k;exact(C5 f _ l).ne d.ty (by decide) rfl
 ·rcases j q g with h|h
  ·exact .inl h
  ·exact .inr (AJ J h)
end
end Go.Proofs.YtnhbioehiiifdaaGreat
