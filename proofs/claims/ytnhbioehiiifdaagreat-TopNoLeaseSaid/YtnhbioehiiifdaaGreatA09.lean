import Derived.Test.YtnhbioehiiifdaaGreatA04
import Derived.Test.YtnhbioehiiifdaaGreatA05
set_option maxRecDepth 100000
set_option maxHeartbeats 16000000
set_option linter.all false
namespace Go.Proofs.YtnhbioehiiifdaaGreat
open Go.ChangeShapes Go.WideShapes Go.ChangeAt Go.RowKit
theorem Keep.cell1' {w b:World}{a:Addr}{v:Value}(k:Keep [] w b)(h:w.cell? a=some v):b.cell? a=some v:=by
 have c:a.block<w.heap.size:=by obtain⟨_,_,e,d,_⟩:=UD (w:=w) (a:=a) (by rw[h];rfl);rw[e];exact d
 exact(k.cell (p:=a) c (by simp)).trans h
def PtR (w:World)(v:Value)(L:List (Nat×Nat)):Prop:=∃g cap,v=.slice (some ⟨g,0,none⟩) L.length cap∧g<w.heap.size∧∀i a,L[i]?=some a→w.cell? ⟨g,i*2,none⟩=some (.int .u64 (a.1:Int))∧w.cell? ⟨g,i*2+1,none⟩=some (.int .i64 (a.2:Int))
theorem PtR.keep {w e:World}{v:Value}{L:List (Nat×Nat)}{S:List Nat}(h:PtR w v L)(k:Keep S w e)(l:∀b,v.ownBlock=some b→b∉S):PtR e v L:=by obtain⟨g,cap,rfl,c,n⟩:=h;have d:=l g rfl;refine⟨g,cap,rfl,AW c k.size,fun i a m=> ?_⟩;obtain⟨f,j⟩:=n i a m;exact⟨(k.cell (p:=⟨g,i*2,none⟩) c d).trans f,(k.cell (p:=⟨g,i*2+1,none⟩) c d).trans j⟩
structure RingAt (w:World) (rb ep:Nat) (mem:List Nat) (v1 v2:Value):Prop where
 blk:Blk w rb [.int .i64 (ep:Int),v1,v2] 166
 nodes:Rv w 1 v1 mem.length (ints (mem.map Int.ofNat))
 pts:PtR w v2 (ptsOf mem)
theorem Rg {L:List (Nat×Nat)}{h i:Nat}{a:Nat×Nat}(c:L[i]?=some a)(f:h≤a.1)(d:∀j b,j<i→L[j]?=some b→b.1<h):Eg L h=a.2:=by
 unfold Eg
 have:L.find? (fun p=>decide (h≤p.1))=some a:=by rw[List.find?_eq_some_iff_getElem];obtain⟨g,e⟩:=Ai.1 c;refine⟨by simpa using f,i,g,e,fun j k=> ?_⟩;have:=d j (L[j]'(by omega)) k (Ad (by omega));simp;omega
 rw[this]
theorem Rf {L:List (Nat×Nat)}{h:Nat}{a:Nat×Nat}(c:L[0]?=some a)(d:∀(j:Nat) b,L[j]?=some b→b.1<h):Eg L h=a.2:=by
 unfold Eg
 have:L.find? (fun p=>decide (h≤p.1))=none:=by rw[List.find?_eq_none];intro p f;obtain⟨j,e⟩:=Bf f;have:=d j p e;simp;omega
 rw[this]
 cases L with
 |nil=>simp at c
 |cons b L=>simp at c;rw[c]
theorem UH {w:World}(h:Value):Calls Tryz.prog 52 #[.pointer none,h] w fun e a=>e=.returned (.int .i64 0)∧a=w:=by go_enter Tryz.func52,Tryz.ntmps52;go_wp2;go_ret;exact⟨rfl,rfl⟩
theorem UJ {w:World}{A ep:Nat}{mem:List Nat}{W X:Value}(o:RingAt w A ep mem W X)(p:0<(ptsOf mem).length ∧(ptsOf mem).length ≤1000)(h:Nat)(hh:h<18446744073709551616):
  Calls Tryz.prog 52 #[pr A 0,.int .u64 (h:Int)] w fun e Y=>e=.returned (.int .i64 (Eg (ptsOf mem) h:Int))∧Keep [] w Y:=by
 have f:=o.blk.cell 2;obtain⟨g,cap,rfl,I,u⟩:=o.pts;simp only[List.getElem?_cons_succ,List.getElem?_cons_zero]at f;obtain⟨L,G⟩:∃L,L=ptsOf mem:=⟨_,rfl⟩;rw[←G]at f u p⊢;obtain⟨n,z⟩:∃n,n=L.length:=⟨_,rfl⟩;rw[←z]at f p;obtain⟨s,C,Z,aa,O⟩:=i_5 z u o.blk I f;clear G z u o I;go_enter Tryz.func52,Tryz.ntmps52;go_wp2_with fail;clear f
 go_loopw [14] (fun V wr=>∃i:Nat,V=.int .i64 (i:Int)∧i≤n∧Keep [] w wr∧∀j b,j<i→L[j]?=some b→b.1<h) (fun x _=>n+1-(intOf x).toNat)
 case atStart=>exact⟨0,rfl,AA _,By _ _,fun j b K=>absurd K (by omega)⟩
 case round=>
 obtain⟨i,rfl,R,F,H⟩:=hrel;obtain⟨d,r⟩:=i_2 F H;clear F H;by_cases S:i<n
 ·have T:decide ((i:Int)<(n:Int))=true:=An (by omega)
  obtain⟨a,c⟩:∃a,L[i]?=some a:=⟨_,Ad (by rw[←s.out];exact S)⟩;obtain⟨m,c1⟩:=C.out i a c;have q:=d.out.cell1' (a:=⟨g,i*2,none⟩) m;have N:=d.out.cell1' (a:=⟨g,i*2+1,none⟩) c1
  have M:wr.rangeAt g (i*2) [.int .u64 (a.1:Int),.int .i64 (a.2:Int)]:=fun j v l=>by
   rcases j with _|_|j
   ·simp at l;rw[←l];exact q
   ·simp at l;rw[←l];exact N
   ·simp at l
  obtain⟨B,E⟩:=i_2 c M;have D:=h_ (d.out.alloc (.cells #[.int .u64 (a.1:Int),.int .i64 (a.2:Int)] 168));clear m c1 c M q N;by_cases y:h≤a.1
  ·have q1:decide ((a.1:Int)≥(h:Int))=true:=An (by omega)
   have U:(h:Int)≤(a.1:Int):=by omega
   have t:Hid (Eg L h=a.2):=h_ (Rg B.out y r.out);clear y
   go_wp2_with (refine Bc rfl 168 _ rfl g (i*2) rfl [.int .u64 (a.1:Int),.int .i64 (a.2:Int)] _ E.out Tryz.underlying168 rfl (by rfl) ?_)
   go_ret;exact⟨by rw[t.out];first|rfl|skip,D.out⟩
  ·have U:¬(h:Int)≤(a.1:Int):=by omega
   have P:Hid (a.1<h):=h_ (by omega);clear y
   go_wp2_with (refine Bc rfl 168 _ rfl g (i*2) rfl [.int .u64 (a.1:Int),.int .i64 (a.2:Int)] _ E.out Tryz.underlying168 rfl (by rfl) ?_)
   go_roundw
   case rel=>exact⟨i+1,by go_num,by omega,D.out,fun j b K k=>by
    by_cases Q:j=i
    ·subst Q
     have:=B.out;rw[k]at this;injection this with this;rw[this];exact P.out
    ·exact r.out j b (by omega) k⟩
   case measure=>simp only[intOf];omega
 ·have J:i=n:=by omega
  have T:decide ((i:Int)<(n:Int))=false:=Ak (by omega);obtain⟨a,c⟩:∃a,L[0]?=some a:=⟨_,Ad (by rw[←s.out];exact p.1)⟩;obtain⟨m,c1⟩:=C.out 0 a c;have q:=d.out.cell1' (a:=⟨g,0*2+1,none⟩) c1;have f:=d.out.cell1' (a:=⟨A,2,none⟩) O.out;rw[Nat.zero_mul,AP]at q;have t:Hid (Eg L h=a.2):=h_ (Rf c (fun j b k=>r.out j b (by rw[J,s.out];exact(Ai.1 k).1) k));have ab:=p.1;clear m c1 c J R;go_wp2;go_ret;exact⟨by rw[t.out];first|rfl|skip,d.out⟩
end Go.Proofs.YtnhbioehiiifdaaGreat
