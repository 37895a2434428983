import Derived.Test.YtnhbioehiiifdaaGreatR10
import Derived.Test.YtnhbioehiiifdaaGreatR11
set_option maxRecDepth 100000
set_option maxHeartbeats 16000000
set_option linter.all false
namespace Go.Proofs.YtnhbioehiiifdaaGreat
open Go.ChangeShapes Go.WideShapes Go.ChangeAt Go.RowKit
def nowF (L:List Sec)(i:Nat):List Nat:=(L.getD i zeroSec).now
def genF (L:List Sec)(i:Nat):Nat:=unbe (((nowF L i).drop 4).take 6)
def badF (L:List Sec)(i:Nat):Prop:=crcSum ((nowF L i).drop 4)≠unbe ((nowF L i).take 4)
theorem Fm (L:List Sec)(i:Nat):runOf (L.getD i zeroSec)=unbe (((nowF L i).drop 10).take 4):=rfl
theorem CS (L:List Sec)(i:Nat):nowF (L.map flushSec) i=nowF L i:=by
 unfold nowF;rw[Af,Af,AN]
 cases L[i]?<;>rfl
theorem SH (a:Bool)(L:List Sec)(i:Nat):nowF (fl a L) i=nowF L i:=by
 unfold fl;split
 ·exact CS L i
 ·rfl
theorem fl_len (a:Bool)(L:List Sec):(fl a L).length =L.length:=by unfold fl;split<;>simp
theorem DF (L:List Sec)(j:Nat)(s:Sec)(i:Nat)(a:j<L.length):nowF (L.set j s) i=if i=j then s.now else nowF L i:=by
 unfold nowF;rw[Af,Af,CM];by_cases h:j=i
 ·subst h;simp[a]
 ·rw[Aw h,Aw (fun e=>h e.symm)]
theorem SegDev.congr {L d:List Sec}{a g base:Nat}{f:List Nat}{k:Nat→Nat}(h:SegDev L a g base f k)(j:∀i,i<8→nowF d (a+i)=nowF L (a+i)):SegDev d a g base f k:=by
 refine⟨fun i b c=> ?_,h.run,h.up,fun i b l c=> ?_⟩
 ·have:=h.on i b c
  rw[←this];exact j i b
 ·have:=h.off i b l c
  have e:=j i b;unfold nowF at e;rw[e];exact this
def lastG (S:List PS):Nat:=match S.getLast? with|none=>0|some s=>s.gen
structure DevOk (L:List Sec) (frm segs run:Nat) (S:List PS):Prop where
 seg:∀s∈S,∃rn,SegDev L (frm+(s.gen-1) % segs*8) s.gen s.base (encRs s.rs) rn
 zero:∀k,k<segs→(∀s∈S,(s.gen-1) % segs≠k)→∀i,i<8→nowF L (frm+k*8+i)=List.replicate 64 0
 runs:∀i,frm≤i→i<frm+segs*8→runOf (L.getD i zeroSec)≤run
 old:∀i,frm≤i→i<frm+segs*8→badF L i∨genF L i≤lastG S
structure SOk (segs:Nat) (S:List PS) (nx q:Nat):Prop where
 len:S.length≤segs
 gens:∃g0,1≤g0∧(S.length<segs→g0=1)∧∀i s,S[i]?=some s→s.gen=g0+i
 small:∀s∈S,s.gen≤q∧s.base<140737488355328
 ok:∀s∈S,(∀r∈s.rs,r.ok)∧(encRs s.rs).length ≤378∧s.rs≠[]
 pos:(S.flatMap PS.rs).Pairwise (fun a b=>a.1<b.1)
 below:∀r∈S.flatMap PS.rs,1≤r.1∧r.1<nx
 tight:∀i a b r,S[i]?=some a→S[i+1]?=some b→b.rs.head?=some r→370<(encRs a.rs).length +r.2.length
theorem DevOk.congr {L d:List Sec}{frm segs g:Nat}{S:List PS}(h:DevOk L frm segs g S)(c:∀i,frm≤i→i<frm+segs*8→nowF d i=nowF L i)(m:0<segs):DevOk d frm segs g S:=by
 refine⟨fun s n=> ?_,fun k f j i e=> ?_,fun i a b=> ?_,fun i a b=> ?_⟩
 ·obtain⟨o,l⟩:=h.seg s n
  have f:(s.gen-1) % segs<segs:=C1 _ m;exact⟨o,l.congr (fun i e=>c _ (by omega) (by omega))⟩
 ·rw[c _ (by omega) (by omega)];exact h.zero k f j i e
 ·rw[Fm,c i a b,←Fm];exact h.runs i a b
 ·have:=h.old i a b
  unfold badF genF at this⊢;rw[c i a b];exact this
theorem DevOk.flush {L:List Sec}{frm segs a:Nat}{S:List PS}(h:DevOk L frm segs a S)(b:0<segs):DevOk (L.map flushSec) frm segs a S:=h.congr (fun i _ _=>CS L i) b
theorem NP {a b m:Nat}(e:a<b)(f:b<a+m):a % m≠b % m:=by
 intro h;have c:(b-a) % m=0:=Nat.sub_mod_eq_zero_of_mod_eq h.symm;have d:b-a<m:=by omega
 rw[AR d]at c;omega
theorem US (L:List Sec)(i:Nat)(h:nowF L i=List.replicate 64 0):badF L i:=by unfold badF;rw[h,show(List.replicate 64 0).drop 4=List.replicate 60 0 by decide,show unbe ((List.replicate 64 0).take 4)=0 by decide];exact Ox
section
variable {segs nx q:Nat} {S:List PS}
theorem SOk.last (h:SOk segs S nx q){s:PS}(d:s∈S):s.gen≤lastG S:=by obtain⟨e,f,_,a⟩:=h.gens;obtain⟨i,b⟩:=Bf d;have g:=(Ai.1 b).1;unfold lastG;rw[Ci];obtain⟨t,c⟩:∃t,S[S.length-1]?=some t:=⟨_,Ad (by omega)⟩;rw[c];show s.gen≤t.gen;rw[a i s b,a _ t c];omega
theorem SOk.near (h:SOk segs S nx q){s:PS}(d:s∈S):lastG S<s.gen+segs∧1≤s.gen:=by obtain⟨e,f,_,a⟩:=h.gens;obtain⟨i,b⟩:=Bf d;have g:=(Ai.1 b).1;have j:=h.len;unfold lastG;rw[Ci];obtain⟨t,c⟩:∃t,S[S.length-1]?=some t:=⟨_,Ad (by omega)⟩;rw[c];show t.gen<s.gen+segs∧1≤s.gen;rw[a i s b,a _ t c];omega
def Fx (segs:Nat)(S:List PS)(nx:Nat):List PS:=S.filter (fun s=> !decide ((s.gen:Int)≤((lastG S+1:Nat):Int)-(segs:Int)))++[⟨lastG S+1,nx,[]⟩]
theorem DevOk.begin {L:List Sec}{frm d:Nat}(h:DevOk L frm segs d S)(l:SOk segs S nx q)(E:0<segs)(M:frm+segs*8≤L.length)(P:d<4294967200)(O:q+1<281474976710656)(x:List Nat)(b:Bool):
  DevOk ((L.set (frm+lastG S % segs*8) ⟨sgImg (lastG S+1) nx d 0 [],x,b⟩).map flushSec) frm segs d (Fx segs S nx):=by
 have J:lastG S % segs<segs:=C1 _ E
 have G:lastG S≤q:=by
  unfold lastG
  cases w:S.getLast? with
  |none=>exact AA _
  |some s=>exact(l.small s (GT w)).1
 have j:∀i,nowF ((L.set (frm+lastG S % segs*8) ⟨sgImg (lastG S+1) nx d 0 [],x,b⟩).map flushSec) i=if i=frm+lastG S % segs*8 then sgImg (lastG S+1) nx d 0 []else nowF L i:=by intro i;rw[CS,DF _ _ _ _ (by omega)]
 have v:(Fx segs S nx).getLast? =some ⟨lastG S+1,nx,[]⟩:=by unfold Fx;simp
 have A:lastG (Fx segs S nx)=lastG S+1:=by show(match(Fx segs S nx).getLast? with|none=>0|some s=>s.gen)=_;rw[v]
 have t:=I7 (lastG S+1) nx d 0 [] (by decide) (by simp) ⟨by omega,by omega⟩;refine⟨?_, ?_, ?_, ?_⟩
 ·intro s a
  unfold Fx at a;rcases Ag.1 a with a|a
  ·obtain⟨p,D⟩:=List.mem_filter.1 a
   have B:=l.near p;have K:=l.last p;have I:lastG S+1<s.gen+segs:=by simp at D;omega
   have N:(s.gen-1) % segs≠lastG S % segs:=NP (by omega) (by omega);obtain⟨F,C⟩:=h.seg s p;refine⟨F,C.congr (fun i m=> ?_)⟩;rw[j,Aw (by omega)]
  ·simp only[Ac,Am,AG]at a
   subst a;refine⟨fun _=>d,⟨?_,fun _ _=>by omega,fun _ _ _ _ _=>Av _, ?_⟩⟩
   ·intro i m f
    have:i=0:=by
     rcases f with f|f
     ·exact f
     ·simp[encRs]at f
    subst this;show nowF _ _=_;rw[j,show(lastG S+1-1)=lastG S by omega,Nat.add_zero,Ay rfl];simp[encRs]
   ·intro i m f _
    show badF _ _∨genF _ _≠_;have e:lastG S+1-1=lastG S:=by omega
    have c:=h.old (frm+lastG S % segs*8+i) (by omega) (by omega);simp only[e];unfold badF genF at c⊢;rw[j,Aw (by omega)];rcases c with c|c
    ·exact .inl c
    ·exact .inr (by omega)
 ·intro k y u i m
  have z:lastG S % segs≠k:=by have:=u ⟨lastG S+1,nx,[]⟩ (by unfold Fx;simp);simpa using this
  rw[j,Aw (by omega)];refine h.zero k y (fun s a=> ?_) i m;by_cases H:(s.gen:Int)≤((lastG S+1:Nat):Int)-(segs:Int)
  ·have B:=l.near a
   have e:s.gen-1+segs=lastG S:=by omega
   rw[←Nat.add_mod_right,e];exact z
  ·exact u s (by unfold Fx;exact A2 _ (List.mem_filter.2 ⟨a,by simp;omega⟩))
 ·intro i c n
  rw[Fm,j]
  split
  ·have:=t.r
   rw[←this];exact Av _
  ·rw[←Fm];exact h.runs i c n
 ·intro i c n
  rw[A];unfold badF genF;rw[j]
  split
  ·right
   have:=t.g;rw[←this];exact Av _
  ·rcases h.old i c n with o|o
   ·exact .inl o
   ·exact .inr (Nat.le_succ_of_le o)
end
theorem JB (a g base h:Nat)(c:List Nat)(e:Nat)(L:List Sec)(n:a+8≤L.length):∀k,k≤8→∀i,nowF (Gu a g base h c e L k) i=if a≤i∧i<a+k∧e<st0 (i-a+1)∧st0 (i-a)<c.length then sgImg g base h (i-a) c else nowF L i
 |0,_,i=>by rw[Aw (by omega)];rfl
 |k+1,hk,i=>by
  have l:=JB a g base h c e L n k (by omega) i;show nowF (if e<st0 (k+1)∧st0 k<c.length then _ else _) i=_;by_cases f:e<st0 (k+1)∧st0 k<c.length
  ·rw[Ay f,DF _ _ _ _ (by rw[GD];omega)]
   by_cases j:i=a+k
   ·subst j
    rw[Ay rfl,Ay (by rw[show a+k-a=k by omega];exact⟨by omega,by omega,f⟩),show a+k-a=k by omega]
   ·rw[Aw j,l]
    by_cases b:a≤i∧i<a+k∧e<st0 (i-a+1)∧st0 (i-a)<c.length
    ·rw[Ay b,Ay ⟨b.1,by omega,b.2.2⟩]
    ·rw[Aw b,Aw (fun d=>b ⟨d.1,by omega,d.2.2⟩)]
  ·rw[Aw f,l]
   by_cases b:a≤i∧i<a+k∧e<st0 (i-a+1)∧st0 (i-a)<c.length
   ·rw[Ay b,Ay ⟨b.1,by omega,b.2.2⟩]
   ·rw[Aw b,Aw (fun d=>by
     by_cases m:i=a+k
     ·subst m
      rw[show a+k-a=k by omega]at d;exact f d.2.2
     ·exact b ⟨d.1,by omega,d.2.2⟩)]
theorem OD {a b:List Nat}{i:Nat}(h:BK a i=BK b i)(c base d:Nat):sgImg c base d i a=sgImg c base d i b:=by unfold sgImg D8;rw[h]
theorem U5 (old ext:List Nat)(i:Nat)(h:st0 (i+1)≤old.length):BK (old++ext) i=BK old i:=by unfold BK;rw[Ic]at h;rw[C3 (by omega),BE (by rw[A5];omega)]
theorem DevOk.add {L:List Sec}{frm segs p:Nat}{A:List PS}{s:PS}(h:DevOk L frm segs p (A++[s]))(U:0<segs)(W:frm+segs*8≤L.length)(Z:p<4294967200)(r:Rcd)(I:∀x∈A,(x.gen-1) % segs≠(s.gen-1) % segs)(F:s.gen<281474976710656)
  (K:∀c∈encRs (s.rs++[r]),c<256):
  DevOk (Gu (frm+(s.gen-1) % segs*8) s.gen s.base p (encRs (s.rs++[r])) (encRs s.rs).length L 8) frm segs p (A++[⟨s.gen,s.base,s.rs++[r]⟩]):=by
 have V:(s.gen-1) % segs<segs:=C1 _ U;obtain⟨a,z⟩:∃a,a=frm+(s.gen-1) % segs*8:=⟨_,rfl⟩;obtain⟨t,w⟩:∃b,b=encRs (s.rs++[r]):=⟨_,rfl⟩;obtain⟨old,C⟩:∃b,b=encRs s.rs:=⟨_,rfl⟩;have y:t=old++J5 r:=by rw[w,C,Hn]
 rw[←z,←w,←C];have v:=JB a s.gen s.base p t old.length L (by omega) 8 (Av _);generalize Gu a s.gen s.base p t old.length L 8=L' at v⊢;have H:∀i,(i<a∨a+8≤i)→nowF L' i=nowF L i:=fun i m=>by rw[v,Aw (by omega)]
 have R:lastG (A++[⟨s.gen,s.base,s.rs++[r]⟩])=lastG (A++[s]):=by unfold lastG;simp
 have T:lastG (A++[s])=s.gen:=by unfold lastG;simp
 have D:∀c∈t,c<256:=by rw[w];exact K
 have E:=fun i (m:i<8)=>I7 s.gen s.base p i t (by omega) D ⟨F,by omega⟩
 refine⟨?_, ?_, ?_, ?_⟩
 ·intro x l
  rcases Ag.1 l with l|l
  ·obtain⟨q,o⟩:=h.seg x (A2 _ l)
   have Y:=I x l;refine⟨q,o.congr (fun i m=>H _ (by omega))⟩
  ·simp only[Ac,Am,AG]at l
   subst l;obtain⟨q,o⟩:=h.seg s (by simp);rw[←z,←C]at o;show∃q,SegDev L' (frm+(s.gen-1) % segs*8) s.gen s.base (encRs (s.rs++[r])) q;rw[←z,←w]
   have S:∀i,i<8→(i=0∨st0 i<old.length)→q i≤p:=by
    intro i m n;have f:=o.on i m n;have d:=h.runs (a+i) (by omega) (by omega);rw[Fm]at d;unfold nowF at d;rw[f]at d;have J:∀c∈old,c<256:=fun c B=>D c (by rw[y];exact A2 _ B)
    have u:=(I7 s.gen s.base (q i) i old (by omega) J ⟨F,by have:=o.run i m;omega⟩).r;omega
   refine⟨fun i=>if old.length<st0 (i+1)then p else q i,⟨?_, ?_, ?_, ?_⟩⟩
   ·intro i m n
    show nowF L' (a+i)=_;rw[v];have e:a+i-a=i:=by omega
    rw[e];by_cases f:old.length<st0 (i+1)
    ·have d:st0 i<t.length:=by
      rcases n with n|n
      ·subst n
       rw[y,Aj,Fr];show 0<_;omega
      ·exact n
     rw[Ay ⟨by omega,by omega,f,d⟩];simp only[f,D5]
    ·rw[Aw (fun u=>f u.2.2.1)]
     have d:i=0∨st0 i<old.length:=by right;have:=Ic i;have:=(GY i).2;omega
     have u:=o.on i m d;unfold nowF;rw[u];simp only[f,D1];rw[y];exact OD (U5 old (J5 r) i (by omega)).symm _ _ _
   ·intro i m
    show(if _ then _ else _)<_
    split
    ·omega
    ·exact o.run i m
   ·intro i j M O n
    show(if _ then _ else _)≤(if _ then _ else _);have X:=Vd (show i+1≤j+1 by omega);by_cases f:old.length<st0 (i+1)
    ·rw[Ay f,Ay (by omega)];exact Av _
    ·rw[Aw f]
     have N:i=0∨st0 i<old.length:=by right;have:=Ic i;have:=(GY i).2;omega
     by_cases d:old.length<st0 (j+1)
     ·rw[Ay d]
      exact S i (by omega) N
     ·rw[Aw d]
      refine o.up i j M O ?_;right;have:=Ic j;have:=(GY j).2;omega
   ·intro i m n f
    have d:old.length≤st0 i:=by rw[y,Aj]at f;omega
    have u:=o.off i m n d;show badF L' (a+i)∨genF L' (a+i)≠_;unfold badF genF;rw[v,Aw (by rw[show a+i-a=i by omega];omega)];exact u
 ·intro k P G i m
  have Q:(s.gen-1) % segs≠k:=G ⟨s.gen,s.base,s.rs++[r]⟩ (by simp);rw[H _ (by omega)];refine h.zero k P (fun x l=> ?_) i m;rcases Ag.1 l with l|l
  ·exact G x (A2 _ l)
  ·simp only[Ac,Am,AG]at l
   subst l;exact Q
 ·intro i f d
  rw[Fm,v]
  split
  ·rename_i B
   rw[←(E (i-a) (by omega)).r];exact Av _
  ·rw[←Fm];exact h.runs i f d
 ·intro i f d
  rw[R];unfold badF genF;rw[v]
  split
  ·rename_i B
   right;rw[←(E (i-a) (by omega)).g,T];exact Av _
  ·exact h.old i f d
def Jx (S:List PS)(n:Nat):Bool:=match S.getLast? with|none=>true|some s=>decide (370<(encRs s.rs).length +n)
def XS (S:List PS)(r:Rcd):List PS:=match S.getLast? with|none=>S|some s=>S.dropLast++[⟨s.gen,s.base,s.rs++[r]⟩]
def M2 (segs:Nat)(S:List PS)(nx:Nat)(body:List Nat):List PS:=XS (if Jx S body.length=true then Fx segs S nx else S) (nx,body)
theorem JV (A:List PS)(s:PS)(r:Rcd):XS (A++[s]) r=A++[⟨s.gen,s.base,s.rs++[r]⟩]:=by unfold XS;simp
section
variable {segs nx q:Nat} {S:List PS}
theorem SOk.lastG_eq (h:SOk segs S nx q):∃a,1≤a∧(S.length<segs→a=1)∧(∀i s,S[i]?=some s→s.gen=a+i)∧lastG S+1=a+S.length:=by
 obtain⟨a,e,f,c⟩:=h.gens
 cases b:S.getLast? with
 |none=>have:S=[]:=List.getLast?_eq_none_iff.1 b;subst this;exact⟨1,Av _,fun _=>rfl,fun i s g=>by simp at g,by simp[lastG]⟩
 |some t=>
  refine⟨a,e,f,c, ?_⟩;have d:S[S.length-1]?=some t:=by rw[←Ci];exact b
  have k:=(Ai.1 d).1;have j:=c _ t d;unfold lastG;rw[b];show t.gen+1=_;omega
theorem SOk.kept (h:SOk segs S nx q)(f:0<segs):S.filter (fun s=> !decide ((s.gen:Int)≤((lastG S+1:Nat):Int)-(segs:Int)))=S.drop (if S.length=segs then 1 else 0):=by
 obtain⟨g,j,k,b,d⟩:=h.lastG_eq;have l:=h.len;by_cases a:S.length=segs
 ·rw[Ay a]
  cases S with
  |nil=>rfl
  |cons x T=>have m:=b 0 x rfl;rw[List.filter_cons_of_neg (by simp at d a⊢;omega),List.drop_one,List.tail_cons,List.filter_eq_self];intro s e;obtain⟨i,c⟩:=Bf e;have f:=b (i+1) s (by simpa using c);simp at d a⊢;omega
 ·rw[Aw a,Bj,List.filter_eq_self]
  intro s e;obtain⟨i,c⟩:=Bf e;have f:=b i s c;simp at d⊢;omega
theorem SOk.app (h:SOk segs S nx q)(ab:2≤segs)(C:1≤nx∧nx<140737488355328)(body:List Nat)(v:Rcd.ok (nx,body)):SOk segs (M2 segs S nx body) (nx+1) (q+1)∧
  ∃j,(M2 segs S nx body).flatMap PS.rs=(S.flatMap PS.rs).drop j++[(nx,body)]∧(0<j→(M2 segs S nx body).length =segs)∧S.length≤(M2 segs S nx body).length :=by
 have W:body.length≤300:=v.2.1;unfold M2
 cases m:Jx S body.length with
 |true=>
  simp only[D5];obtain⟨n,G,u,p,Z⟩:=h.lastG_eq;have aa:=h.len;unfold Fx;rw[h.kept (by omega),JV,List.nil_append];obtain⟨t,L⟩:∃t,t=(if S.length=segs then 1 else 0):=⟨_,rfl⟩;rw[←L]
  have T:t≤1∧(t=1→S.length=segs)∧(t=0→S.length<segs):=by rw[L];split<;>omega
  have ac:t≤S.length:=by omega
  have o:(S.drop t).length =S.length-t:=A5;have J:∀x∈S.drop t,x∈S:=fun x d=>AB d
  have E:(S.drop t).flatMap PS.rs=(S.flatMap PS.rs).drop ((S.take t).flatMap PS.rs).length :=by
   conv=>rhs;rw[←BX t S,Bg]
   rw[BX,EN]
  refine⟨⟨?_,⟨n+t,by omega, ?_, ?_⟩, ?_, ?_, ?_, ?_, ?_⟩,⟨((S.take t).flatMap PS.rs).length, ?_, ?_, ?_⟩⟩
  ·rw[Aj,o];simp;omega
  ·intro g
   rw[Aj,o]at g;simp at g;have:=u (by omega);omega
  ·intro i s e
   by_cases l:i<(S.drop t).length
   ·rw[AK l,Bp]at e
    have:=p _ s e;omega
   ·rw[AC (by omega)]at e
    have F:i-(S.drop t).length =0:=by have:=(Ai.1 e).1;simp at this;simp;omega
    rw[F]at e;simp at e;subst e;show lastG S+1=n+t+i;omega
  ·intro s e
   rcases Ag.1 e with e|e
   ·have:=h.small s (J s e);omega
   ·simp only[Ac,Am,AG]at e
    subst e
    have V:lastG S≤q:=by
     unfold lastG
     cases O:S.getLast? with
     |none=>exact AA _
     |some s=>exact(h.small s (GT O)).1
    exact⟨by show lastG S+1≤q+1;omega,C.2⟩
  ·intro s e
   rcases Ag.1 e with e|e
   ·exact h.ok s (J s e)
   ·simp only[Ac,Am,AG]at e
    subst e;refine⟨?_, ?_,by simp⟩
    ·intro r c
     simp only[Ac,Am,AG]at c;subst c;exact v
    ·simp[encRs,Fr];omega
  ·rw[Bg,E,CD]
   refine⟨h.pos.sublist (List.drop_sublist _ _),by simp,fun a k b f=> ?_⟩;simp at f;subst f;exact(h.below a (AB k)).2
  ·intro r c
   rw[Bg,E]at c;rcases Ag.1 c with c|c
   ·have:=h.below r (AB c);omega
   ·simp at c
    subst c;exact⟨C.1,by show nx<nx+1;omega⟩
  ·intro i a b r k f c
   by_cases l:i+1<(S.drop t).length
   ·rw[AK (by omega),Bp]at k
    rw[AK l,Bp]at f;exact h.tight (t+i) a b r k (by rw[show t+i+1=t+(i+1) by omega];exact f) c
   ·have Y:i+1=(S.drop t).length :=by
     have:=(Ai.1 f).1;rw[Aj]at this;simp at this⊢;simp at l;omega
    rw[AK (by omega),Bp]at k;rw[AC (by omega),show i+1-(S.drop t).length =0 by omega]at f;simp at f;subst f;simp at c;subst c
    have P:S.getLast?=some a:=by
     rw[Ci,←k]
     congr 1
     omega
    unfold Jx at m;rw[P]at m;exact DE m
  ·rw[Bg,E];simp
  ·intro H
   rw[Aj,o]
   have:t≠0:=by intro M;rw[M]at H;simp at H
   simp;have:=T.2.1 (by omega);omega
  ·rw[Aj,o];simp;omega
 |false=>
  simp only[Bool.false_eq_true,D1]
  cases B:S.getLast? with
  |none=>unfold Jx at m;rw[B]at m;cases m
  |some s=>
   obtain⟨A,rfl⟩:=EY.1 B
   have X:(encRs s.rs).length +body.length≤370:=by unfold Jx at m;rw[B]at m;have:=of_decide_eq_false m;omega
   rw[JV];have D:s∈A++[s]:=by simp
   have w:(A++[(⟨s.gen,s.base,s.rs++[(nx,body)]⟩:PS)]).flatMap PS.rs=(A++[s]).flatMap PS.rs++[(nx,body)]:=by simp[Bg]
   have z:∀(i:Nat) (x:PS),(A++[(⟨s.gen,s.base,s.rs++[(nx,body)]⟩:PS)])[i]?=some x→(A++[s])[i]?=some x∨(i=A.length∧x=⟨s.gen,s.base,s.rs++[(nx,body)]⟩):=by
    intro i x d;by_cases l:i<A.length
    ·rw[AK l]at d⊢;exact .inl d
    ·rw[AC (by omega)]at d
     have F:=(Ai.1 d).1;simp at F;have U:i-A.length=0:=by omega
     rw[U]at d;simp at d;exact .inr ⟨by omega,d.symm⟩
   have I:(A++[s])[A.length]?=some s:=by simp
   refine⟨⟨?_, ?_, ?_, ?_, ?_, ?_, ?_⟩,⟨0,by rw[w];simp,fun h=>absurd h (by omega),by simp⟩⟩
   ·have:=h.len;simp at this⊢;exact this
   ·obtain⟨n,G,u,p⟩:=h.gens
    refine⟨n,G,fun g=>u (by simp at g⊢;exact g),fun i x d=> ?_⟩;rcases z i x d with g|⟨rfl,rfl⟩
    ·exact p i x g
    ·exact p _ s I
   ·intro x d
    rcases Ag.1 d with d|d
    ·have:=h.small x (A2 _ d);omega
    ·simp only[Ac,Am,AG]at d
     subst d;have:=h.small s D;exact⟨by show s.gen≤_;omega,this.2⟩
   ·intro x d
    rcases Ag.1 d with d|d
    ·exact h.ok x (A2 _ d)
    ·simp only[Ac,Am,AG]at d
     subst d;have R:=h.ok s D;refine⟨?_, ?_,by simp⟩
     ·intro r c
      rcases Ag.1 c with c|c
      ·exact R.1 r c
      ·simp only[Ac,Am,AG]at c
       subst c;exact v
     ·show(encRs (s.rs++[(nx,body)])).length ≤378
      rw[Hn,Aj,Fr];show _+(8+body.length)≤378;omega
   ·rw[w,CD]
    refine⟨h.pos,by simp,fun a k b f=> ?_⟩;simp at f;subst f;exact(h.below a k).2
   ·intro r c
    rw[w]at c;rcases Ag.1 c with c|c
    ·have:=h.below r c;omega
    ·simp at c
     subst c;exact⟨C.1,by show nx<nx+1;omega⟩
   ·intro i a b r k f c
    rcases z i a k with g|⟨l,_⟩
    ·rcases z (i+1) b f with N|⟨l,rfl⟩
     ·exact h.tight i a b r g N c
     ·have Q:=(h.ok s D).2.2
      refine h.tight i a s r g (by rw[l];exact I) ?_
      cases K:s.rs with
      |nil=>exact absurd K Q
      |cons y ys=>simp only[K,List.cons_append,List.head?_cons]at c;simpa using c
    ·have:=(Ai.1 f).1
     simp at this;omega
end
structure LogOk (w:World) (B lb d frm segs nx run:Nat) (fr:Bool) (vl:Value) (l:List Sg) (L:List Sec) (q:Nat):Prop where
 at_:LogAt w B lb d frm segs nx run fr vl l
 dev:DevOk L frm segs run (l.map Sg.ps)
 say:SOk segs (l.map Sg.ps) nx q
theorem IZ (l:List Sg):nextGen l=lastG (l.map Sg.ps)+1:=by
 unfold nextGen lastG;rw[List.getLast?_map]
 cases l.getLast?<;>rfl
theorem SK (l:List Sg)(n:Nat):need l n↔Jx (l.map Sg.ps) n=true:=by
 unfold need Jx;rw[List.getLast?_map]
 cases l.getLast? with
 |none=>simp
 |some s=>show(370-(n:Int)<((encRs s.rs).length :Int))↔decide (370<(encRs s.rs).length +n)=true;rw[decide_eq_true_iff];omega
theorem WB (l:List Sg)(segs nx p:Nat):(l.filter (fun s=> !decide ((s.gen:Int)≤(nextGen l:Int)-(segs:Int)))++[(⟨p,nextGen l,nx,0,nilS,nilS,[]⟩:Sg)]).map Sg.ps=Fx segs (l.map Sg.ps) nx:=by unfold Fx;rw[AL,IZ,List.filter_map];rfl
theorem SOk.apartL {segs nx q:Nat}{A:List PS}{s:PS}(h:SOk segs (A++[s]) nx q):∀x∈A,(x.gen-1) % segs≠(s.gen-1) % segs:=by obtain⟨k,m,_,a⟩:=h.gens;intro x f;obtain⟨i,b⟩:=Bf f;have e:=(Ai.1 b).1;have g:=a i x (by rw[AK e];exact b);have j:=a A.length s (by simp);have:=h.len;simp at this;exact NP (by omega) (by omega)
section
variable {w:World} {B lb d sb c frm segs nx run q:Nat} {fr:Bool} {vl bv:Value} {l:List Sg} {L:List Sec} {body:List Nat}
theorem WF (h:LogOk w B lb d frm segs nx run fr vl l L q)(F:IsDev w d sb L c)(U:c+20<1099511627776)(ac:1≤nx∧nx<140737488355328)(I:run<4294967200)(hq:q+2<281474976710656)
  (aj:3≤segs∧segs≤199) (v:frm+segs*8≤L.length) (R:Rd w bv body) (t:1≤body.length∧body.length≤300) (E:∀c∈body,c<256) (S:∀q,bv.ownBlock=some q→q∉d::sb::DG lb vl l):
  Calls Tryz.prog 216 #[pr lb 0,bv] w fun e m=>e=.returned (.tuple #[.int .i64 (nx:Int),.int .i64 0])∧∃J y g j,LogOk m B lb d frm segs (nx+1) run false J y g (q+1)∧IsDev m d sb g j∧j≤c+12∧
   y.map Sg.ps=M2 segs (l.map Sg.ps) nx body∧Keep (d::sb::DG lb vl l) w m∧(∀q∈DG lb J y,q∈DG lb vl l∨w.heap.size≤q)∧g.length=L.length∧(∀i,(i<frm∨frm+segs*8≤i)→nowF g i=nowF L i):=by
 have ai:=F.max;have ae:Rcd.ok (nx,body):=⟨t.1,t.2,by show nx<_;omega,E⟩;have b:∀s∈l,s.ps∈l.map Sg.ps:=fun s a=>AI.2 ⟨s,a,rfl⟩
 have ab:∀s∈l,1≤s.gen:=fun s a=>(h.say.near (b s a)).2
 have ah:l.length≤segs:=by have:=h.say.len;simpa using this
 refine(Sh h.at_ F U (by omega) (fun s a=>⟨ab s a,by have:=(h.say.small _ (b s a)).1;show s.gen+1<_;have e:s.ps.gen=s.gen:=rfl;omega,by have:=(h.say.small _ (b s a)).2;have e:s.ps.base=s.base:=rfl;omega⟩) (by omega) (by omega) ⟨by omega,by omega⟩ (by omega) v (fun s a=>(h.say.ok _ (b s a)).1) (fun s a=>⟨(h.say.ok _ (b s a)).2.1,by
   have h1:=Ik s.rs (h.say.ok _ (b s a)).1;have h2:(encRs s.rs).length ≤378:=(h.say.ok _ (b s a)).2.1;have h3:s.rs.length=s.recs.length:=by simp[Sg.rs]
   omega⟩) R t E S).mono ?_
 rintro e m ⟨rfl,wc,af,A,s,n,c1,z,C,o,j,P,Z,W,V,N,hF⟩;have f:=(h.say.app (by omega) ac body ae).1
 have O:n.length=L.length∧DevOk n frm segs run ((A++[s]).map Sg.ps)∧(∀i,(i<frm∨frm+segs*8≤i)→nowF n i=nowF L i)∧XS ((A++[s]).map Sg.ps) (nx,body)=M2 segs (l.map Sg.ps) nx body:=by
  unfold M2;rcases P.how with⟨x,u,rfl,rfl⟩|⟨x,rfl,⟨p,u,hp⟩,rfl⟩
  ·rw[u]
   have aa:Jx (l.map Sg.ps) body.length=false:=by
    cases Y:Jx (l.map Sg.ps) body.length with
    |false=>rfl
    |true=>exact absurd ((SK l body.length).2 Y) x
   rw[aa];exact⟨rfl,h.dev,fun _ _=>rfl,rfl⟩
  ·rw[u,WB,(SK l body.length).1 x]
   have e:nextGen l-1=lastG (l.map Sg.ps):=by rw[IZ];omega
   have K:nextGen l=lastG (l.map Sg.ps)+1:=IZ l;rw[e,K];refine⟨by simp,h.dev.begin h.say (by omega) v I (by omega) _ _,fun i G=> ?_,rfl⟩;have ag:lastG (l.map Sg.ps) % segs<segs:=C1 _ (by omega);rw[CS,DF _ _ _ _ (by omega),Aw (by omega)]
 obtain⟨r,D,ad,Q⟩:=O
 have H:(A++[s.add z C nx body o]).map Sg.ps=M2 segs (l.map Sg.ps) nx body:=by rw[←Q,AL,AL,Br,Cy,Br,Cy,JV];simp[Sg.add,Sg.ps,Sg.rs]
 rw[←H]at f
 have k:(A++[s.add z C nx body o]).map Sg.ps=A.map Sg.ps++[⟨s.gen,s.base,s.rs++[(nx,body)]⟩]:=by simp[Sg.add,Sg.ps,Sg.rs]
 have T:∀c∈encRs (s.rs++[(nx,body)]),c<256:=by have:=(f.ok ⟨s.gen,s.base,s.rs++[(nx,body)]⟩ (by rw[k];simp)).1;exact Ho _ this
 have X:s.gen<281474976710656:=by have:=(f.small ⟨s.gen,s.base,s.rs++[(nx,body)]⟩ (by rw[k];simp)).1;have e:(PS.mk s.gen s.base (s.rs++[(nx,body)])).gen =s.gen:=rfl;omega
 have M:=DevOk.add (by rw[AL]at D;exact D) (by omega) (by rw[r];exact v) I (nx,body) (by rw[k]at f;exact f.apartL) X T
 have hk:(s.gen-1) % segs<segs:=C1 _ (by omega);refine⟨rfl,af,A++[s.add z C nx body o],_,j,⟨Z, ?_,f⟩,W,V,H,N,hF, ?_, ?_⟩
 ·rw[k]
  exact M.congr (fun i _ _=>SH fr _ i) (by omega)
 ·rw[fl_len,GD,r]
 ·intro i G
  rw[SH,JB _ _ _ _ _ _ _ (by rw[r];omega) 8 (Av _),Aw (by omega)];exact ad i G
end
theorem DevOk.fresh {L:List Sec}{frm segs:Nat}(e:∀i,frm≤i→i<frm+segs*8→nowF L i=List.replicate 64 0)(h:0<segs):DevOk L frm segs 0 []:=by refine⟨by simp,fun k g _ i f=>e _ (by omega) (by omega),fun i a b=> ?_,fun i a b=> .inl (US L i (e i a b))⟩;rw[Fm,e i a b];decide
theorem SOk.fresh (segs q:Nat):SOk segs [] 1 q:=⟨AA _,⟨1,Av _,fun _=>rfl,by simp⟩,by simp,by simp,by simp,by simp,by simp⟩
section
variable {w w' w0:World} {B lb d sb c frm segs nx run q:Nat} {fr:Bool} {vl:Value} {l:List Sg} {L:List Sec}
theorem LogOk.keep {S:List Nat}(h:LogOk w B lb d frm segs nx run fr vl l L q)(k:Keep S w w')(a:∀x∈DG lb vl l,x∉S):LogOk w' B lb d frm segs nx run fr vl l L q:=⟨h.at_.keep k a,h.dev,h.say⟩
theorem LogOk.still (h:LogOk w B lb d frm segs nx run fr vl l L q)(k:Keep [] w w'):LogOk w' B lb d frm segs nx run fr vl l L q:=h.keep k (by simp)
theorem LogAt.newNot (h:LogAt w B lb d frm segs nx run fr vl l)(e:IsDev w d sb L c){b:Nat}(g:w.heap.size≤b):b∉d::sb::DG lb vl l:=by
 intro f;simp only[Ac]at f;rcases f with a|a|a
 ·have:=e.dev.lt;omega
 ·have:=e.secs.lt;omega
 ·have:=(h.lt b a).2;omega
end
theorem LH (l:List Sg):l.flatMap Sg.rs=(l.map Sg.ps).flatMap PS.rs:=by
 induction l with
 |nil=>rfl
 |cons s l ih=>rw[BI,ih,Br,BI];rfl
def Tight (S:List PS):Prop:=∀i a b r,S[i]?=some a→S[i+1]?=some b→b.rs.head?=some r→370<(encRs a.rs).length +r.2.length
structure Tail (segs:Nat) (S:List PS) (all:List Rcd):Prop where
 tail:∃k,S.flatMap PS.rs=all.drop k∧k≤all.length∧(0<k→S.length=segs)
theorem Tail.nil (segs:Nat):Tail segs [] []:=⟨0,rfl,AA _,fun h=>absurd h (by omega)⟩
theorem Tail.app {segs a q:Nat}{S:List PS}{b:List Rcd}(h:Tail segs S b)(g:SOk segs S a q)(t:2≤segs)(s:1≤a∧a<140737488355328)(body:List Nat)(l:Rcd.ok (a,body)):Tail segs (M2 segs S a body) (b++[(a,body)]):=by
 obtain⟨k,d,r,m⟩:=h.tail;obtain⟨i,j,c,n,u⟩:=g.app t s body l;have v:=i.len;by_cases o:j=0
 ·subst o
  rw[Bj,d]at c;refine⟨k, ?_,by simp;omega,fun f=> ?_⟩
  ·rw[c,C3 r]
  ·have:=m f;omega
 ·have e:=n (by omega)
  by_cases p:k+j≤b.length
  ·refine⟨k+j, ?_,by simp;omega,fun _=>e⟩
   rw[c,d,Bu,C3 p]
  ·refine⟨b.length, ?_,by simp,fun _=>e⟩
   rw[c,d,Bu,Bz (by omega),EN];rfl
def encN (l:List Rcd):Nat:=(encRs l).length
theorem GP (l m:List Rcd):encN (l++m)=encN l+encN m:=by unfold encN encRs;simp
theorem FU (r:Rcd)(l:List Rcd):encN (r::l)=r.2.length+8+encN l:=by
 have e:encRs (r::l)=J5 r++encRs l:=by simp[encRs]
 unfold encN;rw[e,Aj,Fr];omega
theorem Nc:∀(n:Nat) (S:List PS),S.length≤n→Tight S→(∀s∈S,s.rs≠[])→371*(S.length/2)≤encN (S.flatMap PS.rs)
 |0,S,hn,_,_=>by
  have:S.length=0:=by omega
  rw[this];omega
 |n+1,S,hn,ht,hne=>by
  match S,hn,ht,hne with
  |[],_,_,_=>simp
  |[a],_,_,_=>simp
  |a::b::T,hn,ht,hne=>
   have o:=Nc n T (by simp at hn;omega) (fun i x y r j k g=>ht (i+2) x y r (by simpa using j) (by simpa using k) g) (fun s h=>hne s (by simp[h]));have f:=hne b (by simp)
   cases c:b.rs with
   |nil=>exact absurd c f
   |cons r R=>
    have m:=ht 0 a b r rfl rfl (by rw[c];rfl)
    have d:encN ((a::b::T).flatMap PS.rs)=encN a.rs+(encN b.rs+encN (T.flatMap PS.rs)):=by rw[BI,BI,GP,GP]
    have e:encN b.rs=r.2.length+8+encN R:=by rw[c,FU]
    have l:encN a.rs=(encRs a.rs).length :=rfl;rw[d,e];simp only[List.length_cons];omega
theorem SOk.pairs {segs b q:Nat}{S:List PS}(h:SOk segs S b q):371*(S.length/2)≤encN (S.flatMap PS.rs):=
 Nc S.length S (Av _) h.tight (fun s a=>(h.ok s a).2.2)
theorem Ng (l:List Rcd)(k:Nat):encN (l.drop k)≤encN l:=by
 conv=>rhs;rw[←BX k l,GP]
 omega
theorem Tail.wholeG {segs nx q:Nat}{S:List PS}{all:List Rcd}(h:Tail segs S all)(i:SOk segs S nx q)(p:20≤segs)(n:encN all≤2225):S.flatMap PS.rs=all∧S.length≤12:=by
 obtain⟨k,a,o,j⟩:=h.tail;have b:=i.pairs;rw[a]at b;have m:=Ng all k;have e:S.length≤12:=by omega
 refine⟨?_,e⟩
 have f:k=0:=by apply Nat.le_zero.1;apply EU;intro g;have:=j g;omega
 rw[a,f,Bj]
def flAddS (a:World)(xb xg cnt used:Nat)(T:Tab)(b:Nat)(U:Nat→Bool)(X:Nat→Value)(W:World):Prop:=
 (U 9=false→Keep [] a W)∧Keep [xb] a W∧(U 8=true→X 8=.int .i64 (b:Int))∧IxAt W xb xg T cnt used
section
variable {w w':World} {B cb lb xb xg d sb c frm segs nx run q cnt used:Nat} {fr:Bool} {vl bv:Value} {l:List Sg} {L:List Sec} {T:Tab} {all:List Rcd} {body:List Nat}
theorem MZ (a:Blk w cb [pr lb 0,pr xb 0] 283)(h:LogOk w B lb d frm segs nx run fr vl l L q)(k:IsDev w d sb L c)(hc:c+20<1099511627776)(Q:1≤nx∧nx<140737488355328)(ay:run<4294967200)(g:q+2<281474976710656)
  (al:20≤segs∧segs≤199) (av:frm+segs*8≤L.length) (hb:Rd w bv body) (ab:1≤body.length∧body.length≤300) (ai:∀c∈body,c<256) (ap:∀q,bv.ownBlock=some q→q∉d::sb::DG lb vl l)
  (j:IxAt w xb xg T cnt used) (hT:Tail segs (l.map Sg.ps) all) (he:encN (all++[(nx,body)])≤2225) (ax:∀x∈T,x.has=true→∀r,all.head?=some r→r.1≤x.pos) (au:all=[]→∀x∈T,x.has=false):
  Calls Tryz.prog 173 #[pr cb 0,bv] w fun e w'=>e=.returned (.tuple #[.int .i64 (nx:Int),.int .i64 0])∧∃R p y V,LogOk w' B lb d frm segs (nx+1) run false R p y (q+1)∧IsDev w' d sb y V∧V≤c+12∧
   Tail segs (p.map Sg.ps) (all++[(nx,body)])∧Keep (xb::d::sb::DG lb vl l) w w'∧(∀q∈DG lb R p,q∈DG lb vl l∨w.heap.size≤q)∧y.length=L.length∧(∀i,(i<frm∨frm+segs*8≤i)→nowF y i=nowF L i)∧
   IxAt w' xb xg T cnt used∧Blk w' cb [pr lb 0,pr xb 0] 283:=by
 have a2:=h_ (WF h k hc Q ay g ⟨by omega,al.2⟩ av hb ab ai ap);have c0:=a.cell 0
 have aq:cb∉d::sb::DG lb vl l:=by
  intro o;simp only[Ac]at o;rcases o with rfl|rfl|o
  ·exact a.ty.ne k.dev.ty (by decide) rfl
  ·exact a.ty.ne k.secs.ty (by decide) rfl
  ·exact h.at_.apartT a.ty (by decide) o
 have am:∀q∈d::sb::DG lb vl l,q∉ [xb,xg]:=by
  intro q g o
  have b:Ty w q 326∨Ty w q 330:=by
   simp only[Ac,Am,AG]at o;rcases o with rfl|rfl
   ·exact .inl j.blk.ty
   ·exact .inr j.row.ty
  simp only[Ac]at g;rcases g with rfl|rfl|g
  ·rcases b with b|b
   ·exact b.ne k.dev.ty (by decide) rfl
   ·exact b.ne k.dev.ty (by decide) rfl
  ·rcases b with b|b
   ·exact b.ne k.secs.ty (by decide) rfl
   ·exact b.ne k.secs.ty (by decide) rfl
  ·rcases b with b|b
   ·exact h.at_.apartT b (by decide) g
   ·exact h.at_.apartT b (by decide) g
 have ar:cb≠xb:=a.ty.ne j.blk.ty (by decide);have az:=hT.app h.say (by omega) Q body ⟨ab.1,ab.2,by show nx<_;omega,ai⟩;obtain⟨HB,HX⟩:=i_2 a j;have I:=h_3 aq am ar;have J:=h_5 az he ax al au;have an:Hid (∀q∈d::sb::DG lb vl l,q≠xb):=h_ (fun q g e=>am q g (by simp[e]));clear a h k hc Q ay g al av hb ab ai ap j hT he ax aq am az ar au;go_enter Tryz.func173,Tryz.ntmps173;go_wp2_with fail;refine a2.out.mono ?_;rintro e w2 ⟨rfl,R,p,y,V,E,ad,ac,aw,D,Y,Z,af⟩;have z:=HB.out.keep D I.out.1;have aa:=HX.out.keep D I.out.2.1;have F:=J.out.1;rw[←aw]at F;obtain⟨a0,a1⟩:=F.wholeG E.say J.out.2.2.2.1.1 J.out.2.1;have ak:p.length≤1000:=by rw[AD]at a1;omega
 obtain⟨K,ae⟩:∃K,K=Ix p (nx+1):=⟨_,rfl⟩
 have aj:∀x∈T,x.has=true→(K:Int)≤(x.pos:Int):=by
  intro x G hh;have e:p.flatMap Sg.rs=all++[(nx,body)]:=by rw[LH];exact a0
  rw[ae];unfold Ix;rw[e]
  cases ao:all with
  |nil=>have:=J.out.2.2.2.2 ao x G;rw[hh]at this;cases this
  |cons r rs=>have:=J.out.2.2.1 x G hh r (by rw[ao];rfl);simp only[List.cons_append];omega
 have d0:=z.cell 0;have d1:=z.cell 1;have n:=h_7 E ad z aa ak ae aj;have a5:=h_6 D Y Z af F ac;clear E ad aw D Y Z af z aa F a0 a1 ak ae aj ac;go_wp2_with fail;clear d0 d1;refine wM (A:=[0,1,3,7,0,16,48,112,240,511]) 768 [fun _=>pr cb 0,fun _=>pr cb 0,fun _=>pr cb 1,fun _=>pr xb 0,fun _=>pr cb 0,fun _=>pr cb 0,fun _=>pr cb 0,fun _=>pr lb 0,fun _=>undef,fun _=>undef] (flAddS w2 xb xg cnt used T K) ?start (.s ?m0<|.s ?m1<|.s ?m2<|.s ?m3<|.s ?m4<|.s ?m5<|.s ?m6<|.s ?m7<|.t ?m8<|.t ?m9<|.nil) ?fin
 case start=>intro X;exact⟨fun _=>(By _ _).drew,(By _ _).drew,fun h=>absurd h (by decide),n.out.2.2.2.1.still (By [] _).drew⟩
 case fin=>
  intro U X w3 v k;obtain⟨_,u,_,C⟩:=v;have a3:=h_2 u C;clear u C k;simp[Al,Act.put,FK,Ab];go_wp2;go_ret2;obtain⟨u,C⟩:=a3.out;obtain⟨E,ad,z,aa,ak,ae,aj⟩:=n.out;obtain⟨D,Y,Z,af,F,ac⟩:=a5.out;have Q:∀q∈DG lb R p,q≠xb:=fun q g e=>E.at_.apartT (e▸aa.blk.ty) (by decide) g
  refine⟨rfl,R,p,y,V,E.keep u (fun x G o=>Q x G (by simpa using o)),ad.keep u (by simp;exact fun e=>an.out d (by simp) e) (by simp;exact fun e=>an.out sb (by simp) e),ac,F,(D.mono (S':=xb::d::sb::DG lb vl l) (fun x G _=>Ap _ G)).trans (u.mono (S':=xb::d::sb::DG lb vl l) (by simp)),Y,Z,af,C,z.keep u (by simp;exact I.out.2.2)⟩
 case' m8|m9=>intro U X x W v hl j M P ag O B a K' N;have m:=h_ v;obtain⟨_,f,_⟩:=v;have a:=n.out.2.2.1.keep f (by simp;exact I.out.2.2);have d0:=a.cell 0;have d1:=a.cell 1;clear a f;simp[mV,mY,Ab]at P;simp only[Al,Act.put,A8,A7,A6,P]at a;subst a
 case m8=>have H:U 9=false:=O 9 (by decide);clear j M ag O;have f:=m.out.1 H;have S:=h_ (UN (n.out.1.still f).at_ n.out.2.2.2.2.1);rw[←n.out.2.2.2.2.2.1]at S;have a4:=h_ H;clear f H;go_simp;refine S.out.mono ?_;rintro e w3 ⟨rfl,rfl⟩;go_simp;refine N _ _ _ rfl ⟨fun _=>m.out.1 a4.out,m.out.2.1,fun _=>by rw[Bh],m.out.2.2.2⟩
 case m9=>have H:U 9=false:=hl;have u8:U 8=true:=M 8 (by decide);have e8:=j 8 u8;have ah:=m.out.2.2.1 u8;rw[ah]at e8;have f:=m.out.1 H;have S:=h_ (PC (n.out.2.2.2.1.still f) (K:Int) n.out.2.2.2.2.2.2);have HU:=h_2 u8 ah;have HK:=h_ f;simp only[←e8]at N⊢;clear j M ag O f H e8 ah u8;go_simp;refine S.out.mono ?_;rintro e w3 ⟨rfl,C,k3⟩;go_simp;refine N _ _ _ rfl ⟨fun h=>by simp[upd]at h,m.out.2.1.trans k3,fun _=>by rw[Bs _ _ _ _ (by decide)];exact HU.out.2,C⟩
 all_goals intro U X x W v j M P ag O B a K' N;clear j M ag O;have m:=h_ v;obtain⟨_,f,_⟩:=v;have a:=n.out.2.2.1.keep f (by simp;exact I.out.2.2);have d0:=a.cell 0;have d1:=a.cell 1;clear a f;simp[mV,mY,Ab]at P;simp only[Al,Act.put,A8,A7,A6,P]at a;subst a;go_simp;exact N _ _ _ rfl rfl m.out
end
inductive FR where
 |put (k v:Str)
 |del (k:Str)
 |wipe
def FR.body:FR→List Nat
 | .put k v=>1::BM [(k,v,0,false)]
 | .del k=>if itMay k ByteArray.empty 0 true=true then 1::BM [(k,ByteArray.empty,0,true)]else[1,0]
 | .wipe=>[2]
def Xi (f:Str→Option (Nat×Str))(r:Nat×FR):Str→Option (Nat×Str):=match r.2 with
 | .put k v=>fun x=>if x=k then some (r.1,v)else f x
 | .del k=>fun x=>if x=k then none else f x
 | .wipe=>fun _=>none
def rpF (R:List (Nat×FR)):Str→Option (Nat×Str):=R.foldl Xi (fun _=>none)
theorem Js (R:List (Nat×FR))(r:Nat×FR):rpF (R++[r])=Xi (rpF R) r:=by unfold rpF;rw[Gn];rfl
theorem Ll:∀(R:List (Nat×FR)) (f:Str→Option (Nat×Str)) (k:Str) (pos:Nat) (v:Str),R.foldl Xi f k=some (pos,v)→(pos,FR.put k v)∈R∨f k=some (pos,v)
 |[],f,k,pos,v,h=> .inr h
 |r::R,f,k,pos,v,h=>by
  rcases Ll R (Xi f r) k pos v h with h|h
  ·exact .inl (Ap _ h)
  ·obtain⟨p,b⟩:=r
   unfold Xi at h
   cases b with
   |put k2 v2=>
    simp only at h;by_cases a:k=k2
    ·rw[Ay a]at h
     injection h with h;injection h with h1 h2;left;rw[←h1,←h2,a];exact Bx ..
    ·rw[Aw a]at h;exact .inr h
   |del k2=>
    simp only at h;by_cases a:k=k2
    ·rw[Ay a]at h;cases h
    ·rw[Aw a]at h;exact .inr h
   |wipe=>cases h
theorem N7 {R:List (Nat×FR)}{k:Str}{pos:Nat}{v:Str}(h:rpF R k=some (pos,v)):(pos,FR.put k v)∈R:=by
 rcases Ll R _ k pos v h with h|h
 ·exact h
 ·cases h
structure CacheOf (R:List (Nat×FR)) (C:Cache):Prop where
 ok:COk C
 at_:∀k,cGet C k=(rpF R k).map Prod.snd
theorem CacheOf.nil:CacheOf [] []:=⟨Gp,fun k=>rfl⟩
theorem CacheOf.put {R:List (Nat×FR)}{C:Cache}(h:CacheOf R C)(pos:Nat)(k v:Str):CacheOf (R++[(pos,.put k v)]) (GA k v C):=by
 refine⟨Tc C k v h.ok,fun x=> ?_⟩;rw[Qy C k v x h.ok,Js];show _=Option.map Prod.snd (if x=k then some (pos,v)else rpF R x);by_cases a:x=k
 ·rw[Ay a,Ay a];rfl
 ·rw[Aw a,Aw a,h.at_]
theorem CacheOf.wipe {R:List (Nat×FR)}{C:Cache}(pos:Nat):CacheOf (R++[(pos,.wipe)]) []:=by refine⟨Gp,fun x=> ?_⟩;rw[Js];rfl
def IdxOf (R:List (Nat×FR))(T:Tab):Prop:=∀k pos,(k,pos)∈ents T↔(rpF R k).map Prod.fst=some pos
def frRec (r:Nat×FR):Rcd:=(r.1,r.2.body)
def Iw (cb lb xb xg:Nat)(vl:Value)(l:List Sg):List Nat:=cb::xb::xg::DG lb vl l
structure FlOk (w:World) (B cb lb xb xg d frm segs t:Nat) (vl:Value) (l:List Sg) (L:List Sec) (T:Tab) (cnt used:Nat) (R:List (Nat×FR)):Prop where
 blk:Blk w cb [.pointer (some ⟨lb,0,none⟩),.pointer (some ⟨xb,0,none⟩)] 283
 log:∃nx run fr q,LogOk w B lb d frm segs nx run fr vl l L q∧1≤nx∧nx≤t∧run≤t∧q≤t∧∀r∈R,r.1<nx
 tail:Tail segs (l.map Sg.ps) (R.map frRec)
 few:encN (R.map frRec)≤2225
 up:R.Pairwise (fun a b=>a.1<b.1)
 idx:IxAt w xb xg T cnt used
 tab:TabOk T used
 says:IdxOf R T
 cnt_:cnt=(ents T).length
 may:∀r∈R,∀k v,r.2=.put k v→itMay k v 0 false=true
section
variable {w w':World} {B cb lb xb xg d sb c frm segs t cnt used:Nat} {vl bv:Value} {l:List Sg} {L:List Sec} {T:Tab} {R:List (Nat×FR)}
theorem FlOk.keep {S:List Nat}(h:FlOk w B cb lb xb xg d frm segs t vl l L T cnt used R)(k:Keep S w w')(b:∀q∈S,q∉Iw cb lb xb xg vl l):FlOk w' B cb lb xb xg d frm segs t vl l L T cnt used R:=by obtain⟨p,r,f,q,o,g,i,j,m,n⟩:=h.log;refine⟨h.blk.keep k (fun a=>b cb a (by simp[Iw])),⟨p,r,f,q,o.keep k (fun x e a=>b x a (by simp[Iw,e])),g,i,j,m,n⟩,h.tail,h.few,h.up,h.idx.keep k (fun x e a=>b x e ?_),h.tab,h.says,h.cnt_,h.may⟩;simp only[Ac,Am,AG]at a;rcases a with rfl|rfl<;>simp[Iw]
theorem FlOk.still (h:FlOk w B cb lb xb xg d frm segs t vl l L T cnt used R)(k:Keep [] w w'):FlOk w' B cb lb xb xg d frm segs t vl l L T cnt used R:=h.keep k (by simp)
theorem FlOk.later {a:Nat}(h:FlOk w B cb lb xb xg d frm segs t vl l L T cnt used R)(o:t≤a):FlOk w B cb lb xb xg d frm segs a vl l L T cnt used R:=by obtain⟨i,j,b,q,g,e,k,m,n,f⟩:=h.log;exact⟨h.blk,⟨i,j,b,q,g,e,by omega,by omega,by omega,f⟩,h.tail,h.few,h.up,h.idx,h.tab,h.says,h.cnt_,h.may⟩
theorem FlOk.find (h:FlOk w B cb lb xb xg d frm segs t vl l L T cnt used R)(key:Str):match rpF R key with
  |some (pos,v)=>∃i x,(find T key).1 =some i∧T[i]?=some x∧x.pos=pos
  |none=>∀p∈T,¬(p.has=true∧p.key=key):=by
 cases b:rpF R key with
 |none=>refine Me.2 (fun pos f=> ?_);have:=(h.says key pos).1 f;rw[b]at this;cases this
 |some y=>obtain⟨pos,v⟩:=y;obtain⟨i,p,a,g,e,j⟩:=Fn.1 ((h.says key pos).2 (by rw[b];rfl));subst e;exact⟨i,p,by rw[h.tab.find_some a g],a,j⟩
theorem FlOk.heads (h:FlOk w B cb lb xb xg d frm segs t vl l L T cnt used R):(∀x∈T,x.has=true→∀r,(R.map frRec).head? =some r→r.1≤x.pos)∧(R.map frRec=[]→∀x∈T,x.has=false):=by
 have k:∀x∈T,x.has=true→∃v,(x.pos,FR.put x.key v)∈R:=fun x g f=>by
  obtain⟨i,m⟩:=Bf g;have:=(h.says x.key x.pos).1 (Fn.2 ⟨i,x,m,f,rfl,rfl⟩)
  cases e:rpF R x.key with
  |none=>rw[e]at this;cases this
  |some y=>obtain⟨pos,v⟩:=y;rw[e]at this;injection this with this;simp only at this;subst this;exact⟨v,N7 e⟩
 refine⟨fun x g f r e=> ?_,fun j x g=> ?_⟩
 ·obtain⟨v,b⟩:=k x g f
  cases R with
  |nil=>cases b
  |cons a R=>
   simp only[Br,List.head?_cons,BU]at e;subst e;rcases Ac.1 b with rfl|b
   ·exact Av _
   ·exact EV (((B9.1 h.up).1) _ b)
 ·cases f:x.has with
  |false=>rfl
  |true=>obtain⟨v,b⟩:=k x g f;rw[List.map_eq_nil_iff]at j;rw[j]at b;cases b
theorem PT (h:FlOk w B cb lb xb xg d frm segs t vl l L T cnt used R)(f:IsDev w d sb L c)(G:c<1099511627776)(J:0<segs):Calls Tryz.prog 130 #[pr cb 0] w fun e w'=>
  e=.returned (.int .i64 0)∧IsDev w' d sb (L.map flushSec) (c+1)∧FlOk w' B cb lb xb xg d frm segs t vl l (L.map flushSec) T cnt used R∧Keep [d,sb] w w':=by
 have O:=h.blk.cell 0;obtain⟨K,N,z,q,g,m,n,o,p,r⟩:=h.log;have v:=h_ (Mf g.at_ f G)
 have s:∀x∈[d,sb],x∉Iw cb lb xb xg vl l:=by
  intro x k i
  have a:Ty w x 182∨Ty w x 232:=by
   simp only[Ac,Am,AG]at k;rcases k with rfl|rfl
   ·exact .inl f.dev.ty
   ·exact .inr f.secs.ty
  simp only[Iw,Ac]at i;rcases i with rfl|rfl|rfl|i
  ·rcases a with a|a<;>exact a.ne h.blk.ty (by decide) rfl
  ·rcases a with a|a<;>exact a.ne h.idx.blk.ty (by decide) rfl
  ·rcases a with a|a<;>exact a.ne h.idx.row.ty (by decide) rfl
  ·exact g.at_.apart f x i k
 obtain⟨H,y⟩:=i_2 h s;clear h f g s m n o p r;go_enter Tryz.func130,Tryz.ntmps130;go_wp2_with fail;refine v.out.mono ?_;rintro e P ⟨rfl,I,u⟩;go_wp2;go_ret;obtain⟨K,N,z,q,g,m,n,o,p,r⟩:=H.out.log;have b:=H.out.keep u y.out;obtain⟨nx',run',fr',M,j,A,C,D,E,F⟩:=b.log;exact⟨rfl,I,⟨b.blk,⟨nx',run',fr',M,⟨j.at_,j.dev.flush J,j.say⟩,A,C,D,E,F⟩,b.tail,b.few,b.up,b.idx,b.tab,b.says,b.cnt_,b.may⟩,u⟩
theorem FlOk.fresh {a:Nat}{b:Bool}(e:Blk w cb [pr lb 0,pr xb 0] 283)(f:LogOk w B lb d frm segs 1 a b vl l L 0)(h:l.map Sg.ps=[])(i:a≤t)(j:1≤t)(g:IxAt w xb xg EP 0 0):
  FlOk w B cb lb xb xg d frm segs t vl l L EP 0 0 []:=
 ⟨e,⟨1,a,b,0,f,Av _,j,i,AA _,by simp⟩,by rw[h];exact Tail.nil _,by decide,Gp,g,TabOk.new 16 (by decide),fun k pos=>by have:ents EP=[]:=Iy 16;rw[this];simp[rpF],by rw[show ents EP=[]from Iy 16];rfl,by simp⟩
end
theorem Im (k v:Str)(a:itMay k v 0 false=true):1≤(FR.put k v).body.length ∧(FR.put k v).body.length ≤300∧(BM [(k,v,0,false)]).length +1=(FR.put k v).body.length :=by
 have h:=a;unfold itMay itKey at a;simp only[Ar,A0]at a
 have e:BM [(k,v,0,false)]=Dc (k,v,0,false):=by unfold BM;rw[Ay (by simp[Dj,h])];simp[CE]
 have i:=Hb k v (by omega) (by omega)
 have j:(BL [(0:Int),gN false]).length ≤2:=by
  have g:BL [(0:Int),gN false]=Ga (zz 0)++Ga (zz 0):=by simp[BL,gN]
  have b:=DO 1 (zz 0) (by decide) (by decide);rw[g,Aj];omega
 have m:(Dc (k,v,0,false)).length =(B8 [k,v]).length +(BL [(0:Int),gN false]).length :=by unfold Dc;rw[Aj]
 have f:(BM [(k,v,0,false)]).length =(Dc (k,v,0,false)).length :=by rw[e]
 have b:(FR.put k v).body.length =(BM [(k,v,0,false)]).length +1:=rfl;rw[b,f];omega
theorem Jt (k v:Str):∀c∈(FR.put k v).body,c<256:=by
 intro c a;unfold FR.body at a;rcases Ac.1 a with rfl|a
 ·decide
 ·exact LB _ c a
section
variable {w w':World} {B cb lb xb xg d sb c frm segs t cnt used:Nat} {vl bv:Value} {l:List Sg} {L:List Sec} {T:Tab} {R:List (Nat×FR)}
theorem Ut (h:FlOk w B cb lb xb xg d frm segs t vl l L T cnt used R)(hd:IsDev w d sb L c)(hc:c+20<1099511627776)(ht:t≤1000000)(br:20≤segs∧segs≤199)(a1:frm+segs*8≤L.length)
  (key val:Str) (g:itMay key val 0 false=true) (hn:rpF R key=none) (he:encN (R.map frRec)+(FR.put key val).body.length +8≤2225) (a2:2*used<T.length∧used+1≤T.length∧cnt+1≤T.length):
  Calls Tryz.prog 129 #[pr cb 0,L7 key val 0 false] w fun e w'=>e=.returned (.int .i64 0)∧∃ap l' K c' T' bt pos,FlOk w' B cb lb xb xg d frm segs (t+1) ap l' K T' (cnt+1) bt (R++[(pos,.put key val)])∧bt≤used+1∧T'.length=T.length∧IsDev w' d sb K c'∧c'≤c+12∧
   Keep (d::sb::Iw cb lb xb xg vl l) w w'∧(∀q∈Iw cb lb xb xg ap l',q∈Iw cb lb xb xg vl l∨w.heap.size≤q)∧K.length=L.length∧(∀i,(i<frm∨frm+segs*8≤i)→nowF K i=nowF L i):=by
 obtain⟨s,cg,fr,q,hL,h1,h2,h3,h4,h5⟩:=h.log
 have bn:key.size≤40∧val.size≤200:=by unfold itMay itKey at g;simp only[Ar,A0]at g;omega
 have bi:=Im key val g;have bh:=Jt key val;have U:=h.find key;rw[hn]at U;simp only at U
 obtain⟨az,j,hj,aj,S,bm⟩:=Na U h.tab.pos (by obtain⟨p,hp,ca,_⟩:=h.tab.free (by omega);exact⟨p,hp,ca⟩)
 have V:=h.tab.add U hj S bm s;have al:=Ip h.tab.pos key j;obtain⟨i,hi⟩:∃i,i=probe T key j:=⟨_,rfl⟩;rw[←hi]at aj V S al;obtain⟨x,G⟩:∃x,T[i]?=some x:=⟨_,Ad al⟩;have a4:T.getD i pl0=x:=X9 G;rw[a4]at V;have ai:=fun k q=>Wc h.tab al S s k q (Me.1 U)
 have ah:(ents (T.set i ⟨key,s,true,false⟩)).length =cnt+1:=by rw[h.cnt_,PY,PY];have:=LR (fun p:Pl=>p.has) ⟨key,s,true,false⟩ G;rw[a4]at S;simp only[S]at this;simpa using this
 have bl:encN (R.map frRec++[(s,(FR.put key val).body)])≤2225:=by rw[GP,FU];show _+((FR.put key val).body.length +8+encN [])≤_;have:encN []=0:=rfl;omega
 obtain⟨w1,an⟩:∃w1,w1=w.alloc (.cells #[.string key,.string val,.int .i64 0,.bool false] 171):=⟨_,rfl⟩;have k1:Keep [] w w1:=by rw[an];exact(By _ _).alloc _
 have be:Blk w1 w.heap.size (E8 key val 0 false) 171:=by rw[an];exact BY w _ _
 have b0:∀W,Hid (Calls Tryz.prog 163 #[L7 key val 0 false] W fun e w'=>e=.returned (.bool true)∧Keep [] W w'):=fun W=>h_ (FT key val 0 false (by omega) (by omega) true g.symm)
 have H:=h_2 h hL;have C:=h_4 hd hc br a1;have a7:=h_2 be k1;have D:=h_6 h1 h2 h3 h4 h5 ht;have J:=h_3 bi bh bl;have n:=h_7 V ai ah az aj G a2;have aa:=h_3 bn g hn;obtain⟨i8,b9,cd,ce,cf⟩:=AU In;obtain⟨u,aw⟩:∃u,u=w.heap.size:=⟨_,rfl⟩;have a6:=h_ aw;clear h hL hd hc ht br a1 g hn he a2 h1 h2 h3 h4 h5 bn bi bh U az aj S bm V hj al hi G a4 ai ah bl k1 be;go_enter Tryz.func129,Tryz.ntmps129;go_wp2_with fail;rw[←an,←aw];clear an aw;refine(b0 _).out.mono ?_;rintro e f ⟨rfl,k2⟩;have bf:=a7.out.1.keep k2 (by simp);have z:=h_2 bf (a7.out.2.trans k2);rw[←a6.out]at z;have c0:f.cell? ⟨u,0,none⟩=some (.string key):=z.out.1.cell 0;have c1:f.cell? ⟨u,1,none⟩=some (.string val):=z.out.1.cell 1;have c2:f.cell? ⟨u,2,none⟩=some (.int .i64 0):=z.out.1.cell 2;have c3:f.cell? ⟨u,3,none⟩=some (.bool false):=z.out.1.cell 3;have Y:=z.out.1.keep (Keep.alloc (By [] f) (.cells #[.int .u8 1] 5)) (by simp);have e0:(f.alloc (.cells #[.int .u8 1] 5)).cell? ⟨u,0,none⟩=some (.string key):=Y.cell 0;have Z:(f.alloc (.cells #[.int .u8 1] 5)).cell? ⟨u,1,none⟩=some (.string val):=Y.cell 1;have e2:(f.alloc (.cells #[.int .u8 1] 5)).cell? ⟨u,2,none⟩=some (.int .i64 0):=Y.cell 2;have e3:(f.alloc (.cells #[.int .u8 1] 5)).cell? ⟨u,3,none⟩=some (.bool false):=Y.cell 3
 have bq:IRd ((f.alloc (.cells #[.int .u8 1] 5)).alloc (.cells #[.string key,.string val,.int .i64 0,.bool false] 171)) (.slice (some ⟨f.heap.size+1,0,none⟩) 1 1) [(key,val,0,false)]:=by
  have:=Y1 (f.alloc (.cells #[.int .u8 1] 5)) (ic [(key,val,0,false)]) 171 4 1 1 rfl (by omega) _ rfl;have e:(f.alloc (.cells #[.int .u8 1] 5)).heap.size =f.heap.size+1:=by simp
  rw[e]at this;exact this
 have ba:(f.alloc (.cells #[.int .u8 1] 5)).ownsRow f.heap.size 5 1 (.slice (some ⟨f.heap.size,0,none⟩) 1 1) 1 (Bb [1]):=Yy (xs:=Bb [1]) (spare:=[]) (BY f _ _) rfl (Av _) rfl (by unfold maxLen;omega) (Av _);have bw:=h_ (show Buf _ f.heap.size 5 (.slice (some ⟨f.heap.size,0,none⟩) 1 1) [1]from ba);have b2:=h_ bq;clear k2 bf Y bq ba;go_wp2_with fail;clear e0 Z e2 e3 c0 c1 c2 c3;refine(J4 _ _ b2.out (by simp) (by intro y m;simp at m;subst m;have:=aa.out.1;simp only;omega)).mono ?_;rintro e w5 ⟨v5,rfl,⟨hE,_⟩,k5⟩;have K5:Keep [] f w5:=(((By [] f).alloc _).alloc _).trans k5;have bb:=(bw.out.alloc _).keep k5 (by simp);have a3:=hE.rd.src (P:=Tryz.prog) Ao;obtain⟨a5,n5,rfl⟩:=hE.slice;obtain⟨el,ay⟩:∃el,el=(BM [(key,val,0,false)]).length :=⟨_,rfl⟩;rw[←ay]at a3⊢;have bx:=h_ ay;have ab:=h_3 bb a3 K5;have bk:el≤300:=by have:=J.out.1;omega
 have bs:f.heap.size≤w5.heap.size:=K5.size;have ar:=h_2 bk bs;clear hE k5 K5 bb a3 ay bk bs
 go_wp2_with (first|(at_builtin;refine Bl _ rfl _ _ 81 81 rfl f.heap.size 5 i8 (.int .u8 0) 1 1 Ao b9 cd ce cf rfl (by decide) _ 1 (Bb [1]) rfl ab.out.1 _ el _ rfl ab.out.2.1 (by have:=ar.out.1;unfold maxLen;omega) (by have:=ar.out.1;omega) ar.out.2 ?_;intro v6 w6 a8 a9 _ b5)|fail)
 have av:Buf w6 f.heap.size 5 v6 (FR.put key val).body :=by have Z:(FR.put key val).body =[1]++BM [(key,val,0,false)]:=rfl;unfold Buf;rw[Z,Aj,DW,←bx.out];exact a8
 have au:Keep [] f w6:=ab.out.2.2.then (DJ a9) (fun x G a1=>by have:=(ab.out.1.lt x (Ae.1 G)).1;omega)
 have X:Keep [] w w6:=z.out.2.trans au;have N:=H.out.1.still X;have bc:=H.out.2.still X;have bj:=C.out.1.keep X (by simp) (by simp);have bo:∀q,v6.ownBlock=some q→q∉d::sb::DG lb vl l:=fun q A=>(H.out.2.still z.out.2).at_.newNot (C.out.1.keep z.out.2 (by simp) (by simp)) (av.lt q A).1
 have bd:=MZ N.blk bc bj C.out.2.1 ⟨D.out.1,by have:=D.out;omega⟩ (by have:=D.out;omega) (by have:=D.out;omega) C.out.2.2.1 C.out.2.2.2 av.rd ⟨J.out.1.1,J.out.1.2.1⟩ J.out.2.1 bo N.idx N.tail J.out.2.2 N.heads.1 N.heads.2;have bu:=h_ bd;have aq:=h_2 X (z.out.1.keep au (by simp));clear av au X N bc bj bo bd a8 a9 b5;refine bu.out.mono ?_;rintro e I ⟨rfl,ap,l',K,c',O,Q,ag,am,K7,ad,ae,ak,E,M⟩
 have ax:∀q∈xb::d::sb::DG lb vl l,q<w.heap.size:=by
  intro q A;simp only[Ac]at A;rcases A with rfl|rfl|rfl|A
  ·exact H.out.1.idx.blk.lt
  ·exact C.out.1.dev.lt
  ·exact C.out.1.secs.lt
  ·exact(H.out.2.at_.lt q A).2
 have bg:=aq.out.2.keep K7 (fun g=>by have:=ax u g;rw[a6.out]at this;omega);have cc:=MX E n.out.2.2.2.2.2.2.1 key (by have:=aa.out.1;omega) s (by have:=D.out;omega) i x n.out.2.2.2.1 n.out.2.2.2.2.1 n.out.2.2.2.2.2.1 ⟨by have:=n.out.2.2.2.2.2.2.2.1;split<;>omega,n.out.2.2.2.2.2.2.2.2⟩;have bp:=MX (E.still (By [] I).drew) n.out.2.2.2.2.2.2.1 key (by have:=aa.out.1;omega) s (by have:=D.out;omega) i x n.out.2.2.2.1 n.out.2.2.2.2.1 n.out.2.2.2.2.2.1 ⟨by have:=n.out.2.2.2.2.2.2.2.1;split<;>omega,n.out.2.2.2.2.2.2.2.2⟩;have b1:=h_ bp;have d1:I.cell? ⟨cb,1,none⟩=some (pr xb 0):=M.cell 1;have d2:I.cell? ⟨u,0,none⟩=some (.string key):=bg.cell 0;have b3:=h_9 O Q E M ag am ad ae ak;have bz:=h_2 K7 ax;clear O Q E M ag am ad ae ak K7 ax bg cc bp;go_wp2_with fail;refine BJ 7 (by kernel_rfl) (by kernel_rfl) ?_;simp only[List.take_succ_cons,List.take_zero,BB,Bj]
 repeat still_step
 refine Du ?_;clear d1 d2;go_wp2_with fail;refine b1.out.mono ?_;rintro e w8 ⟨rfl,af,K8⟩;have b4:=h_2 af K8;clear af K8;go_wp2;go_ret;obtain⟨af,K8⟩:=b4.out;have ac:Keep [xb,xg] I w8:=((By [] I).drew.mono (S':=[xb,xg]) (by simp)).trans K8;obtain⟨O,Q,E,M,ag,am,ad,ae,ak⟩:=b3.out;obtain⟨V,ai,ah,az,aj,G,a2⟩:=n.out;have a0:=H.out.1;obtain⟨h1,h2,h3,h4,h5,ht⟩:=D.out
 have ao:∀q∈[xb,xg],Ty I q 326∨Ty I q 330:=by
  intro q A;simp only[Ac,Am,AG]at A;rcases A with rfl|rfl
  ·exact .inl E.blk.ty
  ·exact .inr E.row.ty
 have b7:=O.keep ac (fun y m g=>by
  rcases ao y g with h|h
  ·exact O.at_.apartT h (by decide) m
  ·exact O.at_.apartT h (by decide) m)
 have b8:=Q.keep ac (fun g=>by
  rcases ao d g with h|h<;>exact h.ne Q.dev.ty (by decide) rfl) (fun g=>by
  rcases ao sb g with h|h<;>exact h.ne Q.secs.ty (by decide) rfl)
 have b6:=M.keep ac (fun g=>by rcases ao cb g with h|h<;>exact h.ne M.ty (by decide) rfl)
 have eR:(R++[(s,FR.put key val)]).map frRec=R.map frRec++[(s,(FR.put key val).body)]:=by simp[frRec]
 have ch:=aq.out.1.size;refine⟨rfl,ap,l',K,c',T.set i ⟨key,s,true,false⟩,_,s,⟨b6,⟨s+1,cg,false,q+1,b7,by omega,by omega,by omega,by omega,fun r o=> ?_⟩,by rw[eR];exact am,by rw[eR];exact J.out.2.2, ?_,af,V,fun k pos=> ?_,ah.symm,fun r o k v F=> ?_⟩,by split<;>omega,by rw[Bi],b8,ag, ?_,fun y m=> ?_,ae,ak⟩
 ·rcases Ag.1 o with o|o
  ·have:=h5 r o;omega
  ·simp at o;subst o;simp
 ·rw[CD]
  refine⟨a0.up,by simp,fun a ha b hb=> ?_⟩;simp at hb;subst hb;exact h5 a ha
 ·rw[ai k pos,Js]
  show _↔Option.map Prod.fst (if k=key then some (s,val)else rpF R k)=some pos;by_cases F:k=key
  ·rw[Ay F];simp[F,eq_comm]
  ·rw[Aw F]
   simp only[F,false_and,false_or,ne_eq,not_false_iff,true_and];exact a0.says k pos
 ·rcases Ag.1 o with o|o
  ·exact a0.may r o k v F
  ·simp at o;subst o
   injection F with Z e2;subst Z e2;exact aa.out.2.1
 ·exact((aq.out.1.mono (S':=d::sb::Iw cb lb xb xg vl l) (by simp)).trans (bz.out.1.mono (S':=d::sb::Iw cb lb xb xg vl l) (fun y m _=>by
   simp only[Iw,Ac]at m⊢;rcases m with h|h|h|h<;>simp[h]))).trans (ac.mono (S':=d::sb::Iw cb lb xb xg vl l) (fun y m _=>by
   simp only[Iw,Ac,Am,AG]at m⊢;rcases m with h|h<;>simp[h]))
 ·simp only[Iw,Ac]at m⊢
  rcases m with h|h|h|h
  ·simp[h]
  ·simp[h]
  ·simp[h]
  ·rcases ad y h with h|h
   ·simp[h]
   ·exact .inr (by omega)
end
section
variable {w w':World}
theorem OV (k v:Str)(b:itMay k v 0 false=true):Fp (BM [(k,v,0,false)])=some [(k,v,0,false)]:=by
 refine Uj _ (fun h=> ?_);have:=Im k v b;rw[h]at this;have c:(FR.put k v).body.length =(BM [(k,v,0,false)]).length +1:=rfl
 have e:BM [(k,v,0,false)]=Dc (k,v,0,false):=by unfold BM;rw[Ay (by simp[Dj,b])];simp[CE]
 have a:(Dc (k,v,0,false)).length =(B8 [k,v]).length +(BL [(0:Int),gN false]).length :=by unfold Dc;rw[Aj]
 have d:=FG k v;rw[e]at h;rw[h]at a;simp only[List.length_nil]at a;omega
theorem RG (k v:Str)(M:itMay k v 0 false=true)(B:Value)(h:Rd w B (FR.put k v).body):Calls Tryz.prog 248 #[B] w fun e w'=>e=.returned (.tuple #[L7 k v 0 false,.bool true])∧Keep [] w w':=by
 obtain⟨i8,Y,ag,ac,ah⟩:=AU In;obtain⟨E,s⟩:∃E,E=BM [(k,v,0,false)]:=⟨_,rfl⟩;have K:(FR.put k v).body =1::E:=by rw[s];rfl
 have j:=Im k v M;have u:=Jt k v;have x:=OV k v M;rw[←s]at x;rw[K]at h j u;obtain⟨n,d⟩:∃n,n=(1::E).length :=⟨_,rfl⟩;have H:E.length+1=n:=by rw[d];rfl
 have Z:1≤n∧n≤300:=by rw[d];exact⟨j.1,j.2.1⟩
 have G:∀c∈E,c<256:=fun c V=>u c (Ap _ V)
 have t:=h;obtain⟨sb,so,cap,rfl,W,ab,I⟩:=h.at1 (by simp);have C:=I 0 (by simp);have D:w.cell? ⟨sb,so,none⟩=some (.int .u8 1):=by simpa[Bb,bc]using C
 rw[←d]at t W⊢;have q0:¬(n:Int)<1:=by omega
 obtain⟨o,f⟩:∃o,o=w.alloc (.cells #[.string {data:=#[]},.string {data:=#[]},.int .i64 0,.bool false] 171):=⟨_,rfl⟩;have m:Keep [] w o:=by rw[f];exact(By _ _).alloc _
 have J:Blk o w.heap.size (E8 ByteArray.empty ByteArray.empty 0 false) 171:=by rw[f];exact BY w _ _
 have c1:=m.cell1' D;rw[f]at c1;have N:=t.keep m (by simp);have r:=h_3 (rfl:0=0) J m;have A:=h_2 N d;have i:=h_4 x H Z G;clear h t j u x J m N C D I ab H G d s K;rw[f]at A r;clear f;go_enter Tryz.func248,Tryz.ntmps248
 go_wp2_with (refine Et _ _ _ _ _ _ _ 5 i8 Ao Y ac _ _ _ _ 1 rfl rfl rfl A.out.1 (by simp) ?_;intro P O aa)
 have y:Rd (w.alloc (.cells #[.string {data:=#[]},.string {data:=#[]},.int .i64 0,.bool false] 171)) P E:=O;have R:=h_ (NT (w:=(w.alloc (.cells #[.string {data:=#[]},.string {data:=#[]},.int .i64 0,.bool false] 171))) P E y i.out.2.2.2 (by have:=i.out.2;omega));obtain⟨_,a1,ad,rfl,_,_⟩:=id y;clear y O aa c1;refine R.out.mono ?_;rintro e p ⟨z,T⟩;rcases T with⟨l,v2,a,rfl,F⟩|⟨a,rfl⟩
 ·rw[i.out.1]at a
  injection a with a;subst a;obtain⟨g,ae,spare,rfl,_,X,b,_,_⟩:=E4 F (by simp);have L:=r.out.2.1.keep z (by simp);have d0:p.cell? ⟨g,0,none⟩=some (.string k):=b.cell 0;have d1:p.cell? ⟨g,1,none⟩=some (.string v):=b.cell 1;have d2:p.cell? ⟨g,2,none⟩=some (.int .i64 0):=b.cell 2;have d3:p.cell? ⟨g,3,none⟩=some (.bool false):=b.cell 3;have Q:=h_ L;have S:=h_ (r.out.2.2.trans z);clear L F b X z
  go_wp2_with (refine AS rfl _ _ _ rfl w.heap.size (E8 ByteArray.empty ByteArray.empty 0 false) (E8 k v 0 false) 171 rfl rfl Q.out rfl If (EJ _ _ _ _) ?_;intro w5 U k5)
  have kf:Keep [] w w5:=S.out.then k5 (fun q hq af=>by simp only[Ah]at hq;omega);refine Be (v:= .tuple #[L7 k v 0 false,.bool true]) ?_ rfl ⟨rfl,kf⟩;exact Co Tryz.results248 _ _ w.heap.size 171 _ (0,0) _ rfl U Em rfl If _ rfl
 ·rw[i.out.1]at a;cases a
end
theorem LogOk.sizesG {w:World}{B lb d frm segs j k q:Nat}{i:Bool}{vl:Value}{l:List Sg}{L:List Sec}(h:LogOk w B lb d frm segs j k i vl l L q)(a:segs≤199):(l.length≤1000∧∀s∈l,s.recs.length≤1000)∧(∀s∈l,∀r∈s.rs,r.ok)∧∀s∈l,Q9 s.recs:=by
 have e:∀s∈l,s.ps∈l.map Sg.ps:=fun s a=>AI.2 ⟨s,a,rfl⟩
 refine⟨⟨by have:=h.say.len;simp at this;omega,fun s a=> ?_⟩,fun s a=>(h.say.ok _ (e s a)).1,fun s a=> ?_⟩
 ·have f:=Ik s.rs (h.say.ok _ (e s a)).1
  have g:(encRs s.rs).length ≤378:=(h.say.ok _ (e s a)).2.1;have b:s.rs.length=s.recs.length:=by simp[Sg.rs]
  omega
 ·have f:=h.say.pos
  have g:s.rs.Sublist ((l.map Sg.ps).flatMap PS.rs):=by rw[←LH];have:=Ki Sg.rs (List.singleton_sublist.2 a);simpa using this
  have b:=f.sublist g;unfold Sg.rs at b;rw[List.pairwise_map]at b;exact b
theorem Tl {R:List Rcd}(h:R.Pairwise (fun a b=>a.1<b.1)){a b:Rcd}(k:a∈R)(m:b∈R)(n:a.1=b.1):a=b:=by
 obtain⟨i,f,rfl⟩:=Dq k;obtain⟨j,g,rfl⟩:=Dq m;rw[DB]at h;rcases Nat.lt_trichotomy i j with e|e|e
 ·have:=h i j f g e;omega
 ·subst e;rfl
 ·have:=h j i g f e;omega
section
variable {w w':World} {B cb lb xb xg d sb c frm segs t cnt used:Nat} {vl bv:Value} {l:List Sg} {L:List Sec} {T:Tab} {R:List (Nat×FR)}
theorem FlOk.read (h:FlOk w B cb lb xb xg d frm segs t vl l L T cnt used R)(i:20≤segs∧segs≤199)(E:t≤1000000)(pos:Nat)(r:FR)(g:(pos,r)∈R):
  Calls Tryz.prog 279 #[pr lb 0,.int .i64 (pos:Int)] w fun e w'=>∃v,e=.returned (.tuple #[v,.int .i64 0])∧Buf w' w.heap.size 5 v r.body∧Keep [] w w':=by
 obtain⟨G,I,y,q,a,z,A,C,D,k⟩:=h.log;obtain⟨j,F⟩:=h.tail.wholeG a.say i.1 h.few;rw[←LH]at j;have p:=k _ g;simp only at p;have b:=a.sizesG i.2;refine(UL a.at_ b.1 b.2.1 b.2.2 pos (by omega)).mono ?_;rintro e J ⟨n,x⟩
 have f:(pos,r.body)∈l.flatMap Sg.rs:=by rw[j];exact AI.2 ⟨(pos,r),g,rfl⟩
 rcases n with⟨v,H,rfl,u,s,m⟩|⟨rfl,o⟩
 ·have:=Tl (by have:=a.say.pos;rw[←LH]at this;exact this) u f s
  subst this;exact⟨v,rfl,m,x⟩
 ·exact absurd rfl (o _ f)
theorem NY (h:FlOk w B cb lb xb xg d frm segs t vl l L T cnt used R)(key:Str)(x:key.size≤1000)(y:rpF R key=none)(D:used<T.length):
  Calls Tryz.prog 258 #[pr cb 0,.string key] w fun e w'=>e=.returned (.tuple #[L7 ByteArray.empty ByteArray.empty 0 false,.bool false])∧Keep [] w w':=by
 have b:=h.find key;rw[y]at b;simp only at b
 obtain⟨s,_⟩:=Na b h.tab.pos (by obtain⟨p,z,A,_⟩:=h.tab.free D;exact⟨p,z,A⟩)
 obtain⟨a,f⟩:∃a,a=w.alloc (.cells #[.string {data:=#[]},.string {data:=#[]},.int .i64 0,.bool false] 171):=⟨_,rfl⟩;have g:Keep [] w a:=by rw[f];exact(By _ _).alloc _
 have j:Blk a w.heap.size (E8 ByteArray.empty ByteArray.empty 0 false) 171:=by rw[f];exact BY w _ _
 have i:=h.still g;have c1:a.cell? ⟨cb,1,none⟩=some (pr xb 0):=i.blk.cell 1;have o:=h_ (R9 i.idx key x s);rw[f]at c1 o j g;have m:=h_2 j g;clear h b s i j g f;go_enter Tryz.func258,Tryz.ntmps258;go_wp2_with fail;refine o.out.mono ?_;rintro e I ⟨rfl,k⟩;have r:=m.out.1.keep k (by simp);have n:=h_2 r (m.out.2.trans k);clear r k
 go_wp2_with (refine AS rfl _ _ _ rfl w.heap.size (E8 ByteArray.empty ByteArray.empty 0 false) (E8 ByteArray.empty ByteArray.empty 0 false) 171 rfl rfl n.out.1 rfl If (EJ _ _ _ _) ?_;intro G u E)
 have F:Keep [] w G:=n.out.2.then E (fun q C H=>by simp only[Ah]at C;omega);refine Be (v:= .tuple #[L7 ByteArray.empty ByteArray.empty 0 false,.bool false]) ?_ rfl ⟨rfl,F⟩;exact Co Tryz.results258 _ _ w.heap.size 171 _ (0,0) _ rfl u Em rfl If _ rfl
theorem NX (h:FlOk w B cb lb xb xg d frm segs t vl l L T cnt used R)(M:20≤segs∧segs≤199)(N:t≤1000000)(key:Str)(W:key.size≤1000)(pos:Nat)(v:Str)(K:rpF R key=some (pos,v)):
  Calls Tryz.prog 258 #[pr cb 0,.string key] w fun e w'=>e=.returned (.tuple #[L7 key v 0 false,.bool true])∧Keep [] w w':=by
 have o:=h.find key;rw[K]at o;simp only at o;obtain⟨i,x,I,O,P⟩:=o;have r:=N7 K;have J:=h.may _ r key v rfl;obtain⟨a,g⟩:∃a,a=w.alloc (.cells #[.string {data:=#[]},.string {data:=#[]},.int .i64 0,.bool false] 171):=⟨_,rfl⟩;have j:Keep [] w a:=by rw[g];exact(By _ _).alloc _
 have m:Blk a w.heap.size (E8 ByteArray.empty ByteArray.empty 0 false) 171:=by rw[g];exact BY w _ _
 have f:=h.still j;have c1:a.cell? ⟨cb,1,none⟩=some (pr xb 0):=f.blk.cell 1;have p:=R8 f.idx key W i x I O;rw[P]at p;obtain⟨C,y⟩:=i_2 p f;rw[g]at c1 C m j y;have z:=h_2 m j;have b:=h_4 r J M N;clear h I f m j g p r J O P M N;go_enter Tryz.func258,Tryz.ntmps258;go_wp2_with fail;refine C.out.mono ?_;rintro e w2 ⟨rfl,s⟩;have k:=y.out.still s;have c2:w2.cell? ⟨cb,0,none⟩=some (pr lb 0):=k.blk.cell 0;have U:=h_ (k.read b.out.2.2.1 b.out.2.2.2 pos _ b.out.1);have S:=h_ s;clear k s c1;go_wp2_with fail;refine U.out.mono ?_;rintro e w3 ⟨bv,rfl,n,Q⟩;obtain⟨ba,bc,rfl⟩:=n.slice;have E:=h_ (RG key v b.out.2.1 _ n.rd);have D:=h_ (S.out.trans Q);obtain⟨F,G⟩:∃F,F=(FR.put key v).body.length :=⟨_,rfl⟩;rw[←G]at E⊢;clear n Q c2 G;go_wp2_with fail;refine E.out.mono ?_;rintro e w4 ⟨rfl,u⟩;have H:=z.out.1.keep (D.out.trans u) (by simp);have A:=h_2 H (z.out.2.trans (D.out.trans u));clear H u
 go_wp2_with (refine AS rfl _ _ _ rfl w.heap.size (E8 ByteArray.empty ByteArray.empty 0 false) (E8 key v 0 false) 171 rfl rfl A.out.1 rfl If (EJ _ _ _ _) ?_;intro w5 V Y)
 have Z:Keep [] w w5:=A.out.2.then Y (fun q X aa=>by simp only[Ah]at X;omega);refine Be (v:= .tuple #[L7 key v 0 false,.bool true]) ?_ rfl ⟨rfl,Z⟩;exact Co Tryz.results258 _ _ w.heap.size 171 _ (0,0) _ rfl V Em rfl If _ rfl
end
section
variable {w w':World} {B cb lb xb xg d sb c frm segs t cnt used:Nat} {vl bv:Value} {l:List Sg} {L:List Sec} {T:Tab} {R:List (Nat×FR)}
theorem RJ (h:FlOk w B cb lb xb xg d frm segs t vl l L T cnt used R)(key:Str)(u:key.size≤1000)(y:rpF R key=none)(z:used<T.length)(now:Int):
  Calls Tryz.prog 227 #[pr cb 0,.string key,.int .i64 now] w fun e w'=>e=.returned (.tuple #[L7 ByteArray.empty ByteArray.empty 0 false,.bool false])∧Keep [] w w':=by
 have g:Keep [] w (w.alloc (.cells #[.string {data:=#[]},.string {data:=#[]},.int .i64 0,.bool false] 171)):=(By _ _).alloc _;have k:Blk (w.alloc (.cells #[.string {data:=#[]},.string {data:=#[]},.int .i64 0,.bool false] 171)) w.heap.size (E8 ByteArray.empty ByteArray.empty 0 false) 171:=BY w _ _;have r:=h_ (NY (h.still g) key u y z);have j:=h_2 k g;clear h k g;go_enter Tryz.func227,Tryz.ntmps227;go_wp2_with fail;refine r.out.mono ?_;rintro e b ⟨rfl,i⟩;have n:=j.out.1.keep i (by simp);have o:Keep [] b (b.alloc (.cells #[.string {data:=#[]},.string {data:=#[]},.int .i64 0,.bool false] 171)):=(By _ _).alloc _;have m:Blk (b.alloc (.cells #[.string {data:=#[]},.string {data:=#[]},.int .i64 0,.bool false] 171)) b.heap.size (E8 ByteArray.empty ByteArray.empty 0 false) 171:=BY b _ _;have a:=h_4 n (j.out.2.trans i) m o;clear n i m o
 go_wp2_with (first|(refine AS rfl _ _ _ rfl b.heap.size (E8 ByteArray.empty ByteArray.empty 0 false) (E8 ByteArray.empty ByteArray.empty 0 false) 171 rfl rfl a.out.2.2.1 rfl If (EJ _ _ _ _) ?_;intro F E p)|(refine AS rfl _ _ _ rfl w.heap.size (E8 ByteArray.empty ByteArray.empty 0 false) (E8 ByteArray.empty ByteArray.empty 0 false) 171 rfl rfl ((a.out.1.keep a.out.2.2.2 (by simp)).keep p (by have:=a.out.1.lt;simp;omega)) rfl If (EJ _ _ _ _) ?_;intro D s A))
 have C:Keep [] w D:=((a.out.2.1.trans a.out.2.2.2).then p (fun q f x=>by have:=a.out.2.1.size;simp only[Ah]at f;omega)).then A (fun q f x=>by simp only[Ah]at f;omega);refine Be (v:= .tuple #[L7 ByteArray.empty ByteArray.empty 0 false,.bool false]) ?_ rfl ⟨rfl,C⟩;exact Co Tryz.results227 _ _ w.heap.size 171 _ (0,0) _ rfl s Em rfl If _ rfl
theorem RI (h:FlOk w B cb lb xb xg d frm segs t vl l L T cnt used R)(P:20≤segs∧segs≤199)(Q:t≤1000000)(key:Str)(N:key.size≤1000)(pos:Nat)(v:Str)(G:rpF R key=some (pos,v))(now:Int):
  Calls Tryz.prog 227 #[pr cb 0,.string key,.int .i64 now] w fun e w'=>e=.returned (.tuple #[L7 key v 0 false,.bool true])∧Keep [] w w':=by
 have m:=h.may _ (N7 G) key v rfl
 have F:key.size≤9223372036854775807∧v.size≤9223372036854775807:=by unfold itMay itKey at m;simp only[Ar,A0]at m;omega
 have K:∀W,Hid (Calls Tryz.prog 259 #[L7 key v 0 false,.int .i64 now] W fun e w'=>e=.returned (.bool true)∧Keep [] W w'):=fun W=>h_ (WM key v 0 false now F.1 F.2 true (by unfold L8;rw[m];rfl))
 have o:Keep [] w (w.alloc (.cells #[.string {data:=#[]},.string {data:=#[]},.int .i64 0,.bool false] 171)):=(By _ _).alloc _;have C:Blk (w.alloc (.cells #[.string {data:=#[]},.string {data:=#[]},.int .i64 0,.bool false] 171)) w.heap.size (E8 ByteArray.empty ByteArray.empty 0 false) 171:=BY w _ _;have J:=h_ (NX (h.still o) P Q key N pos v G);have s:=h_2 C o;clear h C o;go_enter Tryz.func227,Tryz.ntmps227;go_wp2_with fail;refine J.out.mono ?_;rintro e a ⟨rfl,p⟩;have E:=s.out.1.keep p (by simp);have H:Keep [] a (a.alloc (.cells #[.string {data:=#[]},.string {data:=#[]},.int .i64 0,.bool false] 171)):=(By _ _).alloc _;have D:Blk (a.alloc (.cells #[.string {data:=#[]},.string {data:=#[]},.int .i64 0,.bool false] 171)) a.heap.size (E8 ByteArray.empty ByteArray.empty 0 false) 171:=BY a _ _;have b:=h_4 E (s.out.2.trans p) D H;clear E p D H
 go_wp2_with (refine AS rfl _ _ _ rfl a.heap.size (E8 ByteArray.empty ByteArray.empty 0 false) (E8 key v 0 false) 171 rfl rfl b.out.2.2.1 rfl If (EJ _ _ _ _) ?_;intro i f I;have x:i.cell? ⟨a.heap.size,0,none⟩=some (.string key):=f.cell 0;have y:i.cell? ⟨a.heap.size,1,none⟩=some (.string v):=f.cell 1;have z:i.cell? ⟨a.heap.size,2,none⟩=some (.int .i64 0):=f.cell 2;have A:i.cell? ⟨a.heap.size,3,none⟩=some (.bool false):=f.cell 3)
 have k:=h_2 f I;clear f I x y z A;refine(K _).out.mono ?_;rintro e j ⟨rfl,r⟩;have g:=k.out.1.keep r (by simp);have x:j.cell? ⟨a.heap.size,0,none⟩=some (.string key):=g.cell 0;have y:j.cell? ⟨a.heap.size,1,none⟩=some (.string v):=g.cell 1;have z:j.cell? ⟨a.heap.size,2,none⟩=some (.int .i64 0):=g.cell 2;have A:j.cell? ⟨a.heap.size,3,none⟩=some (.bool false):=g.cell 3;have u:=h_ r;clear g r
 go_wp2_with (refine AS rfl _ _ _ rfl w.heap.size (E8 ByteArray.empty ByteArray.empty 0 false) (E8 key v 0 false) 171 rfl rfl (((b.out.1.keep b.out.2.2.2 (by simp)).keep k.out.2 (by have:=b.out.1.lt;simp;omega)).keep u.out (by simp)) rfl If (EJ _ _ _ _) ?_;intro V M S)
 have U:Keep [] w V:=(((b.out.2.1.trans b.out.2.2.2).then k.out.2 (fun q n O=>by have:=b.out.2.1.size;simp only[Ah]at n;omega)).trans u.out).then S (fun q n O=>by simp only[Ah]at n;omega);refine Be (v:= .tuple #[L7 key v 0 false,.bool true]) ?_ rfl ⟨rfl,U⟩;exact Co Tryz.results227 _ _ w.heap.size 171 _ (0,0) _ rfl M Em rfl If _ rfl
end
theorem pdqZ {w:World}{a:Option Addr}{cap:Nat}(k:Int):Calls Tryz.prog 296 #[.slice a 0 cap,.int .i64 0,.int .i64 0,.int .i64 k,CMP] w fun e b=>e=.returned (.tuple #[])∧b=w:=by
 go_enter Tryz.func296,Tryz.ntmps296;go_wp2
 go_loopw [1,2,3] (fun f g h wr=>f=.int .i64 0∧g=.int .i64 0∧h=.int .i64 k∧wr=w) (fun _ _ _ _=>0)
 case atStart=>exact⟨rfl,rfl,rfl,rfl⟩
 case round=>
 obtain⟨rfl,rfl,rfl,rfl⟩:=hrel;go_wp2_with fail;refine(RA).mono ?_;rintro e b ⟨rfl,rfl⟩;go_wp2_with fail;exact Be (v:= .tuple #[]) (Cx (by kernel_rfl) _ _ _) rfl ⟨rfl,rfl⟩
theorem sortZ {w:World}{a:Option Addr}{cap:Nat}:Calls Tryz.prog 269 #[.slice a 0 cap,CMP] w fun e b=>e=.returned (.tuple #[])∧b=w:=by
 go_enter Tryz.func269,Tryz.ntmps269;go_wp2_with fail;refine(X3 0 (by decide)).mono ?_;rintro e b ⟨⟨k,rfl⟩,rfl⟩;go_wp2_with fail;refine(pdqZ k).mono ?_;rintro e f ⟨rfl,rfl⟩;go_wp2
 go_end0
 exact⟨rfl,rfl⟩
section
variable {w:World} {d sb c frm segs:Nat} {L:List Sec}
theorem openZ (D:IsDev w d sb L c)(X:∀i,frm≤i→i<frm+segs*8→nowF L i=List.replicate 64 0)(aj:3≤segs∧segs≤199)(U:frm+segs*8≤L.length):
  Calls Tryz.prog 245 #[pr d 0,.int .i64 (frm:Int),.int .i64 (segs:Int)] w fun e q=>∃f vl l run',e=.returned (.tuple #[pr f 0,.int .i64 0])∧LogOk q w.heap.size f d frm segs 1 run' true vl l L 0∧l.map Sg.ps=[]∧run'≤1∧Keep [] w q:=by
 have V:=D.max;have ah:frm≤2048:=by omega
 obtain⟨O,M⟩:=i_2 X aj;have aq:=h_ (show frm≤2048 from ah);obtain⟨ar,af⟩:=i_2 U V;have m:=BY w [.int .i64 (segs:Int)] 3;have u:=(By [] w).alloc (.cells #[.int .i64 (segs:Int)] 3);simp only[List.toArray]at m;have Q:=D.keep u (by simp) (by simp);clear X V D;go_enter Tryz.func245,Tryz.ntmps245;go_upto_region 3 with fail;obtain⟨c5,C⟩:∃c5,c5=w.heap.size:=⟨_,rfl⟩;rw[←C]at m⊢;generalize w.alloc (.cells #[.int .i64 (segs:Int)] 3)=w1 at*;obtain⟨H,ap⟩:=i_2 u C;have g:=m.cell 0;simp only[List.getElem?_cons_zero]at g;have q1:decide ((segs:Int)<3)=false:=Ak (by omega);have q2:decide ((segs:Int)>200)=false:=Ak (by omega);have ak:decide (segs<3)=false:=Ak (by omega);have al:decide (200<segs)=false:=Ak (by omega);have q3:decide ((frm:Int)<0)=false:=Ak (by omega);have q4:decide ((frm:Int)>(L.length:Int)-(segs:Int)*8)=false:=Ak (by omega);have Y:¬(wrap64 ((L.length:Int)-(segs:Int)*8)<(frm:Int)):=by have:=af.out;unfold wrap64;omega
 have an:decide (wrap64 ((L.length:Int)-(segs:Int)*8)<(frm:Int))=false:=Ak Y;have am:¬((L.length:Int)-(segs:Int)*8<(frm:Int)):=by omega
 have ad:Hid (∀W,IsDev W d sb L c→Calls Tryz.prog 150 #[pr d 0] W fun e q=>e=.returned (.int .i64 (L.length:Int))∧q=W):=h_ (fun W h=>(IH h).mono (fun _ _ ⟨a,b⟩=>⟨a,b.symm⟩));have r:=h_ Q;clear u C Q
 go_quiet ((go_at_call 150;exact Calls.quiet_of_same (ad.out _ (r.out.keep (Ek (By [] _) _) (by simp) (by simp)))))
 have R:=r.out.keep (Ek (By [] w1) nq) (by simp) (by simp);have y:=m.keep (Ek (By [] w1) nq) (by simp);have s:=h_ (Ek H.out nq);generalize w1.drewN nq=w2 at*;clear m r H g;have g:=y.cell 0;simp only[List.getElem?_cons_zero]at g;go_upto_region 6 with fail;clear q1 q2 q3 q4 ak al am Y an;have B:=BY w2 (lgC d (frm:Int) (segs:Int) nilS 1 1 true) 333;have o:=(By [] w2).alloc (.cells (lgC d (frm:Int) (segs:Int) nilS 1 1 true).toArray 333);rw[show(#[pr d 0,.int .i64 (frm:Int),.int .i64 (segs:Int),.slice none 0 0,.int .i64 1,.int .i64 1,.bool true]:Array Value)=(lgC d (frm:Int) (segs:Int) nilS 1 1 true).toArray from rfl];obtain⟨f,S⟩:∃f,f=w2.heap.size:=⟨_,rfl⟩;rw[←S]at B⊢;generalize w2.alloc (.cells (lgC d (frm:Int) (segs:Int) nilS 1 1 true).toArray 333)=w3 at*;have T:LogAt w3 w.heap.size f d frm segs 1 1 true nilS []:=⟨B,SgRow.nil _ _,List.nodup_nil,by have:=s.out.size;omega⟩;have K:=h_ T;have ab:=h_ (R.keep o (by simp) (by simp));have z:=y.keep o (by simp);have G:=h_ z;have ac:=h_ (s.out.trans o);have g:=z.cell 0;simp only[List.getElem?_cons_zero]at g;clear B o S T y z R s;have ag:Hid (c5≠f):=h_ (G.out.ty.ne K.out.blk.ty (by decide));go_wp2
 go_loopw [43] (fun ao wr=>∃(k:Nat),ao=.int .i64 (k:Int)∧k≤segs∧LogAt wr w.heap.size f d frm segs 1 1 true nilS []∧IsDev wr d sb L c∧Blk wr c5 [.int .i64 (segs:Int)] 3∧Keep [] w wr) (fun x _=>segs-(intOf x).toNat)
 case atStart=>exact⟨0,rfl,AA _,K.out,ab.out,G.out,ac.out⟩
 case round=>
 obtain⟨k,rfl,hk,p,E,A,v⟩:=hrel;obtain⟨j,n,aa,J⟩:=i_4 p E A v;by_cases ai:k<segs
 ·have q5:decide ((k:Int)<(segs:Int))=true:=An (by omega)
  have I:=h_ ai;have Z:Hid (frm+k*8+8≤L.length):=h_ (by omega);clear p E v g A;go_wp2_with fail;refine(TF n.out frm segs nilS 1 1 true j.out.blk k (frm+k*8) ⟨I.out,by have:=M.out;omega,by omega⟩ rfl Z.out (fun i hi=>O.out _ (by omega) (by have:=I.out;omega)) ⟨by decide,by decide⟩).mono ?_;rintro e w4 ⟨rfl,P,F⟩;have ae:=h_ (j.out.reblk (nx':=1) (run':=1) (fr':=true) F P);have t:=h_ F;clear P F;go_wp2
  go_roundw
  case rel=>
   refine⟨k+1,by go_num,by omega,ae.out, ?_, ?_, ?_⟩
   ·exact n.out.keep t.out (by simp;exact n.out.dev.ty.ne j.out.blk.ty (by decide)) (by simp;exact n.out.secs.ty.ne j.out.blk.ty (by decide))
   ·exact aa.out.keep t.out (by simp;exact ag.out)
   ·exact J.out.then t.out (by intro x hx U;simp at hx;have:=j.out.new;omega)
  case measure=>simp only[intOf];omega
 ·obtain rfl:k=segs:=by omega
  have q5:decide ((k:Int)<(k:Int))=false:=by simp
  have c3:wr.cell? ⟨f,3,none⟩=some (.slice none 0 0):=Hk p.blk;have N:=h_ (sortZ (w:=wr) (a:=none) (cap:=0));unfold CMP at N;clear p E v g A;go_wp2_with fail;refine N.out.mono ?_;rintro e w4 ⟨rfl,rfl⟩;go_wp2;go_ret2;obtain⟨a,b,c,d⟩:=DevOk.fresh (segs:=k) O.out (by have:=M.out;omega);exact⟨f,nilS,[],1,rfl,⟨j.out,⟨a,b,fun i h1 h2=>by have:=c i h1 h2;omega,d⟩,SOk.fresh k 0⟩,rfl,Av _,J.out⟩
end
section
variable {w w':World} {d sb c frm segs:Nat} {L:List Sec}
theorem Oa (J:IsDev w d sb L c)(Q:∀i,frm≤i→i<frm+segs*8→nowF L i=List.replicate 64 0)(P:20≤segs∧segs≤199)(M:frm+segs*8≤L.length):
  Calls Tryz.prog 210 #[pr d 0,.int .i64 (frm:Int),.int .i64 (segs:Int)] w fun e w'=>∃v a b k h l,e=.returned (.tuple #[pr v 0,.int .i64 0])∧
   FlOk w' w.heap.size v a b k d frm segs 1 h l L EP 0 0 []∧Keep [] w w'∧∀q∈Iw v a b k h l,w.heap.size≤q:=by
 have V:=h_ (openZ J Q ⟨by omega,P.2⟩ M);clear J Q M;go_enter Tryz.func210,Tryz.ntmps210;go_wp2_with fail;refine V.out.mono ?_;rintro e w2 ⟨a,h,l,run',rfl,F,K,O,R⟩;have G:LogOk w2 w.heap.size a d frm segs 1 run' true h l L 0:=F;have f:=h_4 G K O R;clear F K O R G;go_wp2_with fail;refine IC.mono ?_;rintro e j ⟨b,k,rfl,I,r,z,p⟩;obtain⟨u,o⟩:∃u,u=j.alloc (.cells #[pr a 0,pr b 0] 283):=⟨_,rfl⟩;have s:Keep [] j u:=by rw[o];exact(By _ _).alloc _
 have E:Blk u j.heap.size [pr a 0,pr b 0] 283:=by rw[o];exact BY j _ _
 have g:=(f.out.1.still r).still s;have y:=g.sizesG P.2;have A:=h_ (Mg g.at_ y.1 y.2.1);have X:=f.out.2.2.2.size;have Y:=r.size;have m:=FlOk.fresh (t:=1) E g f.out.2.1 f.out.2.2.1 (Av _) (I.still s);have B:=h_4 m ((f.out.2.2.2.trans r).trans s) (show w.heap.size≤j.heap.size by omega) (show w.heap.size≤b∧w.heap.size≤k by omega);rw[o]at A B;have N:=g.at_.lt;have U:=h_ N;have T:Hid (l.flatMap Sg.rs=[]):=h_ (by rw[LH,f.out.2.1];rfl);clear I r z p s E g y X Y m N o;go_wp2_with fail;refine A.out.mono ?_;rintro e w5 ⟨v5,W,rfl,H,x,S⟩
 have aa:W=[]:=by rw[T.out]at x;exact List.map_eq_nil_iff.1 x
 subst aa
 obtain⟨D,c5,rfl⟩:∃D c5,v5=.slice D 0 c5:=by exact A4 H.own
 have C:=h_ S;clear H x S;go_wp2
 go_loopw [32] (fun ab wr=>ab=.int .i64 0∧wr=w5) (fun _ _=>0)
 case atStart=>exact⟨rfl,rfl⟩
 case round=>
 obtain⟨rfl,rfl⟩:=hrel;go_wp2;go_ret2;obtain⟨m,Z,z,p⟩:=B.out;refine⟨_,a,b,k,h,l,rfl,m.still C.out,Z.trans C.out,fun q n=> ?_⟩;simp only[Iw,Ac]at n;rcases n with rfl|rfl|rfl|n
 ·exact z
 ·exact p.1
 ·exact p.2
 ·exact(U.out q n).1
end
def recOf (a:JMk):Rcd:=(a.pos,Ga (zz (a.seq:Int))++a.key)
def jF (jb lb:Nat)(v vl:Value)(l:List Sg):List Nat:=jb::(v.ownBlock.toList++DG lb vl l)
structure JOk (w:World) (B jb lb d frm t:Nat) (vl v:Value) (l:List Sg) (L:List Sec) (M:List JMk):Prop where
 at_:JAt w B jb lb v M
 new:B≤jb
 log:∃nx run fr q,LogOk w B lb d frm 20 nx run fr vl l L q∧1≤nx∧nx≤t∧run≤t∧q≤t
 tail:Tail 20 (l.map Sg.ps) (M.map recOf)
 few:encN (M.map recOf)≤2225
 seq:∀i a,M[i]?=some a→a.seq=i+1
section
variable {w w':World} {B jb lb d sb c frm t:Nat} {vl v:Value} {l:List Sg} {L:List Sec} {M:List JMk}
theorem JOk.keep {S:List Nat}(h:JOk w B jb lb d frm t vl v l L M)(k:Keep S w w')(a:∀x∈jF jb lb v vl l,x∉S):JOk w' B jb lb d frm t vl v l L M:=by obtain⟨p,r,e,q,m,f,g,i,j⟩:=h.log;refine⟨h.at_.keep k (a jb (by simp[jF])) (fun b n=>a b (by simp[jF,n])),h.new,⟨p,r,e,q,m.keep k (fun x o=>a x (by simp[jF,o])),f,g,i,j⟩,h.tail,h.few,h.seq⟩
theorem JOk.still (h:JOk w B jb lb d frm t vl v l L M)(k:Keep [] w w'):JOk w' B jb lb d frm t vl v l L M:=h.keep k (by simp)
theorem JOk.later {a:Nat}(h:JOk w B jb lb d frm t vl v l L M)(n:t≤a):JOk w B jb lb d frm a vl v l L M:=by obtain⟨g,i,b,q,f,e,j,k,m⟩:=h.log;exact⟨h.at_,h.new,⟨g,i,b,q,f,e,by omega,by omega,by omega⟩,h.tail,h.few,h.seq⟩
theorem JOk.lt (h:JOk w B jb lb d frm t vl v l L M):∀x∈jF jb lb v vl l,B≤x∧x<w.heap.size:=by
 intro x a;obtain⟨f,g,e,q,b,_⟩:=h.log;unfold jF at a;rcases Ac.1 a with rfl|a
 ·exact⟨h.new,h.at_.blk.lt⟩
 ·rcases Ag.1 a with a|a
  ·exact h.at_.row.lt x (Ae.1 a)
  ·exact b.at_.lt x a
theorem JOk.tys (h:JOk w B jb lb d frm t vl v l L M):∀x∈jF jb lb v vl l,Ty w x 319∨Ty w x 321∨Ty w x 333∨Ty w x 359∨Ty w x 358∨Ty w x 353∨Ty w x 5:=by
 intro x a;obtain⟨f,g,e,q,b,_⟩:=h.log;unfold jF at a;rcases Ac.1 a with rfl|a
 ·exact .inl h.at_.blk.ty
 ·rcases Ag.1 a with a|a
  ·exact .inr (.inl (h.at_.row.ty x (Ae.1 a)))
  ·exact .inr (.inr (b.at_.ty x a))
theorem JOk.notT {T:TypeId}{b:Nat}(h:JOk w B jb lb d frm t vl v l L M)(a:Ty w b T)(e:T∉ [319,321,333,359,358,353,5]):b∉jF jb lb v vl l:=by
 intro f;simp only[Ac,Am,AG,not_or]at e;obtain⟨g,i,j,k,m,n,o⟩:=e;rcases h.tys b f with t|t|t|t|t|t|t
 ·exact a.ne t g rfl
 ·exact a.ne t i rfl
 ·exact a.ne t j rfl
 ·exact a.ne t k rfl
 ·exact a.ne t m rfl
 ·exact a.ne t n rfl
 ·exact a.ne t o rfl
end
def kb (k:ByteArray):List Nat:=sb k
def JDev (L:List Sec)(frm t:Nat)(M:List JMk):Prop:=
 ∃S b c q,DevOk L frm 20 c S∧SOk 20 S b q∧(1≤b∧b≤t∧c≤t∧q≤t)∧Tail 20 S (M.map recOf)∧encN (M.map recOf)≤2225∧∀i a,M[i]?=some a→a.seq=i+1
theorem JOpenZ {w:World}{d sb c frm t:Nat}{L:List Sec}(E:IsDev w d sb L c)(H:∀i,frm≤i→i<frm+160→nowF L i=List.replicate 64 0)(S:frm+160≤L.length):
  Calls Tryz.prog 209 #[pr d 0,.int .i64 (frm:Int),.int .i64 20] w fun e I=>∃j f p v l,e=.returned (.tuple #[pr j 0,.int .i64 0])∧JOk I w.heap.size j f d frm (t+70) p v l L []∧Keep [] w I:=by
 have O:=h_ (openZ (segs:=20) E H ⟨by decide,by decide⟩ (by omega));clear E H S;go_enter Tryz.func209,Tryz.ntmps209;go_wp2_with fail;refine O.out.mono ?_;rintro e k ⟨f,p,l,T,rfl,A,D,F,y⟩;have Q:l=[]:=List.map_eq_nil_iff.1 D;subst Q;obtain⟨u,P,q⟩:=i_3 A F y;clear A D F y;go_upto_region 9 with fail;have g:=BY k (jnC f (.slice none 0 0)) 319;have K:=(By [] k).alloc (.cells (jnC f (.slice none 0 0)).toArray 319);unfold jnC at g K;simp only[List.toArray]at g K;obtain⟨j,o⟩:∃b,b=k.heap.size:=⟨_,rfl⟩;rw[←o]at g⊢;have N:=h_ o;clear o;generalize k.alloc (.cells #[pr f 0,.slice none 0 0] 319)=w2 at*;obtain⟨M,s⟩:=i_2 g K;have J:=h_ (Mg (u.out.still K).at_ ⟨by simp,by simp⟩ (by simp));clear g K;go_wp2_with fail;refine J.out.mono ?_;rintro e V ⟨Y,x,rfl,C,B,z⟩
 have R:x=[]:=by
  have:x.map (·.r)=[]:=by simpa using B
  exact List.map_eq_nil_iff.1 this
 subst R;obtain⟨W,X,rfl⟩:=C.slice;rw[show([]:List Rc).length =0 from rfl];have m:=h_ z;clear C B z;go_wp2
 go_loopw [38] (fun U wr=>U=.int .i64 0∧wr=V) (fun _ _=>0)
 case atStart=>exact⟨rfl,rfl⟩
 case round=>
 obtain⟨rfl,G⟩:=hrel;have n:=h_ G;clear G;go_wp2;go_ret2;refine⟨j,f,p,_,[],rfl,⟨⟨?_,AY _ _ _ _⟩, ?_,⟨1,T,true,0, ?_,Av _,by omega,by have:=P.out;omega,AA _⟩,Tail.nil 20,AA _,fun i a h=>by simp at h⟩, ?_⟩
 ·rw[n.out];exact M.out.keep m.out (by simp)
 ·rw[N.out];exact q.out.size
 ·rw[n.out];exact(u.out.still s.out).still m.out
 ·rw[n.out];exact(q.out.trans s.out).trans m.out
structure StD where
 k:Nat
 s:Nat
 turn:Nat
 slot:Nat
 jB:Nat
 jb:Nat
 jlb:Nat
 jvl:Value
 jv:Value
 jl:List Sg
 fB:Nat
 cb:Nat
 lb:Nat
 xb:Nat
 xg:Nat
 vl:Value
 l:List Sg
 T:Tab
 cnt:Nat
 used:Nat
def StD.jF (x:StD):List Nat:=Go.Proofs.YtnhbioehiiifdaaGreat.jF x.jb x.jlb x.jv x.jvl x.jl
def StD.fF (x:StD):List Nat:=Iw x.cb x.lb x.xb x.xg x.vl x.l
def StD.F (x:StD)(stb:Nat):List Nat:=stb::x.k::x.s::(x.jF++x.fF)
structure StAt (w:World) (stb d sb c t segs:Nat) (L:List Sec) (bt:Nat) (st ep rd:Int) (fz:Bool) (M:List JMk) (R:List (Nat×FR)) (x:StD):Prop where
 blk:Blk w stb [.pointer (some ⟨x.cb,0,none⟩),.pointer (some ⟨x.jb,0,none⟩),.pointer (some ⟨x.k,0,none⟩),.int .i64 st] 76
 dev:IsDev w d sb L c
 kep:IsKep0 w x.k x.s d 0 x.turn x.slot bt ep rd fz
 lim:x.slot≤1∧x.turn≤t
 jn:JOk w x.jB x.jb x.jlb d 2 t x.jvl x.jv x.jl L M
 fl:FlOk w x.fB x.cb x.lb x.xb x.xg d 162 segs t x.vl x.l L x.T x.cnt x.used R
 apart:∀q∈x.jF,q∉x.fF
 segs_:20≤segs∧segs≤199∧162+segs*8≤L.length
theorem StAt.keep {w w':World}{stb d sb c t segs:Nat}{L:List Sec}{g:Nat}{i ep rd:Int}{fz:Bool}{M:List JMk}{R:List (Nat×FR)}{x:StD}{S:List Nat}(h:StAt w stb d sb c t segs L g i ep rd fz M R x)(k:Keep S w w')(j:d∉S)(l:sb∉S)(e:∀q∈S,q∉x.F stb):StAt w' stb d sb c t segs L g i ep rd fz M R x:=by refine⟨h.blk.keep k (fun a=>e _ a (by simp[StD.F])),h.dev.keep k j l,h.kep.keep' k (fun a=>e _ a (by simp[StD.F])) (fun a=>e _ a (by simp[StD.F])),h.lim,h.jn.keep k (fun q f a=>e q a (by simp[StD.F,StD.jF,f])),h.fl.keep k (fun q f a=>e q f (by simp[StD.F,StD.fF,a])),h.apart,h.segs_⟩
section
variable {w w':World} {d sb c k s turn slot t segs:Nat} {L:List Sec} {b:Nat} {ep rd:Int} {fz:Bool} {M:List JMk}
theorem Pa (hd:IsDev w d sb L c)(K:c+100≤1099511627776)(hk:IsKep0 w k s d 0 turn slot b ep rd fz)(R:slot≤1)(U:turn≤t)(P:Ep ((b:Int)+1) ep rd fz=true)(S:t≤100000)(A:∀i,2≤i→i<162→nowF L i=List.replicate 64 0)
  (V:∀i,162≤i→i<162+segs*8→nowF L i=List.replicate 64 0) (D:20≤segs∧segs≤199) (hL:162+segs*8≤L.length∧L.length<162+segs*8+8):
  Calls Tryz.prog 158 #[pr d 0,pr k 0] w fun e w'=>∃stb x f,e=.returned (.tuple #[pr stb 0,.int .i64 0])∧
   StAt w' stb d sb (c+2) (t+100) segs f (b+1) ((b:Int)+1) ep rd fz [] [] x∧f.length=L.length∧Keep [d,sb,s,k] w w'∧x.k=k∧x.s=s∧(∀q∈x.F stb,q=k∨q=s∨w.heap.size≤q)∧
   f=(L.map flushSec).set (0+(1-slot)) ⟨Cz (turn+1) (meText ((b:Int)+1) ep rd fz),Cz (turn+1) (meText ((b:Int)+1) ep rd fz),false⟩∧x.slot=1-slot∧x.turn=turn+1∧x.T=EP∧x.used=0∧x.cnt=0:=by
 have Z:∀W,Keep [] w W→Hid (Calls Tryz.prog 22 #[pr k 0] W fun x w'=>x=.returned (SP b ep rd fz)∧Keep [] W w'):=fun W Y=>h_ (Ir (hk.keep' Y (by simp) (by simp)))
 have ag:=(Z w (By _ _)).out;have H:=h_2 hd hk;have a:=h_9 K R U P S A V D hL;have Z:=h_ ag;clear hd hk K R U P S A V D hL ag;go_enter Tryz.func158,Tryz.ntmps158;go_wp2_with fail;refine Z.out.mono ?_;rintro e G ⟨rfl,k2⟩;have ab:=h_ k2;clear k2
 have ao:(b:Int)+1≤1099511627776:=by have:=a.out.2.2.2.1;unfold Ep Ly at this;simp only[Ar,A0]at this;omega
 have aj:∀W,Keep [] w W→Hid (Calls Tryz.prog 188 #[pr k 0,SP ((b:Int)+1) ep rd fz] W fun x w'=>x=.returned (.int .i64 0)∧
   IsDev w' d sb ((L.map flushSec).set (0+(1-slot)) ⟨Cz (turn+1) (meText ((b:Int)+1) ep rd fz),Cz (turn+1) (meText ((b:Int)+1) ep rd fz),false⟩) (c+2)∧IsKep0 w' k s d 0 (turn+1) (1-slot) ((b:Int)+1) ep rd fz∧Keep [d,sb,s,k] W w'):=fun W Y=>h_
   (Jd (H.out.1.keep Y (by simp) (by simp)) (H.out.2.keep' Y (by simp) (by simp)) ((b:Int)+1) ep rd fz a.out.2.2.2.1.symm (by omega) (Int.le_refl _) a.out.2.1 (by have:=a.out.2.2.2.2.2.2.2.2.1;omega) (by have:=a.out.2.2.1;have:=a.out.2.2.2.2.1;omega) (by have:=a.out.1;omega))
 have ac:Blk (G.alloc (.cells #[.int .i64 ((b:Int)+1),.int .i64 ep,.int .i64 rd,.bool fz] 49)) G.heap.size [.int .i64 ((b:Int)+1),.int .i64 ep,.int .i64 rd,.bool fz] 49:=BY G _ _;have k4:Keep [] G (G.alloc (.cells #[.int .i64 ((b:Int)+1),.int .i64 ep,.int .i64 rd,.bool fz] 49)):=(By _ _).alloc _;have I:=h_2 ac (ab.out.trans k4);clear ac k4;go_wp2_with fail;refine(aj _ I.out.2).out.mono ?_;rintro e w5 ⟨rfl,r,O,o⟩;obtain⟨f,z⟩:∃f,f=(L.map flushSec).set (0+(1-slot)) ⟨Cz (turn+1) (meText ((b:Int)+1) ep rd fz),Cz (turn+1) (meText ((b:Int)+1) ep rd fz),false⟩:=⟨_,rfl⟩;rw[←z]at r;have ai:=h_ z;obtain⟨K,R,U,P,S,A,V,D,ak⟩:=a.out;have C:f.length=L.length:=by rw[z];simp
 have Q:∀i,2≤i→nowF f i=nowF L i:=fun i hi=>by rw[z,DF _ _ _ _ (by simp;omega),Aw (by omega),CS]
 have ad:=I.out.1.keep o (by have p:=H.out.1.dev.lt;have v:=H.out.1.secs.lt;have h3:=H.out.2.1.lt;have h4:=H.out.2.2.lt;have h5:=ab.out.size;simp only[Ac,Am,AG];omega)
 have HJ:=h_ (JOpenZ (frm:=2) (t:=t) r (fun i p v=>by rw[Q i p];exact A i p v) (by omega));have n:=h_7 r O (I.out.2.size) ((I.out.2.mono (S':=[d,sb,s,k]) (by simp)).trans o) C Q ad;clear r O o z K R U P S A V D ak C Q ad;go_wp2_with fail;refine HJ.out.mono ?_;rintro e w6 ⟨X,am,an,jv,jl,rfl,B,m⟩;have aa:=n.out.1.keep m (by simp) (by simp);have ah:=h_ (IH aa);have HF:=h_ (Oa (frm:=162) (segs:=segs) aa (fun i p v=>by rw[n.out.2.2.2.2.2.1 i (by omega)];exact a.out.2.2.2.2.2.2.1 i p v) a.out.2.2.2.2.2.2.2.1 (by have:=a.out.2.2.2.2.2.2.2.2.1;have:=n.out.2.2.2.2.1;omega));have H6:=h_2 B m;clear B m aa;have aq:f.length<162+segs*8+8∧162+segs*8≤f.length:=by have:=a.out.2.2.2.2.2.2.2.2;have:=n.out.2.2.2.2.1;omega
 have D:=a.out.2.2.2.2.2.2.2.1;go_wp2_with fail;refine ah.out.mono ?_;rintro e w7 ⟨rfl,rfl⟩;go_wp2_with fail;have g:((f.length:Int)-162)/8=(segs:Int):=by omega
 rw[g];clear g;refine HF.out.mono ?_;rintro e u ⟨J,lb,xb,xg,vl,l,rfl,N,j,y⟩;have ae:=((n.out.2.2.2.2.2.2).keep H6.out.2 (by simp)).keep j (by simp);have c0:=ae.cell 0;have H8:=h_3 N j y;clear N j y ae;go_wp2;go_ret2;obtain⟨r,O,ar,o,C,Q,_⟩:=n.out;obtain⟨B,m⟩:=H6.out;obtain⟨N,j,y⟩:=H8.out;have E:Keep [] u (u.alloc (.cells #[pr J 0,pr X 0,pr k 0,.int .i64 ((b:Int)+1)] 76)):=(By _ _).alloc _;have hB:Blk (u.alloc (.cells #[pr J 0,pr X 0,pr k 0,.int .i64 ((b:Int)+1)] 76)) u.heap.size [pr J 0,pr X 0,pr k 0,.int .i64 ((b:Int)+1)] 76:=BY u _ _;have av:=m.size;have aw:=j.size;have au:=o.size;have af:=(B.lt);have ap:=a.out.2.1;have ax:=a.out.2.2.1;have al:1-slot≤1:=by omega
 refine⟨u.heap.size,⟨k,s,turn+1,1-slot,w5.heap.size,X,am,an,jv,jl,w6.heap.size,J,lb,xb,xg,vl,l,EP,0,0⟩,f,rfl,⟨hB,((r.keep m (by simp) (by simp)).keep j (by simp) (by simp)).keep E (by simp) (by simp), ?_,⟨al,by show turn+1≤t+100;omega⟩,((B.still j).still E).later (by omega),(N.still E).later (by omega),fun q g hm=> ?_,⟨a.out.2.2.2.2.2.2.2.1.1,a.out.2.2.2.2.2.2.2.1.2,by rw[C];exact a.out.2.2.2.2.2.2.2.2.1⟩⟩,C,((o.trans (m.mono (by simp))).trans (j.mono (by simp))).trans (E.mono (by simp)),rfl,rfl,fun q g=> ?_,ai.out,rfl,rfl,rfl,rfl,rfl⟩
 ·have h:=((O.keep' m (by simp) (by simp)).keep' j (by simp) (by simp)).keep' E (by simp) (by simp)
  show IsKep0 _ k s d 0 (turn+1) (1-slot) ((b+1:Nat):Int) ep rd fz
  push_cast
  exact h
 ·have p:=(af q g).2
  have v:=y q hm;omega
 ·simp only[StD.F,StD.jF,StD.fF,Ac,Ag]at g
  rcases g with rfl|rfl|rfl|g|g
  ·right;right;omega
  ·left;rfl
  ·right;left;rfl
  ·have:=(af q g).1;right;right;omega
  ·have:=y q g;right;right;omega
end
theorem Iu (L:List Sec)(i:Nat)(b:List Nat):∀s∈(L.map flushSec).set i ⟨b,b,false⟩,flushSec s=s:=by
 intro s a;rcases DC a with h|h
 ·obtain⟨t,_,rfl⟩:=AI.1 h
  rfl
 ·rw[h];rfl
section
variable {w w':World} {d sb c segs:Nat} {L:List Sec}
theorem M7 (a:IsDev w d sb L c)(f:192≤L.length):Calls Tryz.prog 156 #[pr d 0] w fun e w'=>e=.returned (.int .i64 0)∧w'=w:=by
 have b:=h_ (IH a);have g:¬(L.length:Int)<192:=by omega
 clear a f;go_enter Tryz.func156,Tryz.ntmps156;go_wp2_with fail;refine b.out.mono ?_;rintro e h ⟨rfl,rfl⟩;go_wp2;go_ret;exact⟨rfl,rfl⟩
theorem QM (E:IsDev w d sb L c)(hc:c+L.length+200≤1099511627776)(ah:20≤segs∧segs≤199)(hL:162+segs*8≤L.length∧L.length<162+segs*8+8):
  Calls Tryz.prog 115 #[pr d 0] w fun e w'=>∃stb x D c',e=.returned (.tuple #[pr stb 0,.int .i64 0])∧
   StAt w' stb d sb c' 101 segs D 1 1 0 0 false [] [] x∧c'≤c+L.length+10∧D.length=L.length∧Keep [d,sb] w w'∧(∀q∈x.F stb,w.heap.size≤q)∧
   (∀s∈D,flushSec s=s)∧Pair D 0 x.slot x.turn (meText ((1:Nat):Int) 0 0 false)∧(∀i,162≤i→i<162+segs*8→nowF D i=List.replicate 64 0)∧x.T=EP∧x.used=0∧x.cnt=0:=by
 obtain⟨i8,an,av,aw,ax⟩:=AU In;have am:=h_ (M7 E (by omega));have ab:=h_ (IH E);have aq:=E.max;have H:=h_ E;have f:=h_3 hc ah hL;obtain⟨n,X⟩:∃n,n=L.length:=⟨_,rfl⟩;rw[←X]at ab aq;have o:=h_ X;clear E hc ah hL X;go_enter Tryz.func115,Tryz.ntmps115;go_wp2_with fail;refine am.out.mono ?_;rintro e w2 ⟨rfl,y⟩;have h3:=y.symm;subst h3;go_wp2_with fail;refine ab.out.mono ?_;rintro e w2 ⟨rfl,y⟩;subst y;go_wp2
 go_loopw [2,3,16] (fun s2 s3 ay wr=>∃(i:Nat) (p:List Sec),s2=.pointer none∧s3=.int .i64 0∧ay=.int .i64 (i:Int)∧i≤n∧IsDev wr d sb p (c+i)∧p.length=n∧(∀j,j<i→nowF p j=List.replicate 64 0)∧Keep [d,sb] w wr) (fun _ _ x _=>n+1-(intOf x).toNat)
 case atStart=>exact⟨0,L,rfl,rfl,rfl,AA _,by rw[Nat.add_zero];exact H.out,o.out.symm,fun j J=>absurd J (by omega),By _ _⟩
 case round=>
 obtain⟨i,p,rfl,rfl,rfl,hi,g,C,l,a⟩:=hrel;by_cases ap:i<n
 ·have q0:(i:Int)<(n:Int):=by omega
  obtain⟨s,Z⟩:∃s,p[i]?=some s:=⟨_,Ad (by omega)⟩;have hz:Bb (List.replicate 64 0)=List.replicate 64 (.int .u8 0):=by simp[Bb,bc]
  have ag:Rd (wr.alloc (.cells (List.replicate 64 (.int .u8 0)).toArray 5)) (.slice (some ⟨wr.heap.size,0,none⟩) 64 64) (List.replicate 64 0):=by rw[←hz];exact Y1 wr (Bb (List.replicate 64 0)) 5 1 64 64 (by simp) (by omega) _ rfl
  have G:Keep [] wr (wr.alloc (.cells (List.replicate 64 (.int .u8 0)).toArray 5)):=(By _ _).alloc _;have ad:=g.keep G (by simp) (by simp);have HW:=h_ (I0 ad i s Z _ (List.replicate 64 0) ag (by simp) (by intro x hx;simp at hx;omega) (by have:=f.out.1;have:=o.out;omega));have M:BQ s.now 0 (List.replicate 64 0)=List.replicate 64 0:=by simp[BQ,(g.ok s (Aq Z)).1]
  have U:=h_6 g C l a G M;clear g C l a G ad M ag hz Z
  go_wp2_with (at_make;refine DI _ rfl _ _ 81 rfl 5 i8 _ Ao an av (by rw[aw];rfl) (by decide) _ 64 rfl rfl (by omega) (by rw[ax];omega) (by omega) ?_)
  refine HW.out.mono ?_;rintro e w3 ⟨rfl,r,m⟩;have S:=h_2 r m;clear r m;go_wp2_with fail;obtain⟨r,m⟩:=S.out;obtain⟨g,C,l,a,G,M⟩:=U.out
  exact⟨⟨i+1,_,by first|rfl|trivial,by first|rfl|trivial,by go_num,by omega,by rw[←Cv];exact r,by rw[Bi];exact C,fun j J=>by
   rw[DF _ _ _ _ (by omega)];by_cases he:j=i
   ·rw[Ay he];exact M
   ·rw[Aw he];exact l j (by omega),(a.trans (G.mono (by simp))).trans m⟩,by simp only[intOf];omega⟩
 ·obtain rfl:i=n:=by omega
  have q0:¬(i:Int)<(i:Int):=by omega
  have B:p.length=L.length:=by rw[C];exact o.out
  have af:=Uc g 0 (by have:=f.out.2.2;omega) (by have:=f.out.1;have:=o.out;omega);have HM:=h_ af;have U:=h_4 g B l a;clear g C l a B af;go_wp2_with fail;refine HM.out.mono ?_;rintro e w3 ⟨k,s,rfl,r,ae,m,W,aa⟩;obtain⟨g,B,l,a⟩:=U.out;obtain⟨v,z⟩:∃v,v=((p.map flushSec).set (0+1) zeroSec).set 0 ⟨Cz 1 (meText 0 0 0 false),Cz 1 (meText 0 0 0 false),false⟩:=⟨_,rfl⟩;rw[←z]at r;have aj:=h_ z
  have al:Hid (∀j,2≤j→j<L.length→nowF v j=List.replicate 64 0):=h_ (fun j J ao=>by rw[z,DF _ _ _ _ (by simp;omega),Aw (by omega),DF _ _ _ _ (by simp;omega),Aw (by omega),CS];exact l j (by have:=o.out;omega))
  have ak:=h_ B;have A:v.length=L.length:=by rw[z];simp[B]
  have Y:∀j,2≤j→j<L.length→nowF v j=List.replicate 64 0:=fun j J ao=>by rw[z,DF _ _ _ _ (by simp;omega),Aw (by omega),DF _ _ _ _ (by simp;omega),Aw (by omega),CS];exact l j (by have:=o.out;omega)
  have HP:=h_ (Pa (segs:=segs) (t:=1) (b:=0) r (by have:=f.out.1;have:=o.out;omega) ae.weak (by decide) (by decide) (by decide) (by decide) (fun j V y=>Y j V (by have:=f.out.2.2;omega)) (fun j V y=>Y j (by omega) (by have:=f.out.2.2;omega)) f.out.2.1 (by rw[A];exact f.out.2.2));have S:=h_5 A a m W aa;clear r ae m W aa g B l a z A Y;go_wp2_with fail;refine HP.out.mono ?_;rintro e w4 ⟨stb,x,L4,rfl,P,K,R,ar,au,hF,I,O,Q,hT,ai,ac⟩;have H4:=h_4 P K R hF;have u:=h_6 I O Q hT ai ac;clear P K R ar au hF I O Q hT ai ac;go_wp2;go_ret2;obtain⟨P,K,R,hF⟩:=H4.out;obtain⟨A,a,m,W,aa⟩:=S.out;have a0:=a.size;have az:=m.size;refine⟨stb,x,L4,_,rfl,P,by have:=o.out;omega,by rw[K,A],(a.trans m).then R (fun q N ap=> ?_),fun q N=> ?_, ?_, ?_, ?_,u.out.2.2.2.1,u.out.2.2.2.2.1,u.out.2.2.2.2.2⟩
  ·simp only[Ac,Am,AG]at N⊢
   rcases N with h|h|h|h
   ·exact .inl h
   ·exact .inr h
   ·omega
   ·omega
  ·rcases hF q N with h|h|h<;>omega
  ·rw[u.out.1]
   exact Iu _ _ _
  ·obtain⟨I,O,Q,_⟩:=u.out
   rw[I,O,Q]
   have hp:Pair v 0 0 1 (meText 0 0 0 false):=by rw[aj.out];exact Pair.make p 0 _ (by have:=ak.out;have:=f.out.2.2;omega)
   exact hp.save (by decide) (by decide) _
  ·intro i V y
   rw[u.out.1,DF _ _ _ _ (by simp;have:=A;have:=f.out.2.2;omega),Aw (by omega),CS];exact al.out i (by omega) (by have:=f.out.2.2;omega)
end
section
variable {w w':World} {stb d sb c t segs:Nat} {L:List Sec} {bt:Nat} {st ep rd:Int} {fz:Bool} {M:List JMk} {R:List (Nat×FR)} {x:StD}
theorem FlOk.notT {B g i k m frm n p:Nat}{j:Value}{l:List Sg}{T:Tab}(h:FlOk w B g i k m d frm segs t j l L T n p R){E:TypeId}{b:Nat}(e:Ty w b E)(a:E∉ [283,326,330,333,359,358,353,5]):b∉Iw g i k m j l:=by
 intro f;obtain⟨s,u,r,q,o,_⟩:=h.log;simp only[Ac,Am,AG,not_or]at a;simp only[Iw,Ac]at f;rcases f with rfl|rfl|rfl|f
 ·exact e.ne h.blk.ty a.1 rfl
 ·exact e.ne h.idx.blk.ty a.2.1 rfl
 ·exact e.ne h.idx.row.ty a.2.2.1 rfl
 ·exact o.at_.apartT e (by simp only[Ac,Am,AG,not_or];exact a.2.2.2) f
theorem JOk.devCongr {B g j frm:Nat}{k v:Value}{l:List Sg}{f:List Sec}(h:JOk w B g j d frm t k v l L M)(n:∀i,frm≤i→i<frm+160→nowF f i=nowF L i):JOk w B g j d frm t k v l f M:=by obtain⟨p,r,m,q,e,o⟩:=h.log;exact⟨h.at_,h.new,⟨p,r,m,q,⟨e.at_,e.dev.congr (fun i a b=>n i a (by omega)) (by decide),e.say⟩,o⟩,h.tail,h.few,h.seq⟩
theorem StAt.others (h:StAt w stb d sb c t segs L bt st ep rd fz M R x):stb∉d::sb::x.fF∧x.k∉d::sb::x.fF∧x.s∉d::sb::x.fF∧∀q∈x.jF,q∉d::sb::x.fF:=by
 have m:=h.jn.notT h.dev.dev.ty (by decide);have n:=h.jn.notT h.dev.secs.ty (by decide)
 have e:∀ {E:TypeId} {b:Nat},Ty w b E→E∉ [283,326,330,333,359,358,353,5]→E≠182→E≠232→b∉d::sb::x.fF:=by
  intro E b f i j l a;simp only[Ac]at a;rcases a with rfl|rfl|a
  ·exact f.ne h.dev.dev.ty j rfl
  ·exact f.ne h.dev.secs.ty l rfl
  ·exact h.fl.notT f i a
 refine⟨e h.blk.ty (by decide) (by decide) (by decide),e h.kep.1.ty (by decide) (by decide) (by decide),e h.kep.2.ty (by decide) (by decide) (by decide),fun q g a=> ?_⟩;simp only[Ac]at a;rcases a with rfl|rfl|a
 ·exact m g
 ·exact n g
 ·exact h.apart q g a
theorem StAt.put (h:StAt w stb d sb c t segs L bt st ep rd fz M R x)(v:c+20<1099511627776)(H:t≤1000000)
  (key val:Str) (o:itMay key val 0 false=true) (E:rpF R key=none) (A:encN (R.map frRec)+(FR.put key val).body.length +8≤2225) (G:2*x.used<x.T.length∧x.used+1≤x.T.length∧x.cnt+1≤x.T.length):
  Calls Tryz.prog 129 #[pr x.cb 0,L7 key val 0 false] w fun e w'=>e=.returned (.int .i64 0)∧∃b f j pos,StAt w' stb d sb j (t+1) segs f bt st ep rd fz M (R++[(pos,.put key val)]) b∧j≤c+12∧f.length=L.length∧
   Keep (d::sb::x.fF) w w'∧(∀q∈b.F stb,q∈x.F stb∨w.heap.size≤q)∧b.cb=x.cb∧b.jb=x.jb∧b.k=x.k∧b.T.length=x.T.length∧b.used≤x.used+1∧b.cnt=x.cnt+1∧b.slot=x.slot∧b.turn=x.turn∧(∀i,i<162→nowF f i=nowF L i):=by
 refine(Ut h.fl h.dev v H ⟨h.segs_.1,h.segs_.2.1⟩ h.segs_.2.2 key val o E A G).mono ?_;rintro e w' ⟨rfl,S,J,f,j,s,Q,pos,B,I,u,z,y,n,hF,p,r⟩;obtain⟨K,N,O,P⟩:=h.others;have D:=h.jn.lt;refine⟨rfl,{x with vl:=S,l:=J,T:=s,cnt:=x.cnt+1,used:=Q},f,j,pos,⟨h.blk.keep n K,z,h.kep.keep' n N O,⟨h.lim.1,by have:=h.lim.2;show x.turn≤t+1;omega⟩,((h.jn.keep n P).devCongr (fun i a m=>r i (by omega))).later (by omega),B,fun q g o=> ?_,by rw[p];exact h.segs_⟩,y,p,n,fun q g=> ?_,rfl,rfl,rfl,u,I,rfl,rfl,rfl,fun i C=>r i (.inl C)⟩
 ·rcases hF q o with a|a
  ·exact h.apart q g a
  ·have:=(D q g).2;omega
 ·simp only[StD.F,StD.jF,StD.fF,Ac,Ag]at g⊢
  rcases g with a|a|a|a|a
  ·simp[a]
  ·simp[a]
  ·simp[a]
  ·simp[a]
  ·rcases hF q a with m|m
   ·simp[m]
   ·exact .inr m
theorem StAt.flush (h:StAt w stb d sb c t segs L bt st ep rd fz M R x)(k:c<1099511627776):
  Calls Tryz.prog 130 #[pr x.cb 0] w fun e w'=>e=.returned (.int .i64 0)∧StAt w' stb d sb (c+1) t segs (L.map flushSec) bt st ep rd fz M R x∧Keep [d,sb] w w':=by
 refine(PT h.fl h.dev k (by have:=h.segs_;omega)).mono ?_;rintro e w' ⟨rfl,l,m,a⟩;obtain⟨o,p,r,s⟩:=h.others
 have f:∀ {b:Nat},b∉d::sb::x.fF→b∉ [d,sb]:=fun j g=>j (by simp only[Ac,Am,AG]at g⊢;rcases g with h|h<;>simp[h])
 exact⟨rfl,⟨h.blk.keep a (f o),l,h.kep.keep' a (f p) (f r),h.lim,(h.jn.keep a (fun q n=>f (s q n))).devCongr (fun i _ _=>CS L i),m,h.apart,by rw[AD];exact h.segs_⟩,a⟩
end
theorem stStarted_any {w:World}{stb d sb c t segs:Nat}{L:List Sec}{b:Nat}{a ep rd:Int}{f:Bool}{M:List JMk}{R:List (Nat×FR)}{x:StD}(h:StAt w stb d sb c t segs L b a ep rd f M R x):Calls Tryz.prog 178 #[pr stb 0] w fun e g=>e=.returned (.int .i64 a)∧g=w:=by have c3:w.cell? ⟨stb,3,none⟩=some (.int .i64 a):=h.blk.cell 3;clear h;go_enter Tryz.func178,Tryz.ntmps178;go_wp2;go_ret;exact⟨rfl,rfl⟩
section
variable {w w':World} {B cb lb xb xg d sb c frm segs t cnt used:Nat} {vl bv:Value} {l:List Sg} {L:List Sec} {T:Tab} {R:List (Nat×FR)}
theorem RH (h:FlOk w B cb lb xb xg d frm segs t vl l L T cnt used R)(Q:IsDev w d sb L c)(G:c+20<1099511627776)(ht:t≤1000000)(ac:20≤segs∧segs≤199)(aw:frm+segs*8≤L.length)(he:encN (R.map frRec)+9≤2225):
  Calls Tryz.prog 229 #[pr cb 0] w fun e w'=>e=.returned (.int .i64 0)∧∃K ag J I D X pos,FlOk w' B cb lb K ag d frm segs (t+1) J I (D.map flushSec) EP 0 0 (R++[(pos,.wipe)])∧IsDev w' d sb (D.map flushSec) X∧X≤c+13∧
   Keep (d::sb::Iw cb lb xb xg vl l) w w'∧(∀q∈Iw cb lb K ag J I,q∈Iw cb lb xb xg vl l∨w.heap.size≤q)∧D.length=L.length∧(∀i,(i<frm∨frm+segs*8≤i)→nowF D i=nowF L i):=by
 obtain⟨U,a7,fr,q,P,Y,h2,h3,h4,N⟩:=h.log
 have S:encN (R.map frRec++[(U,FR.wipe.body)])≤2225:=by rw[GP,FU];show _+(1+8+encN [])≤_;have:encN []=0:=rfl;omega
 have u:Keep [] w (w.alloc (.cells #[.int .u8 2] 5)):=(By _ _).alloc _;have ay:Rd (w.alloc (.cells #[.int .u8 2] 5)) (.slice (some ⟨w.heap.size,0,none⟩) 1 1) [2]:=Y1 w (Bb [2]) 5 1 1 1 rfl (by omega) _ rfl;have E:=h.still u;have ao:=P.still u;have ar:=Q.keep u (by simp) (by simp)
 have ax:∀q,(Value.slice (some ⟨w.heap.size,0,none⟩) 1 1).ownBlock =some q→q∉d::sb::DG lb vl l:=fun q n=>by have e:w.heap.size=q:=Option.some.inj n;exact P.at_.newNot Q (by omega)
 have az:=h_ (MZ E.blk ao ar G ⟨Y,by omega⟩ (by omega) (by omega) ac aw ay (body:=[2]) ⟨by decide,by decide⟩ (by intro c G;simp at G;omega) ax E.idx E.tail S E.heads.1 E.heads.2);have H:=h_7 h P Q G ac u S;have a1:=h_5 Y h2 h3 h4 N;clear h P Q G ht ac aw he Y h2 h3 h4 N S u ay E ao ar ax;go_enter Tryz.func229,Tryz.ntmps229;go_wp2_with fail;refine az.out.mono ?_;rintro e w7 ⟨rfl,J,I,D,X,aj,al,ak,ad,M,Z,aa,ab,a4,ah⟩;have j:=h_9 aj al ak ad M Z aa ab ah;clear aj al ak ad M Z aa ab a4 ah;go_wp2_with fail;refine IC.mono ?_;rintro e V ⟨K,ag,rfl,ap,z,am,an⟩;have O:=j.out.2.2.2.2.2.2.2.2.keep z (by simp);have c0:V.cell? ⟨cb,0,none⟩=some (pr lb 0):=O.cell 0;have c1:V.cell? ⟨cb,1,none⟩=some (pr xb 0):=O.cell 1;have fz:V.frozen? ⟨cb,1,none⟩=false:=O.free 1;obtain⟨W,ae⟩:∃W,W=V.setCell ⟨cb,1,none⟩ (pr K 0):=⟨_,rfl⟩;have A:Keep [cb] V W:=by rw[ae];exact Or (p:=⟨cb,1,none⟩) (By _ _) (.inl (by simp)) _
 have C:Blk W cb [pr lb 0,pr K 0] 283:=by rw[ae];exact O.set 1 _
 have aq:cb∉DG lb J I:=fun f=>j.out.1.at_.apartT j.out.2.2.2.2.2.2.2.2.ty (by decide) f
 have F:=(j.out.1.still z).keep A (fun q n f=>by rw[Ah]at f;subst f;exact aq n);have m:=(j.out.2.1.keep z (by simp) (by simp)).keep A (fun f=>by rw[Ah]at f;exact j.out.2.1.dev.ty.ne j.out.2.2.2.2.2.2.2.2.ty (by decide) f) (fun f=>by rw[Ah]at f;exact j.out.2.1.secs.ty.ne j.out.2.2.2.2.2.2.2.2.ty (by decide) f)
 have s:=ap.keep A (fun q n f=>by rw[Ah]at n;subst n;have:=j.out.2.2.2.2.2.2.2.2.lt;simp only[Ac,Am,AG]at f;omega)
 have c9:W.cell? ⟨cb,0,none⟩=some (pr lb 0):=C.cell 0;have a0:=h_ (Mf F.at_ m (by have:=j.out.2.2.1;have:=H.out.2.2.2.1;omega));have H9:=h_8 F m s C z A am an;clear ap z am an O A C aq F m s;go_wp2_with fail;rw[←ae];clear ae c0 c1 fz;go_wp2_with fail;refine a0.out.mono ?_;rintro e bc ⟨rfl,a5,af⟩;go_wp2;go_ret;obtain⟨aj,al,ak,ad,M,Z,aa,ab,ah⟩:=j.out;obtain⟨F,m,s,C,z,A,am,an⟩:=H9.out;obtain⟨av,P,Q,G,ac,u,S⟩:=H.out;obtain⟨Y,h2,h3,h4,N⟩:=a1.out;have a8:=u.size;have a9:=M.size;have ba:=z.size;have bb:=A.size;have a6:∀x∈[d,sb],x∉DG lb J I:=fun x hx f=>F.at_.apart m x f hx
 have ai:=F.keep af (fun q n f=>a6 q f n)
 have a2:=C.keep af (fun f=>by
  simp only[Ac,Am,AG]at f;rcases f with f|f
  ·exact m.dev.ty.ne C.ty (by decide) f.symm
  ·exact m.secs.ty.ne C.ty (by decide) f.symm)
 have a3:=s.keep af (fun q n f=>by
  simp only[Ac,Am,AG]at n f;rcases n with rfl|rfl<;>rcases f with rfl|rfl
  ·exact m.dev.ty.ne s.blk.ty (by decide) rfl
  ·exact m.dev.ty.ne s.row.ty (by decide) rfl
  ·exact m.secs.ty.ne s.blk.ty (by decide) rfl
  ·exact m.secs.ty.ne s.row.ty (by decide) rfl)
 have eR:(R++[(U,FR.wipe)]).map frRec=R.map frRec++[(U,FR.wipe.body)]:=by simp[frRec]
 have au:ents EP=[]:=Iy 16;refine⟨rfl,K,ag,J,I,D,X+1,U,⟨a2,⟨U+1,a7,false,q+1,⟨ai.at_,ai.dev.flush (by omega),ai.say⟩,by omega,by omega,by omega,by omega,fun r g=> ?_⟩,by rw[eR];exact ad,by rw[eR];exact S, ?_,a3,TabOk.new 16 (by decide),fun k pos=> ?_,by rw[au];rfl,fun r g k v hk=> ?_⟩,a5,by omega, ?_,fun y o=> ?_,aa,ab⟩
 ·rcases Ag.1 g with g|g
  ·have:=N r g;omega
  ·simp at g;subst g;simp
 ·rw[CD]
  refine⟨av.up,by simp,fun a ha b hb=> ?_⟩;simp at hb;subst hb;exact N a ha
 ·rw[au,Js]
  simp[Xi]
 ·rcases Ag.1 g with g|g
  ·exact av.may r g k v hk
  ·simp at g;subst g
   cases hk
 ·refine(((u.mono (S':=d::sb::Iw cb lb xb xg vl l) (by simp)).trans (M.mono (S':=d::sb::Iw cb lb xb xg vl l) (fun y o _=> ?_))).trans (z.mono (S':=d::sb::Iw cb lb xb xg vl l) (by simp))).trans ((A.mono (S':=d::sb::Iw cb lb xb xg vl l) (fun y o _=> ?_)).trans (af.mono (S':=d::sb::Iw cb lb xb xg vl l) (fun y o _=> ?_)))
  ·simp only[Iw,Ac]at o⊢
   rcases o with h|h|h|h<;>simp[h]
  ·simp only[Iw,Ac,Am,AG]at o⊢
   simp[o]
  ·simp only[Iw,Ac,Am,AG]at o⊢
   rcases o with h|h<;>simp[h]
 ·simp only[Iw,Ac]at o⊢
  rcases o with h|h|h|h
  ·simp[h]
  ·exact .inr (by omega)
  ·exact .inr (by omega)
  ·rcases Z y h with h|h
   ·simp[h]
   ·exact .inr (by omega)
end
end Go.Proofs.YtnhbioehiiifdaaGreat
