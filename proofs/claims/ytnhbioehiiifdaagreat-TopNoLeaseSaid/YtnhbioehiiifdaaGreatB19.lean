import Derived.Test.YtnhbioehiiifdaaGreatA09
import Derived.Test.YtnhbioehiiifdaaGreatB10
import Derived.Test.YtnhbioehiiifdaaGreatB15
import Derived.Test.YtnhbioehiiifdaaGreatB18
set_option maxRecDepth 100000
set_option maxHeartbeats 16000000
set_option linter.all false
namespace Go.Proofs.YtnhbioehiiifdaaGreat
open Go.ChangeShapes Go.WideShapes Go.ChangeAt Go.RowKit
structure PSeg where
 gen:Nat
 base:Nat
 rs:List Rcd
 rn:Nat→Nat
structure PSeg.ok (q:PSeg):Prop where
 recs:∀r∈q.rs,r.ok
 room:(encRs q.rs).length ≤378
 gen:0<q.gen∧q.gen<281474976710656
 base:q.base<281474976710656
def SlotIs (L:List Sec)(frm segs k:Nat):Option PSeg→Prop
 |none=>∀i,i<8→(L.getD (frm+k*8+i) zeroSec).now =List.replicate 64 0
 |some q=>SegDev L (frm+k*8) q.gen q.base (encRs q.rs) q.rn∧q.ok∧(q.gen-1) % segs=k
structure OnDev (L:List Sec) (frm segs M:Nat) (P:Nat→Option PSeg):Prop where
 slot:∀k,k<segs→SlotIs L frm segs k (P k)
 run:∀i,frm≤i→i<frm+segs*8→runOf (L.getD i zeroSec)≤M
def Ce (P:Nat→Option PSeg)(n:Nat):List PSeg:=(List.range n).filterMap P
structure PS where
 gen:Nat
 base:Nat
 rs:List Rcd
def Sg.ps (s:Sg):PS:=⟨s.gen,s.base,s.rs⟩
def PSeg.ps (q:PSeg):PS:=⟨q.gen,q.base,q.rs⟩
def Gz (l:List Sg):Nat:=match l.getLast? with
 |none=>1
 |some s=>match s.rs.getLast? with
  |none=>s.base+64
  |some r=>r.1+1+64
theorem FH (P:Nat→Option PSeg)(k:Nat):Ce P (k+1)=Ce P k++(P k).toList :=by
 unfold Ce;rw[Ft,List.filterMap_append]
 cases h:P k<;>simp[h]
theorem NF (P : Nat → Option PSeg) {k n : Nat} (h : k ≤ n) : (Ce P k).length ≤ (Ce P n).length := by
  induction n with
  | zero => have : k = 0 := by omega
            subst this; exact Av _
  | succ n ih =>
    by_cases h2 : k = n + 1
    · subst h2; exact Av _
    · rw [FH, Aj]; have := ih (by omega); omega
theorem LogAt.reblk {w g:World}{B b d frm segs o run nx' run':Nat}{j fr':Bool}{f:Value}{l:List Sg}(h:LogAt w B b d frm segs o run j f l)(k:Keep [b] w g)(m:Blk g b (lgC d (frm:Int) (segs:Int) f (nx':Int) (run':Int) fr') 333):
  LogAt g B b d frm segs nx' run' fr' f l:=by
 refine⟨m,h.row.keep k (fun q a i=> ?_),h.nd,h.new⟩;simp only[Ah]at i;subst i;have e:=h.blk.ty;rcases Ag.1 a with a|a
 ·exact e.ne (h.row.own.ty _ (Ae.1 a)) (by decide) rfl
 ·obtain⟨s,n,a⟩:=Bm.1 a
  rcases(h.row.ok s n).ty _ a with t|t|t
  ·exact e.ne t (by decide) rfl
  ·exact e.ne t (by decide) rfl
  ·exact e.ne t (by decide) rfl
theorem Ik:∀(l:List Rcd),(∀r∈l,r.ok)→9*l.length≤(encRs l).length
 |[],_=>by simp[encRs]
 |r::l,h=>by
  have f:=Ik l (fun x a=>h x (by simp[a]));have b:=(h r (by simp)).1;have e:encRs (r::l)=J5 r++encRs l:=by simp[encRs]
  rw[e,Aj,Fr,List.length_cons];omega
theorem LogAt.perm {w g:World}{B e d frm segs p run:Nat}{i:Bool}{a:Value}{l m:List Sg}(h:LogAt w B e d frm segs p run i a l)(k:Keep a.ownBlock.toList w g)(r:Own g B 359 a (m.map sgPtr))(n:m.Perm l):LogAt g B e d frm segs p run i a m:=by
 have o:=h.row.own.ty;refine⟨h.blk.keep k (fun b=>h.blk.ty.ne (o e (Ae.1 b)) (by decide) rfl),⟨r,fun s v=> ?_⟩, ?_,h.new⟩
 ·have j:=h.row.ok s (n.mem_iff.1 v)
  refine j.keep k (fun q u b=> ?_);have f:=o q (Ae.1 b);rcases j.ty q u with t|t|t
  ·exact f.ne t (by decide) rfl
  ·exact f.ne t (by decide) rfl
  ·exact f.ne t (by decide) rfl
 ·exact((n.flatMap_right Sg.F).nodup_iff).2 h.nd
theorem ps_mem {l:List Sg}{m:List PSeg}(h:l.map Sg.ps=m.map PSeg.ps):∀s∈l,∃q∈m,s.gen=q.gen∧s.base=q.base∧s.rs=q.rs:=by
 intro s f;have b:s.ps∈m.map PSeg.ps:=by rw[←h];exact AI.2 ⟨s,f,rfl⟩
 obtain⟨q,e,a⟩:=AI.1 b;unfold Sg.ps PSeg.ps at a;injection a with e1 e2 e3;exact⟨q,e,e1.symm,e2.symm,e3.symm⟩
theorem E3 {P:Nat→Option PSeg}{n:Nat}{q:PSeg}(h:q∈Ce P n):∃k,k<n∧P k=some q:=by unfold Ce at h;obtain⟨k,a,b⟩:=F6.1 h;exact⟨k,List.mem_range.1 a,b⟩
section
variable {w:World} {d sb c frm segs M:Nat} {L:List Sec} {P:Nat→Option PSeg}
theorem V9 (hd:IsDev w d sb L c)(er:3≤segs∧segs≤200)(ah:frm+segs*8≤L.length)(hP:OnDev L frm segs M P)(hM:M<4294967200)(hn:(Ce P segs).length ≤12)(cz:∀a∈Ce P segs,∀b∈Ce P segs,b.gen<a.gen+segs):
  Calls Tryz.prog 245 #[pr d 0,.int .i64 (frm:Int),.int .i64 (segs:Int)] w fun e w'=>∃f vl l run,e=.returned (.tuple #[pr f 0,.int .i64 0])∧LogAt w' w.heap.size f d frm segs (Gz l) run true vl l∧
   l.Pairwise UF∧(l.map Sg.ps).Perm ((Ce P segs).map PSeg.ps)∧1≤run∧run≤M+1∧(∀i,frm≤i→i<frm+segs*8→runOf (L.getD i zeroSec)<run)∧Keep [] w w':=by
 obtain⟨iP,em,eu,ev,ew⟩:=AU Tryz.infoPs;have db:=hd.max;have el:frm≤2048:=by omega
 obtain⟨HP,HM,HN,dy,bk⟩:=i_5 hP hM hn cz er;have e7:=h_ (show frm≤2048 from el);obtain⟨e8,d9⟩:=i_2 ah db;have an:=BY w [.int .i64 (segs:Int)] 3;have K5:=(By [] w).alloc (.cells #[.int .i64 (segs:Int)] 3);simp only[List.toArray]at an;have cx:=hd.keep K5 (by simp) (by simp);clear hP hM hn cz db hd;go_enter Tryz.func245,Tryz.ntmps245;go_upto_region 3 with fail;obtain⟨c5,bz⟩:∃c5,c5=w.heap.size:=⟨_,rfl⟩;rw[←bz]at an⊢;generalize w.alloc (.cells #[.int .i64 (segs:Int)] 3)=w1 at*;obtain⟨ay,e6⟩:=i_2 K5 bz;have U:=an.cell 0;simp only[List.getElem?_cons_zero]at U;have q1:decide ((segs:Int)<3)=false:=Ak (by omega);have O:decide ((segs:Int)>200)=false:=Ak (by omega);have ex:decide (segs<3)=false:=Ak (by omega);have ey:decide (200<segs)=false:=Ak (by omega);have q3:decide ((frm:Int)<0)=false:=Ak (by omega);have q4:decide ((frm:Int)>(L.length:Int)-(segs:Int)*8)=false:=Ak (by omega);have dp:¬(wrap64 ((L.length:Int)-(segs:Int)*8)<(frm:Int)):=by have:=d9.out;unfold wrap64;omega
 have e0:decide (wrap64 ((L.length:Int)-(segs:Int)*8)<(frm:Int))=false:=Ak dp;have ez:¬((L.length:Int)-(segs:Int)*8<(frm:Int)):=by omega
 have d5:Hid (∀W,IsDev W d sb L c→Calls Tryz.prog 150 #[pr d 0] W fun e w'=>e=.returned (.int .i64 (L.length:Int))∧w'=W):=h_ (fun W h=>(IH h).mono (fun _ _ ⟨a,b⟩=>⟨a,b.symm⟩));have bb:=h_ cx;clear K5 bz cx
 go_quiet ((go_at_call 150;exact Calls.quiet_of_same (d5.out _ (bb.out.keep (Ek (By [] _) _) (by simp) (by simp)))))
 have cy:=bb.out.keep (Ek (By [] w1) nq) (by simp) (by simp);have bt:=an.keep (Ek (By [] w1) nq) (by simp);have bc:=h_ (Ek ay.out nq);generalize w1.drewN nq=w2 at*;clear an bb ay U;have U:=bt.cell 0;simp only[List.getElem?_cons_zero]at U;go_upto_region 6 with fail;clear q1 O q3 q4 ex ey ez dp e0;have bw:=BY w2 (lgC d (frm:Int) (segs:Int) nilS 1 1 true) 333;have KL:=(By [] w2).alloc (.cells (lgC d (frm:Int) (segs:Int) nilS 1 1 true).toArray 333);rw[show(#[pr d 0,.int .i64 (frm:Int),.int .i64 (segs:Int),.slice none 0 0,.int .i64 1,.int .i64 1,.bool true]:Array Value)=(lgC d (frm:Int) (segs:Int) nilS 1 1 true).toArray from rfl];obtain⟨f,c8⟩:∃f,f=w2.heap.size:=⟨_,rfl⟩;rw[←c8]at bw⊢;generalize w2.alloc (.cells (lgC d (frm:Int) (segs:Int) nilS 1 1 true).toArray 333)=w3 at*;have c9:LogAt w3 w.heap.size f d frm segs 1 1 true nilS []:=⟨bw,SgRow.nil _ _,List.nodup_nil,by have:=bc.out.size;omega⟩;have ch:=h_ c9;have dw:=h_ (cy.keep KL (by simp) (by simp));have bu:=bt.keep KL (by simp);have cc:=h_ bu;have d0:=h_ (bc.out.trans KL);have U:=bu.cell 0;simp only[List.getElem?_cons_zero]at U;clear bw KL c8 c9 bt bu cy bc;have be:Hid (c5≠f):=h_ (cc.out.ty.ne ch.out.blk.ty (by decide));go_wp2
 go_loopw [43] (fun e4 wr=>∃(k:Nat) (vl:Value) (u:List Sg) (run:Nat),e4=.int .i64 (k:Int)∧k≤segs∧LogAt wr w.heap.size f d frm segs 1 run true vl u∧u.map Sg.ps=(Ce P k).map PSeg.ps∧1≤run∧run≤M+1∧(∀i,frm≤i→i<frm+k*8→runOf (L.getD i zeroSec)<run)∧IsDev wr d sb L c∧Blk wr c5 [.int .i64 (segs:Int)] 3∧Keep [] w wr) (fun x _=>segs+1-(intOf x).toNat)
 case atStart=>exact⟨0,nilS,[],1,rfl,AA _,ch.out,rfl,by omega,by omega,fun i _ _=>by omega,dw.out,cc.out,d0.out⟩
 case round=>
 obtain⟨k,vl,u,run,rfl,hk,ac,au,b3,b4,b5,b0,bv,bp⟩:=hrel;obtain⟨v,a1,al⟩:=i_3 ac au b5;have C:=h_2 b3 b4;obtain⟨I,aw,Z⟩:=i_3 b0 bv bp;by_cases c7:k<segs
 ·have q5:decide ((k:Int)<(segs:Int))=true:=An (by omega)
  have az:=h_ c7;have av:=HP.out.slot k c7;have cq:frm+k*8+8≤L.length:=by omega
  have b9:=h_ cq;clear ac au b5 b0 bp b3 b4 U cq bv
  cases ag:P k with
  |none=>
   rw[ag]at av;obtain⟨ck,bf⟩:=i_2 av ag;clear av ag;go_wp2_with fail;refine(TF I.out frm segs vl 1 (run:Int) true v.out.blk k (frm+k*8) ⟨az.out,bk.out.2,by omega⟩ rfl b9.out ck.out ⟨by have:=C.out;omega,by have:=C.out;have:=HM.out;omega⟩).mono ?_;rintro e B ⟨rfl,am,E⟩;have z:=h_ (v.out.reblk (nx':=1) (run':=run) (fr':=true) E am);have K:=h_ E;clear am E;go_wp2
   go_roundw
   case rel=>
    refine⟨k+1,vl,u,run,by go_num,by omega,z.out, ?_,C.out.1,C.out.2, ?_, ?_, ?_, ?_⟩
    ·rw[FH,bf.out,a1.out];simp
    ·intro i A D
     by_cases h3:i<frm+k*8
     ·exact al.out i A h3
     ·have e:L.getD i zeroSec=L.getD (frm+k*8+(i-(frm+k*8))) zeroSec:=by congr 1;omega
      rw[e];unfold runOf;rw[ck.out _ (by omega)];have:=C.out.1;rw[show unbe (((List.replicate 64 0).drop 10).take 4)=0 by decide];omega
    ·exact I.out.keep K.out (by simp;exact I.out.dev.ty.ne v.out.blk.ty (by decide)) (by simp;exact I.out.secs.ty.ne v.out.blk.ty (by decide))
    ·exact aw.out.keep K.out (by simp;exact be.out)
    ·exact Z.out.then K.out (by intro x o ah;simp at o;have:=v.out.new;omega)
   case measure=>simp only[intOf];omega
  |some q=>
   rw[ag]at av;obtain⟨dh,af,c2⟩:=av;obtain⟨bf,HQ⟩:=i_2 ag af;have cj:=h_ (@TE wr d sb f c L I.out frm segs vl 1 (run:Int) true v.out.blk k (frm+k*8) M q.gen q.base q.rs q.rn ⟨az.out,bk.out.2,by omega⟩ rfl b9.out dh af.recs af.room ⟨af.gen.1,af.gen.2,af.base⟩ c2 ⟨by omega,by have:=C.out;have:=HM.out;omega⟩ ⟨by have:=HM.out;omega,fun i hi=>HP.out.run _ (by omega) (by have:=az.out;omega)⟩);obtain⟨a,cap,b6⟩:=v.out.slice;subst b6;clear dh af c2 ag;go_wp2_with fail;refine cj.out.mono ?_;rintro e B ⟨p,vb,vr,Lr,dq,rr,rfl,bq,cp,bn,br,a7,am,ep,eq,de,E,dc⟩;obtain⟨r2,rfl⟩:∃n:Nat,dq=(n:Int):=⟨dq.toNat,by omega⟩;have N:=v.out.reblk (nx':=1) (run':=r2) (fr':=true) E am;have dm:=E.size
   have di:SgAt B w.heap.size ⟨p,q.gen,q.base,rr,vb,vr,Lr⟩:=⟨cp,by have e:Sg.rs ⟨p,q.gen,q.base,rr,vb,vr,Lr⟩=q.rs:=bq;rw[e];exact bn.mono Z.out.size,br.mono Z.out.size,AJ Z.out.size a7,dc⟩
   obtain⟨bj,z,K,d7,fa⟩:=i_5 di N E bq a7;have bi:=h_ (show run≤r2∧r2≤M+1 from by have:=C.out;constructor<;>omega);have ed:=h_ de
   have ct:∀x∈(Sg.mk p q.gen q.base rr vb vr Lr).F,wr.heap.size≤x:=by
    intro x o;unfold Sg.F at o;rcases Ac.1 o with rfl|o
    ·exact a7
    ·rcases Ag.1 o with o|o
     ·exact(bn.lt x (Ae.1 o)).1
     ·exact(br.lt x o).1
   have dv:=h_ ct
   have ap:u.length≤12:=by
    have A:u.length=(Ce P k).length :=by have:=A3 List.length a1.out;simpa using this
    have D:=NF P (EV az.out);have h3:=HN.out;omega
   have d4:=h_ ap;have eb:Hid (f∉(Value.slice a u.length cap).ownBlock.toList):=h_ (fun G=>N.blk.ty.ne (N.row.own.ty f (Ae.1 G)) (by decide) rfl);have c3:=Hk N.blk;have es:w.heap.size≤B.heap.size:=AJ Z.out.size dm;have fc:=h_ es;clear bq cp bn br a7 am ep eq de E dc N di ct cj dm
   go_wp2_with (at_builtin;refine Bl _ rfl _ _ 331 331 rfl w.heap.size 359 iP (.pointer none) 1 8 Fz em eu ev ew rfl (by decide) (.slice a u.length cap) u.length (u.map sgPtr) rfl (Ya (z.out.row.own.alloc (.cells #[pr p 0] 359))) _ 1 _ rfl (Lc Fz B (pr p 0) rfl 359 _ rfl) (by unfold maxLen;omega) (by omega) (by simp;omega) ?_;intro v1 w5 g2 g3 _ g4;obtain⟨a5,bm,rfl⟩:=A4 g2;have b8:=DJ g3;have ao:=(z.out.blk.alloc (.cells #[pr p 0] 359)).keep b8 eb.out;have ei:=Hk ao;have ej:=ao.free 3)
   have bs:=(V3 g2);have dj:=ao.set 3 (.slice a5 (u.length+1) bm)
   have KW:Keep (f::(Value.slice a u.length cap).ownBlock.toList) B (w5.setCell ⟨f,3,none⟩ (.slice a5 (u.length+1) bm)):=
    ((((By [] B).alloc (.cells #[pr p 0] 359)).mono (by simp)).trans (b8.mono (fun q Q _=>Ap _ Q))).setCell (.inl (by simp)) _
   have ad:∀ {b:Nat} {T:TypeId},Ty B b T→T≠333→T≠359→b∉f::(Value.slice a u.length cap).ownBlock.toList :=by
    intro b T ht A D G;rcases Ac.1 G with h|h
    ·exact ht.ne z.out.blk.ty A h
    ·exact ht.ne (z.out.row.own.ty b (Ae.1 h)) D rfl
   have dd:∀s,SgAt B w.heap.size s→∀q∈s.F,q∉f::(Value.slice a u.length cap).ownBlock.toList :=by
    intro s H q Q;rcases H.ty q Q with t|t|t
    ·exact ad t (by decide) (by decide)
    ·exact ad t (by decide) (by decide)
    ·exact ad t (by decide) (by decide)
   have cn:=bs.keep ((By [f] w5).setCell (p:=⟨f,3,none⟩) (.inl (by simp)) (.slice a5 (u.length+1) bm)) (fun q Q G=>by simp only[Ah]at G;subst G;exact ao.ty.ne (bs.ty _ Q) (by decide) rfl)
   obtain⟨ec,ef,bd,ci⟩:=i_4 cn dj KW dd;have ax:Hid (IsDev B d sb L c):=h_ (I.out.keep K.out (by simp;exact I.out.dev.ty.ne v.out.blk.ty (by decide)) (by simp;exact I.out.secs.ty.ne v.out.blk.ty (by decide)));have dx:=h_ (ax.out.keep KW (ad ax.out.dev.ty (by decide) (by decide)) (ad ax.out.secs.ty (by decide) (by decide)));have ai:=h_ (aw.out.keep K.out (by simp;exact be.out));have du:=h_ (ai.out.keep KW (ad ai.out.ty (by decide) (by decide)));clear bs dj KW ad dd cn g2 g3 g4 b8 ao ei ej
   go_roundw
   case rel=>
    refine⟨k+1,_,u++[⟨p,q.gen,q.base,rr,vb,vr,Lr⟩],r2,by go_num,by omega,⟨ef.out,⟨?_, ?_⟩, ?_,v.out.new⟩, ?_,by have:=C.out;have:=bi.out;omega,bi.out.2, ?_,dx.out,du.out, ?_⟩
    ·rw[AL];exact ec.out
    ·intro s H
     rcases Ag.1 H with H|H
     ·exact(z.out.row.ok s H).keep bd.out (ci.out s (z.out.row.ok s H))
     ·simp only[Ac,Am,AG]at H
      subst H;exact bj.out.keep bd.out (ci.out _ bj.out)
    ·unfold sgF
     rw[Bg,BI,Eb,AE,BV];refine⟨z.out.nd,bj.out.nd,fun x o y hy e=> ?_⟩;subst e;have A:=dv.out x hy;have D:=(v.out.lt x (Ap _ (AQ _ o))).2;omega
    ·rw[AL,a1.out,FH,bf.out,AL]
     congr 1
     simp[Sg.ps,PSeg.ps,Sg.rs,d7.out]
    ·intro i A D
     by_cases h3:i<frm+k*8
     ·have:=al.out i A h3;have:=bi.out;omega
     ·have h4:=ed.out (i-(frm+k*8)) (by omega)
      have e:frm+k*8+(i-(frm+k*8))=i:=by omega
      rw[e]at h4;omega
    ·have A:=Z.out.then K.out (S':=[f]) (by intro x o ah;simp at o;have:=v.out.new;omega)
     exact A.then bd.out (fun x o ah=>by
      rcases Ac.1 o with h|h
      ·have:=v.out.new;omega
      ·have:=(z.out.row.own.lt x (Ae.1 h)).1;omega)
   case measure=>simp only[intOf];omega
 ·obtain rfl:k=segs:=by omega
  have q5:decide ((k:Int)<(k:Int))=false:=by simp
  obtain⟨a,cap,b6⟩:=ac.slice;subst b6
  have ap:u.length≤12:=by
   have A:u.length=(Ce P k).length :=by have:=A3 List.length au;simpa using this
   have h3:=HN.out;omega
  have d4:=h_ ap;have c3:=Hk ac.blk
  have bo:∀s∈u,Ed wr s:=by intro s H;have hA:=ac.row.ok s H;obtain⟨q,Q,e1,_,_⟩:=ps_mem au s H;obtain⟨j,hj,ab⟩:=E3 Q;have J:=HP.out.slot j hj;rw[ab]at J;exact⟨Fl hA.blk,hA.blk.ty,by rw[e1];exact J.2.1.gen.2⟩
  have dz:=h_ bo;have cl:=h_ (Ve ac.row.own bo ap);unfold CMP at cl;clear ac au b5 b0 bp b3 b4 U bv bo;go_wp2_with fail;refine cl.out.mono ?_;rintro e B ⟨rfl,m,G,co,E⟩;have N:=v.out.perm E co G.1
  have a6:∀ {b:Nat} {T:TypeId},Ty wr b T→T≠359→b∉(Value.slice a u.length cap).ownBlock.toList :=by intro b T ht A Q;exact ht.ne (v.out.row.own.ty b (Ae.1 Q)) A rfl
  have ax:=h_ (I.out.keep E (a6 I.out.dev.ty (by decide)) (a6 I.out.secs.ty (by decide)));have cs:=aw.out.keep E (a6 aw.out.ty (by decide));have K:Hid (Keep [] w B):=h_ (Z.out.then E (fun x o ah=>by have:=(v.out.row.own.lt x (Ae.1 o)).1;omega));have a4:u.length=m.length:=G.1.length_eq.symm;have V:Hid ((m.map Sg.ps).Perm ((Ce P k).map PSeg.ps)):=h_ (by rw[←a1.out];exact G.1.map _);obtain⟨bg,d8,z,ai⟩:=i_4 G.2 G.1 N cs;rw[a4]at N z ap;have e9:=h_ a4;have c3:=Hk N.blk;clear G co E a6 N cs c3;have c3:=Hk z.out.blk;rw[a4];clear a4;by_cases aq:m=[]
  ·have hz:m.length=0:=by rw[aq];rfl
   have et:¬0<m.length:=by omega
   have ea:=h_ aq;clear aq;go_wp2;go_ret2;refine⟨f,.slice a m.length cap,m,run,rfl, ?_,bg.out,V.out,C.out.1,C.out.2,al.out,K.out⟩;have ar:Gz m=1:=by rw[ea.out];rfl
   rw[ar];exact z.out
  ·have en:0<m.length:=Cs.2 aq
   obtain⟨s,a9⟩:∃s,m[m.length-1]?=some s:=⟨_,Ad (by omega)⟩;have c6:m.getLast?=some s:=by rw[Ci];exact a9
   obtain⟨Y,fd,hv,c0⟩:=z.out.seg_at _ s a9;injection hv with hv hv2 hv3;subst hv hv3;have dk:s∈m:=Aq a9;obtain⟨cf,X,fb⟩:=i_3 c6 dk en;clear hv2 a9 c6 dk aq;go_upto_region 17 with fail;have a3:=BY B [pr s.p 0] 359;have a2:=(By [] B).alloc (.cells #[pr s.p 0] 359);simp only[List.toArray]at a3;obtain⟨c12,bx⟩:∃c12,c12=B.heap.size:=⟨_,rfl⟩;rw[←bx]at a3⊢;generalize B.alloc (.cells #[pr s.p 0] 359)=w5 at*;have aj:=h_ (z.out.still a2);have dt:=h_ (ai.out.keep a2 (by simp));have ca:=h_ a3;have ay:=h_ (K.out.trans a2);have e5:=h_ bx;have cd:Hid (c12≠f∧c5≠f):=h_ ⟨by have:=(z.out.lt f (by simp[DG])).2;omega,be.out⟩
   have c1:∀x∈m,decide ((x.gen:Int)≤(s.gen:Int)-(k:Int))=false:=by intro x o;have A:x.ps∈(Ce P k).map PSeg.ps:=V.out.mem_iff.1 (AI.2 ⟨x,o,rfl⟩);have D:s.ps∈(Ce P k).map PSeg.ps:=V.out.mem_iff.1 (AI.2 ⟨s,X.out,rfl⟩);obtain⟨q1,eo,e1⟩:=AI.1 A;obtain⟨O,ae,e2⟩:=AI.1 D;have g1:q1.gen=x.gen:=A3 PS.gen e1;have g2:O.gen=s.gen:=A3 PS.gen e2;have:=dy.out q1 eo O ae;exact Ak (by omega)
   have b1:∀x∈m,x.gen<281474976710656:=fun x o=>(dz.out x (d8.out.mem_iff.1 o)).2.2
   have ce:=h_ (@Qd w5 w.heap.size c12 c5 (.slice (some ⟨Y,0,none⟩) m.length cap) m (fun g=>decide ((g:Int)≤(s.gen:Int)-(k:Int))) aj.out.row.own (fun W kW x o=>by have hA:=aj.out.row.ok x o;have hB:=aj.out.row.ok s X.out;exact Wk (kW.cell1 (Fl hA.blk) (by simp)) (kW.cell1 (Fl hB.blk) (by simp)) (kW.cell1 (ca.out.cell 0) (by simp)) (kW.cell1 (dt.out.cell 0) (by simp)) ⟨b1 x o,b1 s X.out,bk.out.2⟩) (by omega) c1)
   unfold Yl at ce;have c3:=Hk aj.out.blk;clear a3 a2 bx c0 c1 b1 ai U;go_wp2_with fail;refine ce.out.mono ?_;rintro e w6 ⟨rfl,k6⟩;have a0:=h_ (aj.out.still k6);have dr:=h_ (ca.out.keep k6 (by simp));have d1:=h_ (ay.out.trans k6);clear k6 c3;have c3:=Hk a0.out.blk;have f3:=a0.out.blk.free 3;have cu:=a0.out.blk.set 3 (.slice (some ⟨Y,0,none⟩) m.length cap);have da:=a0.out.setC (nx':=1) (run':=run) (fr':=true) 3 (.slice (some ⟨Y,0,none⟩) m.length cap) cu;have ak:=h_ da;have d2:=h_ ((d1.out.mono (S':=[f]) (by simp)).setCell (p:=⟨f,3,none⟩) (.inl (by simp)) (.slice (some ⟨Y,0,none⟩) m.length cap));have cr:=dr.out.keep ((By [f] w6).setCell (p:=⟨f,3,none⟩) (.inl (by simp)) (.slice (some ⟨Y,0,none⟩) m.length cap)) (by simp;exact cd.out.1);have cb:=h_ cr;clear cu da cr;go_upto_region 18 with fail;clear c3 f3;generalize w6.setCell ⟨f,3,none⟩ (.slice (some ⟨Y,0,none⟩) m.length cap)=w7 at*;have ba:=cb.out.cell 0;simp only[List.getElem?_cons_zero]at ba;have dg:=ak.out.row.ok s X.out;have g1:=OK dg.blk
   have ek:s.base<281474976710656:=by have D:s.ps∈(Ce P k).map PSeg.ps:=V.out.mem_iff.1 (AI.2 ⟨s,X.out,rfl⟩);obtain⟨O,ae,e2⟩:=AI.1 D;obtain⟨j,hj,ab⟩:=E3 ae;have J:=HP.out.slot j hj;rw[ab]at J;have e3:O.base=s.base:=A3 PS.base e2;rw[←e3];exact J.2.1.base
   have dl:∀r∈s.rs,r.ok:=by have D:s.ps∈(Ce P k).map PSeg.ps:=V.out.mem_iff.1 (AI.2 ⟨s,X.out,rfl⟩);obtain⟨O,ae,e2⟩:=AI.1 D;obtain⟨j,hj,ab⟩:=E3 ae;have J:=HP.out.slot j hj;rw[ab]at J;have e3:O.rs=s.rs:=A3 PS.rs e2;rw[←e3];exact J.2.1.recs
   have cm:=h_ dl
   have df:(encRs s.rs).length ≤378:=by have D:s.ps∈(Ce P k).map PSeg.ps:=V.out.mem_iff.1 (AI.2 ⟨s,X.out,rfl⟩);obtain⟨O,ae,e2⟩:=AI.1 D;obtain⟨j,hj,ab⟩:=E3 ae;have J:=HP.out.slot j hj;rw[ab]at J;have e3:O.rs=s.rs:=A3 PS.rs e2;rw[←e3];exact J.2.1.room
   have eg:=h_ df;clear df;have c4:=PA ak.out.blk;have f4:=ak.out.blk.free 4;have cv:=ak.out.blk.set 4 (.int .i64 ((s.base:Int)+64));have aa:=h_ (ak.out.setC (nx':=s.base+64) (run':=run) (fr':=true) 4 (.int .i64 ((s.base:Int)+64)) cv);have bl:=(By [f] w7).setCell (p:=⟨f,4,none⟩) (.inl (by simp)) (.int .i64 ((s.base:Int)+64));have d3:=h_ (d2.out.trans bl);have ds:=h_ (cb.out.keep bl (by simp;exact cd.out.1));clear dg cv bl dl;go_upto_region 19 with fail;clear ba g1 c4 f4 ek;generalize w7.setCell ⟨f,4,none⟩ (.int .i64 ((s.base:Int)+64))=w8 at*;have ba:=ds.out.cell 0;simp only[List.getElem?_cons_zero]at ba;have a8:=aa.out.row.ok s X.out;have g4:=IL a8.blk;obtain⟨ra,fg,b7⟩:=a8.recs.slice;rw[b7]at g4;obtain⟨eh,ee⟩:=i_2 b7 a8
   have cg:Hid (∀W,Keep [f] w8 W→Keep [] w W):=h_ (fun W kW=>by exact(d3.out.trans kW).mono (fun x o ah=>by simp at o;have:=aa.out.new;omega))
   clear a8 b7;rcases List.eq_nil_or_concat s.recs with S|⟨R,y,S⟩
   ·have hz:s.recs.length=0:=by rw[S];rfl
    have et:¬0<s.recs.length:=by omega
    have bh:=h_ S;clear S;go_wp2;go_ret2;refine⟨f,.slice (some ⟨Y,0,none⟩) m.length cap,m,run,rfl, ?_,bg.out,V.out,C.out.1,C.out.2,al.out,cg.out _ (By _ _)⟩;have ar:Gz m=s.base+64:=by unfold Gz;rw[cf.out];simp[Sg.rs,bh.out]
    rw[ar];exact aa.out
   ·rw[List.concat_eq_append]at S
    have b2:s.recs.length=R.length+1:=by rw[S];simp
    have hy:s.recs[R.length]?=some y:=by rw[S];simp
    have dn:y∈s.recs:=Aq hy;obtain⟨g,gc,hg,p0,p1⟩:=ee.out.recs.at_ R.length (by omega);rw[eh.out]at hg;injection hg with hg1 hg2 hg3;subst hg1 hg3;rw[(Ai.1 hy).2]at p0;rw[b2]at g4;have ff:y.r.1<281474976710656:=(cm.out y.r (AI.2 ⟨y,dn,rfl⟩)).2.2.1
    have fe:R.length≤1000:=by
     have A:=Ik s.rs cm.out;have D:=eg.out;have h3:s.rs.length=R.length+1:=by unfold Sg.rs;rw[AD,b2]
     omega
    have c4:=PA aa.out.blk;have f4:=aa.out.blk.free 4;have cw:=aa.out.blk.set 4 (.int .i64 ((y.r.1:Int)+1+64));have d6:=h_ (aa.out.setC (nx':=y.r.1+1+64) (run':=run) (fr':=true) 4 (.int .i64 ((y.r.1:Int)+1+64)) cw);have bh:=h_ S;clear hg2 p1 S b2 hy dn cw;go_wp2;go_ret2;refine⟨f,.slice (some ⟨Y,0,none⟩) m.length cap,m,run,rfl, ?_,bg.out,V.out,C.out.1,C.out.2,al.out,cg.out _ ((By [f] w8).setCell (p:=⟨f,4,none⟩) (.inl (by simp)) _)⟩;have ar:Gz m=y.r.1+1+64:=by unfold Gz;rw[cf.out];simp[Sg.rs,bh.out]
    rw[ar];exact d6.out
end
def nowF (L:List Sec)(i:Nat):List Nat:=(L.getD i zeroSec).now
def genF (L:List Sec)(i:Nat):Nat:=unbe (((nowF L i).drop 4).take 6)
def badF (L:List Sec)(i:Nat):Prop:=crcSum ((nowF L i).drop 4)≠unbe ((nowF L i).take 4)
theorem Fm (L:List Sec)(i:Nat):runOf (L.getD i zeroSec)=unbe (((nowF L i).drop 10).take 4):=rfl
theorem CS (L:List Sec)(i:Nat):nowF (L.map flushSec) i=nowF L i:=by
 unfold nowF;rw[Af,Af,AN]
 cases L[i]?<;>rfl
theorem SH (a:Bool)(L:List Sec)(i:Nat):nowF (fl a L) i=nowF L i:=by
 unfold fl;split
 ·exact CS L i
 ·rfl
theorem fl_len (a:Bool)(L:List Sec):(fl a L).length =L.length:=by unfold fl;split<;>simp
theorem DF (L:List Sec)(j:Nat)(s:Sec)(i:Nat)(a:j<L.length):nowF (L.set j s) i=if i=j then s.now else nowF L i:=by
 unfold nowF;rw[Af,Af,CM];by_cases h:j=i
 ·subst h;simp[a]
 ·rw[Aw h,Aw (fun e=>h e.symm)]
theorem SegDev.congr {L d:List Sec}{a g base:Nat}{f:List Nat}{k:Nat→Nat}(h:SegDev L a g base f k)(j:∀i,i<8→nowF d (a+i)=nowF L (a+i)):SegDev d a g base f k:=by
 refine⟨fun i b c=> ?_,h.run,h.up,fun i b l c=> ?_⟩
 ·have:=h.on i b c
  rw[←this];exact j i b
 ·have:=h.off i b l c
  have e:=j i b;unfold nowF at e;rw[e];exact this
def lastG (S:List PS):Nat:=match S.getLast? with|none=>0|some s=>s.gen
structure DevOk (L:List Sec) (frm segs run:Nat) (S:List PS):Prop where
 seg:∀s∈S,∃rn,SegDev L (frm+(s.gen-1) % segs*8) s.gen s.base (encRs s.rs) rn
 zero:∀k,k<segs→(∀s∈S,(s.gen-1) % segs≠k)→∀i,i<8→nowF L (frm+k*8+i)=List.replicate 64 0
 runs:∀i,frm≤i→i<frm+segs*8→runOf (L.getD i zeroSec)≤run
 old:∀i,frm≤i→i<frm+segs*8→badF L i∨genF L i≤lastG S
structure SOk (segs:Nat) (S:List PS) (nx q:Nat):Prop where
 len:S.length≤segs
 gens:∃g0,1≤g0∧(S.length<segs→g0=1)∧∀i s,S[i]?=some s→s.gen=g0+i
 small:∀s∈S,s.gen≤q∧s.base<140737488355328
 ok:∀s∈S,(∀r∈s.rs,r.ok)∧(encRs s.rs).length ≤378∧s.rs≠[]
 pos:(S.flatMap PS.rs).Pairwise (fun a b=>a.1<b.1)
 below:∀r∈S.flatMap PS.rs,1≤r.1∧r.1<nx
 tight:∀i a b r,S[i]?=some a→S[i+1]?=some b→b.rs.head?=some r→370<(encRs a.rs).length +r.2.length
theorem DevOk.congr {L d:List Sec}{frm segs run:Nat}{S:List PS}(h:DevOk L frm segs run S)(c:∀i,frm≤i→i<frm+segs*8→nowF d i=nowF L i)(l:0<segs):DevOk d frm segs run S:=by
 refine⟨fun s m=> ?_,fun k f g i e=> ?_,fun i a b=> ?_,fun i a b=> ?_⟩
 ·obtain⟨n,j⟩:=h.seg s m
  have f:(s.gen-1) % segs<segs:=C1 _ l;exact⟨n,j.congr (fun i e=>c _ (by omega) (by omega))⟩
 ·rw[c _ (by omega) (by omega)];exact h.zero k f g i e
 ·rw[Fm,c i a b,←Fm];exact h.runs i a b
 ·have:=h.old i a b
  unfold badF genF at this⊢;rw[c i a b];exact this
theorem DevOk.flush {L:List Sec}{frm segs run:Nat}{S:List PS}(h:DevOk L frm segs run S)(a:0<segs):DevOk (L.map flushSec) frm segs run S:=h.congr (fun i _ _=>CS L i) a
theorem NP {a b m:Nat}(e:a<b)(f:b<a+m):a % m≠b % m:=by
 intro h;have c:(b-a) % m=0:=Nat.sub_mod_eq_zero_of_mod_eq h.symm;have d:b-a<m:=by omega
 rw[AR d]at c;omega
theorem US (L:List Sec)(i:Nat)(h:nowF L i=List.replicate 64 0):badF L i:=by unfold badF;rw[h,show(List.replicate 64 0).drop 4=List.replicate 60 0 by decide,show unbe ((List.replicate 64 0).take 4)=0 by decide];exact Ox
section
variable {segs nx q:Nat} {S:List PS}
theorem SOk.last (h:SOk segs S nx q){s:PS}(d:s∈S):s.gen≤lastG S:=by obtain⟨e,f,_,a⟩:=h.gens;obtain⟨i,b⟩:=Bf d;have g:=(Ai.1 b).1;unfold lastG;rw[Ci];obtain⟨t,c⟩:∃t,S[S.length-1]?=some t:=⟨_,Ad (by omega)⟩;rw[c];show s.gen≤t.gen;rw[a i s b,a _ t c];omega
theorem SOk.near (h:SOk segs S nx q){s:PS}(d:s∈S):lastG S<s.gen+segs∧1≤s.gen:=by obtain⟨e,f,_,a⟩:=h.gens;obtain⟨i,b⟩:=Bf d;have g:=(Ai.1 b).1;have j:=h.len;unfold lastG;rw[Ci];obtain⟨t,c⟩:∃t,S[S.length-1]?=some t:=⟨_,Ad (by omega)⟩;rw[c];show t.gen<s.gen+segs∧1≤s.gen;rw[a i s b,a _ t c];omega
def Fx (segs:Nat)(S:List PS)(nx:Nat):List PS:=S.filter (fun s=> !decide ((s.gen:Int)≤((lastG S+1:Nat):Int)-(segs:Int)))++[⟨lastG S+1,nx,[]⟩]
theorem DevOk.begin {L:List Sec}{frm run:Nat}(h:DevOk L frm segs run S)(j:SOk segs S nx q)(D:0<segs)(K:frm+segs*8≤L.length)(O:run<4294967200)(N:q+1<281474976710656)(x:List Nat)(b:Bool):
  DevOk ((L.set (frm+lastG S % segs*8) ⟨sgImg (lastG S+1) nx run 0 [],x,b⟩).map flushSec) frm segs run (Fx segs S nx):=by
 have I:lastG S % segs<segs:=C1 _ D
 have F:lastG S≤q:=by
  unfold lastG
  cases v:S.getLast? with
  |none=>exact AA _
  |some s=>exact(j.small s (GT v)).1
 have f:∀i,nowF ((L.set (frm+lastG S % segs*8) ⟨sgImg (lastG S+1) nx run 0 [],x,b⟩).map flushSec) i=if i=frm+lastG S % segs*8 then sgImg (lastG S+1) nx run 0 []else nowF L i:=by intro i;rw[CS,DF _ _ _ _ (by omega)]
 have u:(Fx segs S nx).getLast? =some ⟨lastG S+1,nx,[]⟩:=by unfold Fx;simp
 have z:lastG (Fx segs S nx)=lastG S+1:=by show(match(Fx segs S nx).getLast? with|none=>0|some s=>s.gen)=_;rw[u]
 have p:=I7 (lastG S+1) nx run 0 [] (by decide) (by simp) ⟨by omega,by omega⟩;refine⟨?_, ?_, ?_, ?_⟩
 ·intro s a
  unfold Fx at a;rcases Ag.1 a with a|a
  ·obtain⟨o,C⟩:=List.mem_filter.1 a
   have A:=j.near o;have J:=j.last o;have H:lastG S+1<s.gen+segs:=by simp at C;omega
   have M:(s.gen-1) % segs≠lastG S % segs:=NP (by omega) (by omega);obtain⟨E,B⟩:=h.seg s o;refine⟨E,B.congr (fun i l=> ?_)⟩;rw[f,Aw (by omega)]
  ·simp only[Ac,Am,AG]at a
   subst a;refine⟨fun _=>run,⟨?_,fun _ _=>by omega,fun _ _ _ _ _=>Av _, ?_⟩⟩
   ·intro i l d
    have:i=0:=by
     rcases d with d|d
     ·exact d
     ·simp[encRs]at d
    subst this;show nowF _ _=_;rw[f,show(lastG S+1-1)=lastG S by omega,Nat.add_zero,Ay rfl];simp[encRs]
   ·intro i l d _
    show badF _ _∨genF _ _≠_;have e:lastG S+1-1=lastG S:=by omega
    have c:=h.old (frm+lastG S % segs*8+i) (by omega) (by omega);simp only[e];unfold badF genF at c⊢;rw[f,Aw (by omega)];rcases c with c|c
    ·exact .inl c
    ·exact .inr (by omega)
 ·intro k w t i l
  have y:lastG S % segs≠k:=by have:=t ⟨lastG S+1,nx,[]⟩ (by unfold Fx;simp);simpa using this
  rw[f,Aw (by omega)];refine h.zero k w (fun s a=> ?_) i l;by_cases G:(s.gen:Int)≤((lastG S+1:Nat):Int)-(segs:Int)
  ·have A:=j.near a
   have e:s.gen-1+segs=lastG S:=by omega
   rw[←Nat.add_mod_right,e];exact y
  ·exact t s (by unfold Fx;exact A2 _ (List.mem_filter.2 ⟨a,by simp;omega⟩))
 ·intro i c m
  rw[Fm,f]
  split
  ·have:=p.r
   rw[←this];exact Av _
  ·rw[←Fm];exact h.runs i c m
 ·intro i c m
  rw[z];unfold badF genF;rw[f]
  split
  ·right
   have:=p.g;rw[←this];exact Av _
  ·rcases h.old i c m with n|n
   ·exact .inl n
   ·exact .inr (Nat.le_succ_of_le n)
end
theorem JB (a g base run:Nat)(c:List Nat)(e:Nat)(L:List Sec)(m:a+8≤L.length):∀k,k≤8→∀i,nowF (Gu a g base run c e L k) i=if a≤i∧i<a+k∧e<st0 (i-a+1)∧st0 (i-a)<c.length then sgImg g base run (i-a) c else nowF L i
 |0,_,i=>by rw[Aw (by omega)];rfl
 |k+1,hk,i=>by
  have j:=JB a g base run c e L m k (by omega) i;show nowF (if e<st0 (k+1)∧st0 k<c.length then _ else _) i=_;by_cases f:e<st0 (k+1)∧st0 k<c.length
  ·rw[Ay f,DF _ _ _ _ (by rw[GD];omega)]
   by_cases h:i=a+k
   ·subst h
    rw[Ay rfl,Ay (by rw[show a+k-a=k by omega];exact⟨by omega,by omega,f⟩),show a+k-a=k by omega]
   ·rw[Aw h,j]
    by_cases b:a≤i∧i<a+k∧e<st0 (i-a+1)∧st0 (i-a)<c.length
    ·rw[Ay b,Ay ⟨b.1,by omega,b.2.2⟩]
    ·rw[Aw b,Aw (fun d=>b ⟨d.1,by omega,d.2.2⟩)]
  ·rw[Aw f,j]
   by_cases b:a≤i∧i<a+k∧e<st0 (i-a+1)∧st0 (i-a)<c.length
   ·rw[Ay b,Ay ⟨b.1,by omega,b.2.2⟩]
   ·rw[Aw b,Aw (fun d=>by
     by_cases l:i=a+k
     ·subst l
      rw[show a+k-a=k by omega]at d;exact f d.2.2
     ·exact b ⟨d.1,by omega,d.2.2⟩)]
theorem OD {a b:List Nat}{i:Nat}(h:BK a i=BK b i)(c base run:Nat):sgImg c base run i a=sgImg c base run i b:=by unfold sgImg D8;rw[h]
theorem U5 (old ext:List Nat)(i:Nat)(h:st0 (i+1)≤old.length):BK (old++ext) i=BK old i:=by unfold BK;rw[Ic]at h;rw[C3 (by omega),BE (by rw[A5];omega)]
theorem DevOk.add {L:List Sec}{frm segs run:Nat}{A:List PS}{s:PS}(h:DevOk L frm segs run (A++[s]))(T:0<segs)(V:frm+segs*8≤L.length)(Y:run<4294967200)(r:Rcd)(H:∀x∈A,(x.gen-1) % segs≠(s.gen-1) % segs)(E:s.gen<281474976710656)
  (J:∀c∈encRs (s.rs++[r]),c<256):
  DevOk (Gu (frm+(s.gen-1) % segs*8) s.gen s.base run (encRs (s.rs++[r])) (encRs s.rs).length L 8) frm segs run (A++[⟨s.gen,s.base,s.rs++[r]⟩]):=by
 have U:(s.gen-1) % segs<segs:=C1 _ T;obtain⟨a,y⟩:∃a,a=frm+(s.gen-1) % segs*8:=⟨_,rfl⟩;obtain⟨q,v⟩:∃b,b=encRs (s.rs++[r]):=⟨_,rfl⟩;obtain⟨old,B⟩:∃b,b=encRs s.rs:=⟨_,rfl⟩;have w:q=old++J5 r:=by rw[v,B,Hn]
 rw[←y,←v,←B];have u:=JB a s.gen s.base run q old.length L (by omega) 8 (Av _);generalize Gu a s.gen s.base run q old.length L 8=L' at u⊢;have G:∀i,(i<a∨a+8≤i)→nowF L' i=nowF L i:=fun i m=>by rw[u,Aw (by omega)]
 have Q:lastG (A++[⟨s.gen,s.base,s.rs++[r]⟩])=lastG (A++[s]):=by unfold lastG;simp
 have S:lastG (A++[s])=s.gen:=by unfold lastG;simp
 have C:∀c∈q,c<256:=by rw[v];exact J
 have D:=fun i (m:i<8)=>I7 s.gen s.base run i q (by omega) C ⟨E,by omega⟩
 refine⟨?_, ?_, ?_, ?_⟩
 ·intro x l
  rcases Ag.1 l with l|l
  ·obtain⟨p,o⟩:=h.seg x (A2 _ l)
   have X:=H x l;refine⟨p,o.congr (fun i m=>G _ (by omega))⟩
  ·simp only[Ac,Am,AG]at l
   subst l;obtain⟨p,o⟩:=h.seg s (by simp);rw[←y,←B]at o;show∃p,SegDev L' (frm+(s.gen-1) % segs*8) s.gen s.base (encRs (s.rs++[r])) p;rw[←y,←v]
   have R:∀i,i<8→(i=0∨st0 i<old.length)→p i≤run:=by
    intro i m n;have f:=o.on i m n;have d:=h.runs (a+i) (by omega) (by omega);rw[Fm]at d;unfold nowF at d;rw[f]at d;have I:∀c∈old,c<256:=fun c z=>C c (by rw[w];exact A2 _ z)
    have t:=(I7 s.gen s.base (p i) i old (by omega) I ⟨E,by have:=o.run i m;omega⟩).r;omega
   refine⟨fun i=>if old.length<st0 (i+1)then run else p i,⟨?_, ?_, ?_, ?_⟩⟩
   ·intro i m n
    show nowF L' (a+i)=_;rw[u];have e:a+i-a=i:=by omega
    rw[e];by_cases f:old.length<st0 (i+1)
    ·have d:st0 i<q.length:=by
      rcases n with n|n
      ·subst n
       rw[w,Aj,Fr];show 0<_;omega
      ·exact n
     rw[Ay ⟨by omega,by omega,f,d⟩];simp only[f,D5]
    ·rw[Aw (fun t=>f t.2.2.1)]
     have d:i=0∨st0 i<old.length:=by right;have:=Ic i;have:=(GY i).2;omega
     have t:=o.on i m d;unfold nowF;rw[t];simp only[f,D1];rw[w];exact OD (U5 old (J5 r) i (by omega)).symm _ _ _
   ·intro i m
    show(if _ then _ else _)<_
    split
    ·omega
    ·exact o.run i m
   ·intro i j K N n
    show(if _ then _ else _)≤(if _ then _ else _);have W:=Vd (show i+1≤j+1 by omega);by_cases f:old.length<st0 (i+1)
    ·rw[Ay f,Ay (by omega)];exact Av _
    ·rw[Aw f]
     have M:i=0∨st0 i<old.length:=by right;have:=Ic i;have:=(GY i).2;omega
     by_cases d:old.length<st0 (j+1)
     ·rw[Ay d]
      exact R i (by omega) M
     ·rw[Aw d]
      refine o.up i j K N ?_;right;have:=Ic j;have:=(GY j).2;omega
   ·intro i m n f
    have d:old.length≤st0 i:=by rw[w,Aj]at f;omega
    have t:=o.off i m n d;show badF L' (a+i)∨genF L' (a+i)≠_;unfold badF genF;rw[u,Aw (by rw[show a+i-a=i by omega];omega)];exact t
 ·intro k O F i m
  have P:(s.gen-1) % segs≠k:=F ⟨s.gen,s.base,s.rs++[r]⟩ (by simp);rw[G _ (by omega)];refine h.zero k O (fun x l=> ?_) i m;rcases Ag.1 l with l|l
  ·exact F x (A2 _ l)
  ·simp only[Ac,Am,AG]at l
   subst l;exact P
 ·intro i f d
  rw[Fm,u]
  split
  ·rename_i z
   rw[←(D (i-a) (by omega)).r];exact Av _
  ·rw[←Fm];exact h.runs i f d
 ·intro i f d
  rw[Q];unfold badF genF;rw[u]
  split
  ·rename_i z
   right;rw[←(D (i-a) (by omega)).g,S];exact Av _
  ·exact h.old i f d
def Jx (S:List PS)(n:Nat):Bool:=match S.getLast? with|none=>true|some s=>decide (370<(encRs s.rs).length +n)
def XS (S:List PS)(r:Rcd):List PS:=match S.getLast? with|none=>S|some s=>S.dropLast++[⟨s.gen,s.base,s.rs++[r]⟩]
def M2 (segs:Nat)(S:List PS)(nx:Nat)(body:List Nat):List PS:=XS (if Jx S body.length=true then Fx segs S nx else S) (nx,body)
theorem JV (A:List PS)(s:PS)(r:Rcd):XS (A++[s]) r=A++[⟨s.gen,s.base,s.rs++[r]⟩]:=by unfold XS;simp
section
variable {segs nx q:Nat} {S:List PS}
theorem SOk.lastG_eq (h:SOk segs S nx q):∃a,1≤a∧(S.length<segs→a=1)∧(∀i s,S[i]?=some s→s.gen=a+i)∧lastG S+1=a+S.length:=by
 obtain⟨a,e,f,c⟩:=h.gens
 cases b:S.getLast? with
 |none=>have:S=[]:=List.getLast?_eq_none_iff.1 b;subst this;exact⟨1,Av _,fun _=>rfl,fun i s g=>by simp at g,by simp[lastG]⟩
 |some t=>
  refine⟨a,e,f,c, ?_⟩;have d:S[S.length-1]?=some t:=by rw[←Ci];exact b
  have k:=(Ai.1 d).1;have j:=c _ t d;unfold lastG;rw[b];show t.gen+1=_;omega
theorem SOk.kept (h:SOk segs S nx q)(f:0<segs):S.filter (fun s=> !decide ((s.gen:Int)≤((lastG S+1:Nat):Int)-(segs:Int)))=S.drop (if S.length=segs then 1 else 0):=by
 obtain⟨g,j,k,b,d⟩:=h.lastG_eq;have l:=h.len;by_cases a:S.length=segs
 ·rw[Ay a]
  cases S with
  |nil=>rfl
  |cons x T=>have m:=b 0 x rfl;rw[List.filter_cons_of_neg (by simp at d a⊢;omega),List.drop_one,List.tail_cons,List.filter_eq_self];intro s e;obtain⟨i,c⟩:=Bf e;have f:=b (i+1) s (by simpa using c);simp at d a⊢;omega
 ·rw[Aw a,Bj,List.filter_eq_self]
  intro s e;obtain⟨i,c⟩:=Bf e;have f:=b i s c;simp at d⊢;omega
theorem SOk.app (h:SOk segs S nx q)(ab:2≤segs)(C:1≤nx∧nx<140737488355328)(body:List Nat)(v:Rcd.ok (nx,body)):SOk segs (M2 segs S nx body) (nx+1) (q+1)∧
  ∃j,(M2 segs S nx body).flatMap PS.rs=(S.flatMap PS.rs).drop j++[(nx,body)]∧(0<j→(M2 segs S nx body).length =segs)∧S.length≤(M2 segs S nx body).length :=by
 have W:body.length≤300:=v.2.1;unfold M2
 cases m:Jx S body.length with
 |true=>
  simp only[D5];obtain⟨n,G,u,p,Z⟩:=h.lastG_eq;have aa:=h.len;unfold Fx;rw[h.kept (by omega),JV,List.nil_append];obtain⟨t,L⟩:∃t,t=(if S.length=segs then 1 else 0):=⟨_,rfl⟩;rw[←L]
  have T:t≤1∧(t=1→S.length=segs)∧(t=0→S.length<segs):=by rw[L];split<;>omega
  have ac:t≤S.length:=by omega
  have o:(S.drop t).length =S.length-t:=A5;have J:∀x∈S.drop t,x∈S:=fun x d=>AB d
  have E:(S.drop t).flatMap PS.rs=(S.flatMap PS.rs).drop ((S.take t).flatMap PS.rs).length :=by
   conv=>rhs;rw[←BX t S,Bg]
   rw[BX,EN]
  refine⟨⟨?_,⟨n+t,by omega, ?_, ?_⟩, ?_, ?_, ?_, ?_, ?_⟩,⟨((S.take t).flatMap PS.rs).length, ?_, ?_, ?_⟩⟩
  ·rw[Aj,o];simp;omega
  ·intro g
   rw[Aj,o]at g;simp at g;have:=u (by omega);omega
  ·intro i s e
   by_cases l:i<(S.drop t).length
   ·rw[AK l,Bp]at e
    have:=p _ s e;omega
   ·rw[AC (by omega)]at e
    have F:i-(S.drop t).length =0:=by have:=(Ai.1 e).1;simp at this;simp;omega
    rw[F]at e;simp at e;subst e;show lastG S+1=n+t+i;omega
  ·intro s e
   rcases Ag.1 e with e|e
   ·have:=h.small s (J s e);omega
   ·simp only[Ac,Am,AG]at e
    subst e
    have V:lastG S≤q:=by
     unfold lastG
     cases O:S.getLast? with
     |none=>exact AA _
     |some s=>exact(h.small s (GT O)).1
    exact⟨by show lastG S+1≤q+1;omega,C.2⟩
  ·intro s e
   rcases Ag.1 e with e|e
   ·exact h.ok s (J s e)
   ·simp only[Ac,Am,AG]at e
    subst e;refine⟨?_, ?_,by simp⟩
    ·intro r c
     simp only[Ac,Am,AG]at c;subst c;exact v
    ·simp[encRs,Fr];omega
  ·rw[Bg,E,CD]
   refine⟨h.pos.sublist (List.drop_sublist _ _),by simp,fun a k b f=> ?_⟩;simp at f;subst f;exact(h.below a (AB k)).2
  ·intro r c
   rw[Bg,E]at c;rcases Ag.1 c with c|c
   ·have:=h.below r (AB c);omega
   ·simp at c
    subst c;exact⟨C.1,by show nx<nx+1;omega⟩
  ·intro i a b r k f c
   by_cases l:i+1<(S.drop t).length
   ·rw[AK (by omega),Bp]at k
    rw[AK l,Bp]at f;exact h.tight (t+i) a b r k (by rw[show t+i+1=t+(i+1) by omega];exact f) c
   ·have Y:i+1=(S.drop t).length :=by
     have:=(Ai.1 f).1;rw[Aj]at this;simp at this⊢;simp at l;omega
    rw[AK (by omega),Bp]at k;rw[AC (by omega),show i+1-(S.drop t).length =0 by omega]at f;simp at f;subst f;simp at c;subst c
    have P:S.getLast?=some a:=by
     rw[Ci,←k]
     congr 1
     omega
    unfold Jx at m;rw[P]at m;exact DE m
  ·rw[Bg,E];simp
  ·intro H
   rw[Aj,o]
   have:t≠0:=by intro M;rw[M]at H;simp at H
   simp;have:=T.2.1 (by omega);omega
  ·rw[Aj,o];simp;omega
 |false=>
  simp only[Bool.false_eq_true,D1]
  cases B:S.getLast? with
  |none=>unfold Jx at m;rw[B]at m;cases m
  |some s=>
   obtain⟨A,rfl⟩:=EY.1 B
   have X:(encRs s.rs).length +body.length≤370:=by unfold Jx at m;rw[B]at m;have:=of_decide_eq_false m;omega
   rw[JV];have D:s∈A++[s]:=by simp
   have w:(A++[(⟨s.gen,s.base,s.rs++[(nx,body)]⟩:PS)]).flatMap PS.rs=(A++[s]).flatMap PS.rs++[(nx,body)]:=by simp[Bg]
   have z:∀(i:Nat) (x:PS),(A++[(⟨s.gen,s.base,s.rs++[(nx,body)]⟩:PS)])[i]?=some x→(A++[s])[i]?=some x∨(i=A.length∧x=⟨s.gen,s.base,s.rs++[(nx,body)]⟩):=by
    intro i x d;by_cases l:i<A.length
    ·rw[AK l]at d⊢;exact .inl d
    ·rw[AC (by omega)]at d
     have F:=(Ai.1 d).1;simp at F;have U:i-A.length=0:=by omega
     rw[U]at d;simp at d;exact .inr ⟨by omega,d.symm⟩
   have I:(A++[s])[A.length]?=some s:=by simp
   refine⟨⟨?_, ?_, ?_, ?_, ?_, ?_, ?_⟩,⟨0,by rw[w];simp,fun h=>absurd h (by omega),by simp⟩⟩
   ·have:=h.len;simp at this⊢;exact this
   ·obtain⟨n,G,u,p⟩:=h.gens
    refine⟨n,G,fun g=>u (by simp at g⊢;exact g),fun i x d=> ?_⟩;rcases z i x d with g|⟨rfl,rfl⟩
    ·exact p i x g
    ·exact p _ s I
   ·intro x d
    rcases Ag.1 d with d|d
    ·have:=h.small x (A2 _ d);omega
    ·simp only[Ac,Am,AG]at d
     subst d;have:=h.small s D;exact⟨by show s.gen≤_;omega,this.2⟩
   ·intro x d
    rcases Ag.1 d with d|d
    ·exact h.ok x (A2 _ d)
    ·simp only[Ac,Am,AG]at d
     subst d;have R:=h.ok s D;refine⟨?_, ?_,by simp⟩
     ·intro r c
      rcases Ag.1 c with c|c
      ·exact R.1 r c
      ·simp only[Ac,Am,AG]at c
       subst c;exact v
     ·show(encRs (s.rs++[(nx,body)])).length ≤378
      rw[Hn,Aj,Fr];show _+(8+body.length)≤378;omega
   ·rw[w,CD]
    refine⟨h.pos,by simp,fun a k b f=> ?_⟩;simp at f;subst f;exact(h.below a k).2
   ·intro r c
    rw[w]at c;rcases Ag.1 c with c|c
    ·have:=h.below r c;omega
    ·simp at c
     subst c;exact⟨C.1,by show nx<nx+1;omega⟩
   ·intro i a b r k f c
    rcases z i a k with g|⟨l,_⟩
    ·rcases z (i+1) b f with N|⟨l,rfl⟩
     ·exact h.tight i a b r g N c
     ·have Q:=(h.ok s D).2.2
      refine h.tight i a s r g (by rw[l];exact I) ?_
      cases K:s.rs with
      |nil=>exact absurd K Q
      |cons y ys=>simp only[K,List.cons_append,List.head?_cons]at c;simpa using c
    ·have:=(Ai.1 f).1
     simp at this;omega
end
structure LogOk (w:World) (B lb d frm segs nx run:Nat) (fr:Bool) (vl:Value) (l:List Sg) (L:List Sec) (q:Nat):Prop where
 at_:LogAt w B lb d frm segs nx run fr vl l
 dev:DevOk L frm segs run (l.map Sg.ps)
 say:SOk segs (l.map Sg.ps) nx q
theorem IZ (l:List Sg):nextGen l=lastG (l.map Sg.ps)+1:=by
 unfold nextGen lastG;rw[List.getLast?_map]
 cases l.getLast?<;>rfl
theorem SK (l:List Sg)(n:Nat):need l n↔Jx (l.map Sg.ps) n=true:=by
 unfold need Jx;rw[List.getLast?_map]
 cases l.getLast? with
 |none=>simp
 |some s=>show(370-(n:Int)<((encRs s.rs).length :Int))↔decide (370<(encRs s.rs).length +n)=true;rw[decide_eq_true_iff];omega
theorem WB (l:List Sg)(segs nx p:Nat):(l.filter (fun s=> !decide ((s.gen:Int)≤(nextGen l:Int)-(segs:Int)))++[(⟨p,nextGen l,nx,0,nilS,nilS,[]⟩:Sg)]).map Sg.ps=Fx segs (l.map Sg.ps) nx:=by unfold Fx;rw[AL,IZ,List.filter_map];rfl
theorem SOk.apartL {segs nx q:Nat}{A:List PS}{s:PS}(h:SOk segs (A++[s]) nx q):∀x∈A,(x.gen-1) % segs≠(s.gen-1) % segs:=by obtain⟨k,m,_,a⟩:=h.gens;intro x f;obtain⟨i,b⟩:=Bf f;have e:=(Ai.1 b).1;have g:=a i x (by rw[AK e];exact b);have j:=a A.length s (by simp);have:=h.len;simp at this;exact NP (by omega) (by omega)
section
variable {w:World} {B lb d sb c frm segs nx run q:Nat} {fr:Bool} {vl bv:Value} {l:List Sg} {L:List Sec} {body:List Nat}
theorem WF (h:LogOk w B lb d frm segs nx run fr vl l L q)(F:IsDev w d sb L c)(U:c+20<1099511627776)(ac:1≤nx∧nx<140737488355328)(I:run<4294967200)(hq:q+2<281474976710656)
  (aj:3≤segs∧segs≤199) (v:frm+segs*8≤L.length) (R:Rd w bv body) (t:1≤body.length∧body.length≤300) (E:∀c∈body,c<256) (S:∀q,bv.ownBlock=some q→q∉d::sb::DG lb vl l):
  Calls Tryz.prog 216 #[pr lb 0,bv] w fun e m=>e=.returned (.tuple #[.int .i64 (nx:Int),.int .i64 0])∧∃J y g j,LogOk m B lb d frm segs (nx+1) run false J y g (q+1)∧IsDev m d sb g j∧j≤c+12∧
   y.map Sg.ps=M2 segs (l.map Sg.ps) nx body∧Keep (d::sb::DG lb vl l) w m∧(∀q∈DG lb J y,q∈DG lb vl l∨w.heap.size≤q)∧g.length=L.length∧(∀i,(i<frm∨frm+segs*8≤i)→nowF g i=nowF L i):=by
 have ai:=F.max;have ae:Rcd.ok (nx,body):=⟨t.1,t.2,by show nx<_;omega,E⟩;have b:∀s∈l,s.ps∈l.map Sg.ps:=fun s a=>AI.2 ⟨s,a,rfl⟩
 have ab:∀s∈l,1≤s.gen:=fun s a=>(h.say.near (b s a)).2
 have ah:l.length≤segs:=by have:=h.say.len;simpa using this
 refine(Sh h.at_ F U (by omega) (fun s a=>⟨ab s a,by have:=(h.say.small _ (b s a)).1;show s.gen+1<_;have e:s.ps.gen=s.gen:=rfl;omega,by have:=(h.say.small _ (b s a)).2;have e:s.ps.base=s.base:=rfl;omega⟩) (by omega) (by omega) ⟨by omega,by omega⟩ (by omega) v (fun s a=>(h.say.ok _ (b s a)).1) (fun s a=>⟨(h.say.ok _ (b s a)).2.1,by
   have h1:=Ik s.rs (h.say.ok _ (b s a)).1;have h2:(encRs s.rs).length ≤378:=(h.say.ok _ (b s a)).2.1;have h3:s.rs.length=s.recs.length:=by simp[Sg.rs]
   omega⟩) R t E S).mono ?_
 rintro e m ⟨rfl,wc,af,A,s,n,c1,z,C,o,j,P,Z,W,V,N,hF⟩;have f:=(h.say.app (by omega) ac body ae).1
 have O:n.length=L.length∧DevOk n frm segs run ((A++[s]).map Sg.ps)∧(∀i,(i<frm∨frm+segs*8≤i)→nowF n i=nowF L i)∧XS ((A++[s]).map Sg.ps) (nx,body)=M2 segs (l.map Sg.ps) nx body:=by
  unfold M2;rcases P.how with⟨x,u,rfl,rfl⟩|⟨x,rfl,⟨p,u,hp⟩,rfl⟩
  ·rw[u]
   have aa:Jx (l.map Sg.ps) body.length=false:=by
    cases Y:Jx (l.map Sg.ps) body.length with
    |false=>rfl
    |true=>exact absurd ((SK l body.length).2 Y) x
   rw[aa];exact⟨rfl,h.dev,fun _ _=>rfl,rfl⟩
  ·rw[u,WB,(SK l body.length).1 x]
   have e:nextGen l-1=lastG (l.map Sg.ps):=by rw[IZ];omega
   have K:nextGen l=lastG (l.map Sg.ps)+1:=IZ l;rw[e,K];refine⟨by simp,h.dev.begin h.say (by omega) v I (by omega) _ _,fun i G=> ?_,rfl⟩;have ag:lastG (l.map Sg.ps) % segs<segs:=C1 _ (by omega);rw[CS,DF _ _ _ _ (by omega),Aw (by omega)]
 obtain⟨r,D,ad,Q⟩:=O
 have H:(A++[s.add z C nx body o]).map Sg.ps=M2 segs (l.map Sg.ps) nx body:=by rw[←Q,AL,AL,Br,Cy,Br,Cy,JV];simp[Sg.add,Sg.ps,Sg.rs]
 rw[←H]at f
 have k:(A++[s.add z C nx body o]).map Sg.ps=A.map Sg.ps++[⟨s.gen,s.base,s.rs++[(nx,body)]⟩]:=by simp[Sg.add,Sg.ps,Sg.rs]
 have T:∀c∈encRs (s.rs++[(nx,body)]),c<256:=by have:=(f.ok ⟨s.gen,s.base,s.rs++[(nx,body)]⟩ (by rw[k];simp)).1;exact Ho _ this
 have X:s.gen<281474976710656:=by have:=(f.small ⟨s.gen,s.base,s.rs++[(nx,body)]⟩ (by rw[k];simp)).1;have e:(PS.mk s.gen s.base (s.rs++[(nx,body)])).gen =s.gen:=rfl;omega
 have M:=DevOk.add (by rw[AL]at D;exact D) (by omega) (by rw[r];exact v) I (nx,body) (by rw[k]at f;exact f.apartL) X T
 have hk:(s.gen-1) % segs<segs:=C1 _ (by omega);refine⟨rfl,af,A++[s.add z C nx body o],_,j,⟨Z, ?_,f⟩,W,V,H,N,hF, ?_, ?_⟩
 ·rw[k]
  exact M.congr (fun i _ _=>SH fr _ i) (by omega)
 ·rw[fl_len,GD,r]
 ·intro i G
  rw[SH,JB _ _ _ _ _ _ _ (by rw[r];omega) 8 (Av _),Aw (by omega)];exact ad i G
end
theorem M8:∀l m:List PS,l.Pairwise (fun a b=>a.gen<b.gen)→m.Pairwise (fun a b=>a.gen<b.gen)→(∀x,x∈l↔x∈m)→l=m
 |[],[],_,_,_=>rfl
 |[],y::m,_,_,h=>absurd ((h y).2 (by simp)) (by simp)
 |x::l,[],_,_,h=>absurd ((h x).1 (by simp)) (by simp)
 |x::l,y::m,hl,hm,h=>by
  rw[B9]at hl hm
  have k:x=y:=by
   have i:=(h x).1 (by simp);have j:=(h y).2 (by simp);rcases Ac.1 i with e|e
   ·exact e
   ·rcases Ac.1 j with g|g
    ·exact g.symm
    ·have:=hm.1 x e
     have:=hl.1 y g;omega
  subst k
  congr 1
  refine M8 l m hl.2 hm.2 (fun z=>⟨fun f=> ?_,fun f=> ?_⟩)
  ·rcases Ac.1 ((h z).1 (Ap _ f))with e|e
   ·subst e;have:=hl.1 z f;omega
   ·exact e
  ·rcases Ac.1 ((h z).2 (Ap _ f))with e|e
   ·subst e;have:=hm.1 z f;omega
   ·exact e
theorem Pg:∀l m:List Nat,l.Nodup→(∀x∈l,x∈m)→l.length≤m.length
 |[],_,_,_=>AA _
 |x::l,m,hl,h=>by rw[List.nodup_cons]at hl;have a:=h x (by simp);have e:=Pg l (m.erase x) hl.2 (fun y b=>(List.mem_erase_of_ne (by rintro rfl;exact hl.1 b)).2 (h y (by simp[b])));rw[List.length_erase_of_mem a]at e;have:=List.length_pos_of_mem a;simp;omega
theorem SOk.sorted {segs nx q:Nat}{S:List PS}(h:SOk segs S nx q):S.Pairwise (fun a b=>a.gen<b.gen):=by obtain⟨k,_,_,e⟩:=h.gens;rw[DB];intro i j f g m;rw[e i _ (Ad f),e j _ (Ad g)];omega
theorem SOk.oneslot {segs nx q:Nat}{S:List PS}(h:SOk segs S nx q){a b:PS}(p:a∈S)(r:b∈S)(g:(a.gen-1) % segs=(b.gen-1) % segs):a=b:=by
 obtain⟨u,v,_,k⟩:=h.gens;obtain⟨i,f⟩:=Bf p;obtain⟨j,e⟩:=Bf r;have s:=k i a f;have t:=k j b e;have x:=(Ai.1 f).1;have y:=(Ai.1 e).1;have:=h.len;by_cases n:i=j
 ·subst n;rw[f]at e;injection e
 ·exfalso
  rcases Nat.lt_or_gt_of_ne n with o|o
  ·exact NP (m:=segs) (show a.gen-1<b.gen-1 by omega) (by omega) g
  ·exact NP (m:=segs) (show b.gen-1<a.gen-1 by omega) (by omega) g.symm
def Jp (S:List PS)(segs:Nat)(f:PS→Nat→Nat)(k:Nat):Option PSeg:=(S.find? (fun s=>(s.gen-1) % segs==k)).map (fun s=>⟨s.gen,s.base,s.rs,f s⟩)
theorem T2 {S:List PS}{segs nx q:Nat}{f:PS→Nat→Nat}(h:SOk segs S nx q)(n:0<segs)(x:PS):x∈(Ce (Jp S segs f) segs).map PSeg.ps↔x∈S:=by
 constructor
 ·intro e
  obtain⟨y,o,rfl⟩:=AI.1 e;obtain⟨k,g,b⟩:=E3 o;unfold Jp at b
  cases a:S.find? (fun s=>(s.gen-1) % segs==k)with
  |none=>rw[a]at b;cases b
  |some s=>rw[a]at b;injection b with b;subst b;exact List.mem_of_find?_eq_some a
 ·intro e
  have g:(x.gen-1) % segs<segs:=C1 _ n
  cases a:S.find? (fun s=>(s.gen-1) % segs==(x.gen-1) % segs)with
  |none=>have:=List.find?_eq_none.1 a x e;simp at this
  |some s=>have i:=List.mem_of_find?_eq_some a;have j:=List.find?_some a;have m:s=x:=h.oneslot i e (by simpa using j);subst m;refine AI.2 ⟨⟨s.gen,s.base,s.rs,f s⟩, ?_,rfl⟩;unfold Ce;refine F6.2 ⟨(s.gen-1) % segs,List.mem_range.2 g, ?_⟩;unfold Jp;rw[a];rfl
theorem JZ {S:List PS}{segs:Nat}{f:PS→Nat→Nat}:∀n,((Ce (Jp S segs f) n).map PSeg.ps).Pairwise (fun a b=>a.gen≠b.gen)
 |0=>by simp[Ce]
 |n+1=>by
  rw[FH,AL,CD];refine⟨JZ n, ?_, ?_⟩
  ·cases Jp S segs f n<;>simp
  ·intro a p b r
   obtain⟨x,v,rfl⟩:=AI.1 p;obtain⟨y,A,rfl⟩:=AI.1 r;obtain⟨k,C,m⟩:=E3 v;have o:=Ae.1 A
   have key:∀ {j:Nat} {z:PSeg},Jp S segs f j=some z→(z.gen-1) % segs=j:=by
    intro j z e;unfold Jp at e
    cases g:S.find? (fun s=>(s.gen-1) % segs==j)with
    |none=>rw[g]at e;cases e
    |some s=>rw[g]at e;injection e with e;subst e;simpa using List.find?_some g
   have h:=key m;have i:=key o;intro t;have u:x.gen=y.gen:=t;rw[u,i]at h;omega
theorem DevOk.onDev {L:List Sec}{frm segs run nx q:Nat}{S:List PS}(h:DevOk L frm segs run S)(g:SOk segs S nx q)(t:0<segs)(u:q<281474976710656):∃P,OnDev L frm segs run P∧(∀x,x∈(Ce P segs).map PSeg.ps↔x∈S)∧((Ce P segs).map PSeg.ps).Pairwise (fun a b=>a.gen≠b.gen):=by
 obtain⟨f,o⟩:∃f:PS→Nat→Nat,∀s∈S,SegDev L (frm+(s.gen-1) % segs*8) s.gen s.base (encRs s.rs) (f s):=by
  classical
  refine⟨fun s=>if j:s∈S then(h.seg s j).choose else fun _=>0,fun s j=> ?_⟩;simp only[j,dite_true];exact(h.seg s j).choose_spec
 refine⟨Jp S segs f,⟨fun k r=> ?_,h.runs⟩,T2 g t,JZ segs⟩;unfold Jp
 cases m:S.find? (fun s=>(s.gen-1) % segs==k)with
 |none=>intro i p;refine h.zero k r (fun s j=> ?_) i p;have:=List.find?_eq_none.1 m s j;simpa using this
 |some s=>
  have e:=List.mem_of_find?_eq_some m;have n:(s.gen-1) % segs=k:=by simpa using List.find?_some m
  show SegDev L (frm+k*8) s.gen s.base (encRs s.rs) (f s)∧_∧_;refine⟨by rw[←n];exact o s e,⟨(g.ok s e).1,(g.ok s e).2.1,⟨(g.near e).2, ?_⟩, ?_⟩,n⟩
  ·have:=(g.small s e).1
   show s.gen<_;omega
  ·have:=(g.small s e).2
   show s.base<_;omega
def G0 (S:List PS):Nat:=match S.getLast? with
 |none=>1
 |some s=>match s.rs.getLast? with
  |none=>s.base+64
  |some r=>r.1+1+64
theorem Rn (l:List Sg):Gz l=G0 (l.map Sg.ps):=by
 unfold Gz G0;rw[List.getLast?_map]
 cases l.getLast?<;>rfl
theorem SOk.next {segs nx q:Nat}{S:List PS}(h:SOk segs S nx q)(m:1≤nx):1≤G0 S∧G0 S≤nx+64∧∀r∈S.flatMap PS.rs,r.1<G0 S:=by
 unfold G0
 cases f:S.getLast? with
 |none=>have:S=[]:=List.getLast?_eq_none_iff.1 f;subst this;exact⟨Av _,by show 1≤_;omega,by simp⟩
 |some s=>
  obtain⟨A,rfl⟩:=EY.1 f;have j:=(h.ok s (by simp)).2.2
  cases e:s.rs.getLast? with
  |none=>exact absurd (List.getLast?_eq_none_iff.1 e) j
  |some r=>
   obtain⟨R,i⟩:=EY.1 e
   have b:(A++[s]).flatMap PS.rs=(A.flatMap PS.rs++R)++[r]:=by rw[Bg,BI,Eb,AE,i,Ax]
   have k:=h.below r (by rw[b];simp);have g:=h.pos;rw[b,CD]at g;simp only[e];show 1≤r.1+1+64∧r.1+1+64≤nx+64∧∀y∈(A++[s]).flatMap PS.rs,y.1<r.1+1+64;refine⟨by omega,by omega,fun y a=> ?_⟩;rw[b]at a;rcases Ag.1 a with a|a
   ·have:=g.2.2 y a r (by simp);omega
   ·simp at a;subst a;omega
theorem SOk.reopened {segs nx q:Nat}{S:List PS}(h:SOk segs S nx q)(b:1≤nx):SOk segs S (G0 S) q:=
 ⟨h.len,h.gens,h.small,h.ok,h.pos,fun r a=>⟨(h.below r a).1,(h.next b).2.2 r a⟩,h.tight⟩
theorem Rl {w:World}{d sb c frm segs nx run q:Nat}{S:List PS}{L:List Sec}(v:IsDev w d sb L c)(h:DevOk L frm segs run S)(j:SOk segs S nx q)(E:1≤nx)(J:run<4294967200)(G:q<281474976710656)(K:3≤segs∧segs≤199)(D:frm+segs*8≤L.length)(U:S.length≤12):
  Calls Tryz.prog 245 #[pr d 0,.int .i64 (frm:Int),.int .i64 (segs:Int)] w fun e n=>∃lb vl l run',e=.returned (.tuple #[pr lb 0,.int .i64 0])∧LogOk n w.heap.size lb d frm segs (G0 S) run' true vl l L q∧l.map Sg.ps=S∧run'≤run+1∧Keep [] w n:=by
 obtain⟨P,s,m,o⟩:=h.onDev j (by omega) G
 have A:(Ce P segs).length ≤12:=by
  have f:=Pg (((Ce P segs).map PSeg.ps).map PS.gen) (S.map PS.gen) (by
   unfold List.Nodup;rw[List.pairwise_map];exact o) (by
   intro x M;obtain⟨y,N,rfl⟩:=AI.1 M;exact AI.2 ⟨y,(m y).1 N,rfl⟩)
  simp at f;omega
 have z:∀a∈Ce P segs,∀b∈Ce P segs,b.gen<a.gen+segs:=by intro a t b u;have f:=(m a.ps).1 (AI.2 ⟨a,t,rfl⟩);have g:=(m b.ps).1 (AI.2 ⟨b,u,rfl⟩);have R:=(j.near f).1;have T:=j.last g;have O:a.ps.gen=a.gen:=rfl;have Q:b.ps.gen=b.gen:=rfl;omega
 refine(V9 v ⟨K.1,by omega⟩ D s J A z).mono ?_;rintro e n ⟨lb,vl,l,run',rfl,C,F,p,V,H,I,r⟩
 have k:l.map Sg.ps=S:=by
  refine M8 _ _ ?_ j.sorted (fun x=>(p.mem_iff).trans (m x));have f:(l.map Sg.ps).Pairwise (fun a b=>a.gen≠b.gen):=(p.pairwise_iff (fun h=>Ne.symm h)).2 o
  have g:(l.map Sg.ps).Pairwise (fun a b=>a.gen≤b.gen):=by rw[List.pairwise_map];exact F
  exact(f.and g).imp (fun⟨a,b⟩=>by omega)
 refine⟨lb,vl,l,run',rfl,⟨?_, ?_, ?_⟩,k,H,r⟩
 ·rw[←k,←Rn];exact C
 ·rw[k]
  exact⟨h.seg,h.zero,fun i f g=>EV (I i f g),h.old⟩
 ·rw[k];exact j.reopened E
theorem DevOk.fresh {L:List Sec}{frm segs:Nat}(e:∀i,frm≤i→i<frm+segs*8→nowF L i=List.replicate 64 0)(h:0<segs):DevOk L frm segs 0 []:=by refine⟨by simp,fun k g _ i f=>e _ (by omega) (by omega),fun i a b=> ?_,fun i a b=> .inl (US L i (e i a b))⟩;rw[Fm,e i a b];decide
theorem SOk.fresh (segs q:Nat):SOk segs [] 1 q:=⟨AA _,⟨1,Av _,fun _=>rfl,by simp⟩,by simp,by simp,by simp,by simp,by simp⟩
section
variable {w w' w0:World} {B lb d sb c frm segs nx run q:Nat} {fr:Bool} {vl:Value} {l:List Sg} {L:List Sec}
theorem logKeep (h:LogAt w B lb d frm segs nx run fr vl l)(e:w0.heap.size≤B)(f:w0.heap.size≤d)(i:w0.heap.size≤sb)(K:Keep [] w0 w)(k:Keep (d::sb::DG lb vl l) w w'):Keep [] w0 w':=
 K.then k (fun x b g=>by
  simp only[Ac]at b;rcases b with a|a|a
  ·omega
  ·omega
  ·have:=(h.lt x a).1;omega)
theorem LogOk.keep {S:List Nat}(h:LogOk w B lb d frm segs nx run fr vl l L q)(k:Keep S w w')(a:∀x∈DG lb vl l,x∉S):LogOk w' B lb d frm segs nx run fr vl l L q:=⟨h.at_.keep k a,h.dev,h.say⟩
theorem LogOk.still (h:LogOk w B lb d frm segs nx run fr vl l L q)(k:Keep [] w w'):LogOk w' B lb d frm segs nx run fr vl l L q:=h.keep k (by simp)
theorem LogAt.newNot (h:LogAt w B lb d frm segs nx run fr vl l)(e:IsDev w d sb L c){b:Nat}(g:w.heap.size≤b):b∉d::sb::DG lb vl l:=by
 intro f;simp only[Ac]at f;rcases f with a|a|a
 ·have:=e.dev.lt;omega
 ·have:=e.secs.lt;omega
 ·have:=(h.lt b a).2;omega
end
theorem LH (l:List Sg):l.flatMap Sg.rs=(l.map Sg.ps).flatMap PS.rs:=by
 induction l with
 |nil=>rfl
 |cons s l ih=>rw[BI,ih,Br,BI];rfl
def Tight (S:List PS):Prop:=∀i a b r,S[i]?=some a→S[i+1]?=some b→b.rs.head?=some r→370<(encRs a.rs).length +r.2.length
structure Tail (segs:Nat) (S:List PS) (all:List Rcd):Prop where
 tail:∃k,S.flatMap PS.rs=all.drop k∧k≤all.length∧(0<k→S.length=segs)
theorem Tail.nil (segs:Nat):Tail segs [] []:=⟨0,rfl,AA _,fun h=>absurd h (by omega)⟩
theorem Tail.app {segs a q:Nat}{S:List PS}{b:List Rcd}(h:Tail segs S b)(g:SOk segs S a q)(t:2≤segs)(s:1≤a∧a<140737488355328)(body:List Nat)(l:Rcd.ok (a,body)):Tail segs (M2 segs S a body) (b++[(a,body)]):=by
 obtain⟨k,d,r,m⟩:=h.tail;obtain⟨i,j,c,n,u⟩:=g.app t s body l;have v:=i.len;by_cases o:j=0
 ·subst o
  rw[Bj,d]at c;refine⟨k, ?_,by simp;omega,fun f=> ?_⟩
  ·rw[c,C3 r]
  ·have:=m f;omega
 ·have e:=n (by omega)
  by_cases p:k+j≤b.length
  ·refine⟨k+j, ?_,by simp;omega,fun _=>e⟩
   rw[c,d,Bu,C3 p]
  ·refine⟨b.length, ?_,by simp,fun _=>e⟩
   rw[c,d,Bu,Bz (by omega),EN];rfl
def encN (l:List Rcd):Nat:=(encRs l).length
theorem GP (l m:List Rcd):encN (l++m)=encN l+encN m:=by unfold encN encRs;simp
theorem FU (r:Rcd)(l:List Rcd):encN (r::l)=r.2.length+8+encN l:=by
 have e:encRs (r::l)=J5 r++encRs l:=by simp[encRs]
 unfold encN;rw[e,Aj,Fr];omega
theorem Nc:∀(n:Nat) (S:List PS),S.length≤n→Tight S→(∀s∈S,s.rs≠[])→371*(S.length/2)≤encN (S.flatMap PS.rs)
 |0,S,hn,_,_=>by
  have:S.length=0:=by omega
  rw[this];omega
 |n+1,S,hn,ht,hne=>by
  match S,hn,ht,hne with
  |[],_,_,_=>simp
  |[a],_,_,_=>simp
  |a::b::T,hn,ht,hne=>
   have o:=Nc n T (by simp at hn;omega) (fun i x y r j k g=>ht (i+2) x y r (by simpa using j) (by simpa using k) g) (fun s h=>hne s (by simp[h]));have f:=hne b (by simp)
   cases c:b.rs with
   |nil=>exact absurd c f
   |cons r R=>
    have m:=ht 0 a b r rfl rfl (by rw[c];rfl)
    have d:encN ((a::b::T).flatMap PS.rs)=encN a.rs+(encN b.rs+encN (T.flatMap PS.rs)):=by rw[BI,BI,GP,GP]
    have e:encN b.rs=r.2.length+8+encN R:=by rw[c,FU]
    have l:encN a.rs=(encRs a.rs).length :=rfl;rw[d,e];simp only[List.length_cons];omega
theorem SOk.pairs {segs b q:Nat}{S:List PS}(h:SOk segs S b q):371*(S.length/2)≤encN (S.flatMap PS.rs):=
 Nc S.length S (Av _) h.tight (fun s a=>(h.ok s a).2.2)
theorem Ng (l:List Rcd)(k:Nat):encN (l.drop k)≤encN l:=by
 conv=>rhs;rw[←BX k l,GP]
 omega
theorem Tail.whole {j q:Nat}{S:List PS}{a:List Rcd}(h:Tail 20 S a)(g:SOk 20 S j q)(m:encN a≤2225):S.flatMap PS.rs=a∧S.length≤12:=by
 obtain⟨k,b,n,i⟩:=h.tail;have c:=g.pairs;rw[b]at c;have l:=Ng a k;have d:S.length≤12:=by omega
 refine⟨?_,d⟩
 have e:k=0:=by apply Nat.le_zero.1;apply EU;intro f;have:=i f;omega
 rw[b,e,Bj]
theorem Tail.wholeG {segs nx q:Nat}{S:List PS}{all:List Rcd}(h:Tail segs S all)(i:SOk segs S nx q)(p:20≤segs)(n:encN all≤2225):S.flatMap PS.rs=all∧S.length≤12:=by
 obtain⟨k,a,o,j⟩:=h.tail;have b:=i.pairs;rw[a]at b;have m:=Ng all k;have e:S.length≤12:=by omega
 refine⟨?_,e⟩
 have f:k=0:=by apply Nat.le_zero.1;apply EU;intro g;have:=j g;omega
 rw[a,f,Bj]
def flAddS (a:World)(xb xg cnt used:Nat)(T:Tab)(b:Nat)(U:Nat→Bool)(X:Nat→Value)(W:World):Prop:=
 (U 9=false→Keep [] a W)∧Keep [xb] a W∧(U 8=true→X 8=.int .i64 (b:Int))∧IxAt W xb xg T cnt used
section
variable {w w':World} {B cb lb xb xg d sb c frm segs nx run q cnt used:Nat} {fr:Bool} {vl bv:Value} {l:List Sg} {L:List Sec} {T:Tab} {all:List Rcd} {body:List Nat}
theorem MZ (a:Blk w cb [pr lb 0,pr xb 0] 283)(h:LogOk w B lb d frm segs nx run fr vl l L q)(k:IsDev w d sb L c)(hc:c+20<1099511627776)(Q:1≤nx∧nx<140737488355328)(ay:run<4294967200)(g:q+2<281474976710656)
  (al:20≤segs∧segs≤199) (av:frm+segs*8≤L.length) (hb:Rd w bv body) (ab:1≤body.length∧body.length≤300) (ai:∀c∈body,c<256) (ap:∀q,bv.ownBlock=some q→q∉d::sb::DG lb vl l)
  (j:IxAt w xb xg T cnt used) (hT:Tail segs (l.map Sg.ps) all) (he:encN (all++[(nx,body)])≤2225) (ax:∀x∈T,x.has=true→∀r,all.head?=some r→r.1≤x.pos) (au:all=[]→∀x∈T,x.has=false):
  Calls Tryz.prog 173 #[pr cb 0,bv] w fun e w'=>e=.returned (.tuple #[.int .i64 (nx:Int),.int .i64 0])∧∃R p y V,LogOk w' B lb d frm segs (nx+1) run false R p y (q+1)∧IsDev w' d sb y V∧V≤c+12∧
   Tail segs (p.map Sg.ps) (all++[(nx,body)])∧Keep (xb::d::sb::DG lb vl l) w w'∧(∀q∈DG lb R p,q∈DG lb vl l∨w.heap.size≤q)∧y.length=L.length∧(∀i,(i<frm∨frm+segs*8≤i)→nowF y i=nowF L i)∧
   IxAt w' xb xg T cnt used∧Blk w' cb [pr lb 0,pr xb 0] 283:=by
 have a2:=h_ (WF h k hc Q ay g ⟨by omega,al.2⟩ av hb ab ai ap);have c0:=a.cell 0
 have aq:cb∉d::sb::DG lb vl l:=by
  intro o;simp only[Ac]at o;rcases o with rfl|rfl|o
  ·exact a.ty.ne k.dev.ty (by decide) rfl
  ·exact a.ty.ne k.secs.ty (by decide) rfl
  ·exact h.at_.apartT a.ty (by decide) o
 have am:∀q∈d::sb::DG lb vl l,q∉ [xb,xg]:=by
  intro q g o
  have b:Ty w q 326∨Ty w q 330:=by
   simp only[Ac,Am,AG]at o;rcases o with rfl|rfl
   ·exact .inl j.blk.ty
   ·exact .inr j.row.ty
  simp only[Ac]at g;rcases g with rfl|rfl|g
  ·rcases b with b|b
   ·exact b.ne k.dev.ty (by decide) rfl
   ·exact b.ne k.dev.ty (by decide) rfl
  ·rcases b with b|b
   ·exact b.ne k.secs.ty (by decide) rfl
   ·exact b.ne k.secs.ty (by decide) rfl
  ·rcases b with b|b
   ·exact h.at_.apartT b (by decide) g
   ·exact h.at_.apartT b (by decide) g
 have ar:cb≠xb:=a.ty.ne j.blk.ty (by decide);have az:=hT.app h.say (by omega) Q body ⟨ab.1,ab.2,by show nx<_;omega,ai⟩;obtain⟨HB,HX⟩:=i_2 a j;have I:=h_3 aq am ar;have J:=h_5 az he ax al au;have an:Hid (∀q∈d::sb::DG lb vl l,q≠xb):=h_ (fun q g e=>am q g (by simp[e]));clear a h k hc Q ay g al av hb ab ai ap j hT he ax aq am az ar au;go_enter Tryz.func173,Tryz.ntmps173;go_wp2_with fail;refine a2.out.mono ?_;rintro e w2 ⟨rfl,R,p,y,V,E,ad,ac,aw,D,Y,Z,af⟩;have z:=HB.out.keep D I.out.1;have aa:=HX.out.keep D I.out.2.1;have F:=J.out.1;rw[←aw]at F;obtain⟨a0,a1⟩:=F.wholeG E.say J.out.2.2.2.1.1 J.out.2.1;have ak:p.length≤1000:=by rw[AD]at a1;omega
 obtain⟨K,ae⟩:∃K,K=Ix p (nx+1):=⟨_,rfl⟩
 have aj:∀x∈T,x.has=true→(K:Int)≤(x.pos:Int):=by
  intro x G hh;have e:p.flatMap Sg.rs=all++[(nx,body)]:=by rw[LH];exact a0
  rw[ae];unfold Ix;rw[e]
  cases ao:all with
  |nil=>have:=J.out.2.2.2.2 ao x G;rw[hh]at this;cases this
  |cons r rs=>have:=J.out.2.2.1 x G hh r (by rw[ao];rfl);simp only[List.cons_append];omega
 have d0:=z.cell 0;have d1:=z.cell 1;have n:=h_7 E ad z aa ak ae aj;have a5:=h_6 D Y Z af F ac;clear E ad aw D Y Z af z aa F a0 a1 ak ae aj ac;go_wp2_with fail;clear d0 d1;refine wM (A:=[0,1,3,7,0,16,48,112,240,511]) 768 [fun _=>pr cb 0,fun _=>pr cb 0,fun _=>pr cb 1,fun _=>pr xb 0,fun _=>pr cb 0,fun _=>pr cb 0,fun _=>pr cb 0,fun _=>pr lb 0,fun _=>undef,fun _=>undef] (flAddS w2 xb xg cnt used T K) ?start (.s ?m0<|.s ?m1<|.s ?m2<|.s ?m3<|.s ?m4<|.s ?m5<|.s ?m6<|.s ?m7<|.t ?m8<|.t ?m9<|.nil) ?fin
 case start=>intro X;exact⟨fun _=>(By _ _).drew,(By _ _).drew,fun h=>absurd h (by decide),n.out.2.2.2.1.still (By [] _).drew⟩
 case fin=>
  intro U X w3 v k;obtain⟨_,u,_,C⟩:=v;have a3:=h_2 u C;clear u C k;simp[Al,Act.put,FK,Ab];go_wp2;go_ret2;obtain⟨u,C⟩:=a3.out;obtain⟨E,ad,z,aa,ak,ae,aj⟩:=n.out;obtain⟨D,Y,Z,af,F,ac⟩:=a5.out;have Q:∀q∈DG lb R p,q≠xb:=fun q g e=>E.at_.apartT (e▸aa.blk.ty) (by decide) g
  refine⟨rfl,R,p,y,V,E.keep u (fun x G o=>Q x G (by simpa using o)),ad.keep u (by simp;exact fun e=>an.out d (by simp) e) (by simp;exact fun e=>an.out sb (by simp) e),ac,F,(D.mono (S':=xb::d::sb::DG lb vl l) (fun x G _=>Ap _ G)).trans (u.mono (S':=xb::d::sb::DG lb vl l) (by simp)),Y,Z,af,C,z.keep u (by simp;exact I.out.2.2)⟩
 case' m8|m9=>intro U X x W v hl j M P ag O B a K' N;have m:=h_ v;obtain⟨_,f,_⟩:=v;have a:=n.out.2.2.1.keep f (by simp;exact I.out.2.2);have d0:=a.cell 0;have d1:=a.cell 1;clear a f;simp[mV,mY,Ab]at P;simp only[Al,Act.put,A8,A7,A6,P]at a;subst a
 case m8=>have H:U 9=false:=O 9 (by decide);clear j M ag O;have f:=m.out.1 H;have S:=h_ (UN (n.out.1.still f).at_ n.out.2.2.2.2.1);rw[←n.out.2.2.2.2.2.1]at S;have a4:=h_ H;clear f H;go_simp;refine S.out.mono ?_;rintro e w3 ⟨rfl,rfl⟩;go_simp;refine N _ _ _ rfl ⟨fun _=>m.out.1 a4.out,m.out.2.1,fun _=>by rw[Bh],m.out.2.2.2⟩
 case m9=>have H:U 9=false:=hl;have u8:U 8=true:=M 8 (by decide);have e8:=j 8 u8;have ah:=m.out.2.2.1 u8;rw[ah]at e8;have f:=m.out.1 H;have S:=h_ (PC (n.out.2.2.2.1.still f) (K:Int) n.out.2.2.2.2.2.2);have HU:=h_2 u8 ah;have HK:=h_ f;simp only[←e8]at N⊢;clear j M ag O f H e8 ah u8;go_simp;refine S.out.mono ?_;rintro e w3 ⟨rfl,C,k3⟩;go_simp;refine N _ _ _ rfl ⟨fun h=>by simp[upd]at h,m.out.2.1.trans k3,fun _=>by rw[Bs _ _ _ _ (by decide)];exact HU.out.2,C⟩
 all_goals intro U X x W v j M P ag O B a K' N;clear j M ag O;have m:=h_ v;obtain⟨_,f,_⟩:=v;have a:=n.out.2.2.1.keep f (by simp;exact I.out.2.2);have d0:=a.cell 0;have d1:=a.cell 1;clear a f;simp[mV,mY,Ab]at P;simp only[Al,Act.put,A8,A7,A6,P]at a;subst a;go_simp;exact N _ _ _ rfl rfl m.out
end
inductive FR where
 |put (k v:Str)
 |del (k:Str)
 |wipe
def FR.body:FR→List Nat
 | .put k v=>1::BM [(k,v,0,false)]
 | .del k=>if itMay k ByteArray.empty 0 true=true then 1::BM [(k,ByteArray.empty,0,true)]else[1,0]
 | .wipe=>[2]
def Xi (f:Str→Option (Nat×Str))(r:Nat×FR):Str→Option (Nat×Str):=match r.2 with
 | .put k v=>fun x=>if x=k then some (r.1,v)else f x
 | .del k=>fun x=>if x=k then none else f x
 | .wipe=>fun _=>none
def rpF (R:List (Nat×FR)):Str→Option (Nat×Str):=R.foldl Xi (fun _=>none)
theorem Js (R:List (Nat×FR))(r:Nat×FR):rpF (R++[r])=Xi (rpF R) r:=by unfold rpF;rw[Gn];rfl
theorem Ll:∀(R:List (Nat×FR)) (f:Str→Option (Nat×Str)) (k:Str) (pos:Nat) (v:Str),R.foldl Xi f k=some (pos,v)→(pos,FR.put k v)∈R∨f k=some (pos,v)
 |[],f,k,pos,v,h=> .inr h
 |r::R,f,k,pos,v,h=>by
  rcases Ll R (Xi f r) k pos v h with h|h
  ·exact .inl (Ap _ h)
  ·obtain⟨p,b⟩:=r
   unfold Xi at h
   cases b with
   |put k2 v2=>
    simp only at h;by_cases a:k=k2
    ·rw[Ay a]at h
     injection h with h;injection h with h1 h2;left;rw[←h1,←h2,a];exact Bx ..
    ·rw[Aw a]at h;exact .inr h
   |del k2=>
    simp only at h;by_cases a:k=k2
    ·rw[Ay a]at h;cases h
    ·rw[Aw a]at h;exact .inr h
   |wipe=>cases h
theorem N7 {R:List (Nat×FR)}{k:Str}{pos:Nat}{v:Str}(h:rpF R k=some (pos,v)):(pos,FR.put k v)∈R:=by
 rcases Ll R _ k pos v h with h|h
 ·exact h
 ·cases h
structure CacheOf (R:List (Nat×FR)) (C:Cache):Prop where
 ok:COk C
 at_:∀k,cGet C k=(rpF R k).map Prod.snd
theorem CacheOf.nil:CacheOf [] []:=⟨Gp,fun k=>rfl⟩
theorem CacheOf.put {R:List (Nat×FR)}{C:Cache}(h:CacheOf R C)(pos:Nat)(k v:Str):CacheOf (R++[(pos,.put k v)]) (GA k v C):=by
 refine⟨Tc C k v h.ok,fun x=> ?_⟩;rw[Qy C k v x h.ok,Js];show _=Option.map Prod.snd (if x=k then some (pos,v)else rpF R x);by_cases a:x=k
 ·rw[Ay a,Ay a];rfl
 ·rw[Aw a,Aw a,h.at_]
theorem CacheOf.wipe {R:List (Nat×FR)}{C:Cache}(pos:Nat):CacheOf (R++[(pos,.wipe)]) []:=by refine⟨Gp,fun x=> ?_⟩;rw[Js];rfl
def IdxOf (R:List (Nat×FR))(T:Tab):Prop:=∀k pos,(k,pos)∈ents T↔(rpF R k).map Prod.fst=some pos
def frRec (r:Nat×FR):Rcd:=(r.1,r.2.body)
def Iw (cb lb xb xg:Nat)(vl:Value)(l:List Sg):List Nat:=cb::xb::xg::DG lb vl l
structure FlOk (w:World) (B cb lb xb xg d frm segs t:Nat) (vl:Value) (l:List Sg) (L:List Sec) (T:Tab) (cnt used:Nat) (R:List (Nat×FR)):Prop where
 blk:Blk w cb [.pointer (some ⟨lb,0,none⟩),.pointer (some ⟨xb,0,none⟩)] 283
 log:∃nx run fr q,LogOk w B lb d frm segs nx run fr vl l L q∧1≤nx∧nx≤t∧run≤t∧q≤t∧∀r∈R,r.1<nx
 tail:Tail segs (l.map Sg.ps) (R.map frRec)
 few:encN (R.map frRec)≤2225
 up:R.Pairwise (fun a b=>a.1<b.1)
 idx:IxAt w xb xg T cnt used
 tab:TabOk T used
 says:IdxOf R T
 cnt_:cnt=(ents T).length
 may:∀r∈R,∀k v,r.2=.put k v→itMay k v 0 false=true
section
variable {w w':World} {B cb lb xb xg d sb c frm segs t cnt used:Nat} {vl bv:Value} {l:List Sg} {L:List Sec} {T:Tab} {R:List (Nat×FR)}
theorem FlOk.keep {S:List Nat}(h:FlOk w B cb lb xb xg d frm segs t vl l L T cnt used R)(k:Keep S w w')(b:∀q∈S,q∉Iw cb lb xb xg vl l):FlOk w' B cb lb xb xg d frm segs t vl l L T cnt used R:=by obtain⟨p,run,f,q,o,g,i,j,m,n⟩:=h.log;refine⟨h.blk.keep k (fun a=>b cb a (by simp[Iw])),⟨p,run,f,q,o.keep k (fun x e a=>b x a (by simp[Iw,e])),g,i,j,m,n⟩,h.tail,h.few,h.up,h.idx.keep k (fun x e a=>b x e ?_),h.tab,h.says,h.cnt_,h.may⟩;simp only[Ac,Am,AG]at a;rcases a with rfl|rfl<;>simp[Iw]
theorem FlOk.still (h:FlOk w B cb lb xb xg d frm segs t vl l L T cnt used R)(k:Keep [] w w'):FlOk w' B cb lb xb xg d frm segs t vl l L T cnt used R:=h.keep k (by simp)
theorem FlOk.later {t':Nat}(h:FlOk w B cb lb xb xg d frm segs t vl l L T cnt used R)(m:t≤t'):FlOk w B cb lb xb xg d frm segs t' vl l L T cnt used R:=by obtain⟨g,run,a,q,f,b,i,j,k,e⟩:=h.log;exact⟨h.blk,⟨g,run,a,q,f,b,by omega,by omega,by omega,e⟩,h.tail,h.few,h.up,h.idx,h.tab,h.says,h.cnt_,h.may⟩
theorem FlOk.find (h:FlOk w B cb lb xb xg d frm segs t vl l L T cnt used R)(key:Str):match rpF R key with
  |some (pos,v)=>∃i x,(find T key).1 =some i∧T[i]?=some x∧x.pos=pos
  |none=>∀p∈T,¬(p.has=true∧p.key=key):=by
 cases b:rpF R key with
 |none=>refine Me.2 (fun pos f=> ?_);have:=(h.says key pos).1 f;rw[b]at this;cases this
 |some y=>obtain⟨pos,v⟩:=y;obtain⟨i,p,a,g,e,j⟩:=Fn.1 ((h.says key pos).2 (by rw[b];rfl));subst e;exact⟨i,p,by rw[h.tab.find_some a g],a,j⟩
theorem FlOk.heads (h:FlOk w B cb lb xb xg d frm segs t vl l L T cnt used R):(∀x∈T,x.has=true→∀r,(R.map frRec).head? =some r→r.1≤x.pos)∧(R.map frRec=[]→∀x∈T,x.has=false):=by
 have k:∀x∈T,x.has=true→∃v,(x.pos,FR.put x.key v)∈R:=fun x g f=>by
  obtain⟨i,m⟩:=Bf g;have:=(h.says x.key x.pos).1 (Fn.2 ⟨i,x,m,f,rfl,rfl⟩)
  cases e:rpF R x.key with
  |none=>rw[e]at this;cases this
  |some y=>obtain⟨pos,v⟩:=y;rw[e]at this;injection this with this;simp only at this;subst this;exact⟨v,N7 e⟩
 refine⟨fun x g f r e=> ?_,fun j x g=> ?_⟩
 ·obtain⟨v,b⟩:=k x g f
  cases R with
  |nil=>cases b
  |cons a R=>
   simp only[Br,List.head?_cons,BU]at e;subst e;rcases Ac.1 b with rfl|b
   ·exact Av _
   ·exact EV (((B9.1 h.up).1) _ b)
 ·cases f:x.has with
  |false=>rfl
  |true=>obtain⟨v,b⟩:=k x g f;rw[List.map_eq_nil_iff]at j;rw[j]at b;cases b
theorem PT (h:FlOk w B cb lb xb xg d frm segs t vl l L T cnt used R)(f:IsDev w d sb L c)(G:c<1099511627776)(J:0<segs):Calls Tryz.prog 130 #[pr cb 0] w fun e w'=>
  e=.returned (.int .i64 0)∧IsDev w' d sb (L.map flushSec) (c+1)∧FlOk w' B cb lb xb xg d frm segs t vl l (L.map flushSec) T cnt used R∧Keep [d,sb] w w':=by
 have N:=h.blk.cell 0;obtain⟨K,run,z,q,g,m,n,o,p,r⟩:=h.log;have v:=h_ (Mf g.at_ f G)
 have s:∀x∈[d,sb],x∉Iw cb lb xb xg vl l:=by
  intro x k i
  have a:Ty w x 182∨Ty w x 232:=by
   simp only[Ac,Am,AG]at k;rcases k with rfl|rfl
   ·exact .inl f.dev.ty
   ·exact .inr f.secs.ty
  simp only[Iw,Ac]at i;rcases i with rfl|rfl|rfl|i
  ·rcases a with a|a<;>exact a.ne h.blk.ty (by decide) rfl
  ·rcases a with a|a<;>exact a.ne h.idx.blk.ty (by decide) rfl
  ·rcases a with a|a<;>exact a.ne h.idx.row.ty (by decide) rfl
  ·exact g.at_.apart f x i k
 obtain⟨H,y⟩:=i_2 h s;clear h f g s m n o p r;go_enter Tryz.func130,Tryz.ntmps130;go_wp2_with fail;refine v.out.mono ?_;rintro e O ⟨rfl,I,u⟩;go_wp2;go_ret;obtain⟨K,run,z,q,g,m,n,o,p,r⟩:=H.out.log;have b:=H.out.keep u y.out;obtain⟨nx',run',fr',M,j,A,C,D,E,F⟩:=b.log;exact⟨rfl,I,⟨b.blk,⟨nx',run',fr',M,⟨j.at_,j.dev.flush J,j.say⟩,A,C,D,E,F⟩,b.tail,b.few,b.up,b.idx,b.tab,b.says,b.cnt_,b.may⟩,u⟩
theorem FlOk.fresh {run:Nat}{a:Bool}(b:Blk w cb [pr lb 0,pr xb 0] 283)(e:LogOk w B lb d frm segs 1 run a vl l L 0)(g:l.map Sg.ps=[])(h:run≤t)(i:1≤t)(f:IxAt w xb xg EP 0 0):
  FlOk w B cb lb xb xg d frm segs t vl l L EP 0 0 []:=
 ⟨b,⟨1,run,a,0,e,Av _,i,h,AA _,by simp⟩,by rw[g];exact Tail.nil _,by decide,Gp,f,TabOk.new 16 (by decide),fun k pos=>by have:ents EP=[]:=Iy 16;rw[this];simp[rpF],by rw[show ents EP=[]from Iy 16];rfl,by simp⟩
end
theorem Im (k v:Str)(a:itMay k v 0 false=true):1≤(FR.put k v).body.length ∧(FR.put k v).body.length ≤300∧(BM [(k,v,0,false)]).length +1=(FR.put k v).body.length :=by
 have h:=a;unfold itMay itKey at a;simp only[Ar,A0]at a
 have e:BM [(k,v,0,false)]=Dc (k,v,0,false):=by unfold BM;rw[Ay (by simp[Dj,h])];simp[CE]
 have i:=Hb k v (by omega) (by omega)
 have j:(BL [(0:Int),gN false]).length ≤2:=by
  have g:BL [(0:Int),gN false]=Ga (zz 0)++Ga (zz 0):=by simp[BL,gN]
  have b:=DO 1 (zz 0) (by decide) (by decide);rw[g,Aj];omega
 have m:(Dc (k,v,0,false)).length =(B8 [k,v]).length +(BL [(0:Int),gN false]).length :=by unfold Dc;rw[Aj]
 have f:(BM [(k,v,0,false)]).length =(Dc (k,v,0,false)).length :=by rw[e]
 have b:(FR.put k v).body.length =(BM [(k,v,0,false)]).length +1:=rfl;rw[b,f];omega
theorem Jt (k v:Str):∀c∈(FR.put k v).body,c<256:=by
 intro c a;unfold FR.body at a;rcases Ac.1 a with rfl|a
 ·decide
 ·exact LB _ c a
section
variable {w w':World} {B cb lb xb xg d sb c frm segs t cnt used:Nat} {vl bv:Value} {l:List Sg} {L:List Sec} {T:Tab} {R:List (Nat×FR)}
theorem Ut (h:FlOk w B cb lb xb xg d frm segs t vl l L T cnt used R)(hd:IsDev w d sb L c)(hc:c+20<1099511627776)(ht:t≤1000000)(br:20≤segs∧segs≤199)(a1:frm+segs*8≤L.length)
  (key val:Str) (g:itMay key val 0 false=true) (hn:rpF R key=none) (he:encN (R.map frRec)+(FR.put key val).body.length +8≤2225) (a2:2*used<T.length∧used+1≤T.length∧cnt+1≤T.length):
  Calls Tryz.prog 129 #[pr cb 0,L7 key val 0 false] w fun e w'=>e=.returned (.int .i64 0)∧∃ao l' J c' T' bt pos,FlOk w' B cb lb xb xg d frm segs (t+1) ao l' J T' (cnt+1) bt (R++[(pos,.put key val)])∧bt≤used+1∧T'.length=T.length∧IsDev w' d sb J c'∧c'≤c+12∧
   Keep (d::sb::Iw cb lb xb xg vl l) w w'∧(∀q∈Iw cb lb xb xg ao l',q∈Iw cb lb xb xg vl l∨w.heap.size≤q)∧J.length=L.length∧(∀i,(i<frm∨frm+segs*8≤i)→nowF J i=nowF L i):=by
 obtain⟨o,run,fr,q,hL,h1,h2,h3,h4,h5⟩:=h.log
 have bn:key.size≤40∧val.size≤200:=by unfold itMay itKey at g;simp only[Ar,A0]at g;omega
 have bi:=Im key val g;have bh:=Jt key val;have U:=h.find key;rw[hn]at U;simp only at U
 obtain⟨az,j,hj,ai,S,bm⟩:=Na U h.tab.pos (by obtain⟨p,hp,ca,_⟩:=h.tab.free (by omega);exact⟨p,hp,ca⟩)
 have V:=h.tab.add U hj S bm o;have ak:=Ip h.tab.pos key j;obtain⟨i,hi⟩:∃i,i=probe T key j:=⟨_,rfl⟩;rw[←hi]at ai V S ak;obtain⟨x,E⟩:∃x,T[i]?=some x:=⟨_,Ad ak⟩;have a4:T.getD i pl0=x:=X9 E;rw[a4]at V;have ah:=fun k q=>Wc h.tab ak S o k q (Me.1 U)
 have ag:(ents (T.set i ⟨key,o,true,false⟩)).length =cnt+1:=by rw[h.cnt_,PY,PY];have:=LR (fun p:Pl=>p.has) ⟨key,o,true,false⟩ E;rw[a4]at S;simp only[S]at this;simpa using this
 have bl:encN (R.map frRec++[(o,(FR.put key val).body)])≤2225:=by rw[GP,FU];show _+((FR.put key val).body.length +8+encN [])≤_;have:encN []=0:=rfl;omega
 obtain⟨w1,am⟩:∃w1,w1=w.alloc (.cells #[.string key,.string val,.int .i64 0,.bool false] 171):=⟨_,rfl⟩;have k1:Keep [] w w1:=by rw[am];exact(By _ _).alloc _
 have be:Blk w1 w.heap.size (E8 key val 0 false) 171:=by rw[am];exact BY w _ _
 have b0:∀W,Hid (Calls Tryz.prog 163 #[L7 key val 0 false] W fun e w'=>e=.returned (.bool true)∧Keep [] W w'):=fun W=>h_ (FT key val 0 false (by omega) (by omega) true g.symm)
 have H:=h_2 h hL;have A:=h_4 hd hc br a1;have a7:=h_2 be k1;have I:=h_6 h1 h2 h3 h4 h5 ht;have G:=h_3 bi bh bl;have C:=h_7 V ah ag az ai E a2;have aq:=h_3 bn g hn;obtain⟨i8,b9,cc,cd,ce⟩:=AU In;obtain⟨s,aw⟩:∃s,s=w.heap.size:=⟨_,rfl⟩;have a6:=h_ aw;clear h hL hd hc ht br a1 g hn he a2 h1 h2 h3 h4 h5 bn bi bh U az ai S bm V hj ak hi E a4 ah ag bl k1 be;go_enter Tryz.func129,Tryz.ntmps129;go_wp2_with fail;rw[←am,←aw];clear am aw;refine(b0 _).out.mono ?_;rintro e f ⟨rfl,k2⟩;have bf:=a7.out.1.keep k2 (by simp);have z:=h_2 bf (a7.out.2.trans k2);rw[←a6.out]at z;have c3:f.cell? ⟨s,3,none⟩=some (.bool false):=z.out.1.cell 3;have Y:=z.out.1.keep (Keep.alloc (By [] f) (.cells #[.int .u8 1] 5)) (by simp);have e0:(f.alloc (.cells #[.int .u8 1] 5)).cell? ⟨s,0,none⟩=some (.string key):=Y.cell 0;have Z:(f.alloc (.cells #[.int .u8 1] 5)).cell? ⟨s,1,none⟩=some (.string val):=Y.cell 1;have e2:(f.alloc (.cells #[.int .u8 1] 5)).cell? ⟨s,2,none⟩=some (.int .i64 0):=Y.cell 2;have e3:(f.alloc (.cells #[.int .u8 1] 5)).cell? ⟨s,3,none⟩=some (.bool false):=Y.cell 3
 have bq:IRd ((f.alloc (.cells #[.int .u8 1] 5)).alloc (.cells #[.string key,.string val,.int .i64 0,.bool false] 171)) (.slice (some ⟨f.heap.size+1,0,none⟩) 1 1) [(key,val,0,false)]:=by
  have:=Y1 (f.alloc (.cells #[.int .u8 1] 5)) (ic [(key,val,0,false)]) 171 4 1 1 rfl (by omega) _ rfl;have e:(f.alloc (.cells #[.int .u8 1] 5)).heap.size =f.heap.size+1:=by simp
  rw[e]at this;exact this
 have ba:(f.alloc (.cells #[.int .u8 1] 5)).ownsRow f.heap.size 5 1 (.slice (some ⟨f.heap.size,0,none⟩) 1 1) 1 (Bb [1]):=Yy (xs:=Bb [1]) (spare:=[]) (BY f _ _) rfl (Av _) rfl (by unfold maxLen;omega) (Av _);have bw:=h_ (show Buf _ f.heap.size 5 (.slice (some ⟨f.heap.size,0,none⟩) 1 1) [1]from ba);have b2:=h_ bq;clear k2 bf Y bq ba;go_wp2_with fail;clear e0 Z e2 e3 c3;refine(J4 _ _ b2.out (by simp) (by intro y m;simp at m;subst m;have:=aq.out.1;simp only;omega)).mono ?_;rintro e w5 ⟨v5,rfl,⟨hE,_⟩,k5⟩;have K5:Keep [] f w5:=(((By [] f).alloc _).alloc _).trans k5;have bb:=(bw.out.alloc _).keep k5 (by simp);have a3:=hE.rd.src (P:=Tryz.prog) Ao;obtain⟨a5,n5,rfl⟩:=hE.slice;obtain⟨el,ay⟩:∃el,el=(BM [(key,val,0,false)]).length :=⟨_,rfl⟩;rw[←ay]at a3⊢;have bx:=h_ ay;have aa:=h_3 bb a3 K5;have bk:el≤300:=by have:=G.out.1;omega
 have bs:f.heap.size≤w5.heap.size:=K5.size;have ar:=h_2 bk bs;clear hE k5 K5 bb a3 ay bk bs
 go_wp2_with (first|(at_builtin;refine Bl _ rfl _ _ 81 81 rfl f.heap.size 5 i8 (.int .u8 0) 1 1 Ao b9 cc cd ce rfl (by decide) _ 1 (Bb [1]) rfl aa.out.1 _ el _ rfl aa.out.2.1 (by have:=ar.out.1;unfold maxLen;omega) (by have:=ar.out.1;omega) ar.out.2 ?_;intro v6 w6 a8 a9 _ b5)|fail)
 have av:Buf w6 f.heap.size 5 v6 (FR.put key val).body :=by have Z:(FR.put key val).body =[1]++BM [(key,val,0,false)]:=rfl;unfold Buf;rw[Z,Aj,DW,←bx.out];exact a8
 have au:Keep [] f w6:=aa.out.2.2.then (DJ a9) (fun x E a1=>by have:=(aa.out.1.lt x (Ae.1 E)).1;omega)
 have X:Keep [] w w6:=z.out.2.trans au;have M:=H.out.1.still X;have bc:=H.out.2.still X;have bj:=A.out.1.keep X (by simp) (by simp);have bo:∀q,v6.ownBlock=some q→q∉d::sb::DG lb vl l:=fun q u=>(H.out.2.still z.out.2).at_.newNot (A.out.1.keep z.out.2 (by simp) (by simp)) (av.lt q u).1
 have bd:=MZ M.blk bc bj A.out.2.1 ⟨I.out.1,by have:=I.out;omega⟩ (by have:=I.out;omega) (by have:=I.out;omega) A.out.2.2.1 A.out.2.2.2 av.rd ⟨G.out.1.1,G.out.1.2.1⟩ G.out.2.1 bo M.idx M.tail G.out.2.2 M.heads.1 M.heads.2;have bu:=h_ bd;have ap:=h_2 X (z.out.1.keep au (by simp));clear av au X M bc bj bo bd a8 a9 b5;refine bu.out.mono ?_;rintro e F ⟨rfl,ao,l',J,c',N,Q,af,al,K7,ac,ad,aj,O,K⟩
 have ax:∀q∈xb::d::sb::DG lb vl l,q<w.heap.size:=by
  intro q u;simp only[Ac]at u;rcases u with rfl|rfl|rfl|u
  ·exact H.out.1.idx.blk.lt
  ·exact A.out.1.dev.lt
  ·exact A.out.1.secs.lt
  ·exact(H.out.2.at_.lt q u).2
 have bg:=ap.out.2.keep K7 (fun g=>by have:=ax s g;rw[a6.out]at this;omega);have bp:=MX (O.still (By [] F).drew) C.out.2.2.2.2.2.2.1 key (by have:=aq.out.1;omega) o (by have:=I.out;omega) i x C.out.2.2.2.1 C.out.2.2.2.2.1 C.out.2.2.2.2.2.1 ⟨by have:=C.out.2.2.2.2.2.2.2.1;split<;>omega,C.out.2.2.2.2.2.2.2.2⟩;have b1:=h_ bp;have d1:F.cell? ⟨cb,1,none⟩=some (pr xb 0):=K.cell 1;have d2:F.cell? ⟨s,0,none⟩=some (.string key):=bg.cell 0;have b3:=h_9 N Q O K af al ac ad aj;have bz:=h_2 K7 ax;clear N Q O K af al ac ad aj K7 ax bg bp;go_wp2_with fail;refine BJ 7 (by kernel_rfl) (by kernel_rfl) ?_;simp only[List.take_succ_cons,List.take_zero,BB,Bj]
 repeat still_step
 refine Du ?_;clear d1 d2;go_wp2_with fail;refine b1.out.mono ?_;rintro e w8 ⟨rfl,ae,K8⟩;have b4:=h_2 ae K8;clear ae K8;go_wp2;go_ret;obtain⟨ae,K8⟩:=b4.out;have ab:Keep [xb,xg] F w8:=((By [] F).drew.mono (S':=[xb,xg]) (by simp)).trans K8;obtain⟨N,Q,O,K,af,al,ac,ad,aj⟩:=b3.out;obtain⟨V,ah,ag,az,ai,E,a2⟩:=C.out;have a0:=H.out.1;obtain⟨h1,h2,h3,h4,h5,ht⟩:=I.out
 have an:∀q∈[xb,xg],Ty F q 326∨Ty F q 330:=by
  intro q u;simp only[Ac,Am,AG]at u;rcases u with rfl|rfl
  ·exact .inl O.blk.ty
  ·exact .inr O.row.ty
 have b7:=N.keep ab (fun y m g=>by
  rcases an y g with h|h
  ·exact N.at_.apartT h (by decide) m
  ·exact N.at_.apartT h (by decide) m)
 have b8:=Q.keep ab (fun g=>by
  rcases an d g with h|h<;>exact h.ne Q.dev.ty (by decide) rfl) (fun g=>by
  rcases an sb g with h|h<;>exact h.ne Q.secs.ty (by decide) rfl)
 have b6:=K.keep ab (fun g=>by rcases an cb g with h|h<;>exact h.ne K.ty (by decide) rfl)
 have eR:(R++[(o,FR.put key val)]).map frRec=R.map frRec++[(o,(FR.put key val).body)]:=by simp[frRec]
 have cf:=ap.out.1.size;refine⟨rfl,ao,l',J,c',T.set i ⟨key,o,true,false⟩,_,o,⟨b6,⟨o+1,run,false,q+1,b7,by omega,by omega,by omega,by omega,fun r n=> ?_⟩,by rw[eR];exact al,by rw[eR];exact G.out.2.2, ?_,ae,V,fun k pos=> ?_,ag.symm,fun r n k v D=> ?_⟩,by split<;>omega,by rw[Bi],b8,af, ?_,fun y m=> ?_,ad,aj⟩
 ·rcases Ag.1 n with n|n
  ·have:=h5 r n;omega
  ·simp at n;subst n;simp
 ·rw[CD]
  refine⟨a0.up,by simp,fun a ha b hb=> ?_⟩;simp at hb;subst hb;exact h5 a ha
 ·rw[ah k pos,Js]
  show _↔Option.map Prod.fst (if k=key then some (o,val)else rpF R k)=some pos;by_cases D:k=key
  ·rw[Ay D];simp[D,eq_comm]
  ·rw[Aw D]
   simp only[D,false_and,false_or,ne_eq,not_false_iff,true_and];exact a0.says k pos
 ·rcases Ag.1 n with n|n
  ·exact a0.may r n k v D
  ·simp at n;subst n
   injection D with Z e2;subst Z e2;exact aq.out.2.1
 ·exact((ap.out.1.mono (S':=d::sb::Iw cb lb xb xg vl l) (by simp)).trans (bz.out.1.mono (S':=d::sb::Iw cb lb xb xg vl l) (fun y m _=>by
   simp only[Iw,Ac]at m⊢;rcases m with h|h|h|h<;>simp[h]))).trans (ab.mono (S':=d::sb::Iw cb lb xb xg vl l) (fun y m _=>by
   simp only[Iw,Ac,Am,AG]at m⊢;rcases m with h|h<;>simp[h]))
 ·simp only[Iw,Ac]at m⊢
  rcases m with h|h|h|h
  ·simp[h]
  ·simp[h]
  ·simp[h]
  ·rcases ac y h with h|h
   ·simp[h]
   ·exact .inr (by omega)
end
section
variable {w w':World}
theorem OV (k v:Str)(b:itMay k v 0 false=true):Fp (BM [(k,v,0,false)])=some [(k,v,0,false)]:=by
 refine Uj _ (fun h=> ?_);have:=Im k v b;rw[h]at this;have c:(FR.put k v).body.length =(BM [(k,v,0,false)]).length +1:=rfl
 have e:BM [(k,v,0,false)]=Dc (k,v,0,false):=by unfold BM;rw[Ay (by simp[Dj,b])];simp[CE]
 have a:(Dc (k,v,0,false)).length =(B8 [k,v]).length +(BL [(0:Int),gN false]).length :=by unfold Dc;rw[Aj]
 have d:=FG k v;rw[e]at h;rw[h]at a;simp only[List.length_nil]at a;omega
theorem RG (k v:Str)(M:itMay k v 0 false=true)(B:Value)(h:Rd w B (FR.put k v).body):Calls Tryz.prog 248 #[B] w fun e w'=>e=.returned (.tuple #[L7 k v 0 false,.bool true])∧Keep [] w w':=by
 obtain⟨i8,Y,ag,ac,ah⟩:=AU In;obtain⟨E,s⟩:∃E,E=BM [(k,v,0,false)]:=⟨_,rfl⟩;have K:(FR.put k v).body =1::E:=by rw[s];rfl
 have j:=Im k v M;have u:=Jt k v;have x:=OV k v M;rw[←s]at x;rw[K]at h j u;obtain⟨n,d⟩:∃n,n=(1::E).length :=⟨_,rfl⟩;have H:E.length+1=n:=by rw[d];rfl
 have Z:1≤n∧n≤300:=by rw[d];exact⟨j.1,j.2.1⟩
 have G:∀c∈E,c<256:=fun c V=>u c (Ap _ V)
 have t:=h;obtain⟨sb,so,cap,rfl,W,ab,I⟩:=h.at1 (by simp);have C:=I 0 (by simp);have D:w.cell? ⟨sb,so,none⟩=some (.int .u8 1):=by simpa[Bb,bc]using C
 rw[←d]at t W⊢;have q0:¬(n:Int)<1:=by omega
 obtain⟨o,f⟩:∃o,o=w.alloc (.cells #[.string {data:=#[]},.string {data:=#[]},.int .i64 0,.bool false] 171):=⟨_,rfl⟩;have m:Keep [] w o:=by rw[f];exact(By _ _).alloc _
 have J:Blk o w.heap.size (E8 ByteArray.empty ByteArray.empty 0 false) 171:=by rw[f];exact BY w _ _
 have c1:=m.cell1' D;rw[f]at c1;have N:=t.keep m (by simp);have r:=h_3 (rfl:0=0) J m;have A:=h_2 N d;have i:=h_4 x H Z G;clear h t j u x J m N C D I ab H G d s K;rw[f]at A r;clear f;go_enter Tryz.func248,Tryz.ntmps248
 go_wp2_with (refine Et _ _ _ _ _ _ _ 5 i8 Ao Y ac _ _ _ _ 1 rfl rfl rfl A.out.1 (by simp) ?_;intro P O aa)
 have y:Rd (w.alloc (.cells #[.string {data:=#[]},.string {data:=#[]},.int .i64 0,.bool false] 171)) P E:=O;have R:=h_ (NT (w:=(w.alloc (.cells #[.string {data:=#[]},.string {data:=#[]},.int .i64 0,.bool false] 171))) P E y i.out.2.2.2 (by have:=i.out.2;omega));obtain⟨_,a1,ad,rfl,_,_⟩:=id y;clear y O aa c1;refine R.out.mono ?_;rintro e p ⟨z,T⟩;rcases T with⟨l,v2,a,rfl,F⟩|⟨a,rfl⟩
 ·rw[i.out.1]at a
  injection a with a;subst a;obtain⟨g,ae,spare,rfl,_,X,b,_,_⟩:=E4 F (by simp);have L:=r.out.2.1.keep z (by simp);have d0:p.cell? ⟨g,0,none⟩=some (.string k):=b.cell 0;have d1:p.cell? ⟨g,1,none⟩=some (.string v):=b.cell 1;have d2:p.cell? ⟨g,2,none⟩=some (.int .i64 0):=b.cell 2;have d3:p.cell? ⟨g,3,none⟩=some (.bool false):=b.cell 3;have Q:=h_ L;have S:=h_ (r.out.2.2.trans z);clear L F b X z
  go_wp2_with (refine AS rfl _ _ _ rfl w.heap.size (E8 ByteArray.empty ByteArray.empty 0 false) (E8 k v 0 false) 171 rfl rfl Q.out rfl If (EJ _ _ _ _) ?_;intro w5 U k5)
  have kf:Keep [] w w5:=S.out.then k5 (fun q hq af=>by simp only[Ah]at hq;omega);refine Be (v:= .tuple #[L7 k v 0 false,.bool true]) ?_ rfl ⟨rfl,kf⟩;exact Co Tryz.results248 _ _ w.heap.size 171 _ (0,0) _ rfl U Em rfl If _ rfl
 ·rw[i.out.1]at a;cases a
end
theorem LogOk.sizesG {w:World}{B lb d frm segs j run q:Nat}{i:Bool}{vl:Value}{l:List Sg}{L:List Sec}(h:LogOk w B lb d frm segs j run i vl l L q)(a:segs≤199):(l.length≤1000∧∀s∈l,s.recs.length≤1000)∧(∀s∈l,∀r∈s.rs,r.ok)∧∀s∈l,Q9 s.recs:=by
 have e:∀s∈l,s.ps∈l.map Sg.ps:=fun s a=>AI.2 ⟨s,a,rfl⟩
 refine⟨⟨by have:=h.say.len;simp at this;omega,fun s a=> ?_⟩,fun s a=>(h.say.ok _ (e s a)).1,fun s a=> ?_⟩
 ·have f:=Ik s.rs (h.say.ok _ (e s a)).1
  have g:(encRs s.rs).length ≤378:=(h.say.ok _ (e s a)).2.1;have b:s.rs.length=s.recs.length:=by simp[Sg.rs]
  omega
 ·have f:=h.say.pos
  have g:s.rs.Sublist ((l.map Sg.ps).flatMap PS.rs):=by rw[←LH];have:=Ki Sg.rs (List.singleton_sublist.2 a);simpa using this
  have b:=f.sublist g;unfold Sg.rs at b;rw[List.pairwise_map]at b;exact b
theorem Tl {R:List Rcd}(h:R.Pairwise (fun a b=>a.1<b.1)){a b:Rcd}(k:a∈R)(m:b∈R)(n:a.1=b.1):a=b:=by
 obtain⟨i,f,rfl⟩:=Dq k;obtain⟨j,g,rfl⟩:=Dq m;rw[DB]at h;rcases Nat.lt_trichotomy i j with e|e|e
 ·have:=h i j f g e;omega
 ·subst e;rfl
 ·have:=h j i g f e;omega
section
variable {w w':World} {B cb lb xb xg d sb c frm segs t cnt used:Nat} {vl bv:Value} {l:List Sg} {L:List Sec} {T:Tab} {R:List (Nat×FR)}
theorem FlOk.read (h:FlOk w B cb lb xb xg d frm segs t vl l L T cnt used R)(i:20≤segs∧segs≤199)(E:t≤1000000)(pos:Nat)(r:FR)(g:(pos,r)∈R):
  Calls Tryz.prog 279 #[pr lb 0,.int .i64 (pos:Int)] w fun e w'=>∃v,e=.returned (.tuple #[v,.int .i64 0])∧Buf w' w.heap.size 5 v r.body∧Keep [] w w':=by
 obtain⟨G,run,y,q,a,z,A,C,D,k⟩:=h.log;obtain⟨j,F⟩:=h.tail.wholeG a.say i.1 h.few;rw[←LH]at j;have p:=k _ g;simp only at p;have b:=a.sizesG i.2;refine(UL a.at_ b.1 b.2.1 b.2.2 pos (by omega)).mono ?_;rintro e I ⟨n,x⟩
 have f:(pos,r.body)∈l.flatMap Sg.rs:=by rw[j];exact AI.2 ⟨(pos,r),g,rfl⟩
 rcases n with⟨v,H,rfl,u,s,m⟩|⟨rfl,o⟩
 ·have:=Tl (by have:=a.say.pos;rw[←LH]at this;exact this) u f s
  subst this;exact⟨v,rfl,m,x⟩
 ·exact absurd rfl (o _ f)
theorem NY (h:FlOk w B cb lb xb xg d frm segs t vl l L T cnt used R)(key:Str)(x:key.size≤1000)(y:rpF R key=none)(D:used<T.length):
  Calls Tryz.prog 258 #[pr cb 0,.string key] w fun e w'=>e=.returned (.tuple #[L7 ByteArray.empty ByteArray.empty 0 false,.bool false])∧Keep [] w w':=by
 have b:=h.find key;rw[y]at b;simp only at b
 obtain⟨s,_⟩:=Na b h.tab.pos (by obtain⟨p,z,A,_⟩:=h.tab.free D;exact⟨p,z,A⟩)
 obtain⟨a,f⟩:∃a,a=w.alloc (.cells #[.string {data:=#[]},.string {data:=#[]},.int .i64 0,.bool false] 171):=⟨_,rfl⟩;have g:Keep [] w a:=by rw[f];exact(By _ _).alloc _
 have j:Blk a w.heap.size (E8 ByteArray.empty ByteArray.empty 0 false) 171:=by rw[f];exact BY w _ _
 have i:=h.still g;have c1:a.cell? ⟨cb,1,none⟩=some (pr xb 0):=i.blk.cell 1;have o:=h_ (R9 i.idx key x s);rw[f]at c1 o j g;have m:=h_2 j g;clear h b s i j g f;go_enter Tryz.func258,Tryz.ntmps258;go_wp2_with fail;refine o.out.mono ?_;rintro e I ⟨rfl,k⟩;have r:=m.out.1.keep k (by simp);have n:=h_2 r (m.out.2.trans k);clear r k
 go_wp2_with (refine AS rfl _ _ _ rfl w.heap.size (E8 ByteArray.empty ByteArray.empty 0 false) (E8 ByteArray.empty ByteArray.empty 0 false) 171 rfl rfl n.out.1 rfl If (EJ _ _ _ _) ?_;intro G u E)
 have F:Keep [] w G:=n.out.2.then E (fun q C H=>by simp only[Ah]at C;omega);refine Be (v:= .tuple #[L7 ByteArray.empty ByteArray.empty 0 false,.bool false]) ?_ rfl ⟨rfl,F⟩;exact Co Tryz.results258 _ _ w.heap.size 171 _ (0,0) _ rfl u Em rfl If _ rfl
theorem NX (h:FlOk w B cb lb xb xg d frm segs t vl l L T cnt used R)(M:20≤segs∧segs≤199)(N:t≤1000000)(key:Str)(W:key.size≤1000)(pos:Nat)(v:Str)(K:rpF R key=some (pos,v)):
  Calls Tryz.prog 258 #[pr cb 0,.string key] w fun e w'=>e=.returned (.tuple #[L7 key v 0 false,.bool true])∧Keep [] w w':=by
 have o:=h.find key;rw[K]at o;simp only at o;obtain⟨i,x,I,O,P⟩:=o;have r:=N7 K;have J:=h.may _ r key v rfl;obtain⟨a,g⟩:∃a,a=w.alloc (.cells #[.string {data:=#[]},.string {data:=#[]},.int .i64 0,.bool false] 171):=⟨_,rfl⟩;have j:Keep [] w a:=by rw[g];exact(By _ _).alloc _
 have m:Blk a w.heap.size (E8 ByteArray.empty ByteArray.empty 0 false) 171:=by rw[g];exact BY w _ _
 have f:=h.still j;have c1:a.cell? ⟨cb,1,none⟩=some (pr xb 0):=f.blk.cell 1;have p:=R8 f.idx key W i x I O;rw[P]at p;obtain⟨C,y⟩:=i_2 p f;rw[g]at c1 C m j y;have z:=h_2 m j;have b:=h_4 r J M N;clear h I f m j g p r J O P M N;go_enter Tryz.func258,Tryz.ntmps258;go_wp2_with fail;refine C.out.mono ?_;rintro e w2 ⟨rfl,s⟩;have k:=y.out.still s;have c2:w2.cell? ⟨cb,0,none⟩=some (pr lb 0):=k.blk.cell 0;have U:=h_ (k.read b.out.2.2.1 b.out.2.2.2 pos _ b.out.1);have S:=h_ s;clear k s c1;go_wp2_with fail;refine U.out.mono ?_;rintro e w3 ⟨bv,rfl,n,Q⟩;obtain⟨ba,bc,rfl⟩:=n.slice;have E:=h_ (RG key v b.out.2.1 _ n.rd);have D:=h_ (S.out.trans Q);obtain⟨F,G⟩:∃F,F=(FR.put key v).body.length :=⟨_,rfl⟩;rw[←G]at E⊢;clear n Q c2 G;go_wp2_with fail;refine E.out.mono ?_;rintro e w4 ⟨rfl,u⟩;have H:=z.out.1.keep (D.out.trans u) (by simp);have A:=h_2 H (z.out.2.trans (D.out.trans u));clear H u
 go_wp2_with (refine AS rfl _ _ _ rfl w.heap.size (E8 ByteArray.empty ByteArray.empty 0 false) (E8 key v 0 false) 171 rfl rfl A.out.1 rfl If (EJ _ _ _ _) ?_;intro w5 V Y)
 have Z:Keep [] w w5:=A.out.2.then Y (fun q X aa=>by simp only[Ah]at X;omega);refine Be (v:= .tuple #[L7 key v 0 false,.bool true]) ?_ rfl ⟨rfl,Z⟩;exact Co Tryz.results258 _ _ w.heap.size 171 _ (0,0) _ rfl V Em rfl If _ rfl
end
def recOf (a:JMk):Rcd:=(a.pos,Ga (zz (a.seq:Int))++a.key)
def jF (jb lb:Nat)(v vl:Value)(l:List Sg):List Nat:=jb::(v.ownBlock.toList++DG lb vl l)
structure JOk (w:World) (B jb lb d frm t:Nat) (vl v:Value) (l:List Sg) (L:List Sec) (M:List JMk):Prop where
 at_:JAt w B jb lb v M
 new:B≤jb
 log:∃nx run fr q,LogOk w B lb d frm 20 nx run fr vl l L q∧1≤nx∧nx≤t∧run≤t∧q≤t
 tail:Tail 20 (l.map Sg.ps) (M.map recOf)
 few:encN (M.map recOf)≤2225
 seq:∀i a,M[i]?=some a→a.seq=i+1
theorem LK:∀l:List Rcd,8*l.length≤encN l
 |[]=>AA _
 |r::l=>by have:=LK l;rw[FU,List.length_cons];omega
section
variable {w w':World} {B jb lb d sb c frm t:Nat} {vl v:Value} {l:List Sg} {L:List Sec} {M:List JMk}
theorem JOk.keep {S:List Nat}(h:JOk w B jb lb d frm t vl v l L M)(k:Keep S w w')(a:∀x∈jF jb lb v vl l,x∉S):JOk w' B jb lb d frm t vl v l L M:=by obtain⟨p,run,e,q,m,f,g,i,j⟩:=h.log;refine⟨h.at_.keep k (a jb (by simp[jF])) (fun b n=>a b (by simp[jF,n])),h.new,⟨p,run,e,q,m.keep k (fun x o=>a x (by simp[jF,o])),f,g,i,j⟩,h.tail,h.few,h.seq⟩
theorem JOk.still (h:JOk w B jb lb d frm t vl v l L M)(k:Keep [] w w'):JOk w' B jb lb d frm t vl v l L M:=h.keep k (by simp)
theorem JOk.later {t':Nat}(h:JOk w B jb lb d frm t vl v l L M)(k:t≤t'):JOk w B jb lb d frm t' vl v l L M:=by obtain⟨f,run,a,q,e,b,g,i,j⟩:=h.log;exact⟨h.at_,h.new,⟨f,run,a,q,e,b,by omega,by omega,by omega⟩,h.tail,h.few,h.seq⟩
theorem JOk.nd (h:JOk w B jb lb d frm t vl v l L M)(b:IsDev w d sb L c):jb∉d::sb::DG lb vl l∧(∀q,v.ownBlock=some q→q∉d::sb::DG lb vl l∧q≠jb):=by
 obtain⟨m,run,k,q,j,_⟩:=h.log;have f:=h.at_.blk.ty;have g:=h.at_.row.ty;refine⟨fun a=> ?_,fun q i=>⟨fun a=> ?_,fun e=> ?_⟩⟩
 ·simp only[Ac]at a
  rcases a with e|e|e
  ·exact f.ne b.dev.ty (by decide) e
  ·exact f.ne b.secs.ty (by decide) e
  ·exact j.at_.apartT f (by decide) e
 ·simp only[Ac]at a
  rcases a with e|e|e
  ·exact(g q i).ne b.dev.ty (by decide) e
  ·exact(g q i).ne b.secs.ty (by decide) e
  ·exact j.at_.apartT (g q i) (by decide) e
 ·exact(g q i).ne f (by decide) e
theorem JOk.lt (h:JOk w B jb lb d frm t vl v l L M):∀x∈jF jb lb v vl l,B≤x∧x<w.heap.size:=by
 intro x a;obtain⟨f,run,e,q,b,_⟩:=h.log;unfold jF at a;rcases Ac.1 a with rfl|a
 ·exact⟨h.new,h.at_.blk.lt⟩
 ·rcases Ag.1 a with a|a
  ·exact h.at_.row.lt x (Ae.1 a)
  ·exact b.at_.lt x a
theorem JOk.tys (h:JOk w B jb lb d frm t vl v l L M):∀x∈jF jb lb v vl l,Ty w x 319∨Ty w x 321∨Ty w x 333∨Ty w x 359∨Ty w x 358∨Ty w x 353∨Ty w x 5:=by
 intro x a;obtain⟨f,run,e,q,b,_⟩:=h.log;unfold jF at a;rcases Ac.1 a with rfl|a
 ·exact .inl h.at_.blk.ty
 ·rcases Ag.1 a with a|a
  ·exact .inr (.inl (h.at_.row.ty x (Ae.1 a)))
  ·exact .inr (.inr (b.at_.ty x a))
theorem JOk.notT {T:TypeId}{b:Nat}(h:JOk w B jb lb d frm t vl v l L M)(a:Ty w b T)(e:T∉ [319,321,333,359,358,353,5]):b∉jF jb lb v vl l:=by
 intro f;simp only[Ac,Am,AG,not_or]at e;obtain⟨g,i,j,k,m,n,o⟩:=e;rcases h.tys b f with t|t|t|t|t|t|t
 ·exact a.ne t g rfl
 ·exact a.ne t i rfl
 ·exact a.ne t j rfl
 ·exact a.ne t k rfl
 ·exact a.ne t m rfl
 ·exact a.ne t n rfl
 ·exact a.ne t o rfl
end
def kb (k:ByteArray):List Nat:=sb k
theorem srcMk {P:Program}{t:TypeId}{e:TypeId}(w:World)(b:Nat)(n:Int)(k:ByteArray)(p:Int)(c:Blk w b [.int .i64 n,.string k,.int .i64 p] e)(f:P.underlying t=some (.slice e)):
  Src P 3 t (.slice (some ⟨b,0,none⟩) 1 1) 1 [.int .i64 n,.string k,.int .i64 p] w:=by
 refine CC _ f ⟨b,0,none⟩ 1 1 [.int .i64 n,.string k,.int .i64 p] rfl (fun j x d=> ?_) (fun u a=> ?_)
 ·rw[Gq,AP,c.cell,d]
 ·simp only[Ac,Am,AG]at a
  rcases a with rfl|rfl|rfl<;>rfl
def JDev (L:List Sec)(frm t:Nat)(M:List JMk):Prop:=
 ∃S b run q,DevOk L frm 20 run S∧SOk 20 S b q∧(1≤b∧b≤t∧run≤t∧q≤t)∧Tail 20 S (M.map recOf)∧encN (M.map recOf)≤2225∧∀i a,M[i]?=some a→a.seq=i+1
theorem JOk.jdev {w:World}{B c e d frm t:Nat}{g v:Value}{l:List Sg}{L:List Sec}{M:List JMk}(h:JOk w B c e d frm t g v l L M):JDev L frm t M:=by obtain⟨f,run,i,q,a,b⟩:=h.log;exact⟨_,f,run,q,a.dev,a.say,b,h.tail,h.few,h.seq⟩
theorem JDev.congr {L c:List Sec}{frm t t':Nat}{M:List JMk}(h:JDev L frm t M)(g:∀i,frm≤i→i<frm+160→nowF c i=nowF L i)(l:t≤t'):JDev c frm t' M:=by obtain⟨S,j,run,q,d,e,k,f⟩:=h;exact⟨S,j,run,q,d.congr (fun i a b=>g i a (by omega)) (by decide),e,by omega,f⟩
theorem JDev.fresh {L:List Sec}{frm:Nat}(c:∀i,frm≤i→i<frm+160→nowF L i=List.replicate 64 0):JDev L frm 1 []:=
 ⟨[],1,0,0,DevOk.fresh (fun i a b=>c i a (by omega)) (by decide),SOk.fresh 20 0,by omega,Tail.nil 20,by decide,by simp⟩
theorem JDev.recs {L:List Sec}{frm t:Nat}{M:List JMk}(h:JDev L frm t M):∀a∈M,(∀c∈(recOf a).2,c<256)∧(recOf a).2.length ≤300:=by
 obtain⟨S,n,run,q,k,b,l,d,e,m⟩:=h;intro a f;have g:=(d.whole b e).1;have:recOf a∈S.flatMap PS.rs:=by rw[g];exact AI.2 ⟨a,f,rfl⟩
 obtain⟨s,j,i⟩:=Bm.1 this;have:=(b.ok s j).1 _ i;exact⟨this.2.2.2,this.2.1⟩
theorem bcut {c:World}{d:Option Addr}{a e b:Nat}{f:Value}{body key:List Nat}(h:∀W:World,Rv W 1 (.slice d a e) a (Bb body)→Rv W 1 f (a-b) ((Bb body).drop b))(j:Buf c 0 5 (.slice d a e) body)(k:a=body.length)(l:body.drop b=key)(m:a-b=key.length):Rd c f key:=by
 have i:Rv c 1 (.slice d a e) a (Bb body):=by have:=j.rd;unfold Rd at this;rw[←k]at this;exact this
 have g:=h c i;unfold Rd;rw[←m,←l];unfold Bb at*;rw[←Dw]at g;exact g
def opnJ14 (q:World)(B d b p pos i j o s e g:Nat)(n f:Option Addr)(r:Value)(body:List Nat)(A:List JMk)(a:JMk)(l:Nat→Bool)(x:Nat→Value)(c:World):Prop:=
 ∃k m h,(c.cell? ⟨d,0,none⟩=some (.int .i64 (pos:Int)))∧
 (c.cell? ⟨d,1,none⟩=some (.slice n j o))∧
 (l 16=false→Buf c 0 5 (.slice n j o) body)∧
 (l 19=false→Blk c b (jnC p (.slice f i g)) 319)∧
 (l 19=true→Blk c b (jnC p (.slice k (i+1) m)) 319)∧
 (l 16=false→MRow c B (.slice f i g) A)∧
 (l 16=true→MRow c B (.slice k (i+1) m) (A++[a]))∧
 (l 19=true→l 16=true)∧
 (l 16=true→l 4=true∧l 10=true)∧
 (Keep (b::(.slice f i g:Value).ownBlock.toList) q c)∧
 (l 11=true→x 11=.agg #[.int .i64 (e:Int),.string (toStr a.key)]∧Hid (l 10=true))∧
 (l 14=true→x 14=.agg #[.int .i64 (e:Int),.string (toStr a.key),.int .i64 (pos:Int)]∧Hid (l 10=true))∧
 (l 15=true→x 15=.slice (some ⟨h,0,none⟩) 1 1∧(l 16=false→Blk c h [.int .i64 (e:Int),.string (toStr a.key),.int .i64 (pos:Int)] 321∧q.heap.size≤h)∧Hid (l 10=true))∧
 SlV l x 0 [some (pr b 0),some (pr b 0),some (pr b 0),some (pr b 1),some (.slice f i g),some (.int .i64 (e:Int)),some (pr d 1),some (.slice n j o),some (.int .i64 (s:Int)),some r,some (.string (toStr a.key)),none,some (pr d 0),some (.int .i64 (pos:Int)),none,none,some (.slice k (i+1) m),some (pr b 0),some (pr b 1),none]
theorem QD {w:World}{d sb c frm t:Nat}{L:List Sec}{M:List JMk}(C:IsDev w d sb L c)(h:JDev L frm t M)(ht:t≤1000000000)(ad:frm+160≤L.length):
  Calls Tryz.prog 209 #[pr d 0,.int .i64 (frm:Int),.int .i64 20] w fun e B=>∃j lb vl v l,e=.returned (.tuple #[pr j 0,.int .i64 0])∧JOk B w.heap.size j lb d frm (t+70) vl v l L M∧Keep [] w B:=by
 obtain⟨i8,d0,eh,d5,ei⟩:=AU In;obtain⟨iM,d1,d6,d7,d8⟩:=AU Tryz.infoMk;obtain⟨dj,eb⟩:=i_2 h.recs h;obtain⟨S,nx,run,q,h1,h2,h3,h4,h5,h6⟩:=h;have hw:=h4.whole h2 h5;have HO:=h_ (Rl C h1 h2 h3.1 (by omega) (by omega) ⟨by decide,by decide⟩ (by omega) hw.2);have cd:=h_ hw;have b9:=h_ (h2.next h3.1);obtain⟨HB,HT,dp,c5,bk⟩:=i_5 h3 ht h4 h5 h6
 have d3:M.length≤278:=by have h1:=LK (M.map recOf);rw[AD]at h1;omega
 obtain⟨m,R⟩:∃m,m=M.length:=⟨_,rfl⟩;rw[←R]at d3;have HM:=h_ R;clear C h1 h2 h3 h4 h5 h6 hw ht ad R;go_enter Tryz.func209,Tryz.ntmps209;go_wp2_with fail;refine HO.out.mono ?_;rintro e w1 ⟨lb,vl,l,run',rfl,hL,hS,hr,f⟩;obtain⟨HL,HS,HR,HK⟩:=i_4 hL hS hr f;clear hL hS hr f HO;go_upto_region 9 with fail;have hb:=BY w1 (jnC lb (.slice none 0 0)) 319;have K:=(By [] w1).alloc (.cells (jnC lb (.slice none 0 0)).toArray 319);unfold jnC at hb K;simp only[List.toArray]at hb K;obtain⟨j,br⟩:∃b,b=w1.heap.size:=⟨_,rfl⟩;rw[←br]at hb⊢;have c7:=h_ br;clear br;generalize w1.alloc (.cells #[pr lb 0,.slice none 0 0] 319)=w2 at*;obtain⟨cz,b4⟩:=i_2 hb K
 have b6:Hid (l.length≤12∧l.flatMap Sg.rs=M.map recOf):=h_ (by
  have e1:l.length=S.length:=by rw[←HS.out,AD]
  refine⟨by have:=cd.out.2;omega, ?_⟩;rw[LH,HS.out];exact cd.out.1)
 have b0:=h_ (Mg (HL.out.still K).at_ ⟨by have:=b6.out.1;omega,fun s hs=>by
  have h1:=(HL.out.say.ok s.ps (AI.2 ⟨s,hs,rfl⟩));have h2:=Ik s.rs h1.1;have h3:(encRs s.rs).length ≤378:=h1.2.1;have h4:s.rs.length=s.recs.length:=by simp[Sg.rs]
  omega⟩ (fun s hs r hr=>(HL.out.say.ok s.ps (AI.2 ⟨s,hs,rfl⟩)).1 r hr))
 clear hb K;go_wp2_with fail;refine b0.out.mono ?_;rintro e w3 ⟨va,La,rfl,bp,ax,aw⟩;rw[b6.out.2]at ax
 have bs:La.length=m:=by have:=A3 List.length ax;rw[AD,AD]at this;rw[this,HM.out]
 obtain⟨aa,ac,rfl⟩:=bp.slice;obtain⟨ca,dd,bg⟩:=i_3 bp ax bs;rw[bs];have aq:Hid (JAt w3 w.heap.size j lb (.slice none 0 0) []∧LogOk w3 w.heap.size lb d frm 20 (G0 S) run' true vl l L q∧Keep [] w w3):=h_ ⟨⟨cz.out.keep aw (by simp),AY _ _ _ _⟩,(HL.out.still b4.out).still aw,(HK.out.trans b4.out).trans aw⟩;have b1:Hid (w.heap.size≤j):=h_ (by rw[c7.out];exact HK.out.size);clear bp ax aw bs b0;go_wp2
 go_loopw [38] (fun ea wr=>∃(i:Nat) (v:Value),ea=.int .i64 (i:Int)∧i≤m∧JAt wr w.heap.size j lb v (M.take i)∧LogOk wr w.heap.size lb d frm 20 (G0 S) run' true vl l L q∧RRow wr w2.heap.size (.slice aa La.length ac) La∧Keep [] w wr) (fun x _=>m+1-(intOf x).toNat)
 case atStart=>exact⟨0,_,rfl,AA _,by rw[List.take_zero];exact aq.out.1,aq.out.2.1,ca.out,aq.out.2.2⟩
 case round=>
 obtain⟨i,v,rfl,Y,hJ,ck,cn,f⟩:=hrel;obtain⟨HJ,b5,ao,be⟩:=i_4 hJ ck cn f;clear hJ ck cn f ca aq;by_cases ad:i<m
 ·have q0:decide ((i:Int)<(m:Int))=true:=An (by omega)
  obtain⟨a,ha⟩:∃a,M[i]?=some a:=⟨_,Ad (by rw[←HM.out];exact ad)⟩;obtain⟨y,hy⟩:∃y,La[i]?=some y:=⟨_,Ad (by rw[bg.out];exact ad)⟩;obtain⟨g,gc,hg,k0,k1⟩:=ao.out.at_ i (by rw[bg.out];exact ad);injection hg with hg1 hg2 hg3;subst hg1 hg3;have cu:La[i]'(by rw[bg.out];exact ad)=y:=(Ai.1 hy).2;rw[cu]at k0 k1
  have bc:y.r=recOf a:=by have:=A3 (fun l=>l[i]?) dd.out;simp only[AN,hy,ha,Option.map_some]at this;injection this
  rw[bc]at k0;obtain⟨ya,ae,bu⟩:=((ao.out.ok y (Aq hy)).1).slice
  have ak:Buf wr 0 5 y.v (recOf a).2 :=by have:=((ao.out.ok y (Aq hy)).1).mono (AA _);rw[bc]at this;exact this
  rw[bc]at bu;rw[bu]at k1 ak;have bb:=dj.out a (Aq ha);have ah:=bk.out i a ha;have cv:=DO 10 (zz (a.seq:Int)) (by have:=IJ (a.seq:Int) (by omega) (by omega);omega) (by omega);obtain⟨nl,al⟩:∃nl,nl=(Ga (zz (a.seq:Int))).length :=⟨_,rfl⟩;have ay:(recOf a).2.length =nl+a.key.length:=by rw[al];unfold recOf;rw[Aj]
  have bq:(recOf a).2.drop nl=a.key:=by rw[al];unfold recOf;rw[EN]
  have cq:get (recOf a).2 =((a.seq:Int),nl,0):=by rw[al];exact NU _ (by omega) (by omega) _
  obtain⟨pos,bt⟩:∃p,p=a.pos:=⟨_,rfl⟩;rw[show(recOf a).1 =pos from bt.symm]at k0;have cp:(recOf a).2.length ≤300:=bb.2;obtain⟨body,ba⟩:∃b,b=(recOf a).2 :=⟨_,rfl⟩;rw[←ba]at k1 ak ay bq cp;obtain⟨bl,az⟩:∃bl,bl=body.length:=⟨_,rfl⟩;rw[←az]at k1 ay cp;have b2:=h_ az;obtain⟨S9,cf,co,dy⟩:=Fi (P:=Tryz.prog) 81 5 i8 Ao d0 d5 ya bl ae (Bb body) (nl:Int) nl rfl (by omega);obtain⟨c3,dl,c4,c1⟩:=i_4 cf co bq ay;have c8:Hid (∀c∈a.key,c<256):=h_ (fun c hc=>bb.1 c (by unfold recOf;exact AQ _ hc));obtain⟨dr,HA,ap⟩:=i_3 ak ha ah;have ec:Hid (nl≤10):=h_ (by rw[al];exact cv);have di:=h_ bt;obtain⟨va,vc,rfl⟩:=HJ.out.row.slice;have ar:Hid ((M.take i).length =i):=h_ (by rw[Az,←HM.out];omega);rw[ar.out]at HJ
  have b3:Hid (∀W,Keep [] wr W→Calls Tryz.prog 184 #[.slice ya bl ae] W (WP W ((a.seq:Int),nl,0))):=h_ (fun W k=>by have h:=(ak.keep k (by simp)).rd;rw[←az]at h;exact G6 (w:=W) _ _ h (by rw[ba];exact bb.1) (by omega) _ (by rw[ba];exact cq.symm))
  clear hg2 bu cu bc hy ak bb ah cv al ay bq cq bt ba az cf co dy ha;obtain⟨sq,ah⟩:∃sq,sq=a.seq:=⟨_,rfl⟩;rw[←ah]at b3;rw[←ah]at ap;have dm:=h_ ah;clear ah;go_upto_region 12 with fail;have aj:=BY wr [.int .i64 (pos:Int),.slice ya bl ae] 353;have KA:=(By [] wr).alloc (.cells #[.int .i64 (pos:Int),.slice ya bl ae] 353);obtain⟨rb,cr⟩:∃rb,rb=wr.heap.size:=⟨_,rfl⟩;rw[←cr]at aj⊢;simp only[List.toArray]at aj;clear cr;generalize wr.alloc (.cells #[.int .i64 (pos:Int),.slice ya bl ae] 353)=wa at*;obtain⟨bi,af⟩:=i_2 aj KA;have bv:wa.cell? ⟨rb,1,none⟩=some (.slice ya bl ae):=aj.cell 1;clear aj KA k0 k1;go_wp2_with fail;refine(b3.out wa af.out).mono ?_;rintro e wq ⟨rfl,rfl⟩;have d9:wa.cell? ⟨j,1,none⟩=some (.slice va i vc):=(HJ.out.still af.out).blk.cell 1;have ag:=h_ (HJ.out.still af.out);have cc:Hid (∀W,Keep [] wa W→Calls Tryz.prog 214 #[pr j 0] W fun e B=>e=.returned (.int .i64 (IB (M.take i):Int))∧Keep [] W B):=h_ (fun W k=>XT (ag.out.still k) (by rw[ar.out];omega))
  have df:Hid (0<i→IB (M.take i)=i):=h_ (fun h0=>by
   unfold IB;obtain⟨z,hz⟩:∃z,M[i-1]?=some z:=⟨_,Ad (by rw[←HM.out];omega)⟩
   have:(M.take i).getLast? =some z:=by rw[Ci,ar.out,BP,Ay (by omega),hz]
   rw[this];have:=bk.out (i-1) z hz;show z.seq=i;omega)
  have b7:=h_ ad;clear ad q0;go_upto_region 13 with fail;go_cut [65] (fun s wc=>s=.bool true∧Keep [] wa wc)
  case first=>
   by_cases h0:i=0
   ·have q1:decide ((i:Int)=0)=true:=An (by omega)
    have q2:decide (i=0)=true:=An h0;go_wp2_with fail;go_meet;exact⟨rfl,By _ _⟩
   ·have q1:decide ((i:Int)=0)=false:=Ak (by omega)
    have q2:decide (i=0)=false:=Ak h0;have dg:=h_ (df.out (by omega));rw[dg.out]at cc;have q3:decide ((sq:Int)=(i:Int)+1)=true:=An (by have:=ap.out;omega);have q4:decide (sq=i+1)=true:=An ap.out;have ee:¬(i:Int)=0:=by omega
    have cs:(sq:Int)=(i:Int)+1:=by have:=ap.out;omega
    have dn:=h_ cs;clear cs;go_wp2_with fail;refine(cc.out wa (By _ _)).mono ?_;rintro e wz ⟨rfl,cj⟩;have da:=h_ cj;clear cj;go_wp2_with fail;go_meet;exact⟨by rw[dn.out,beq_self_eq_true,Bool.or_true],da.out⟩
  case rest=>
  obtain⟨rfl,ci⟩:=hcut;have N:=h_ ci;clear ci d9;generalize wc=wd at*;have cx:wd.cell? ⟨rb,0,none⟩=some (.int .i64 (pos:Int)):=N.out.cell1 (bi.out.cell 0) (by simp);have bv:wd.cell? ⟨rb,1,none⟩=some (.slice ya bl ae):=N.out.cell1 (bi.out.cell 1) (by simp);have cg:=(ag.out.still N.out).blk;have bo:=(ag.out.still N.out).row;have bj:=h_ (bi.out.keep N.out (by simp))
  have ds:Hid (Buf wd 0 5 (.slice ya bl ae) body):=h_ (by have h:=(dr.out.keep af.out (by simp)).keep N.out (by simp);rw[←b2.out]at h;exact h)
  have ed:Hid (rb<wd.heap.size):=h_ bj.out.lt
  have dh:Hid (mkC a=[.int .i64 (sq:Int),.string (toStr a.key),.int .i64 (pos:Int)]):=h_ (by rw[dm.out,di.out];rfl)
  obtain⟨A,av⟩:∃A,A=M.take i:=⟨_,rfl⟩;rw[←av]at bo;have b8:Hid (A.length=i):=h_ (by rw[av,ar.out]);have cy:=h_ av;have c2:Hid (w.heap.size≤wd.heap.size):=h_ (AJ (AJ be.out.size af.out.size) N.out.size);have HI:Hid (i≤278):=h_ (by omega);clear av;go_upto_region 14 with fail;refine wI (opnJ14 wd w.heap.size rb j lb pos i bl ae nl sq vc ya va S9 body A a) ?aS (.s ?a0<|.s ?a1<|.s ?a2<|.s ?a3<|.s ?a4<|.s ?a5<|.s ?a6<|.s ?a7<|.s ?a8<|.s ?a9<|.s ?a10<|.s ?a11<|.s ?a12<|.s ?a13<|.s ?a14<|.s ?a15<|.s ?a16<|.s ?a17<|.s ?a18<|.s ?a19<|.n) 20 ?aF
  case aS=>intro x;exact⟨none,0,0,cx,bv,fun _=>ds.out.keep (By [] _).drew (by simp),fun _=>cg.drew,fun h=>absurd h (by decide),fun _=>bo.keep (By [] _).drew (by simp),fun h=>absurd h (by decide),fun h=>absurd h (by decide),fun h=>absurd h (by decide),(By _ _).drew,fun h=>absurd h (by decide),fun h=>absurd h (by decide),fun h=>absurd h (by decide),Yr⟩
  case a14=>
   intro l x B hJ Y C;obtain⟨I,J,T,G,H,X,o,U,V,F,O,D,f,Q,E,u,vS⟩:=hJ;have ce:=Q (C.at rfl);have dt:=vS.a 13 (C.at rfl) rfl;refine Oq.of (b:= ?bA14) ?eA14 ?_
   case eA14=>simp only[Al,Act.put,A8,A7,A6,ce.1,dt];rfl
   intro K' ab;go_simp;exact ab.go _ rfl ⟨I,J,T,G,H,X,o,U,V,F,O,D,f,Q,fun _=>⟨rfl,ce.2⟩,u,vS.s rfl⟩
  case a15=>
   intro l x B hJ Y C;obtain⟨I,J,T,G,H,X,o,U,V,F,O,D,f,Q,E,u,vS⟩:=hJ;have du:=E (C.at rfl);have db:Hid (l 14=true):=h_ (C.at rfl);refine Oq.of (b:= ?bA15) ?eA15 ?_
   case eA15=>simp only[Al,Act.put,A8,A7,A6,du.1];rfl
   intro K' ab;go_simp;exact ab.go _ rfl ⟨I,J,B.heap.size,((By [] _).alloc _).cell1 G (by simp),((By [] _).alloc _).cell1 H (by simp),fun h=>(X h).alloc _,fun h=>(o h).alloc _,fun h=>(U h).alloc _,fun h=>(V h).keep ((By [] _).alloc _) (by simp),fun h=>(F h).keep ((By [] _).alloc _) (by simp),O,D,f.alloc _,Q,E,fun _=>⟨rfl,fun _=>⟨BY _ [.int .i64 (sq:Int),.string (toStr a.key),.int .i64 (pos:Int)] _,f.size⟩,(E db.out).2⟩,vS.s rfl⟩
  case a16=>
   intro l x B hJ Y C;obtain⟨I,J,T,G,H,X,o,U,V,F,O,D,f,Q,E,u,vS⟩:=hJ;have e4:=vS.a 4 (C.at rfl) rfl;have bm:=u (C.at rfl);have dc:Hid (l 4=true):=h_ (C.at rfl);have bf:=bm.2.2;have au:l 19=false:=by cases Z:l 19 with|false=>rfl|true=>exact absurd (O Z) (by simp[Y])
   obtain⟨dz,ef⟩:=bm.2.1 Y;have cm:=V Y;have bn:=(o au).ty;have d2:j∉(.slice va i vc:Value).ownBlock.toList :=fun R=>bn.ne (cm.ty j (Ae.1 R)) (by decide) rfl
   have am:rb∉(.slice va i vc:Value).ownBlock.toList :=fun R=>bj.out.ty.ne ((ag.out.still N.out).row.ty rb (Ae.1 R)) (by decide) rfl
   refine Oq.of (b:= ?bA16) ?eA16 ?_
   case eA16=>simp only[Al,Act.put,A8,A7,A6,e4,bm.1];rfl
   intro K' ab;refine BO _ rfl (.tmp 70) (.tmp 81) 317 317 rfl w.heap.size 321 iM _ 3 32 Tryz.underlying317 d1 d6 d7 d8 rfl (by decide) (.slice va i vc) i (P1 A) rfl (by have Z:=cm;unfold MRow at Z;rw[b8.out]at Z;exact Z) _ 1 [.int .i64 (sq:Int),.string (toStr a.key),.int .i64 (pos:Int)] rfl (srcMk B T _ _ _ dz Tryz.underlying317) (by unfold maxLen;have:=HI.out;omega) (by have:=HI.out;omega) (AJ c2.out f.size) ?_;intro v2 w2 g2 g3 _ g4;obtain⟨bw,bx,rfl⟩:=A4 g2;have k2:Keep (.slice va i vc:Value).ownBlock.toList B w2:=DJ g3;have dx:MRow w2 w.heap.size (.slice bw (i+1) bx) (A++[a]):=MRow.app _ (by rw[b8.out,dh.out];exact g2);exact ab.go (.slice bw (i+1) bx) rfl ⟨bw,bx,T,k2.cell1 G am,k2.cell1 H am,fun h=>Bool.noConfusion (show true=false from h),fun h=>(o h).keep k2 d2,fun h=>absurd (au.symm.trans h) (by decide),fun h=>Bool.noConfusion (show true=false from h),fun _=>dx,fun _=>rfl,fun _=>⟨dc.out,bf.out⟩,f.trans (k2.mono (fun q Z _=>Ap _ Z)),Q,E,fun h=>⟨(u h).1,fun bz=>Bool.noConfusion (show true=false from bz),(u h).2.2⟩,vS.r⟩
  case aF=>
   intro l x w3 hJ hl;obtain⟨I,J,T,G,H,X,o,U,V,F,O,D,f,Q,E,u,vS⟩:=hJ;have ch:=U (hl 19 (by decide));have cl:=F (hl 16 (by decide));have c6:Hid (JAt w3 w.heap.size j lb (.slice I (i+1) J) (A++[a])):=h_ ⟨ch,cl⟩;have bd:=h_ f;simp only[Al,Act.put,A8,A7,A6];have dq:Hid (M.take (i+1)=A++[a]):=h_ (by rw[cy.out,BH,HA.out];rfl);have ai:Hid (Ty wd j 319∧(∀q,(Value.slice va i vc).ownBlock =some q→Ty wd q 321)):=h_ ⟨(ag.out.still N.out).blk.ty,(ag.out.still N.out).row.ty⟩;have bh:=h_ ((b5.out.still af.out).still N.out);have cb:=h_ ((ao.out.still af.out).still N.out)
   have de:=h_ (bh.out.keep bd.out (fun x hx R=>by
    rcases Ac.1 R with e|e
    ·subst e;exact bh.out.at_.apartT ai.out.1 (by decide) hx
    ·exact bh.out.at_.apartT (ai.out.2 x (Ae.1 e)) (by decide) hx))
   have dk:=h_ (cb.out.keep bd.out (fun x hx R=>by
    have ct:=cb.out.ty x hx;rcases Ac.1 R with e|e
    ·subst e;rcases ct with h|h;exact ai.out.1.ne h (by decide) rfl;exact ai.out.1.ne h (by decide) rfl
    ·have cw:=ai.out.2 x (Ae.1 e);rcases ct with h|h;exact cw.ne h (by decide) rfl;exact cw.ne h (by decide) rfl))
   have c9:Hid (Keep [] w w3):=h_ (((be.out.trans af.out).trans N.out).then bd.out (fun x hx ad=>by
    rcases Ac.1 hx with e|e
    ·subst e;have:=b1.out;omega
    ·have:=(HJ.out.row.lt x (Ae.1 e)).1;omega))
   clear Q E u cx bv G H o U V F O D f hl ch cl cg bo X vS;generalize w3=wb at*;go_wp2
   go_roundw
   case rel=>exact⟨i+1,_,by go_num,by have:=b7.out;omega,by rw[dq.out];exact c6.out,de.out,dk.out,c9.out⟩
   case measure=>simp only[intOf];have:=b7.out;omega
  all_goals
   intro l x B hJ Y C;obtain⟨I,J,T,G,H,X,o,U,V,F,O,D,f,Q,E,u,vS⟩:=hJ;have hW:=vS;have hD:=C;simp only[SlV]at hW
   try simp[BD,Region.binds]at hD
   refine Oq.of (by simp only[Al,Act.put,A8,A7,A6,hD,hW];rfl) ?_;clear hD hW;intro K' ab
  case a4=>
   have au:l 19=false:=by cases Z:l 19 with|false=>rfl|true=>exact absurd (D (O Z)).1 (by simp[Y])
   have c0:B.cell? ⟨j,1,none⟩=some (.slice va i vc):=(o au).cell 1;go_simp;exact ab.go _ rfl ⟨I,J,T,G,H,X,o,U,V,F,O,fun h=>⟨rfl,(D h).2⟩,f,Q,E,u,vS.r⟩
  case a10=>
   have dv:l 16=false:=by cases Z:l 16 with|false=>rfl|true=>exact absurd (D Z).2 (by simp[Y])
   have eg:(convert 81 9 S9).run Tryz.prog B=.ok (.string (toStr a.key)) B:=by have h:=Rd.str (P:=Tryz.prog) (bcut dl.out (X dv) b2.out c4.out (by rw[c1.out];omega)) c8.out Ao EQ (dst:=9) BG;exact h
   go_simp;exact ab.go _ rfl ⟨I,J,T,G,H,X,o,U,V,F,O,fun h=>⟨(D h).1,rfl⟩,f,fun h=>⟨(Q h).1,h_ rfl⟩,fun h=>⟨(E h).1,h_ rfl⟩,fun h=>⟨(u h).1,(u h).2.1,h_ rfl⟩,vS.r⟩
  case a11=>have bf:Hid (l 10=true):=h_ (C.at rfl);go_simp;exact ab.go _ rfl ⟨I,J,T,G,H,X,o,U,V,F,O,D,f,fun _=>⟨rfl,bf⟩,E,u,vS.s rfl⟩
  case a13=>have c0:=G;go_simp;exact ab.go _ rfl ⟨I,J,T,G,H,X,o,U,V,F,O,D,f,Q,E,u,vS.r⟩
  case a19=>
   have an:Hid (l 16=true):=h_ (C.at rfl);have c0:B.cell? ⟨j,1,none⟩=some (.slice va i vc):=(o Y).cell 1;have f0:=(o Y).free 1;go_simp;have k2:Keep [j] B _:=((By [j] B).setCell (p:=⟨j,1,none⟩) (.inl (by simp)) (.slice I (i+1) J));have dw:=(o Y).set 1 (.slice I (i+1) J);have bn:=(o Y).ty;have am:rb∉ [j]:=by simp only[Ah];exact fun e=>bj.out.ty.ne (ag.out.still N.out).blk.ty (by decide) e
   exact ab.go undef rfl ⟨I,J,T,k2.cell1 G am,k2.cell1 H am,fun h=>absurd (h.symm.trans an.out) (by decide),fun h=>Bool.noConfusion (show true=false from h),fun _=>dw,fun h=>absurd (h.symm.trans an.out) (by decide),fun h=>(F h).keep k2 (fun q Z R=>by simp only[Ah]at R;subst R;exact((F h).ty _ Z).ne bn (by decide) rfl),fun _=>an.out,D,f.trans (k2.mono (by simp)),Q,E,fun h=>⟨(u h).1,fun bz=>absurd (bz.symm.trans an.out) (by decide),(u h).2.2⟩,vS.s rfl⟩
  all_goals have c0:=H;have hcut:=c3.out;go_simp;exact ab.go _ rfl ⟨I,J,T,G,H,X,o,U,V,F,O,D,f,Q,E,u,vS.r⟩
 ·obtain rfl:m=i:=by omega
  have q0:decide ((m:Int)<(m:Int))=false:=by simp
  go_wp2;go_ret2;have d4:M.take m=M:=by rw[HM.out];exact Bt
  refine⟨j,lb,vl,v,l,rfl,⟨by have:=HJ.out;rw[d4]at this;exact this,b1.out,⟨_,_,_,_,b5.out,b9.out.1,by have:=b9.out.2.1;have:=HB.out;omega,by have:=HR.out;have:=HB.out;omega,by have:=HB.out;omega⟩,by rw[HS.out];exact dp.out,c5.out,bk.out⟩,be.out⟩
end Go.Proofs.YtnhbioehiiifdaaGreat
