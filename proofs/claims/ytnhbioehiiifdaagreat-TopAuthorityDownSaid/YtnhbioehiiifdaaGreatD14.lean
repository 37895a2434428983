import Derived.Test.YtnhbioehiiifdaaGreatD11
import Derived.Test.YtnhbioehiiifdaaGreatD12
set_option maxRecDepth 100000
set_option maxHeartbeats 16000000
set_option linter.all false
namespace Go.Proofs.YtnhbioehiiifdaaGreat
open Go.ChangeShapes Go.WideShapes Go.ChangeAt Go.RowKit
def openJ (k:World)(c kb s g bb:Nat)(h:Option Addr)(i:Nat)(a:List Nat)(ep top j:Int)(l:Nat→Bool)(x:Nat→Value)(b:World):Prop:=
 ∃e,(l 10=false→Blk b c (ctC kb s g ⟨0,0,[],0,0,[],[],0,[]⟩ (.slice none 0 0) (.slice none 0 0) (.slice none 0 0) (.slice none 0 0)) 156∧Blk b bb [.int .i64 0] 2)∧
 (l 10=true→Blk b c (ctC kb s g ⟨ep,top,[],0,0,[],[],0,[]⟩ (.slice none 0 0) (.slice none 0 0) (.slice none 0 0) (.slice none 0 0)) 156∧Blk b bb [.int .i64 j] 2)∧
 (Rd b (.slice h a.length i) a)∧
 (Keep [c,bb] k b)∧
 (l 9=true→x 9=.slice (some ⟨e,0,none⟩) 3 3∧Blk b e (QZ [some ⟨c,2,none⟩,some ⟨c,3,none⟩,some ⟨bb,0,none⟩]) 236)∧
 SlV l x 0 [some (.slice h a.length i),some (pr c 0),some (pr c 0),some (pr c 2),some (pr c 2),some (pr c 0),some (pr c 0),some (pr c 2),some (pr c 3),none,some (.tuple #[.int .i64 (a.length:Int),.int .i64 0]),some (.tuple #[.int .i64 (a.length:Int),.int .i64 0]),some (.int .i64 (a.length:Int)),some (.int .i64 0),some (.int .i64 (a.length:Int)),some (.int .i64 0)]
def grantJ (b:World)(c kb s g j:Nat)(t:Ct)(vm:Value)(f:Int→Option Int)(n now:Int)(l:Nat→Bool)(x:Nat→Value)(a:World):Prop:=
 (CtB a c kb s g t vm (.slice none 0 0) (.slice none 0 0) (.slice none 0 0))∧
 (IsClock a kb now)∧
 (l 7=false→Gr a g j f)∧
 (l 7=true→Gr a g (j+1) (fun i=>if i=n then some now else f i))∧
 (Keep [g] b a)∧
 SlV l x 0 [some (pr c 0),some (pr c 0),some (pr c 11),some (.map (some g)),some (.int .i64 n),some (pr kb 0),some (.int .i64 now),none]
theorem bits_in:∀mem∈Q5,(((Hx mem&&&2:Nat):Int) !=0)=decide ((1:Int)∈mem)∧(((Hx mem&&&4:Nat):Int) !=0)=decide ((2:Int)∈mem)∧(((Hx mem&&&8:Nat):Int) !=0)=decide ((3:Int)∈mem)∧(((Hx mem&&&16:Nat):Int) !=0)=decide ((4:Int)∈mem)∧(((Hx mem&&&32:Nat):Int) !=0)=decide ((5:Int)∈mem):=by decide
theorem bothL_self:∀mem∈Q5,bothL mem [] 0=mem:=by decide
structure OpW (w:World) (c kb s g d sb bb:Nat) (ep top now:Int) (L:List Sec) (kd turn slot:Nat) (T:List Nat) (B cnt:Nat) (f:Int→Option Int) (l:List Int) (vm:Value) (base:Nat) (w':World):Prop where
 ct:CtB w' c kb s g ⟨ep,top,l,0,0,[],[],0,[]⟩ vm (.slice none 0 0) (.slice none 0 0) (.slice none 0 0)
 own:Own w' base 3 vm (ints l)
 gr:Gr w' g cnt f
 ck:IsClock w' kb now
 sup:Hy w' s d 0 turn T slot
 dev:IsDev w' d sb L kd
 bits:Blk w' bb [.int .i64 (B:Int)] 2
 keep:Keep [] w w'
def gF (now:Int)(k:Nat):Int→Option Int:=fun j=>if 1≤j∧j≤(k:Int)then some now else none
theorem gF_zero (now:Int):gF now 0=fun _=>none:=by
 funext j
 unfold gF;rw[Aw (by omega)]
theorem gF_succ (now:Int)(k:Nat)(n:Int)(b:((k+1:Nat):Int)=n):(fun i=>if i=n then some now else gF now k i)=gF now (k+1):=by
 subst b
 funext j
 unfold gF;by_cases h:j=((k+1:Nat):Int)
 ·rw[Ay h,Ay (by omega)]
 ·rw[Aw h]
  by_cases a:1≤j∧j≤(k:Int)
  ·rw[Ay a,Ay (by omega)]
  ·rw[Aw a,Aw (by omega)]
section
variable {w:World} {c kb s g d sb bb:Nat} {ep top now:Int} {L:List Sec} {kd turn slot:Nat} {T:List Nat} {B cnt:Nat} {f:Int→Option Int} {l:List Int} {vm:Value} {base:Nat}
theorem OpW.still {a b:World}(h:OpW w c kb s g d sb bb ep top now L kd turn slot T B cnt f l vm base a)(k:Keep [] a b):OpW w c kb s g d sb bb ep top now L kd turn slot T B cnt f l vm base b:=
 ⟨h.ct.keep k (by simp),h.own.keep k (by simp),h.gr.keep k (by simp),h.ck.keep k (by simp),h.sup.keep k (by simp) (by simp),h.dev.keep k (by simp) (by simp),h.bits.keep k (by simp),h.keep.trans k⟩
end
theorem Open_ct {w:World}{d sb kd:Nat}{L:List Sec}(G:IsDev w d sb L kd){slot turn:Nat}{ep top:Int}{mem:List Int}(hp:Pair L 0 slot turn (stT ep top mem))(hs:slot≤1)(h0:0<turn)(hn:turn<9223372036854775808)
  (bh:nodesOk mem=true) (he:1≤ep∧ep≤top∧top≤1099511627776) (kv:Value) (now:Int) (C:(kv=.pointer none∧now=0)∨∃kb,kv=pr kb 0∧IsClock w kb now):
  Calls Tryz.prog 101 #[pr d 0,kv] w fun e w'=>∃c kb s g vm bb,e=.returned (.tuple #[pr c 0,.int .i64 0])∧OpW w c kb s g d sb bb ep top now L kd turn slot (stT ep top mem) (Hx mem) 5 (gF now 5) mem vm w.heap.size w'∧
   w.heap.size≤c∧w.heap.size≤s∧c≠s∧w.heap.size≤g∧(kv=pr kb 0∨kv=.pointer none∧w.heap.size≤kb):=by
 obtain⟨n1,n2,n3⟩:=VB bh;have da:=TV bh;have bc:(stT ep top mem).length ≤40:=Xc ep top mem ⟨by omega,by omega⟩ ⟨by omega,by omega⟩ n1;have bd:∀c∈stT ep top mem,c<256:=Io _;have bu:=LV mem n1;have v:=Kh [ep,top,(Hx mem:Int)] [] (by intro n hn;simp only[Ac,Am,AG]at hn;rcases hn with rfl|rfl|rfl<;>exact⟨by omega,by omega⟩);rw[AE]at v;have bg:B4 (stT ep top mem) 3=([ep,top,(Hx mem:Int)],(stT ep top mem).length,0):=v;have HO:=h_ (UK G hp hs bc bd h0 hn);obtain⟨HD,al,HE,dy,ad,dt⟩:=i_6 G C he bh da n3;obtain⟨o,bn⟩:∃o,o=Hx mem:=⟨_,rfl⟩;have ae:=h_ bn;rw[←bn]at bg bu;clear v G hp hs h0 hn bh he C da n1 n2 n3 bn;obtain⟨z,c7⟩:∃z,stT ep top mem=z:=⟨_,rfl⟩;rw[c7]at bc bd bg HO⊢;clear c7;have HM:=h_ bg.symm;have ce:=h_ (show(∀c∈z,c<256)∧z.length≤4611686018427387904 from⟨bd,by omega⟩);obtain⟨d0,ai⟩:=i_2 bc bu;clear bg bd bc bu;have ek:∀(W:World),(Instr.build 158 #[]).run Tryz.prog W=.ok (.agg #[.int .i64 0]) W:=fun W=>DD W _ _ _ (by rfl)
 have el:∀(W:World) (p q g:Nat),(Instr.build 156 #[(0,pr p 0),(1,pr q 0),(4,.map (some g))]).run Tryz.prog W=.ok (.agg #[pr p 0,pr q 0,.int .i64 0,.int .i64 0,.slice none 0 0,.int .i64 0,.int .i64 0,.slice none 0 0,.slice none 0 0,.int .i64 0,.slice none 0 0,.map (some g)]) W:=fun W p q g=>DD W _ _ _ (by rfl)
 go_enter Tryz.func101,Tryz.ntmps101;go_wp2_with fail;refine HO.out.mono ?_;rintro x w1 ⟨s,rfl,ea,br,k1⟩;have ca:=k1.size;clear HO
 obtain⟨bb,db⟩:∃bb,(kv=.pointer none∧now=0∧bb=true)∨(∃kb,kv=pr kb 0∧IsClock w kb now∧bb=false):=by
  rcases al.out with⟨E,hz⟩|⟨kb,E,V⟩
  ·exact⟨true,.inl ⟨E,hz,rfl⟩⟩
  ·exact⟨false,.inr ⟨kb,E,V,rfl⟩⟩
 have al:=h_ db;clear db;go_upto_region 4 with fail;go_cut [23] (fun ei wc=>ei=.bool bb∧w1=wc)
 case first=>
  rcases al.out with⟨E,hz,Q⟩|⟨kb,E,V,Q⟩
  ·subst E hz Q
   go_wp2_with fail;go_meet;exact⟨rfl,rfl⟩
  ·subst E Q
   go_wp2_with fail;go_meet;exact⟨rfl,rfl⟩
 case rest=>
 obtain⟨rfl,rfl⟩:=hcut;go_upto_if 23 with fail;go_cut [1] (fun s1 wc=>∃kb,s1=pr kb 0∧IsClock wc kb now∧Keep [] w1 wc∧(kv=pr kb 0∨kv=.pointer none∧w.heap.size≤kb))
 case first=>
  rcases al.out with⟨E,hz,Q⟩|⟨kb,E,V,Q⟩
  ·subst E hz Q
   go_wp2_with fail;go_meet;exact⟨_,rfl,⟨BY _ [.int .i64 0] _,by omega,by omega⟩,(By _ _).alloc _,.inr ⟨by trivial,by omega⟩⟩
  ·subst E Q
   go_wp2_with fail;go_meet;exact⟨kb,rfl,V.keep k1 (by simp),By _ _,.inl rfl⟩
 case rest=>
 obtain⟨kb,rfl,V,kc,dd⟩:=hcut;have ds:=h_ dd;clear dd al;have c1:=br.keep kc (by simp) (by simp);have K2:=k1.trans kc;have ef:=kc.size;have d9:=br.lt;clear br k1 kc;have d7:(Instr.makeMap 154 none).run Tryz.prog wc=.ok (.map (some wc.heap.size)) (wc.alloc (.map #[] 0)):=run_makeMap _ _;go_upto_region 7 with fail;clear d7;have bp:=Gr.made wc;have K3:=(By [] wc).alloc (.map #[] 0);obtain⟨g,hg⟩:∃g,g=wc.heap.size:=⟨_,rfl⟩;have bz:(wc.alloc (.map #[] 0)).heap.size =g+1:=by simp[hg]
 have cq:=V.keep K3 (by simp);have c5:=c1.keep K3 (by simp) (by simp);have Kz:=(K2.trans K3);have ax:=h_ (show w.heap.size≤g∧s<g∧w.heap.size≤s∧kb<g by have:=V.blk.lt;omega);rw[←hg]at bp⊢;clear c1 V K2 K3 ef d9 ca ea hg;generalize wc.alloc (.map #[] 0)=K at*;have hT:Blk (K.alloc (.cells #[pr kb 0,pr s 0,.int .i64 0,.int .i64 0,.slice none 0 0,.int .i64 0,.int .i64 0,.slice none 0 0,.slice none 0 0,.int .i64 0,.slice none 0 0,.map (some g)] 156)) (g+1) [pr kb 0,pr s 0,.int .i64 0,.int .i64 0,.slice none 0 0,.int .i64 0,.int .i64 0,.slice none 0 0,.slice none 0 0,.int .i64 0,.slice none 0 0,.map (some g)] 156:=Yt K [pr kb 0,pr s 0,.int .i64 0,.int .i64 0,.slice none 0 0,.int .i64 0,.int .i64 0,.slice none 0 0,.slice none 0 0,.int .i64 0,.slice none 0 0,.map (some g)] _ (g+1) (by omega);have K4:=(By [] K).alloc (.cells #[pr kb 0,pr s 0,.int .i64 0,.int .i64 0,.slice none 0 0,.int .i64 0,.int .i64 0,.slice none 0 0,.slice none 0 0,.int .i64 0,.slice none 0 0,.map (some g)] 156);have b8:(K.alloc (.cells #[pr kb 0,pr s 0,.int .i64 0,.int .i64 0,.slice none 0 0,.int .i64 0,.int .i64 0,.slice none 0 0,.slice none 0 0,.int .i64 0,.slice none 0 0,.map (some g)] 156)).heap.size =g+2:=by simp[bz]
 have ap:=bp.keep K4 (by simp);have ao:=cq.keep K4 (by simp);have aq:=c5.keep K4 (by simp) (by simp);have KW:=Kz.trans K4;clear bp cq c5 Kz K4
 try rw[bz]
 clear bz;generalize K.alloc (.cells #[pr kb 0,pr s 0,.int .i64 0,.int .i64 0,.slice none 0 0,.int .i64 0,.int .i64 0,.slice none 0 0,.slice none 0 0,.int .i64 0,.slice none 0 0,.map (some g)] 156)=S at*;have cp:Blk (S.alloc (.cells #[.int .i64 0] 2)) (g+2) [.int .i64 0] 2:=Yt S [.int .i64 0] _ (g+2) (by omega);have K5:=(By [] S).alloc (.cells #[.int .i64 0] 2);have eb:(S.alloc (.cells #[.int .i64 0] 2)).heap.size =g+3:=by simp[b8]
 have c8:=hT.keep K5 (by simp);have cx:=ap.keep K5 (by simp);have cr:=ao.keep K5 (by simp);have bs:=aq.keep K5 (by simp) (by simp);have cl:=KW.trans K5;clear hT ap ao aq KW K5;go_upto_region 8 with fail
 try rw[b8]
 clear b8;generalize S.alloc (.cells #[.int .i64 0] 2)=w5 at*;go_wp2_with fail;refine(WG bs d0.out).mono ?_;rintro x w6 ⟨v6,rfl,be,k6⟩;have c9:=c8.keep k6 (by simp);have cy:=cx.keep k6 (by simp);have cs:=cr.keep k6 (by simp);have c6:=bs.keep k6 (by simp) (by simp);have bm:=cp.keep k6 (by simp);have ay:=cl.trans k6;have cw:=HD.out.keep ay (by simp) (by simp);have dl:=be.rd;obtain⟨ba,bl,rfl⟩:=be.slice;have cf:=h_ (show∀q,(Value.slice ba z.length bl).ownBlock =some q→q≠g+1∧q≠g+2 from fun q i=>by have:=(be.lt q i).1;omega);have ak:=h_ (show g+1≠g+2∧w.heap.size≤g+1∧w.heap.size≤g+2∧g≠g+1∧g≠g+2∧kb≠g+1∧kb≠g+2∧s≠g+1∧s≠g+2 by have:=ax.out;omega);clear c8 cx cr bs cp cl k6 be;generalize g+2=bb at*;generalize g+1=c at*;have bo:Blk w6 c (ctC kb s g ⟨0,0,[],0,0,[],[],0,[]⟩ (.slice none 0 0) (.slice none 0 0) (.slice none 0 0) (.slice none 0 0)) 156:=c9;clear c9;clear eb
 have dw:=h_ (show(∀q∈[c,bb],¬Ty w6 q 5)∧d<w.heap.size∧sb<w.heap.size from⟨fun q i ht=>by
  simp only[Ac,Am,AG]at i;rcases i with rfl|rfl
  ·exact bo.ty.ne ht (by decide) rfl
  ·exact bm.ty.ne ht (by decide) rfl,HD.out.dev.lt,HD.out.secs.lt⟩)
 go_wp2_with fail;refine wI (openJ w6 c kb s g bb ba bl z ep top (o:Int)) ?aS (.s ?a0<|.s ?a1<|.s ?a2<|.s ?a3<|.s ?a4<|.s ?a5<|.s ?a6<|.s ?a7<|.s ?a8<|.s ?a9<|.s ?a10<|.s ?a11<|.s ?a12<|.s ?a13<|.s ?a14<|.s ?a15<|.n) 16 ?aF
 case aS=>intro x;exact⟨0,fun _=>⟨bo.drew,bm.drew⟩,fun h=>absurd h (by decide),dl.keep ((By [] _).drew) (by simp),(By _ _).drew,fun h=>absurd h (by decide),Yr⟩
 case a10=>
  intro l x w' P hi G;obtain⟨ah,R,aa,ab,t,h9,vS⟩:=P;have e0:=vS.a 0 (G.at rfl) rfl;have e9:=h9 (G.at rfl);refine Oq.of (b:= ?bO10) ?eO10 ?_
  case eO10=>simp only[Al,Act.put,A8,A7,A6,e0,e9.1];rfl
  intro K' U;go_simp;obtain⟨af,hG⟩:=R hi;have bx:∀q∈DK ([some ⟨c,2,none⟩,some ⟨c,3,none⟩,some ⟨bb,0,none⟩]:List (Option Addr)),q=c∨q=bb:=by intro q i;simp only[DK,List.filterMap_cons,List.filterMap_nil,Option.map_some,Ac,Am,AG]at i;omega
  have en:=e9.2.ty.ne af.ty (by decide);have em:=e9.2.ty.ne hG.ty (by decide);refine(Tj (.slice ba z.length bl) _ z [some ⟨c,2,none⟩,some ⟨c,3,none⟩,some ⟨bb,0,none⟩] ab (Ih e9.2 rfl) ce.out.1 ce.out.2 (by simp) ?_ (fun q i _ v=>by have:=cf.out q i;have:=bx q v;omega) (fun q i v=>by have h1:ah=q:=Option.some.inj i;have:=bx q v;omega) ([ep,top,(o:Int)],z.length,0) HM.out).mono ?_
  ·intro a A
   simp only[Ac,BU,Am,AG]at A;rcases A with rfl|rfl|rfl
   ·exact⟨⟨_,af.cell 2⟩,af.free 2⟩
   ·exact⟨⟨_,af.cell 3⟩,af.free 3⟩
   ·exact⟨⟨_,hG.cell 0⟩,hG.free 0⟩
  rintro x2 y ⟨rfl,aw⟩;simp only at aw⊢;have D:Keep [c,bb] w' y:=by rw[aw];exact Ig _ _ _ _ _ (By _ _) (by intro q i;have:=bx q i;simp;omega)
  have bf:=ak.out;have d6:Blk y c (ctC kb s g ⟨ep,top,[],0,0,[],[],0,[]⟩ (.slice none 0 0) (.slice none 0 0) (.slice none 0 0) (.slice none 0 0)) 156:=by rw[aw];exact((af.set 2 (.int .i64 ep)).set 3 (.int .i64 top)).other (by show c≠bb;omega) _
  have bq:Blk y bb [.int .i64 (o:Int)] 2:=by rw[aw];exact(((hG.other (a:=⟨c,2,none⟩) (by show bb≠c;omega) _).other (a:=⟨c,3,none⟩) (by show bb≠c;omega) _).set 0 (.int .i64 (o:Int)))
  clear aw;go_simp;exact U.go _ rfl ⟨ah,fun h=>Bool.noConfusion (show true=false from h),fun _=>⟨d6,bq⟩,Yw ab D (fun q i _=>by have:=cf.out q i;simp;omega),t.trans D,fun h=>⟨(h9 h).1,(h9 h).2.keep D (by simp;omega)⟩,vS.r⟩
 case aF=>
  intro l x S P hl;obtain⟨ah,R,aa,ab,t,h9,vS⟩:=P;have cm:=vS.a 14 (hl 14 (by decide)) rfl;have cn:=vS.a 15 (hl 15 (by decide)) rfl;obtain⟨ao,co⟩:=aa (hl 10 (by decide));simp only[Al,Act.put,A8,A7,A6,cm,cn];simp only[AP,Nat.reduceAdd];clear h9 cm cn hl R aa dl ab vS;clear bo bm;have ee:=ay.size;have cj:Keep [] w S:=ay.then t (by intro q i av;have:=ak.out;simp at i;omega);obtain⟨dr,eg,eh⟩:=dw.out;have bf:=ak.out;have ac:=ax.out;have ap:Gr S g 0 (gF now 0):=by rw[gF_zero];exact cy.keep t (by simp;omega)
  have cz:=cs.keep t (by simp;omega);have aq:=c6.keep t (by simp;omega) dr;have cv:=cw.keep t (by simp;omega) (by simp;omega);have F:OpW w c kb s g d sb bb ep top now L kd turn slot z o 0 (gF now 0) (bothU mem [] 0 0) (.slice none 0 0) w.heap.size S:=⟨ao,YA _ _ _,ap,cz,aq,cv,co,cj⟩;have HW:=h_ F;clear F ao co t ee cj dr eg eh bf ac ap cz aq cv cy cs c6 cw ay;obtain⟨i0,hi,ec,ca,ed⟩:=AU Tryz.infoI;go_wp2
  go_loopw [13] (fun n wr=>∃(k:Nat) (vm:Value),k≤5∧n=.int .i64 ((k+1:Nat):Int)∧OpW w c kb s g d sb bb ep top now L kd turn slot z o k (gF now k) (bothU mem [] 0 k) vm w.heap.size wr) (fun n _=>6-(intOf n).toNat)
  case atStart=>exact⟨0,_,by omega,rfl,HW.out⟩
  case round=>
  obtain⟨k,vm,C,rfl,j⟩:=hrel;clear HW;by_cases av:k<5
  ·have hs:=bothU_succ mem [] 0 k av
   have eo:=bothU_len mem [] 0 k;have hn:1≤((k+1:Nat):Int)∧((k+1:Nat):Int)≤5:=by omega
   have dj:((k+1:Nat):Int)+1=((k+1+1:Nat):Int):=by omega
   have cd:=h_ dj;have cb:=h_ (show 6-(((k+1:Nat):Int)+1).toNat <6-((k+1:Nat):Int).toNat by omega);clear dj
   have hP:bothP mem [] 0 ((k+1:Nat):Int)=decide (((k+1:Nat):Int)∈mem):=by unfold bothP;rw[Ak (by omega:¬((k+1:Nat):Int)=0)];simp
   generalize dh:((k+1:Nat):Int)=n at*;have dv:=h_ dh;clear dh;obtain⟨N,bv⟩:∃N,N=decide (n∈mem):=⟨_,rfl⟩;rw[←bv]at hP;obtain⟨aj,HS,HP⟩:=i_3 bv hs hP;clear hs hP bv;generalize hX:bothU mem [] 0 k=X at*;have HX:=h_ hX;clear hX;obtain⟨n1,n2⟩:=hn;have q0:decide (n≤5)=true:=An n2;obtain⟨I,J,rfl⟩:=j.own.islice;have du:=h_ (show II n from⟨by omega,by omega⟩);have dx:=h_ (show II now from⟨by have:=j.ck.lo;omega,by have:=j.ck.hi;omega⟩);have cc:=h_ (show c≠g∧kb≠g from⟨j.gr.ne (Blk.ty j.ct),j.gr.ne j.ck.blk.ty⟩);have cu:=j.ct;have de:=j.ck;have dc:=j.gr;go_wp2_with fail;refine wI (grantJ wr c kb s g k ⟨ep,top,X,0,0,[],[],0,[]⟩ (.slice I X.length J) (gF now k) n now) ?bS (.s ?b0<|.s ?b1<|.s ?b2<|.s ?b3<|.s ?b4<|.s ?b5<|.s ?b6<|.s ?b7<|.n) 8 ?bF
   case bS=>intro x;exact⟨cu.keep ((By [] _).drew) (by simp),de.keep ((By [] _).drew) (by simp),fun _=>dc.keep ((By [] _).drew) (by simp),fun h=>absurd h (by decide),(By _ _).drew,Yr⟩
   case bF=>
    intro l x K P hl;obtain⟨hC,C,ar,au,t,vS⟩:=P;have bw:=au (hl 7 (by decide));simp only[Al,Act.put,A8,A7,A6];rw[gF_succ now k n dv.out]at bw;have dg:=cc.out
    have dk:∀b,(Value.slice I X.length J).ownBlock =some b→b∉ [g]:=fun b Q v=>by have:=j.gr.ne (j.own.ty b Q);simp at v;exact this v
    have ac:s∉ [g]∧d∉ [g]∧sb∉ [g]∧bb∉ [g]:=by have h1:=j.gr.ne j.sup.ty;have h2:=j.gr.ne j.dev.dev.ty;have h3:=j.gr.ne j.dev.secs.ty;have h4:=j.gr.ne j.bits.ty;simp only[Ah];exact⟨h1,h2,h3,h4⟩
    have dq:∀q∈[g],¬Ty wr q 5:=fun q i ht=>by simp at i;subst i;exact j.gr.ne ht rfl
    have R:=ax.out
    have bt:OpW w c kb s g d sb bb ep top now L kd turn slot z o (k+1) (gF now (k+1)) X (.slice I X.length J) w.heap.size K:=
     ⟨hC,j.own.keep t dk,bw,C,j.sup.keep t ac.1 dq,j.dev.keep t ac.2.1 ac.2.2.1,j.bits.keep t ac.2.2.2,j.keep.then t (by intro q i av;simp at i;omega)⟩
    have cg:=h_ bt;have O:=bt.bits;clear bw dg dk ac dq R bt cu de dc hC C ar au t hl j vS;go_upto_region 16 with fail;go_cut [70] (fun ej wc=>ej=.bool N∧∃nq,wc=K.drewN nq)
    case first=>
     rcases(show n=1∨n=2∨n=3∨n=4∨n=5 by omega)with rfl|rfl|rfl|rfl|rfl
     ·have q:(bits .and .i64 (o:Int) 2 !=0)=N:=by
       have A:bits .and .i64 (o:Int) 2=((o&&&2:Nat):Int):=bits_and_i64_nat o 2 (by have:=ai.out;omega) (by omega);rw[A,ae.out,aj.out];exact(bits_in mem ad.out).1
      have M:=h_ q;have b0:=O.cell 0;simp only[List.getElem?_cons_zero]at b0;clear q;go_wp2_with fail
      go_quiet (fail)
      go_wp2_with fail;go_meet;exact⟨A3 Value.bool M.out,nq,rfl⟩
     ·have q:(bits .and .i64 (o:Int) 4 !=0)=N:=by
       have A:bits .and .i64 (o:Int) 4=((o&&&4:Nat):Int):=bits_and_i64_nat o 4 (by have:=ai.out;omega) (by omega);rw[A,ae.out,aj.out];exact(bits_in mem ad.out).2.1
      have M:=h_ q;have b0:=O.cell 0;simp only[List.getElem?_cons_zero]at b0;clear q;go_wp2_with fail
      go_quiet (fail)
      go_wp2_with fail;go_meet;exact⟨A3 Value.bool M.out,nq,rfl⟩
     ·have q:(bits .and .i64 (o:Int) 8 !=0)=N:=by
       have A:bits .and .i64 (o:Int) 8=((o&&&8:Nat):Int):=bits_and_i64_nat o 8 (by have:=ai.out;omega) (by omega);rw[A,ae.out,aj.out];exact(bits_in mem ad.out).2.2.1
      have M:=h_ q;have b0:=O.cell 0;simp only[List.getElem?_cons_zero]at b0;clear q;go_wp2_with fail
      go_quiet (fail)
      go_wp2_with fail;go_meet;exact⟨A3 Value.bool M.out,nq,rfl⟩
     ·have q:(bits .and .i64 (o:Int) 16 !=0)=N:=by
       have A:bits .and .i64 (o:Int) 16=((o&&&16:Nat):Int):=bits_and_i64_nat o 16 (by have:=ai.out;omega) (by omega);rw[A,ae.out,aj.out];exact(bits_in mem ad.out).2.2.2.1
      have M:=h_ q;have b0:=O.cell 0;simp only[List.getElem?_cons_zero]at b0;clear q;go_wp2_with fail
      go_quiet (fail)
      go_wp2_with fail;go_meet;exact⟨A3 Value.bool M.out,nq,rfl⟩
     ·have q:(bits .and .i64 (o:Int) 32 !=0)=N:=by
       have A:bits .and .i64 (o:Int) 32=((o&&&32:Nat):Int):=bits_and_i64_nat o 32 (by have:=ai.out;omega) (by omega);rw[A,ae.out,aj.out];exact(bits_in mem ad.out).2.2.2.2
      have M:=h_ q;have b0:=O.cell 0;simp only[List.getElem?_cons_zero]at b0;clear q;go_wp2_with fail
      go_quiet (fail)
      go_wp2_with fail;go_meet;exact⟨A3 Value.bool M.out,nq,rfl⟩
    case rest=>
    obtain⟨rfl,nq,rfl⟩:=hcut;have ag:=cg.out.still (Je (By [] K) nq);clear cg O;generalize K.drewN nq=w6' at*
    cases N with
    |false=>
     go_wp2
     go_roundw
     case rel=>refine⟨k+1,(.slice I X.length J),by omega,by rw[cd.out], ?_⟩;rw[HS.out,HP.out,Aw (by decide),AE];exact ag
     case measure=>simp only[intOf];exact cb.out
    |true=>
     have er:=ag.keep.size;obtain⟨wA,b9⟩:∃W,W=w6'.alloc (.cells #[.int .i64 n] 3):=⟨_,rfl⟩;have u:=ag.still ((By [] w6').alloc (.cells #[.int .i64 n] 3));rw[←b9]at u;have dn:w.heap.size≤wA.heap.size:=u.keep.size;have dm:Src Tryz.prog 1 22 (.slice (some ⟨w6'.heap.size,0,none⟩) 1 1) 1 [.int .i64 n] wA:=by rw[b9];exact Lc Dl w6' (.int .i64 n) rfl 3 _ rfl
     have c4:=(Ym ag.ct).1;have d4:=(Ym u.ct).1;have dp:=u.own.ty;have H:∀(q:Nat) (T:TypeId),T≠3→Ty wA q T→q∉(Value.slice I X.length J).ownBlock.toList :=fun q T hT i v=>(dp q (Ae.1 v)).ne i (Ne.symm hT) rfl
     obtain⟨bk,am,d1,ch⟩:=i_4 H u ag b9;clear ag u dp H
     go_wp2_with (first|(at_builtin;rw[←ch.out];refine Bl _ rfl _ _ 22 22 rfl w.heap.size 3 i0 (.int .i64 0) 1 8 Dl hi ec ca ed rfl (by decide) _ _ _ rfl am.out.own _ 1 _ rfl dm (by rw[CK];unfold maxLen;omega) (by rw[CK];omega) dn ?_;intro v1 y h2 h3 _ h4;obtain⟨bi,bj,rfl⟩:=A4 h2;have an:=am.out.ct.keep (DJ h3) (bk.out c _ (by decide) (Blk.ty am.out.ct));have d3:=(Ym an).1;have d5:=(Ym an).2)|fail)
     have az:=Own.app (m:=1) rfl h2;rw[show ints X++[Value.int .i64 n]=ints (X++[n]) by rw[PF];rfl]at az;have D:Keep (Value.slice I X.length J).ownBlock.toList wA y:=DJ h3;have u:=am.out;have Y:Keep [c] y (y.setCell ⟨c,4,none⟩ (.slice bi ((ints X).length +1) bj)):=(By _ _).setCell (.inl (by simp)) _;have H:=bk.out;have di:∀q∈(Value.slice I X.length J).ownBlock.toList,¬Ty wA q 5:=fun q i ht=>H q _ (by decide) ht i
     have Z:∀q (T:TypeId),T≠156→Ty y q T→q∉ [c]:=fun q T hT i v=>by simp at v;subst v;exact(Blk.ty an).ne i (Ne.symm hT) rfl
     have df:∀q∈[c],¬Ty y q 5:=fun q i ht=>Z q _ (by decide) ht i
     have g2:Gr y g (k+1) (gF now (k+1)):=u.gr.keep D (fun v=>u.gr.ne (u.own.ty g (Ae.1 v)) rfl);have s2:=u.sup.keep D (H s _ (by decide) u.sup.ty) di;have d2:=u.dev.keep D (H d _ (by decide) u.dev.dev.ty) (H sb _ (by decide) u.dev.secs.ty);have b2:=u.bits.keep D (H bb _ (by decide) u.bits.ty);have y2:=u.ck.keep D (H kb _ (by decide) u.ck.blk.ty);have z2:Keep [] w y:=u.keep.then D (fun q i av=>by have:=(u.own.lt q (Ae.1 i)).1;omega);have bf:=ak.out
     have c0:OpW w c kb s g d sb bb ep top now L kd turn slot z o (k+1) (gF now (k+1)) (X++[n]) (.slice bi ((ints X).length +1) bj) w.heap.size (y.setCell ⟨c,4,none⟩ (.slice bi ((ints X).length +1) bj)):=
      ⟨Blk.set an 4 _,az.keep Y (fun q i=>Z q _ (by decide) (az.ty q i)),g2.keep Y (fun v=>by simp at v;omega),y2.keep Y (Z kb _ (by decide) y2.blk.ty),s2.keep Y (Z s _ (by decide) s2.ty) df,
       d2.keep Y (Z d _ (by decide) d2.dev.ty) (Z sb _ (by decide) d2.secs.ty),b2.keep Y (Z bb _ (by decide) b2.ty),z2.then Y (fun q i av=>by simp at i;omega)⟩
     have dz:=h_ c0;clear az D u Y H di Z df g2 s2 d2 b2 y2 z2 bf c0 an d3 d5 am d1 bk h2 h3 h4 c4 d4 dm dn ch
     go_roundw
     case rel=>refine⟨k+1,(.slice bi (X.length+1) bj),by omega,by rw[cd.out], ?_⟩;have hh:=dz.out;rw[CK]at hh;rw[HS.out,HP.out,Ay rfl];exact hh
     case measure=>simp only[intOf];exact cb.out
   all_goals
    intro l x w' P hi G;obtain⟨hC,C,ar,au,t,vS⟩:=P;have F:=vS;have hD:=G;simp only[SlV]at F
    try simp[BD,Region.binds]at hD
    refine Oq.of (by simp only[Al,Act.put,A8,A7,A6,hD,F];rfl) ?_;clear hD F;intro K' U
   case b6=>go_simp;refine(DN C).mono ?_;rintro e y ⟨rfl,rfl⟩;go_simp;exact U.go _ rfl ⟨hC,C,ar,au,t,vS.r⟩
   case b7=>obtain⟨y,eq,bq,k2⟩:=(ar hi).put n now du.out dx.out (by unfold maxLen;omega);go_simp;have dg:=cc.out;exact U.go undef rfl ⟨hC.keep k2 (by simp;omega),C.keep k2 (by simp;omega),fun h=>Bool.noConfusion (show true=false from h),fun _=>bq,t.trans k2,vS.s rfl⟩
   all_goals have c11:=(ctc_11 hC).1;go_simp;exact U.go _ rfl ⟨hC,C,ar,au,t,vS.r⟩
  ·obtain rfl:k=5:=by omega
   have q0:decide (((5+1:Nat):Int)≤5)=false:=by decide
   have O:bothU mem [] 0 5=mem:=bothL_self mem ad.out;rw[O]at j;obtain⟨I,J,rfl⟩:=j.own.islice;have c2:=(Yn j.ct).1;have c3:=(ctc_3 j.ct).1;have c4:=(Ym j.ct).1;have q1:decide (ep<1)=false:=Ak (by have:=HE.out;omega);have q2:decide (top<ep)=false:=Ak (by have:=HE.out;omega);have ci:=h_ j;have d8:∀q:Nat,Calls Tryz.prog 62 #[.slice I mem.length J] (wr.drewN q) fun e w'=>e=.returned (.bool true)∧w'=wr.drewN q:=fun q=>Wa (Dr _ mem (Wh ci.out.own.irv q) (by have:=dt.out;omega) true dy.out.symm)
   clear j O;go_wp2_with fail
   go_quiet ((go_at_call 62;exact Calls.quiet_of_same (d8 _)))
   go_wp2;go_ret2;have hz:=ak.out;have hy:=ax.out;refine⟨c,kb,s,g,(.slice I mem.length J),bb,rfl, ?_,hz.2.1,hy.2.2.1,by omega,hy.1,ds.out⟩;rw[←ae.out];exact ci.out.still (Je (By [] wr) nq)
 all_goals
  intro l x w' P hi G;obtain⟨ah,R,aa,ab,t,h9,vS⟩:=P;have F:=vS;have hD:=G;simp only[SlV]at F
  try simp[BD,Region.binds]at hD
  refine Oq.of (by simp only[Al,Act.put,A8,A7,A6,hD,F];rfl) ?_;clear hD F;intro K' U
 case a9=>go_simp;exact U.go _ rfl ⟨w'.heap.size,fun h=>⟨(R h).1.alloc _,(R h).2.alloc _⟩,fun h=>⟨(aa h).1.alloc _,(aa h).2.alloc _⟩,ab.alloc _,t.alloc _,fun _=>⟨rfl,BY _ (QZ [some ⟨c,2,none⟩,some ⟨c,3,none⟩,some ⟨bb,0,none⟩]) _⟩,vS.s rfl⟩
 all_goals go_simp;exact U.go _ rfl ⟨ah,R,aa,ab,t,h9,vS.r⟩
def renewJ (k:World)(c kb s g b n:Nat)(t:Ct)(vm vt vn vd:Value)(f:Int→Option Int)(now:Int)(m:Ms)(d e j h:Value)(l:Nat→Bool)(x:Nat→Value)(a:World):Prop:=
 (CtB a c kb s g t vm vt vn vd)∧
 (Blk a b (CZ m d e j h) 175)∧
 (IsClock a kb now)∧
 (l 11=false→Gr a g n f)∧
 (l 11=true→Gr a g (n+1) (fun i=>if i=m.src then some now else f i))∧
 (Keep [g] k a)∧
 SlV l x 0 [some (pr c 0),some (pr c 0),some (pr c 11),some (.map (some g)),some (pr b 1),some (.int .i64 m.src),some (pr c 0),some (pr c 0),some (pr c 0),some (pr kb 0),some (.int .i64 now),none]
section
variable {w:World} {c kb s g base n:Nat} {t:Ct} {vm vt vn vd:Value} {f:Int→Option Int} {now:Int}
theorem OO (h:CtB w c kb s g t vm vt vn vd)(hr:CtR w t vm vt vn vd base)(j:Gr w g n f)(ab:IsClock w kb now)(m:Ms)(F G I H:Value)(bg:m.seq≤t.epoch)(ak:m.src∈t.mem)(al:m.src≠t.lost)(an:II m.src)(h0:0<t.mem.length)(am:n<maxLen):
  Calls Tryz.prog 141 #[pr c 0,Yi m F G I H] w fun e u=>∃v L,e=.returned v∧TRow u w.heap.size v L∧L.map (·.m)=[EI t 2 m.src m.tick]∧CtB u c kb s g t vm vt vn vd∧CtR u t vm vt vn vd base∧
   Gr u g (n+1) (fun i=>if i=m.src then some now else f i)∧IsClock u kb now∧Keep [g] w u:=by
 have q1:decide (t.epoch<m.seq)=false:=Ak (by omega);have q3:(m.src !=t.lost)=true:=by simpa using al
 obtain⟨HS,ap,H0,au⟩:=i_4 an ak h0 am;have bl:=h_ (show g<w.heap.size∧kb<w.heap.size from⟨j.lt,ab.blk.lt⟩);clear al an ak h0 am bg;have b:=BY w (CZ m F G I H) 175;have y:=(By [] w).alloc (.cells (CZ m F G I H).toArray 175);have O:=h.keep y (by simp);have ai:=hr.still y;have ad:=j.keep y (by simp);have af:=ab.keep y (by simp);go_enter Tryz.func141,Tryz.ntmps141;go_upto_region 2 with fail;clear h hr j ab;generalize bf:w.heap.size=mb at*;generalize w.alloc (.cells (CZ m F G I H).toArray 175)=w0 at*;have m5:=Ye b;have c2:=(Yn O).1
 go_quiet (fail)
 have p:=Je (By [] w0) nq;have V:=b.keep p (by simp);have K:=O.keep p (by simp);have Z:=ai.still p;have ae:=ad.keep p (by simp);have ag:=af.keep p (by simp);have K1:=y.trans p;clear b O ai ad af m5 c2 y p;generalize w0.drewN nq=wb at*;have N:=SL V;obtain⟨ma,mc,rfl⟩:=Z.mem.islice;have c4:=(Ym K).1;have c9:=(ctc_9 K).1;have J:=h_ Z;clear Z;go_wp2_with fail
 go_quiet ((go_at_call 136;refine Calls.quiet_of_same (Wa (Ov _ t.mem m.src (Wh J.out.mem.irv _) (by have:=J.out.memn;omega) true (An ap.out).symm))))
 have a:=Je (By [] wb) nq;have W:=V.keep a (by simp);have Q:=K.keep a (by simp);have z:=ae.keep a (by simp);have E:=ag.keep a (by simp);have ac:=h_ (J.out.still a);have K2:=K1.trans a;clear V K ae ag K1 a N c4 c9 J;generalize wb.drewN nq=w1 at*;have aq:=HS;have av:=h_ (show II now from⟨by have:=E.lo;omega,by have:=E.hi;omega⟩);have ar:=h_ (show c≠g∧kb≠g∧mb≠g from⟨z.ne (Blk.ty Q),z.ne E.blk.ty,z.ne W.ty⟩);go_wp2_with fail;refine wI (renewJ w1 c kb s g mb n t (.slice ma t.mem.length mc) vt vn vd f now m F G I H) ?aS (.s ?a0<|.s ?a1<|.s ?a2<|.s ?a3<|.s ?a4<|.s ?a5<|.s ?a6<|.s ?a7<|.s ?a8<|.s ?a9<|.s ?a10<|.s ?a11<|.n) 12 ?aF
 case aS=>intro x;exact⟨Q.keep ((By [] _).drew) (by simp),W.keep ((By [] _).drew) (by simp),E.keep ((By [] _).drew) (by simp),fun _=>z.keep ((By [] _).drew) (by simp),fun h=>absurd h (by decide),(By _ _).drew,Yr⟩
 case aF=>
  intro l x w3 T hl;obtain⟨d,b,o,j,D,k,vS⟩:=T;have aj:=D (hl 11 (by decide));simp only[Al,Act.put,A8,A7,A6];simp only[AP,Nat.reduceAdd]
  have ao:∀q∈[g],¬Ty w1 q 3:=fun q M ht=>by simp at M;subst M;exact z.ne ht rfl
  have X:=ac.out.keep k ao;have K3:Keep [g] w w3:=(K2.mono (by simp)).trans k;clear z E Q W k K2 ao j D hl ac vS;have N:=SL b;have m4:=Yf b;go_wp2_with fail;refine(R3 d X H0.out 2 m.src m.tick).mono ?_;rintro e B ⟨v6,rfl,hY,A⟩;have ax:=d.keep A (by simp);have bc:=X.still A;have az:=aj.keep A (by simp);have be:=o.keep A (by simp);have K6:Keep [g] w B:=K3.trans (A.mono (by simp));obtain⟨Y,aa⟩:∃Y,Y=(⟨EI t 2 m.src m.tick,v6,.slice none 0 0⟩:Tm):=⟨_,rfl⟩;rw[←aa]at hY⊢;have aw:Hid (Y.m=EI t 2 m.src m.tick):=h_ (by rw[aa]);clear aa A d X aj o K3 N m4;obtain⟨i0,hi,bi,bj,bk⟩:=AU Y2;have bp:=K6.size;have bd:=hY.keep (S:=[]) ((By [] B).alloc (.cells (Cm Y).toArray 175)) (by simp);have ah:=TRow.nil (B.alloc (.cells (Cm Y).toArray 175)) w.heap.size;have bh:=QN (P:=Tryz.prog) BT _ _ _ (BY B (Cm Y) 175) hY.one
  go_wp2_with (first|(refine Jk rfl _ rfl Y rfl ?_)|(at_builtin;refine Bl _ rfl _ _ 66 66 rfl w.heap.size 175 i0 _ 21 256 BT hi bi bj bk rfl (by decide) (.slice none 0 0) 0 _ rfl ah.own _ 1 _ rfl bh (by unfold maxLen;omega) (by omega) (by simp;omega) ?_;intro v1 w2 h2 h3 _ h4))
  have ba:=ah.snoc bd h2 (DJ h3);have C:Keep [] B w2:=((By [] B).alloc _).then (DJ h3) (fun q M bm=>by simp[Value.ownBlock]at M);go_ret;have bb:=bc.still C;exact⟨_,rfl,[Y],(by have hh:=ba;rw[bf]at hh;exact hh),(by simp[aw.out]),ax.keep C (by simp),bb,az.keep C (by simp),be.keep C (by simp),K6.trans (C.mono (by simp))⟩
 all_goals
  intro l x u T hi hd;obtain⟨d,b,o,j,D,k,vS⟩:=T;have hW:=vS;have R:=hd;simp only[SlV]at hW
  try simp[BD,Region.binds]at R
  refine Oq.of (by simp only[Al,Act.put,A8,A7,A6,R,hW];rfl) ?_;clear R hW;intro K' U
 case a10=>go_simp;refine(DN o).mono ?_;rintro e w2 ⟨rfl,rfl⟩;go_simp;exact U.go _ rfl ⟨d,b,o,j,D,k,vS.r⟩
 case a11=>obtain⟨w2,bo,ay,a⟩:=(j hi).put m.src now aq.out av.out au.out;go_simp;have bn:=ar.out;exact U.go undef rfl ⟨d.keep a (by simp;omega),b.keep a (by simp;omega),o.keep a (by simp;omega),fun h=>Bool.noConfusion (show true=false from h),fun _=>ay,k.trans a,vS.s rfl⟩
 all_goals have c11:=(ctc_11 d).1;have N:=SL b;have c0:=(ctc_0 d).1;go_simp;exact U.go _ rfl ⟨d,b,o,j,D,k,vS.r⟩
end
theorem KB {w:World}{c kb s g:Nat}{t:Ct}{P T S O:Value}(h:CtB w c kb s g t P T S O)(m:Ms)(b f j i:Value)(u:MsRd w m b f j i)(y:MsSz m)(D:mayM m=true)(A:m.dst=0)(C:m.kind=1)(Q:Ending→World→Prop)
  (z:∀G,Keep [] w G→Calls Tryz.prog 141 #[pr c 0,Yi m b f j i] G fun e w'=>∃v,e=.returned v∧Q e w'):
  Calls Tryz.prog 106 #[pr c 0,Yi m b f j i] w Q:=by
 have X:(m.dst !=0)=false:=by simp[A]
 have Y:(m.kind==1)=true:=by simp[C]
 have k:=BY w (CZ m b f j i) 175;have q:=(By [] w).alloc (.cells (CZ m b f j i).toArray 175);have F:=u.alloc (.cells (CZ m b f j i).toArray 175);obtain⟨J,H,n⟩:=i_3 y D.symm z;clear D y A C z;go_enter Tryz.func106,Tryz.ntmps106;go_upto_region 1 with fail;clear h u;generalize V:w.heap.size=mb at*;generalize w.alloc (.cells (CZ m b f j i).toArray 175)=w0 at*;have N:=Yg k
 go_wp2_with (refine BA 175 _ rfl mb rfl 175 (CZ m b f j i).toArray (0,0) _ k AV rfl C4 (by rfl) ?_)
 refine(JP m b f j i F J.out true H.out).mono ?_;rintro e U ⟨rfl,l⟩;have r:=k.keep l (by simp);have K:=q.trans l;clear k F q l N;have W:=Yh r;have I:=h_ (n.out U K);clear n
 go_wp2_with (refine BA 175 _ rfl mb rfl 175 (CZ m b f j i).toArray (0,0) _ r AV rfl C4 (by rfl) ?_)
 refine I.out.mono ?_;rintro e Z ⟨v,rfl,E⟩;have o:=h_ E;clear E;go_wp2_with fail
 first|exact o.out|(go_ret;exact o.out)
theorem Xx {m:Wm}(h:mayM (wmMs m)=true):m.src≤5∧m.dst≤5:=by
 unfold mayM at h;simp only[Ar]at h;have b:Gb (wmMs m)=true:=by first|exact h.1|exact h.1.1|exact h.1.1.1
 unfold Gb QG at b;simp only[Ar,A0,List.all_cons,List.all_nil,wmMs]at b;omega
def auCt (a:Au):Ct:=⟨(a.epoch:Int),(a.top:Int),a.mem.map Int.ofNat,(a.num:Int),(a.phase:Int),a.dest.map Int.ofNat,a.nodes.map Int.ofNat,(a.lost:Int),a.done.map Int.ofNat⟩
structure CtP where
 c:Nat
 kb:Nat
 d:Nat
def CtD0 (w:World)(d sb s:Nat)(T:List Nat)(B:Nat):Prop:=
 ∃L k turn b,IsDev w d sb L k∧Ff w s d 0 turn T b∧Pair L 0 b turn T∧b≤1∧0<turn∧turn≤B∧k≤2*B+5
theorem CtD.weak {w:World}{d sb s:Nat}{T:List Nat}{B:Nat}(h:CtD w d sb s T B):CtD0 w d sb s T B:=by obtain⟨L,k,turn,e,a,b,c⟩:=h;exact⟨L,k,turn,e,a,b.weak,c⟩
theorem CtD0.keep {w w':World}{d sb s:Nat}{T:List Nat}{B:Nat}{S:List Nat}(h:CtD0 w d sb s T B)(k:Keep S w w')(e:d∉S)(f:sb∉S)(g:s∉S):CtD0 w' d sb s T B:=by obtain⟨L,n,turn,i,a,b,c⟩:=h;exact⟨L,n,turn,i,a.keep k e f,b.keep' k g,c⟩
structure CtOk (w:World) (x:CtP) (a:Au) (B s g sb:Nat) (vm vt vn vd:Value) (base n:Nat) (f:Int→Option Int):Prop where
 ct:CtB w x.c x.kb s g (auCt a) vm vt vn vd
 rows:CtR w (auCt a) vm vt vn vd base
 base_:base≤w.heap.size
 dev:CtD0 w x.d sb s (stT (a.epoch:Int) (a.top:Int) (a.mem.map Int.ofNat)) (2*a.top)
 gr:Gr w g n f
 few:n≤B
 rel:∀i:Nat,f (i:Int)=(a.gr.find? (fun p=>decide (p.1=i))).map (fun p=>(p.2:Int))
def Qf (x:CtP)(s g sb:Nat)(e h f b:Value):List Nat:=x.c::s::g::x.d::sb::(e.ownBlock.toList++(h.ownBlock.toList++(f.ownBlock.toList++b.ownBlock.toList)))
theorem CtR.keepF {w w':World}{t:Ct}{i l j g:Value}{base:Nat}{S:List Nat}(h:CtR w t i l j g base)(k:Keep S w w')(f:∀q∈S,q∉i.ownBlock.toList++(l.ownBlock.toList++(j.ownBlock.toList++g.ownBlock.toList))):CtR w' t i l j g base:=
 ⟨h.mem.keep k (fun b c e=>f b e (by simp[c])),h.dest.keep k (fun b c e=>f b e (by simp[c])),h.nodes.keep k (fun b c e=>f b e (by simp[c])),h.done.keep k (fun b c e=>f b e (by simp[c])),h.l1,h.l2,h.l3,h.memn,h.ton,h.nodesn,h.donen⟩
theorem CtOk.keep {w w':World}{x:CtP}{a:Au}{B s g sb base n:Nat}{i l j e:Value}{f:Int→Option Int}{S:List Nat}(h:CtOk w x a B s g sb i l j e base n f)(k:Keep S w w')(c:∀q∈S,q∉Qf x s g sb i l j e):CtOk w' x a B s g sb i l j e base n f:=
 ⟨h.ct.keep k (fun b=>c _ b (by simp[Qf])),h.rows.keepF k (fun q m b=>c q m (by simp only[Qf,Ac];simp[b])),AJ h.base_ k.size,h.dev.keep k (fun b=>c _ b (by simp[Qf])) (fun b=>c _ b (by simp[Qf])) (fun b=>c _ b (by simp[Qf])),h.gr.keep k (fun b=>c _ b (by simp[Qf])),h.few,h.rel⟩
theorem CtOk.lt {w:World}{x:CtP}{a:Au}{B s g sb base n:Nat}{i l j e:Value}{f:Int→Option Int}(h:CtOk w x a B s g sb i l j e base n f):∀q∈Qf x s g sb i l j e,q<w.heap.size:=by
 intro q b;obtain⟨L,k,turn,o,c,m,_⟩:=h.dev;simp only[Qf,Ac,Ag]at b;rcases b with rfl|rfl|rfl|rfl|rfl|b|b|b|b
 ·exact Blk.lt h.ct
 ·exact m.lt
 ·exact h.gr.lt
 ·exact c.dev.lt
 ·exact c.secs.lt
 ·exact(h.rows.mem.lt q (Ae.1 b)).2
 ·exact(h.rows.dest.lt q (Ae.1 b)).2
 ·exact(h.rows.nodes.lt q (Ae.1 b)).2
 ·exact(h.rows.done.lt q (Ae.1 b)).2
def Ni (x:CtP)(a:Au)(B:Nat):As:=⟨fun F w=>∃(s g sb:Nat) (c i e b:Value) (base n:Nat) (f:Int→Option Int),F=Qf x s g sb c i e b∧CtOk w x a B s g sb c i e b base n f,
 fun⟨s,g,sb,c,i,e,b,base,n,f,hF,h⟩ k j=>⟨s,g,sb,c,i,e,b,base,n,f,hF,h.keep k (hF▸j)⟩,fun⟨s,g,sb,c,i,e,b,base,n,f,hF,h⟩=>hF▸h.lt⟩
def Qc (d i:Nat):As:=⟨fun F w=>∃(sb:Nat) (L:List Sec) (c:Nat),F=[d,sb]∧IsDev w d sb L c∧L.length=i∧c≤2,
 fun⟨sb,L,c,hF,h,e⟩ k g=>⟨sb,L,c,hF,h.keep k (fun b=>g _ b (by rw[hF];simp)) (fun b=>g _ b (by rw[hF];simp)),e⟩,fun⟨sb,L,c,hF,h,e⟩ q f=>by
  rw[hF]at f;simp only[Ac,Am,AG]at f;rcases f with rfl|rfl
  ·exact h.dev.lt
  ·exact h.secs.lt⟩
def Au.new (mem:List Nat):Au:=⟨1,1,mem,0,0,[],[],0,[],[]⟩
section
variable {R:List As} {w w':World} {x:CtP} {a:Au} {B t p d:Nat} {L M:List Wm}
theorem XC (h:Sp (Qc d 2::R) w)(l:Value)(mem:List Nat)(C:Rv w 1 l (mem.map Int.ofNat).length (ints (mem.map Int.ofNat)))(D:nodesOk (mem.map Int.ofNat)=true):Calls Tryz.prog 67 #[pr d 0,l] w fun e w'=>∃c kb,e=.returned (.tuple #[pr c 0,.int .i64 0])∧
  w'.cell? ⟨c,0,none⟩=some (pr kb 0)∧Sp (Ni ⟨c,kb,d⟩ (Au.new mem) 0::AF kb 0::R) w':=by
 obtain⟨F,⟨sb,L,k,rfl,A,N,K⟩,E⟩:=h.step;refine(WK (B:=2) A (by omega) (by omega) (by decide) l _ C D).mono ?_;rintro e w' ⟨c,kb,s,g,m,rfl,j,r,n,o,b,H,Q,S,T,U,V,I⟩;have y:w'.cell? ⟨c,0,none⟩=some (pr kb 0):=Blk.cell j 0
 have z:∀q∈Qf ⟨c,kb,d⟩ s g sb m (.slice none 0 0) (.slice none 0 0) (.slice none 0 0),q∉ [kb]:=fun q f v=>by
  rw[Ah]at v;subst v;simp only[Qf,Ac,Ag]at f;obtain⟨J,O,turn,P,u,G,_⟩:=n;rcases f with e|e|e|e|e|e|e|e|e
  ·exact b.blk.ty.ne (Blk.ty j) (by decide) e
  ·exact b.blk.ty.ne G.weak.ty (by decide) e
  ·exact o.ne b.blk.ty e
  ·exact b.blk.ty.ne u.dev.ty (by decide) e
  ·exact b.blk.ty.ne u.secs.ty (by decide) e
  ·exact b.blk.ty.ne (r.mem.ty _ (Ae.1 e)) (by decide) rfl
  ·cases e
  ·cases e
  ·cases e
 refine⟨c,kb,rfl,y,E [Ni ⟨c,kb,d⟩ (Au.new mem) 0,AF kb 0] w' (Qf ⟨c,kb,d⟩ s g sb m (.slice none 0 0) (.slice none 0 0) (.slice none 0 0)++[kb])
  ⟨_,_,rfl,⟨s,g,sb,m,.slice none 0 0,.slice none 0 0,.slice none 0 0,w'.heap.size,0,_,rfl,⟨j,r,Av _,n.weak,o,Av _,fun i=>rfl⟩⟩,⟨[kb],[],rfl,⟨rfl,b⟩,rfl,by simp⟩,z⟩ H (fun q f=> ?_)⟩
 simp only[Qf,Ag,Ac,Am,AG]at f⊢;rcases f with(e|e|e|e|e|e|e|e|e)|e
 ·right;omega
 ·right;omega
 ·right;omega
 ·left;left;exact e
 ·left;right;exact e
 ·right;exact I q (Ae.1 e)
 ·cases e
 ·cases e
 ·cases e
 ·right;omega
theorem Od (h:Sp (Ni x a B::R) w)(i:a.num=0):Calls Tryz.prog 89 #[pr x.c 0] w fun e w'=>e=.returned (.slice none 0 0)∧w'=w:=by obtain⟨F,⟨s,g,sb,l,o,m,k,base,n,f,rfl,b⟩,j⟩:=h.one;exact Wa (UP b.ct (by show(a.num:Int)=0;omega))
theorem ct_under (h:Sp (Ni x a B::R) w):Calls Tryz.prog 80 #[pr x.c 0] w fun e w'=>e=.returned (.int .i64 (a.num:Int))∧w'=w:=by obtain⟨F,⟨s,g,sb,k,m,l,j,base,n,f,rfl,b⟩,i⟩:=h.one;exact Wa (Under_any b.ct)
theorem Wr {y:Tm}{m:Wm}(h:Sp (Ni x a B::AF x.kb t::Gs y::R) w)(l:y.m=wmMs m)(A:m.Ok)(hd:m.dst=0)(hk:m.kind=1)(b:m.seq=0)(G:a.mem.contains m.src=true)(hl:m.src≠a.lost)(hB:B≤1000000):
  Calls Tryz.prog 106 #[pr x.c 0,.agg (Cm y).toArray] w fun e w'=>∃v o,e=.returned v∧(∀z∈o,TmOk w' z)∧o.map (·.m)=(a.renew t m).2.map wmMs∧
   Sp (BF 175 21 v o.length (tc o)::Ni x (a.renew t m).1 (B+1)::AF x.kb t::Gs y::R) w':=by
 have aj:a.renew t m=({a with gr:=Au.setGr a.gr m.src t},[a.member 2 m.src m.tick]):=by
  unfold Au.renew;have P:¬(a.epoch<m.seq∧m.seq≠a.num):=by omega
  rw[Aw P,Ay (by rw[G];simp[hl])];rfl
 rw[aj];have ae:=(h.pull 1).clock
 obtain⟨Fy,ai⟩:∃F,MqOk w F y:=by obtain⟨F,hF,_⟩:=(h.pull 2).one;exact⟨F,hF.1⟩
 have Q:(m.src:Int)∈a.mem.map Int.ofNat:=AI.2 ⟨m.src,by simpa using G,rfl⟩;have am:=A.small;obtain⟨F,⟨s,g,sb,J,N,K,I,base,n,f,rfl,r⟩,hs⟩:=h.step
 have an:m.src≤5:=by have ag:=A.may;have:=AI.2 ⟨m.src,(by simpa using G:m.src∈a.mem),(rfl:Int.ofNat m.src=(m.src:Int))⟩;have Z:=r.rows.memn;exact(Xx ag).1
 have ah:0<(auCt a).mem.length :=by show 0<(a.mem.map Int.ofNat).length;exact List.length_pos_of_mem Q
 rw[show(Value.agg (Cm y).toArray)=Yi y.m (.slice none 0 0) (.slice none 0 0) y.vm y.vo from rfl];refine KB r.ct y.m _ _ _ _ ai.rd (by rw[l];exact A.sz) (by rw[l];exact A.may) (by rw[l];show(m.dst:Int)=0;omega) (by rw[l];show(m.kind:Int)=1;omega) _ (fun w2 C=> ?_);have j:=r.keep C (by simp);refine(OO j.ct j.rows j.gr (ae.keep C (by simp)) y.m _ _ _ _ (by rw[l];show(m.seq:Int)≤(a.epoch:Int);omega) (by rw[l];exact Q) (by rw[l];show(m.src:Int)≠(a.lost:Int);omega) (by rw[l];show II (m.src:Int);unfold II;omega) ah (by have:=j.few;unfold maxLen;omega)).mono ?_;rintro e w' ⟨v,o,rfl,D,ac,aa,ad,ab,ak,T⟩;refine⟨_,rfl,v,o,rfl,D.ok, ?_, ?_⟩
 ·rw[ac,l]
  rfl
 ·have V:Keep (Qf x s g sb J N K I) w w':=(C.mono (by simp)).trans (T.mono (fun q b _=>by rw[Ah]at b;subst b;simp[Qf]))
  have S:=D.lt;have af:=r.lt;have al:=C.size
  refine hs [BF 175 21 v o.length (tc o),Ni x {a with gr:=Au.setGr a.gr m.src t} (B+1)] w' (v.ownBlock.toList++Qf x s g sb J N K I)
   ⟨_,_,rfl,⟨rfl,Hd D.own (AA _)⟩,⟨_,[],(AE _).symm,⟨s,g,sb,J,N,K,I,base,n+1,_,rfl,⟨aa,ad,AJ r.base_ V.size,j.dev.keep T ?_ ?_ ?_,ab,by have:=r.few;omega,fun i=> ?_⟩⟩,rfl,by simp⟩,fun q b k=> ?_⟩ V (fun q b=> ?_)
  ·intro k
   rw[Ah]at k;obtain⟨O,U,turn,W,u,H,_⟩:=j.dev;exact j.gr.ne u.dev.ty k
  ·intro k
   rw[Ah]at k;obtain⟨O,U,turn,W,u,H,_⟩:=j.dev;exact j.gr.ne u.secs.ty k
  ·intro k
   rw[Ah]at k;obtain⟨O,U,turn,W,u,H,_⟩:=j.dev;exact j.gr.ne H.ty k
  ·rw[l]
   show(if(i:Int)=(m.src:Int)then some (t:Int)else f (i:Int))=_;unfold Au.setGr;rw[List.find?_cons];by_cases E:i=m.src
   ·subst E;simp
   ·have X:¬((i:Int)=(m.src:Int)):=by omega
    rw[Aw X,r.rel i];have Y:decide (m.src=i)=false:=Ak (fun e=>E e.symm);simp only[Y];rw[List.find?_filter]
    congr 1
    congr 1
    funext q
    by_cases b:q.1=i
    ·simp[b,E]
    ·simp[b]
  ·have P:=(S q (Ae.1 b)).1
   have Z:=af q k;omega
  ·rcases Ag.1 b with b|b
   ·right
    have:=(S q (Ae.1 b)).1;omega
   ·exact .inl b
theorem NK {Q:Value}{i:List Tm}(h:Sp (CI p L::BF 175 21 Q i.length (tc i)::R) w)(u:∀z∈i,TmOk w z)(r:i.map (·.m)=M.map wmMs) (A:∀m∈M,m.Ok) (N:L.length+M.length≤300):
  Calls Tryz.prog 88 #[pr p 0,Q] w fun e w'=>e=.returned (.int .i64 (M.length:Int))∧Sp (CI p (L++M)::R) w':=by
 obtain⟨E,F2,⟨v,I,T,hF,s,K⟩,⟨U,aa⟩,Y,hs⟩:=h.two;have ac:L.length=T.length:=by have:=A3 List.length K;simpa using this.symm
 have Z:M.length=i.length:=by have:=A3 List.length r;simpa using this.symm
 have O:∀y∈i,∃m∈M,y.m=wmMs m:=fun y f=>by have g:y.m∈i.map (·.m):=AI.2 ⟨y,f,rfl⟩;rw[r]at g;obtain⟨m,j,e⟩:=AI.1 g;exact⟨m,j,e.symm⟩
 obtain⟨J,G⟩:∃J:List Nat,J=(i.map (fun y=>y.vm.ownBlock.toList++y.vo.ownBlock.toList)).flatten :=⟨_,rfl⟩
 have H:∀y∈i,∀q,(y.vm.ownBlock=some q∨y.vo.ownBlock=some q)→q∈J:=fun y f q c=>by rw[G,DY];exact⟨_,AI.2 ⟨y,f,rfl⟩,by rcases c with h|h<;>simp[h]⟩
 have o:∀q∈J,Ty w q 3:=fun q c=>by
  rw[G,DY]at c;obtain⟨l,N,c⟩:=c;obtain⟨y,f,rfl⟩:=AI.1 N;rcases Ag.1 c with c|c
  ·exact(u y f).mem.ty q (Ae.1 c)
  ·exact(u y f).old.ty q (Ae.1 c)
 have P:p∈E:=by rw[hF];simp[He]
 have D:∀q,v.ownBlock=some q→q∈E:=fun q c=>by rw[hF];simp only[He,Ac,Ag];exact .inr (.inl (Ae.2 c))
 rw[Z];refine(Ke s aa (J:=J) (fun y f=>(u y f).mq (fun b n=>H y f b (.inl n)) (fun b n=>H y f b (.inr n))) (fun y f=> ?_) (fun y f=> ?_) (by omega) (fun b n C=> ?_) (fun q c=>⟨?_, ?_,(o q c).lt⟩)).mono ?_
 ·obtain⟨m,j,e⟩:=O y f
  rw[e];have:=(A m j).small;simpa[wmMs]using this
 ·obtain⟨m,j,e⟩:=O y f
  rw[e];exact⟨(A m j).may,(A m j).sz⟩
 ·exact Y b (D b C) (by rw[U,n];simp)
 ·exact(o q c).ne s.blk.ty (by decide)
 ·intro C
  exact(o q c).ne (s.vty q C) (by decide) rfl
 ·rintro e w' ⟨S,F,L2,rfl,X,W,k,ab,V⟩
  refine⟨rfl,hs [CI p (L++M)] _ (He p S F) ⟨_,[],(AE _).symm,⟨S,F,_,rfl,X, ?_⟩,rfl,by simp⟩ (k.mono (fun q c _=> ?_)) (fun q c=> ?_)⟩
  ·rw[AL,AL,K,W,r]
  ·rw[Ag];left
   rcases Ac.1 c with rfl|c
   ·exact P
   ·exact D q (Ae.1 c)
  ·simp only[He,Ac,Ag]at c
   rcases c with rfl|c|c
   ·exact .inl (A2 _ P)
   ·rcases ab q (Ae.1 c)with g|g
    ·exact .inl (A2 _ (D q g))
    ·exact .inr g
   ·rcases V q c with g|g
    ·exact .inl (A2 _ (by rw[hF];simp only[He,Ac,Ag];exact .inr (.inr g)))
    ·exact .inr g
end
section
variable {w w':World}
theorem OV (k v:Str)(b:itMay k v 0 false=true):Fp (BM [(k,v,0,false)])=some [(k,v,0,false)]:=by
 refine Uj _ (fun h=> ?_);have:=Im k v b;rw[h]at this;have c:(FR.put k v).body.length =(BM [(k,v,0,false)]).length +1:=rfl
 have e:BM [(k,v,0,false)]=Dc (k,v,0,false):=by unfold BM;rw[Ay (by simp[Dj,b])];simp[CE]
 have a:(Dc (k,v,0,false)).length =(B8 [k,v]).length +(BL [(0:Int),gN false]).length :=by unfold Dc;rw[Aj]
 have d:=FG k v;rw[e]at h;rw[h]at a;simp only[List.length_nil]at a;omega
theorem RG (k v:Str)(M:itMay k v 0 false=true)(B:Value)(h:Rd w B (FR.put k v).body):Calls Tryz.prog 248 #[B] w fun e w'=>e=.returned (.tuple #[L7 k v 0 false,.bool true])∧Keep [] w w':=by
 obtain⟨i8,Y,ag,ac,ah⟩:=AU In;obtain⟨E,s⟩:∃E,E=BM [(k,v,0,false)]:=⟨_,rfl⟩;have K:(FR.put k v).body =1::E:=by rw[s];rfl
 have j:=Im k v M;have u:=Jt k v;have x:=OV k v M;rw[←s]at x;rw[K]at h j u;obtain⟨n,d⟩:∃n,n=(1::E).length :=⟨_,rfl⟩;have H:E.length+1=n:=by rw[d];rfl
 have Z:1≤n∧n≤300:=by rw[d];exact⟨j.1,j.2.1⟩
 have G:∀c∈E,c<256:=fun c V=>u c (Ap _ V)
 have t:=h;obtain⟨sb,so,cap,rfl,W,ab,I⟩:=h.at1 (by simp);have C:=I 0 (by simp);have D:w.cell? ⟨sb,so,none⟩=some (.int .u8 1):=by simpa[Bb,bc]using C
 rw[←d]at t W⊢;have q0:¬(n:Int)<1:=by omega
 obtain⟨o,f⟩:∃o,o=w.alloc (.cells #[.string {data:=#[]},.string {data:=#[]},.int .i64 0,.bool false] 171):=⟨_,rfl⟩;have m:Keep [] w o:=by rw[f];exact(By _ _).alloc _
 have J:Blk o w.heap.size (E8 ByteArray.empty ByteArray.empty 0 false) 171:=by rw[f];exact BY w _ _
 have c1:=m.cell1' D;rw[f]at c1;have N:=t.keep m (by simp);have r:=h_3 (rfl:0=0) J m;have A:=h_2 N d;have i:=h_4 x H Z G;clear h t j u x J m N C D I ab H G d s K;rw[f]at A r;clear f;go_enter Tryz.func248,Tryz.ntmps248
 go_wp2_with (refine Et _ _ _ _ _ _ _ 5 i8 Ao Y ac _ _ _ _ 1 rfl rfl rfl A.out.1 (by simp) ?_;intro P O aa)
 have y:Rd (w.alloc (.cells #[.string {data:=#[]},.string {data:=#[]},.int .i64 0,.bool false] 171)) P E:=O;have R:=h_ (NT (w:=(w.alloc (.cells #[.string {data:=#[]},.string {data:=#[]},.int .i64 0,.bool false] 171))) P E y i.out.2.2.2 (by have:=i.out.2;omega));obtain⟨_,a1,ad,rfl,_,_⟩:=id y;clear y O aa c1;refine R.out.mono ?_;rintro e p ⟨z,T⟩;rcases T with⟨l,v2,a,rfl,F⟩|⟨a,rfl⟩
 ·rw[i.out.1]at a
  injection a with a;subst a;obtain⟨g,ae,spare,rfl,_,X,b,_,_⟩:=E4 F (by simp);have L:=r.out.2.1.keep z (by simp);have d0:p.cell? ⟨g,0,none⟩=some (.string k):=b.cell 0;have d1:p.cell? ⟨g,1,none⟩=some (.string v):=b.cell 1;have d2:p.cell? ⟨g,2,none⟩=some (.int .i64 0):=b.cell 2;have d3:p.cell? ⟨g,3,none⟩=some (.bool false):=b.cell 3;have Q:=h_ L;have S:=h_ (r.out.2.2.trans z);clear L F b X z
  go_wp2_with (refine AS rfl _ _ _ rfl w.heap.size (E8 ByteArray.empty ByteArray.empty 0 false) (E8 k v 0 false) 171 rfl rfl Q.out rfl If (EJ _ _ _ _) ?_;intro w5 U k5)
  have kf:Keep [] w w5:=S.out.then k5 (fun q hq af=>by simp only[Ah]at hq;omega);refine Be (v:= .tuple #[L7 k v 0 false,.bool true]) ?_ rfl ⟨rfl,kf⟩;exact Co Tryz.results248 _ _ w.heap.size 171 _ (0,0) _ rfl U Em rfl If _ rfl
 ·rw[i.out.1]at a;cases a
end
theorem LogOk.sizesG {w:World}{B lb d frm segs j k q:Nat}{i:Bool}{vl:Value}{l:List Sg}{L:List Sec}(h:LogOk w B lb d frm segs j k i vl l L q)(a:segs≤199):(l.length≤1000∧∀s∈l,s.recs.length≤1000)∧(∀s∈l,∀r∈s.rs,r.ok)∧∀s∈l,Q9 s.recs:=by
 have e:∀s∈l,s.ps∈l.map Sg.ps:=fun s a=>AI.2 ⟨s,a,rfl⟩
 refine⟨⟨by have:=h.say.len;simp at this;omega,fun s a=> ?_⟩,fun s a=>(h.say.ok _ (e s a)).1,fun s a=> ?_⟩
 ·have f:=Ik s.rs (h.say.ok _ (e s a)).1
  have g:(encRs s.rs).length ≤378:=(h.say.ok _ (e s a)).2.1;have b:s.rs.length=s.recs.length:=by simp[Sg.rs]
  omega
 ·have f:=h.say.pos
  have g:s.rs.Sublist ((l.map Sg.ps).flatMap PS.rs):=by rw[←LH];have:=Ki Sg.rs (List.singleton_sublist.2 a);simpa using this
  have b:=f.sublist g;unfold Sg.rs at b;rw[List.pairwise_map]at b;exact b
theorem Tl {R:List Rcd}(h:R.Pairwise (fun a b=>a.1<b.1)){a b:Rcd}(k:a∈R)(m:b∈R)(n:a.1=b.1):a=b:=by
 obtain⟨i,f,rfl⟩:=Dq k;obtain⟨j,g,rfl⟩:=Dq m;rw[DB]at h;rcases Nat.lt_trichotomy i j with e|e|e
 ·have:=h i j f g e;omega
 ·subst e;rfl
 ·have:=h j i g f e;omega
section
variable {w w':World} {B cb lb xb xg d sb c frm segs t cnt used:Nat} {vl bv:Value} {l:List Sg} {L:List Sec} {T:Tab} {R:List (Nat×FR)}
theorem FlOk.read (h:FlOk w B cb lb xb xg d frm segs t vl l L T cnt used R)(i:20≤segs∧segs≤199)(E:t≤1000000)(pos:Nat)(r:FR)(g:(pos,r)∈R):
  Calls Tryz.prog 279 #[pr lb 0,.int .i64 (pos:Int)] w fun e w'=>∃v,e=.returned (.tuple #[v,.int .i64 0])∧Buf w' w.heap.size 5 v r.body∧Keep [] w w':=by
 obtain⟨G,I,y,q,a,z,A,C,D,k⟩:=h.log;obtain⟨j,F⟩:=h.tail.wholeG a.say i.1 h.few;rw[←LH]at j;have p:=k _ g;simp only at p;have b:=a.sizesG i.2;refine(UL a.at_ b.1 b.2.1 b.2.2 pos (by omega)).mono ?_;rintro e J ⟨n,x⟩
 have f:(pos,r.body)∈l.flatMap Sg.rs:=by rw[j];exact AI.2 ⟨(pos,r),g,rfl⟩
 rcases n with⟨v,H,rfl,u,s,m⟩|⟨rfl,o⟩
 ·have:=Tl (by have:=a.say.pos;rw[←LH]at this;exact this) u f s
  subst this;exact⟨v,rfl,m,x⟩
 ·exact absurd rfl (o _ f)
theorem NY (h:FlOk w B cb lb xb xg d frm segs t vl l L T cnt used R)(key:Str)(x:key.size≤1000)(y:rpF R key=none)(D:used<T.length):
  Calls Tryz.prog 258 #[pr cb 0,.string key] w fun e w'=>e=.returned (.tuple #[L7 ByteArray.empty ByteArray.empty 0 false,.bool false])∧Keep [] w w':=by
 have b:=h.find key;rw[y]at b;simp only at b
 obtain⟨s,_⟩:=Na b h.tab.pos (by obtain⟨p,z,A,_⟩:=h.tab.free D;exact⟨p,z,A⟩)
 obtain⟨a,f⟩:∃a,a=w.alloc (.cells #[.string {data:=#[]},.string {data:=#[]},.int .i64 0,.bool false] 171):=⟨_,rfl⟩;have g:Keep [] w a:=by rw[f];exact(By _ _).alloc _
 have j:Blk a w.heap.size (E8 ByteArray.empty ByteArray.empty 0 false) 171:=by rw[f];exact BY w _ _
 have i:=h.still g;have c1:a.cell? ⟨cb,1,none⟩=some (pr xb 0):=i.blk.cell 1;have o:=h_ (R9 i.idx key x s);rw[f]at c1 o j g;have m:=h_2 j g;clear h b s i j g f;go_enter Tryz.func258,Tryz.ntmps258;go_wp2_with fail;refine o.out.mono ?_;rintro e I ⟨rfl,k⟩;have r:=m.out.1.keep k (by simp);have n:=h_2 r (m.out.2.trans k);clear r k
 go_wp2_with (refine AS rfl _ _ _ rfl w.heap.size (E8 ByteArray.empty ByteArray.empty 0 false) (E8 ByteArray.empty ByteArray.empty 0 false) 171 rfl rfl n.out.1 rfl If (EJ _ _ _ _) ?_;intro G u E)
 have F:Keep [] w G:=n.out.2.then E (fun q C H=>by simp only[Ah]at C;omega);refine Be (v:= .tuple #[L7 ByteArray.empty ByteArray.empty 0 false,.bool false]) ?_ rfl ⟨rfl,F⟩;exact Co Tryz.results258 _ _ w.heap.size 171 _ (0,0) _ rfl u Em rfl If _ rfl
theorem NX (h:FlOk w B cb lb xb xg d frm segs t vl l L T cnt used R)(M:20≤segs∧segs≤199)(N:t≤1000000)(key:Str)(W:key.size≤1000)(pos:Nat)(v:Str)(K:rpF R key=some (pos,v)):
  Calls Tryz.prog 258 #[pr cb 0,.string key] w fun e w'=>e=.returned (.tuple #[L7 key v 0 false,.bool true])∧Keep [] w w':=by
 have o:=h.find key;rw[K]at o;simp only at o;obtain⟨i,x,I,O,P⟩:=o;have r:=N7 K;have J:=h.may _ r key v rfl;obtain⟨a,g⟩:∃a,a=w.alloc (.cells #[.string {data:=#[]},.string {data:=#[]},.int .i64 0,.bool false] 171):=⟨_,rfl⟩;have j:Keep [] w a:=by rw[g];exact(By _ _).alloc _
 have m:Blk a w.heap.size (E8 ByteArray.empty ByteArray.empty 0 false) 171:=by rw[g];exact BY w _ _
 have f:=h.still j;have c1:a.cell? ⟨cb,1,none⟩=some (pr xb 0):=f.blk.cell 1;have p:=R8 f.idx key W i x I O;rw[P]at p;obtain⟨C,y⟩:=i_2 p f;rw[g]at c1 C m j y;have z:=h_2 m j;have b:=h_4 r J M N;clear h I f m j g p r J O P M N;go_enter Tryz.func258,Tryz.ntmps258;go_wp2_with fail;refine C.out.mono ?_;rintro e w2 ⟨rfl,s⟩;have k:=y.out.still s;have c2:w2.cell? ⟨cb,0,none⟩=some (pr lb 0):=k.blk.cell 0;have U:=h_ (k.read b.out.2.2.1 b.out.2.2.2 pos _ b.out.1);have S:=h_ s;clear k s c1;go_wp2_with fail;refine U.out.mono ?_;rintro e w3 ⟨bv,rfl,n,Q⟩;obtain⟨ba,bc,rfl⟩:=n.slice;have E:=h_ (RG key v b.out.2.1 _ n.rd);have D:=h_ (S.out.trans Q);obtain⟨F,G⟩:∃F,F=(FR.put key v).body.length :=⟨_,rfl⟩;rw[←G]at E⊢;clear n Q c2 G;go_wp2_with fail;refine E.out.mono ?_;rintro e w4 ⟨rfl,u⟩;have H:=z.out.1.keep (D.out.trans u) (by simp);have A:=h_2 H (z.out.2.trans (D.out.trans u));clear H u
 go_wp2_with (refine AS rfl _ _ _ rfl w.heap.size (E8 ByteArray.empty ByteArray.empty 0 false) (E8 key v 0 false) 171 rfl rfl A.out.1 rfl If (EJ _ _ _ _) ?_;intro w5 V Y)
 have Z:Keep [] w w5:=A.out.2.then Y (fun q X aa=>by simp only[Ah]at X;omega);refine Be (v:= .tuple #[L7 key v 0 false,.bool true]) ?_ rfl ⟨rfl,Z⟩;exact Co Tryz.results258 _ _ w.heap.size 171 _ (0,0) _ rfl V Em rfl If _ rfl
end
section
variable {w w':World} {B cb lb xb xg d sb c frm segs t cnt used:Nat} {vl bv:Value} {l:List Sg} {L:List Sec} {T:Tab} {R:List (Nat×FR)}
theorem RJ (h:FlOk w B cb lb xb xg d frm segs t vl l L T cnt used R)(key:Str)(u:key.size≤1000)(y:rpF R key=none)(z:used<T.length)(D:Int):
  Calls Tryz.prog 227 #[pr cb 0,.string key,.int .i64 D] w fun e w'=>e=.returned (.tuple #[L7 ByteArray.empty ByteArray.empty 0 false,.bool false])∧Keep [] w w':=by
 have g:Keep [] w (w.alloc (.cells #[.string {data:=#[]},.string {data:=#[]},.int .i64 0,.bool false] 171)):=(By _ _).alloc _;have k:Blk (w.alloc (.cells #[.string {data:=#[]},.string {data:=#[]},.int .i64 0,.bool false] 171)) w.heap.size (E8 ByteArray.empty ByteArray.empty 0 false) 171:=BY w _ _;have r:=h_ (NY (h.still g) key u y z);have j:=h_2 k g;clear h k g;go_enter Tryz.func227,Tryz.ntmps227;go_wp2_with fail;refine r.out.mono ?_;rintro e b ⟨rfl,i⟩;have n:=j.out.1.keep i (by simp);have o:Keep [] b (b.alloc (.cells #[.string {data:=#[]},.string {data:=#[]},.int .i64 0,.bool false] 171)):=(By _ _).alloc _;have m:Blk (b.alloc (.cells #[.string {data:=#[]},.string {data:=#[]},.int .i64 0,.bool false] 171)) b.heap.size (E8 ByteArray.empty ByteArray.empty 0 false) 171:=BY b _ _;have a:=h_4 n (j.out.2.trans i) m o;clear n i m o
 go_wp2_with (first|(refine AS rfl _ _ _ rfl b.heap.size (E8 ByteArray.empty ByteArray.empty 0 false) (E8 ByteArray.empty ByteArray.empty 0 false) 171 rfl rfl a.out.2.2.1 rfl If (EJ _ _ _ _) ?_;intro G F p)|(refine AS rfl _ _ _ rfl w.heap.size (E8 ByteArray.empty ByteArray.empty 0 false) (E8 ByteArray.empty ByteArray.empty 0 false) 171 rfl rfl ((a.out.1.keep a.out.2.2.2 (by simp)).keep p (by have:=a.out.1.lt;simp;omega)) rfl If (EJ _ _ _ _) ?_;intro E s A))
 have C:Keep [] w E:=((a.out.2.1.trans a.out.2.2.2).then p (fun q f x=>by have:=a.out.2.1.size;simp only[Ah]at f;omega)).then A (fun q f x=>by simp only[Ah]at f;omega);refine Be (v:= .tuple #[L7 ByteArray.empty ByteArray.empty 0 false,.bool false]) ?_ rfl ⟨rfl,C⟩;exact Co Tryz.results227 _ _ w.heap.size 171 _ (0,0) _ rfl s Em rfl If _ rfl
theorem RI (h:FlOk w B cb lb xb xg d frm segs t vl l L T cnt used R)(Q:20≤segs∧segs≤199)(S:t≤1000000)(key:Str)(O:key.size≤1000)(pos:Nat)(v:Str)(H:rpF R key=some (pos,v))(s:Int):
  Calls Tryz.prog 227 #[pr cb 0,.string key,.int .i64 s] w fun e w'=>e=.returned (.tuple #[L7 key v 0 false,.bool true])∧Keep [] w w':=by
 have m:=h.may _ (N7 H) key v rfl
 have G:key.size≤9223372036854775807∧v.size≤9223372036854775807:=by unfold itMay itKey at m;simp only[Ar,A0]at m;omega
 have M:∀W,Hid (Calls Tryz.prog 259 #[L7 key v 0 false,.int .i64 s] W fun e w'=>e=.returned (.bool true)∧Keep [] W w'):=fun W=>h_ (WM key v 0 false s G.1 G.2 true (by unfold L8;rw[m];rfl))
 have o:Keep [] w (w.alloc (.cells #[.string {data:=#[]},.string {data:=#[]},.int .i64 0,.bool false] 171)):=(By _ _).alloc _;have D:Blk (w.alloc (.cells #[.string {data:=#[]},.string {data:=#[]},.int .i64 0,.bool false] 171)) w.heap.size (E8 ByteArray.empty ByteArray.empty 0 false) 171:=BY w _ _;have K:=h_ (NX (h.still o) Q S key O pos v H);have u:=h_2 D o;clear h D o;go_enter Tryz.func227,Tryz.ntmps227;go_wp2_with fail;refine K.out.mono ?_;rintro e a ⟨rfl,p⟩;have F:=u.out.1.keep p (by simp);have I:Keep [] a (a.alloc (.cells #[.string {data:=#[]},.string {data:=#[]},.int .i64 0,.bool false] 171)):=(By _ _).alloc _;have E:Blk (a.alloc (.cells #[.string {data:=#[]},.string {data:=#[]},.int .i64 0,.bool false] 171)) a.heap.size (E8 ByteArray.empty ByteArray.empty 0 false) 171:=BY a _ _;have b:=h_4 F (u.out.2.trans p) E I;clear F p E I
 go_wp2_with (refine AS rfl _ _ _ rfl a.heap.size (E8 ByteArray.empty ByteArray.empty 0 false) (E8 key v 0 false) 171 rfl rfl b.out.2.2.1 rfl If (EJ _ _ _ _) ?_;intro i f J;have y:i.cell? ⟨a.heap.size,0,none⟩=some (.string key):=f.cell 0;have z:i.cell? ⟨a.heap.size,1,none⟩=some (.string v):=f.cell 1;have A:i.cell? ⟨a.heap.size,2,none⟩=some (.int .i64 0):=f.cell 2;have C:i.cell? ⟨a.heap.size,3,none⟩=some (.bool false):=f.cell 3)
 have k:=h_2 f J;clear f J y z A C;refine(M _).out.mono ?_;rintro e j ⟨rfl,r⟩;have g:=k.out.1.keep r (by simp);have y:j.cell? ⟨a.heap.size,0,none⟩=some (.string key):=g.cell 0;have z:j.cell? ⟨a.heap.size,1,none⟩=some (.string v):=g.cell 1;have A:j.cell? ⟨a.heap.size,2,none⟩=some (.int .i64 0):=g.cell 2;have C:j.cell? ⟨a.heap.size,3,none⟩=some (.bool false):=g.cell 3;have x:=h_ r;clear g r
 go_wp2_with (refine AS rfl _ _ _ rfl w.heap.size (E8 ByteArray.empty ByteArray.empty 0 false) (E8 key v 0 false) 171 rfl rfl (((b.out.1.keep b.out.2.2.2 (by simp)).keep k.out.2 (by have:=b.out.1.lt;simp;omega)).keep x.out (by simp)) rfl If (EJ _ _ _ _) ?_;intro X N U)
 have V:Keep [] w X:=(((b.out.2.1.trans b.out.2.2.2).then k.out.2 (fun q n P=>by have:=b.out.2.1.size;simp only[Ah]at n;omega)).trans x.out).then U (fun q n P=>by simp only[Ah]at n;omega);refine Be (v:= .tuple #[L7 key v 0 false,.bool true]) ?_ rfl ⟨rfl,V⟩;exact Co Tryz.results227 _ _ w.heap.size 171 _ (0,0) _ rfl N Em rfl If _ rfl
end
end Go.Proofs.YtnhbioehiiifdaaGreat
