import Derived.Test.YtnhbioehiiifdaaGreatD05
import Derived.Test.YtnhbioehiiifdaaGreatD07
set_option maxRecDepth 100000
set_option maxHeartbeats 16000000
set_option linter.all false
namespace Go.Proofs.YtnhbioehiiifdaaGreat
open Go.ChangeShapes Go.WideShapes Go.ChangeAt Go.RowKit
def Jg (id op:Nat)(key:Str)(a frm c:Nat)(b r:Rp)(pos:Nat)(L:Nat→Bool):Call:=⟨id,op,key,a,frm,if L 10=true then pos else c,if L 7=true then true else false,if L 13=true then r else b⟩
def endS (f:World)(g b i:Nat)(d:List Value)(M:List Call)(id op:Nat)(key:Str)(a frm e:Nat)(c r:Rp)(pos:Nat)(L:Nat→Bool)(X:Nat→Value)(W:World):Prop:=
 Keep [g] f W∧Blk W b (rpC r) 43∧Blk W g (rows caC (M.set i (Jg id op key a frm e c r pos L))++d) 87
section
variable {w w':World} {p:Nat} {v:Value} {L:List Call}
def Qw (c:Call)(pos:Nat)(r:Rp):Call:={c with done:=true,too:=pos,rp:=r}
theorem U3 (h:ClAt w p v L)(r:Rp)(pos i:Nat)(hi:r.id=i+1)(c:Call)(hc:L[i]?=some c)(J:c.done=false)(ho:c.op=r.op)(hk:c.key=r.key):
  Calls Tryz.prog 120 #[pr p 0,.agg (rpC r).toArray,.int .i64 (pos:Int)] w fun e w'=>e=.returned (.bool true)∧ClAt w' p v (L.set i (Qw c pos r))∧Keep v.ownBlock.toList w w':=by
 have a7:=h.len;have a3:=(Ai.1 hc).1;obtain⟨g,cap,sp,rfl,a4,_,al,Z,ag⟩:=E4 h.own (by omega);have a0:g≠p:=al.ty.ne h.blk.ty (by decide);obtain⟨id,op,key,z,frm,D,done,C⟩:=c;simp only at J ho hk;subst J ho hk;obtain⟨a9,d,a,k,m,l⟩:=r;simp only at hi;subst hi;have H:=h_ h;obtain⟨E,ai⟩:∃E,E=w.alloc (.cells (rpC ⟨i+1,d,a,k,m,l⟩).toArray 43):=⟨_,rfl⟩;have k1:Keep [] w E:=by rw[ai];exact(By _ _).alloc _
 have ab:Blk E w.heap.size (rpC ⟨i+1,d,a,k,m,l⟩) 43:=by rw[ai];exact BY _ _ _
 have aj:=al.keep k1 (by simp);have am:=h.blk.keep k1 (by simp);have c0:=am.cell 0
 have ae:∀j,j<13→E.cell? ⟨g,i*13+j,none⟩=(caC ⟨id,d,a,z,frm,D,false,C⟩)[j]?:=fun j hj=>by rw[aj.cell,AK (by rw[Eo CX];omega)];exact I9 CX L i _ j hc hj
 have a1:=ae 1 (by decide);have a2:=ae 2 (by decide);have a6:=ae 6 (by decide);simp only[caC,List.cons_append,List.getElem?_cons_succ,List.getElem?_cons_zero]at a1 a2 a6;have r0:E.cell? ⟨w.heap.size,0,none⟩=some (.int .i64 ((i:Int)+1)):=by rw[ab.cell];simp[rpC]
 have r1:E.cell? ⟨w.heap.size,1,none⟩=some (.int .i64 (d:Int)):=ab.cell 1;have r2:E.cell? ⟨w.heap.size,2,none⟩=some (.string a):=ab.cell 2;have q1:decide ((i:Int)+1<1)=false:=Ak (by omega);have a8:¬((i:Int)+1<1):=by omega
 have q2:decide ((L.length:Int)<(i:Int)+1)=false:=Ak (by omega);have q3:(i:Int)+1-1=(i:Int):=by omega
 have q4:i<L.length:=a3;have T:=h_6 aj am k1 ab Z ag;clear aj am k1 ab Z ag al ae h;go_enter Tryz.func120,Tryz.ntmps120;go_wp2_with fail;rw[←ai];clear ai
 go_quiet (fail)
 go_wp2_with fail;have K1:Keep [] E (E.drewN nq):=⟨rfl,rfl,rfl,Av _,fun _ _ _=>rfl⟩;have V:=h_ K1;obtain⟨w2,au⟩:∃W,W=E.drewN nq:=⟨_,rfl⟩;rw[←au]at V⊢;clear K1 au;have c0:=T.out.2.1.keep V.out (by simp)|>.cell 0;have Q:=T.out.2.2.2.1.keep V.out (by simp);have Y:=T.out.1.keep V.out (by simp);have r0:w2.cell? ⟨w.heap.size,0,none⟩=some (.int .i64 ((i:Int)+1)):=by rw[Q.cell];simp[rpC]
 have ax:=h_2 Q Y;clear Q Y a1 a2 a6 r1 r2
 go_quiet (fail)
 go_wp2_with fail;have K2:Keep [] w2 (w2.drewN nq):=⟨rfl,rfl,rfl,Av _,fun _ _ _=>rfl⟩;have ac:=h_ K2;obtain⟨F,av⟩:∃W,W=w2.drewN nq:=⟨_,rfl⟩;rw[←av]at ac⊢;clear K2 av;obtain⟨Q,Y⟩:=ax.out;have ah:=Q.keep ac.out (by simp);have ak:=Y.keep ac.out (by simp)
 have af:∀j,j<13→F.cell? ⟨g,i*13+j,none⟩=(caC ⟨id,d,a,z,frm,D,false,C⟩)[j]?:=fun j hj=>by rw[ak.cell,AK (by rw[Eo CX];omega)];exact I9 CX L i _ j hc hj
 have a1:F.cell? ⟨g,i*13+1,none⟩=some (.int .i64 (d:Int)):=af 1 (by decide);have a2:F.cell? ⟨g,i*13+2,none⟩=some (.string a):=af 2 (by decide);have a6:F.cell? ⟨g,i*13+6,none⟩=some (.bool false):=af 6 (by decide);have r1:F.cell? ⟨w.heap.size,1,none⟩=some (.int .i64 (d:Int)):=ah.cell 1;have r2:F.cell? ⟨w.heap.size,2,none⟩=some (.string a):=ah.cell 2;have ap:=h_2 ah ak;clear Q Y ah ak af r0 c0
 go_quiet (fail)
 go_wp2_with fail;have K3:Keep [] F (F.drewN nq):=⟨rfl,rfl,rfl,Av _,fun _ _ _=>rfl⟩;have ad:=h_ K3;obtain⟨w4,aw⟩:∃W,W=F.drewN nq:=⟨_,rfl⟩;rw[←aw]at ad⊢;clear K3 aw;have R:=h_2 (ap.out.1.keep ad.out (by simp)) (ap.out.2.keep ad.out (by simp));have az:=h_ (T.out.2.2.1.trans (V.out.trans (ac.out.trans ad.out)));obtain⟨rb,an⟩:∃rb,rb=w.heap.size:=⟨_,rfl⟩;rw[←an]at R⊢;have a5:=h_ an;have ao:rb≠g:=R.out.1.ty.ne R.out.2.ty (by decide);clear an a1 a2 a6 r1 r2;refine wM (A:=[0,0,0,0,0,1,33,97,235,491,1003,2047,4095,8191]) 9344 [fun _=>pr g (i*13),fun _=>pr g (i*13),fun _=>pr g (i*13),fun _=> .int .i64 (pos:Int),fun _=> .agg (rpC ⟨i+1,d,a,k,m,l⟩).toArray,fun _=>pr g (i*13),fun _=>pr g (i*13+6),fun _=>undef,fun _=>pr g (i*13),fun _=>pr g (i*13+5),fun _=>undef,fun _=>pr g (i*13),fun _=>pr g (i*13+7),fun _=>undef] (endS w4 g rb i sp L id d a z frm D C ⟨i+1,d,a,k,m,l⟩ pos) ?start (.s ?m0<|.s ?m1<|.s ?m2<|.s ?m3<|.s ?m4<|.s ?m5<|.s ?m6<|.t ?m7<|.s ?m8<|.s ?m9<|.t ?m10<|.s ?m11<|.s ?m12<|.t ?m13<|.nil) ?fin
 case start=>
  intro X;refine⟨(By _ _).drew,R.out.1.drew, ?_⟩
  have e:L.set i (Jg id d a z frm D C ⟨i+1,d,a,k,m,l⟩ pos (fun _=>false))=L:=by
   have e2:Jg id d a z frm D C ⟨i+1,d,a,k,m,l⟩ pos (fun _=>false)=⟨id,d,a,z,frm,D,false,C⟩:=by simp[Jg]
   rw[e2];have:=(Ai.1 hc).2;rw[←this];exact List.set_getElem_self _
  rw[e];exact R.out.2.drew
 case fin=>
  intro U X w5 I J;have d7:=J 7 (by decide) (by decide);have aq:=J 10 (by decide) (by decide);have ar:=J 13 (by decide) (by decide);obtain⟨o,q,f⟩:=I;have e:Jg id d a z frm D C ⟨i+1,d,a,k,m,l⟩ pos U=Qw ⟨id,d,a,z,frm,D,false,C⟩ pos ⟨i+1,d,a,k,m,l⟩:=by simp[Jg,Qw,d7,aq,ar]
  rw[e]at f;have kf:Keep [g] w w5:=(az.out.mono (by simp)).then o (fun x hx _=>hx);have ay:=h_2 f kf;clear o q f e kf J d7 aq ar;simp[Al,Act.put,FK,Ab];go_wp2;go_ret;obtain⟨f,kf⟩:=ay.out;obtain⟨_,_,_,_,Z,ag⟩:=T.out;refine⟨rfl,⟨H.out.blk.keep kf (by simpa using a0.symm), ?_,by rw[Bi];exact H.out.len⟩,kf⟩;rw[Bi];refine Yy f (by rw[Eo CX,Bi]) a4 ?_ ag (AA _);rw[Eo CX,Bi];rw[Eo CX]at Z;exact Z
 case' m7|m10|m13=>intro U X x W I hl O K aa P N B f K' M;have G:=h_ I;clear I;simp[mV,mY,Ab]at aa;simp only[Al,Act.put,A8,A7,A6,aa]at f;subst f
 case m7=>
  clear O K P N;obtain⟨o,q,f⟩:=G.out;have n:(rows caC (L.set i (Jg id d a z frm D C ⟨i+1,d,a,k,m,l⟩ pos U))).length =L.length*13:=by rw[Eo CX,Bi]
  have fr:=f.free (i*13+6);obtain⟨v0,cl⟩:∃v0,W.cell? ⟨g,i*13+6,none⟩=some v0:=Option.isSome_iff_exists.1 (by rw[f.cell,AK (by rw[n];omega),Ad (by rw[n];omega)];rfl);have u:=f.set (i*13+6) (.bool true);have y:Keep [g] W (W.setCell ⟨g,i*13+6,none⟩ (.bool true)):=(By _ _).setCell (.inl (by simp)) _;have HH:=h_5 u y o q n;clear u y o q f n;go_simp;obtain⟨u,y,o,q,n⟩:=HH.out;refine M undef _ _ rfl ⟨o.trans y,q.keep y (by simpa using ao), ?_⟩;rw[MC _ _ _ (by rw[Aj,n];omega),JJ CX L i q4 _ (Jg id d a z frm D C ⟨i+1,d,a,k,m,l⟩ pos (upd U 7 true)) sp [.bool true] 6 (by simp) (by simp[Jg,caC,rpC,BQ,upd])]at u;exact u
 case m10=>
  clear O K P N;obtain⟨o,q,f⟩:=G.out;have n:(rows caC (L.set i (Jg id d a z frm D C ⟨i+1,d,a,k,m,l⟩ pos U))).length =L.length*13:=by rw[Eo CX,Bi]
  have fr:=f.free (i*13+5);obtain⟨v0,cl⟩:∃v0,W.cell? ⟨g,i*13+5,none⟩=some v0:=Option.isSome_iff_exists.1 (by rw[f.cell,AK (by rw[n];omega),Ad (by rw[n];omega)];rfl);have u:=f.set (i*13+5) (.int .i64 (pos:Int));have y:Keep [g] W (W.setCell ⟨g,i*13+5,none⟩ (.int .i64 (pos:Int))):=(By _ _).setCell (.inl (by simp)) _;have HH:=h_5 u y o q n;clear u y o q f n;go_simp;obtain⟨u,y,o,q,n⟩:=HH.out;refine M undef _ _ rfl ⟨o.trans y,q.keep y (by simpa using ao), ?_⟩;rw[MC _ _ _ (by rw[Aj,n];omega),JJ CX L i q4 _ (Jg id d a z frm D C ⟨i+1,d,a,k,m,l⟩ pos (upd U 10 true)) sp [.int .i64 (pos:Int)] 5 (by simp) (by simp[Jg,caC,rpC,BQ,upd])]at u;exact u
 case m13=>
  clear O K P N;obtain⟨o,q,f⟩:=G.out;have n:(rows caC (L.set i (Jg id d a z frm D C ⟨i+1,d,a,k,m,l⟩ pos U))).length =L.length*13:=by rw[Eo CX,Bi]
  have h6:(rpC ⟨i+1,d,a,k,m,l⟩).length =6:=rfl;rw[Ay (by rfl)];refine wp_store_mid 43 _ _ rfl g (i*13+7) (rpC ⟨i+1,d,a,k,m,l⟩).toArray rfl rfl (f.there _ _ (by rw[Aj,n];show i*13+7+6≤_;omega)) (by kernel_rfl) (Fe (by intro v hv;simp only[rpC,Ac,Am,AG]at hv;rcases hv with rfl|rfl|rfl|rfl|rfl|rfl<;>rfl)) ?_;have u:=f.setCells (rpC ⟨i+1,d,a,k,m,l⟩) (i*13+7) W _ (by rw[Aj,n];show i*13+7+6≤_;omega);have y:=E6 (S:=[g]) (b:=g) (rpC ⟨i+1,d,a,k,m,l⟩) (i*13+7) W W (By _ _) (.inl (by simp));refine M undef _ _ rfl ⟨o.trans y,q.keep y (by simpa using ao), ?_⟩;rw[JJ CX L i q4 _ (Jg id d a z frm D C ⟨i+1,d,a,k,m,l⟩ pos (upd U 13 true)) sp (rpC ⟨i+1,d,a,k,m,l⟩) 7 (by rw[h6];decide) (by simp[Jg,caC,rpC,BQ,upd])]at u;exact u
 all_goals intro U X x W I O K aa P N B f K' M;have G:=h_ I;clear I;simp[mV,mY,Ab]at aa;simp only[Al,Act.put,A8,A7,A6,aa]at f;subst f
 case m4=>clear O K P N;obtain⟨o,q,f⟩:=G.out;rw[Ay (by rfl)];refine wp_load_row 43 _ rfl rb rfl 43 (rpC ⟨i+1,d,a,k,m,l⟩).toArray (0,0) _ q Tryz.underlying43 rfl (by kernel_rfl) ?_;exact M _ _ _ rfl rfl G.out
 all_goals clear O K P N;go_simp;exact M _ _ _ rfl rfl G.out
end
theorem Own.parts {w:World}{base:Nat}{E:TypeId}{g n cap:Nat}{c:List Value}(h:Own w base E (.slice (some ⟨g,0,none⟩) n cap) c)(k:n=c.length):
  ∃a,Blk w g a E∧a.length=cap∧n≤cap∧cap≤maxLen∧base≤g∧a.take n=c:=by
 subst k;rcases h.2 with⟨b,_⟩|⟨q,p,d,b,e,i,f,j,m,o⟩
 ·cases b
 ·injection b with h1 h2 h3
  injection h1 with h1;injection h1 with h1;subst h1 h3;refine⟨d.toList,i,by simpa using m,f,j,e,by simpa using o⟩
theorem Own.ofBlk {w:World}{base:Nat}{E:TypeId}{g n cap:Nat}{a:List Value}(h:Blk w g a E)(c:a.length=cap)(d:n≤cap)(e:cap≤maxLen)(f:base≤g):Own w base E (.slice (some ⟨g,0,none⟩) n cap) (a.take n):=by
 have b:(a.take n).length =n:=by rw[Az];omega
 refine⟨by simp,.inr ⟨g,cap,a.toArray,by rw[b],f,h,by rw[b];exact d,e,by simpa using c,by rw[b];simp⟩⟩
def NJ:Value:= .pointer none
theorem WT (w:World):(zeroValue 359).run Tryz.prog w=.ok NJ w:=by kernel_rfl
theorem Own.clear {w:World}{base:Nat}{E:TypeId}{g n cap i:Nat}{a:List Value}(h:Own w base E (.slice (some ⟨g,0,none⟩) n cap) a)(p:n=a.length)(m:i≤n):
  Own (w.setCells g i (List.replicate (n-i) NJ)) base E (.slice (some ⟨g,0,none⟩) i cap) (a.take i)∧Keep [g] w (w.setCells g i (List.replicate (n-i) NJ)):=by
 obtain⟨b,j,q,r,c,d,f⟩:=h.parts p;have k:=Blk.setCells (List.replicate (n-i) NJ) i w b j (by rw[G5];omega);refine⟨?_, ?_⟩
 ·have o:(BQ b i (List.replicate (n-i) NJ)).length =cap:=by
   unfold BQ;simp;omega
  have:=Own.ofBlk (base:=base) k o (n:=i) (by omega) c d
  have e:(BQ b i (List.replicate (n-i) NJ)).take i=a.take i:=by unfold BQ;rw[BE (by rw[Az];omega),List.take_take,Nat.min_self,←f,List.take_take,BZ m]
  rw[e]at this;exact this
 ·exact E6 _ _ _ _ (By [g] w) (.inl (by simp))
theorem Kj {α:Type}(p:α→Bool)(l:List α)(j:Nat)(h:j<l.length):(l.take (j+1)).filter p=(l.take j).filter p++(if p l[j]then[l[j]]else[]):=by
 rw[BH,List.filter_append,Ad h]
 cases a:p l[j]<;>simp[a]
theorem Wl {pd:Nat→Bool}{l:List Sg}(h:¬l.findIdx (fun s=>pd s.gen)<l.length):l.filter (fun s=> !pd s.gen)=l:=by
 rw[List.filter_eq_self];intro s b
 have:∀x∈l,pd x.gen=false:=by
  have:=List.findIdx_le_length (xs:=l) (p:=fun s=>pd s.gen);have a:l.findIdx (fun s=>pd s.gen)=l.length:=by omega
  rw[List.findIdx_eq_length]at a;exact a
 simp[this s b]
theorem Ux {pd:Nat→Bool}{l:List Sg}(h:l.findIdx (fun s=>pd s.gen)<l.length):(l.take (l.findIdx (fun s=>pd s.gen)+1)).filter (fun s=> !pd s.gen)=l.take (l.findIdx (fun s=>pd s.gen)):=by have a:pd (l[l.findIdx (fun s=>pd s.gen)]).gen =true:=List.findIdx_getElem (w:=h);rw[Kj _ _ _ h,a];simp only[Bool.not_true,Bool.false_eq_true,D1,AE];rw[List.filter_eq_self];intro s c;obtain⟨j,b,rfl⟩:=Dq c;rw[List.getElem_take];rw[Az]at b;have:=List.not_of_lt_findIdx (xs:=l) (p:=fun s=>pd s.gen) (i:=j) (by omega);simpa using this
section
variable {w:World} {B c1 c2:Nat} {v:Value} {l:List Sg} {pd:Nat→Bool}
theorem Oc (F:Own w B 359 v (l.map sgPtr))(S:∀W,Keep v.ownBlock.toList w W→WH W 275 c1 c2 l pd)(Q:l.length≤1000):
  Calls Tryz.prog 271 #[v,Yl 275 c1 c2] w fun e w'=>∃Y,e=.returned Y∧Own w' B 359 Y ((l.filter (fun s=> !pd s.gen)).map sgPtr)∧Keep v.ownBlock.toList w w'∧Y.ownBlock=v.ownBlock:=by
 obtain⟨N,HP,HN⟩:=i_3 F S Q;have ad:= @PG w B c1 c2 v l pd F (fun W k=>S W (k.mono (by simp))) Q;have HI:=h_ ad;obtain⟨a,cap,ae⟩:=F.slice;rw[AD]at ae;subst ae;clear F S Q ad;go_enter Tryz.func271,Tryz.ntmps271;go_wp2_with fail;refine HI.out.mono ?_;rintro e w1 ⟨rfl,k1⟩;have y:=h_ k1;clear k1;by_cases h:l.findIdx (fun s=>pd s.gen)<l.length
 case neg=>have r:=h_ (Wl h);rw[show NV pd l= -1 from Aw h];clear h;go_wp2;go_ret;exact⟨_,rfl,by rw[r.out];exact N.out.keep y.out (by simp),y.out.mono (by simp),rfl⟩
 obtain⟨m,V⟩:∃m,m=l.findIdx (fun s=>pd s.gen):=⟨_,rfl⟩;rw[show NV pd l=(m:Int)from by rw[V];exact Ay h];have r:=h_ (Ux h);rw[←V]at r h
 obtain⟨b,ag⟩:∃b,a=some ⟨b,0,none⟩:=by obtain⟨g,al,he,_⟩:=N.out.at_ (by rw[AD];omega);injection he with A;exact⟨g,A⟩
 subst ag;have HL:=h_ h;have q1:((m:Int)==-1)=false:=by simp
 have hn:=HN.out;have au:=HL.out;clear h V;go_wp2
 go_loopw [5,6] (fun s5 s6 wr=>∃(i j:Nat) (K:List Sg) (c:List Value),s5=.int .i64 (i:Int)∧s6=.int .i64 (j:Int)∧i<j∧j≤l.length∧K.length=i∧(l.take j).filter (fun s=> !pd s.gen)=K∧c.take i=K.map sgPtr∧c.drop j=(l.drop j).map sgPtr∧c.length=l.length∧Own wr B 359 (.slice (some ⟨b,0,none⟩) l.length cap) c∧Keep [b] w wr) (fun _ x _=>l.length+1-(intOf x).toNat)
 case atStart=>refine⟨m,m+1,l.take m,l.map sgPtr,rfl,by go_num,by omega,by omega,by rw[Az];omega,r.out,by rw[List.map_take],by rw[Dw],by simp,N.out.keep y.out (by simp),y.out.mono (by simp)⟩
 case round=>
 obtain⟨i,j,K,c,rfl,rfl,X,ar,P,O,q,D,f,d,C⟩:=hrel;obtain⟨H,ab,J,M,Z,n,HO,I⟩:=i_8 X P O q D f d C;by_cases o:j<l.length
 ·have q0:decide ((j:Int)<(l.length:Int))=true:=An (by omega)
  have c0:wr.cell? ⟨b,j,none⟩=some (pr ((l[j]).p) 0):=by
   rw[(d.cell f.symm j o).1];have:(c.drop j)[0]?=c[j]?:=by rw[Bp,Nat.add_zero]
   rw[←this,D,AN,Bp,Nat.add_zero,Ad o];rfl
  have T:=HP.out wr C l[j] (BS o);unfold sgPtr at T;obtain⟨HS,ak⟩:=i_2 T o;have aa:=h_ (Kj (fun s=> !pd s.gen) l j o);clear T P O q D f d C;unfold Yl;go_wp2_with fail;refine HS.out.mono ?_;rintro e w2 ⟨rfl,k2⟩;have z:=h_ k2;clear k2 c0
  cases E:pd (l[j]).gen with
  |true=>
   have L:=h_ E;clear E X;go_wp2
   go_roundw
   case rel=>
    refine⟨i,j+1,K,c,rfl,by go_num,by have:=H.out;omega,by omega,ab.out, ?_,M.out, ?_,n.out,HO.out.keep z.out (by simp),I.out.trans (z.out.mono (by simp))⟩
    ·rw[aa.out,J.out,Aw (by rw[Bool.not_eq_true'];simp;exact L.out),AE]
    ·rw[←Bu,Z.out,←Dw,Bu]
   case measure=>simp only[intOf];omega
  |false=>
   have L:=h_ E;have R:=HO.out.keep z.out (by simp);have U:=R.cell n.out.symm i (by omega);obtain⟨u0,c0,f0⟩:∃u,w2.cell? ⟨b,i,none⟩=some u∧w2.frozen? ⟨b,i,none⟩=false:=⟨_,U.1.trans (Ad (by rw[n.out];omega)),U.2⟩;have ac:=(R.set n.out.symm i (pr ((l[j]).p) 0)).1;have af:=h_ ac;have aj:i<l.length:=by omega
   clear E X R U ac;go_wp2
   go_roundw
   case rel=>
    refine⟨i+1,j+1,K++[l[j]],c.set i (sgPtr l[j]),by go_num,by go_num,by have:=H.out;omega,by omega,by simp[ab.out], ?_, ?_, ?_,by rw[Bi];exact n.out,af.out, ?_⟩
    ·rw[aa.out,J.out,Ay (by simp;exact L.out)]
     rfl
    ·rw[BH,List.take_set_of_le (Av _),M.out,Gm (by rw[n.out];omega)];simp
    ·rw[List.drop_set_of_lt (by have:=H.out;omega),←Bu,Z.out,←Dw,Bu]
    ·exact(I.out.trans (z.out.mono (by simp))).setCell (.inl (by simp)) _
   case measure=>simp only[intOf];omega
 ·obtain rfl:j=l.length:=by omega
  have q0:decide ((l.length:Int)<(l.length:Int))=false:=by simp
  have aj:i<l.length:=by omega
  obtain⟨cs,hb,ai,an,ao,am,_⟩:=d.parts f.symm;have ap:¬cap=i:=by omega
  have aq:i≤cap:=by omega
  have ah:∀ty,(Builtin.clear_ #[331] ty #[.slice (some ⟨b,i,none⟩) (l.length-i) (cap-i)]).run Tryz.prog wr=.ok (.tuple #[]) (wr.setCells b i (List.replicate (l.length-i) NJ)):=fun ty=>
   Lib.run_clear_slice wr _ _ ty NJ Fz (WT) rfl rfl b i _ _ (by omega)
    (fun t q=>by rw[(d.cell f.symm (i+t) (by omega)).1,Ad (by omega)];rfl) (fun t q=>(d.cell f.symm (i+t) (by omega)).2)
  have hC:=d.clear f.symm (by omega:i≤l.length);have G:=h_ hC;obtain⟨W,hW⟩:∃W,W=wr.setCells b i (List.replicate (l.length-i) NJ):=⟨_,rfl⟩;rw[←hW]at ah G;clear hW hC hb ai d C q D O P f;go_wp2;go_ret;refine⟨_,rfl, ?_, ?_,rfl⟩
  ·have A:=G.out.1
   rw[M.out,←J.out,Bt]at A;exact A
  ·exact I.out.trans G.out.2
end
def DG (lb:Nat)(vl:Value)(l:List Sg):List Nat:=lb::(vl.ownBlock.toList++sgF l)
structure LogAt (w:World) (B lb d frm segs nx run:Nat) (fr:Bool) (vl:Value) (l:List Sg):Prop where
 blk:Blk w lb (lgC d (frm:Int) (segs:Int) vl (nx:Int) (run:Int) fr) 333
 row:SgRow w B vl l
 nd:(sgF l).Nodup
 new:B≤lb
section
variable {w w':World} {B lb d frm segs nx run:Nat} {fr:Bool} {vl:Value} {l:List Sg}
theorem SgRow.keep {S:List Nat}(h:SgRow w B vl l)(k:Keep S w w')(b:∀q∈vl.ownBlock.toList++sgF l,q∉S):SgRow w' B vl l:=
 ⟨h.own.keep k (fun q a=>b q (A2 _ (Ae.2 a))),fun s c=>(h.ok s c).keep k (fun q a=>b q (AQ _ (Bm.2 ⟨s,c,a⟩)))⟩
theorem LogAt.keep {S:List Nat}(h:LogAt w B lb d frm segs nx run fr vl l)(k:Keep S w w')(a:∀q∈DG lb vl l,q∉S):LogAt w' B lb d frm segs nx run fr vl l:=
 ⟨h.blk.keep k (a lb (by simp[DG])),h.row.keep k (fun q b=>a q (Ap _ b)),h.nd,h.new⟩
theorem LogAt.still (h:LogAt w B lb d frm segs nx run fr vl l)(k:Keep [] w w'):LogAt w' B lb d frm segs nx run fr vl l:=h.keep k (by simp)
theorem LogAt.ty (h:LogAt w B lb d frm segs nx run fr vl l):∀q∈DG lb vl l,Ty w q 333∨Ty w q 359∨Ty w q 358∨Ty w q 353∨Ty w q 5:=by
 intro q a;unfold DG at a;rcases Ac.1 a with rfl|a
 ·exact .inl h.blk.ty
 ·rcases Ag.1 a with a|a
  ·exact .inr (.inl (h.row.own.ty q (Ae.1 a)))
  ·obtain⟨s,b,a⟩:=Bm.1 a
   exact .inr (.inr ((h.row.ok s b).ty q a))
theorem LogAt.lt (h:LogAt w B lb d frm segs nx run fr vl l):∀q∈DG lb vl l,B≤q∧q<w.heap.size:=by
 intro q a;unfold DG at a;rcases Ac.1 a with rfl|a
 ·exact⟨h.new,h.blk.lt⟩
 ·rcases Ag.1 a with a|a
  ·exact h.row.own.lt q (Ae.1 a)
  ·obtain⟨s,b,a⟩:=Bm.1 a
   exact(h.row.ok s b).lt q a
theorem LogAt.apartT {T:TypeId}{b:Nat}(h:LogAt w B lb d frm segs nx run fr vl l)(a:Ty w b T)(c:T∉ [333,359,358,353,5]):b∉DG lb vl l:=by
 intro e;simp only[Ac,Am,AG,not_or]at c;obtain⟨f,g,i,j,k⟩:=c;rcases h.ty b e with t|t|t|t|t
 ·exact a.ne t f rfl
 ·exact a.ne t g rfl
 ·exact a.ne t i rfl
 ·exact a.ne t j rfl
 ·exact a.ne t k rfl
theorem LogAt.apart {L:List Sec}{sb c a:Nat}(h:LogAt w B lb d frm segs nx run fr vl l)(b:IsDev w a sb L c):∀q∈DG lb vl l,q∉ [a,sb]:=by
 intro q f e;simp only[Ac,Am,AG]at e;rcases e with rfl|rfl
 ·exact h.apartT b.dev.ty (by decide) f
 ·exact h.apartT b.secs.ty (by decide) f
theorem LogAt.seg_at (h:LogAt w B lb d frm segs nx run fr vl l)(i:Nat)(s:Sg)(c:l[i]?=some s):∃a cap,vl=.slice (some ⟨a,0,none⟩) l.length cap∧w.cell? ⟨a,i,none⟩=some (pr s.p 0):=by have e:i<l.length:=(Ai.1 c).1;obtain⟨a,cap,b,_⟩:=h.row.own.at_ (by rw[AD];omega);rw[AD]at b;subst b;refine⟨a,cap,rfl, ?_⟩;rw[(h.row.own.cell (by simp) i e).1,AN,c];rfl
theorem LogAt.slice (h:LogAt w B lb d frm segs nx run fr vl l):∃a cap,vl=.slice a l.length cap:=by obtain⟨a,cap,b⟩:=h.row.own.slice;rw[AD]at b;exact⟨a,cap,b⟩
theorem NA:∀(L:List Rc) (i:Nat) (b:i<L.length),(rcCs L)[i*2]?=some (.int .i64 ((L[i]).r.1 :Int))∧(rcCs L)[i*2+1]?=some (L[i]).v
 |y::L,0,_=>by simp[rcCs,rcC]
 |y::L,i+1,b=>by
  have c:=NA L i (by simpa using b);have e:rcCs (y::L)=rcC y++rcCs L:=by simp[rcCs]
  have a:(rcC y).length =2:=rfl;rw[e];refine⟨?_, ?_⟩
  ·rw[AC (by rw[a];omega),a,show(i+1)*2-2=i*2 by omega,c.1];rfl
  ·rw[AC (by rw[a];omega),a,show(i+1)*2+1-2=i*2+1 by omega,c.2];rfl
theorem RRow.at_ {v:Value}{L:List Rc}(h:RRow w B v L)(i:Nat)(a:i<L.length):∃g cap,v=.slice (some ⟨g,0,none⟩) L.length cap∧w.cell? ⟨g,i*2,none⟩=some (.int .i64 ((L[i]).r.1 :Int))∧w.cell? ⟨g,i*2+1,none⟩=some (L[i]).v :=by
 have b:=h.own;rcases h.own.2 with⟨_,f⟩|⟨g,cap,e,c,_⟩
 ·omega
 ·subst c
  refine⟨g,cap,rfl, ?_, ?_⟩
  ·rw[Cg b (i*2) (by omega),(NA L i a).1]
  ·rw[Cg b (i*2+1) (by omega),(NA L i a).2]
theorem Mf {L:List Sec}{sb c:Nat}(h:LogAt w B lb d frm segs nx run fr vl l)(g:IsDev w d sb L c)(f:c<1099511627776):
  Calls Tryz.prog 176 #[pr lb 0] w fun e w'=>e=.returned (.int .i64 0)∧IsDev w' d sb (L.map flushSec) (c+1)∧Keep [d,sb] w w':=by
 have m:=Ug h.blk;have k:=h_ (GV g f);clear h g f;go_enter Tryz.func176,Tryz.ntmps176;go_wp2_with fail;refine k.out.mono ?_;rintro e n ⟨rfl,a,b⟩;obtain⟨i,j⟩:=i_2 a b;clear a b m;go_wp2;go_ret;exact⟨rfl,i.out,j.out⟩
def Ix (l:List Sg)(nx:Nat):Nat:=match l.flatMap Sg.rs with|[]=>nx|r::_=>r.1
theorem UN (h:LogAt w B lb d frm segs nx run fr vl l)(u:l.length≤1000):
  Calls Tryz.prog 218 #[pr lb 0] w fun e w'=>e=.returned (.int .i64 (Ix l nx:Int))∧w'=w:=by
 have c3:=Hk h.blk;obtain⟨a,cap,rfl⟩:=h.slice;obtain⟨H,A⟩:=i_2 h u;clear h u;go_enter Tryz.func218,Tryz.ntmps218;go_wp2_with fail;clear c3
 go_loopw [12] (fun J wr=>∃i:Nat,J=.int .i64 (i:Int)∧i≤l.length∧(l.take i).flatMap Sg.rs=[]∧wr=w) (fun x _=>l.length+1-(intOf x).toNat)
 case atStart=>exact⟨0,rfl,AA _,by simp,rfl⟩
 case round=>
 obtain⟨i,rfl,O,f,rfl⟩:=hrel;by_cases v:i<l.length
 ·have G:decide ((i:Int)<(l.length:Int))=true:=An (by omega)
  obtain⟨s,k⟩:∃s,l[i]?=some s:=⟨_,Ad v⟩;obtain⟨K,M,o,L⟩:=H.out.seg_at i s k;injection o with o;subst o;have j:=H.out.row.ok s (Aq k);have c4:=IL j.blk;obtain⟨R,S,n⟩:=j.recs.slice;rw[n]at c4;obtain⟨E,c,D,C,p⟩:=i_5 j f n v k;have P:=A.out;clear j f n k
  cases b:s.recs with
  |nil=>
   rw[b]at c4;have I:decide ((0:Int)<((([]:List Rc).length :Nat):Int))=false:=by simp
   have m:=h_ b;clear b;rw[show(([]:List Rc).length :Nat)=0 from rfl]at c4;go_wp2
   go_roundw
   case rel=>refine⟨i+1,by go_num,by omega, ?_,by first|exact rfl|trivial⟩;rw[BH,Bg,c.out,p.out];simp[Sg.rs,m.out]
   case measure=>simp only[intOf];omega
  |cons y ys=>
   have m:=h_ b;obtain⟨g,N,t,z,F⟩:=E.out.recs.at_ 0 (by rw[b];simp);rw[D.out]at t;injection t with hg1 hg2 hg3;subst hg1 hg3;rw[Nat.zero_mul]at z;rw[b]at c4;have q:s.recs[0]'(by rw[b];simp)=y:=by simp[b]
   rw[q]at z;clear F;rw[List.length_cons]at c4;have I:decide ((0:Int)<((ys.length+1:Nat):Int))=true:=An (by omega);have Q:(0<ys.length+1)=True:=eq_true (by omega);clear b hg2 q;go_wp2;go_ret;refine⟨?_,rfl⟩
   have:l.flatMap Sg.rs=y.r::(ys.map (·.r)++(l.drop (i+1)).flatMap Sg.rs):=by
    conv=>lhs;rw[←BX i l,Bg,c.out,Cj C.out,(Ai.1 p.out).2]
    simp[Sg.rs,m.out]
   unfold Ix;rw[this];rfl
 ·obtain rfl:i=l.length:=by omega
  have G:decide ((l.length:Int)<(l.length:Int))=false:=by simp
  have c:=h_ f;have c4:=PA H.out.blk;clear f;go_wp2;go_ret;refine⟨?_,rfl⟩;have:=c.out;rw[Bt]at this;unfold Ix;rw[this];rfl
end
theorem SW:∀(l:List Sg) (n:Nat),(∀s∈l,s.recs.length≤n)→(l.flatMap Sg.rs).length ≤l.length*n
 |[],n,_=>by simp
 |s::l,n,h=>by have b:=h s (by simp);have c:=SW l n (fun x a=>h x (by simp[a]));simp only[BI,Aj,List.length_cons,Sg.rs,AD];rw[Dv];omega
def allJ (j:World)(n g pos:Nat)(e k:Option Addr)(f m:Nat)(a:List Rc)(body:List Nat)(l:Nat→Bool)(x:Nat→Value)(b:World):Prop:=
 ∃c d h i o,(l 8=false→Blk b g [.int .i64 (pos:Int),.slice k body.length m] 353)∧
 (Buf b 0 5 (.slice k body.length m) body)∧
 (l 8=false→RRow b n (.slice e a.length f) a)∧
 (l 8=true→RRow b n (.slice h (a.length+1) i) (a++[⟨(pos,body),.slice c body.length d⟩]))∧
 (l 8=true→l 2=true∧l 4=true∧l 5=true)∧
 (l 9=true→l 0=true∧l 8=true)∧
 (l 5=true→l 4=true)∧
 (l 9=false→x 9=.slice e a.length f)∧
 (Keep (.slice e a.length f:Value).ownBlock.toList j b)∧
 (l 5=true→x 5=.slice c body.length d∧(l 8=false→Buf b j.heap.size 5 (.slice c body.length d) body)∧∀q,(.slice c body.length d:Value).ownBlock =some q→j.heap.size≤q)∧
 (l 6=true→x 6=.agg #[.int .i64 (pos:Int),.slice c body.length d]∧Hid (l 5=true)∧Hid (l 2=true∧l 4=true))∧
 (l 7=true→x 7=.slice (some ⟨o,0,none⟩) 1 1∧(l 8=false→Blk b o [.int .i64 (pos:Int),.slice c body.length d] 353)∧Hid (l 5=true)∧Hid (l 2=true∧l 4=true))∧
 (l 8=true→x 8=.slice h (a.length+1) i∧Hid (l 0=true))∧
 (l 9=true→x 9=.slice h (a.length+1) i)∧
 SlV l x 0 [some (.slice e a.length f),some (pr g 0),some (.int .i64 (pos:Int)),some (pr g 1),some (.slice k body.length m)]
theorem Mg {w:World}{B lb d frm segs nx b6:Nat}{fr:Bool}{vl:Value}{l₀:List Sg}(h:LogAt w B lb d frm segs nx b6 fr vl l₀)(hl:l₀.length≤1000∧∀s∈l₀,s.recs.length≤1000)(bf:∀s∈l₀,∀r∈s.rs,r.ok):
  Calls Tryz.prog 246 #[pr lb 0] w fun e T=>∃v L,e=.returned v∧RRow T w.heap.size v L∧L.map (·.r)=l₀.flatMap Sg.rs∧Keep [] w T:=by
 obtain⟨iR,b2,b3,b4,b5⟩:=AU YF;have c3:=Hk h.blk;obtain⟨a,cap,rfl⟩:=h.slice;obtain⟨H,HL,bq⟩:=i_3 h hl bf;clear h hl bf;go_enter Tryz.func246,Tryz.ntmps246;go_wp2_with fail;clear c3
 go_loopw [3,15] (fun s3 b7 wr=>∃(i:Nat) (L:List Rc),b7=.int .i64 (i:Int)∧i≤l₀.length∧RRow wr w.heap.size s3 L∧L.map (·.r)=(l₀.take i).flatMap Sg.rs∧Keep [] w wr) (fun _ x _=>l₀.length+1-(intOf x).toNat)
 case atStart=>exact⟨0,[],rfl,AA _,RRow.nil _ _,by simp,By _ _⟩
 case round=>
 obtain⟨i,L,rfl,C,V,he,c⟩:=hrel;by_cases be:i<l₀.length
 ·have q0:decide ((i:Int)<(l₀.length:Int))=true:=An (by omega)
  obtain⟨s,aa⟩:∃s,l₀[i]?=some s:=⟨_,Ad be⟩;have Z:=H.out.still c;obtain⟨ba,cb,hv,c0⟩:=Z.seg_at i s aa;injection hv with hv;subst hv;have X:=Z.row.ok s (Aq aa);have c4:=IL X.blk;obtain⟨ra,rc,an⟩:=X.recs.slice;rw[an]at c4;obtain⟨HS,bu,ay,HE,W,HK⟩:=i_6 X an aa he V c;have hn:=HL.out.1;have cc:=HL.out.2 s (Aq aa);have bt:=h_ (bq.out s (Aq aa));clear X an aa he V c Z;go_wp2
  go_loopw [3,24] (fun s3 b8 bh=>∃(j:Nat) (L:List Rc),b8=.int .i64 (j:Int)∧j≤s.recs.length∧RRow bh w.heap.size s3 L∧L.map (·.r)=(l₀.take i).flatMap Sg.rs++(s.recs.take j).map (·.r)∧Keep [] w bh) (fun _ x _=>s.recs.length+1-(intOf x).toNat)
  case atStart=>exact⟨0,L,rfl,AA _,W.out,by rw[HE.out];simp,HK.out⟩
  case round=>
  obtain⟨j,U,rfl,hj,V,ai,c⟩:=hrel;clear W c0 c4;by_cases aj:j<s.recs.length
  ·have q1:decide ((j:Int)<(s.recs.length:Int))=true:=An (by omega)
   have Z:=H.out.still c;have X:=Z.row.ok s (Aq ay.out);obtain⟨y,hy⟩:∃y,s.recs[j]?=some y:=⟨_,Ad aj⟩;obtain⟨g,gc,hg,k0,k1⟩:=X.recs.at_ j aj;rw[bu.out]at hg;injection hg with hg1 hg2 hg3;subst hg1 hg3;have bg:s.recs[j]'aj=y:=(Ai.1 hy).2;rw[bg]at k0 k1;obtain⟨ya,ab,ap⟩:=((X.recs.ok y (Aq hy)).1).slice;obtain⟨oa,aq,rfl⟩:=V.slice;obtain⟨pos,al⟩:∃p,p=y.r.1:=⟨_,rfl⟩;obtain⟨body,ah⟩:∃b,b=y.r.2:=⟨_,rfl⟩;rw[←al]at k0;rw[ap,←ah]at k1
   have bd:Buf wr 0 5 (.slice ya body.length ab) body:=by have:=((X.recs.ok y (Aq hy)).1).mono (AA _);rw[ap,←ah]at this;exact this
   have ao:y.r=(pos,body):=by rw[al,ah]
   obtain⟨bw,HY,W,ae,af,bv⟩:=i_6 ao hy V ai c bd
   have bi:Hid (body.length≤300):=h_ (by have:=bt.out y.r (AI.2 ⟨y,Aq hy,rfl⟩);have h2:=this.2.1;rw[ao]at h2;exact h2)
   have b9:=h_ aj;clear hg2 ap bg al ah V ai c Z X hy bd ao
   have ax:Hid (U.length≤1001000):=h_ (by
    have h1:U.length=((l₀.take i).flatMap Sg.rs++(s.recs.take j).map (·.r)).length :=by rw[←ae.out,AD]
    have h2:=SW (l₀.take i) 1000 (fun x hx=>HL.out.2 x (AH hx));rw[h1,Aj,AD,Az]
    have h3:(l₀.take i).length *1000≤1000000:=by
     rw[Az];have:=HL.out.1;have:min i l₀.length≤1000:=by omega
     calc min i l₀.length*1000≤1000*1000:=Ch _ this
      _=1000000:=by decide
    omega)
   go_upto_region 10 with fail;have ag:=BY wr [.int .i64 (pos:Int),.slice ya body.length ab] 353;have KA:=(By [] wr).alloc (.cells #[.int .i64 (pos:Int),.slice ya body.length ab] 353);have bs:=h_ W.out.lt;obtain⟨rb,am⟩:∃rb,rb=wr.heap.size:=⟨_,rfl⟩;rw[←am]at ag⊢;simp only[List.toArray]at ag;have ca:=h_ am;generalize hW:wr.alloc (.cells #[.int .i64 (pos:Int),.slice ya body.length ab] 353)=wa at*;have av:Hid (w.heap.size≤wa.heap.size):=h_ (AJ af.out.size KA.size);have bb:=W.out.still KA;have bc:=bv.out.keep KA (by simp);have bk:=h_ KA;clear am hW KA;refine wIo (allJ wa w.heap.size rb pos oa ya aq ab U body) ?aS (.s ?a0<|.s ?a1<|.s ?a2<|.s ?a3<|.s ?a4<|.s ?a5<|.s ?a6<|.s ?a7<|.s ?a8<|.s ?a9<|.n) 10 ?aF
   case aS=>exact⟨none,0,none,0,0,fun _=>ag.drew,bc.keep (By [] _).drew (by simp),fun _=>bb.still (By [] _).drew,fun h=>absurd h (by decide),fun h=>absurd h (by decide),fun h=>absurd h (by decide),fun h=>absurd h (by decide),fun _=>rfl,(By _ _).drew,fun h=>absurd h (by decide),fun h=>absurd h (by decide),fun h=>absurd h (by decide),fun h=>absurd h (by decide),fun h=>absurd h (by decide),Yr⟩
   case a0=>
    intro l x T R C F;obtain⟨t,u,P,Q,J,E,A,z,M,k,D,N,I,c,m,o,f,G,K,vS⟩:=R;have f9:l 9=false:=by cases S:l 9 with|false=>rfl|true=>exact absurd (D S).1 (by simp[C])
    have e9:=I f9;refine Oq.of (b:= ?bA0) ?eA0 ?_
    case eA0=>simp only[Al,Act.put,A8,A7,A6,e9];rfl
    intro K' O;go_simp;exact O.go _ rfl ⟨t,u,P,Q,J,E,A,z,M,k,fun h=>⟨rfl,(D h).2⟩,N,I,c,m,o,f,fun h=>⟨(G h).1,h_ rfl⟩,K,vS.r⟩
   case a6=>
    intro l x T R C F;obtain⟨t,u,P,Q,J,E,A,z,M,k,D,N,I,c,m,o,f,G,K,vS⟩:=R;have e2:=vS.a 2 (F.at rfl) rfl;have e5:=m (F.at rfl);have ac:Hid (l 5=true):=h_ (F.at rfl);have bm:Hid (l 2=true):=h_ (F.at rfl);refine Oq.of (b:= ?bA6) ?eA6 ?_
    case eA6=>simp only[Al,Act.put,A8,A7,A6,e2,e5.1];rfl
    intro K' O;go_simp;exact O.go _ rfl ⟨t,u,P,Q,J,E,A,z,M,k,D,N,I,c,m,fun _=>⟨rfl,ac,h_ ⟨bm.out,N ac.out⟩⟩,f,G,K,vS.s rfl⟩
   case a7=>
    intro l x T R C F;obtain⟨t,u,P,Q,J,E,A,z,M,k,D,N,I,c,m,o,f,G,K,vS⟩:=R;have e6:=o (F.at rfl);refine Oq.of (b:= ?bA7) ?eA7 ?_
    case eA7=>simp only[Al,Act.put,A8,A7,A6,e6.1];rfl
    intro K' O;go_simp;exact O.go _ rfl ⟨t,u,P,Q,T.heap.size,fun h=>(E h).alloc _,A.alloc _,fun h=>(z h).still ((By [] _).alloc _),fun h=>(M h).still ((By [] _).alloc _),k,D,N,I,c.alloc _,fun h=>⟨(m h).1,fun ad=>((m h).2.1 ad).alloc _,(m h).2.2⟩,o,fun _=>⟨rfl,fun _=>BY _ [.int .i64 (pos:Int),.slice t body.length u] _,e6.2.1,e6.2.2⟩,G,K,vS.s rfl⟩
   case a8=>
    intro l x T R C F;obtain⟨t,u,P,Q,J,E,A,z,M,k,D,N,I,c,m,o,f,G,K,vS⟩:=R;have e0:=vS.a 0 (F.at rfl) rfl;have e7:=f (F.at rfl);have bl:Hid (l 0=true):=h_ (F.at rfl);have ac:=e7.2.2.1;have bp:Hid (l 2=true∧l 4=true∧l 5=true):=h_ ⟨e7.2.2.2.out.1,e7.2.2.2.out.2,ac.out⟩;have b0:=(m ac.out).2.1 C;have b1:=e7.2.1 C;refine Oq.of (b:= ?bA8) ?eA8 ?_
    case eA8=>simp only[Al,Act.put,A8,A7,A6,e0,e7.1];rfl
    intro K' O;refine BO _ rfl (.tmp 28) (.tmp 35) 350 350 rfl w.heap.size 353 iR _ 2 32 El b2 b3 b4 b5 rfl (by decide) (.slice oa U.length aq) U.length (rcCs U) rfl (z C).own _ 1 [.int .i64 (pos:Int),.slice t body.length u] rfl (QO T J _ _ b1 El rfl) (by unfold maxLen;have:=ax.out;omega) (by have:=ax.out;omega) (AJ av.out c.size) ?_;intro v2 w2 g2 g3 _ g4;obtain⟨ar,au,rfl⟩:=A4 g2;have Y:Keep (.slice oa U.length aq:Value).ownBlock.toList T w2:=DJ g3;have bx:RRow w2 w.heap.size (.slice ar (U.length+1) au) (U++[⟨(pos,body),.slice t body.length u⟩]):=(z C).snoc ⟨(pos,body),.slice t body.length u⟩ (b0.mono av.out) rfl g2 Y;have bz:=z C;exact O.go (.slice ar (U.length+1) au) rfl ⟨t,u,ar,au,J,fun h=>Bool.noConfusion (show true=false from h),A.keep Y (fun q S=>bz.rty (A.ty' q S) (by decide)),fun h=>Bool.noConfusion (show true=false from h),fun _=>bx,fun _=>bp.out,fun h=>⟨(D h).1,rfl⟩,N,I,c.trans Y,fun h=>⟨(m h).1,fun ad=>Bool.noConfusion (show true=false from ad),(m h).2.2⟩,o,fun h=>⟨(f h).1,fun ad=>Bool.noConfusion (show true=false from ad),(f h).2.2⟩,fun _=>⟨rfl,bl⟩,fun h=>absurd (D h).2 (by simp[C]),vS.s rfl⟩
   case a9=>
    intro l x T R C F;obtain⟨t,u,P,Q,J,E,A,z,M,k,D,N,I,c,m,o,f,G,K,vS⟩:=R;have e8:=G (F.at rfl);have bo:Hid (l 8=true):=h_ (F.at rfl);refine Oq.of (b:= ?bA9) ?eA9 ?_
    case eA9=>simp only[Al,Act.put,A8,A7,A6,e8.1];rfl
    intro K' O;go_simp;exact O.go _ rfl ⟨t,u,P,Q,J,E,A,z,M,k,fun _=>⟨e8.2.out,bo.out⟩,N,fun h=>Bool.noConfusion (show true=false from h),c,m,o,f,G,fun _=>rfl,vS.s rfl⟩
   case aF=>
    intro l x w3 R hl;obtain⟨t,u,P,Q,J,E,A,z,M,k,D,N,I,c,m,o,f,G,K,vS⟩:=R;have az:=M (hl 8 (by decide));have e9:=K (hl 9 (by decide));simp only[Al,Act.put,A8,A7,A6,e9];have br:=h_ az
    have bj:Hid (Keep [] w w3):=h_ ((af.out.trans bk.out).then c (fun q S be=>by exact absurd (bs.out q (A2 _ S)).1 (by omega)))
    clear m o f G K E A z M k D N I c hl az e9 bb bc ag k0 k1 vS;go_wp2
    go_roundw
    case rel=>refine⟨j+1,U++[⟨(pos,body),.slice t body.length u⟩],by go_num,by omega,br.out, ?_,bj.out⟩;rw[AL,ae.out,BH,HY.out,AL,Ax];simp[bw.out]
    case measure=>simp only[intOf];omega
   all_goals
    intro l x T R C F;obtain⟨t,u,P,Q,J,E,A,z,M,k,D,N,I,c,m,o,f,G,K,vS⟩:=R;have hW:=vS;have hD:=F;simp only[SlV]at hW
    try simp[BD,Region.binds]at hD
    refine Oq.of (by simp only[Al,Act.put,A8,A7,A6,hD,hW];rfl) ?_;clear hD hW;intro K' O
   case a2=>
    have f8:l 8=false:=by cases S:l 8 with|false=>rfl|true=>exact absurd (k S).1 (by simp[C])
    have c0:T.cell? ⟨rb,0,none⟩=some (.int .i64 (pos:Int)):=(E f8).cell 0;go_simp;exact O.go _ rfl ⟨t,u,P,Q,J,E,A,z,M,fun h=>⟨rfl,(k h).2.1,(k h).2.2⟩,D,N,I,c,m,fun h=>⟨(o h).1,(o h).2.1,h_ ⟨rfl,(o h).2.2.out.2⟩⟩,fun h=>⟨(f h).1,(f h).2.1,(f h).2.2.1,h_ ⟨rfl,(f h).2.2.2.out.2⟩⟩,G,K,vS.r⟩
   case a4=>
    have f8:l 8=false:=by cases S:l 8 with|false=>rfl|true=>exact absurd (k S).2.1 (by simp[C])
    have c1:T.cell? ⟨rb,1,none⟩=some (.slice ya body.length ab):=(E f8).cell 1;go_simp;exact O.go _ rfl ⟨t,u,P,Q,J,E,A,z,M,fun h=>⟨(k h).1,rfl,(k h).2.2⟩,D,fun _=>rfl,I,c,m,fun h=>⟨(o h).1,(o h).2.1,h_ ⟨(o h).2.2.out.1,rfl⟩⟩,fun h=>⟨(f h).1,(f h).2.1,(f h).2.2.1,h_ ⟨(f h).2.2.2.out.1,rfl⟩⟩,G,K,vS.r⟩
   case a5=>
    have f8:l 8=false:=by cases S:l 8 with|false=>rfl|true=>exact absurd (k S).2.2 (by simp[C])
    have bn:Hid (l 4=true):=h_ (F.at rfl);go_simp;refine(Fg _ body A.rd (by have:=bi.out;omega)).mono ?_;rintro e w2 ⟨v2,rfl,ak,Y⟩;obtain⟨c2,c3,rfl⟩:=ak.slice;have aw:=h_ (ak.mono c.size);clear ak;go_simp;exact O.go (.slice c2 body.length c3) rfl ⟨c2,c3,P,Q,J,fun h=>(E h).keep Y (by simp),A.keep Y (by simp),fun h=>(z h).still Y,fun h=>absurd (f8.symm.trans h) (by decide),fun h=>⟨(k h).1,(k h).2.1,rfl⟩,D,fun _=>bn.out,I,c.trans (Y.mono (by simp)),fun _=>⟨rfl,fun _=>aw.out,fun q S=>(aw.out.lt q S).1⟩,fun h=>absurd (o h).2.1.out (by simp[C]),fun h=>absurd (f h).2.2.1.out (by simp[C]),G,K,vS.s rfl⟩
   all_goals go_simp;exact O.go _ rfl ⟨t,u,P,Q,J,E,A,z,M,k,D,N,I,c,m,o,f,G,K,vS.r⟩
  ·obtain rfl:j=s.recs.length:=by omega
   have q1:decide ((s.recs.length:Int)<(s.recs.length:Int))=false:=by simp
   obtain⟨W,ae,af⟩:=i_3 V ai c;clear V ai c;go_wp2
   go_roundw
   case rel=>refine⟨_,_,_,_,⟨i+1,rfl,by omega,U,W.out, ?_,af.out⟩,rfl,rfl,rfl,by go_num⟩;rw[ae.out,BH,Bg,ay.out,Bt];simp[Sg.rs]
   case measure=>simp only[intOf];omega
 ·obtain rfl:i=l₀.length:=by omega
  have q0:decide ((l₀.length:Int)<(l₀.length:Int))=false:=by simp
  obtain⟨W,HE,HK⟩:=i_3 V he c;clear V he c;go_wp2;go_ret;refine⟨_,L,rfl,W.out, ?_,HK.out⟩;rw[HE.out,Bt]
def Kx (a b:Nat):Int:=if a<b then-1 else if b<a then 1 else 0
theorem OR {w:World}(a b:Nat)(v:Value)(f:a<281474976710656∧b<281474976710656)(l:v.oneCell'=true):
  Calls Tryz.prog 301 #[.agg #[.int .i64 (a:Int),v],.int .i64 (b:Int)] w fun e k=>e=.returned (.int .i64 (Kx a b))∧Keep [] w k:=by
 have g:=BY w [.int .i64 (a:Int),v] 353;have K:=(By [] w).alloc (.cells #[.int .i64 (a:Int),v] 353);have d:=g.cell 0;obtain⟨i,h⟩:=i_2 K f;have m:(w.alloc (.cells #[.int .i64 (a:Int),v] 353)).cell? ⟨w.heap.size,0,none⟩=some (.int .i64 (a:Int)):=d;clear d g K f;have c:wrap64 ((a:Int)-(b:Int))=(a:Int)-(b:Int):=by have:=h.out;unfold wrap64;omega
 have j:=h_ c;clear c;go_enter Tryz.func301,Tryz.ntmps301;go_wp2_with fail
 all_goals
  go_ret;refine⟨?_,i.out⟩;have c:=j.out;refine A3 (fun z=>Ending.returned (Value.int .i64 z)) ?_;unfold Kx
  (repeat' split)<;>omega
def Q9 (L:List Rc):Prop:=L.Pairwise (fun a b=>a.r.1<b.r.1)
def RFN:Value:= .func (.func 301) #[] #[]
theorem Q9.le {L:List Rc}(h:Q9 L){i j:Nat}{a b:Rc}(e:L[i]?=some a)(f:L[j]?=some b)(g:i<j):a.r.1<b.r.1:=by obtain⟨c,rfl⟩:=Ai.1 e;obtain⟨d,rfl⟩:=Ai.1 f;exact DB.1 h i j c d g
theorem Qz {w:World}{B:Nat}{v:Value}{L:List Rc}(h:RRow w B v L)(Z:Q9 L)(V:L.length≤1000)(X:∀y∈L,y.r.1<281474976710656)(pos:Nat)(Y:pos<281474976710656):
  Calls Tryz.prog 300 #[v,.int .i64 (pos:Int),RFN] w fun e w'=>∃(i:Nat) (b:Bool),e=.returned (.tuple #[.int .i64 (i:Int),.bool b])∧(b=true→∃y,L[i]?=some y∧y.r.1=pos)∧(b=false→∀y∈L,y.r.1≠pos)∧Keep [] w w':=by
 obtain⟨a,cap,rfl⟩:=h.slice;obtain⟨H,K,R,S,T⟩:=i_5 h Z V X Y;clear h Z V X Y;unfold RFN;go_enter Tryz.func300,Tryz.ntmps300;go_wp2
 go_loopw [9,10] (fun s9 aa wr=>∃(i j:Nat),s9=.int .i64 (i:Int)∧aa=.int .i64 (j:Int)∧i≤j∧j≤L.length∧(∀k y,L[k]?=some y→k<i→y.r.1<pos)∧(∀k y,L[k]?=some y→j≤k→pos≤y.r.1)∧Keep [] w wr) (fun x y _=>(intOf y).toNat -(intOf x).toNat)
 case atStart=>exact⟨0,L.length,rfl,rfl,AA _,Av _,fun k y _ h=>absurd h (by omega),fun k y f h=>by have:=(Ai.1 f).1;omega,By _ _⟩
 case round=>
 obtain⟨i,j,rfl,rfl,ab,ac,F,E,s⟩:=hrel;obtain⟨J,Q,I⟩:=i_3 F E s;by_cases ad:i<j
 ·have q0:decide ((i:Int)<(j:Int))=true:=An (by omega)
  have W:(i+j)/2<L.length:=by omega
  obtain⟨y,f⟩:∃y,L[(i+j)/2]?=some y:=⟨_,Ad W⟩;have q:=H.out.still s;obtain⟨g,gc,O,A,C⟩:=q.at_ ((i+j)/2) W;injection O with hg1 hg2 hg3;subst hg1 hg3;rw[(Ai.1 f).2]at A C;have p:=(q.ok y (Aq f)).2;have o:=h_ f;have hn:=R.out;have G:=h_ p;have M:=h_ (S.out y (Aq f));clear F E s hg2 q f p;go_wp2_with fail;refine(OR y.r.1 pos y.v ⟨M.out,T.out⟩ G.out).mono ?_;rintro e w2 ⟨rfl,D⟩;have t:=h_ (I.out.trans D);clear D A C;by_cases l:y.r.1<pos
  ·rw[show Kx y.r.1 pos= -1 from Ay l]
   have n:=h_ l;clear l;go_wp2
   go_roundw
   case rel=>
    refine⟨(i+j)/2+1,j,by go_num,rfl,by omega,by omega, ?_,Q.out,t.out⟩;intro k z d m;by_cases N:k=(i+j)/2
    ·subst N
     rw[o.out]at d;injection d with d;subst d;exact n.out
    ·exact Nat.lt_trans (K.out.le d o.out (by omega)) n.out
   case measure=>simp only[intOf];omega
  ·have P:decide (Kx y.r.1 pos<0)=false:=by
    refine Ak ?_;unfold Kx;rw[Aw l]
    split<;>omega
   have n:=h_ l;obtain⟨cv,u⟩:∃c:Int,c=Kx y.r.1 pos:=⟨_,rfl⟩;rw[←u]at P⊢;clear l u;go_wp2
   go_roundw
   case rel=>
    refine⟨i,(i+j)/2,rfl,by go_num,by omega,by omega,J.out, ?_,t.out⟩;intro k z d m;by_cases N:k=(i+j)/2
    ·subst N
     rw[o.out]at d;injection d with d;subst d;exact EU n.out
    ·exact AJ (EU n.out) (EV (K.out.le o.out d (by omega)))
   case measure=>simp only[intOf];omega
 ·obtain rfl:i=j:=by omega
  have q0:decide ((i:Int)<(i:Int))=false:=by simp
  by_cases U:i<L.length
  ·have q1:decide ((i:Int)<(L.length:Int))=true:=An (by omega)
   obtain⟨y,f⟩:∃y,L[i]?=some y:=⟨_,Ad U⟩;have q:=H.out.still s;obtain⟨g,gc,O,A,C⟩:=q.at_ i U;injection O with hg1 hg2 hg3;subst hg1 hg3;rw[(Ai.1 f).2]at A C;have p:=(q.ok y (Aq f)).2;have o:=h_ f;have hn:=R.out;have G:=h_ p;have M:=h_ (S.out y (Aq f));clear F E s hg2 q f p;go_wp2_with fail;refine(OR y.r.1 pos y.v ⟨M.out,T.out⟩ G.out).mono ?_;rintro e w2 ⟨rfl,D⟩;have t:=h_ (I.out.trans D);clear D A C;by_cases l:y.r.1=pos
   ·rw[show Kx y.r.1 pos=0 by unfold Kx;rw[l];simp]
    have n:=h_ l;clear l;go_wp2;go_ret2;exact⟨i,true,rfl,fun _=>⟨y,o.out,n.out⟩,fun h=>absurd h (by decide),t.out⟩
   ·have P:(Kx y.r.1 pos==0)=false:=by
     have:Kx y.r.1 pos≠0:=by unfold Kx;split;omega;split<;>omega
     simpa using this
    have n:=h_ l;obtain⟨cv,u⟩:∃c:Int,c=Kx y.r.1 pos:=⟨_,rfl⟩;rw[←u]at P⊢;clear l u;go_wp2;go_ret2;refine⟨i,false,rfl,fun h=>absurd h (by decide),fun _ z d=> ?_,t.out⟩;obtain⟨k,m⟩:=Bf d;by_cases p:k<i
    ·exact Nat.ne_of_lt (J.out k z m p)
    ·by_cases h2:k=i
     ·subst h2
      rw[o.out]at m;injection m with m;subst m;exact n.out
     ·have h3:=K.out.le o.out m (by omega)
      have h4:=Q.out i y o.out (Av _);omega
  ·have q1:decide ((i:Int)<(L.length:Int))=false:=by simp;omega
   clear F E s;go_wp2;go_ret2;refine⟨i,false,rfl,fun h=>absurd h (by decide),fun _ z d=> ?_,I.out⟩;obtain⟨k,m⟩:=Bf d;have:=(Ai.1 m).1;exact Nat.ne_of_lt (J.out k z m (by omega))
def GotRec (b:World)(l:List Sg)(pos:Nat)(e:Ending)(a:World):Prop:=
 (∃v r,e=.returned (.tuple #[v,.int .i64 0])∧r∈l.flatMap Sg.rs∧r.1=pos∧Buf a b.heap.size 5 v r.2)∨(e=.returned (.tuple #[.slice none 0 0,.int .i64 9])∧∀r∈l.flatMap Sg.rs,r.1≠pos)
theorem UL {w:World}{B W d frm segs nx ah:Nat}{fr:Bool}{vl:Value}{l:List Sg}(h:LogAt w B W d frm segs nx ah fr vl l)(P:l.length≤1000∧∀s∈l,s.recs.length≤1000)(Q:∀s∈l,∀r∈s.rs,r.ok)(S:∀s∈l,Q9 s.recs)(pos:Nat)(R:pos<281474976710656):
  Calls Tryz.prog 279 #[pr W 0,.int .i64 (pos:Int)] w fun e X=>GotRec w l pos e X∧Keep [] w X:=by
 have c3:=Hk h.blk;obtain⟨a,cap,rfl⟩:=h.slice;obtain⟨H,z,K,HU,HP⟩:=i_5 h P Q S R;clear h P Q S R;go_enter Tryz.func279,Tryz.ntmps279;go_wp2_with fail;clear c3
 go_loopw [17] (fun ai wr=>∃i:Nat,ai=.int .i64 (i:Int)∧i≤l.length∧(∀r∈(l.take i).flatMap Sg.rs,r.1≠pos)∧Keep [] w wr) (fun x _=>l.length+1-(intOf x).toNat)
 case atStart=>exact⟨0,rfl,AA _,by simp,By _ _⟩
 case round=>
 obtain⟨i,rfl,hi,F,n⟩:=hrel;obtain⟨I,J⟩:=i_2 F n;by_cases af:i<l.length
 ·have q0:decide ((i:Int)<(l.length:Int))=true:=An (by omega)
  obtain⟨s,p⟩:∃s,l[i]?=some s:=⟨_,Ad af⟩;have D:=H.out.still n;obtain⟨ba,aj,m,L⟩:=D.seg_at i s p;injection m with m hv2 hv3;subst m hv3;clear hv2;have j:=Aq p;have o:=D.row.ok s j;have c4:=IL o.blk;obtain⟨HS,C⟩:=i_2 o p;have hn:=z.out.1;have G:=h_ (@Qz wr B s.vr s.recs o.recs (HU.out s j) (z.out.2 s j) (fun y c=>(K.out s j y.r (AI.2 ⟨y,c,rfl⟩)).2.2.1) pos HP.out);unfold RFN at G;have ab:=h_ (K.out s j);clear o p D j F n;go_wp2_with fail;refine G.out.mono ?_;rintro e w2 ⟨k,b,rfl,E,hF,t⟩;have u:=h_ (J.out.trans t);have A:=h_ (HS.out.still t)
  cases b with
  |false=>
   have Z:=h_ (hF rfl);clear t E hF L c4;go_wp2
   go_roundw
   case rel=>
    refine⟨i+1,by go_num,by omega, ?_,u.out⟩;intro r f;rw[BH,Bg,C.out]at f;rcases Ag.1 f with f|f
    ·exact I.out r f
    ·simp[Sg.rs]at f
     obtain⟨y,c,rfl⟩:=f;exact Z.out y c
   case measure=>simp only[intOf];omega
  |true=>obtain⟨y,c,T⟩:=E rfl;have ae:=(Ai.1 c).1;have M:=IL A.out.blk;obtain⟨g,gc,O,k0,U⟩:=A.out.recs.at_ k ae;rw[O]at M;rw[(Ai.1 c).2]at U;have q:=Aq c;have N:=(A.out.recs.ok y q).1;have ag:=(ab.out y.r (AI.2 ⟨y,q,rfl⟩)).2.1;have Y:=h_ (Fg y.v y.r.2 N.rd (by omega));obtain⟨ac,ad⟩:=i_2 q T;have ak:=z.out.2 s (Aq C.out);clear t E hF L c4 c T q N ag O k0;go_wp2_with fail;refine Y.out.mono ?_;rintro e w3 ⟨v,rfl,m,V⟩;obtain⟨HV,aa⟩:=i_2 m V;clear m V U M;go_wp2;go_ret2;refine⟨.inl ⟨v,y.r,rfl, ?_,ad.out,HV.out.mono u.out.size⟩,u.out.trans aa.out⟩;exact Bm.2 ⟨s,Aq C.out,AI.2 ⟨y,ac.out,rfl⟩⟩
 ·obtain rfl:i=l.length:=by omega
  have q0:decide ((l.length:Int)<(l.length:Int))=false:=by simp
  clear F n;go_wp2;go_ret2;refine⟨.inr ⟨rfl, ?_⟩,J.out⟩;have:=I.out
  rwa [Bt]at this
theorem Keep.cell1 {S:List Nat}{w e:World}{a:Addr}{v:Value}(k:Keep S w e)(h:w.cell? a=some v)(g:a.block∉S):e.cell? a=some v:=by
 have f:a.block<w.heap.size:=by
  rcases Gi a.block w.heap.size with b|b
  ·exact b
  ·simp[World.cell?,Dt b]at h
 rw[k.cell f g];exact h
def nextGen (l:List Sg):Nat:=match l.getLast? with|none=>1|some s=>s.gen+1
def nilS:Value:= .slice none 0 0
theorem Tryz.infoPs:(Tryz.prog.info? 359).map (fun i=>(i.zero,i.size,i.bytes))=some (some (.pointer none),1,8):=by kernel_rfl
theorem Ya {w:World}{B:Nat}{T:TypeId}{v:Value}{l:List Sg}(h:Own w B T v (l.map sgPtr)):w.ownsRow B T 1 v l.length (l.map sgPtr):=by unfold Own at h;rw[AD]at h;exact h
theorem V3 {w:World}{B:Nat}{T:TypeId}{v:Value}{l:List Sg}{u:Value}(h:w.ownsRow B T 1 v (l.length+1) (l.map sgPtr++[u])):Own w B T v (l.map sgPtr++[u]):=by unfold Own;rw[Aj,AD];exact h
theorem Ki {α β:Type}(f:α→List β){l m:List α}(h:l.Sublist m):(l.flatMap f).Sublist (m.flatMap f):=by
 induction h with
 |slnil=>simp
 |cons a _ ih=>rw[BI];exact ih.trans (List.sublist_append_right _ _)
 |cons_cons a _ ih=>rw[BI,BI];exact List.Sublist.append (List.Sublist.refl _) ih
def begJ4 (h:World)(p c1 c2 lb e f n cap b g nx:Nat)(l:Nat→Bool)(x:Nat→Value)(a:World):Prop:=
 (a.cell? ⟨c1,0,none⟩=some (pr p 0))∧
 (a.cell? ⟨c2,0,none⟩=some (pr lb 0))∧
 (a.cell? ⟨lb,3,none⟩=some (.slice (some ⟨e,0,none⟩) n cap))∧
 (a.cell? ⟨e,f,none⟩=some (pr b 0))∧
 (a.cell? ⟨b,0,none⟩=some (.int .i64 (g:Int)))∧
 (l 15=false→Blk a p (sgC 1 (nx:Int) 0 nilS nilS) 358)∧
 (l 15=true→Blk a p (sgC ((g:Int)+1) (nx:Int) 0 nilS nilS) 358)∧
 (Keep [p] h a)∧
 SlV l x 0 [some (pr p 0),some (pr lb 0),some (pr lb 0),some (pr lb 3),some (.slice (some ⟨e,0,none⟩) n cap),some (.int .i64 (n:Int)),some (.int .i64 (f:Int)),some (pr e f),some (pr b 0),some (pr b 0),some (pr b 0),some (.int .i64 (g:Int)),some (.int .i64 ((g:Int)+1)),some (pr p 0),some (pr p 0),none]
def begJ8 (h:World)(B d lb p c1 c2 G frm segs nx run:Nat)(fr:Bool)(vl:Value)(g b:List Sg)(l:Nat→Bool)(x:Nat→Value)(a:World):Prop:=
 ∃e f,(a.cell? ⟨c1,0,none⟩=some (pr p 0))∧
 (a.cell? ⟨c2,0,none⟩=some (pr lb 0))∧
 (l 6=false→Own a B 359 vl (g.map sgPtr))∧
 (l 6=true→Own a B 359 (.slice e b.length f) (b.map sgPtr))∧
 (l 6=true→(.slice e b.length f:Value).ownBlock =vl.ownBlock)∧
 (l 9=false→Blk a lb (lgC d (frm:Int) (segs:Int) vl (nx:Int) (run:Int) fr) 333)∧
 (l 9=true→Blk a lb (lgC d (frm:Int) (segs:Int) (.slice e b.length f) (nx:Int) (run:Int) fr) 333)∧
 (∀s∈g,Ed a s)∧
 (Ed a ⟨p,G,nx,0,nilS,nilS,[]⟩)∧
 (l 9=true→l 6=true)∧
 (l 6=true→l 4=true)∧
 (Keep (lb::vl.ownBlock.toList) h a)∧
 SlV l x 0 [some (pr lb 0),some (pr lb 0),some (pr lb 0),some (pr lb 3),some vl,some (.func (.func 275) #[] #[pr c1 0,pr c2 0]),some (.slice e b.length f),some (pr lb 0),some (pr lb 3),none]
def begJ9 (j:World)(B d lb p c1 c2 frm segs nx run:Nat)(fr:Bool)(e:Option Addr)(f:Nat)(a:List Sg)(l:Nat→Bool)(x:Nat→Value)(b:World):Prop:=
 ∃g h i,(b.cell? ⟨c1,0,none⟩=some (pr p 0))∧
 (b.cell? ⟨c2,0,none⟩=some (pr lb 0))∧
 (l 7=false→Own b B 359 (.slice e a.length f) (a.map sgPtr))∧
 (l 7=true→Own b B 359 (.slice g (a.length+1) h) (a.map sgPtr++[pr p 0]))∧
 (l 7=true→∀q,(.slice g (a.length+1) h:Value).ownBlock =some q→(.slice e a.length f:Value).ownBlock =some q∨j.heap.size≤q)∧
 (l 10=false→Blk b lb (lgC d (frm:Int) (segs:Int) (.slice e a.length f) (nx:Int) (run:Int) fr) 333)∧
 (l 10=true→Blk b lb (lgC d (frm:Int) (segs:Int) (.slice g (a.length+1) h) (nx:Int) (run:Int) fr) 333)∧
 (l 10=true→l 7=true)∧
 (l 7=true→l 4=true)∧
 (Keep (lb::(.slice e a.length f:Value).ownBlock.toList) j b)∧
 (l 6=true→x 6=.slice (some ⟨i,0,none⟩) 1 1∧(l 7=false→Blk b i [pr p 0] 359∧j.heap.size≤i))∧
 SlV l x 0 [some (pr lb 0),some (pr lb 0),some (pr lb 0),some (pr lb 3),some (.slice e a.length f),some (pr p 0),none,some (.slice g (a.length+1) h),some (pr lb 0),some (pr lb 3),none]
section
variable {w:World} {B lb d sb c frm segs nx run:Nat} {fr:Bool} {vl:Value} {l₀:List Sg} {L:List Sec}
theorem R7 (h:LogAt w B lb d frm segs nx run fr vl l₀)(M:IsDev w d sb L c)(hc:c+2<1099511627776)(N:l₀.length≤200)(hg:∀s∈l₀,0<s.gen∧s.gen+1<281474976710656)(du:nx<281474976710656)(dx:run<4294967296)
  (dz:0<segs∧segs≤200) (dp:frm≤100000) (ae:Nat) (ce:ae=frm+(nextGen l₀-1) % segs*8) (ah:ae<L.length):
  Calls Tryz.prog 251 #[pr lb 0] w fun e J=>∃p ed,e=.returned (.int .i64 0)∧LogAt J B lb d frm segs nx run fr ed (l₀.filter (fun s=> !decide ((s.gen:Int)≤(nextGen l₀:Int)-(segs:Int)))++[⟨p,nextGen l₀,nx,0,nilS,nilS,[]⟩])∧
   IsDev J d sb ((L.set ae ⟨sgImg (nextGen l₀) nx run 0 [],(L.getD ae zeroSec).lasts,true⟩).map flushSec) (c+2)∧Keep (d::sb::lb::vl.ownBlock.toList) w J∧w.heap.size≤p∧(∀q,ed.ownBlock=some q→vl.ownBlock=some q∨w.heap.size≤q):=by
 obtain⟨G,hG⟩:∃G,G=nextGen l₀:=⟨_,rfl⟩;rw[←hG]at ce⊢;obtain⟨D,bv⟩:∃D,D=l₀.filter (fun s=> !decide ((s.gen:Int)≤(G:Int)-(segs:Int))):=⟨_,rfl⟩;have aw:=h_ bv;rw[←bv];clear bv
 have dd:0<G∧G<281474976710656:=by
  rw[hG];unfold nextGen
  cases hh:l₀.getLast? with
  |none=>exact⟨by decide,by decide⟩
  |some s=>have:=hg s (GT hh);exact⟨by simp,this.2⟩
 obtain⟨HG,H,HD,HC,HL,co,eu,ev,cw⟩:=i_9 hG h M hc N hg du dx dz;obtain⟨ej,en,er,bp⟩:=i_4 dp ce ah dd;obtain⟨a,cap,ar⟩:=h.slice;obtain⟨iP,e7,fd,fe,ff⟩:=AU Tryz.infoPs;have ab:=BY w [pr lb 0] 280;have K1:=(By [] w).alloc (.cells #[pr lb 0] 280);have k4:=K1.cell1 (PA h.blk) (by simp);have ch:(w.alloc (.cells #[pr lb 0] 280)).heap.size =w.heap.size+1:=by simp
 obtain⟨w1,d5⟩:∃w1,w1=w.alloc (.cells #[pr lb 0] 280):=⟨_,rfl⟩;simp only[List.toArray]at ab;have db:=ab.cell 0;simp only[List.getElem?_cons_zero]at db;clear h M hc N hg du dx dz dp ce ah dd hG;go_enter Tryz.func251,Tryz.ntmps251;go_upto_region 2 with fail;rw[←d5]at ab K1 ch⊢;clear k4 db;have ap:=BY w1 (sgC 1 (nx:Int) 0 nilS nilS) 358;have KS:=(By [] w1).alloc (.cells (sgC 1 (nx:Int) 0 nilS nilS).toArray 358);have d2:(w1.alloc (.cells (sgC 1 (nx:Int) 0 nilS nilS).toArray 358)).heap.size =w1.heap.size+1:=by simp
 rw[show(#[Value.int .i64 1,.int .i64 (nx:Int),.int .i64 0,.slice none 0 0,.slice none 0 0]:Array Value)=(sgC 1 (nx:Int) 0 nilS nilS).toArray from rfl];generalize w1.alloc (.cells (sgC 1 (nx:Int) 0 nilS nilS).toArray 358)=w2 at*;rw[←ch,←d2];obtain⟨p,hp⟩:∃p,p=w1.heap.size:=⟨_,rfl⟩;rw[←hp]at ap⊢;have ao:=BY w2 [pr p 0] 359;have KC:=(By [] w2).alloc (.cells #[pr p 0] 359);simp only[List.toArray]at ao;obtain⟨c1,dk⟩:∃c1,c1=w2.heap.size:=⟨_,rfl⟩;rw[←dk]at ao⊢;obtain⟨c2,cc⟩:∃c2,c2=w.heap.size:=⟨_,rfl⟩;rw[←cc]at ab⊢;generalize w2.alloc (.cells #[pr p 0] 359)=w3 at*;have ap:=ap.keep KC (by simp);have ab:=(ab.keep KS (by simp)).keep KC (by simp);have bq:Hid (Keep [] w w3):=h_ (K1.trans (KS.trans KC));have HN:Hid (c2=w.heap.size∧c2<p∧p<c1):=h_ ⟨cc,by have:=KS.size;omega,by omega⟩;have h3:=H.out.still bq.out;clear K1 KS KC ch d2 hp dk cc d5;have C:=Hk h3.blk;have i:=ab.cell 0;have j:=ao.cell 0;simp only[List.getElem?_cons_zero]at j i;subst ar;obtain⟨bn,cl,cm,H3⟩:=i_4 ap ab ao h3;clear ap ab ao h3;go_upto_if 18 with fail;go_cut [] (fun wc=>Blk wc p (sgC (G:Int) (nx:Int) 0 nilS nilS) 358∧Keep [p] w3 wc)
 case first=>
  by_cases aq:l₀=[]
  ·have dq:G=1:=by rw[HG.out,aq];rfl
   have hz:l₀.length=0:=by rw[aq];rfl
   have ey:¬0<l₀.length:=by omega
   have ek:=h_ dq;clear dq aq hz;go_wp2_with fail;go_meet;refine⟨?_,By _ _⟩;rw[ek.out];exact bn.out
  ·obtain⟨n,hn⟩:∃n,l₀.length=n:=⟨_,rfl⟩
   obtain⟨N1,ca⟩:∃N1,n=N1+1:=⟨n-1,by have:=Cs.2 aq;omega⟩;obtain⟨s,bh⟩:∃s,l₀[N1]?=some s:=⟨_,Ad (by omega)⟩;have ds:l₀.getLast?=some s:=by rw[Ci,hn,ca];exact bh
   have dr:G=s.gen+1:=by rw[HG.out];unfold nextGen;rw[ds]
   obtain⟨ba,fi,hv,ec⟩:=H3.out.seg_at N1 s bh;injection hv with hv bj hv3;subst hv hv3;have bi:s∈l₀:=Aq bh;have dy:=H3.out.row.ok s bi;have eb:=Fl dy.blk
   have am:Hid (c1∉ [p]∧c2∉ [p]∧lb∉ [p]∧ba∉ [p]∧s.p∉ [p]):=h_ (by have hn:=HN.out;have ah:=H.out.lt;have h1:=(ah lb (by simp[DG])).2;have h2:=(ah ba (by simp[DG,Value.ownBlock])).2;have h3:=(ah s.p (by simp only[DG,Ac,Ag];exact .inr (.inr (Bm.2 ⟨s,bi,by simp[Sg.F]⟩)))).2;simp only[Ah];refine⟨by omega,by omega,by omega,by omega,by omega⟩)
   have cg:=HL.out;have ey:0<l₀.length:=by omega
   rw[hn]at cg;have es:Hid (n=N1+1∧n≤200):=h_ ⟨ca,cg⟩;have et:Hid (IntKind.i64.wrap ((n:Int)-1)=(N1:Int)):=h_ (by rw[A9];omega);have em:Hid (IntKind.i64.wrap ((s.gen:Int)+1)=(s.gen:Int)+1):=h_ (by rw[A9];have:=co.out s bi;omega);have el:Hid ((G:Int)=(s.gen:Int)+1):=h_ (by rw[dr];simp);have d8:=j;have ea:=i;have cj:=C;have ct:=h_ hn;clear bj bh ca dr dy j i C bi aq ds cg;clear hn;go_upto_region 4 with fail;rw[ct.out]at cj⊢;refine wI (begJ4 w3 p c1 c2 lb ba N1 n cap s.p s.gen nx) ?aS (.s ?a0<|.s ?a1<|.s ?a2<|.s ?a3<|.s ?a4<|.s ?a5<|.s ?a6<|.s ?a7<|.s ?a8<|.s ?a9<|.s ?a10<|.s ?a11<|.s ?a12<|.s ?a13<|.s ?a14<|.s ?a15<|.n) 16 ?aF
   case aS=>intro x;exact⟨d8,ea,cj,ec,eb,fun _=>bn.out.drew,fun h=>absurd h (by decide),(By _ _).drew,Yr⟩
   case aF=>intro l x w3 P N;obtain⟨j,i,C,X,V,Q,aa,o,vS⟩:=P;have hS:=aa (N 15 (by decide));simp only[Al,Act.put,A8,A7,A6];obtain⟨HS,ep⟩:=i_2 hS o;clear N Q aa o hS j i C X V d8 ea cj ec eb vS;rw[←ct.out];go_wp2_with fail;go_meet;refine⟨?_,ep.out⟩;have:=HS.out;rw[el.out];exact this
   all_goals
    intro l x J P z M;obtain⟨j,i,C,X,V,Q,aa,o,vS⟩:=P;have hW:=vS;have hD:=M;simp only[SlV]at hW
    try simp[BD,Region.binds]at hD
    refine Oq.of (by simp only[Al,Act.put,A8,A7,A6,hD,hW];rfl) ?_;clear hD hW;intro K' A
   case a1=>have c0:=i;go_simp;exact A.go _ rfl ⟨j,i,C,X,V,Q,aa,o,vS.r⟩
   case a4=>have c0:=C;go_simp;exact A.go _ rfl ⟨j,i,C,X,V,Q,aa,o,vS.r⟩
   case a6=>go_simp;exact A.go _ rfl ⟨j,i,C,X,V,Q,aa,o,vS.q ((by first|rfl|exact A3 (Value.int .i64) et.out))⟩
   case a7=>go_simp;rw[Ay (by have:=es.out;omega)];exact A.go _ rfl ⟨j,i,C,X,V,Q,aa,o,vS.r⟩
   case a8=>have c0:=X;go_simp;exact A.go _ rfl ⟨j,i,C,X,V,Q,aa,o,vS.r⟩
   case a11=>have c0:=V;go_simp;exact A.go _ rfl ⟨j,i,C,X,V,Q,aa,o,vS.r⟩
   case a12=>go_simp;exact A.go _ rfl ⟨j,i,C,X,V,Q,aa,o,vS.q ((by first|rfl|exact A3 (Value.int .i64) em.out))⟩
   case a15=>have c0:=Fl (Q z);have f0:=(Q z).free 0;go_simp;have v:Keep [p] J _:=((By [p] J).setCell (p:=⟨p,0,none⟩) (.inl (by simp)) (.int .i64 ((s.gen:Int)+1)));have e0:=(Q z).set 0 (.int .i64 ((s.gen:Int)+1));exact A.go undef rfl ⟨v.cell1 j am.out.1,v.cell1 i am.out.2.1,v.cell1 C am.out.2.2.1,v.cell1 X am.out.2.2.2.1,v.cell1 V am.out.2.2.2.2,fun h=>Bool.noConfusion (show true=false from h),fun _=>e0,o.trans v,vS.s rfl⟩
   all_goals have c0:=j;go_simp;exact A.go _ rfl ⟨j,i,C,X,V,Q,aa,o,vS.r⟩
 case rest=>
 obtain⟨di,ai⟩:=hcut;have hn:=HN.out;have cf:=H.out.lt;have dt:=(cf lb (by simp[DG])).2;have dj:∀q,(Value.slice a l₀.length cap).ownBlock =some q→q<w.heap.size:=fun q f=>(cf q (Ap _ (A2 _ (Ae.2 f)))).2
 have bb:Keep [] w wc:=bq.out.then ai (by intro x hx ah;simp at hx;omega);have h4:=H.out.still bb;have dl:=HD.out.keep bb (by simp) (by simp);have j:=ai.cell1 j (by simp;omega);have i:=ai.cell1 i (by simp;omega);have dg:=cm.out.keep ai (by simp;omega);have dh:=cl.out.keep ai (by simp;omega);obtain⟨aj,H4,az,bl,bm,cp,eq,eg⟩:=i_8 dl h4 di dg dh bb dt dj;clear di ai cf h4 dl dg dh bb bn cl cm H3 bq C hn dt dj;generalize wc=w4 at*;go_wp2_with fail;refine(Lz aj.out (by have:=HC.out;omega) frm segs _ (nx:Int) run fr H4.out.blk G nx 0 nilS nilS [] az.out (Y6 _ _) (by simp) (by simp) 0 (by decide) ⟨bp.out.2,eu.out,ev.out⟩ bp.out.1 cw.out ej.out ae (by rw[en.out,Nat.add_zero]) er.out (by intro q f;cases f)).mono ?_;rintro e w5 ⟨rfl,dm,k5⟩;have ak:=h_ dm;have br:Hid (Keep [d,sb] w w5):=h_ ((cp.out.mono (by simp)).trans k5);have H5:=h_ (H4.out.keep k5 (H4.out.apart aj.out))
 have bf:∀ {b:Nat} {T:TypeId},Ty w4 b T→T≠182→T≠232→b∉ [d,sb]:=by
  intro b T ht h1 h2 m;simp only[Ac,Am,AG]at m;rcases m with rfl|rfl
  ·exact ht.ne aj.out.dev.ty h1 rfl
  ·exact ht.ne aj.out.secs.ty h2 rfl
 have bu:=h_ (az.out.keep k5 (bf az.out.ty (by decide) (by decide)));have ee:=h_ (bl.out.keep k5 (bf bl.out.ty (by decide) (by decide)));have ef:=h_ (bm.out.keep k5 (bf bm.out.ty (by decide) (by decide)));clear dm k5 bf az bl bm H4 aj cp j i;have j:=ee.out.cell 0;have i:=ef.out.cell 0;simp only[List.getElem?_cons_zero]at j i;have C:=Hk H5.out.blk
 have S:∀s∈l₀,Ed w5 s:=fun s u=>by have hA:=H5.out.row.ok s u;exact⟨Fl hA.blk,hA.blk.ty,by have:=(co.out s u).2;omega⟩
 have ac:Ed w5 ⟨p,G,nx,0,nilS,nilS,[]⟩:=⟨Fl bu.out,bu.out.ty,bp.out.2⟩;have bx:=H5.out.blk;have be:=H5.out.row.own
 have R:Hid (∀b,b=p∨b=c1∨b=c2→b∉(Value.slice a l₀.length cap).ownBlock.toList):=h_ (by intro b hb m;have:=eg.out b (Ae.1 m);have:=HN.out;omega)
 have ag:Hid (p≠lb∧c1≠lb∧c2≠lb):=h_ (by have:=HN.out;have:=eq.out;omega);obtain⟨vl,ar⟩:∃vl,vl=Value.slice a l₀.length cap:=⟨_,rfl⟩;rw[←ar]at C bx be R;have cz:=h_ ar;have da:Hid (∀q∈vl.ownBlock.toList,Ty w5 q 359):=h_ (fun q f=>be.ty q (Ae.1 f));clear ar;go_upto_region 8 with fail;refine wI (begJ8 w5 B d lb p c1 c2 G frm segs nx run fr vl l₀ D) ?bS (.s ?b0<|.s ?b1<|.s ?b2<|.s ?b3<|.s ?b4<|.s ?b5<|.s ?b6<|.s ?b7<|.s ?b8<|.s ?b9<|.n) 10 ?bF
 case bS=>intro x;exact⟨none,0,j,i,fun _=>be.drew,fun h=>absurd h (by decide),fun h=>absurd h (by decide),fun _=>bx.drew,fun h=>absurd h (by decide),fun s u=>(S s u).keep0 (By [] _).drew,ac.keep0 (By [] _).drew,fun h=>absurd h (by decide),fun h=>absurd h (by decide),(By _ _).drew,Yr⟩
 case bF=>
  intro l x w3 P N;obtain⟨Y,Z,j,i,I,E,K,y,O,S,ac,d9,d6,o,vS⟩:=P;have cb:=E (N 6 (by decide));have bd:=O (N 9 (by decide));have ci:=K (N 6 (by decide));simp only[Al,Act.put,A8,A7,A6];simp only[AP,Nat.reduceAdd];obtain⟨cy,ax⟩:=i_2 ci o;have cs:=R;have R:Hid (∀b,b=p∨b=c1∨b=c2→b∉(Value.slice Y D.length Z).ownBlock.toList):=h_ (fun b hb=>by rw[ci];exact cs.out b hb);have fg:=j;have fh:=i;clear I E K y O d9 d6 N ci be bx C vS;have C:=Hk bd
  have ew:Hid (Blk w3 p (sgC (G:Int) (nx:Int) 0 nilS nilS) 358):=h_ (bu.out.keep o (fun m=>by
   rcases Ac.1 m with h|h
   ·exact ag.out.1 h
   ·exact cs.out p (.inl rfl) h))
  have cn:Hid (D.length≤200):=h_ (by rw[aw.out];exact AJ (D6 _ _) HL.out);have eh:Hid (B≤w3.heap.size):=h_ (by have:=H.out.lt lb (by simp[DG]);have:=br.out.size;have:=ax.out.size;omega);clear o S ac fg fh;generalize w3=w8 at*;go_upto_region 9 with fail;refine wI (begJ9 w8 B d lb p c1 c2 frm segs nx run fr Y Z D) ?cS (.s ?c0<|.s ?c1<|.s ?c2<|.s ?c3<|.s ?c4<|.s ?c5<|.s ?c6<|.s ?c7<|.s ?c8<|.s ?c9<|.s ?c10<|.n) 11 ?cF
  case cS=>intro x;exact⟨none,0,0,j,i,fun _=>cb.drew,fun h=>absurd h (by decide),fun h=>absurd h (by decide),fun _=>bd.drew,fun h=>absurd h (by decide),fun h=>absurd h (by decide),fun h=>absurd h (by decide),(By _ _).drew,fun h=>absurd h (by decide),Yr⟩
  case c7=>
   intro l x J P z M;obtain⟨ua,af,B6,j,i,I,E,K,y,O,ad,d7,o,h6,vS⟩:=P;have e4:=vS.a 4 (M.at rfl) rfl;have e6:=h6 (M.at rfl);have bs:Hid (l 4=true):=h_ (M.at rfl);have bc:l 10=false:=by cases f:l 10 with|false=>rfl|true=>exact absurd (ad f) (by simp[z])
   obtain⟨e5,fj⟩:=e6.2 z;have U:=(y bc).ty;have bk:=(I z).ty;have fk:=(I z).lt;have bg:lb∉(.slice Y D.length Z:Value).ownBlock.toList :=fun m=>U.ne (bk lb (Ae.1 m)) (by decide) rfl
   refine Oq.of (b:= ?bC7) ?eC7 ?_
   case eC7=>simp only[Al,Act.put,A8,A7,A6,e4,e6.1];rfl
   intro K' A;refine BO _ rfl (.tmp 53) (.tmp 55) 331 331 rfl B 359 iP _ 1 8 Fz e7 fd fe ff rfl (by decide) (.slice Y D.length Z) D.length (D.map sgPtr) rfl (Ya (I z)) _ 1 [pr p 0] rfl (src_at Fz J B6 _ (e5.cell 0) rfl) (by unfold maxLen;have:=cn.out;omega) (by have:=cn.out;omega) (AJ eh.out o.size) ?_;intro v2 w2 g2 g3 _ g4;obtain⟨au,av,rfl⟩:=A4 g2;have v:Keep (.slice Y D.length Z:Value).ownBlock.toList J w2:=DJ g3;have an:=V3 g2;exact A.go (.slice au (D.length+1) av) rfl ⟨au,av,B6,v.cell1 j (fun m=>R.out c1 (.inr (.inl rfl)) m),v.cell1 i (fun m=>R.out c2 (.inr (.inr rfl)) m),fun h=>Bool.noConfusion (show true=false from h),fun _=>an,fun _ q f=>(g4 q f).imp id (fun h=>AJ o.size h),fun h=>(y h).keep v bg,fun h=>absurd (bc.symm.trans h) (by decide),fun _=>rfl,fun _=>bs.out,o.trans (v.mono (fun q f _=>Ap _ f)),fun h=>⟨(h6 h).1,fun ck=>Bool.noConfusion (show true=false from ck)⟩,vS.r⟩
  case cF=>
   intro l x w3 P N;obtain⟨ua,af,B6,j,i,I,E,K,y,O,ad,d7,o,h6,vS⟩:=P;have df:=E (N 7 (by decide));have bz:=O (N 10 (by decide));have d4:=K (N 7 (by decide));simp only[Al,Act.put,A8,A7,A6];simp only[AP,Nat.reduceAdd];obtain⟨cr,cu,ex,eo⟩:=i_4 bz df d4 o;have U:=bd.ty;have cx:Hid (∀q∈(Value.slice Y D.length Z).ownBlock.toList,Ty w8 q 359):=h_ (fun q f=>cb.ty q (Ae.1 f))
   have al:Hid (IsDev w8 d sb (L.set ae ⟨sgImg G nx run 0 [],(L.getD ae zeroSec).lasts,true⟩) (c+1)):=h_ (ak.out.keep ax.out (fun m=>by
     rcases Ac.1 m with h|h
     ·exact ak.out.dev.ty.ne H5.out.blk.ty (by decide) h
     ·exact ak.out.dev.ty.ne (da.out d h) (by decide) rfl) (fun m=>by
     rcases Ac.1 m with h|h
     ·exact ak.out.secs.ty.ne H5.out.blk.ty (by decide) h
     ·exact ak.out.secs.ty.ne (da.out sb h) (by decide) rfl))
   have bo:Hid (IsDev w3 d sb (L.set ae ⟨sgImg G nx run 0 [],(L.getD ae zeroSec).lasts,true⟩) (c+1)):=h_ (al.out.keep o (fun m=>by
     rcases Ac.1 m with h|h
     ·exact al.out.dev.ty.ne U (by decide) h
     ·exact al.out.dev.ty.ne (cx.out d h) (by decide) rfl) (fun m=>by
     rcases Ac.1 m with h|h
     ·exact al.out.secs.ty.ne U (by decide) h
     ·exact al.out.secs.ty.ne (cx.out sb h) (by decide) rfl))
   have cv:Hid (Blk w3 p (sgC (G:Int) (nx:Int) 0 nilS nilS) 358):=h_ (ew.out.keep o (fun m=>by
    rcases Ac.1 m with h|h
    ·exact ag.out.1 h
    ·exact R.out p (.inl rfl) h))
   have q0:=Ug bz;clear h6 I E K y O ad d7 N d4 df bz bd cb j o U vS;generalize w3=w9 at*;go_wp2_with fail;refine(GV bo.out (by have:=HC.out;omega)).mono ?_;rintro e wa ⟨rfl,dn,ka⟩;obtain⟨ei,ay⟩:=i_2 dn ka;clear dn ka q0 i C;go_wp2;go_ret
   have e8:Keep (d::sb::lb::vl.ownBlock.toList) w5 wa:=by
    have e1:Keep (d::sb::lb::vl.ownBlock.toList) w5 w8:=ax.out.mono (fun q f _=>Ap _ (Ap _ f))
    have e2:Keep (d::sb::lb::vl.ownBlock.toList) w8 w9:=eo.out.mono (fun q f _=>by rw[cy.out]at f;exact Ap _ (Ap _ f))
    have e3:Keep (d::sb::lb::vl.ownBlock.toList) w9 wa:=ay.out.mono (fun q f _=>by simp only[Ac,Am,AG]at f;rcases f with rfl|rfl<;>simp)
    exact e1.trans (e2.trans e3)
   have de:Keep (d::sb::lb::(Value.slice a l₀.length cap).ownBlock.toList) w wa:=by
    rw[←cz.out]
    exact(br.out.mono (fun q f _=>by simp only[Ac,Am,AG]at f;rcases f with rfl|rfl<;>simp)).trans e8
   have cd:∀ {b:Nat} {T:TypeId},Ty w9 b T→T≠182→T≠232→b∉ [d,sb]:=by
    intro b T ht h1 h2 m;simp only[Ac,Am,AG]at m;rcases m with rfl|rfl
    ·exact ht.ne bo.out.dev.ty h1 rfl
    ·exact ht.ne bo.out.secs.ty h2 rfl
   have fa:∀s∈l₀,∀q∈s.F,q∉(d::sb::lb::(Value.slice a l₀.length cap).ownBlock.toList):=by
    intro s u q f m;have dw:q∈DG lb (.slice a l₀.length cap) l₀:=Ap _ (AQ _ (Bm.2 ⟨s,u,f⟩));have d3:=(H.out.row.ok s u).ty q f;simp only[Ac]at m;rcases m with h|h|h|h
    ·exact H.out.apart HD.out q dw (by simp[h])
    ·exact H.out.apart HD.out q dw (by simp[h])
    ·subst h
     rcases d3 with t|t|t
     ·exact H.out.blk.ty.ne t (by decide) rfl
     ·exact H.out.blk.ty.ne t (by decide) rfl
     ·exact H.out.blk.ty.ne t (by decide) rfl
    ·have t0:=H.out.row.own.ty q (Ae.1 h)
     rcases d3 with t|t|t
     ·exact t0.ne t (by decide) rfl
     ·exact t0.ne t (by decide) rfl
     ·exact t0.ne t (by decide) rfl
   have ez:B≤w.heap.size:=by have:=H.out.lt lb (by simp[DG]);omega
   have dv:w.heap.size≤p:=by have:=HN.out;omega
   have dc:∀s∈D,s∈l₀:=fun s u=>by rw[aw.out]at u;exact(List.mem_filter.1 u).1
   refine⟨p,_,rfl,⟨cr.out.keep ay.out (cd cr.out.ty (by decide) (by decide)),⟨?_, ?_⟩, ?_,H.out.new⟩,ei.out,de,dv, ?_⟩
   ·rw[AL]
    exact cu.out.keep ay.out (fun q f=>cd (cu.out.ty q f) (by decide) (by decide))
   ·intro s u
    rcases Ag.1 u with u|u
    ·exact(H.out.row.ok s (dc s u)).keep de (fa s (dc s u))
    ·simp only[Ac,Am,AG]at u
     subst u;exact⟨cv.out.keep ay.out (cd cv.out.ty (by decide) (by decide)),Y4 _ _ _,RRow.nil _ _,AJ ez dv,by simp[Sg.F,Mj,nilS,Value.ownBlock]⟩
   ·unfold sgF
    rw[Bg]
    have d1:(D.flatMap Sg.F).Sublist (l₀.flatMap Sg.F):=by rw[aw.out];exact Ki Sg.F List.filter_sublist
    have e9:(l₀.flatMap Sg.F).Nodup :=H.out.nd;rw[BV];refine⟨d1.nodup e9,by simp[Sg.F,Mj,nilS,Value.ownBlock], ?_⟩;intro q f r hr fb;subst fb;have h1:=(H.out.lt q (Ap _ (AQ _ (d1.subset f)))).2;simp[Sg.F,Mj,nilS,Value.ownBlock]at hr;omega
   ·intro q f
    rcases ex.out q f with h|h
    ·left
     rw[cy.out,cz.out]at h;exact h
    ·right
     have:=br.out.size;have:=ax.out.size;omega
  all_goals
   intro l x J P z M;obtain⟨ua,af,B6,j,i,I,E,K,y,O,ad,d7,o,h6,vS⟩:=P;have hW:=vS;have hD:=M;simp only[SlV]at hW
   try simp[BD,Region.binds]at hD
   refine Oq.of (by simp only[Al,Act.put,A8,A7,A6,hD,hW];rfl) ?_;clear hD hW;intro K' A
  case c4=>
   have bc:l 10=false:=by cases f:l 10 with|false=>rfl|true=>exact absurd (d7 (ad f)) (by simp[z])
   have c0:=Hk (y bc);go_simp;exact A.go _ rfl ⟨ua,af,B6,j,i,I,E,K,y,O,ad,fun _=>rfl,o,h6,vS.r⟩
  case c5=>have c0:=j;go_simp;exact A.go _ rfl ⟨ua,af,B6,j,i,I,E,K,y,O,ad,d7,o,h6,vS.r⟩
  case c6=>go_simp;exact A.go _ rfl ⟨ua,af,J.heap.size,((By [] _).alloc _).cell1 j (by simp),((By [] _).alloc _).cell1 i (by simp),fun h=>(I h).alloc _,fun h=>(E h).alloc _,K,fun h=>(y h).alloc _,fun h=>(O h).alloc _,ad,d7,o.alloc _,fun _=>⟨rfl,fun _=>⟨BY _ [pr p 0] _,o.size⟩⟩,vS.s rfl⟩
  case c10=>have bt:Hid (l 7=true):=h_ (M.at rfl);have c0:=Hk (y z);have f0:=(y z).free 3;go_simp;have v:Keep [lb] J _:=((By [lb] J).setCell (p:=⟨lb,3,none⟩) (.inl (by simp)) (.slice ua (D.length+1) af));have bw:=(y z).set 3 (.slice ua (D.length+1) af);have U:=(y z).ty;exact A.go undef rfl ⟨ua,af,B6,v.cell1 j (by simp;exact ag.out.2.1),v.cell1 i (by simp;exact ag.out.2.2),fun h=>absurd (h.symm.trans bt.out) (by decide),fun h=>(E h).keep v (fun q f m=>by simp only[Ah]at m;subst m;exact((E h).ty _ f).ne U (by decide) rfl),K,fun h=>Bool.noConfusion (show true=false from h),fun _=>bw,fun _=>bt.out,d7,o.trans (v.mono (by simp)),fun h=>⟨(h6 h).1,fun ck=>absurd (ck.symm.trans bt.out) (by decide)⟩,vS.s rfl⟩
  all_goals have c0:=i;go_simp;exact A.go _ rfl ⟨ua,af,B6,j,i,I,E,K,y,O,ad,d7,o,h6,vS.r⟩
 all_goals
  intro l x J P z M;obtain⟨Y,Z,j,i,I,E,K,y,O,S,ac,d9,d6,o,vS⟩:=P;have hW:=vS;have hD:=M;simp only[SlV]at hW
  try simp[BD,Region.binds]at hD
  refine Oq.of (by simp only[Al,Act.put,A8,A7,A6,hD,hW];rfl) ?_;clear hD hW;intro K' A
 case b4=>
  have f9:l 9=false:=by cases f:l 9 with|false=>rfl|true=>exact absurd (d6 (d9 f)) (by simp[z])
  have c0:=Hk (y f9);go_simp;exact A.go _ rfl ⟨Y,Z,j,i,I,E,K,y,O,S,ac,d9,fun _=>rfl,o,vS.r⟩
 case b6=>
  have bs:Hid (l 4=true):=h_ (M.at rfl);have f9:l 9=false:=by cases f:l 9 with|false=>rfl|true=>exact absurd (d9 f) (by simp[z])
  have U:=(y f9).ty;have bk:=(I z).ty;have bg:lb∉vl.ownBlock.toList:=fun m=>U.ne (bk lb (Ae.1 m)) (by decide) rfl
  have d0:∀s∈l₀,s.p∉vl.ownBlock.toList:=fun s u m=>(S s u).2.1.ne (bk s.p (Ae.1 m)) (by decide) rfl
  have fc:=h_ (show∀W,Keep vl.ownBlock.toList J W→WH W 275 c1 c2 l₀ (fun g=>decide ((g:Int)≤(G:Int)-(segs:Int)))from fun W k s u=>Uy (k.cell1 (S s u).1 (d0 s u)) (k.cell1 ac.1 (R.out p (.inl rfl))) (k.cell1 j (R.out c1 (.inr (.inl rfl)))) (k.cell1 i (R.out c2 (.inr (.inr rfl)))) (k.cell1 (lg_2 (y f9)) bg) ⟨(S s u).2.2,ac.2.2,cw.out.2⟩);go_simp;refine(Oc (I z) fc.out (by have:=HL.out;omega)).mono ?_;rintro e w2 ⟨v2,rfl,an,v,ab⟩;rw[←aw.out]at an;obtain⟨au,av,bj⟩:=an.slice;rw[AD]at bj;subst bj;go_simp;exact A.go (.slice au D.length av) rfl ⟨au,av,v.cell1 j (R.out c1 (.inr (.inl rfl))),v.cell1 i (R.out c2 (.inr (.inr rfl))),fun h=>Bool.noConfusion (show true=false from h),fun _=>an,fun _=>ab,fun h=>(y h).keep v bg,fun h=>absurd (f9.symm.trans h) (by decide),fun s u=>(S s u).keep v (d0 s u),ac.keep v (R.out p (.inl rfl)),fun _=>rfl,fun _=>bs.out,o.trans (v.mono (fun q f _=>Ap _ f)),vS.r⟩
 case b9=>have cq:Hid (l 6=true):=h_ (M.at rfl);have c0:=Hk (y z);have f0:=(y z).free 3;go_simp;have v:Keep [lb] J _:=((By [lb] J).setCell (p:=⟨lb,3,none⟩) (.inl (by simp)) (.slice Y D.length Z));have bw:=(y z).set 3 (.slice Y D.length Z);have U:=(y z).ty;exact A.go undef rfl ⟨Y,Z,v.cell1 j (by simp;exact ag.out.2.1),v.cell1 i (by simp;exact ag.out.2.2),fun h=>absurd (h.symm.trans cq.out) (by decide),fun h=>(E h).keep v (fun q f m=>by simp only[Ah]at m;subst m;exact((E h).ty _ f).ne U (by decide) rfl),K,fun h=>Bool.noConfusion (show true=false from h),fun _=>bw,fun s u=>(S s u).keep v (fun m=>by simp only[Ah]at m;exact(S s u).2.1.ne U (by decide) m),ac.keep v (by simp;exact ag.out.1),fun _=>cq.out,d6,o.trans (v.mono (by simp)),vS.s rfl⟩
 all_goals have c0:=i;go_simp;exact A.go _ rfl ⟨Y,Z,j,i,I,E,K,y,O,S,ac,d9,d6,o,vS.r⟩
end
def need (l:List Sg)(n:Nat):Prop:=match l.getLast? with|none=>True|some s=>370-(n:Int)<((encRs s.rs).length :Int)
structure Ready (w wc:World) (B lb d sb frm segs nx run:Nat) (fr:Bool) (vl vl1:Value) (l₀ l1:List Sg) (L L1:List Sec) (c c1 n:Nat):Prop where
 at_:LogAt wc B lb d frm segs nx run fr vl1 l1
 dev:IsDev wc d sb L1 c1
 keep:Keep (d::sb::lb::vl.ownBlock.toList) w wc
 own:∀q,vl1.ownBlock=some q→vl.ownBlock=some q∨w.heap.size≤q
 how:(¬need l₀ n∧l1=l₀∧L1=L∧c1=c)∨(need l₀ n∧c1=c+2∧(∃p,l1=l₀.filter (fun s=> !decide ((s.gen:Int)≤(nextGen l₀:Int)-(segs:Int)))++[⟨p,nextGen l₀,nx,0,nilS,nilS,[]⟩]∧w.heap.size≤p)∧
  L1=(L.set (frm+(nextGen l₀-1) % segs*8) ⟨sgImg (nextGen l₀) nx run 0 [],(L.getD (frm+(nextGen l₀-1) % segs*8) zeroSec).lasts,true⟩).map flushSec)
theorem Ready.last {w wc:World}{B v d sb frm segs l x:Nat}{o:Bool}{y z:Value}{l₀ g:List Sg}{L m:List Sec}{c c1 n:Nat}(h:Ready w wc B v d sb frm segs l x o y z l₀ g L m c c1 n)(D:n≤300)(k:l₀.length≤199)
  (j:∀s∈l₀,0<s.gen∧s.gen+1<281474976710656∧s.base<281474976710656) (q:l<281474976710656) (t:∀s∈l₀,∀r∈s.rs,r.ok) (u:∀s∈l₀,(encRs s.rs).length ≤378∧s.recs.length≤100):
  ∃A s,g=A++[s]∧A.length≤199∧(0<s.gen∧s.gen<281474976710656∧s.base<281474976710656)∧(∀r∈s.rs,r.ok)∧(encRs s.rs).length +n≤370∧s.recs.length≤100:=by
 rcases h.how with⟨e,rfl,rfl,rfl⟩|⟨e,rfl,⟨p,rfl,E⟩,rfl⟩
 ·cases b:g.getLast? with
  |none=>exact absurd (by unfold need;rw[b];trivial) e
  |some s=>
   obtain⟨A,rfl⟩:=EY.1 b;have f:s∈A++[s]:=by simp
   have C:¬(370-(n:Int)<((encRs s.rs).length :Int)):=by have a:=e;unfold need at a;rw[b]at a;exact a
   have i:=j s f;refine⟨A,s,rfl,by simp at k;omega,⟨i.1,by omega,i.2.2⟩,t s f,by omega,(u s f).2⟩
 ·refine⟨_,_,rfl, ?_,⟨?_, ?_,q⟩,by simp[Sg.rs],by simp[Sg.rs,encRs];omega,by simp⟩
  ·exact AJ (D6 _ _) k
  ·unfold nextGen;split<;>simp
  ·show nextGen l₀<281474976710656
   unfold nextGen
   split
   ·decide
   ·rename_i s hh
    exact(j s (GT hh)).2.1
theorem Ready.foot {w wc:World}{B e d sb frm segs r s:Nat}{k:Bool}{g i:Value}{l₀ f:List Sg}{L j:List Sec}{c c1 n:Nat}(h:Ready w wc B e d sb frm segs r s k g i l₀ f L j c c1 n):∀q∈DG e i f,q∈DG e g l₀∨w.heap.size≤q:=by
 intro q a;unfold DG at a⊢;rcases Ac.1 a with rfl|a
 ·exact .inl (by simp)
 ·rcases Ag.1 a with a|a
  ·rcases h.own q (Ae.1 a)with b|b
   ·exact .inl (Ap _ (A2 _ (Ae.2 b)))
   ·exact .inr b
  ·rcases h.how with⟨_,rfl,_⟩|⟨_,_,⟨p,rfl,l⟩,_⟩
   ·exact .inl (Ap _ (AQ _ a))
   ·unfold sgF at a
    rw[Bg]at a;rcases Ag.1 a with a|a
    ·obtain⟨x,o,m⟩:=Bm.1 a
     exact .inl (Ap _ (AQ _ (Bm.2 ⟨x,(List.mem_filter.1 o).1,m⟩)))
    ·simp[Sg.F,Mj,nilS,Value.ownBlock]at a
     subst a;exact .inr l
def Gu (a c base d:Nat)(b:List Nat)(e:Nat)(L:List Sec):Nat→List Sec
 |0=>L
 |k+1=>if e<st0 (k+1)∧st0 k<b.length then(Gu a c base d b e L k).set (a+k) ⟨sgImg c base d k b,((Gu a c base d b e L k).getD (a+k) zeroSec).lasts,true⟩else Gu a c base d b e L k
theorem GD (a c base d:Nat)(b:List Nat)(e:Nat)(L:List Sec):∀k,(Gu a c base d b e L k).length =L.length
 |0=>rfl
 |k+1=>by
  unfold Gu
  split
  ·rw[Bi];exact GD a c base d b e L k
  ·exact GD a c base d b e L k
theorem XJ {w:World}{a:Nat}{X:List Nat}{T:TypeId}(h:Blk w a (Bb X) T)(b:X.length=8):Rd w (.slice (some ⟨a,0,none⟩) 8 8) X:=by refine⟨by simp,some ⟨a,0,none⟩,8,by rw[b],by omega,fun _=>⟨a,0,rfl,h.lt,fun i c=> ?_⟩⟩;rw[h.cell,AP]
theorem Yo {w:World}{B:Nat}{E:TypeId}{v:Value}{l:List Nat}{n:Nat}(h:Buf w B E v l)(a:l.length=n):w.ownsRow B E 1 v n (Bb l):=by subst a;exact h
theorem XV {P:Program}{t:TypeId}{v:Value}{l:List Nat}{n:Nat}{w:World}(h:Src P 1 t v l.length (Bb l) w)(a:l.length=n):Src P 1 t v n (Bb l) w:=by subst a;exact h
theorem Td {w:World}{B:Nat}{E:TypeId}{v:Value}{l m:List Nat}{n k:Nat}(h:w.ownsRow B E 1 v (n+k) (Bb l++Bb m))(b:l.length=n)(a:m.length=k):Buf w B E v (l++m):=by subst b a;unfold Buf;rw[Aj,DW];exact h
theorem Keep.then2 {S S':List Nat}{a b c:World}(h:Keep S a b)(k:Keep S' b c)(d:∀x∈S',x<a.heap.size→x∈S):Keep S a c:=h.then k d
theorem rrow_n {w:World}{B:Nat}{v:Value}{L:List Rc}(h:RRow w B v L):w.ownsRow B 353 2 v L.length (rcCs L):=h.own
theorem TU {p:Nat}{l n m o s:Option Nat}{R r:List Nat}(g v:Nat)
  (A:(r++(p::(l.toList++(n.toList++R)))).Nodup) (k:∀q∈r++(p::(l.toList++(n.toList++R))),q<g) (O:g≤v)
  (x:∀q,m=some q→l=some q∨g≤q) (F:∀q,m=some q→q<v) (y:∀q,o=some q→n=some q∨v≤q) (t:∀q,s=some q→v≤q)
  (G:∀q,o=some q→s=some q→False) (H:∀q,m=some q→o=some q→False):
  (r++(p::(m.toList++(o.toList++(R++s.toList))))).Nodup :=by
 have hF:∀q∈r,q<g:=fun q i=>k q (by simp[i])
 have P:p<g:=k p (by simp);have w:∀q∈R,q<g:=fun q i=>k q (by simp[i])
 have Q:∀q,l=some q→q<g:=fun q i=>k q (by simp[i])
 have S:∀q,n=some q→q<g:=fun q i=>k q (by simp[i])
 rw[BV]at A⊢;obtain⟨L,D,M⟩:=A;rw[List.nodup_cons]at D⊢;obtain⟨u,B⟩:=D;rw[BV]at B⊢;obtain⟨_,C,I⟩:=B;rw[BV]at C⊢;obtain⟨_,J,K⟩:=C;refine⟨L,⟨?_,⟨by cases m<;>simp,⟨by cases o<;>simp, ?_, ?_⟩, ?_⟩⟩, ?_⟩
 ·intro z
  simp only[Ag,Ae]at z u;rcases z with h|h|h|h
  ·rcases x p h with c|c
   ·exact u (.inl c)
   ·omega
  ·rcases y p h with c|c
   ·exact u (.inr (.inl c))
   ·omega
  ·exact u (.inr (.inr h))
  ·have:=t p h;omega
 ·rw[BV]
  refine⟨J,by cases s<;>simp,fun a f b d e=> ?_⟩;subst e;have E:=w a f;have N:=t a (Ae.1 d);omega
 ·intro a f b d e
  subst e;have j:=Ae.1 f;rcases Ag.1 d with h|h
  ·rcases y a j with c|c
   ·exact K a (Ae.2 c) a h rfl
   ·have:=w a h;omega
  ·exact G a j (Ae.1 h)
 ·intro a f b d e
  subst e;have j:=Ae.1 f;simp only[Ag,Ae]at d;rcases d with h|h|h
  ·exact H a j h
  ·rcases x a j with c|c
   ·exact I a (Ae.2 c) a (AQ _ h) rfl
   ·have:=w a h;omega
  ·have:=F a j;have:=t a h;omega
 ·intro a f b d e
  subst e;have E:=hF a f;simp only[Ac,Ag,Ae]at d;have key:a∈p::(l.toList++(n.toList++R))→False:=fun h=>M a f a h rfl
  simp only[Ac,Ag,Ae]at key;rcases d with h|h|h|h|h
  ·exact key (.inl h)
  ·rcases x a h with c|c
   ·exact key (.inr (.inl c))
   ·omega
  ·rcases y a h with c|c
   ·exact key (.inr (.inr (.inl c)))
   ·omega
  ·exact key (.inr (.inr (.inr h)))
  ·have:=t a h;omega
def fl (a:Bool)(L:List Sec):List Sec:=if a=true then L.map flushSec else L
def Sg.add (s:Sg)(b c:Value)(pos:Nat)(body:List Nat)(a:Value):Sg:=⟨s.p,s.gen,s.base,s.run,b,c,s.recs++[⟨(pos,body),a⟩]⟩
def AppOut (w h:World)(B a d sb frm segs b e:Nat)(l:Bool)(f:Value)(l₀:List Sg)(L:List Sec)(c:Nat)(body:List Nat):Prop:=
 ∃wc g A s i c1 m n k j,Ready w wc B a d sb frm segs b e l f g l₀ (A++[s]) L i c c1 body.length∧LogAt h B a d frm segs (b+1) e false g (A++[s.add m n b body k])∧
  IsDev h d sb (fl l (Gu (frm+(s.gen-1) % segs*8) s.gen s.base e (encRs (s.rs++[(b,body)])) (encRs s.rs).length i 8)) j∧j≤c+12∧Keep (d::sb::DG a f l₀) w h∧
  ∀q∈DG a g (A++[s.add m n b body k]),q∈DG a f l₀∨w.heap.size≤q
theorem XQ {o H wr m:World}{B Z d sb frm segs nx aa c:Nat}{S:Bool}{R k l j:Value}{A:List Sg}{s:Sg}{L:List Sec}{I body:List Nat}{nx':Nat}(u:LogAt o B Z d frm segs nx aa S R (A++[s]))(E:IsDev o d sb L c)
  (N:Keep (s.p::s.vb.ownBlock.toList) o H) (P:Keep [d,sb] H wr) (O:Keep (s.p::s.vr.ownBlock.toList) wr m)
  (ao:Blk m Z (lgC d (frm:Int) (segs:Int) R (nx:Int) (aa:Int) S) 333) (ar:Blk m s.p (sgC (s.gen:Int) (s.base:Int) (s.run:Int) k l) 358)
  (U:Buf H B 5 k I) (an:I=encRs (s.rs++[((nx',body):Rcd)])) (X:RRow m B l (s.recs++[⟨(nx',body),j⟩]))
  (K:∀q,k.ownBlock=some q→s.vb.ownBlock=some q∨o.heap.size≤q) (ai:∀q,l.ownBlock=some q→s.vr.ownBlock=some q∨wr.heap.size≤q) (ae:∀q,j.ownBlock=some q→wr.heap.size≤q):
  LogAt m B Z d frm segs nx aa S R (A++[s.add k l nx' body j])∧∀q∈(s.add k l nx' body j).F,q∈s.F∨o.heap.size≤q:=by
 have i:=u.row.ok s (by simp)
 have G:∀ {b:Nat} {T:TypeId},Ty H b T→T≠182→T≠232→b∉ [d,sb]:=by
  have af:IsDev H d sb L c:=E.keep N (fun f=>by
    rcases Ac.1 f with h|h
    ·exact E.dev.ty.ne i.blk.ty (by decide) h
    ·exact E.dev.ty.ne (i.buf.ty' _ (Ae.1 h)) (by decide) rfl) (fun f=>by
    rcases Ac.1 f with h|h
    ·exact E.secs.ty.ne i.blk.ty (by decide) h
    ·exact E.secs.ty.ne (i.buf.ty' _ (Ae.1 h)) (by decide) rfl)
  intro b T ht z C f;simp only[Ac,Am,AG]at f;rcases f with rfl|rfl
  ·exact ht.ne af.dev.ty z rfl
  ·exact ht.ne af.secs.ty C rfl
 have z6:=N.size;have zr:=P.size;have z8:=O.size;have J:=u.nd;unfold sgF at J;rw[Bg,BI,Eb,AE]at J;have aw:=BV.1 J;have ag:=i.nd;unfold Sg.F Mj at ag
 have ad:Own m B 359 R ((A++[s]).map sgPtr):=by
  have D:=u.row.own
  have ac:=D.keep N (fun q a f=>by
   rcases Ac.1 f with h|h
   ·exact(D.ty q a).ne i.blk.ty (by decide) h
   ·exact(D.ty q a).ne (i.buf.ty' _ (Ae.1 h)) (by decide) rfl)
  have ap:=ac.keep P (fun q a=>G (ac.ty q a) (by decide) (by decide));refine ap.keep O (fun q a f=> ?_);rcases Ac.1 f with h|h
  ·subst h
   have Q:=D.ty _ a;exact Q.ne i.blk.ty (by decide) rfl
  ·have Q:=D.ty q a
   have t2:=i.recs.ty q (A2 _ h);rcases t2 with t|t
   ·exact Q.ne t (by decide) rfl
   ·exact Q.ne t (by decide) rfl
 have am:∀x∈A,SgAt m B x:=by
  intro x n;have ax:=u.row.ok x (by simp[n]);have M:∀q∈x.F,∀r∈s.F,q≠r:=fun q a r hr=>aw.2.2 q (Bm.2 ⟨x,n,a⟩) r hr
  have ak:=ax.keep N (fun q a f=>by
   rcases Ac.1 f with h|h
   ·exact M q a s.p (by simp[Sg.F]) h
   ·exact M q a q (by simp only[Sg.F,Ac,Ag];exact .inr (.inl h)) rfl)
  have ay:=ak.keep P (fun q a=>by
   rcases ak.ty q a with t|t|t
   ·exact G t (by decide) (by decide)
   ·exact G t (by decide) (by decide)
   ·exact G t (by decide) (by decide))
  exact ay.keep O (fun q a f=>by
   rcases Ac.1 f with h|h
   ·exact M q a s.p (by simp[Sg.F]) h
   ·exact M q a q (by simp only[Sg.F,Mj,Ac,Ag];exact .inr (.inr (.inl h))) rfl)
 have V:=U.keep P (fun q a=>G (U.ty' q a) (by decide) (by decide))
 have aq:∀q,s.vr.ownBlock=some q→Ty o q 353:=by
  intro q a;rcases i.recs.own.2 with⟨e,_⟩|⟨g,cap,al,e,_,Y,_⟩
  ·rw[e]at a;cases a
  ·rw[e]at a;cases a;exact⟨_,_,Y⟩
 have ab:Buf m B 5 k I:=V.keep O (fun q a f=>by
  have tq:=U.ty' q a;have az:=V.ty' q a;rcases Ac.1 f with h|h
  ·subst h
   have h5:=i.blk.lt;rcases K _ a with w|w
   ·exact(List.nodup_cons.1 ag).1 (A2 _ (Ae.2 w))
   ·omega
  ·have t5:=aq q (Ae.1 h)
   rcases K _ a with w|w
   ·exact t5.ne (i.buf.ty' q w) (by decide) rfl
   ·have:=t5.lt;omega)
 have av:∀q∈A.flatMap Sg.F++s.F,q<o.heap.size:=by intro q a;refine(u.lt q ?_).2;unfold DG sgF;rw[Bg,BI,Eb,AE];exact Ap _ (AQ _ a)
 have aj:∀q,l.ownBlock=some q→Ty m q 353:=by
  intro q a;rcases X.own.2 with⟨e,_⟩|⟨g,cap,al,e,_,Y,_⟩
  ·rw[e]at a;cases a
  ·rw[e]at a;cases a;exact⟨_,_,Y⟩
 have au:∀q,j.ownBlock=some q→Ty m q 5:=fun q a=>(X.ok ⟨(nx',body),j⟩ (by simp)).1.ty' q a
 have ah:(A.flatMap Sg.F++(s.p::(k.ownBlock.toList++(l.ownBlock.toList++(s.recs.flatMap (fun y=>y.v.ownBlock.toList)++j.ownBlock.toList))))).Nodup :=by
  refine TU o.heap.size wr.heap.size J av (by omega) K (fun q a=>(V.lt q a).2) ai ae ?_ ?_
  ·intro q z C
   exact(aj q z).ne (au q C) (by decide) rfl
  ·intro q z C
   exact(aj q C).ne (ab.ty' q z) (by decide) rfl
 have W:(s.add k l nx' body j).F =s.p::(k.ownBlock.toList++(l.ownBlock.toList++(s.recs.flatMap (fun y=>y.v.ownBlock.toList)++j.ownBlock.toList))):=by unfold Sg.F Mj Sg.add;simp
 refine⟨⟨ao,⟨?_, ?_⟩, ?_,u.new⟩, ?_⟩
 ·rw[AL]at ad⊢
  exact ad
 ·intro x n
  rcases Ag.1 n with n|n
  ·exact am x n
  ·simp only[Ac,Am,AG]at n
   subst n;refine⟨ar, ?_,X,i.new, ?_⟩
   ·have e:encRs (s.add k l nx' body j).rs =I:=by rw[an];simp[Sg.add,Sg.rs]
    rw[e];exact ab
   ·rw[W]
    exact(BV.1 ah).2.1
 ·unfold sgF
  rw[Bg,BI,Eb,AE,W];exact ah
 ·intro q a
  rw[W]at a;simp only[Ac,Ag,Ae]at a;simp only[Sg.F,Mj,Ac,Ag,Ae];rcases a with h|h|h|h|h
  ·exact .inl (.inl h)
  ·exact(K q h).imp (fun h=> .inr (.inl h)) id
  ·exact(ai q h).imp (fun h=> .inr (.inr (.inl h))) (fun h=>by omega)
  ·exact .inl (.inr (.inr (.inr h)))
  ·exact .inr (by have:=ae q h;omega)
theorem LogAt.setC {w:World}{B b d frm segs m n nx' run':Nat}{g fr':Bool}{e:Value}{l:List Sg}(h:LogAt w B b d frm segs m n g e l)(k:Nat)(u:Value)(i:Blk (w.setCell ⟨b,k,none⟩ u) b (lgC d (frm:Int) (segs:Int) e (nx':Int) (run':Int) fr') 333):
  LogAt (w.setCell ⟨b,k,none⟩ u) B b d frm segs nx' run' fr' e l:=by
 refine⟨i,h.row.keep ((By [b] w).setCell (p:=⟨b,k,none⟩) (.inl (by simp)) u) (fun q a f=> ?_),h.nd,h.new⟩;simp only[Ah]at f;subst f;have c:=h.blk.ty;rcases Ag.1 a with a|a
 ·exact c.ne (h.row.own.ty _ (Ae.1 a)) (by decide) rfl
 ·obtain⟨s,j,a⟩:=Bm.1 a
  rcases(h.row.ok s j).ty _ a with t|t|t
  ·exact c.ne t (by decide) rfl
  ·exact c.ne t (by decide) rfl
  ·exact c.ne t (by decide) rfl
end Go.Proofs.YtnhbioehiiifdaaGreat
