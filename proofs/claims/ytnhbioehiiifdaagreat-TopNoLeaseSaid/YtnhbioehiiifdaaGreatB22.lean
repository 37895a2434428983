import Derived.Test.YtnhbioehiiifdaaGreatB21
set_option maxRecDepth 100000
set_option maxHeartbeats 16000000
set_option linter.all false
namespace Go.Proofs.YtnhbioehiiifdaaGreat
open Go.ChangeShapes Go.WideShapes Go.ChangeAt Go.RowKit
theorem KK (q:Who×Nat):(rdC q).length =5:=rfl
theorem SA (q:Who×Nat):∀v∈rdC q,v.oneCell'=true:=by intro v a;simp only[rdC,Ac,Am,AG]at a;rcases a with rfl|rfl|rfl|rfl|rfl<;>rfl
theorem Tryz.infoRd:(Tryz.prog.info? 138).map (fun i=>(i.zero,i.size,i.bytes))=some (some (.agg #[.int .i64 0,.int .i64 0,.int .i64 0,.string ByteArray.empty,.int .i64 0]),5,48):=by kernel_rfl
theorem Vu (c:Who×Nat):Instr.fill (fun i=>some (i*5,5)) ((Array.range (1*5)).map ((Value.agg #[.int .i64 0,.int .i64 0,.int .i64 0,.string ByteArray.empty,.int .i64 0]).cells[· % 5]!)) [(0,.agg (rdC c).toArray)]=some (rdC c).toArray :=by kernel_rfl
theorem Vl (c:Who×Nat)(W:World):(Instr.buildSlice 65 1 #[(0,.agg (rdC c).toArray)]).run Tryz.prog W=.ok (.slice (some ⟨W.heap.size,0,none⟩) 1 1) (W.alloc (.cells (rdC c).toArray 138)):=by obtain⟨e,b,d,a,f⟩:=AU Tryz.infoRd;exact run_buildSlice W _ _ 1 _ _ e _ CL b d (by rw[a];decide) (by rw[a];decide) (by rw[a];exact Vu c)
def Fu (q:Who):List Value:=O1 q.node q.id q.op q.key
def got (n:Nd)(key:Str):Str×Str×Bool:=match cGet n.dk.cache key with
 |some s=>(key,s,true)
 |none=>(se,se,false)
def get1S (c:World)(x:NdP)(n:Nd)(B t:Nat)(v:NdV)(R:List As)(d:Nat)(q:Who)(a:Str×Str×Bool)(U:Nat→Bool)(X:Nat→Value)(W:World):Prop:=
 Keep [] c W∧(U 21=true→∃b,X 21=pr b 0∧c.heap.size≤b∧(U 22=false→Blk W b [.string ByteArray.empty,.string ByteArray.empty,.int .i64 0,.bool false] 171)∧(U 22=true→Blk W b (E8 a.1 a.2.1 0 false) 171))∧(U 22=true→U 21=true)
def get4S (x:NdP)(n:Nd)(B t:Nat)(v:NdV)(R:List As)(a:Nat)(q:Who)(U:Nat→Bool)(X:Nat→Value)(W:World):Prop:=
 W.cell? ⟨x.nb,4,none⟩=some (pr x.tk 0)∧Blk W a (Fu q) 136∧(U 15=false→W.cell? ⟨x.nb,10,none⟩=some v.rv)∧
 (U 12=false→Sp (GW x n B v++AF x.cb t::AM a (Fu q) 136::R) W)∧
 (U 12=true→U 14=false→Sp (GW x {n with tlast:=n.tlast+1,toks:=n.toks++[(n.tlast+1,q.key,true)]} B v++AF x.cb t::AM a (Fu q) 136::R) W)∧
 (U 14=true→U 15=false→∃b,X 14=.slice (some ⟨b,0,none⟩) 1 1∧Sp (AM b (rdC (q,n.tlast+1)) 138::(GW x {n with tlast:=n.tlast+1,toks:=n.toks++[(n.tlast+1,q.key,true)]} B v++AF x.cb t::AM a (Fu q) 136::R)) W)∧
 (U 15=true→U 18=false→Sp (BF 138 5 (X 15) (n.reads++[(q,n.tlast+1)]).length (rows rdC (n.reads++[(q,n.tlast+1)]))::
  AM x.nb (ndC x.stb x.le n.id v.rg x.tk v.wv v.rv n.asked v.ms v.rp) 71::UQ x n.dk B::Yj x.le x.cb n.lep n.lend n.ltop::rgA v.rg n.ring::tkA x.tk (n.tlast+1) (n.toks++[(n.tlast+1,q.key,true)])::
  BF 223 7 v.wv n.waits.length (rows wtC n.waits)::BF 175 21 v.ms v.mt.length (tc v.mt)::WS v.mt::BF 43 6 v.rp n.reps.length (rows rpC n.reps)::AF x.cb t::AM a (Fu q) 136::R) W)∧
 (U 18=true→Sp (GW x {{n with tlast:=n.tlast+1,toks:=n.toks++[(n.tlast+1,q.key,true)]}with reads:=n.reads++[(q,n.tlast+1)]} B {v with rv:=X 15}++AF x.cb t::AM a (Fu q) 136::R) W)∧
 (U 12=true→X 12=.int .i64 ((n.tlast+1:Nat):Int))
section
variable {R:List As} {w w':World} {x:NdP} {n:Nd} {B t:Nat} {v:NdV}
theorem NM (h:NdR w x n B v)(d:B≤900000)(key:Str)(g:key.size≤1000)(f:n.dk.cache.length≤15)(c:Int):Calls Tryz.prog 227 #[pr x.ca 0,.string key,.int .i64 c] w fun e w'=>
  e=.returned (.tuple #[.agg #[.string (got n key).1,.string (got n key).2.1,.int .i64 0,.bool false],.bool (got n key).2.2])∧Keep [] w w':=by
 have a:=Pt h d key g f c;unfold got
 cases b:cGet n.dk.cache key with
 |none=>rw[b]at a;exact a
 |some s=>rw[b]at a;exact a
theorem nd_get (h:Sp (CJ x n B::AF x.cb t::R) w)(y:B≤800000)(q:Who)(hk:q.key.size≤1000)(hc:n.dk.cache.length≤15)(hm:n.msgs.length<300∧n.reps.length<300)(C:n.tlast<100000∧n.reads.length<1000):
  Calls Tryz.prog 181 #[pr x.nb 0,.agg (Fu q).toArray] w fun e w'=>e=.returned (.tuple #[])∧Sp (CJ x (n.get q) B::AF x.cb t::R) w':=by
 obtain⟨m,ap⟩:∃m,m=got n q.key:=⟨_,rfl⟩;have h1:Sp (CJ x n B::AF x.cb t::AM w.heap.size (Fu q) 136::R) (w.alloc (.cells (Fu q).toArray 136)):=(h.alloc (Fu q) 136).push 2;have J:=h_6 y hk hc hm C ap;have H1:=h_ h1;clear h h1 y hk hc hm C ap;go_enter Tryz.func181,Tryz.ntmps181;go_wp2_with fail;obtain⟨b3,ak⟩:∃b,b=w.heap.size:=⟨_,rfl⟩;obtain⟨w1,am⟩:∃w1,w1=w.alloc (.cells (Fu q).toArray 136):=⟨_,rfl⟩;have aa:Hid (Sp (CJ x n B::AF x.cb t::AM b3 (Fu q) 136::R) w1):=h_ (by rw[am,ak];exact H1.out);clear H1;rw[←am,←ak];clear am ak;obtain⟨v,z⟩:=aa.out.ndR;have ae:=(aa.out.pull 1).clock;have ar:=(aa.out.pull 2).blk;have K:=h_3 z ae ar;clear z ae ar;refine wM (A:=[0,1,3,7,15,31,63,0,128,0,512,1536,3584,7680,15872,32256,65024,131071,262143,524287,524287,0,3145727,8388607]) 6291456 [fun _=>pr x.nb 0,fun _=>pr x.nb 0,fun _=>pr x.nb 0,fun _=>pr x.stb 0,fun _=>pr x.stb 0,fun _=>pr x.stb 0,fun _=>pr x.ca 0,fun _=>pr b3 3,fun _=> .string q.key,fun _=>pr x.nb 0,fun _=>pr x.nb 0,fun _=>pr x.nb 1,fun _=>pr x.le 0,fun _=>pr x.le 0,fun _=>pr x.le 0,fun _=>pr x.cb 0,fun _=> .int .i64 (t:Int),fun _=> .tuple #[.agg #[.string m.1,.string m.2.1,.int .i64 0,.bool false],.bool m.2.2],fun _=> .tuple #[.agg #[.string m.1,.string m.2.1,.int .i64 0,.bool false],.bool m.2.2],fun _=> .agg #[.string m.1,.string m.2.1,.int .i64 0,.bool false],fun _=> .bool m.2.2,fun _=>undef,fun _=>undef,fun _=> .bool m.2.2] (get1S w1 x n B t v R b3 q m) ?start (.s ?m0<|.s ?m1<|.s ?m2<|.s ?m3<|.s ?m4<|.s ?m5<|.s ?m6<|.s ?m7<|.s ?m8<|.s ?m9<|.s ?m10<|.s ?m11<|.s ?m12<|.s ?m13<|.s ?m14<|.s ?m15<|.s ?m16<|.s ?m17<|.s ?m18<|.s ?m19<|.s ?m20<|.t ?m21<|.t ?m22<|.s ?m23<|.nil) ?fin
 case start=>intro X;exact⟨(By _ _).drew,(fun h=>by cases h),(fun h=>by cases h)⟩
 case fin=>
  intro U X V j Q;obtain⟨hK,i,_⟩:=j;obtain⟨b,L,g2,_,g4⟩:=i (Q 21 (by decide) (by decide));have p:=g4 (Q 22 (by decide) (by decide));have h7:Sp (CJ x n B::AF x.cb t::AM b3 (Fu q) 136::R) V:=aa.out.still hK;have H:=h_2 h7 p;clear hK i Q h7 g2 g4 p aa K;simp[Al,Act.put,FK,Ab,L];clear L;have ah:=h_ J.out.2.2.2.2.2;have Y:V.cell? ⟨b3,0,none⟩=some (.int .i64 (q.node:Int)):=(H.out.1.pull 2).blk.cell 0;have Z:V.cell? ⟨b3,1,none⟩=some (.int .i64 (q.id:Int)):=(H.out.1.pull 2).blk.cell 1;have z2:V.cell? ⟨b3,2,none⟩=some (.int .i64 (q.op:Int)):=(H.out.1.pull 2).blk.cell 2;have z3:V.cell? ⟨b3,3,none⟩=some (.string q.key):=(H.out.1.pull 2).blk.cell 3
  cases O:cGet n.dk.cache q.key with
  |some s=>
   have hi:m=(q.key,s,true):=by rw[ah.out];unfold got;rw[O]
   subst hi;have i1:V.cell? ⟨b,1,none⟩=some (.string s):=H.out.2.cell 1;have ag:=h_ O;clear O;go_wp2_with fail;refine(KP H.out.1 q 0 s true J.out.2.2.2.1).mono ?_;rintro e w8 ⟨rfl,h8⟩;have H8:=h_ h8;clear h8;go_wp2_with fail
   first
    |go_end0
    |refine Be (v:= .tuple #[]) (Cx rfl _ _ _) rfl ?_
   refine⟨rfl, ?_⟩;have e:n.get q=n.tell q 0 s true:=by unfold Nd.get;rw[ag.out]
   rw[e];exact(H8.out.pull 2).drop
  |none=>
   have hi:m=(se,se,false):=by rw[ah.out];unfold got;rw[O]
   subst hi;have ag:=h_ O;clear O ah;obtain⟨v,I,al,hL⟩:=H.out.1.nd;have c10:=(hL.ndL_r I al).blk.cell 10;have HL:=h_3 hL I al;have ae:=((H.out.1.pull 1)).clock;clear hL I al ae;obtain⟨im,a2,a5,a6,a7⟩:=AU Tryz.infoRd;have c4:=H.out.1.ndK.c4;go_wp2_with fail;refine wM (A:=[0,0,2,6,14,0,0,64,192,448,0,1024,4032,8160,16352,32766,65535,131071,262143]) 315392 [fun _=>pr x.nb 0,fun _=>pr x.nb 0,fun _=>pr x.nb 0,fun _=>pr x.nb 10,fun _=>v.rv,fun _=> .agg (Fu q).toArray,fun _=>pr x.nb 0,fun _=>pr x.nb 0,fun _=>pr x.nb 4,fun _=>pr x.tk 0,fun _=>pr b3 3,fun _=> .string q.key,fun _=>undef,fun _=> .agg (rdC (q,n.tlast+1)).toArray,fun _=>undef,fun _=>undef,fun _=>pr x.nb 0,fun _=>pr x.nb 10,fun _=>undef] (get4S x n B t v R b3 q) ?bstart (.s ?b0<|.s ?b1<|.s ?b2<|.s ?b3<|.s ?b4<|.s ?b5<|.s ?b6<|.s ?b7<|.s ?b8<|.s ?b9<|.s ?b10<|.s ?b11<|.t ?b12<|.s ?b13<|.t ?b14<|.t ?b15<|.s ?b16<|.s ?b17<|.t ?b18<|.nil) ?bfin
   case bstart=>intro X;exact⟨c4,(H.out.1.pull 2).blk,fun _=>c10,fun _=>HL.out.1.drew,(fun h=>by cases h),(fun h=>by cases h),(fun h=>by cases h),(fun h=>by cases h),(fun h=>by cases h)⟩
   case bfin=>
    intro U X w9 j Q;have h9:=j.2.2.2.2.2.2.2.1 (Q 18 (by decide) (by decide));have H9:=h_ h9;clear j Q h9;simp[Al,Act.put,FK,Ab];go_wp2_with fail
    first
     |go_end0
     |refine Be (v:= .tuple #[]) (Cx rfl _ _ _) rfl ?_
    refine⟨rfl, ?_⟩;have e:n.get q={{n with tlast:=n.tlast+1,toks:=n.toks++[(n.tlast+1,q.key,true)]}with reads:=n.reads++[(q,n.tlast+1)]}:=by unfold Nd.get;rw[ag.out]
    rw[e];have ax:=Yz (n:={{n with tlast:=n.tlast+1,toks:=n.toks++[(n.tlast+1,q.key,true)]}with reads:=n.reads++[(q,n.tlast+1)]}) (R:=AF x.cb t::AM b3 (Fu q) 136::R) {v with rv:=X 15} (HL.out.2.1.same rfl rfl rfl rfl rfl rfl rfl) HL.out.2.2 H9.out;exact(ax.pull 2).drop
   case' b12|b14|b15|b18=>intro U X xv W j C i f G r g B y K' o;have d:=h_ j;obtain⟨ab,E,_⟩:=j;have d4:W.cell? ⟨x.nb,4,none⟩=some (pr x.tk 0):=ab;have Y:W.cell? ⟨b3,0,none⟩=some (.int .i64 (q.node:Int)):=E.cell 0;have Z:W.cell? ⟨b3,1,none⟩=some (.int .i64 (q.id:Int)):=E.cell 1;have z2:W.cell? ⟨b3,2,none⟩=some (.int .i64 (q.op:Int)):=E.cell 2;have z3:W.cell? ⟨b3,3,none⟩=some (.string q.key):=E.cell 3;clear ab E;simp[mV,mY,Ab]at G;simp only[Al,Act.put,A8,A7,A6,G]at y;subst y
   case b12=>
    have a8:U 14=false:=g 14 (by decide);have S:U 15=false:=g 15 (by decide);have ac:U 18=false:=g 18 (by decide);clear i f r g d4 Y Z z2 z3;have h0:=d.out.2.2.2.1 C;go_simp;refine(VG h0 J.out.2.2.2.2.1.1 q.key).mono ?_;rintro e w3 ⟨rfl,u⟩;go_simp;have bc:=(u.pre.at 0 rfl);refine o _ _ _ rfl ⟨?_, ?_, ?_,fun h=>by simp[upd]at h,fun _ _=>u,fun h=>by simp[upd,a8]at h,fun h=>by simp[upd,S]at h,fun h=>by simp[upd,ac]at h,fun _=>Bh _ _ _⟩
    ·obtain⟨F,_,p⟩:=u.pre.at 0 rfl
     exact p.cell 4
    ·obtain⟨F,_,p⟩:=u.at 11 rfl
     exact p
    ·intro _
     obtain⟨F,_,p⟩:=u.pre.at 0 rfl;exact p.cell 10
   case b14=>have D:U 12=true:=f 12 (by decide);have S:U 15=false:=g 15 (by decide);have ac:U 18=false:=g 18 (by decide);clear i f r g d4 Y Z z2 z3;have h1:=d.out.2.2.2.2.1 D C;refine Ny (T:=138) rfl (.tmp 46) rfl (rdC (q,n.tlast+1)) (by rfl) (Vl (q,n.tlast+1)) ?_;have kk:Keep [] W (W.alloc (.cells (rdC (q,n.tlast+1)).toArray 138)):=(By _ _).alloc _;have N:=h1.alloc (rdC (q,n.tlast+1)) 138;refine o _ _ _ rfl ⟨kk.cell1' d.out.1,d.out.2.1.keep kk (by simp),fun h=>kk.cell1' (d.out.2.2.1 S),fun h=>by simp[upd,D]at h,fun _ h=>by simp[upd]at h,fun _ _=>⟨W.heap.size,Bh _ _ _,N⟩,fun h=>by simp[upd,S]at h,fun h=>by simp[upd,ac]at h,fun _=>by rw[Bs _ _ _ _ (by decide)];exact d.out.2.2.2.2.2.2.2.2 D⟩
   case b15=>
    have ad:U 14=true:=f 14 (by decide);have D:U 12=true:=f 12 (by decide);have ac:U 18=false:=g 18 (by decide);have av:=i 14 ad;clear i f r g d4 Y Z z2 z3;obtain⟨b,a4,N⟩:=d.out.2.2.2.2.2.1 ad C;have ay:=N.blk;obtain⟨F,hF,hs⟩:=Yq (l:=AM b (rdC (q,n.tlast+1)) 138::GW x {n with tlast:=n.tlast+1,toks:=n.toks++[(n.tlast+1,q.key,true)]} B v) (R:=AF x.cb t::AM b3 (Fu q) 136::R) N [0,7] [1,2,3,4,5,6,8,9,10] 11 rfl rfl;obtain⟨F0,_,rfl,⟨rfl,_⟩,⟨F1,_,rfl,⟨rfl,aq⟩,rfl,_⟩,M⟩:=hF;obtain⟨ra,rc,bd⟩:=A4 aq;have a3:=KI (P:=Tryz.prog) CL W b (rdC (q,n.tlast+1)) (KK _) ay (SA _);have be:n.reads.length<1000:=J.out.2.2.2.2.1.2;have c10:W.cell? ⟨x.nb,10,none⟩=some v.rv:=d.out.2.2.1 C;refine BO _ rfl (.tmp 37) (.tmp 47) 65 65 rfl 0 138 im _ 5 48 CL a2 a5 a6 a7 rfl (by decide) _ n.reads.length _ (by rfl) aq _ 1 _ (by rw[←a4,av];rfl) a3 (by unfold maxLen;omega) (by omega) (AA _) ?_;intro v2 w2 az a0 _ a1;have kg:=DJ a0
    have u:=hs [0,1,2,3,4,5,6,7,8,9] [BF 138 5 v2 (n.reads++[(q,n.tlast+1)]).length (rows rdC (n.reads++[(q,n.tlast+1)]))] w2 v2.ownBlock.toList (J9.single ⟨rfl,by rw[Aj,List.length_singleton,I8];exact az⟩) (kg.mono (fun q I _=>by simp;right;exact Ae.1 I)) (fun q I=>by
     rcases a1 q (Ae.1 I)with h|h
     ·exact .inl (by simp[h])
     ·exact .inr h) rfl rfl
    refine o _ _ _ rfl ⟨?_, ?_,fun h=>by simp[upd]at h,fun h=>by simp[upd,D]at h,fun _ h=>by simp[upd,ad]at h,fun _ h=>by simp[upd]at h,fun _ _=> ?_,fun h=>by simp[upd,ac]at h,fun _=>by rw[Bs _ _ _ _ (by decide)];exact d.out.2.2.2.2.2.2.2.2 D⟩
    ·obtain⟨F,_,p⟩:=u.pre.at 1 rfl
     exact p.cell 4
    ·obtain⟨F,_,p⟩:=u.at 11 rfl
     exact p
    ·rw[Bh]
     exact u
   case b18=>
    have af:U 15=true:=f 15 (by decide);have ad:U 14=true:=f 14 (by decide);have D:U 12=true:=f 12 (by decide);have ai:=i 15 af;clear i f r g d4 Y Z z2 z3;have u:=d.out.2.2.2.2.2.2.1 af C
    obtain⟨xa,xc,hx⟩:∃a c,X 15=.slice a (n.reads.length+1) c:=by obtain⟨a,c,hh⟩:=A4 u.row;exact⟨a,c,by rw[hh,Aj,List.length_singleton]⟩
    have aj:=(u.pull 1).blk;have c10:W.cell? ⟨x.nb,10,none⟩=some v.rv:=aj.cell 10;have ba:=aj.free 10;have h4:=((u.pull 1).setCell 10 (X 15));have HX:=h_ hx;rw[hx]at ai;simp only[←ai]at o⊢;clear ai u aj;go_simp;refine o undef _ _ rfl ⟨?_, ?_,fun h=>by simp[upd,af]at h,fun h=>by simp[upd,D]at h,fun _ h=>by simp[upd,ad]at h,fun _ h=>by simp[upd,af]at h,fun _ h=>by simp[upd]at h,fun _=> ?_,fun _=>by rw[Bs _ _ _ _ (by decide)];exact d.out.2.2.2.2.2.2.2.2 D⟩
    ·rw[←hx];exact h4.blk.cell 4
    ·rw[←hx]
     obtain⟨F,_,p⟩:=h4.at 11 rfl;exact p
    ·rw[Bs _ _ _ _ (by decide),←hx]
     exact h4.sel (l:=[_,_,_,_,_,_,_,_,_,_]) [0,2,3,4,5,6,1,7,8,9] 10 rfl rfl
   all_goals intro U X xv W j i f G r g B y K' o;have d:=h_ j;obtain⟨ab,E,_⟩:=j;have d4:W.cell? ⟨x.nb,4,none⟩=some (pr x.tk 0):=ab;have Y:W.cell? ⟨b3,0,none⟩=some (.int .i64 (q.node:Int)):=E.cell 0;have Z:W.cell? ⟨b3,1,none⟩=some (.int .i64 (q.id:Int)):=E.cell 1;have z2:W.cell? ⟨b3,2,none⟩=some (.int .i64 (q.op:Int)):=E.cell 2;have z3:W.cell? ⟨b3,3,none⟩=some (.string q.key):=E.cell 3;clear ab E;simp[mV,mY,Ab]at G;simp only[Al,Act.put,A8,A7,A6,G]at y;subst y
   case b13=>have D:U 12=true:=f 12 (by decide);have ao:=i 12 D;clear i f r g;have au:=d.out.2.2.2.2.2.2.2.2 D;rw[au]at ao;refine Lb rfl 138 _ rfl #[(0,.agg (Fu q).toArray),(1,.int .i64 ((n.tlast+1:Nat):Int))] (by rw[ao];simp only[DZ,Br,Cy];rfl) (.agg (rdC (q,n.tlast+1)).toArray) (fun W=>DD W _ _ _ (by rfl)) ?_;exact o _ _ _ rfl rfl d.out
   case b4=>have S:U 15=false:=g 15 (by decide);clear i f r g;have c10:W.cell? ⟨x.nb,10,none⟩=some v.rv:=d.out.2.2.1 S;go_simp;exact o _ _ _ rfl rfl d.out
   all_goals clear i f r g;go_simp;exact o _ _ _ rfl rfl d.out
 case' m21|m22=>intro U X xv W j C i f G r g B y K' o;have d:=h_ j;have z:=K.out.1.still j.1;have M:=z.k.c0;have d1:=z.k.c1;have e0:=z.k.e0;have l0:W.cell? ⟨x.le,0,none⟩=some (pr x.cb 0):=z.le.blk.cell 0;have q3:W.cell? ⟨b3,3,none⟩=some (.string q.key):=(K.out.2.2.keep j.1 (by simp)).cell 3;clear z j;simp[mV,mY,Ab]at G;simp only[Al,Act.put,A8,A7,A6,G]at y;subst y
 case m21=>
  clear i f r g M d1 e0 l0 q3;go_simp;have a9:U 22=false:=by cases h:U 22 with|false=>rfl|true=>rw[d.out.2.2 h]at C;cases C
  have kk:Keep [] W (W.alloc (.cells #[.string ByteArray.empty,.string ByteArray.empty,.int .i64 0,.bool false] 171)):=(By _ _).alloc _;refine o _ _ _ rfl ⟨d.out.1.trans kk,fun _=>⟨W.heap.size,Bh _ _ _,d.out.1.size,fun _=>BY W [.string ByteArray.empty,.string ByteArray.empty,.int .i64 0,.bool false] _,fun h=> ?_⟩,fun h=>by simp[upd]⟩;simp[upd,a9]at h
 case m22=>have an:U 21=true:=f 21 (by decide);have aw:=i 21 an;clear i f r g M d1 e0 l0 q3;obtain⟨b,L,g2,g3,g4⟩:=d.out.2.1 an;have p:=g3 C;refine Eu rfl _ _ _ rfl b [.string ByteArray.empty,.string ByteArray.empty,.int .i64 0,.bool false] (E8 m.1 m.2.1 0 false) 171 (by rw[←L,aw];rfl) (by rfl) p rfl If (EJ _ _ _ _) ?_;intro w2 N k2;refine o undef _ _ rfl ⟨d.out.1.then k2 (fun q I bb=>by simp only[Ah]at I;subst I;omega),fun _=>⟨b,by rw[Bs _ _ _ _ (by decide)];exact L,g2,fun h=>by simp[upd]at h,fun _=>N⟩,fun _=>by simp[upd,an]⟩
 all_goals intro U X xv W j i f G r g B y K' o;have d:=h_ j;have z:=K.out.1.still j.1;have M:=z.k.c0;have d1:=z.k.c1;have e0:=z.k.e0;have l0:W.cell? ⟨x.le,0,none⟩=some (pr x.cb 0):=z.le.blk.cell 0;have q3:W.cell? ⟨b3,3,none⟩=some (.string q.key):=(K.out.2.2.keep j.1 (by simp)).cell 3;clear z j;simp[mV,mY,Ab]at G;simp only[Al,Act.put,A8,A7,A6,G]at y;subst y
 case m16=>clear i f r g;clear M d1 e0 l0 q3;go_simp;refine(DN (K.out.2.1.keep d.out.1 (by simp))).mono ?_;rintro e w3 ⟨rfl,rfl⟩;go_simp;exact o _ _ _ rfl rfl d.out
 case m17=>clear i f r g;clear M d1 e0 l0 q3;have hg:=NM (K.out.1.still d.out.1) (by have:=J.out.1;omega) q.key J.out.2.1 J.out.2.2.1 (t:Int);rw[←J.out.2.2.2.2.2]at hg;go_simp;refine hg.mono ?_;rintro e w3 ⟨rfl,k3⟩;go_simp;refine o _ _ _ rfl rfl ⟨d.out.1.trans k3,fun h=> ?_,d.out.2.2⟩;obtain⟨b,L,g2,g3,g4⟩:=d.out.2.1 h;exact⟨b,L,g2,fun h=>(g3 h).keep k3 (by simp),fun h=>(g4 h).keep k3 (by simp)⟩
 all_goals clear i f r g;go_simp;exact o _ _ _ rfl rfl d.out
end
structure Nd.AskOk (n:Nd) (B:Nat) (q:Who):Prop where
 lim:B≤800000
 key:itKey q.key=true
 size:q.key.size≤1000
 op:q.op=1
 few:n.dk.cache.length≤15
 msgs:n.msgs.length<300∧n.reps.length<300
 toks:n.tlast<100000∧n.reads.length<1000
theorem LA {k:Str}(h:itKey k=true):Nd.keyOk k=true:=by unfold itKey at h;unfold Nd.keyOk;simp only[Ar,A0]at h⊢;exact h
section
variable {R:List As} {w w':World} {x:NdP} {n:Nd} {B t:Nat} {v:NdV}
theorem Rs (h:Sp (CJ x n B::AF x.cb t::R) w)(q:Who)(hq:n.AskOk B q)(F:n.ring=none∨n.own q.key=n.id):
  Calls Tryz.prog 131 #[pr x.nb 0,.agg (Fu q).toArray] w fun e w'=>e=.returned (.tuple #[])∧Sp (CJ x (n.ask t q) B::AF x.cb t::R) w':=by
 have J:Sp (CJ x n B::AF x.cb t::AM w.heap.size (Fu q) 136::R) (w.alloc (.cells (Fu q).toArray 136)):=(h.alloc (Fu q) 136).push 2;have c:=h_2 hq F;have Z:=h_ J;clear h J hq F;go_enter Tryz.func131,Tryz.ntmps131;go_wp2_with fail;obtain⟨m,V⟩:∃b,b=w.heap.size:=⟨_,rfl⟩;obtain⟨G,Y⟩:∃G,G=w.alloc (.cells (Fu q).toArray 136):=⟨_,rfl⟩;have C:Hid (Sp (CJ x n B::AF x.cb t::AM m (Fu q) 136::R) G):=h_ (by rw[Y,V];exact Z.out);clear Z;rw[←Y,←V];clear Y V;obtain⟨v,k⟩:=C.out.ndR;have ae:=(C.out.pull 1).clock;have ai:=(C.out.pull 2).blk;obtain⟨l,g⟩:∃a,Cu v.rg=.pointer a:=⟨_,rfl⟩
 have d:n.ring=none→l=none:=fun X=>by have J:=(EF k).2 X;rw[J]at g;unfold Cu at g;injection g with h;exact h.symm
 have ah:n.ring≠none→l≠none:=fun X hn=>by
  cases p:v.rg with
  |none=>exact X ((EF k).1 p)
  |some b=>rw[p,hn]at g;unfold Cu at g;injection g with h;cases h
 have f:=h_6 k ae ai g d ah;have c3:G.cell? ⟨x.nb,3,none⟩=some (.pointer l):=by rw[←g];exact k.ringc
 obtain⟨own,ag⟩:∃o,o=n.own q.key:=⟨_,rfl⟩;have S:=h_ ag;clear k ae ai g d ah ag c3;refine wK (A:=[0,1,3,7,0,16,63,127]) 0 [pr x.nb 0,pr x.nb 0,pr x.nb 3,.pointer l,pr m 3,.string q.key,.int .i64 (own:Int),.int .i64 (own:Int)] (fun _ W=>Keep [] G W) ?mstart (.s ?m0<|.s ?m1<|.s ?m2<|.s ?m3<|.s ?m4<|.s ?m5<|.s ?m6<|.s ?m7<|.nil) ?mfin
 case mstart=>exact(By _ _).drew
 case mfin=>
  intro L z j hd;have h7:=C.out.still j;have i:=h_ h7;have I:=h_ (f.out.1.still j);have c3:z.cell? ⟨x.nb,3,none⟩=some (.pointer l):=by rw[←f.out.2.2.2.1];exact I.out.ringc
  have c2:=I.out.id;clear j hd h7 C;simp[Al,Act.put];have z0:z.cell? ⟨m,0,none⟩=some (.int .i64 (q.node:Int)):=(i.out.pull 2).blk.cell 0;have z1:z.cell? ⟨m,1,none⟩=some (.int .i64 (q.id:Int)):=(i.out.pull 2).blk.cell 1;have z2:z.cell? ⟨m,2,none⟩=some (.int .i64 (q.op:Int)):=(i.out.pull 2).blk.cell 2;have z3:z.cell? ⟨m,3,none⟩=some (.string q.key):=(i.out.pull 2).blk.cell 3;have K:=c.out.1.op;have o1:((q.op:Int) !=1)=false:=by rw[K];rfl
  have o2:((q.op:Int)==2)=false:=by rw[K];rfl
  have Q:=h_ K;clear K;have aa:=h_ (KU (w:=z) q.key (by have:=c.out.1.size;omega) true c.out.1.key.symm);go_wp2_with fail;refine aa.out.mono ?_;rintro e w8 ⟨rfl,rfl⟩;clear aa;by_cases d:n.ring=none
  ·have M:=f.out.2.2.2.2.1 d
   have H:=h_ d;clear d;rw[M]at c3;go_wp2_with fail;refine(KP i.out q 6 se false c.out.1.msgs).mono ?_;rintro e w9 ⟨rfl,E⟩;have H9:=h_ E;clear E;go_wp2_with fail
   first
    |go_end0
    |refine Be (v:= .tuple #[]) (Cx rfl _ _ _) rfl ?_
   refine⟨rfl, ?_⟩
   have e:n.ask t q=n.tell q 6 se false:=by unfold Nd.ask;rw[Aw (by rw[LA c.out.1.key];simp[Q.out]),Ay (by rw[H.out];rfl)]
   rw[e];exact(H9.out.pull 2).drop
  ·have M:=f.out.2.2.2.2.2 d
   obtain⟨O,aj⟩:∃O,l=some O:=by cases p:l with|none=>exact absurd p M|some O=>exact⟨O,rfl⟩
   have u:own=n.id:=by rw[S.out];exact c.out.2.resolve_left d
   have H:=h_2 d u;have w0:((own:Int) !=(n.id:Int))=false:=by rw[u];simp
   rw[aj]at c3;clear d M u;have ac:=h_ (JO I.out ((i.out.pull 1).clock) q.key c.out.1.size);go_wp2_with fail;refine ac.out.mono ?_;rintro e w9 ⟨rfl,y⟩;have E:=i.out.still y;have ab:=h_ E;have al:=y.cell1' z0;have am:=y.cell1' z1;have an:=y.cell1' z2;have ao:=y.cell1' z3
   have HE:Hid (n.ask t q=if n.serves t q.key=false then n.tell q 6 se false else n.get q):=h_ (by
    unfold Nd.ask;rw[Aw (by rw[LA c.out.1.key];simp[Q.out]),Aw (by cases p:n.ring with|none=>exact absurd p H.out.1|some r=>simp),Aw (by rw[←S.out,H.out.2];simp)]
    split
    ·rfl
    ·rw[Aw (by rw[Q.out];decide)])
   clear E y z0 z1 z2 z3 c3 c2 i I ac
   cases N:n.serves t q.key with
   |false=>
    have U:=h_ N;clear N;simp only[Bool.not_false];go_wp2_with fail;refine(KP ab.out q 6 se false c.out.1.msgs).mono ?_;rintro e ak ⟨rfl,D⟩;have P:=h_ D;clear D;go_wp2_with fail
    first
     |go_end0
     |refine Be (v:= .tuple #[]) (Cx rfl _ _ _) rfl ?_
    refine⟨rfl, ?_⟩;rw[HE.out,Ay U.out];exact(P.out.pull 2).drop
   |true=>
    have U:=h_ N;clear N;simp only[Bool.not_true];go_wp2_with fail;refine(nd_get ab.out c.out.1.lim q c.out.1.size c.out.1.few c.out.1.msgs c.out.1.toks).mono ?_;rintro e ak ⟨rfl,D⟩;have P:=h_ D;clear D;go_wp2_with fail
    first
     |go_end0
     |refine Be (v:= .tuple #[]) (Cx rfl _ _ _) rfl ?_
    refine⟨rfl, ?_⟩;rw[HE.out,Aw (by rw[U.out];decide)];exact(P.out.pull 2).drop
 all_goals
  intro L xv W j hA F hN af b hB K' ad;have T:=h_ j;have k:=f.out.1.still j;have c3:W.cell? ⟨x.nb,3,none⟩=some (.pointer l):=by rw[←f.out.2.2.2.1];exact k.ringc
  have q3:W.cell? ⟨m,3,none⟩=some (.string q.key):=(f.out.2.2.1.keep j (by simp)).cell 3;clear k j;simp at af;simp only[Al,Act.put,A8,A7,A6,af]at hB;subst hB
 case m6=>clear hA F hN;go_simp;clear c3 q3;have u:=Yc (f.out.1.still T.out) q.key (by have:=c.out.1.size;omega);rw[f.out.2.2.2.1,←S.out]at u;refine u.mono ?_;rintro e w3 ⟨rfl,k3⟩;go_simp;exact ad _ _ rfl (T.out.trans k3)
 all_goals clear hA F hN;go_simp;exact ad _ _ rfl T.out
end
section
variable {R:List As} {w w':World} {x:NdP} {n n':Nd} {B B' t:Nat} {v:NdV}
theorem Rt (h:Sp (CJ x n B::AF x.cb t::R) w)(id op:Nat)(key:Str)
  (r:∀(W:World) (k:List As),Sp (CJ x n B::AF x.cb t::k) W→Calls Tryz.prog 131 #[pr x.nb 0,.agg (Fu ⟨0,id,op,key⟩).toArray] W fun e w'=>e=.returned (.tuple #[])∧Sp (CJ x n' B'::AF x.cb t::k) w'):
  Calls Tryz.prog 96 #[pr x.nb 0,.int .i64 (id:Int),.int .i64 (op:Int),.string key] w fun e w'=>∃a c,e=.returned (.agg #[a,c])∧Sp (CJ x n'.did.1 B'::Dp a n'.did.2.1::Dn c n'.did.2.2::AF x.cb t::R) w':=by
 have o:Sp (CJ x n B::AF x.cb t::AM w.heap.size [.slice none 0 0,.slice none 0 0] 69::R) (w.alloc (.cells #[.slice none 0 0,.slice none 0 0] 69)):=(h.alloc [.slice none 0 0,.slice none 0 0] 69).push 2;have f:=h_ (r _ _ o);have D:∀W:World,(Instr.build 136 #[(0,.int .i64 0),(1,.int .i64 (id:Int)),(2,.int .i64 (op:Int)),(3,.string key)]).run Tryz.prog W=.ok (.agg (Fu ⟨0,id,op,key⟩).toArray) W:=fun W=>DD W _ _ _ (by rfl)
 clear h o r;go_enter Tryz.func96,Tryz.ntmps96;go_wp2_with fail;obtain⟨A,i⟩:∃b,b=w.heap.size:=⟨_,rfl⟩;rw[←i]at f;rw[←i];clear i D;refine f.out.mono ?_;rintro e M ⟨rfl,q⟩;have z:=h_ q;clear q f;go_wp2_with fail;refine(Lu z.out).mono ?_;rintro e K ⟨a,c,rfl,p⟩;have d:=h_ p;clear p;have E:=(d.out.pull 4).blk;obtain⟨G,H,s⟩:=(d.out.pull 1).msgsV;obtain⟨I,J,u⟩:=(d.out.pull 2).repsV;have j:=h_2 s u;clear s u
 go_wp2_with (refine AS rfl _ _ _ rfl A [.slice none 0 0,.slice none 0 0] [a,c] 69 rfl rfl E rfl Ys (by intro v y;simp at y;rcases y with h|h;(rw[h,j.out.1];rfl);(rw[h,j.out.2];rfl)) ?_;intro L g F)
 have C:=((d.out.pull 4).set g F);refine Be (v:= .agg #[a,c]) ?_ rfl ⟨a,c,rfl, ?_⟩
 ·have l:=g.cell 0
  have m:=g.cell 1;simp only[List.getElem?_cons_zero,List.getElem?_cons_succ]at l m;simp[results,Tryz.results96,go_sem,l,m]
 ·exact C.drop
theorem Ru (h:Sp (CJ x n B::AF x.cb t::R) w)(id:Nat)(key:Str)(f:n.AskOk B ⟨0,id,1,key⟩)(d:n.ring=none∨n.own key=n.id):
  Calls Tryz.prog 96 #[pr x.nb 0,.int .i64 (id:Int),.int .i64 1,.string key] w fun e w'=>∃a b,e=.returned (.agg #[a,b])∧Sp (CJ x (n.ask t ⟨0,id,1,key⟩).did.1 B::Dp a (n.ask t ⟨0,id,1,key⟩).did.2.1 ::Dn b (n.ask t ⟨0,id,1,key⟩).did.2.2 ::AF x.cb t::R) w':=
 Rt h id 1 key (fun W g c=>Rs c ⟨0,id,1,key⟩ f d)
end
theorem P6 (l:List Nat):nodesOk (l.map Int.ofNat)=Nd.mayNodes l:=by
 rw[Bool.eq_iff_iff];unfold nodesOk Nd.mayNodes Ey;simp only[Ar,A0,AD,Bool.not_eq_true',List.isEmpty_eq_false_iff,Cr]
 have c:∀j,j<l.length→(l.map Int.ofNat).getD j 0=((l.getD j 0:Nat):Int):=fun j a=>by rw[Af,AN,Ad a,Af,Ad a];rfl
 have g:∀j,j<l.length→l.getD j 0∈l:=fun j a=>by rw[Af,Ad a];exact BS a
 constructor
 ·rintro⟨h1,h2⟩
  refine⟨⟨fun h=>by simp[h]at h1,fun n i=> ?_⟩,fun p k=> ?_⟩
  ·obtain⟨j,a,rfl⟩:=GU.1 i
   have b:=h2 j a;rw[c j a,Af,Ad a]at b;simp only[Option.getD_some]at b;omega
  ·obtain⟨j,a,rfl⟩:=GU.1 k
   have d:j+1<l.length:=by simp at a;omega
   have b:=(h2 (j+1) d).2.2 (by omega);rw[Nat.add_sub_cancel,c j (by omega),c (j+1) d,Af,Ad (by omega:j<l.length),Af,Ad d]at b;simp only[Option.getD_some]at b;simp only[List.getElem_zip,List.getElem_drop];have e:l[1+j]'(by omega)=l[j+1]:=by congr 1;omega
   rw[e];omega
 ·rintro⟨⟨h1,h2⟩,b⟩
  refine⟨Cs.2 h1,fun j a=> ?_⟩;have o:=h2 _ (g j a);refine⟨by rw[c j a];omega,by rw[c j a];omega,fun m=> ?_⟩;rw[c j a,c (j-1) (by omega)]
  have f:=b (l[j-1]'(by omega),l[j]) (by
   rw[GU];refine⟨j-1,by simp;omega, ?_⟩;simp only[List.getElem_zip,List.getElem_drop]
   congr 1
   congr 1
   omega)
  rw[Af,Ad (by omega:j-1<l.length),Af,Ad a];simp only[Option.getD_some];simp only at f;omega
section
variable {R:List As} {w w':World} {x:NdP} {n:Nd} {B t:Nat} {v:NdV}
theorem Mx {y:Tm}{m:Wm}(h:Sp (CJ x n B::Gs y::AF x.cb t::R) w)(hy:y.m=wmMs m)(ao:m.Ok)(S:m.dst=n.id)(I:B≤800000)(hg:n.GrantOk m)(ad:nodesOk (m.mem.map Int.ofNat)=true):
  Calls Tryz.prog 107 #[pr x.nb 0,.agg (Cm y).toArray] w fun e w'=>∃g i,e=.returned (.agg #[g,i])∧Sp (CJ x (n.step t m).1 (B+2)::Dp g (n.step t m).2.1 ::Dn i (n.step t m).2.2 ::Gs y::AF x.cb t::R) w':=by
 have ap:n.step t m=(n.grant t m).did :=by unfold Nd.step;simp only;rw[Ay hg.kind,Ay (by rw[←P6];exact ad)]
 rw[ap];clear ap;obtain⟨c,aa⟩:∃c,c=Cm y:=⟨_,rfl⟩;have h1:Sp (CJ x n B::Gs y::AF x.cb t::AM w.heap.size c 175::R) (w.alloc (.cells c.toArray 175)):=(h.alloc c 175).push 3;have G:=(h1.alloc [.slice none 0 0,.slice none 0 0] 69);have aq:(w.alloc (.cells c.toArray 175)).heap.size =w.heap.size+1:=by simp
 rw[aq]at G;have G:Sp (CJ x n B::Gs y::AF x.cb t::AM w.heap.size c 175::AM (w.heap.size+1) [.slice none 0 0,.slice none 0 0] 69::R) _:=G.push 4;have H2:=h_ G;have a:=h_7 hy aa ao S I hg ad;rw[←aa];clear h h1 G hy ao S I hg aa ad aq;go_enter Tryz.func107,Tryz.ntmps107;go_wp2_with fail;obtain⟨V,ac⟩:∃b,b=w.heap.size+1:=⟨_,rfl⟩;obtain⟨k,ab⟩:∃b,b=w.heap.size:=⟨_,rfl⟩;obtain⟨T,ah⟩:∃T,T=(w.alloc (.cells c.toArray 175)).alloc (.cells #[.slice none 0 0,.slice none 0 0] 69):=⟨_,rfl⟩;have r:Hid (Sp (CJ x n B::Gs y::AF x.cb t::AM k c 175::AM V [.slice none 0 0,.slice none 0 0] 69::R) T):=h_ (by rw[ah,ac,ab];exact H2.out);clear H2;rw[←ah,←ac,←ab];clear ah ab ac;obtain⟨v,d⟩:=r.out.ndR;have f:=(r.out.pull 3).blk;obtain⟨F,am⟩:=(r.out.pull 1).tm;have ak:=h_ am;have P:=h_2 d f;have q0:((m.dst:Int) !=(n.id:Int))=false:=by rw[a.out.2.2.2.1];simp
 clear d f am;refine wK (A:=[0,1,3,7,15,7,39,103,231,511,1023,2047,4095,8191,16383,32767]) 0 [pr x.nb 0,.bool false,.bool false,pr k 2,.int .i64 (m.dst:Int),pr x.nb 0,pr x.nb 0,pr x.nb 2,.int .i64 (n.id:Int),.bool false,.bool false,.bool false,.agg c.toArray,.bool true,.bool false,.bool false] (fun _ W=>Keep [] T W) ?mstart (.s ?m0<|.s ?m1<|.s ?m2<|.s ?m3<|.s ?m4<|.s ?m5<|.s ?m6<|.s ?m7<|.s ?m8<|.s ?m9<|.s ?m10<|.s ?m11<|.s ?m12<|.s ?m13<|.s ?m14<|.s ?m15<|.nil) ?mfin
 case mstart=>exact(By _ _).drew
 case mfin=>
  intro L w7 p S;have h7:=r.out.still p;have u:=h_ h7;clear p S r ak h7 P;have l:=u.out.ndK.c0;have d2:=u.out.ndK.e2;obtain⟨v7,ar⟩:=u.out.ndR;have aj:=h_ (G4 ar);have az:=X0 (n.dk.boot:Int) (n.dk.epoch:Int);clear ar;simp[Al,Act.put];go_wp2_with fail;refine aj.out.mono ?_;rintro e w8 ⟨rfl,k8⟩;have Q:=u.out.still k8;have M:=h_ Q;have f:=(Q.pull 3).blk;have m0:w8.cell? ⟨k,0,none⟩=some (.int .i64 (m.kind:Int)):=by rw[f.cell 0,a.out.2.1];simp[Cm,CZ,a.out.1,wmMs]
  have au:w8.cell? ⟨k,18,none⟩=some y.vm:=by rw[f.cell 18,a.out.2.1];rfl
  obtain⟨F8,an⟩:=(Q.pull 1).tm;have ag:=an.mem;rw[a.out.1]at ag;have O:=h_ (Dr y.vm (wmMs m).mem ag (by have:=a.out.2.2.1.small;simp[wmMs];omega) true a.out.2.2.2.2.2.2.symm);have N:=h_ f;clear l d2 aj Q k8 u f an ag;have aw:=a.out.2.2.2.2.2.1.kind;rcases aw with q|q
  ·have k0:((m.kind:Int)==2)=true:=by rw[q];rfl
   clear q;go_wp2_with fail;refine O.out.mono ?_;rintro e w9 ⟨rfl,rfl⟩
   go_wp2_with (refine BA 175 _ rfl k rfl 175 c.toArray (0,0) _ N.out AV rfl (by rw[a.out.2.1];exact C4) (by rfl) ?_)
   rw[a.out.2.1];refine(Ps ((M.out.pull 3).push 3) a.out.1 a.out.2.2.2.2.1 a.out.2.2.2.2.2.1).mono ?_;rintro e w9 ⟨rfl,H⟩;have U:=h_ H;clear H M N O m0 au;go_wp2_with fail;refine(Lu U.out).mono ?_;rintro e ax ⟨g,i,rfl,E⟩;have j:=h_ E;clear E;have ae:=(j.out.pull 6).blk;obtain⟨ma,mc,J⟩:=(j.out.pull 1).msgsV;obtain⟨ra,rc,K⟩:=(j.out.pull 2).repsV;have z:=h_2 J K;clear J K
   go_wp2_with (refine AS rfl _ _ _ rfl V [.slice none 0 0,.slice none 0 0] [g,i] 69 rfl rfl ae rfl Ys (by intro v d;simp at d;rcases d with h|h;(rw[h,z.out.1];rfl);(rw[h,z.out.2];rfl)) ?_;intro ay o ai)
   have X:=((j.out.pull 6).set o ai);refine Be (v:= .agg #[g,i]) ?_ rfl ⟨g,i,rfl, ?_⟩
   ·have l:=o.cell 0
    have D:=o.cell 1;simp only[List.getElem?_cons_zero,List.getElem?_cons_succ]at l D;simp[results,Tryz.results107,go_sem,l,D]
   ·exact((X.drop).pull 5).drop
  ·have k0:((m.kind:Int)==2)=false:=by rw[q];rfl
   have k1:((m.kind:Int)==11)=true:=by rw[q];rfl
   clear q;go_wp2_with fail;refine O.out.mono ?_;rintro e w9 ⟨rfl,rfl⟩
   go_wp2_with (refine BA 175 _ rfl k rfl 175 c.toArray (0,0) _ N.out AV rfl (by rw[a.out.2.1];exact C4) (by rfl) ?_)
   rw[a.out.2.1];refine(Ps ((M.out.pull 3).push 3) a.out.1 a.out.2.2.2.2.1 a.out.2.2.2.2.2.1).mono ?_;rintro e w9 ⟨rfl,H⟩;have U:=h_ H;clear H M N O m0 au;go_wp2_with fail;refine(Lu U.out).mono ?_;rintro e ax ⟨g,i,rfl,E⟩;have j:=h_ E;clear E;have ae:=(j.out.pull 6).blk;obtain⟨ma,mc,J⟩:=(j.out.pull 1).msgsV;obtain⟨ra,rc,K⟩:=(j.out.pull 2).repsV;have z:=h_2 J K;clear J K
   go_wp2_with (refine AS rfl _ _ _ rfl V [.slice none 0 0,.slice none 0 0] [g,i] 69 rfl rfl ae rfl Ys (by intro v d;simp at d;rcases d with h|h;(rw[h,z.out.1];rfl);(rw[h,z.out.2];rfl)) ?_;intro ay o ai)
   have X:=((j.out.pull 6).set o ai);refine Be (v:= .agg #[g,i]) ?_ rfl ⟨g,i,rfl, ?_⟩
   ·have l:=o.cell 0
    have D:=o.cell 1;simp only[List.getElem?_cons_zero,List.getElem?_cons_succ]at l D;simp[results,Tryz.results107,go_sem,l,D]
   ·exact((X.drop).pull 5).drop
 all_goals
  intro L xv W p Y af hN al b I K' Z;have C:=h_ p;have d:=P.out.1.still p;have c2:W.cell? ⟨x.nb,2,none⟩=some (.int .i64 (n.id:Int)):=d.id;have f:=P.out.2.keep p (by simp);have m2:W.cell? ⟨k,2,none⟩=some (.int .i64 (m.dst:Int)):=by rw[f.cell 2,a.out.2.1];simp[Cm,CZ,a.out.1,wmMs]
  clear d p f;simp at al;simp only[Al,Act.put,A8,A7,A6,al]at I;subst I
 case m12=>clear Y af hN;refine Cb 175 _ rfl k (by rfl) 175 c.toArray (0,0) _ (P.out.2.keep C.out (by simp)) AV rfl (by rw[a.out.2.1];exact C4) (by rfl) ?_;exact Z _ _ rfl C.out
 case m13=>
  clear Y af hN;go_simp;clear c2 m2;have hm:=ak.out.keep C.out (by simp);have hc:=JP y.m _ _ _ _ hm.rd (by rw[a.out.1];exact a.out.2.2.1.sz) true (by rw[a.out.1];exact a.out.2.2.1.may.symm);have av:Calls Tryz.prog 116 #[.agg c.toArray] W fun e w'=>e=.returned (.bool true)∧Keep [] W w':=by rw[a.out.2.1];exact hc
  refine av.mono ?_;rintro e w3 ⟨rfl,k3⟩;go_simp;exact Z _ _ rfl (C.out.trans k3)
 all_goals clear Y af hN;go_simp;exact Z _ _ rfl C.out
end
theorem OU (k v:Str)(b:itMay k v 0 false=true):(FR.put k v).body.length +8≤Nd.recLen k v:=by
 have d:=b;unfold itMay itKey at b;simp only[Ar,A0]at b
 have e:BM [(k,v,0,false)]=Dc (k,v,0,false):=by unfold BM;rw[Ay (by simp[Dj,d])];simp[CE]
 have g:(B8 [k,v]).length ≤k.size+v.size+4:=by
  have a:B8 [k,v]=Cf k++Cf v:=by simp[B8]
  rw[a,Aj];unfold Cf;rw[Aj,Aj];have j:=DO 2 (zz (k.size:Int)) (by show _<16384;unfold zz;split<;>omega) (by decide);have l:=DO 2 (zz (v.size:Int)) (by show _<16384;unfold zz;split<;>omega) (by decide);have m:(sb k).length =k.size:=CO k;have o:(sb v).length =v.size:=CO v;omega
 have h:(BL [(0:Int),gN false]).length ≤2:=by
  have a:BL [(0:Int),gN false]=Ga (zz 0)++Ga (zz 0):=by simp[BL,gN]
  have c:=DO 1 (zz 0) (by decide) (by decide);rw[a,Aj];omega
 have i:(Dc (k,v,0,false)).length =(B8 [k,v]).length +(BL [(0:Int),gN false]).length :=by unfold Dc;rw[Aj]
 have f:(BM [(k,v,0,false)]).length =(Dc (k,v,0,false)).length :=by rw[e]
 have c:(FR.put k v).body.length =(BM [(k,v,0,false)]).length +1:=rfl;unfold Nd.recLen;omega
theorem W7 (c:Cache)(k v:Str)(h:cGet c k=none):(GA k v c).length =c.length+1:=by
 induction c with
 |nil=>rfl
 |cons p c ih=>
  obtain⟨d,v'⟩:=p;rw[Fd]at h;by_cases a:d=k
  ·rw[Ay a]at h;cases h
  ·rw[Aw a]at h
   unfold GA;by_cases b:UR k d=true
   ·rw[Ay b];rfl
   ·rw[Aw b,Aw (fun e=>a e.symm),List.length_cons,ih h,List.length_cons]
structure StOkU (w:World) (x:NdP) (k:Disk) (B:Nat) (L:List Sec) (c t:Nat) (M:List JMk) (Q:List (Nat×FR)) (y:StD):Prop where
 at_:StAt w x.stb x.d x.sb c t 129 L k.boot (k.boot:Int) (k.epoch:Int) (k.ready:Int) k.frozen M Q y
 kp:y.k=x.kp
 ca:y.cb=x.ca
 jo:y.jb=x.jo
 len:L.length=1200
 lim:c+1≤5000+20*B∧t≤1000+B
 jk:M.map (fun a=>toStr a.key)=k.jk
 cache:CacheOf Q k.cache
 used:encN (Q.map frRec)≤k.used
 tab:y.T.length=16∧y.used≤k.cache.length∧y.cnt≤k.cache.length
 pair:Pair (L.map flushSec) 0 y.slot y.turn (meText (k.boot:Int) (k.epoch:Int) (k.ready:Int) k.frozen)
def stB (x:NdP)(k:Disk)(B:Nat):As:=⟨fun F w=>∃(L:List Sec) (c t:Nat) (M:List JMk) (Q:List (Nat×FR)) (y:StD),F=y.G x∧StOkU w x k B L c t M Q y,
 fun⟨L,c,t,M,Q,y,hF,h⟩ e d=>⟨L,c,t,M,Q,y,hF,⟨h.at_.keep e (fun b=>d _ b (by rw[hF];simp[StD.G])) (fun b=>d _ b (by rw[hF];simp[StD.G])) (fun q a b=>d q a (by rw[hF];simp[StD.G,b])),h.kp,h.ca,h.jo,h.len,h.lim,h.jk,h.cache,h.used,h.tab,h.pair⟩⟩,
 fun⟨L,c,t,M,Q,y,hF,h⟩ q a=>by
  rw[hF]at a;simp only[StD.G,Ac]at a;rcases a with rfl|rfl|a
  ·exact h.at_.dev.dev.lt
  ·exact h.at_.dev.secs.lt
  ·exact h.at_.lt q a⟩
def ndLs (x:NdP)(a:As)(n:Nd)(v:NdV):List As:=
 [AM x.nb (ndC x.stb x.le n.id v.rg x.tk v.wv v.rv n.asked v.ms v.rp) 71,a,Yj x.le x.cb n.lep n.lend n.ltop,rgA v.rg n.ring,tkA x.tk n.tlast n.toks,
  BF 223 7 v.wv n.waits.length (rows wtC n.waits),BF 138 5 v.rv n.reads.length (rows rdC n.reads),BF 175 21 v.ms v.mt.length (tc v.mt),WS v.mt,BF 43 6 v.rp n.reps.length (rows rpC n.reps)]
def ndB (x:NdP)(n:Nd)(B:Nat):As:=As.ex fun v:NdV=>As.and (n.Quiet∧v.mt.map (·.m)=n.msgs.map wmMs) (ED (ndLs x (stB x n.dk B) n v))
section
variable {R:List As} {w w':World} {x:NdP} {n:Nd} {B t:Nat} {v:NdV}
theorem Sp.ndKB (h:Sp (ndB x n B::R) w):NdK x w:=by obtain⟨v,h⟩:=h.exE;obtain⟨⟨g,f⟩,h⟩:=h.andE;have e:=h.open_.pre;obtain⟨_,_,a⟩:=e.at 0 rfl;obtain⟨_,L,c,t,M,Q,y,_,b⟩:=e.at 1 rfl;have d:=b.at_.blk;rw[b.kp,b.ca,b.jo]at d;exact⟨a.cell 0,a.cell 1,a.cell 4,a.cell 7,a.cell 8,d.cell 0,d.cell 2⟩
theorem nd_put (h:Sp (CJ x n B::R) w)(V:B≤800000)(key val:Str)(j:itMay key val 0 false=true)(k:cGet n.dk.cache key=none)(hu:n.dk.used+Nd.recLen key val≤2225)(W:n.dk.cache.length<8):
  Calls Tryz.prog 129 #[pr x.ca 0,L7 key val 0 false] w fun e O=>e=.returned (.int .i64 0)∧Sp (ndB x {n with dk:={n.dk with cache:=GA key val n.dk.cache,used:=n.dk.used+Nd.recLen key val}} (B+1)::R) O:=by
 obtain⟨v,b,E,h⟩:=h.nd;obtain⟨F,hF,K⟩:=Yq (l:=GW x n B v) (R:=R) h [1] [0,2,3,4,5,6,7,8,9] 10 rfl rfl;obtain⟨P,_,rfl,⟨L,c,t,M,Q,y,rfl,a⟩,rfl,_⟩:=hF;have Y:=a.lim;have ab:=a.used;have Z:=OU key val j;have aa:=a.tab
 have H:rpF Q key=none:=by
  have:=a.cache.at_ key;rw[k]at this
  cases J:rpF Q key with
  |none=>rfl
  |some p=>rw[J]at this;cases this
 rw[←a.ca];refine(a.at_.put (by omega) (by omega) key val j H (by omega) (by omega)).mono ?_;rintro e w' ⟨rfl,d,f,g,pos,A,X,i,C,hF,m,o,r,S,T,U,s,u,I⟩;refine⟨rfl, ?_⟩;have D:=W7 n.dk.cache key val k
 have N:StOkU w' x {n.dk with cache:=GA key val n.dk.cache,used:=n.dk.used+Nd.recLen key val} (B+1) f g (t+1) M (Q++[(pos,.put key val)]) d:=
  ⟨A,r.trans a.kp,m.trans a.ca,o.trans a.jo,i.trans a.len,by omega,a.jk,a.cache.put pos key val,by
   rw[Nf];show _≤n.dk.used+Nd.recLen key val;omega,by
   show _∧_≤(GA key val n.dk.cache).length ∧_≤(GA key val n.dk.cache).length;rw[D];omega,by rw[s,u];exact a.pair.again a.at_.lim.1 i I⟩
 have z:=K [1,0,2,3,4,5,6,7,8,9] [stB x {n.dk with cache:=GA key val n.dk.cache,used:=n.dk.used+Nd.recLen key val} (B+1)] w' (d.G x) (J9.single ⟨f,g,t+1,M,_,d,rfl,N⟩) (C.mono (fun q b _=>by
  simp only[AE,StD.G,StD.F,Ac,Ag]at b⊢;rcases b with h|h|h
  ·simp[h]
  ·simp[h]
  ·simp[h])) (fun q b=>by
  simp only[AE,StD.G,Ac]at b⊢;rcases b with h|h|h
  ·simp[h]
  ·simp[h]
  ·rcases hF q h with h|h
   ·simp[h]
   ·exact .inr h) rfl rfl
 exact Sp.exI v (Sp.andI ⟨⟨b.knows,b.parts,b.outs,b.ins,b.ready,b.frozen,b.id⟩,E⟩ (DV (ndLs x (stB x {n.dk with cache:=GA key val n.dk.cache,used:=n.dk.used+Nd.recLen key val} (B+1)) {n with dk:={n.dk with cache:=GA key val n.dk.cache,used:=n.dk.used+Nd.recLen key val}} v) z))
theorem VF (h:Sp (ndB x n B::R) w)(o:B≤900000):Calls Tryz.prog 130 #[pr x.ca 0] w fun e k=>e=.returned (.int .i64 0)∧Sp (CJ x n B::R) k:=by
 obtain⟨v,h⟩:=h.exE;obtain⟨⟨b,i⟩,h⟩:=h.andE;obtain⟨F,hF,j⟩:=Yq (l:=ndLs x (stB x n.dk B) n v) (R:=R) h.open_ [1] [0,2,3,4,5,6,7,8,9] 10 rfl rfl;obtain⟨m,_,rfl,⟨L,c,t,M,Q,y,rfl,a⟩,rfl,_⟩:=hF;have p:=a.lim;rw[←a.ca];refine(a.at_.flush (by omega)).mono ?_;rintro e w' ⟨rfl,f,g⟩;refine⟨rfl, ?_⟩
 have d:=j [1,0,2,3,4,5,6,7,8,9] [UQ x n.dk B] w' (y.G x) (J9.single ⟨L.map flushSec,c+1,t,M,Q,y,rfl,⟨f,a.kp,a.ca,a.jo,by rw[AD];exact a.len,by omega,a.jk,a.cache,a.used,a.tab,LF _,a.pair⟩⟩) (g.mono (fun q b _=>by simp only[AE,StD.G,Ac,Am,AG]at b⊢;rcases b with h|h<;>simp[h])) (fun q b=> .inl (by simpa using b)) rfl rfl
 exact Yz v b i d
theorem Pz (h:Sp (GW x n B v++R) w)(i:Nat)(b:i<n.reads.length)(s:n.reads.length≤1000):
  ∃g cap,v.rv=.slice (some ⟨g,0,none⟩) n.reads.length cap∧Calls Tryz.prog 127 #[v.rv,.int .i64 (i:Int),.int .i64 ((i:Int)+1)] w fun e w'=>e=.returned (.slice (some ⟨g,0,none⟩) (n.reads.length-1) cap)∧
   Sp (BF 138 5 (.slice (some ⟨g,0,none⟩) (n.reads.length-1) cap) (n.reads.eraseIdx i).length (rows rdC (n.reads.eraseIdx i))::AM x.nb (ndC x.stb x.le n.id v.rg x.tk v.wv v.rv n.asked v.ms v.rp) 71::UQ x n.dk B::Yj x.le x.cb n.lep n.lend n.ltop::rgA v.rg n.ring::tkA x.tk n.tlast n.toks::
    BF 223 7 v.wv n.waits.length (rows wtC n.waits)::BF 175 21 v.ms v.mt.length (tc v.mt)::WS v.mt::BF 43 6 v.rp n.reps.length (rows rpC n.reps)::R) w':=by
 obtain⟨F,hF,p⟩:=Yq (l:=GW x n B v) (R:=R) h [6] [0,1,2,3,4,5,7,8,9] 10 rfl rfl;obtain⟨r,_,rfl,⟨rfl,d⟩,rfl,_⟩:=hF;obtain⟨g,cap,a,_⟩:=Cq (k:=5) KK d (Ad b);refine⟨g,cap,a, ?_⟩
 have j:Calls Tryz.prog 127 #[v.rv,.int .i64 (i:Int),.int .i64 ((i:Int)+1)] w fun e w'=>e=.returned (.slice (some ⟨g,0,none⟩) (n.reads.length-1) cap)∧w'.ownsRow 0 138 5 (.slice (some ⟨g,0,none⟩) (n.reads.length-1) cap) (n.reads.length-1) ((rows rdC n.reads).take (i*5)++(rows rdC n.reads).drop ((i+1)*5))∧Keep [g] w w':=by rw[a]at d⊢;exact UO d (ON SA _) i b (by omega) _ rfl
 refine j.mono ?_;rintro e w' ⟨rfl,o,k⟩;refine⟨rfl, ?_⟩;have m:(n.reads.eraseIdx i).length =n.reads.length-1:=by rw[List.length_eraseIdx,Ay b]
 have f:=p [0,1,2,3,4,5,6,7,8,9] [BF 138 5 (.slice (some ⟨g,0,none⟩) (n.reads.length-1) cap) (n.reads.eraseIdx i).length (rows rdC (n.reads.eraseIdx i))] w' [g] (J9.single ⟨rfl,by rw[m,←QW KK];exact o⟩) (k.mono (fun q c _=>by rw[a];simpa[Value.ownBlock]using c)) (fun q c=> .inl (by rw[a];simpa[Value.ownBlock]using c)) rfl rfl;exact f
end
structure Nd.ReadOk (n:Nd) (B t i:Nat) (q:Who) (tok:Nat) (val:Str):Prop where
 lim:B≤800000
 at_:n.reads[i]?=some (q,tok)
 few:n.reads.length≤1000∧n.tlast≤100000∧tok≤100000
 tok_:∃key,n.toks.find? (fun t=>decide (t.1=tok))=some (tok,key,true)
 may:itMay q.key val 0 false=true
 new:cGet n.dk.cache q.key=none
 room:n.dk.used+Nd.recLen q.key val≤2225∧n.dk.cache.length<8
 serves:n.serves t q.key=true
 msgs:n.msgs.length<300∧n.reps.length<300
def Nd.rd1 (n:Nd)(i:Nat):Nd:={n with reads:=n.reads.eraseIdx i}
def Nd.rd2 (n:Nd)(i a:Nat):Nd:={n.rd1 i with toks:=n.toks.filter (fun t=>decide (t.1≠a))}
def Nd.rd3 (n:Nd)(i a:Nat)(key val:Str):Nd:={n.rd2 i a with dk:={n.dk with cache:=GA key val n.dk.cache,used:=n.dk.used+Nd.recLen key val}}
theorem Is {k v:Str}(h:itMay k v 0 false=true):1≤k.size∧k.size≤40∧v.size≤200:=by unfold itMay itKey at h;simp only[Ar,A0]at h;omega
theorem TG {n:Nd}{B t i:Nat}{q:Who}{c:Nat}{val:Str}(h:n.ReadOk B t i q c val):n.read t i val true=((n.rd3 i c q.key val).tell q 0 val true).did :=by
 unfold Nd.read;rw[h.at_];simp only[D5];obtain⟨key,f⟩:=h.tok_;rw[f];have g:(n.rd2 i c).serves t q.key=true:=h.serves;have j:=Is h.may;have d:(true&&true&&decide (val.size≤200)&&(n.rd2 i c).serves t q.key)=true:=by rw[g];simp;omega
 have e:∀(a b:Nd),(if(true&&true&&decide (val.size≤200)&&(n.rd2 i c).serves t q.key)=true then a else b)=a:=fun a b=>by rw[Ay d]
 exact A3 (fun z:Nd=>(z.tell q 0 val true).did) (e _ _)
def useS (x:NdP)(n:Nd)(B t i a:Nat)(v:NdV)(q:Who)(b:Nat)(R:List As)(L:Nat→Bool)(W:World):Prop:=
 NdK x W∧Blk W b (rdC (q,a)) 138∧(L 6=false→Sp (GW x (n.rd1 i) B v++AF x.cb t::AM b (rdC (q,a)) 138::R) W)∧(L 6=true→Sp (GW x (n.rd2 i a) B v++AF x.cb t::AM b (rdC (q,a)) 138::R) W)
def putNS (x:NdP)(n:Nd)(B t i a:Nat)(val:Str)(q:Who)(b:Nat)(R:List As)(L:Nat→Bool)(W:World):Prop:=
 NdK x W∧Blk W b (rdC (q,a)) 138∧(L 12=false→Sp (CJ x (n.rd2 i a) B::AF x.cb t::AM b (rdC (q,a)) 138::R) W)∧(L 12=true→Sp (ndB x (n.rd3 i a q.key val) (B+1)::AF x.cb t::AM b (rdC (q,a)) 138::R) W)
section
variable {R:List As} {w w':World} {x:NdP} {n:Nd} {B t:Nat} {v:NdV}
theorem Xv (h:Sp (CJ x n B::AF x.cb t::R) w)(i:Nat)(q:Who)(a:Nat)(val:Str)(K:n.ReadOk B t i q a val):
  Calls Tryz.prog 95 #[pr x.nb 0,.int .i64 (i:Int),.string val,.bool true] w fun e w'=>∃M N,e=.returned (.agg #[M,N])∧Sp (CJ x (n.read t i val true).1 (B+1)::Dp M (n.read t i val true).2.1 ::Dn N (n.read t i val true).2.2 ::AF x.cb t::R) w':=by
 rw[TG K];have h1:Sp (CJ x n B::AF x.cb t::AM w.heap.size [.slice none 0 0,.slice none 0 0] 69::R) (w.alloc (.cells #[.slice none 0 0,.slice none 0 0] 69)):=(h.alloc [.slice none 0 0,.slice none 0 0] 69).push 2;have hi:i<n.reads.length:=(Ai.1 K.at_).1;obtain⟨v,hq,an,hL⟩:=h1.nd;have ar:=hL.ndL_r hq an;obtain⟨g,cap,aq,_,_,a7,_,_⟩:=Cq (k:=5) KK ar.rd K.at_
 have c10:(w.alloc (.cells #[.slice none 0 0,.slice none 0 0] 69)).cell? ⟨x.nb,10,none⟩=some (.slice (some ⟨g,0,none⟩) n.reads.length cap):=by have:=ar.blk.cell 10;rw[aq]at this;exact this
 have r:=h_5 hL hq an aq a7;obtain⟨f,HI⟩:=i_2 K hi;have q0:¬(i:Int)<0:=by omega
 have q1:¬(n.reads.length:Int)≤(i:Int):=by omega
 have bq:decide (n.reads.length≤i)=false:=Ak (by omega);obtain⟨H,ap⟩:∃H,H=n.reads.length:=⟨_,rfl⟩;have bs:(i:Int)<(H:Int):=by omega
 have bt:i<H:=by omega
 rw[←ap]at c10 q1 bq;have ad:=h_ ap;have bu:H≤1000:=by have:=K.few;omega
 clear h h1 K hi hL hq an ar aq a7 ap;go_enter Tryz.func95,Tryz.ntmps95;go_upto_region 3 with fail;obtain⟨b8,ak⟩:∃b,b=w.heap.size:=⟨_,rfl⟩;obtain⟨w1,Y⟩:∃w1,w1=w.alloc (.cells #[.slice none 0 0,.slice none 0 0] 69):=⟨_,rfl⟩;rw[←ak,←Y]at r;rw[←Y]at c10;rw[←Y,←ak];clear Y ak;have HG:=h_ r.out.2.2.2.2
 go_upto_region 4 with(first|(refine Bc rfl 138 _ rfl g (i*5) rfl [.int .i64 (q.node:Int),.int .i64 (q.id:Int),.int .i64 (q.op:Int),.string q.key,.int .i64 (a:Int)] _ HG.out Tryz.underlying138 rfl (by rfl) ?_)|fail)
 obtain⟨b9,al⟩:∃b,b=w1.heap.size:=⟨_,rfl⟩;have C:=r.out.1.alloc (rdC (q,a)) 138;obtain⟨S,au⟩:∃S,S=w1.alloc (.cells #[.int .i64 (q.node:Int),.int .i64 (q.id:Int),.int .i64 (q.op:Int),.string q.key,.int .i64 (a:Int)] 138):=⟨_,rfl⟩;have C:Sp (AM b9 (rdC (q,a)) 138::(GW x n B v++AF x.cb t::AM b8 [.slice none 0 0,.slice none 0 0] 69::R)) S:=by rw[au,al];exact C
 have C:Sp (GW x n B v++AF x.cb t::AM b9 (rdC (q,a)) 138::AM b8 [.slice none 0 0,.slice none 0 0] 69::R) S:=by exact YH (l:=AM b9 (rdC (q,a)) 138::GW x n B v++[AF x.cb t]) (R:=AM b8 [.slice none 0 0,.slice none 0 0] 69::R) C [1,2,3,4,5,6,7,8,9,10,11,0] 12 rfl rfl
 rw[←au,←al];clear au al;have ba:=C.ndL_r r.out.2.1 r.out.2.2.1
 have bi:S.cell? ⟨x.nb,10,none⟩=some (.slice (some ⟨g,0,none⟩) H cap):=by have:=ba.blk.cell 10;rw[r.out.2.2.2.1,←ad.out]at this;exact this
 obtain⟨g',af,a4,a3⟩:=Pz C i HI.out (by have:=ad.out;omega);have HE:Hid (Value.slice (some ⟨g,0,none⟩) H cap=v.rv):=h_ (by rw[r.out.2.2.2.1,ad.out]);obtain⟨HD,bg⟩:=i_2 a3 a4;have ac:=h_2 r.out.2.1 r.out.2.2.1;clear C ba a3 a4 c10 r HG;go_wp2_with fail;rw[HE.out];refine HD.out.mono ?_;rintro e w3 ⟨rfl,h3⟩;have aj:=(h3.pull 1).blk;have bj:w3.cell? ⟨x.nb,10,none⟩=some v.rv:=aj.cell 10;have bk:=aj.free 10;have h4:=(h3.pull 1).setCell 10 (.slice (some ⟨g',0,none⟩) (n.reads.length-1) af);have H4:=h_ h4;clear h3 h4 aj HD bi;go_upto_region 7 with fail;obtain⟨w4,av⟩:∃w4,w4=w3.setCell ⟨x.nb,10,none⟩ (.slice (some ⟨g',0,none⟩) (n.reads.length-1) af):=⟨_,rfl⟩;rw[←av]at H4;rw[←av];clear av bj bk;obtain⟨I,X⟩:∃I:NdV,I={v with rv:= .slice (some ⟨g',0,none⟩) (n.reads.length-1) af}:=⟨_,rfl⟩
 have h5:Sp (GW x (n.rd1 i) B I++AF x.cb t::AM b9 (rdC (q,a)) 138::AM b8 [.slice none 0 0,.slice none 0 0] 69::R) w4:=by rw[X];exact YH (l:=[_,_,_,_,_,_,_,_,_,_]) H4.out [0,2,3,4,5,6,1,7,8,9] 10 rfl rfl
 obtain⟨br,H5⟩:=i_2 X h5;have ao:(n.rd1 i).Quiet :=ac.out.1.same rfl rfl rfl rfl rfl rfl rfl;have am:I.mt.map (·.m)=(n.rd1 i).msgs.map wmMs:=by rw[X];exact ac.out.2
 have O:=h_2 ao am;have az:=h_ (h5.ndL_r ao am).k;clear h5 H4 X ao am ac bg;obtain⟨key,a5⟩:=f.out.tok_;have bh:=h_ a5;clear a5 C;refine wK (A:=[0,1,3,7,0,16,63,127,255,255,511,2047]) 64 [pr x.nb 0,pr x.nb 0,pr x.nb 4,pr x.tk 0,pr b9 4,.int .i64 (a:Int),.tuple #[.string key,.bool true],.tuple #[.string key,.bool true],.string key,.bool true,.string key,.bool true] (useS x n B t i a I q b9 (AM b8 [.slice none 0 0,.slice none 0 0] 69::R)) ?mstart (.s ?m0<|.s ?m1<|.s ?m2<|.s ?m3<|.s ?m4<|.s ?m5<|.t ?m6<|.s ?m7<|.s ?m8<|.s ?m9<|.s ?m10<|.s ?m11<|.nil) ?mfin
 case mstart=>exact⟨az.out.still (By _ _).drew,(H5.out.pull 11).blk.drew,fun _=>H5.out.drew,(fun h=>by cases h)⟩
 case mfin=>
  intro L w9 c Q;have G:=c.2.2.2 (Q 6 (by decide) (by decide));have G:=Yz (n:=n.rd2 i a) I (O.out.1.same rfl rfl rfl rfl rfl rfl rfl) O.out.2 G;have H9:=h_ G;obtain⟨v9,bb⟩:=G.ndR;have ae:=h_ (JO bb ((G.pull 1).clock) q.key (by have:=Is f.out.may;omega));have a9:(n.rd2 i a).serves t q.key=true:=f.out.serves;rw[a9]at ae;have Z:w9.cell? ⟨b9,3,none⟩=some (.string q.key):=(G.pull 2).blk.cell 3;have bo:=(Is f.out.may).2.2;have s0:(val.size:Int)≤200:=by omega
  clear c Q G bb a9 H5 az O;simp[Al,Act.put];go_wp2_with fail;refine ae.out.mono ?_;rintro e bv ⟨rfl,bc⟩;have ag:=H9.out.still bc;obtain⟨ay,ab⟩:=i_2 ag.ndK ag;clear ae H9 ag bc Z s0 bo;go_wp2_with fail;refine wK (A:=[0,1,3,7,15,31,63,0,128,384,0,1920,4095,8191]) 4096 [pr x.nb 0,pr x.nb 0,pr x.nb 0,pr x.stb 0,pr x.stb 0,pr x.stb 0,pr x.ca 0,pr b9 0,pr b9 3,.string q.key,.string val,L7 q.key val 0 false,.int .i64 0,.bool true] (putNS x n B t i a val q b9 (AM b8 [.slice none 0 0,.slice none 0 0] 69::R)) ?bstart (.s ?b0<|.s ?b1<|.s ?b2<|.s ?b3<|.s ?b4<|.s ?b5<|.s ?b6<|.s ?b7<|.s ?b8<|.s ?b9<|.s ?b10<|.s ?b11<|.t ?b12<|.s ?b13<|.nil) ?bfin
  case bstart=>exact⟨ay.out.still (By _ _).drew,(ab.out.pull 2).blk.drew,fun _=>ab.out.drew,(fun h=>by cases h)⟩
  case bfin=>
   intro L bw c Q;have V:=c.2.2.2 (Q 12 (by decide) (by decide));have aw:=h_ V;have F:=V.ndKB.c0;have U:=V.ndKB.e0;clear c Q V ay ab;simp[Al,Act.put];go_wp2_with fail;refine(VF aw.out (by have:=f.out.lim;omega)).mono ?_;rintro e aa ⟨rfl,J⟩;have z0:aa.cell? ⟨b9,0,none⟩=some (.int .i64 (q.node:Int)):=(J.pull 2).blk.cell 0;have z1:aa.cell? ⟨b9,1,none⟩=some (.int .i64 (q.id:Int)):=(J.pull 2).blk.cell 1;have z2:aa.cell? ⟨b9,2,none⟩=some (.int .i64 (q.op:Int)):=(J.pull 2).blk.cell 2;have z3:aa.cell? ⟨b9,3,none⟩=some (.string q.key):=(J.pull 2).blk.cell 3;have ax:=h_ J;clear J aw F U;go_wp2_with fail;refine(KP ax.out q 0 val true f.out.msgs).mono ?_;rintro e bx ⟨rfl,a1⟩;have bf:=h_ a1;clear a1 ax z0 z1 z2 z3;go_wp2_with fail;refine(Lu bf.out).mono ?_;rintro e bz ⟨M,N,rfl,a2⟩;have T:=h_ a2;clear a2;have bm:=(T.out.pull 5).blk;obtain⟨ma,mc,a6⟩:=(T.out.pull 1).msgsV;obtain⟨ra,rc,a8⟩:=(T.out.pull 2).repsV;have a0:=h_2 a6 a8;clear a6 a8
   go_wp2_with (refine AS rfl _ _ _ rfl b8 [.slice none 0 0,.slice none 0 0] [M,N] 69 rfl rfl bm rfl Ys (by intro v hv;simp at hv;rcases hv with h|h;(rw[h,a0.out.1];rfl);(rw[h,a0.out.2];rfl)) ?_;intro cc ah bp)
   have bl:=((T.out.pull 5).set ah bp);refine Be (v:= .agg #[M,N]) ?_ rfl ⟨M,N,rfl, ?_⟩
   ·have F:=ah.cell 0
    have d1:=ah.cell 1;simp only[List.getElem?_cons_zero,List.getElem?_cons_succ]at F d1;simp[results,Tryz.results95,go_sem,F,d1]
   ·exact((bl.drop).pull 4).drop
  case b12=>intro L xv W c hl y E D p b o K' z;clear y E D;have u:=h_ c;obtain⟨j,d,_⟩:=c;have F:=j.c0;have U:=j.e0;have Z:W.cell? ⟨b9,0+3,none⟩=some (.string q.key):=d.cell 3;have be:W.cell? ⟨b9,3,none⟩=some (.string q.key):=d.cell 3;clear j d;simp at p;simp only[Al,Act.put,A8,A7,A6,p]at o;subst o;go_simp;clear F U Z be;have h0:=u.out.2.2.1 hl;refine(nd_put h0 f.out.lim q.key val f.out.may f.out.new f.out.room.1 f.out.room.2).mono ?_;rintro e w8 ⟨rfl,P⟩;go_simp;exact z _ _ rfl ⟨P.ndKB,(P.pull 2).blk,fun h=>by simp[upd]at h,fun _=>P⟩
  all_goals intro L xv W c y E D p b o K' z;have u:=h_ c;obtain⟨j,d,_⟩:=c;have F:=j.c0;have U:=j.e0;have Z:W.cell? ⟨b9,0+3,none⟩=some (.string q.key):=d.cell 3;have be:W.cell? ⟨b9,3,none⟩=some (.string q.key):=d.cell 3;clear j d;simp at p;simp only[Al,Act.put,A8,A7,A6,p]at o;subst o
  case b11=>clear y E D;refine Lb rfl 171 _ rfl #[(0,.string q.key),(1,.string val)] (by simp only[DZ,Br,Cy];rfl) (L7 q.key val 0 false) (fun W=>DD W _ _ _ (by rfl)) ?_;exact z _ _ rfl u.out
  all_goals clear y E D;go_simp;exact z _ _ rfl u.out
 case m6=>intro L xv W c hl y E D p b o K' z;clear y E D;have u:=h_ c;obtain⟨j,d,_⟩:=c;have d4:=j.c4;have r1:W.cell? ⟨b9,1+3,none⟩=some (.int .i64 (a:Int)):=d.cell 4;have bd:W.cell? ⟨b9,4,none⟩=some (.int .i64 (a:Int)):=d.cell 4;clear j d;simp at p;simp only[Al,Act.put,A8,A7,A6,p]at o;subst o;go_simp;clear d4 r1 bd;have h0:=u.out.2.2.1 hl;refine(Xw h0 f.out.few.2.1 a f.out.few.2.2 key true bh.out).mono ?_;rintro e w8 ⟨rfl,P⟩;go_simp;have ai:Sp (GW x (n.rd2 i a) B I++AF x.cb t::AM b9 (rdC (q,a)) 138::AM b8 [.slice none 0 0,.slice none 0 0] 69::R) w8:=P;have bn:=ai.ndL_r (O.out.1.same rfl rfl rfl rfl rfl rfl rfl) O.out.2;exact z _ _ rfl ⟨bn.k,(ai.pull 11).blk,fun h=>by simp[upd]at h,fun _=>ai⟩
 all_goals intro L xv W c y E D p b o K' z;clear y E D;have u:=h_ c;obtain⟨j,d,_⟩:=c;have d4:=j.c4;have r1:W.cell? ⟨b9,1+3,none⟩=some (.int .i64 (a:Int)):=d.cell 4;have bd:W.cell? ⟨b9,4,none⟩=some (.int .i64 (a:Int)):=d.cell 4;clear j d;simp at p;simp only[Al,Act.put,A8,A7,A6,p]at o;subst o;go_simp;exact z _ _ rfl u.out
end
def Nd.fresh (id:Nat):Nd:={id:=id,dk:={boot:=1}}
theorem Nd.fresh_quiet (id:Nat)(h:1≤id∧id≤5):(Nd.fresh id).Quiet :=⟨rfl,rfl,rfl,rfl,rfl,rfl,h⟩
section
variable {R:List As} {w w':World} {cb d t B:Nat}
theorem Xs (h:Sp (Qc d 1200::AF cb t::R) w)(id:Nat)(z:1≤id∧id≤5):
  Calls Tryz.prog 86 #[.int .i64 (id:Int),pr d 0,pr cb 0] w fun e w'=>∃x:NdP,e=.returned (.tuple #[pr x.nb 0,.int .i64 0])∧x.cb=cb∧x.d=d∧Sp (CJ x (Nd.fresh id) 0::AF cb t::R) w':=by
 obtain⟨F,⟨sb,L,c,rfl,n,Y,V⟩,J⟩:=h.step;refine(Ry (segs:=129) id cb z n (by omega) (by decide) (by omega)).mono ?_;rintro e w' ⟨f,le,g,l,stb,y,s,u,rfl,m,K,W,Z,p,j,k,hF,D,H,I,hz,C,N,E⟩;have X:d∉y.F stb∧sb∉y.F stb:=⟨fun b=>by have:=hF d (by simp[b]);have:=n.dev.lt;omega,fun b=>by have:=hF sb (by simp[b]);have:=n.secs.lt;omega⟩
 have M:StOk w' ⟨f,cb,d,sb,stb,le,g,y.k,y.cb,y.jb⟩ {boot:=1} 0 s u 101 [] [] y:=
  ⟨K,rfl,rfl,rfl,by omega,by omega,rfl,CacheOf.nil,Av _,by rw[C,N,E];exact⟨rfl,Av _,Av _⟩,H,I⟩
 have aa:=m.lt;have O:f≠le:=fun e=>m.ty.ne (e▸p.blk.ty) (by decide) rfl
 have P:f≠g:=fun e=>m.ty.ne (e▸j.blk.ty) (by decide) rfl
 have Q:f≠l:=fun e=>j.map.ne m.ty e
 have S:le≠g:=fun e=>p.blk.ty.ne (e▸j.blk.ty) (by decide) rfl
 have T:le≠l:=fun e=>j.map.ne p.blk.ty e
 have n6:g≠l:=fun e=>j.map.ne j.blk.ty e
 have A:∀q∈[f,le,g,l],q≠d∧q≠sb:=fun q a=>by have r:=hF q (A2 _ a);have v:=n.dev.lt;have U:=n.secs.lt;omega
 have o:∀q∈[f,le,g,l],q∉y.G ⟨f,cb,d,sb,stb,le,g,y.k,y.cb,y.jb⟩:=fun q a b=>by
  have r:=A q a;simp only[StD.G,Ac]at b;rcases b with e|e|e
  ·exact r.1 e
  ·exact r.2 e
  ·exact D q a e
 refine⟨⟨f,cb,d,sb,stb,le,g,y.k,y.cb,y.jb⟩,rfl,rfl,rfl, ?_⟩
 have v:=J (GW ⟨f,cb,d,sb,stb,le,g,y.k,y.cb,y.jb⟩ (Nd.fresh id) 0 ⟨none,.slice none 0 0,.slice none 0 0,.slice none 0 0,.slice none 0 0,[]⟩) w'
  ([f]++(y.G ⟨f,cb,d,sb,stb,le,g,y.k,y.cb,y.jb⟩++([le]++([]++(KG g l []++([]++([]++([]++([]++[]))))))))) ?_ k (fun q a=> ?_)
 ·exact Yz ⟨none,.slice none 0 0,.slice none 0 0,.slice none 0 0,.slice none 0 0,[]⟩ (Nd.fresh_quiet id z) rfl v
 ·refine J9.cons ⟨rfl,m⟩ (J9.cons ⟨s,u,101,[],[],y,rfl,M⟩ (J9.cons ⟨rfl,p⟩ (J9.cons rfl (J9.cons ⟨l,0,[],_,rfl,j,Av _,fun i=>rfl,fun i _=>rfl⟩
   (J9.cons ⟨rfl,AY w' 0 _ _⟩ (J9.cons ⟨rfl,AY w' 0 _ _⟩ (J9.cons ⟨rfl,AY w' 0 _ _⟩ (J9.cons ⟨by simp,by simp⟩ (J9.single ⟨rfl,AY w' 0 _ _⟩) (by simp)) (by simp)) (by simp)) (by simp)) (by simp)) (by simp)) ?_) ?_) ?_
  ·intro q a b
   simp[KG]at a b;subst a;rcases b with e|e
   ·exact S e
   ·exact T e
  ·intro q a b
   simp only[List.nil_append,AE,Ag,Ah,KG,Ac,Am,AG]at b;rcases b with rfl|rfl|rfl
   ·exact o q (by simp) a
   ·exact o q (by simp) a
   ·exact o q (by simp) a
  ·intro q a b
   rw[Ah]at a;subst a;simp only[List.nil_append,AE,Ag,Ah,KG,Ac,Am,AG]at b;rcases b with h|rfl|rfl|rfl
   ·exact o q (by simp) h
   ·exact O rfl
   ·exact P rfl
   ·exact Q rfl
 ·simp only[List.nil_append,AE,Ag,Ah,KG,Ac,Am,AG,StD.G]at a⊢
  rcases a with rfl|(rfl|rfl|h)|rfl|rfl|rfl
  ·exact .inr (hF q (by simp))
  ·exact .inl (.inl rfl)
  ·exact .inl (.inr rfl)
  ·exact .inr (hF q (by simp[h]))
  ·exact .inr (hF q (by simp))
  ·exact .inr (hF q (by simp))
  ·exact .inr (hF q (by simp))
end
def As.le (A B:As):Prop:=∀F w,A.P F w→B.P F w
theorem As.le_refl (A:As):A.le A:=fun _ _ h=>h
def Gj:=@As.le_refl
def LeL:List As→List As→Prop
 |[],[]=>True
 |a::l,b::m=>a.le b∧LeL l m
 |_,_=>False
theorem J9.le:∀ {l m:List As} {F:List Nat} {w:World},LeL l m→J9 l F w→J9 m F w
 |[],[],_,_,_,h=>h
 |a::l,b::m,_,w,⟨h1,h2⟩,⟨F1,F2,e,ha,hl,hd⟩=>⟨F1,F2,e,h1 F1 w ha,J9.le h2 hl,hd⟩
 |[],_::_,_,_,h,_=>h.elim
 |_::_,[],_,_,h,_=>h.elim
theorem Ev {l m:List As}(h:LeL l m):(ED l).le (ED m):=fun F w hF=>J9.le h hF
theorem Wb {α:Sort _}{f g:α→As}(h:∀a,(f a).le (g a)):(As.ex f).le (As.ex g):=fun F w ⟨a,hF⟩=>⟨a,h a F w hF⟩
theorem Sj {p:Prop}{A B:As}(h:A.le B):(As.and p A).le (As.and p B):=fun F w ⟨a,hF⟩=>⟨a,h F w hF⟩
theorem Sp.le {A B:As}{R:List As}{w:World}(h:Sp (A::R) w)(a:A.le B):Sp (B::R) w:=h.weak (fun F hF=>a F w hF)
theorem stA_le {x:NdP}{k:Disk}{B B':Nat}(a:B≤B'):(UQ x k B).le (UQ x k B'):=fun F w ⟨L,c,t,M,Q,y,hF,h⟩=>⟨L,c,t,M,Q,y,hF,⟨h.at_,h.kp,h.ca,h.jo,h.len,by have:=h.lim;omega,h.jk,h.cache,h.used,h.tab,h.last,h.pair⟩⟩
theorem NO {x:NdP}{n:Nd}{B B':Nat}(a:B≤B'):(CJ x n B).le (CJ x n B'):=
 Wb fun v=>Sj (Ev ⟨Gj _,stA_le a,Gj _,Gj _,Gj _,Gj _,Gj _,Gj _,Gj _,Gj _,trivial⟩)
theorem Wu {x:CtP}{a:Au}{B B':Nat}(b:B≤B'):(Ni x a B).le (Ni x a B'):=fun F w ⟨s,g,sb,d,j,e,c,base,n,f,hF,h⟩=>⟨s,g,sb,d,j,e,c,base,n,f,hF,⟨h.ct,h.rows,h.base_,h.dev,h.gr,AJ h.few b,h.rel⟩⟩
def FDev (L:List Sec)(t:Nat)(Q:List (Nat×FR)):Prop:=
 ∃S c run q,DevOk L 162 129 run S∧SOk 129 S c q∧(1≤c∧c≤t∧run≤t∧q≤t)∧Tail 129 S (Q.map frRec)∧encN (Q.map frRec)≤2225∧Q.Pairwise (fun a b=>a.1<b.1)∧(∀r∈Q,r.1<c)∧∀r∈Q,∀k v,r.2=.put k v→itMay k v 0 false=true
structure CrOk (w:World) (d sb:Nat) (k:Disk) (B:Nat) (L:List Sec) (c t slot turn:Nat) (M:List JMk) (Q:List (Nat×FR)):Prop where
 dev:IsDev w d sb L c
 len:L.length=1200
 lim:c≤5000+20*B∧t≤1000+B
 sup:slot≤1∧0<turn∧turn≤t
 last:∀s∈L,flushSec s=s
 pair:Pair L 0 slot turn (meText (k.boot:Int) (k.epoch:Int) (k.ready:Int) k.frozen)
 jn:JDev L 2 t M
 jk:M.map (fun a=>toStr a.key)=k.jk
 fl:FDev L t Q
 cache:CacheOf Q k.cache
 used:encN (Q.map frRec)≤k.used
def SZ (d:Nat)(k:Disk)(B:Nat):As:=⟨fun F w=>∃(sb:Nat) (L:List Sec) (c t a turn:Nat) (M:List JMk) (Q:List (Nat×FR)),F=[d,sb]∧CrOk w d sb k B L c t a turn M Q,
 fun⟨sb,L,c,t,a,turn,M,Q,hF,h⟩ g f=>⟨sb,L,c,t,a,turn,M,Q,hF,⟨h.dev.keep g (fun b=>f _ b (by rw[hF];simp)) (fun b=>f _ b (by rw[hF];simp)),h.len,h.lim,h.sup,h.last,h.pair,h.jn,h.jk,h.fl,h.cache,h.used⟩⟩,fun⟨sb,L,c,t,a,turn,M,Q,hF,h⟩ q e=>by
  rw[hF]at e;simp only[Ac,Am,AG]at e;rcases e with rfl|rfl
  ·exact h.dev.dev.lt
  ·exact h.dev.secs.lt⟩
theorem crA_le {d:Nat}{k:Disk}{B B':Nat}(b:B≤B'):(SZ d k B).le (SZ d k B'):=fun F w ⟨sb,L,c,t,a,turn,M,Q,hF,h⟩=>⟨sb,L,c,t,a,turn,M,Q,hF,⟨h.dev,h.len,by have:=h.lim;omega,h.sup,h.last,h.pair,h.jn,h.jk,h.fl,h.cache,h.used⟩⟩
def cdA (d:Nat)(k:Nat×Nat×List Nat):As:=⟨fun F w=>∃(sb:Nat) (L:List Sec) (c a turn:Nat),F=[d,sb]∧IsDev w d sb L c∧Pair L 0 a turn (stT (k.1:Int) (k.2.1:Int) (k.2.2.map Int.ofNat))∧a≤1∧0<turn∧turn≤2*k.2.1∧c≤4*k.2.1+5,
 fun⟨sb,L,c,a,turn,hF,h,e⟩ j g=>⟨sb,L,c,a,turn,hF,h.keep j (fun b=>g _ b (by rw[hF];simp)) (fun b=>g _ b (by rw[hF];simp)),e⟩,fun⟨sb,L,c,a,turn,hF,h,e⟩ q f=>by
  rw[hF]at f;simp only[Ac,Am,AG]at f;rcases f with rfl|rfl
  ·exact h.dev.lt
  ·exact h.secs.lt⟩
def noA:As:=⟨fun _ _=>False,fun h=>h.elim,fun h=>h.elim⟩
def Jq (o:Option Nat)(d k:Nat)(nd:Option Nd)(t B:Nat)(made:Bool)(a:Disk):As:=
 match o,nd with
 |some nb,some n=>As.ex fun x:NdP=>As.and (x.nb=nb∧x.cb=k∧x.d=d∧made=true) (ED [CJ x n B,AF k t])
 |none,none=>ED [if made=true then SZ d a B else Qc d 1200,AF k t]
 |_,_=>noA
theorem GF {o:Option Nat}{d k:Nat}{nd:Option Nd}{t B B':Nat}{made:Bool}{a:Disk}(b:B≤B'):(Jq o d k nd t B made a).le (Jq o d k nd t B' made a):=by
 unfold Jq
 cases o with
 |none=>
  cases nd with
  |none=>
   refine Ev ⟨?_,Gj _,trivial⟩
   split
   ·exact crA_le b
   ·exact Gj _
  |some n=>exact Gj _
 |some nb=>
  cases nd with
  |none=>exact Gj _
  |some n=>exact Wb fun x=>Sj (Ev ⟨NO b,Gj _,trivial⟩)
def C0 (o:Option Nat)(d k:Nat)(c:Option Au)(t B:Nat)(b:Nat×Nat×List Nat):As:=
 match o,c with
 |some p,some a=>ED [Ni ⟨p,k,d⟩ a B,AF k t]
 |none,none=>ED [cdA d b,AF k t]
 |_,_=>noA
theorem LX {o:Option Nat}{d k:Nat}{c:Option Au}{t B B':Nat}{b:Nat×Nat×List Nat}(e:B≤B'):(C0 o d k c t B b).le (C0 o d k c t B' b):=by
 unfold C0
 cases o with
 |none=>cases c with
  |none=>exact Gj _
  |some n=>exact Gj _
 |some nb=>cases c with
  |none=>exact Gj _
  |some a=>exact Ev ⟨Wu e,Gj _,trivial⟩
structure ClV where
 cp:Option Nat
 cdv:Nat
 ccv:Nat
 nd:Nat→Option Nat
 dv:Nat→Nat
 ck:Nat→Nat
 np:Nat
 op:Nat
 lp:Nat
def pt (b:Nat):Value:=pr b 0
def BW (v:ClV)(made:Nat→Bool):List Value:=
 [Cu v.cp,pt v.cdv,pt v.ccv,.pointer none,Cu (v.nd 1),Cu (v.nd 2),Cu (v.nd 3),Cu (v.nd 4),Cu (v.nd 5),.pointer none,pt (v.dv 1),pt (v.dv 2),pt (v.dv 3),pt (v.dv 4),pt (v.dv 5),
  .pointer none,pt (v.ck 1),pt (v.ck 2),pt (v.ck 3),pt (v.ck 4),pt (v.ck 5),.bool false,.bool (made 1),.bool (made 2),.bool (made 3),.bool (made 4),.bool (made 5),pt v.np,pt v.op,pt v.lp]
def AX (v:ClV)(S:Cl)(B i:Nat):As:=Jq (v.nd i) (v.dv i) (v.ck i) (S.nodes i) (S.clk i) B (S.made i) (S.devs i)
def CW (v:ClV)(S:Cl)(B:Nat):As:=ED [AX v S B 1,AX v S B 2,AX v S B 3,AX v S B 4,AX v S B 5]
def Dh (v:ClV)(S:Cl)(B i:Nat):As:=ED (([1,2,3,4,5].filter (fun j=>decide (j≠i))).map (AX v S B))
section
variable {R:List As} {w w':World} {v v':ClV} {S S':Cl} {B B' i p:Nat}
theorem Sp.slotOut (h:Sp (CW v S B::R) w)(c:1≤i∧i≤5):Sp (AX v S B i::Dh v S B i::R) w:=by
 have b:Sp ([AX v S B 1,AX v S B 2,AX v S B 3,AX v S B 4,AX v S B 5]++R) w:=h.open_;rcases(by omega:i=1∨i=2∨i=3∨i=4∨i=5)with rfl|rfl|rfl|rfl|rfl
 ·have a:Sp ([AX v S B 2,AX v S B 3,AX v S B 4,AX v S B 5]++(AX v S B 1::R)) w:=b.sel [1,2,3,4,0] 5 rfl rfl
  exact(DV _ a).pull 1
 ·have a:Sp ([AX v S B 1,AX v S B 3,AX v S B 4,AX v S B 5]++(AX v S B 2::R)) w:=b.sel [0,2,3,4,1] 5 rfl rfl
  exact(DV _ a).pull 1
 ·have a:Sp ([AX v S B 1,AX v S B 2,AX v S B 4,AX v S B 5]++(AX v S B 3::R)) w:=b.sel [0,1,3,4,2] 5 rfl rfl
  exact(DV _ a).pull 1
 ·have a:Sp ([AX v S B 1,AX v S B 2,AX v S B 3,AX v S B 5]++(AX v S B 4::R)) w:=b.sel [0,1,2,4,3] 5 rfl rfl
  exact(DV _ a).pull 1
 ·have a:Sp ([AX v S B 1,AX v S B 2,AX v S B 3,AX v S B 4]++(AX v S B 5::R)) w:=b.sel [0,1,2,3,4] 5 rfl rfl
  exact(DV _ a).pull 1
structure SameAt (v v':ClV) (S S':Cl) (j:Nat):Prop where
 nd:v'.nd j=v.nd j
 dv:v'.dv j=v.dv j
 ck:v'.ck j=v.ck j
 node:S'.nodes j=S.nodes j
 clk:S'.clk j=S.clk j
 made:S'.made j=S.made j
 dev:S'.devs j=S.devs j
theorem SameAt.le {j:Nat}(h:SameAt v v' S S' j)(a:B≤B'):(AX v S B j).le (AX v' S' B' j):=by unfold AX;rw[h.nd,h.dv,h.ck,h.node,h.clk,h.made,h.dev];exact GF a
theorem Sp.slotIn (h:Sp (AX v' S' B' i::Dh v S B i::R) w)(e:1≤i∧i≤5)(a:B≤B')(b:∀j,j≠i→SameAt v v' S S' j):Sp (CW v' S' B'::R) w:=by
 have d:=h.pull 1;rcases(by omega:i=1∨i=2∨i=3∨i=4∨i=5)with rfl|rfl|rfl|rfl|rfl
 ·have c:=d.le (B:=ED [AX v' S' B' 2,AX v' S' B' 3,AX v' S' B' 4,AX v' S' B' 5]) (Ev (m:=[AX v' S' B' 2,AX v' S' B' 3,AX v' S' B' 4,AX v' S' B' 5]) ⟨(b 2 (by decide)).le a,(b 3 (by decide)).le a,(b 4 (by decide)).le a,(b 5 (by decide)).le a,trivial⟩)
  exact DV [_,_,_,_,_] (YH (l:=[AX v' S' B' 2,AX v' S' B' 3,AX v' S' B' 4,AX v' S' B' 5,AX v' S' B' 1]) c.open_ [4,0,1,2,3] 5 rfl rfl)
 ·have c:=d.le (B:=ED [AX v' S' B' 1,AX v' S' B' 3,AX v' S' B' 4,AX v' S' B' 5]) (Ev (m:=[AX v' S' B' 1,AX v' S' B' 3,AX v' S' B' 4,AX v' S' B' 5]) ⟨(b 1 (by decide)).le a,(b 3 (by decide)).le a,(b 4 (by decide)).le a,(b 5 (by decide)).le a,trivial⟩)
  exact DV [_,_,_,_,_] (YH (l:=[AX v' S' B' 1,AX v' S' B' 3,AX v' S' B' 4,AX v' S' B' 5,AX v' S' B' 2]) c.open_ [0,4,1,2,3] 5 rfl rfl)
 ·have c:=d.le (B:=ED [AX v' S' B' 1,AX v' S' B' 2,AX v' S' B' 4,AX v' S' B' 5]) (Ev (m:=[AX v' S' B' 1,AX v' S' B' 2,AX v' S' B' 4,AX v' S' B' 5]) ⟨(b 1 (by decide)).le a,(b 2 (by decide)).le a,(b 4 (by decide)).le a,(b 5 (by decide)).le a,trivial⟩)
  exact DV [_,_,_,_,_] (YH (l:=[AX v' S' B' 1,AX v' S' B' 2,AX v' S' B' 4,AX v' S' B' 5,AX v' S' B' 3]) c.open_ [0,1,4,2,3] 5 rfl rfl)
 ·have c:=d.le (B:=ED [AX v' S' B' 1,AX v' S' B' 2,AX v' S' B' 3,AX v' S' B' 5]) (Ev (m:=[AX v' S' B' 1,AX v' S' B' 2,AX v' S' B' 3,AX v' S' B' 5]) ⟨(b 1 (by decide)).le a,(b 2 (by decide)).le a,(b 3 (by decide)).le a,(b 5 (by decide)).le a,trivial⟩)
  exact DV [_,_,_,_,_] (YH (l:=[AX v' S' B' 1,AX v' S' B' 2,AX v' S' B' 3,AX v' S' B' 5,AX v' S' B' 4]) c.open_ [0,1,2,4,3] 5 rfl rfl)
 ·have c:=d.le (B:=ED [AX v' S' B' 1,AX v' S' B' 2,AX v' S' B' 3,AX v' S' B' 4]) (Ev (m:=[AX v' S' B' 1,AX v' S' B' 2,AX v' S' B' 3,AX v' S' B' 4]) ⟨(b 1 (by decide)).le a,(b 2 (by decide)).le a,(b 3 (by decide)).le a,(b 4 (by decide)).le a,trivial⟩)
  exact DV [_,_,_,_,_] (YH (l:=[AX v' S' B' 1,AX v' S' B' 2,AX v' S' B' 3,AX v' S' B' 4,AX v' S' B' 5]) c.open_ [0,1,2,3,4] 5 rfl rfl)
theorem M9 (a:B≤B'):(CW v S B).le (CW v S B'):=Ev ⟨GF a,GF a,GF a,GF a,GF a,trivial⟩
end
def Bo (p:Nat)(v:ClV)(S:Cl)(B:Nat):List As:=
 [AM p (BW v S.made) 104,CI v.np S.net,FI v.op S.onow S.org,F9 v.lp S.log,C0 v.cp v.cdv v.ccv S.c S.cc B S.cd,CW v S B]
def Dm (L:List Call):Prop:=∀(i:Nat) (c:Call),L[i]?=some c→c.id=i+1
def CN (p:Nat)(S:Cl)(B:Nat):As:=As.ex fun v:ClV=>As.and (Dm S.log) (ED (Bo p v S B))
section
variable {R:List As} {w w':World} {v v':ClV} {S S':Cl} {B B' i p:Nat}
theorem Sp.cls (h:Sp (CN p S B::R) w):∃v:ClV,Dm S.log∧Sp (Bo p v S B++R) w:=by obtain⟨v,h⟩:=h.exE;obtain⟨a,h⟩:=h.andE;exact⟨v,a,h.open_⟩
theorem Sp.clsI (v:ClV)(a:Dm S.log)(h:Sp (Bo p v S B++R) w):Sp (CN p S B::R) w:=Sp.exI v (Sp.andI a (DV _ h))
def Yu:=@Sp.clsI
theorem Ta (a:B≤B'):LeL (Bo p v S B) (Bo p v S B'):=⟨Gj _,Gj _,Gj _,Gj _,LX a,M9 a,trivial⟩
theorem Sp.clsMono (h:Sp (CN p S B::R) w)(a:B≤B'):Sp (CN p S B'::R) w:=h.le (Wb fun v=>Sj (Ev (Ta a)))
theorem Gd (v:ClV)(made:Nat→Bool)(a:1≤i∧i≤5):(BW v made)[3+i]?=some (Cu (v.nd i)):=by rcases(by omega:i=1∨i=2∨i=3∨i=4∨i=5)with rfl|rfl|rfl|rfl|rfl<;>rfl
theorem FQ (v:ClV)(made:Nat→Bool)(a:1≤i∧i≤5):(BW v made)[9+i]?=some (pt (v.dv i)):=by rcases(by omega:i=1∨i=2∨i=3∨i=4∨i=5)with rfl|rfl|rfl|rfl|rfl<;>rfl
theorem B5 (v:ClV)(made:Nat→Bool)(a:1≤i∧i≤5):(BW v made)[15+i]?=some (pt (v.ck i)):=by rcases(by omega:i=1∨i=2∨i=3∨i=4∨i=5)with rfl|rfl|rfl|rfl|rfl<;>rfl
theorem Qt (v:ClV)(made:Nat→Bool)(a:1≤i∧i≤5):(BW v made)[21+i]?=some (.bool (made i)):=by rcases(by omega:i=1∨i=2∨i=3∨i=4∨i=5)with rfl|rfl|rfl|rfl|rfl<;>rfl
end
section
variable {R:List As} {w w':World} {v v':ClV} {S S':Cl} {B B' i p:Nat}
theorem cl_net (h:Blk w p (BW v S.made) 104):Calls Tryz.prog 34 #[pt p] w fun e w'=>e=.returned (pt v.np)∧w'=w:=by have c27:w.cell? ⟨p,27,none⟩=some (pt v.np):=h.cell 27;unfold pt at*;clear h;go_enter Tryz.func34,Tryz.ntmps34;go_wp2_with fail;go_ret;exact⟨rfl,rfl⟩
theorem U1 (h:Blk w p (BW v S.made) 104):Calls Tryz.prog 30 #[pt p] w fun e w'=>e=.returned (pt v.op)∧w'=w:=by have c27:w.cell? ⟨p,28,none⟩=some (pt v.op):=h.cell 28;unfold pt at*;clear h;go_enter Tryz.func30,Tryz.ntmps30;go_wp2_with fail;go_ret;exact⟨rfl,rfl⟩
theorem Ww (h:Blk w p (BW v S.made) 104):Calls Tryz.prog 28 #[pt p] w fun e w'=>e=.returned (pt v.lp)∧w'=w:=by have c27:w.cell? ⟨p,29,none⟩=some (pt v.lp):=h.cell 29;unfold pt at*;clear h;go_enter Tryz.func28,Tryz.ntmps28;go_wp2_with fail;go_ret;exact⟨rfl,rfl⟩
theorem RV (h:Blk w p (BW v S.made) 104):Calls Tryz.prog 61 #[pt p] w fun e w'=>e=.returned (Cu v.cp)∧w'=w:=by have c27:w.cell? ⟨p,0,none⟩=some (Cu v.cp):=h.cell 0;unfold pt Cu at*;clear h;go_enter Tryz.func61,Tryz.ntmps61;go_wp2_with fail;go_ret;exact⟨rfl,rfl⟩
theorem IE (h:Blk w p (BW v S.made) 104)(a:1≤i∧i≤5):Calls Tryz.prog 19 #[pt p,.int .i64 (i:Int)] w fun e w'=>e=.returned (Cu (v.nd i))∧w'=w:=by
 have c27:w.cell? ⟨p,3+i,none⟩=some (Cu (v.nd i)):=by rw[h.cell];exact Gd v S.made a
 have b:¬(i:Int)<1:=by omega
 have c:¬(5:Int)<(i:Int):=by omega
 have d:(i:Int)<6:=by omega
 unfold pt Cu at*;clear h a;go_enter Tryz.func19,Tryz.ntmps19;go_wp2;go_ret;exact⟨rfl,rfl⟩
end
def DS (a:Nat)(L:List Call)(r:Rp):List Call:=L.map (fun c=>if c.id=r.id∧c.done=false∧c.op=r.op∧c.key=r.key then {c with done:=true,too:=a,rp:=r}else c)
def Hs (a:Nat):List Call→List Rp→Prop
 |_,[]=>True
 |L,r::K=>(∃(i:Nat) (c:Call),r.id=i+1∧L[i]?=some c∧c.done=false∧c.op=r.op∧c.key=r.key)∧Hs a (DS a L r) K
theorem Wd {f:Nat}{L:List Call}{r:Rp}(e:Dm L){i:Nat}{c:Call}(o:r.id=i+1)(a:L[i]?=some c)(g:c.done=false)(n:c.op=r.op)(l:c.key=r.key):DS f L r=L.set i (Qw c f r):=by
 apply List.ext_getElem?;intro j;unfold DS;rw[AN,CM];by_cases b:i=j
 ·subst b
  have m:=(Ai.1 a).1;rw[a,Ay rfl,Ay m];have:=e i c a;simp only[Option.map_some];rw[Ay ⟨by omega,g,n,l⟩];rfl
 ·rw[Aw b]
  cases k:L[j]? with
  |none=>rfl
  |some d=>have:=e j d k;simp only[Option.map_some];rw[Aw (by intro h;omega)]
theorem We {f:Nat}{L:List Call}{r:Rp}(e:Dm L):Dm (DS f L r):=by
 intro i c a;unfold DS at a;rw[AN]at a;obtain⟨d,b,rfl⟩:=Gg.1 a;have:=e i d b
 split<;>exact this
theorem LI {a:Nat}:∀(K:List Rp) (L:List Call),Dm L→Dm (K.foldl (DS a) L)
 |[],L,h=>h
 |r::K,L,h=>LI K _ (We h)
theorem Hs.at {a:Nat}:∀(K:List Rp) (L:List Call),Hs a L K→∀(j:Nat) (r:Rp),K[j]?=some r→∃(i:Nat) (c:Call),r.id=i+1∧((K.take j).foldl (DS a) L)[i]?=some c∧c.done=false∧c.op=r.op∧c.key=r.key
 |[],_,_,j,r,h=>by simp at h
 |r0::K,L,h,0,r,hr=>by simp at hr;subst hr;exact h.1
 |r0::K,L,h,j+1,r,hr=>by have:=Hs.at K _ h.2 j r (by simpa using hr);simpa using this
theorem Uq (K:List Rp)(S:Cl):(K.foldl Cl.endCall S)={S with log:=K.foldl (DS S.onow) S.log}:=by
 induction K generalizing S with
 |nil=>rfl
 |cons r K ih=>rw[List.foldl_cons,ih];rfl
theorem Ku {α β:Type}(f:β→α→β)(K:List α)(j:Nat)(r:α)(b:β)(h:K[j]?=some r):(K.take (j+1)).foldl f b=f ((K.take j).foldl f b) r:=by rw[BH,Gn,h];rfl
section
variable {R:List As} {w w':World} {v v':ClV} {S S':Cl} {B B' i p:Nat} {ms rp:Value} {M:List Wm} {K:List Rp}
def cameS (p:Nat)(v:ClV)(S:Cl)(B c:Nat)(r:Rp)(a b:List Call)(R:List As)(L:Nat→Bool)(W:World):Prop:=
 Blk W p (BW v S.made) 104∧Blk W c (rpC r) 43∧(L 10=false→Sp (Bo p v {S with log:=a} B++R) W)∧(L 10=true→Sp (Bo p v {S with log:=b} B++R) W)
def came0S (p:Nat)(v:ClV)(S:Cl)(B a:Nat)(ms rp:Value)(M:List Wm)(R:List As)(L:Nat→Bool)(W:World):Prop:=
 Blk W p (BW v S.made) 104∧Blk W a [ms,rp] 69∧(L 6=false→Sp (Bo p v S B++Dp ms M::R) W)∧(L 6=true→Sp (Bo p v {S with net:=S.net++M} B++R) W)
theorem J6 (h:Sp (Bo p v S B++Dp ms M::Dn rp K::R) w)(hM:∀m∈M,m.Ok)(H:S.net.length+M.length≤300)(hK:Hs S.onow S.log K)(hn:Dm S.log)(hk:K.length≤1000):
  Calls Tryz.prog 90 #[pt p,.agg #[ms,rp]] w fun e w'=>e=.returned (.tuple #[])∧Sp (Bo p v {S with net:=S.net++M,log:=K.foldl (DS S.onow) S.log} B++R) w':=by
 obtain⟨D,E,af⟩:=(h.pull 6).msgsV;obtain⟨C,f,ah⟩:=(h.pull 7).repsV;have ar:=af;have au:=ah;have V:=(h.alloc [ms,rp] 69);have V:Sp (Bo p v S B++Dp ms M::Dn rp K::AM w.heap.size [ms,rp] 69::R) (w.alloc (.cells #[ms,rp] 69)):=V.push 8;have F:=h_ V;have T:=h_6 hM H hK hn af ah;unfold pt;clear h V hM H hK hn af ah;subst ar;subst au;go_enter Tryz.func90,Tryz.ntmps90;go_wp2_with fail;obtain⟨b3,ab⟩:∃b,b=w.heap.size:=⟨_,rfl⟩;obtain⟨w1,ai⟩:∃w1,w1=w.alloc (.cells #[.slice D M.length E,.slice C K.length f] 69):=⟨_,rfl⟩;rw[←ab,←ai]at F;rw[←ab,←ai];clear ab ai;obtain⟨I,ae⟩:∃m,m=M.length:=⟨_,rfl⟩;obtain⟨kl,Y⟩:∃m,m=K.length:=⟨_,rfl⟩;rw[←ae,←Y]at F⊢;have aa:=h_2 ae Y;rw[←Y]at hk;clear ae Y;refine wK (A:=[0,1,3,7,0,16,63]) 64 [pr p 0,pr p 0,pr p 27,pr v.np 0,pr b3 0,.slice D I E,.int .i64 (M.length:Int)] (came0S p v S B b3 (.slice D I E) (.slice C kl f) M (Dn (.slice C kl f) K::AM b3 [.slice D I E,.slice C kl f] 69::R)) ?mstart (.s ?m0<|.s ?m1<|.s ?m2<|.s ?m3<|.s ?m4<|.s ?m5<|.t ?m6<|.nil) ?mfin
 case mstart=>exact⟨F.out.blk.drew,(F.out.pull 8).blk.drew,fun _=>F.out.drew,(fun h=>by cases h)⟩
 case mfin=>
  intro L w9 a P;have c:=a.2.2.2 (P 6 (by decide) (by decide));have H9:=h_ c;have m1:w9.cell? ⟨b3,1,none⟩=some (.slice C kl f):=a.2.1.cell 1;clear a P c F;simp[Al,Act.put];go_wp2_with fail;clear m1
  go_loopw [16] (fun ay wr=>∃j:Nat,ay=.int .i64 (j:Int)∧j≤kl∧Sp (Bo p v {S with net:=S.net++M,log:=(K.take j).foldl (DS S.onow) S.log} B++Dn (.slice C kl f) K::R) wr) (fun x _=>kl+1-(intOf x).toNat)
  case atStart=>exact⟨0,rfl,AA _,(H9.out.pull 7).drop⟩
  case round=>
  obtain⟨j,rfl,hj,hr⟩:=hrel;have HR:=h_ hr;by_cases am:j<kl
  ·obtain⟨r,ag⟩:∃r,K[j]?=some r:=⟨_,Ad (by rw[←aa.out.2];exact am)⟩
   have q0:(j:Int)<(kl:Int):=by omega
   have ax:decide (j<kl)=true:=An am;obtain⟨g,cap,ad,_,_,an,_,_⟩:=Cq (k:=6) S7 ((hr.pull 6).row) ag
   have aq:C=some ⟨g,0,none⟩∧cap=f:=by rw[←aa.out.2]at ad;injection ad with J U N;exact⟨J,N.symm⟩
   obtain⟨ao,ak⟩:=i_2 an ag;obtain⟨av,_⟩:=aq;subst av;clear an ad hr ag
   go_upto_region 5 with(first|(refine Bc rfl 43 _ rfl g (j*6) rfl [.int .i64 (r.id:Int),.int .i64 (r.op:Int),.string r.key,.int .i64 (r.err:Int),.string r.val,.bool r.has] _ ao.out Tryz.underlying43 rfl (by rfl) ?_)|fail)
   obtain⟨b5,ac⟩:∃b,b=wr.heap.size:=⟨_,rfl⟩;obtain⟨w2,aj⟩:∃w2,w2=wr.alloc (.cells #[.int .i64 (r.id:Int),.int .i64 (r.op:Int),.string r.key,.int .i64 (r.err:Int),.string r.val,.bool r.has] 43):=⟨_,rfl⟩
   have h2:Sp (Bo p v {S with net:=S.net++M,log:=(K.take j).foldl (DS S.onow) S.log} B++Dn (.slice (some ⟨g,0,none⟩) kl f) K::AM b5 (rpC r) 43::R) w2:=by rw[aj,ac];exact(HR.out.alloc (rpC r) 43).push 7
   have Q:=h_ h2;rw[←ac,←aj];clear ac aj h2 HR;refine wK (A:=[0,1,3,7,0,0,32,96,224,480,1023]) 1024 [pr p 0,pr p 0,pr p 29,pr v.lp 0,.agg (rpC r).toArray,pr p 0,pr p 0,pr p 28,pr v.op 0,.int .i64 (S.onow:Int),.bool true] (cameS p v {S with net:=S.net++M} B b5 r ((K.take j).foldl (DS S.onow) S.log) ((K.take (j+1)).foldl (DS S.onow) S.log) (Dn (.slice (some ⟨g,0,none⟩) kl f) K::AM b5 (rpC r) 43::R)) ?bstart (.s ?b0<|.s ?b1<|.s ?b2<|.s ?b3<|.s ?b4<|.s ?b5<|.s ?b6<|.s ?b7<|.s ?b8<|.s ?b9<|.t ?b10<|.nil) ?bfin
   case bstart=>exact⟨Q.out.blk.drew,(Q.out.pull 7).blk.drew,fun _=>Q.out.drew,(fun h=>by cases h)⟩
   case bfin=>
    intro L w9 a P;have c:=a.2.2.2 (P 10 (by decide) (by decide));have H9:=h_ c;clear a P c Q;simp[Al,Act.put];go_wp2
    go_roundw
    case rel=>exact⟨j+1,by go_num,by omega,(H9.out.pull 7).drop⟩
    case measure=>simp only[intOf];omega
   case b10=>intro L xv W a H u z q o b n K' y;clear u z q;have l:=h_ a;obtain⟨d,h5,_⟩:=a;have c28:W.cell? ⟨p,28,none⟩=some (pr v.op 0):=d.cell 28;have c29:W.cell? ⟨p,29,none⟩=some (pr v.lp 0):=d.cell 29;clear d h5;simp at o;simp only[Al,Act.put,A8,A7,A6,o]at n;subst n;go_simp;clear c28 c29;have G:=l.out.2.2.1 H;obtain⟨ii,cc,J,U,N,e4,e5⟩:=T.out.2.2.1.at K _ j r ak.out;have al:Dm ((K.take j).foldl (DS S.onow) S.log):=LI _ _ T.out.2.2.2.1;refine(W4 (G.pull 3) r S.onow ii J cc U N e4 e5).mono ?_;rintro e Z ⟨rfl,X⟩;rw[←Wd al J U N e4 e5,←Ku (DS S.onow) K j r S.log ak.out]at X;clear al J U N e4 e5 G;go_simp;have c:Sp (Bo p v {S with net:=S.net++M,log:=(K.take (j+1)).foldl (DS S.onow) S.log} B++Dn (.slice (some ⟨g,0,none⟩) kl f) K::AM b5 (rpC r) 43::R) Z:=X.push 3;exact y _ _ rfl ⟨c.blk,(c.pull 7).blk,fun h=>by simp[upd]at h,fun _=>c⟩
   all_goals intro L xv W a u z q o b n K' y;have l:=h_ a;obtain⟨d,h5,_⟩:=a;have c28:W.cell? ⟨p,28,none⟩=some (pr v.op 0):=d.cell 28;have c29:W.cell? ⟨p,29,none⟩=some (pr v.lp 0):=d.cell 29;clear d h5;simp at o;simp only[Al,Act.put,A8,A7,A6,o]at n;subst n
   case b4=>clear u z q;refine Cb 43 _ rfl b5 (by rfl) 43 (rpC r).toArray (0,0) _ l.out.2.1 Tryz.underlying43 rfl (by rfl) (by rfl) ?_;exact y _ _ rfl l.out
   case b9=>have aw:L 10=false:=q 10 (by decide);clear u z q;go_simp;clear c28 c29;have G:=l.out.2.2.1 aw;refine(Lq (G.pull 2)).mono ?_;rintro e Z ⟨rfl,rfl⟩;go_simp;exact y _ _ rfl l.out
   all_goals clear u z q;go_simp;exact y _ _ rfl l.out
  ·have he:j=kl:=by omega
   subst he;have q0:¬(j:Int)<(j:Int):=by omega
   have ax:decide (j<j)=false:=Ak (by omega);go_wp2
   go_end0
   refine⟨rfl, ?_⟩;have hh:=(HR.out.pull 6).drop;rw[aa.out.2,Bt]at hh;exact hh
 case m6=>intro L xv W a H u z q o b n K' y;clear u z q;have l:=h_ a;obtain⟨d,O,_⟩:=a;have c27:W.cell? ⟨p,27,none⟩=some (pr v.np 0):=d.cell 27;have m0:W.cell? ⟨b3,0,none⟩=some (.slice D I E):=O.cell 0;clear d O;simp at o;simp only[Al,Act.put,A8,A7,A6,o]at n;subst n;go_simp;clear c27 m0;have G:=l.out.2.2.1 H;have ap:=(G.pull 6).pull 2;refine(Ja ap T.out.1 T.out.2.1).mono ?_;rintro e Z ⟨rfl,X⟩;go_simp;have c:Sp (Bo p v {S with net:=S.net++M} B++Dn (.slice C kl f) K::AM b3 [.slice D I E,.slice C kl f] 69::R) Z:=X.push 1;exact y _ _ rfl ⟨c.blk,(c.pull 7).blk,fun h=>by simp[upd]at h,fun _=>c⟩
 all_goals intro L xv W a u z q o b n K' y;clear u z q;have l:=h_ a;obtain⟨d,O,_⟩:=a;have c27:W.cell? ⟨p,27,none⟩=some (pr v.np 0):=d.cell 27;have m0:W.cell? ⟨b3,0,none⟩=some (.slice D I E):=O.cell 0;clear d O;simp at o;simp only[Al,Act.put,A8,A7,A6,o]at n;subst n;go_simp;exact y _ _ rfl l.out
end
def Cl.setNdT (S:Cl)(a:Nat)(n:Nd)(t:Nat):Cl:={S with nodes:=Ej S.nodes a (some n),devs:=Ej S.devs a n.dk,clk:=Ej S.clk a t}
theorem Da {α:Type}(f:Nat→α)(a:Nat)(y:α):Ej f a y a=y:=Ay rfl
theorem Di {α:Type}(f:Nat→α)(a:Nat)(y:α){b:Nat}(h:b≠a):Ej f a y b=f b:=Aw h
theorem XA {α:Type}(f:Nat→α)(a:Nat):Ej f a (f a)=f:=by
 funext b
 unfold Ej
 split
 ·rename_i h;rw[h]
 ·rfl
theorem Cl.setNdT_clk (S:Cl)(a:Nat)(n:Nd):S.setNdT a n (S.clk a)=S.setNd a n:=by unfold Cl.setNdT Cl.setNd;rw[XA]
def YC:=@Cl.setNdT_clk
theorem Cl.came_eq (S:Cl)(a:Nat)(r:Nd×List Wm×List Rp)(h:S.net.length+r.2.1.length≤300):S.came a r={S.setNd a r.1 with net:=S.net++r.2.1,log:=r.2.2.foldl (DS S.onow) S.log}:=by unfold Cl.came;rw[Uq];unfold Cl.send;have e:(S.setNd a r.1).net =S.net:=rfl;rw[e,Ba (by omega)];rfl
def Y3:=@Cl.came_eq
section
variable {R R':List As} {w w':World} {v v':ClV} {S S':Cl} {B B' a p:Nat} {n n':Nd}
theorem Sp.slotUp (h:Sp (AX v S B a::R) w)(i:S.nodes a=some n):∃x:NdP,v.nd a=some x.nb∧x.cb=v.ck a∧x.d=v.dv a∧S.made a=true∧Sp (CJ x n B::AF x.cb (S.clk a)::R) w:=by
 unfold AX Jq at h;rw[i]at h
 cases c:v.nd a with
 |none=>rw[c]at h;obtain⟨F,hF,_⟩:=h.one;exact hF.elim
 |some nb=>rw[c]at h;obtain⟨x,h⟩:=h.exE;obtain⟨⟨e,b,f,g⟩,h⟩:=h.andE;exact⟨x,by rw[e],b,f,g,by rw[b];exact h.open_⟩
theorem Sp.slotDown (h:Sp (AX v S B a::R) w)(c:S.nodes a=none):v.nd a=none∧Sp ((if S.made a=true then SZ (v.dv a) (S.devs a) B else Qc (v.dv a) 1200)::AF (v.ck a) (S.clk a)::R) w:=by
 unfold AX Jq at h;rw[c]at h
 cases b:v.nd a with
 |none=>rw[b]at h;exact⟨rfl,h.open_⟩
 |some nb=>rw[b]at h;obtain⟨F,hF,_⟩:=h.one;exact hF.elim
theorem Sp.slotUpI {x:NdP}{t:Nat}(h:Sp (CJ x n B::AF x.cb t::R) w)(c:v.nd a=some x.nb)(b:x.cb=v.ck a)(e:x.d=v.dv a)(g:S.nodes a=some n)(i:S.clk a=t)(f:S.made a=true):Sp (AX v S B a::R) w:=by unfold AX Jq;rw[c,g,f,i];rw[b]at h;exact Sp.exI x (Sp.andI ⟨rfl,b,e,rfl⟩ (DV [_,_] h))
theorem Sp.ndOut (h:Sp (Bo p v S B++R) w)(g:1≤a∧a≤5)(t:S.nodes a=some n):∃x:NdP,v.nd a=some x.nb∧x.cb=v.ck a∧
  Sp (CJ x n B::AF x.cb (S.clk a)::Dh v S B a::AM p (BW v S.made) 104::CI v.np S.net::FI v.op S.onow S.org::F9 v.lp S.log::C0 v.cp v.cdv v.ccv S.c S.cc B S.cd::R) w∧
  ∀(w':World) (n':Nd) (t' B':Nat) (R':List As),B≤B'→Sp (CJ x n' B'::AF x.cb t'::Dh v S B a::AM p (BW v S.made) 104::CI v.np S.net::FI v.op S.onow S.org::F9 v.lp S.log::C0 v.cp v.cdv v.ccv S.c S.cc B S.cd::R') w'→Sp (Bo p v (S.setNdT a n' t') B'++R') w':=by
 have l:Sp (CW v S B::AM p (BW v S.made) 104::CI v.np S.net::FI v.op S.onow S.org::F9 v.lp S.log::C0 v.cp v.cdv v.ccv S.c S.cc B S.cd::R) w:=h.pull 5;obtain⟨x,d,e,i,k,m⟩:=(l.slotOut g).slotUp t;refine⟨x,d,e,m,fun w' n' t' B' R' f o=> ?_⟩;have q:Sp (AX v (S.setNdT a n' t') B' a::Dh v S B a::_) w':=o.slotUpI d e i (Da _ _ _) (Da _ _ _) k
 have r:Sp (CW v (S.setNdT a n' t') B'::AM p (BW v S.made) 104::CI v.np S.net::FI v.op S.onow S.org::F9 v.lp S.log::C0 v.cp v.cdv v.ccv S.c S.cc B S.cd::R') w':=
  q.slotIn g f (fun j b=>⟨rfl,rfl,rfl,Di _ _ _ b,Di _ _ _ b,rfl,Di _ _ _ b⟩)
 have s:=r.push 5;exact(s.pull 4).le (LX f)|>.push 4
end
def hearS (p a:Nat)(v:ClV)(S:Cl)(B B' c:Nat)(b:List Value)(y:Tm)(n':Nd)(M:List Wm)(K:List Rp)(R:List As)(U:Nat→Bool)(X:Nat→Value)(W:World):Prop:=
 Blk W c b 175∧(U 10=false→W.cell? ⟨p,3+a,none⟩=some (Cu (v.nd a)))∧
 (U 9=false→U 10=false→Sp (Bo p v S B++Gs y::AM c b 175::R) W)∧
 (U 9=true→U 10=false→∃d e,X 9=.agg #[d,e]∧Sp (Bo p v (S.setNd a n') B'++Dp d M::Dn e K::Gs y::AM c b 175::R) W)∧
 (U 10=true→Sp (Bo p v {S.setNd a n' with net:=S.net++M,log:=K.foldl (DS S.onow) S.log} B'++Gs y::AM c b 175::R) W)
section
variable {R:List As} {w w':World} {v:ClV} {S:Cl} {B B' a p:Nat} {n n':Nd} {M:List Wm} {K:List Rp}
theorem Ql {y:Tm}{m:Wm}(h:Sp (Bo p v S B++Gs y::R) w)(Z:y.m=wmMs m)(z:m.dst=a)(ha:1≤a∧a≤5)(hn:S.nodes a=some n)(j:B≤B')
  (ad:∀(x:NdP) (W:World) (R':List As),Sp (CJ x n B::Gs y::AF x.cb (S.clk a)::R') W→Calls Tryz.prog 107 #[pr x.nb 0,.agg (Cm y).toArray] W fun e w'=>∃D E,e=.returned (.agg #[D,E])∧Sp (CJ x n' B'::Dp D M::Dn E K::Gs y::AF x.cb (S.clk a)::R') w')
  (hM:∀m∈M,m.Ok) (G:S.net.length+M.length≤300) (hK:Hs S.onow S.log K) (ac:Dm S.log) (hk:K.length≤1000):
  Calls Tryz.prog 78 #[pt p,.agg (Cm y).toArray] w fun e w'=>e=.returned (.tuple #[])∧Sp (Bo p v {S.setNd a n' with net:=S.net++M,log:=K.foldl (DS S.onow) S.log} B'++R) w':=by
 obtain⟨d,N⟩:∃d,d=Cm y:=⟨_,rfl⟩;have Y:Sp (Bo p v S B++Gs y::AM w.heap.size d 175::R) (w.alloc (.cells d.toArray 175)):=(h.alloc d 175).push 7;have ab:=(Y.pull 7).blk;have m2:(w.alloc (.cells d.toArray 175)).cell? ⟨w.heap.size,2,none⟩=some (.int .i64 (m.dst:Int)):=by rw[ab.cell 2,N];simp[Cm,CZ,Z,wmMs]
 rw[z]at m2;have c:=h_9 ad hM G hK ac hk hn ha j;have i:=h_3 N Z z;have H:=h_ Y;have q0:((a:Int)==0)=false:=by simp;omega
 have q1:¬(a:Int)=0:=by omega
 have q2:(a:Int)<6:=by omega
 have q3:a<6:=by omega
 rw[←N];unfold pt;clear h Y ab ad hM G hK ac hk hn ha j N Z z;go_enter Tryz.func78,Tryz.ntmps78;go_wp2_with fail;obtain⟨u,O⟩:∃b,b=w.heap.size:=⟨_,rfl⟩;obtain⟨w1,P⟩:∃w1,w1=w.alloc (.cells d.toArray 175):=⟨_,rfl⟩;rw[←O,←P]at H;rw[←O,←P]at m2;rw[←O,←P];clear O P m2;refine wM (A:=[0,0,0,4,2,18,62,126,0,510,1023]) 1536 [fun _=>pr p 0,fun _=>pr p 0,fun _=>pr u 2,fun _=> .int .i64 (a:Int),fun _=>pr p 0,fun _=>pr p 3,fun _=>pr p (3+a),fun _=>Cu (v.nd a),fun _=> .agg d.toArray,fun _=>undef,fun _=>undef] (hearS p a v S B B' u d y n' M K R) ?start (.s ?m0<|.s ?m1<|.s ?m2<|.s ?m3<|.s ?m4<|.s ?m5<|.s ?m6<|.s ?m7<|.s ?m8<|.t ?m9<|.t ?m10<|.nil) ?fin
 case start=>intro X;exact⟨(H.out.pull 7).blk.drew,fun _=>by rw[H.out.blk.drew.cell];exact Gd v _ c.out.2.2.2.2.2.2.2.1,fun _ _=>H.out.drew,(fun h=>by cases h),(fun h=>by cases h)⟩
 case fin=>
  intro U X w7 f z;have h7:=f.2.2.2.2 (z 10 (by decide) (by decide));have H7:=h_ h7;clear f z h7;simp[Al,Act.put,FK,Ab];go_wp2_with fail
  first
   |go_end0
   |refine Be (v:= .tuple #[]) (Cx rfl _ _ _) rfl ?_
  exact⟨rfl,(((H7.out.pull 6).drop).pull 6).drop⟩
 case' m9|m10=>
  intro U X xv W f G r o F C k B j K' q;have g:=h_ f;have m2:W.cell? ⟨u,2,none⟩=some (.int .i64 (a:Int)):=by rw[f.1.cell 2,i.out.1];simp[Cm,CZ,i.out.2.1,wmMs,i.out.2.2]
  clear f;simp[mV,mY,Ab]at F;simp only[Al,Act.put,A8,A7,A6,F]at j;subst j
 case m9=>
  have Q:U 10=false:=k 10 (by decide);clear r o C k m2;have h0:=g.out.2.2.1 G Q;obtain⟨x,e1,e2,I,aa⟩:=h0.ndOut c.out.2.2.2.2.2.2.2.1 c.out.2.2.2.2.2.2.1;have hs:=c.out.1 x W _ ((I.pull 8).push 1);rw[←i.out.1]at hs;have ep:Cu (v.nd a)=pr x.nb 0:=by rw[e1];rfl
  have T:=h_2 aa ep;clear h0 I aa ep e1 e2;go_simp;rw[T.out.2];refine hs.mono ?_;rintro e w3 ⟨D,E,rfl,J⟩;have L:=T.out.1 w3 n' (S.clk a) B' (Dp D M::Dn E K::Gs y::AM u d 175::R) c.out.2.2.2.2.2.2.2.2 (J.sel (l:=[_,_,_,_,_,_,_,_,_,_,_,_]) [0,4,5,6,7,8,9,10,1,2,3,11] 12 rfl rfl);rw[YC]at L;rw[←T.out.2];go_simp;exact q _ _ _ rfl ⟨(L.pull 9).blk,fun _=>by rw[L.blk.cell];exact Gd v _ c.out.2.2.2.2.2.2.2.1,fun h=>by simp[upd]at h,fun _ _=>⟨D,E,Bh _ _ _,L⟩,fun h=>by simp[upd,Q]at h⟩
 case m10=>have u9:U 9=true:=o 9 (by decide);have V:=r 9 u9;clear r o C k m2;obtain⟨D,E,g1,I⟩:=g.out.2.2.2.1 u9 G;rw[g1]at V;simp only[←V]at q⊢;clear V;have hc:=J6 I c.out.2.1 c.out.2.2.1 c.out.2.2.2.1 c.out.2.2.2.2.1 c.out.2.2.2.2.2.1;unfold pt at hc;go_simp;refine hc.mono ?_;rintro e w3 ⟨rfl,J⟩;go_simp;exact q _ _ _ rfl ⟨(J.pull 7).blk,fun h=>by simp[upd]at h,fun _ h=>by simp[upd]at h,fun _ h=>by simp[upd]at h,fun _=>J⟩
 all_goals
  intro U X xv W f r o F C k B j K' q;have g:=h_ f;have m2:W.cell? ⟨u,2,none⟩=some (.int .i64 (a:Int)):=by rw[f.1.cell 2,i.out.1];simp[Cm,CZ,i.out.2.1,wmMs,i.out.2.2]
  clear f;simp[mV,mY,Ab]at F;simp only[Al,Act.put,A8,A7,A6,F]at j;subst j
 case m7=>have Q:U 10=false:=k 10 (by decide);clear r o C k;have c3:W.cell? ⟨p,3+a,none⟩=some (Cu (v.nd a)):=g.out.2.1 Q;unfold Cu at*;go_simp;exact q _ _ _ rfl rfl g.out
 case m8=>clear r o C k;refine Cb 175 _ rfl u (by rfl) 175 d.toArray (0,0) _ g.out.1 AV rfl (by rw[i.out.1];exact C4) (by rfl) ?_;exact q _ _ _ rfl rfl g.out
 all_goals clear r o C k;go_simp;exact q _ _ _ rfl rfl g.out
end
theorem UE {w:World}(m:Ms)(a b f d:Value):Calls Tryz.prog 106 #[.pointer none,Yi m a b f d] w fun e w'=>e=.returned (.slice none 0 0)∧Keep [] w w':=by go_enter Tryz.func106,Tryz.ntmps106;go_wp2;go_ret;exact⟨rfl,(By [] w).alloc _⟩
def hear0S (p:Nat)(v:ClV)(S f:Cl)(B B' e:Nat)(d:List Value)(y:Tm)(M:List Wm)(R:List As)(U:Nat→Bool)(X:Nat→Value)(W:World):Prop:=
 Blk W e d 175∧Blk W p (BW v S.made) 104∧
 (U 9=false→U 10=false→Sp (Bo p v S B++Gs y::AM e d 175::R) W)∧
 (U 9=true→U 10=false→∃(a:Option Addr) (c:Nat) (b:List Tm),X 9=.slice a b.length c∧(∀z∈b,TmOk W z)∧b.map (·.m)=M.map wmMs∧Sp (Bo p v f B'++BF 175 21 (X 9) b.length (tc b)::Gs y::AM e d 175::R) W)∧
 (U 10=true→Sp (Bo p v {f with net:=S.net++M} B'++Gs y::AM e d 175::R) W)
section
variable {R:List As} {w w':World} {v:ClV} {S:Cl} {B B' p:Nat} {c c':Au} {M:List Wm}
theorem Sp.auOut (h:Sp (Bo p v S B++R) w)(j:S.c=some c):∃b,v.cp=some b∧Sp (Ni ⟨b,v.ccv,v.cdv⟩ c B::AF v.ccv S.cc::AM p (BW v S.made) 104::CI v.np S.net::FI v.op S.onow S.org::F9 v.lp S.log::CW v S B::R) w∧
  ∀(w':World) (c':Au) (t' B':Nat) (d:List As),B≤B'→Sp (Ni ⟨b,v.ccv,v.cdv⟩ c' B'::AF v.ccv t'::AM p (BW v S.made) 104::CI v.np S.net::FI v.op S.onow S.org::F9 v.lp S.log::CW v S B::d) w'→Sp (Bo p v {S.setAu c' with cc:=t'} B'++d) w':=by
 have a:Sp (C0 v.cp v.cdv v.ccv S.c S.cc B S.cd::AM p (BW v S.made) 104::CI v.np S.net::FI v.op S.onow S.org::F9 v.lp S.log::CW v S B::R) w:=h.pull 4;unfold C0 at a;rw[j]at a
 cases e:v.cp with
 |none=>rw[e]at a;obtain⟨F,hF,_⟩:=a.one;exact hF.elim
 |some b=>
  rw[e]at a;refine⟨b,rfl,a.open_,fun w' c' t' B' d i f=> ?_⟩
  have g:Sp (C0 v.cp v.cdv v.ccv (some c') t' B' (c'.epoch,c'.top,c'.mem)::AM p (BW v S.made) 104::CI v.np S.net::FI v.op S.onow S.org::F9 v.lp S.log::CW v S B::d) w':=by unfold C0;rw[e];exact DV [_,_] f
  exact(((g.pull 5).le (M9 i)).push 5).push 4
theorem Sp.auDown (h:Sp (Bo p v S B++R) w)(b:S.c=none):v.cp=none:=by
 have a:Sp (C0 v.cp v.cdv v.ccv S.c S.cc B S.cd::_) w:=h.pull 4;unfold C0 at a;rw[b]at a
 cases d:v.cp with
 |none=>rfl
 |some cp=>rw[d]at a;obtain⟨F,hF,_⟩:=a.one;exact hF.elim
theorem Qm {y:Tm}{m:Wm}(h:Sp (Bo p v S B++Gs y::R) w)(hy:y.m=wmMs m)(r:m.dst=0)(N:S.c=some c)(g:B≤B')
  (ad:∀(x:CtP) (W:World) (R':List As),Sp (Ni x c B::AF x.kb S.cc::Gs y::R') W→Calls Tryz.prog 106 #[pr x.c 0,.agg (Cm y).toArray] W fun e w'=>∃u f,e=.returned u∧(∀z∈f,TmOk w' z)∧f.map (·.m)=M.map wmMs∧Sp (BF 175 21 u f.length (tc f)::Ni x c' B'::AF x.kb S.cc::Gs y::R') w')
  (hM:∀m∈M,m.Ok) (I:S.net.length+M.length≤300):
  Calls Tryz.prog 78 #[pt p,.agg (Cm y).toArray] w fun e w'=>e=.returned (.tuple #[])∧Sp (Bo p v {S.setAu c' with net:=S.net++M} B'++R) w':=by
 obtain⟨a,K⟩:∃a,a=Cm y:=⟨_,rfl⟩;have Y:Sp (Bo p v S B++Gs y::AM w.heap.size a 175::R) (w.alloc (.cells a.toArray 175)):=(h.alloc a 175).push 7;have ac:=(Y.pull 7).blk;have m2:(w.alloc (.cells a.toArray 175)).cell? ⟨w.heap.size,2,none⟩=some (.int .i64 0):=by rw[ac.cell 2,K];simp[Cm,CZ,hy,wmMs,r]
 have D:=h_5 ad hM I N g;have HY:=h_3 K hy r;have J:=h_ Y;rw[←K];unfold pt;clear h Y ac ad hM I N g K hy r;go_enter Tryz.func78,Tryz.ntmps78;go_wp2_with fail;obtain⟨E,L⟩:∃b,b=w.heap.size:=⟨_,rfl⟩;obtain⟨w1,O⟩:∃w1,w1=w.alloc (.cells a.toArray 175):=⟨_,rfl⟩;rw[←L,←O]at J;rw[←L,←O]at m2;rw[←L,←O];clear L O m2;refine wM (A:=[0,1,3,7,0,16,48,112,0,496,1023]) 1536 [fun _=>pr p 0,fun _=>pr p 0,fun _=>pr p 27,fun _=>pr v.np 0,fun _=>pr p 0,fun _=>pr p 0,fun _=>pr p 0,fun _=>Cu v.cp,fun _=> .agg a.toArray,fun _=>undef,fun _=>undef] (hear0S p v S (S.setAu c') B B' E a y M R) ?start (.s ?m0<|.s ?m1<|.s ?m2<|.s ?m3<|.s ?m4<|.s ?m5<|.s ?m6<|.s ?m7<|.s ?m8<|.t ?m9<|.t ?m10<|.nil) ?fin
 case start=>intro X;exact⟨(J.out.pull 7).blk.drew,J.out.blk.drew,fun _ _=>J.out.drew,(fun h=>by cases h),(fun h=>by cases h)⟩
 case fin=>
  intro U X w7 d r;have h7:=d.2.2.2.2 (r 10 (by decide) (by decide));have H7:=h_ h7;clear d r h7;simp[Al,Act.put,FK,Ab];go_wp2_with fail
  first
   |go_end0
   |refine Be (v:= .tuple #[]) (Cx rfl _ _ _) rfl ?_
  exact⟨rfl,(((H7.out.pull 6).drop).pull 6).drop⟩
 case' m9|m10=>intro U X xv W d I o j H C n B g K' k;have i:=h_ d;have T:W.cell? ⟨p,0,none⟩=some (Cu v.cp):=d.2.1.cell 0;have c27:W.cell? ⟨p,27,none⟩=some (pr v.np 0):=d.2.1.cell 27;clear d;simp[mV,mY,Ab]at H;simp only[Al,Act.put,A8,A7,A6,H]at g;subst g
 case m9=>
  have af:U 10=false:=n 10 (by decide);clear o j C n T c27;have h0:=i.out.2.2.1 I af;obtain⟨cp,e1,F,ab⟩:=h0.auOut D.out.2.2.2.1;have hs:=D.out.1 ⟨cp,v.ccv,v.cdv⟩ W _ ((F.pull 7).push 2);rw[←HY.out.1]at hs;have ep:Cu v.cp=pr cp 0:=by rw[e1];rfl
  have Q:=h_2 ab ep;clear h0 F ab ep e1;go_simp;rw[Q.out.2];refine hs.mono ?_;rintro e P ⟨u,f,rfl,hT,aa,G⟩;have hu:=G.row;obtain⟨ua,uc,ae⟩:=A4 hu;have q:=Q.out.1 P c' S.cc B' (BF 175 21 u f.length (tc f)::Gs y::AM E a 175::R) D.out.2.2.2.2 (G.sel (l:=[_,_,_,_,_,_,_,_,_,_]) [1,2,4,5,6,7,8,0,3,9] 10 rfl rfl);have Z:Sp (Bo p v (S.setAu c') B'++BF 175 21 u f.length (tc f)::Gs y::AM E a 175::R) P:=q;have ag:=h_ ae;clear G q hu ae;rw[←Q.out.2];go_simp;exact k _ _ _ rfl ⟨(Z.pull 8).blk,Z.blk,fun h=>by simp[upd]at h,fun _ _=>⟨ua,uc,f,by rw[Bh];exact ag.out,hT,aa,by rw[Bh];exact Z⟩,fun h=>by simp[upd,af]at h⟩
 case m10=>have u9:U 9=true:=j 9 (by decide);have V:=o 9 u9;clear o j C n T c27;obtain⟨ua,uc,f,g1,hT,aa,F⟩:=i.out.2.2.2.1 u9 I;rw[g1]at V F;simp only[←V]at k⊢;clear V;have N:=NK (M:=M) ((F.pull 6).pull 2) hT aa D.out.2.1 D.out.2.2.1;go_simp;refine N.mono ?_;rintro e P ⟨rfl,G⟩;have q:Sp (Bo p v {S.setAu c' with net:=S.net++M} B'++Gs y::AM E a 175::R) P:=G.push 1;go_simp;exact k _ _ _ rfl ⟨(q.pull 7).blk,q.blk,fun _ h=>by simp[upd]at h,fun _ h=>by simp[upd]at h,fun _=>q⟩
 all_goals intro U X xv W d o j H C n B g K' k;have i:=h_ d;have T:W.cell? ⟨p,0,none⟩=some (Cu v.cp):=d.2.1.cell 0;have c27:W.cell? ⟨p,27,none⟩=some (pr v.np 0):=d.2.1.cell 27;clear d;simp[mV,mY,Ab]at H;simp only[Al,Act.put,A8,A7,A6,H]at g;subst g
 case m7=>clear o j C n;unfold Cu at*;go_simp;exact k _ _ _ rfl rfl i.out
 case m8=>clear o j C n;refine Cb 175 _ rfl E (by rfl) 175 a.toArray (0,0) _ i.out.1 AV rfl (by rw[HY.out.1];exact C4) (by rfl) ?_;exact k _ _ _ rfl rfl i.out
 all_goals clear o j C n;go_simp;exact k _ _ _ rfl rfl i.out
theorem Mz {y:Tm}{m:Wm}(h:Sp (Bo p v S B++Gs y::R) w)(t:y.m=wmMs m)(g:m.dst=0)(H:S.c=none)(J:S.net.length≤300):
  Calls Tryz.prog 78 #[pt p,.agg (Cm y).toArray] w fun e w'=>e=.returned (.tuple #[])∧Sp (Bo p v S B++R) w':=by
 obtain⟨a,k⟩:∃a,a=Cm y:=⟨_,rfl⟩;have r:Sp (Bo p v S B++Gs y::AM w.heap.size a 175::R) (w.alloc (.cells a.toArray 175)):=(h.alloc a 175).push 7;have G:=(r.pull 7).blk;have m2:(w.alloc (.cells a.toArray 175)).cell? ⟨w.heap.size,2,none⟩=some (.int .i64 0):=by rw[G.cell 2,k];simp[Cm,CZ,t,wmMs,g]
 have x:=h_2 J (h.auDown H);have z:=h_3 k t g;have u:=h_ r;rw[←k];unfold pt;clear h r G H k t g J;go_enter Tryz.func78,Tryz.ntmps78;go_wp2_with fail;obtain⟨C,n⟩:∃b,b=w.heap.size:=⟨_,rfl⟩;obtain⟨K,q⟩:∃K,K=w.alloc (.cells a.toArray 175):=⟨_,rfl⟩;rw[←n,←q]at u;rw[←n,←q]at m2;rw[←n,←q];clear n q m2;refine wK (A:=[0,1,3,7,0,16,48,112,0,496,1023]) 0 [pr p 0,pr p 0,pr p 27,pr v.np 0,pr p 0,pr p 0,pr p 0,.pointer none,.agg a.toArray,.slice none 0 0,.int .i64 0] (fun _ W=>Sp (Bo p v S B++Gs y::AM C a 175::R) W) ?mstart (.s ?m0<|.s ?m1<|.s ?m2<|.s ?m3<|.s ?m4<|.s ?m5<|.s ?m6<|.s ?m7<|.s ?m8<|.s ?m9<|.s ?m10<|.nil) ?mfin
 case mstart=>exact u.out.drew
 case mfin=>
  intro L V d g;have N:=h_ d;clear d g;simp[Al,Act.put];go_wp2_with fail
  first
   |go_end0
   |refine Be (v:= .tuple #[]) (Cx rfl _ _ _) rfl ?_
  exact⟨rfl,(((N.out.pull 6).drop).pull 6).drop⟩
 all_goals
  intro L X W d i o l I b F U j;have f:=h_ d;have D:W.cell? ⟨p,0,none⟩=some (.pointer none):=by rw[d.blk.cell];show some (Cu v.cp)=_;rw[x.out.2];rfl
  have c27:W.cell? ⟨p,27,none⟩=some (pr v.np 0):=d.blk.cell 27;clear d;simp at I;simp only[Al,Act.put,A8,A7,A6,I]at F;subst F
 case m8=>clear i o l;refine Cb 175 _ rfl C (by rfl) 175 a.toArray (0,0) _ (f.out.pull 7).blk AV rfl (by rw[z.out.1];exact C4) (by rfl) ?_;exact j _ _ rfl f.out
 case m9=>
  clear i o l;go_simp;clear D c27;have O:=UE (w:=W) y.m (.slice none 0 0) (.slice none 0 0) y.vm y.vo;have P:Calls Tryz.prog 106 #[.pointer none,.agg a.toArray] W fun e w'=>e=.returned (.slice none 0 0)∧Keep [] W w':=by rw[z.out.1];exact O
  refine P.mono ?_;rintro e T ⟨rfl,Q⟩;go_simp;exact j _ _ rfl (f.out.still Q)
 case m10=>clear i o l;go_simp;clear D c27;refine(Ja (M:=[]) ((f.out.noMsgs.push 1).pull 1|>.push 0|>fun h=>((f.out.pull 1).noMsgs.push 1)) (by simp) (by simp;exact x.out.1)).mono ?_;rintro e T ⟨rfl,E⟩;rw[AE]at E;go_simp;exact j _ _ rfl (E.push 1)
 all_goals clear i o l;go_simp;exact j _ _ rfl f.out
end
theorem Pu {w:World}:Calls Tryz.prog 91 #[.pointer none] w fun e w'=>e=.returned (.agg #[.slice none 0 0,.slice none 0 0])∧Keep [] w w':=by
 have f:Blk (w.alloc (.cells #[.slice none 0 0,.slice none 0 0] 69)) w.heap.size [.slice none 0 0,.slice none 0 0] 69:=BY w _ _;have i:Keep [] w (w.alloc (.cells #[.slice none 0 0,.slice none 0 0] 69)):=(By _ _).alloc _;have k:∀W:World,(Instr.build 69 #[]).run Tryz.prog W=.ok (.agg #[.slice none 0 0,.slice none 0 0]) W:=fun W=>DD W _ _ _ (by rfl)
 have H:=h_2 f i;clear f i;go_enter Tryz.func91,Tryz.ntmps91
 go_wp2_with (refine AS rfl _ _ _ rfl w.heap.size [.slice none 0 0,.slice none 0 0] [.slice none 0 0,.slice none 0 0] 69 rfl rfl H.out.1 rfl Ys (by intro v h;simp at h;rw[h];rfl) ?_;intro m d j)
 refine Be (v:= .agg #[.slice none 0 0,.slice none 0 0]) ?_ rfl ⟨rfl,H.out.2.then j (fun q g l=>by simp only[Ah]at g;subst g;omega)⟩;have b:=d.cell 0;have c:=d.cell 1;simp only[List.getElem?_cons_zero,List.getElem?_cons_succ]at b c;simp[results,Tryz.results91,go_sem,b,c]
theorem Sp.noReps {R:List As}{w:World}(h:Sp R w):Sp (Dn (.slice none 0 0) []::R) w:=h.nilRow _ _
section
variable {R:List As} {w w':World} {v:ClV} {S:Cl} {B B' a p:Nat} {n n':Nd} {M:List Wm} {K:List Rp}
theorem Sp.clkFacts (h:Sp (Bo p v S B++R) w)(b:1≤a∧a≤5):w.cell? ⟨p,3+a,none⟩=some (Cu (v.nd a))∧w.cell? ⟨p,15+a,none⟩=some (pt (v.ck a)):=
 ⟨by rw[h.blk.cell];exact Gd v _ b,by rw[h.blk.cell];exact B5 v _ b⟩
theorem RS (h:Sp (Bo p v S B++R) w)(d:1≤a∧a≤5)(J:S.nodes a=some n)(A:B≤B')(P:S.clk a<1000000)
  (F:∀(x:NdP) (W:World) (t:List As),Sp (CJ x n B::AF x.cb (S.clk a+1)::t) W→Calls Tryz.prog 91 #[pr x.nb 0] W fun e w'=>∃f g,e=.returned (.agg #[f,g])∧Sp (CJ x n' B'::Dp f M::Dn g K::AF x.cb (S.clk a+1)::t) w')
  (D:∀m∈M,m.Ok) (H:S.net.length+M.length≤300) (C:Hs S.onow S.log K) (I:Dm S.log) (G:K.length≤1000):
  Calls Tryz.prog 69 #[pt p,.int .i64 (a:Int)] w fun e w'=>e=.returned (.int .i64 0)∧Sp (Bo p v {S.setNdT a n' (S.clk a+1)with net:=S.net++M,log:=K.foldl (DS S.onow) S.log} B'++R) w':=by
 obtain⟨x,i,j,c,E⟩:=h.ndOut d J;obtain⟨c3,c15⟩:=h.clkFacts d;rw[i]at c3;rw[←j]at c15;have O:w.cell? ⟨p,15+a,none⟩=some (pr x.cb 0):=c15;have T:¬(a:Int)<0:=by omega
 have U:¬(5:Int)<(a:Int):=by omega
 have V:((a:Int)==0)=false:=by simp;omega
 have X:¬(a:Int)=0:=by omega
 have Y:(a:Int)<6:=by omega
 have Z:a<6:=by omega
 have s:=h_ (FP (c.pull 1) (by omega));have b:=h_ (Aa F (Aa D (Aa H (Aa C (Aa I (Aa G (Aa A (Aa d (Aa E (Aa i j))))))))));unfold pt;clear h c E c3 c15 i j F D H C I G A d P J;go_enter Tryz.func69,Tryz.ntmps69;go_wp2_with fail;refine s.out.mono ?_;rintro e o ⟨rfl,c⟩;have L:Blk o p (BW v S.made) 104:=(c.pull 3).blk
 have c3:o.cell? ⟨p,3+a,none⟩=some (pr x.nb 0):=by rw[L.cell,Gd v _ b.out.2.2.2.2.2.2.2.1,b.out.2.2.2.2.2.2.2.2.2.1];rfl
 have q:=h_ (b.out.1 x o _ (c.push 1));clear s c L O;go_wp2_with fail;refine q.out.mono ?_;rintro e Q ⟨f,g,rfl,u⟩;have y:=b.out.2.2.2.2.2.2.2.2.1 Q n' (S.clk a+1) B' (Dp f M::Dn g K::R) b.out.2.2.2.2.2.2.1 (u.sel (l:=[_,_,_,_,_,_,_,_,_,_]) [0,3,4,5,6,7,8,9,1,2] 10 rfl rfl);have k:=J6 y b.out.2.1 b.out.2.2.1 b.out.2.2.2.1 b.out.2.2.2.2.1 b.out.2.2.2.2.2.1;unfold pt at k;have r:=h_ k;clear u y k q c3;go_wp2_with fail;refine r.out.mono ?_;rintro e w5 ⟨rfl,z⟩;have N:=h_ z;clear z r;go_wp2;go_ret;exact⟨rfl,N.out⟩
theorem Oe (h:Sp (Bo p v S B++R) w)(g:1≤a∧a≤5)(m:S.nodes a=none)(G:S.clk a<1000000)(z:Dm S.log)(y:S.net.length≤300):
  Calls Tryz.prog 69 #[pt p,.int .i64 (a:Int)] w fun e w'=>e=.returned (.int .i64 0)∧Sp (Bo p v {S with clk:=Ej S.clk a (S.clk a+1)} B++R) w':=by
 have t:Sp (CW v S B::AM p (BW v S.made) 104::CI v.np S.net::FI v.op S.onow S.org::F9 v.lp S.log::C0 v.cp v.cdv v.ccv S.c S.cc B S.cd::R) w:=h.pull 5;obtain⟨s,f⟩:=(t.slotOut g).slotDown m;obtain⟨c3,c15⟩:=h.clkFacts g;have C:w.cell? ⟨p,15+a,none⟩=some (pr (v.ck a) 0):=c15;have H:¬(a:Int)<0:=by omega
 have I:¬(5:Int)<(a:Int):=by omega
 have J:((a:Int)==0)=false:=by simp;omega
 have L:¬(a:Int)=0:=by omega
 have N:(a:Int)<6:=by omega
 have O:a<6:=by omega
 have r:=h_ (FP (f.pull 1) (by omega));have b:=h_5 z y g m s;unfold pt;clear h t f c3 c15 z y g G m s;go_enter Tryz.func69,Tryz.ntmps69;go_wp2_with fail;refine r.out.mono ?_;rintro e i ⟨rfl,f⟩
 have u:Sp (AX v {S with clk:=Ej S.clk a (S.clk a+1)} B a::Dh v S B a::AM p (BW v S.made) 104::CI v.np S.net::FI v.op S.onow S.org::F9 v.lp S.log::C0 v.cp v.cdv v.ccv S.c S.cc B S.cd::R) i:=by unfold AX Jq;rw[b.out.2.2.2.2];have F:({S with clk:=Ej S.clk a (S.clk a+1)}:Cl).nodes a=none:=b.out.2.2.2.1;rw[F];show Sp (ED [_,AF (v.ck a) (Ej S.clk a (S.clk a+1) a)]::_) i;rw[Da];exact DV [_,_] (f.push 1)
 have x:=u.slotIn b.out.2.2.1 (Av B) (fun j E=>⟨rfl,rfl,rfl,rfl,Di _ _ _ E,rfl,rfl⟩);have d:Sp (Bo p v {S with clk:=Ej S.clk a (S.clk a+1)} B++R) i:=x.push 5
 have c3:i.cell? ⟨p,3+a,none⟩=some (.pointer none):=by rw[d.blk.cell];have:=Gd v S.made b.out.2.2.1;rw[b.out.2.2.2.2]at this;exact this
 have k:=h_ d;clear r f u x d C;go_wp2_with fail;refine Pu.mono ?_;rintro e P ⟨rfl,o⟩;have l:=J6 (M:=[]) (K:=[]) (((k.out.still o).noReps.noMsgs.push 7).pull 1|>.push 7|>fun _=>((((k.out.still o).noReps).noMsgs.push 7).push 0|>fun _=>(((k.out.still o).noReps.push 6).noMsgs.push 6))) (by simp) (by simpa using b.out.2.1) trivial b.out.1 (by simp);unfold pt at l;have q:=h_ l;clear l c3;go_wp2_with fail;refine q.out.mono ?_;rintro e Q ⟨rfl,d⟩;have A:=h_ d;clear d q;go_wp2;go_ret;refine⟨rfl, ?_⟩;have D:=A.out
 have e:({({S with clk:=Ej S.clk a (S.clk a+1)}:Cl)with net:=S.net++[],log:=([]:List Rp).foldl (DS S.onow) S.log}:Cl)={S with clk:=Ej S.clk a (S.clk a+1)}:=by rw[AE];rfl
 exact e▸D
theorem WD {o:Option Nat}{d k t:Nat}{c:Option Au}{f:Nat×Nat×List Nat}(h:Sp (C0 o d k c t B f::R) w)(i:t<1000000):Calls Tryz.prog 87 #[pr k 0,.slice none 0 0] w fun e w'=>e=.returned (.int .i64 ((t+1:Nat):Int))∧Sp (C0 o d k c (t+1) B f::R) w':=by
 cases o with
 |none=>
  cases c with
  |none=>refine(FP ((Sp.open_ (l:=[_,_]) h).pull 1) (by omega)).mono ?_;rintro e g ⟨rfl,b⟩;exact⟨rfl,DV [_,_] (b.push 1)⟩
  |some c=>obtain⟨F,hF,_⟩:=h.one;exact hF.elim
 |some cp=>
  cases c with
  |none=>obtain⟨F,hF,_⟩:=h.one;exact hF.elim
  |some c=>refine(FP ((Sp.open_ (l:=[_,_]) h).pull 1) (by omega)).mono ?_;rintro e g ⟨rfl,b⟩;exact⟨rfl,DV [_,_] (b.push 1)⟩
theorem WE {o:Option Nat}{d k t:Nat}{c:Option Au}{b:Nat×Nat×List Nat}(h:Sp (C0 o d k c t B b::R) w)(f:∀a,c=some a→a.num=0):Calls Tryz.prog 89 #[Cu o] w fun e w'=>e=.returned (.slice none 0 0)∧w'=w:=by
 cases o with
 |none=>
  cases c with
  |none=>exact Wa WQ
  |some c=>obtain⟨F,hF,_⟩:=h.one;exact hF.elim
 |some cp=>
  cases c with
  |none=>obtain⟨F,hF,_⟩:=h.one;exact hF.elim
  |some c=>exact Od (x:=⟨cp,k,d⟩) (a:=c) (B:=B) (R:=AF k t::R) (Sp.open_ (l:=[Ni ⟨cp,k,d⟩ c B,AF k t]) h) (f c rfl)
theorem RT (h:Sp (Bo p v S B++R) w)(z:∀c,S.c=some c→c.num=0)(F:S.cc<1000000)(D:S.net.length≤300):
  Calls Tryz.prog 69 #[pt p,.int .i64 0] w fun e w'=>e=.returned (.int .i64 0)∧Sp (Bo p v {S with cc:=S.cc+1} B++R) w':=by
 have c2:w.cell? ⟨p,2,none⟩=some (pr v.ccv 0):=h.blk.cell 2;have t:Sp (C0 v.cp v.cdv v.ccv S.c S.cc B S.cd::AM p (BW v S.made) 104::CI v.np S.net::FI v.op S.onow S.org::F9 v.lp S.log::CW v S B::R) w:=h.pull 4
 have o:Hid (Calls Tryz.prog 87 #[pr v.ccv 0,.slice none 0 0] w fun e w'=>e=.returned (.int .i64 ((S.cc+1:Nat):Int))∧Sp (Bo p v {S with cc:=S.cc+1} B++R) w'):=by refine h_ ?_;refine(WD t F).mono ?_;rintro e Q ⟨rfl,g⟩;exact⟨rfl,g.push 4⟩
 have J:∀W q,Sp (Bo p v {S with cc:=S.cc+1} B++q) W→Hid (Calls Tryz.prog 89 #[Cu v.cp] W fun e w'=>e=.returned (.slice none 0 0)∧w'=W):=fun W q O=>h_ (WE (O.pull 4) z)
 have N:=h_ D;unfold pt;clear h t z F D;go_enter Tryz.func69,Tryz.ntmps69;go_wp2_with fail;refine o.out.mono ?_;rintro e Q ⟨rfl,g⟩;have H:=h_ g;clear o g c2;obtain⟨G,E⟩:∃a,Cu v.cp=.pointer a:=⟨_,rfl⟩;have m:=h_ E;clear E;go_wp2_with fail;refine wK (A:=[0,1,3,7,0,16,48,112,240,511]) 0 [pr p 0,pr p 0,pr p 27,pr v.np 0,pr p 0,pr p 0,pr p 0,.pointer G,.slice none 0 0,.int .i64 0] (fun _ W=>Sp (Bo p v {S with cc:=S.cc+1} B++R) W) ?mstart (.s ?m0<|.s ?m1<|.s ?m2<|.s ?m3<|.s ?m4<|.s ?m5<|.s ?m6<|.s ?m7<|.s ?m8<|.s ?m9<|.nil) ?mfin
 case mstart=>exact H.out.drew
 case mfin=>intro L V d P;have I:=h_ d;clear d P;simp[Al,Act.put];go_wp2;go_ret;exact⟨rfl,I.out⟩
 all_goals
  intro L X W d i l k C b x U j;have f:=h_ d;have r:W.cell? ⟨p,0,none⟩=some (.pointer G):=by rw[←m.out];exact d.blk.cell 0
  have c27:W.cell? ⟨p,27,none⟩=some (pr v.np 0):=d.blk.cell 27;clear d;simp at C;simp only[Al,Act.put,A8,A7,A6,C]at x;subst x
 case m8=>clear i l k;go_simp;clear r c27;have y:=(J W R f.out).out;rw[m.out]at y;refine y.mono ?_;rintro e T ⟨rfl,rfl⟩;go_simp;exact j _ _ rfl f.out
 case m9=>clear i l k;go_simp;clear r c27;refine(Ja (M:=[]) (((f.out.pull 1).noMsgs.push 1)) (by simp) (by simp;exact N.out)).mono ?_;rintro e T ⟨rfl,u⟩;rw[AE]at u;go_simp;exact j _ _ rfl (u.push 1)
 all_goals clear i l k;go_simp;exact j _ _ rfl f.out
end
def BC (b a n:Nat)(key val:Str)(on:Bool)(kv:Value):List Value:=[.int .i64 (b:Int),.int .i64 (a:Int),.int .i64 (n:Int),.string key,.string val,.bool on,kv]
def En (v:Value)(i:Nat):Value:=match v with
 | .tuple a=>a.getD i undef
 |_=>undef
def Ia (u:Bool)(A:As):As:=if u then A else ED []
theorem Sp.nilA {R:List As}{w:World}(h:Sp R w):Sp (ED []::R) w:=DV [] h
def QH:List Value:=[.int .i64 0,.int .i64 0,.int .i64 0,.int .i64 0,.int .i64 0,.int .i64 0,.int .i64 0,.int .i64 0,.int .i64 0,.string ⟨#[]⟩,.int .i64 0,.bool false,.string ⟨#[]⟩,.string ⟨#[]⟩,.int .i64 0,.bool false,.slice none 0 0,.slice none 0 0,.slice none 0 0,.int .i64 0,.slice none 0 0]
def mailS (p:Nat)(v:ClV)(S:Cl)(B c:Nat)(s:List Value)(m:Wm)(R:List As)(U:Nat→Bool)(X:Nat→Value)(W:World):Prop:=
 ∃(y:Tm) (b:Nat),(U 6=true→X 6=.tuple #[.agg (Cm y).toArray,.bool true]∧y.m=wmMs m)∧(U 10=true→X 10=pr b 0)∧Sp (Bo p v S B++Ia (U 6) (Gs y)::Ia (U 10) (AM b (if U 11 then Cm y else QH) 175)::AM c s 39::R) W
section
variable {R:List As} {w w':World} {v:ClV} {S S':Cl} {B B' a p i an:Nat} {m:Wm} {key val:Str} {on:Bool} {kv:Value}
theorem XG (h:Sp (Bo p v S B++R) w)(hm:S.net[i]?=some m)
  (hh:∀(y:Tm) (W:World) (R':List As),y.m=wmMs m→Sp (Bo p v (S.drop i) B++Gs y::R') W→Calls Tryz.prog 78 #[pt p,.agg (Cm y).toArray] W fun e w'=>e=.returned (.tuple #[])∧Sp (Bo p v S' B'++R') w'):
  Calls Tryz.prog 70 #[pt p,.agg (BC 2 an i key val on kv).toArray] w fun e w'=>e=.returned (.int .i64 0)∧Sp (Bo p v S' B'++R) w':=by
 obtain⟨s,N⟩:∃s,s=BC 2 an i key val on kv:=⟨_,rfl⟩;have k:Sp (Bo p v S B++AM w.heap.size s 39::R) (w.alloc (.cells s.toArray 39)):=(h.alloc s 39).push 6;have P:=h_ k;have z:=h_3 hm hh N;rw[←N];unfold pt;clear h k hm hh N;go_enter Tryz.func70,Tryz.ntmps70;go_wp2_with fail;obtain⟨j,ag⟩:∃b,b=w.heap.size:=⟨_,rfl⟩;obtain⟨w1,ah⟩:∃w1,w1=w.alloc (.cells s.toArray 39):=⟨_,rfl⟩;rw[←ag,←ah]at P;rw[←ag,←ah];clear ag ah;refine wM (A:=[0,1,3,7,0,16,63,127,255,255,0,1535,4095]) 3136 [fun _=>pr p 0,fun _=>pr p 0,fun _=>pr p 27,fun _=>pr v.np 0,fun _=>pr j 2,fun _=> .int .i64 (i:Int),fun _=>undef,fun y=>y 6,fun y=>En (y 6) 0,fun y=>En (y 6) 1,fun _=>undef,fun _=>undef,fun y=>En (y 6) 1] (mailS p v S B j s m R) ?start (.s ?m0<|.s ?m1<|.s ?m2<|.s ?m3<|.s ?m4<|.s ?m5<|.t ?m6<|.s ?m7<|.s ?m8<|.s ?m9<|.t ?m10<|.t ?m11<|.s ?m12<|.nil) ?fin
 case start=>intro X;exact⟨⟨wmMs m,undef,undef⟩,0,(fun h=>by cases h),(fun h=>by cases h),((P.out.drew.nilA.push 6).nilA.push 6)⟩
 case fin=>
  intro U X w7 g hd;have h6:=hd 6 (by decide) (by decide);have af:=hd 10 (by decide) (by decide);have aj:=hd 11 (by decide) (by decide);obtain⟨y,b,f,d,c⟩:=g;obtain⟨f,hy⟩:=f h6;have d:=d af;rw[h6,af,aj]at c;have k:Sp (Bo p v S B++Gs y::AM b (Cm y) 175::AM j s 39::R) w7:=c;clear hd c h6 af aj P;have N:=(k.pull 8).blk;have s0:w7.cell? ⟨j,0,none⟩=some (.int .i64 2):=by rw[N.cell,z.out.2.2];rfl
  have K:w7.cell? ⟨j,2,none⟩=some (.int .i64 (i:Int)):=by rw[N.cell,z.out.2.2];rfl
  have c27:w7.cell? ⟨p,27,none⟩=some (pr v.np 0):=k.blk.cell 27;have al:i<S.net.length:=(Ai.1 z.out.1).1;have HD:=h_ (Rr (k.drew.pull 1) i al);have HY:=h_ hy;clear k N al hy;simp[Al,Act.put,FK,Ab,f,d,En];clear f d;go_wp2_with fail;refine BJ 6 (by kernel_rfl) (by kernel_rfl) ?_;simp only[List.take_succ_cons,List.take_zero,BB,Bj]
  repeat still_step
  refine Du ?_;clear s0 K c27;go_wp2_with fail;refine HD.out.mono ?_;rintro e w8 ⟨rfl,h8⟩;have M:Sp (Bo p v (S.drop i) B++Gs y::AM b (Cm y) 175::AM j s 39::R) w8:=h8.push 1;have s0:w8.cell? ⟨j,0,none⟩=some (.int .i64 2):=by rw[(M.pull 8).blk.cell,z.out.2.2];rfl
  have H9:=h_ M;have HM:=h_ (M.pull 7).blk;clear h8 M HD
  go_wp2_with (refine BA 175 _ rfl b rfl 175 (Cm y).toArray (0,0) _ HM.out AV rfl C4 (by rfl) ?_)
  have hc:=z.out.2.1 y w8 _ HY.out H9.out;unfold pt at hc;refine hc.mono ?_;rintro e w9 ⟨rfl,M⟩;have ap:=h_ (((M.pull 6).drop.pull 6).drop);clear M hc H9 HM s0;go_wp2;go_ret;exact⟨rfl,ap.out⟩
 case m8=>
  intro U X O W g o n x G u B r K' E;have Q:=g;have q:U 6=true:=n 6 (by decide);have C:=o 6 q;obtain⟨y1,b1,Z,ab,ac⟩:=g;rw[(Z q).1]at C;clear Z ab ac q;have g:=Q;clear Q;clear o n G u;have D:=h_ g;obtain⟨y,b,f,d,c⟩:=g;have c27:W.cell? ⟨p,27,none⟩=some (pr v.np 0):=c.blk.cell 27;have K:W.cell? ⟨j,2,none⟩=some (.int .i64 (i:Int)):=by rw[(c.pull 8).blk.cell,z.out.2.2];rfl
  clear c f d y b;simp[mV,mY,Ab]at x;simp only[Al,Act.put,A8,A7,A6,x]at r;subst r;have L:=h_ C.symm;clear C;go_simp;rw[L.out];go_simp;exact E (.agg (Cm y1).toArray) _ _ (show .agg (Cm y1).toArray =En (O 6) 0 by rw[L.out];rfl) (by rw[L.out];first|done|rfl) D.out
 case m9=>
  intro U X O W g o n x G u B r K' E;have Q:=g;have q:U 6=true:=n 6 (by decide);have C:=o 6 q;obtain⟨y1,b1,Z,ab,ac⟩:=g;rw[(Z q).1]at C;clear Z ab ac q;have g:=Q;clear Q;clear o n G u;have D:=h_ g;obtain⟨y,b,f,d,c⟩:=g;have c27:W.cell? ⟨p,27,none⟩=some (pr v.np 0):=c.blk.cell 27;have K:W.cell? ⟨j,2,none⟩=some (.int .i64 (i:Int)):=by rw[(c.pull 8).blk.cell,z.out.2.2];rfl
  clear c f d y b;simp[mV,mY,Ab]at x;simp only[Al,Act.put,A8,A7,A6,x]at r;subst r;have L:=h_ C.symm;clear C;go_simp;rw[L.out];go_simp;exact E (.bool true) _ _ (show .bool true=En (O 6) 1 by rw[L.out];rfl) (by rw[L.out];first|done|rfl) D.out
 case' m6|m10|m11=>
  intro U X O W g hl o n x G u B r K' E;have D:=h_ g;obtain⟨y,b,f,d,c⟩:=g;have c27:W.cell? ⟨p,27,none⟩=some (pr v.np 0):=c.blk.cell 27;have K:W.cell? ⟨j,2,none⟩=some (.int .i64 (i:Int)):=by rw[(c.pull 8).blk.cell,z.out.2.2];rfl
  clear c f d y b;simp[mV,mY,Ab]at x;simp only[Al,Act.put,A8,A7,A6,x]at r;subst r
 case m6=>have I:U 11=false:=u 11 (by decide);clear o n G u c27 K;obtain⟨y,b,f,d,c⟩:=D.out;rw[I]at c;have aq:=Rq ((c.pull 1)) i m z.out.1;have H:=h_2 d I;clear f d c I;go_simp;refine aq.mono ?_;rintro e w3 ⟨y3,rfl,ar,h3⟩;have J:=(h3.pull 7).drop;have h5:=J.sel (l:=[_,_,_,_,_,_,_,_,_]) [2,1,3,4,5,6,0,7,8] 9 rfl rfl;have H5:=h_ h5;clear h3 J h5;go_simp;refine E _ _ _ rfl ⟨y3,b,fun _=>⟨rfl,ar⟩,fun h=>H.out.1 h, ?_⟩;show Sp (Bo p v S B++Ia (upd U 6 true 6) (Gs y3)::Ia (upd U 6 true 10) (AM b (if upd U 6 true 11=true then Cm y3 else QH) 175)::AM j s 39::R) w3;have T:upd U 6 true 6=true:=rfl;have V:upd U 6 true 10=U 10:=rfl;have Y:upd U 6 true 11=false:=H.out.2;rw[T,V,Y];exact H5.out
 case m10=>have I:U 11=false:=u 11 (by decide);clear o n G u c27 K;obtain⟨y,b,f,d,c⟩:=D.out;have J:=(c.pull 7).drop;have h5:=(J.alloc QH 175).push 7;have H:=h_3 f I h5;clear f d c J h5 I;go_simp;refine E _ _ _ rfl ⟨y,W.heap.size,fun h=>H.out.1 h,fun _=>rfl, ?_⟩;show Sp (Bo p v S B++Ia (upd U 10 true 6) (Gs y)::Ia (upd U 10 true 10) (AM W.heap.size (if upd U 10 true 11=true then Cm y else QH) 175)::AM j s 39::R) _;have T:upd U 10 true 6=U 6:=rfl;have V:upd U 10 true 10=true:=rfl;have Y:upd U 10 true 11=false:=H.out.2.1;rw[T,V,Y];exact H.out.2.2
 case m11=>have q:U 6=true:=n 6 (by decide);have aa:U 10=true:=n 10 (by decide);have C:=o 6 q;have ai:=o 10 aa;clear o n G u c27 K;obtain⟨y,b,f,d,c⟩:=D.out;have ae:=f q;have ad:=d aa;rw[ae.1]at C;rw[ad]at ai;rw[q,aa]at c;have I:U 11=false:=hl;rw[I]at c;have k:=c.pull 7;have k:Sp (AM b QH 175::Bo p v S B++Gs y::AM j s 39::R) W:=k;have ao:=k.pull 7;obtain⟨F,am⟩:=ao.tm;have hb:=k.blk;have H:=h_5 ae ad q aa k;have P:=h_ (am.one);clear f d ae ad c q aa k I hl ao am;refine Eu rfl _ _ _ rfl b QH (Cm y) 175 (by show O 10=_;rw[←ai]) (by show En (O 6) 0=_;rw[←C];rfl) hb rfl C4 P.out ?_;intro w3 ak k3;have J:=(H.out.2.2.2.2.set ak k3).push 7;have H4:=h_ J;clear ak k3 J hb;refine E _ _ _ rfl ⟨y,b,fun _=>H.out.1,fun _=>H.out.2.1, ?_⟩;show Sp (Bo p v S B++Ia (upd U 11 true 6) (Gs y)::Ia (upd U 11 true 10) (AM b (if upd U 11 true 11=true then Cm y else QH) 175)::AM j s 39::R) w3;have T:upd U 11 true 6=true:=H.out.2.2.1;have V:upd U 11 true 10=true:=H.out.2.2.2.1;have Y:upd U 11 true 11=true:=rfl;rw[T,V,Y];exact H4.out
 all_goals
  intro U X O W g o n x G u B r K' E;clear o n G u;have D:=h_ g;obtain⟨y,b,f,d,c⟩:=g;have c27:W.cell? ⟨p,27,none⟩=some (pr v.np 0):=c.blk.cell 27;have K:W.cell? ⟨j,2,none⟩=some (.int .i64 (i:Int)):=by rw[(c.pull 8).blk.cell,z.out.2.2];rfl
  clear c f d y b;simp[mV,mY,Ab]at x;simp only[Al,Act.put,A8,A7,A6,x]at r;subst r;go_simp;exact E _ _ _ rfl rfl D.out
end
theorem Qk {L:List Sec}(h:∀s∈L,flushSec s=s):De L [] L.length=L:=by
 apply List.ext_getElem?;intro i;by_cases c:i<L.length
 ·obtain⟨s,a⟩:∃s,L[i]?=some s:=⟨_,Ad c⟩
  have b:=h s (Aq a);have e:s=⟨s.now,s.now,false⟩:=b.symm;rw[Hq L [] i s.now (by rw[a,←e]),a,←e]
 ·rw[D7 (by simp[De];omega),D7 (by omega)]
theorem FlOk.fdev {w:World}{B b k r s d t c o:Nat}{p:Value}{l:List Sg}{L:List Sec}{T:Tab}{R:List (Nat×FR)}(h:FlOk w B b k r s d 162 129 t p l L T c o R):FDev L t R:=by obtain⟨m,run,u,q,a,e,f,g,i,j⟩:=h.log;exact⟨l.map Sg.ps,m,run,q,a.dev,a.say,⟨e,f,g,i⟩,h.tail,h.few,h.up,j,h.may⟩
section
variable {R:List As} {w w':World} {x:NdP} {n:Nd} {B t:Nat}
theorem Vc {k:Disk}(h:Sp (UQ x k B::R) w):Calls Tryz.prog 99 #[pr x.d 0,.slice none 0 0] w fun e w'=>∃d,e=.returned (pr d 0)∧Sp (SZ d k B::R) w':=by
 obtain⟨F,⟨L,c,t,M,Q,y,hF,a⟩,m⟩:=h.one;refine(Nn a.at_.dev (.slice none 0 0) [] (Y6 w 1) (by simp)).mono ?_;rintro e w' ⟨b,i,rfl,f,o,j,l⟩;rw[Qk a.last]at f;refine⟨b,rfl,m (SZ b k B) w' [b,i] ⟨i,L,0,t,y.slot,y.turn,M,Q,rfl,⟨f,a.len,⟨by omega,a.lim.2⟩,⟨a.at_.lim.1, ?_,a.at_.lim.2⟩,a.last,a.pair,a.at_.jn.jdev,a.jk,a.at_.fl.fdev,a.cache,a.used⟩⟩ (o.mono (by simp)) (fun q g=> ?_)⟩
 ·obtain⟨z,p,_⟩:=a.pair
  omega
 ·simp only[Ac,Am,AG]at g
  rcases g with rfl|rfl
  ·exact .inr j
  ·exact .inr l
end
end Go.Proofs.YtnhbioehiiifdaaGreat
