import Derived.Test.YtnhbioehiiifdaaGreatD02
import Derived.Test.YtnhbioehiiifdaaGreatD03
import Derived.Test.YtnhbioehiiifdaaGreatD04
import Derived.BigQuiet
set_option maxRecDepth 100000
set_option maxHeartbeats 16000000
set_option linter.all false
namespace Go.Proofs.YtnhbioehiiifdaaGreat
open Go.ChangeShapes Go.WideShapes Go.ChangeAt Go.RowKit
abbrev Se:=Nat×Str×Bool
def seC (s:Se):List Value:=[.int .i64 (s.1:Int),.string s.2.1,.bool s.2.2]
theorem N3 (s:Se):(seC s).length =3:=rfl
theorem Xf (s:Se):∀v∈seC s,v.oneCell'=true:=by intro v a;simp only[seC,Ac,Am,AG]at a;rcases a with rfl|rfl|rfl<;>rfl
def setsOf (org:List (Str×Se))(k:Str):List Se:=(org.filter (fun p=>decide (p.1=k))).map Prod.snd
def Hz (l:List Se)(pos:Nat):Str×Bool:=match(l.filter (fun s=>decide (s.1≤pos))).getLast? with
 |some s=>s.2
 |none=>(se,false)
structure OrAt (w:World) (p g n now:Nat) (R:List Nat) (org:List (Str×Se)) (f:Str→Option Value):Prop where
 blk:Blk w p [.int .i64 (now:Int),.map (some g)] 126
 map:MV Tryz.prog 9 kyS w g n f
 none_:∀k,f k=none→setsOf org k=[]
 row:∀k v,f k=some v→w.ownsRow 0 131 3 v (setsOf org k).length (rows seC (setsOf org k))∧∀b,v.ownBlock=some b→b∈R
 apart:∀k k' v v',f k=some v→f k'=some v'→k≠k'→∀b,v.ownBlock=some b→v'.ownBlock≠some b
 keys:∀q∈org,q.1.size≤1000∧q.2.2.1.size≤1000∧q.2.1≤now
 lim:now≤100000∧n≤100000∧org.length≤100000
 lt:∀q∈R,q<w.heap.size
def WR (p g:Nat)(R:List Nat):List Nat:=p::g::R
section
variable {w w':World} {p g n now:Nat} {R:List Nat} {org:List (Str×Se)} {f:Str→Option Value}
theorem OrAt.keep {S:List Nat}(h:OrAt w p g n now R org f)(k:Keep S w w')(c:∀q∈S,q∉WR p g R):OrAt w' p g n now R org f:=
 ⟨h.blk.keep k (fun a=>c p a (by simp[WR])),h.map.keep k (fun a=>c g a (by simp[WR])),h.none_,fun x v d=>⟨(Do (h.row x v d).1 k (fun b e a=>c b a (by simp[WR,(h.row x v d).2 b e]))),(h.row x v d).2⟩,h.apart,h.keys,h.lim,fun q i=>AW (h.lt q i) k.size⟩
theorem OrAt.still (h:OrAt w p g n now R org f)(k:Keep [] w w'):OrAt w' p g n now R org f:=h.keep k (by simp)
theorem TR {w:World}:Calls Tryz.prog 65 #[] w fun e w'=>∃p g,e=.returned (pr p 0)∧OrAt w' p g 0 0 [] [] (fun _=>none)∧Keep [] w w'∧w.heap.size≤p∧w.heap.size≤g:=by have b:=MV.made Tryz.prog 9 kyS w;have c:(Instr.makeMap 124 none).run Tryz.prog w=.ok (.map (some w.heap.size)) (w.alloc (.map #[] 0)):=run_makeMap _ _;go_enter Tryz.func65,Tryz.ntmps65;go_wp2;go_ret;have a:Keep [] (w.alloc (.map #[] 0)) ((w.alloc (.map #[] 0)).alloc (.cells #[.int .i64 0,.map (some w.heap.size)] 126)):=(By _ _).alloc _;refine⟨_,w.heap.size,rfl,⟨Yt _ [.int .i64 0,.map (some w.heap.size)] _ _ (by simp),(b.keep a (by simp)),fun _ _=>rfl,(fun k v h=>by cases h),(fun k d v i h=>by cases h),by simp,⟨by omega,by omega,by simp⟩,by simp⟩,((By _ _).alloc _).trans a,by omega,by omega⟩
theorem MO (h:OrAt w p g n now R org f):Calls Tryz.prog 98 #[pr p 0] w fun e w'=>e=.returned (.int .i64 (now:Int))∧w'=w:=by have a:=h.blk.cell 0;go_enter Tryz.func98,Tryz.ntmps98;go_wp2;go_ret;exact⟨rfl,rfl⟩
theorem QU {l:List Se}{pos i:Nat}{s:Se}(c:l[i]?=some s)(k:s.1≤pos)(h:∀j t,i<j→l[j]?=some t→pos<t.1):Hz l pos=s.2:=by
 have a:=(Ai.1 c).1
 have e:l=l.take i++(s::l.drop (i+1)):=by
  conv=>lhs;rw[←BX i l]
  rw[Cj a]
  congr 2
  have:=Ad a;rw[c]at this;injection this with this;exact this.symm
 have d:(l.drop (i+1)).filter (fun s=>decide (s.1≤pos))=[]:=by rw[List.filter_eq_nil_iff];intro t m;obtain⟨j,b⟩:=Bf m;rw[Bp]at b;have:=h (i+1+j) t (by omega) b;simp;omega
 unfold Hz;rw[e,List.filter_append,List.filter_cons_of_pos (by simpa using k),d];simp
theorem T7 {l:List Se}{pos:Nat}(a:∀(j:Nat) t,l[j]?=some t→pos<t.1):Hz l pos=(se,false):=by
 unfold Hz
 have:l.filter (fun s=>decide (s.1≤pos))=[]:=by rw[List.filter_eq_nil_iff];intro t c;obtain⟨j,b⟩:=Bf c;have:=a j t b;simp;omega
 rw[this];rfl
theorem Ls (h:OrAt w p g n now R org f)(pos:Nat)(X:pos≤now)(key:Str)(J:key.size≤1000):Calls Tryz.prog 49 #[pr p 0,.int .i64 (pos:Int),.string key] w fun e w'=>
  e=.returned (.tuple #[.string (Hz (setsOf org key) pos).1,.bool (Hz (setsOf org key) pos).2])∧Keep [] w w':=by
 have P:=h.blk.cell 0;have c1:=h.blk.cell 1;have K:=h.map.look (t:=124) (Maps.string_keyed BG) Tryz.underlying124 (e:=129) (z:= .slice none 0 0) (by rfl) (key:= .string key) (kl:=key) (SM BG _ (by omega));obtain⟨l,m⟩:∃l,l=setsOf org key:=⟨_,rfl⟩;rw[←m]
 have W:l.length≤100000:=by rw[m];unfold setsOf;rw[AD];exact AJ (D6 _ _) h.lim.2.2
 obtain⟨v,E,q⟩:∃v,(f key).getD (.slice none 0 0)=v∧w.ownsRow 0 131 3 v l.length (rows seC l):=by
  cases C:f key with
  |none=>exact⟨_,rfl,by rw[m,h.none_ key C];exact AY _ _ _ 3⟩
  |some v=>exact⟨v,rfl,by rw[m];exact(h.row key v C).1⟩
 rw[E]at K;obtain⟨a,cap,rfl⟩:=A4 q;have Y:¬(pos:Int)<0:=by omega
 have Z:¬(now:Int)<(pos:Int):=by omega
 have O:=h_ q
 have D:∀(i:Nat) (s:Se),l[i]?=some s→∃b,a=some ⟨b,0,none⟩∧w.cell? ⟨b,i*3,none⟩=some (.int .i64 (s.1:Int))∧w.cell? ⟨b,i*3+1,none⟩=some (.string s.2.1)∧w.cell? ⟨b,i*3+2,none⟩=some (.bool s.2.2):=fun i s o=>by obtain⟨b,Q,d,_,_,y,_⟩:=Cq N3 q o;injection d with d _ _;exact⟨b,d,y 0 _ rfl,y 1 _ rfl,y 2 _ rfl⟩
 have F:=h_ D;clear h m E q D;go_enter Tryz.func49,Tryz.ntmps49;go_wp2
 go_loopw [9] (fun N wr=>∃j:Nat,N=.int .i64 ((j:Int)-1)∧j≤l.length∧wr=w∧∀(i:Nat) t,j≤i→l[i]?=some t→pos<t.1) (fun x _=>(intOf x+1).toNat)
 case atStart=>exact⟨l.length,rfl,Av _,rfl,fun i t H c=>by have:=(Ai.1 c).1;omega⟩
 case round=>
 obtain⟨j,rfl,I,rfl,B⟩:=hrel;have r:=h_ B;clear B;by_cases V:0<j
 ·obtain⟨i,rfl⟩:∃i,j=i+1:=⟨j-1,by omega⟩
  have G:(((i+1:Nat):Int)-1)=(i:Int):=by omega
  rw[G];obtain⟨s,o⟩:∃s,l[i]?=some s:=⟨_,Ad (by omega)⟩;obtain⟨b,rfl,S,T,U⟩:=F.out i s o;have H:i<l.length:=by omega
  have q2:(0:Int)≤(i:Int):=by omega
  have A:=h_ o;clear o;by_cases L:s.1≤pos
  ·have M:(s.1:Int)≤(pos:Int):=by omega
   have u:=h_ (QU A.out L (fun j t I c=>r.out j t (by omega) c));go_wp2_with fail
   go_quiet (fail)
   go_wp2;go_ret2;exact⟨by rw[u.out];rfl,rfl,rfl,rfl,Av _,fun _ _ _=>rfl⟩
  ·have M:¬(s.1:Int)≤(pos:Int):=by omega
   go_wp2
   go_roundw
   case rel=>exact⟨i,by go_num,by omega,by first|rfl|trivial,fun k t J c=>by
    by_cases d:k=i
    ·subst d
     have:=A.out;rw[c]at this;injection this with this;rw[this];omega
    ·exact r.out k t (by omega) c⟩
   case measure=>simp only[intOf];omega
 ·obtain rfl:j=0:=by omega
  have u:=h_ (T7 (l:=l) (pos:=pos) (fun k t c=>r.out k t (by omega) c));go_wp2;go_ret2;exact⟨by rw[u.out];rfl,By _ _⟩
theorem TT (h:OrAt w p g n now R org f)(key:Str)(c:key.size≤1000):Calls Tryz.prog 94 #[pr p 0,.string key] w fun e w'=>
  e=.returned (.tuple #[.string (Hz (setsOf org key) now).1,.bool (Hz (setsOf org key) now).2])∧Keep [] w w':=by
 have b:=h_ (MO h);have a:=h_ (Ls h now (Av _) key c);clear h;go_enter Tryz.func94,Tryz.ntmps94;go_wp2_with fail;refine b.out.mono ?_;rintro e i ⟨rfl,rfl⟩;go_wp2_with fail;refine a.out.mono ?_;rintro e i ⟨rfl,d⟩;go_wp2;go_ret2;exact⟨rfl,d⟩
end
theorem Tryz.infoSe:(Tryz.prog.info? 131).map (fun i=>(i.zero,i.size,i.bytes))=some (some (.agg #[.int .i64 0,.string ByteArray.empty,.bool false]),3,32):=by kernel_rfl
theorem Vi (c:Se):Instr.fill (fun i=>some (i*3,3)) ((Array.range (1*3)).map ((Value.agg #[.int .i64 0,.string ByteArray.empty,.bool false]).cells[· % 3]!)) [(0,.agg (seC c).toArray)]=some (seC c).toArray :=by kernel_rfl
theorem Xh (c:Se)(W:World):(Instr.buildSlice 129 1 #[(0,.agg (seC c).toArray)]).run Tryz.prog W=.ok (.slice (some ⟨W.heap.size,0,none⟩) 1 1) (W.alloc (.cells (seC c).toArray 131)):=by obtain⟨e,b,d,a,h⟩:=AU Tryz.infoSe;exact run_buildSlice W _ _ 1 _ _ e _ Tryz.underlying129 b d (by rw[a];decide) (by rw[a];decide) (by rw[a];exact Vi c)
theorem Ie (org:List (Str×Se))(k j:Str)(s:Se):setsOf (org++[(k,s)]) j=if j=k then setsOf org j++[s]else setsOf org j:=by
 unfold setsOf;rw[List.filter_append,AL];by_cases h:j=k
 ·subst h;simp
 ·have a:¬k=j:=fun e=>h e.symm
  simp[h,a]
def setS (a:World)(p g n m:Nat)(f:Str→Option Value)(key:Str)(l:List Se)(v:Value)(y:Se)(L:Nat→Bool)(X:Nat→Value)(W:World):Prop:=
 ∃b,Keep (g::v.ownBlock.toList) a W∧Blk W p [.int .i64 (m:Int),.map (some g)] 126∧
 (L 19=false→W.ownsRow 0 131 3 v l.length (rows seC l))∧(L 20=false→MV Tryz.prog 9 kyS W g n f)∧
 (L 18=true→X 18=.slice (some ⟨b,0,none⟩) 1 1∧(L 19=false→Blk W b (seC y) 131)∧a.heap.size≤b)∧
 (L 19=true→W.ownsRow 0 131 3 (X 19) (l.length+1) (rows seC (l++[y]))∧∀q,(X 19).ownBlock =some q→v.ownBlock=some q∨a.heap.size≤q)∧
 (L 20=true→MV Tryz.prog 9 kyS W g (n+1) (fun j=>if j=key then some (X 19)else f j))∧(L 20=true→L 19=true)∧(L 19=true→L 18=true)
section
variable {w w':World} {p g n now:Nat} {R:List Nat} {org:List (Str×Se)} {f:Str→Option Value}
theorem TQ (h:OrAt w p g n now R org f)(K:now<100000∧n<100000∧org.length<100000)(key val:Str)(D:key.size≤1000)(hv:val.size≤1000)(y:Bool):Calls Tryz.prog 72 #[pr p 0,.string key,.string val,.bool y] w fun e w'=>∃R' f',e=.returned (.int .i64 ((now+1:Nat):Int))∧
  OrAt w' p g (n+1) (now+1) R' (org++[(key,now+1,(if y=true then val else se),y)]) f'∧Keep (p::g::R) w w'∧(∀q∈R',q∈R∨w.heap.size≤q):=by
 have c0:=h.blk.cell 0;have f0:=h.blk.free 0;have bg:p≠g:=h.map.ne h.blk.ty;have a0:g≠p:=fun e=>bg e.symm
 have H:=h_ h;obtain⟨m,r⟩:∃m,m=now+1:=⟨_,rfl⟩;have ap:(now:Int)+1=(m:Int):=by omega
 obtain⟨w1,au⟩:∃w1,w1=w.setCell ⟨p,0,none⟩ (.int .i64 ((now:Int)+1)):=⟨_,rfl⟩;have ac:=h.blk.set 0 (.int .i64 ((now:Int)+1));have Y:Keep [p] w w1:=by rw[au];exact(By _ _).setCell (.inl (by simp)) _
 rw[←au]at ac;simp only[List.set_cons_zero]at ac;rw[ap]at ac;have ao:=h.map.keep Y (by simpa using a0);obtain⟨l,an⟩:∃l,l=setsOf org key:=⟨_,rfl⟩
 have a4:l.length<100000:=by rw[an];unfold setsOf;rw[AD];exact Nat.lt_of_le_of_lt (D6 _ _) K.2.2
 obtain⟨v,aj,ay⟩:∃v,(f key).getD (.slice none 0 0)=v∧w.ownsRow 0 131 3 v l.length (rows seC l):=by
  cases i:f key with
  |none=>exact⟨_,rfl,by rw[an,h.none_ key i];exact AY _ _ _ 3⟩
  |some v=>exact⟨v,rfl,by rw[an];exact(h.row key v i).1⟩
 have ar:∀q,v.ownBlock=some q→q∈R:=fun q a=>by
  cases i:f key with
  |none=>rw[i]at aj;subst aj;cases a
  |some v'=>rw[i]at aj;subst aj;exact(h.row key v' i).2 q a
 have az:∀q∈v.ownBlock.toList,q≠p:=fun q a=>(C5 ay q (Ae.1 a)).ne h.blk.ty (by decide)
 have a5:∀q∈v.ownBlock.toList,q≠g:=fun q a=>h.map.ne (C5 ay q (Ae.1 a))
 have aq:=Do ay Y (fun q a r=>az q (Ae.2 a) (by simpa using r));have a9:=h_4 ac Y ao aq;have HV:=h_4 ar az a5 aj;have HL:=h_2 an a4;have bi:=h_2 r ap;obtain⟨im,bn,bs,bt,bu⟩:=AU Tryz.infoSe;clear h ac Y ao aq ar az a5 an a4 aj r ay bg;have HQ:=h_ a0;clear a0;obtain⟨J,L⟩:∃J,J=(if y=true then val else se):=⟨_,rfl⟩;rw[←L];have bf:J.size≤1000:=by rw[L];cases y<;>simp[hv,se]
 have bj:=h_ bf;clear bf hv;obtain⟨a8⟩:Nonempty (Hid (J=(if y=true then val else se))):=⟨h_ L⟩;clear L;go_enter Tryz.func72,Tryz.ntmps72;go_upto_if 12 with fail;go_cut [2] (fun s wc=>s=.string J∧w=wc)
 case first=>
  cases y
  ·have L:=a8.out
   rw[Aw (by simp)]at L;go_wp2_with fail;go_meet;exact⟨by rw[L];rfl,rfl⟩
  ·have L:=a8.out
   rw[Ay rfl]at L;go_wp2_with fail;go_meet;exact⟨by rw[L],rfl⟩
 case rest=>
 obtain⟨rfl,rfl⟩:=hcut;go_wp2_with fail;rw[ap]at au;rw[←au];clear au f0 c0 ap;refine wM (A:=[0,1,3,7,0,0,32,96,224,0,992,0,2048,6144,14336,0,0,129024,260096,524256,1048575]) 1835008 [fun _=>pr p 0,fun _=>pr p 0,fun _=>pr p 1,fun _=> .map (some g),fun _=> .string key,fun _=>pr p 0,fun _=>pr p 0,fun _=>pr p 1,fun _=> .map (some g),fun _=> .string key,fun _=>v,fun _=>pr p 0,fun _=>pr p 0,fun _=>pr p 0,fun _=> .int .i64 (m:Int),fun _=> .string J,fun _=> .bool y,fun _=> .agg #[.int .i64 (m:Int),.string J,.bool y],fun _=>undef,fun _=>undef,fun _=>undef] (setS w1 p g n m f key l v (m,J,y)) ?start (.s ?m0<|.s ?m1<|.s ?m2<|.s ?m3<|.s ?m4<|.s ?m5<|.s ?m6<|.s ?m7<|.s ?m8<|.s ?m9<|.s ?m10<|.s ?m11<|.s ?m12<|.s ?m13<|.s ?m14<|.s ?m15<|.s ?m16<|.s ?m17<|.t ?m18<|.t ?m19<|.t ?m20<|.nil) ?fin
 case start=>intro X;obtain⟨ac,Y,ao,aq⟩:=a9.out;exact⟨0,(By _ _).drew,ac.drew,fun _=>Do aq (By [] _).drew (fun _ _ h=>by cases h),fun _=>ao.keep (By [] _).drew (by simp),fun h=>absurd h (by decide),fun h=>absurd h (by decide),fun h=>absurd h (by decide),fun h=>absurd h (by decide),fun h=>absurd h (by decide)⟩
 case fin=>
  intro U X w2 hS hd;have bb:=hd 20 (by decide) (by decide);have ba:=hd 19 (by decide) (by decide);obtain⟨b,d,c,V,G,F,O,ab,S,Q⟩:=hS;have r:=ab bb;obtain⟨ho,af⟩:=O ba;obtain⟨v2,bh⟩:∃v2,v2=X 19:=⟨_,rfl⟩;rw[←bh]at r ho af;have c0:=c.cell 0;have HF:=h_5 r ho af c d;clear d c V G F O ab S Q r ho af hd ba bb bh;simp[Al,Act.put,FK,Ab];go_wp2;go_ret;obtain⟨ag,ho,af,c,d⟩:=HF.out;obtain⟨ac,Y,ao,aq⟩:=a9.out;obtain⟨ar,az,a5,I⟩:=HV.out;obtain⟨bo,a4⟩:=HL.out;obtain⟨r,ap⟩:=bi.out;have bw:=Y.size
  have bd:Keep (p::g::R) w w2:=(Y.mono (S':=p::g::R) (by simp)).trans (d.mono (S':=p::g::R) (fun q a=>by
   rcases Ac.1 a with rfl|a
   ·simp
   ·simp[ar q (Ae.1 a)]))
  have h:=H.out;refine⟨v2.ownBlock.toList++R,(fun j=>if j=key then some v2 else f j),by rw[←r];rfl,⟨by rw[←r];exact c,ag,fun k D=> ?_,fun k v' D=> ?_,fun k k' v1 a6 E C be N hb aw=> ?_,fun q a=> ?_,⟨by omega,by omega,by simp;omega⟩,fun q a=> ?_⟩,bd,fun q a=> ?_⟩
  ·by_cases u:k=key
   ·simp[u]at D
   ·rw[Ie,Aw u]
    simp only[Aw u]at D;exact h.none_ k D
  ·by_cases u:k=key
   ·simp only[Ay u]at D
    injection D with D;subst D;rw[Ie,Ay u,u,←bo,←r,Aj];exact⟨ho,fun b hb=>A2 _ (Ae.2 hb)⟩
   ·simp only[Aw u]at D
    rw[Ie,Aw u];obtain⟨E,C⟩:=h.row k v' D;refine⟨Do (Do E Y (fun q a=> ?_)) d (fun q a ah=> ?_),fun b hb=>AQ _ (C b hb)⟩
    ·have:=(C5 E q a).ne h.blk.ty (by decide)
     simpa using this
    ·rcases Ac.1 ah with e|ah
     ·exact h.map.ne (C5 E q a) e
     ·cases i:f key with
      |none=>rw[i]at I;rw[←I]at ah;simp[Value.ownBlock]at ah
      |some vk=>rw[i]at I;have:vk=v:=I;rw[←this]at ah;exact h.apart k key v' vk D i u q a (Ae.1 ah)
  ·by_cases u:k=key
   ·have am:¬k'=key:=fun e=>be (u.trans e.symm)
    simp only[Ay u]at E;simp only[Aw am]at C;injection E with E;subst E;have bq:=h.lt N ((h.row k' a6 C).2 N aw);rcases af N hb with o|o
    ·cases i:f key with
     |none=>rw[i]at I;rw[←I]at o;simp[Value.ownBlock]at o
     |some vk=>rw[i]at I;have:vk=v:=I;rw[←this]at o;exact h.apart k' key a6 vk C i am N aw o
    ·omega
   ·simp only[Aw u]at E
    by_cases am:k'=key
    ·simp only[Ay am]at C
     injection C with C;subst C;have bq:=h.lt N ((h.row k v1 E).2 N hb);rcases af N aw with o|o
     ·cases i:f key with
      |none=>rw[i]at I;rw[←I]at o;simp[Value.ownBlock]at o
      |some vk=>rw[i]at I;have:vk=v:=I;rw[←this]at o;exact h.apart k key v1 vk E i u N hb o
     ·omega
    ·simp only[Aw am]at C
     exact h.apart k k' v1 a6 E C be N hb aw
  ·rcases Ag.1 a with a|a
   ·obtain⟨a1,a2,a3⟩:=h.keys q a
    exact⟨a1,a2,by omega⟩
   ·simp at a;subst a
    exact⟨D,bj.out,by simp⟩
  ·rcases Ag.1 a with a|a
   ·have:=(C5 ho q (Ae.1 a))
    obtain⟨cs,_,hc⟩:=this;exact(Cd.1 hc).1
   ·exact AW (h.lt q a) bd.size
  ·rcases Ag.1 a with a|a
   ·rcases af q (Ae.1 a)with o|o
    ·exact .inl (ar q o)
    ·exact .inr (by omega)
   ·exact .inl a
 case' m18|m19|m20=>intro U X x W hS K hX hA al ai hN B c K' ae;have ad:=h_ hS;obtain⟨_,_,c,_⟩:=hS;have d0:=c.cell 0;have d1:=c.cell 1;clear c;simp[mV,mY,Ab]at al;simp only[Al,Act.put,A8,A7,A6,al]at c;subst c
 case m18=>
  clear hX hA ai hN d0 d1;obtain⟨b,d,c,V,G,F,O,ab,S,Q⟩:=ad.out;have av:U 19=false:=by cases h:U 19 with|false=>rfl|true=>rw[Q h]at K;cases K
  have M:U 20=false:=by cases h:U 20 with|false=>rfl|true=>rw[S h]at av;cases av
  refine Ny (T:=131) rfl (.tmp 37) rfl (seC (m,J,y)) rfl (Xh (m,J,y)) ?_;have kk:Keep [] W (W.alloc (.cells (seC (m,J,y)).toArray 131)):=(By _ _).alloc _;exact ae _ _ _ rfl ⟨W.heap.size,d.trans (kk.mono (by simp)),c.keep kk (by simp),fun _=>Do (V av) kk (by simp),fun _=>(G M).keep kk (by simp),fun _=>⟨Bh _ _ _,fun _=>BY W _ _,d.size⟩,fun h=>by simp[upd,av]at h,fun h=>by simp[upd,M]at h,fun h=>by simp[upd,M]at h,fun h=>by simp[upd,av]at h⟩
 case m19=>
  have Z:U 18=true:=hA 18 (by decide);have bk:=hX 18 Z;clear hX hA ai hN d0 d1;obtain⟨b,d,c,V,G,F,O,ab,S,Q⟩:=ad.out;have M:U 20=false:=by cases h:U 20 with|false=>rfl|true=>rw[S h]at K;cases K
  obtain⟨eb,bl,bm⟩:=F Z;have br:=KI (P:=Tryz.prog) Tryz.underlying129 W b (seC (m,J,y)) (N3 _) (bl K) (Xf _);refine BO _ rfl (.tmp 30) (.tmp 38) 129 129 rfl 0 131 im _ 3 32 Tryz.underlying129 bn bs bt bu rfl (by decide) v l.length _ (by rfl) (V K) _ 1 _ (by rw[←eb,bk];rfl) br (by have:=HL.out.2;unfold maxLen;omega) (by have:=HL.out.2;omega) (AA _) ?_;intro v2 w2 C o _ h4;have kg:=DJ o
  refine ae _ _ _ rfl ⟨b,d.trans (kg.mono (fun q a _=>Ap _ a)),c.keep kg (fun r=>HV.out.2.1 p r rfl),fun h=>by simp[upd]at h,fun _=>(G M).keep kg (fun r=>HV.out.2.2.1 g r rfl),fun _=>⟨by rw[Bs _ _ _ _ (by decide)];exact eb,fun h=>by simp[upd]at h,bm⟩,fun _=>⟨by rw[Bh,I8];exact C,fun q a=>by
   rw[Bh]at a;rcases h4 q a with h|h
   ·exact .inl h
   ·exact .inr (AJ d.size h)⟩,fun h=>by simp[upd,M]at h,fun h=>by simp[upd,M]at h,fun _=>by simp[upd,Z]⟩
 case m20=>
  have aa:U 19=true:=hA 19 (by decide);have bc:=hX 19 aa;clear hX hA ai hN d0 d1;obtain⟨b,d,c,V,G,F,O,ab,S,Q⟩:=ad.out;have Z:=Q aa;obtain⟨ak,ax⟩:=O aa;obtain⟨w2,bv,ag,k2⟩:=(G K).put (t:=124) (Maps.string_keyed BG) Tryz.underlying124 (key:= .string key) (kl:=key) (SM BG _ (by omega)) X5 (X 19) (by unfold maxLen;omega);have HF:=h_9 ag k2 ak ax c d (F Z) Z aa;have a7:=h_ (G K);simp only[←bc]at ae⊢;clear ag k2 ak ax c d V G F O ab S Q Z aa bc K;go_simp;obtain⟨ag,k2,ak,ax,c,d,F,Z,aa⟩:=HF.out
  refine ae undef _ _ rfl ⟨b,d.trans (k2.mono (by simp)),c.keep k2 (by simp;exact a7.out.ne c.ty),fun h=>by simp[upd,aa]at h,fun h=>by simp[upd]at h,fun _=>⟨by rw[Bs _ _ _ _ (by decide)];exact F.1,fun h=>by simp[upd,aa]at h,F.2.2⟩,fun _=>by rw[Bs _ _ _ _ (by decide)];exact⟨Do ak k2 (fun q a=>by simp;exact a7.out.ne (C5 ak q a)),ax⟩,fun _=>by rw[Bs _ _ _ _ (by decide)];exact ag,fun _=>by simp[upd,aa],fun _=>by simp[upd,Z]⟩
 all_goals intro U X x W hS hX hA al ai hN B c K' ae;have ad:=h_ hS;obtain⟨_,_,c,_⟩:=hS;have d0:=c.cell 0;have d1:=c.cell 1;clear c;simp[mV,mY,Ab]at al;simp only[Al,Act.put,A8,A7,A6,al]at c;subst c
 case m10=>have M:U 20=false:=hN 20 (by decide);clear hX hA ai hN;obtain⟨b,d,c,V,G,F,O,ab,S,Q⟩:=ad.out;have bp:=(G M).look (t:=124) (Maps.string_keyed BG) Tryz.underlying124 (e:=129) (z:= .slice none 0 0) (by rfl) (key:= .string key) (kl:=key) (SM BG _ (by omega));rw[HV.out.2.2.2]at bp;clear d c V G F O ab S Q d0 d1 M;go_simp;exact ae _ _ _ rfl rfl ad.out
 all_goals clear hX hA ai hN;go_simp;exact ae _ _ _ rfl rfl ad.out
end
def heldB (l:List Se)(val:Str)(b:Bool)(a c:Nat):Bool:=decide (Hz l a=(val,b))||l.any (fun s=>decide (a<s.1∧s.1≤c∧s.2=(val,b)))
theorem VX {l:List Se}{val:Str}{b:Bool}{a e:Nat}(c:(Hz l a).1 =val)(d:(Hz l a).2 =b):heldB l val b a e=true:=by unfold heldB;rw[An (Prod.ext c d)];rfl
theorem VW {l:List Se}{val:Str}{b:Bool}{a c i:Nat}{s:Se}(k:l[i]?=some s)(d:a<s.1)(j:s.1≤c)(e:s.2.1=val)(h:s.2.2=b):heldB l val b a c=true:=by unfold heldB;rw[CQ];right;rw[List.any_eq_true];exact⟨s,Aq k,by simp only[A0];exact⟨d,j,Prod.ext e h⟩⟩
theorem VV {l:List Se}{val:Str}{b:Bool}{a c:Nat}(d:¬Hz l a=(val,b))(h:∀(i:Nat) (s:Se),l[i]?=some s→¬(a<s.1∧s.1≤c∧s.2=(val,b))):heldB l val b a c=false:=by unfold heldB;rw[Ak d,CH,List.any_eq_false];intro s j;obtain⟨i,e⟩:=Bf j;simpa using h i s e
def NoH (l:List Se)(val:Str)(b:Bool)(a c i:Nat):Prop:=∀(j:Nat) (s:Se),j<i→l[j]?=some s→¬(a<s.1∧s.1≤c∧s.2=(val,b))
section
variable {w w':World} {p g n now:Nat} {R:List Nat} {org:List (Str×Se)} {f:Str→Option Value}
theorem Rk (h:OrAt w p g n now R org f)(key val:Str)(hk:key.size≤1000)(m:Bool)(c d:Nat)(ag:c≤d)(ak:d≤now):Calls Tryz.prog 31 #[pr p 0,.string key,.string val,.bool m,.int .i64 (c:Int),.int .i64 (d:Int)] w fun e w'=>
  e=.returned (.bool (heldB (setsOf org key) val m c d))∧Keep [] w w':=by
 have c0:=h.blk.cell 0;have G:=h_ (Ls h c (by omega) key hk);have H:=h_ h;obtain⟨l,hl⟩:∃l,l=setsOf org key:=⟨_,rfl⟩;rw[←hl]at G⊢;obtain⟨sv,sb,ac⟩:∃a b,Hz l c=(a,b):=⟨_,_,rfl⟩;rw[ac]at G;simp only at G;obtain⟨T,V⟩:=i_2 hl ac;clear h hl ac;have q0:¬(c:Int)<0:=by omega
 have q1:¬(d:Int)<(c:Int):=by omega
 have an:decide ((c:Int)>(d:Int))=false:=Ak (by omega);have q2:¬(now:Int)<(d:Int):=by omega
 have U:=h_2 ag ak;clear ag ak;have aj:max (c:Int) 0=(c:Int):=by omega
 have ai:min (d:Int) (now:Int)=(d:Int):=by omega
 go_enter Tryz.func31,Tryz.ntmps31;go_upto_region 3 with fail;go_cut [4,5] (fun s4 s5 wc=>s4=.int .i64 (c:Int)∧s5=.int .i64 (d:Int)∧Keep [] w wc)
 case first=>
  have J:=h_2 U.out.1 U.out.2;clear U H G T V aj ai;rcases F5 c with N|N<;>rcases Nat.lt_or_eq_of_le J.out.2 with O|O
  ·subst N
   have r1:(d:Int)<(now:Int):=by omega
   have r2:¬(now:Int)<(d:Int):=by omega
   have r3:¬(d:Int)=(now:Int):=by omega
   clear J O
   go_region
   go_wp2_with fail;go_meet;exact⟨rfl,rfl,(By _ _).drew⟩
  ·subst N O
   clear J
   go_region
   go_wp2_with fail;go_meet;exact⟨rfl,rfl,(By _ _).drew⟩
  ·have r1:(d:Int)<(now:Int):=by omega
   have r2:¬(now:Int)<(d:Int):=by omega
   have r3:¬(d:Int)=(now:Int):=by omega
   have r4:(0:Int)<(c:Int):=by omega
   have r5:¬(c:Int)=0:=by omega
   clear J N O
   go_region
   go_wp2_with fail;go_meet;exact⟨rfl,rfl,(By _ _).drew⟩
  ·subst O
   have r4:(0:Int)<(c:Int):=by omega
   have r5:¬(c:Int)=0:=by omega
   clear J N
   go_region
   go_wp2_with fail;go_meet;exact⟨rfl,rfl,(By _ _).drew⟩
 case rest=>
 obtain⟨rfl,rfl,kc⟩:=hcut;have Z:=h_ (Ls (H.out.still kc) c (by omega) key hk);rw[←T.out,V.out]at Z;simp only at Z;have c1:=(H.out.still kc).blk.cell 1;have ad:=h_ kc;clear kc c0 G q0 q1 an q2 aj ai;have q1:¬(d:Int)<(c:Int):=by have:=U.out.1;omega
 go_wp2_with fail;refine Z.out.mono ?_;rintro e w2 ⟨rfl,k2⟩;have P:=H.out.still (ad.out.trans k2);have c1:=P.blk.cell 1;have aa:=P.map.look (t:=124) (Maps.string_keyed BG) Tryz.underlying124 (e:=129) (z:= .slice none 0 0) (by rfl) (key:= .string key) (kl:=key) (SM BG _ (by omega))
 obtain⟨v,hv,ab⟩:∃v,(f key).getD (.slice none 0 0)=v∧w2.ownsRow 0 131 3 v l.length (rows seC l):=by
  rw[T.out]
  cases hf:f key with
  |none=>exact⟨_,rfl,by rw[P.none_ key hf];exact AY _ _ _ 3⟩
  |some v=>exact⟨v,rfl,(P.row key v hf).1⟩
 rw[hv]at aa;obtain⟨a,cap,rfl⟩:=A4 ab;have Y:=h_ (ad.out.trans k2);have al:=h_ ab;clear P k2 hv ab;obtain⟨y,W⟩:∃y,y=l.length:=⟨_,rfl⟩;rw[←W]at aa;have ae:=h_ W
 have ar:y≤100000:=by rw[W,T.out];unfold setsOf;rw[AD];exact AJ (D6 _ _) H.out.lim.2.2
 clear W;obtain⟨E,af⟩:∃E,E=decide (Hz l c=(val,m)):=⟨_,rfl⟩;have S:=h_ af;clear af;go_upto_region 7 with fail;go_cut [44] (fun s wc=>s=.bool E∧w2=wc)
 case first=>
  by_cases M:sv=val
  ·have o:Hid (E=(sb==m)):=h_ (by
    rw[S.out,V.out,M]
    cases sb<;>cases m<;>simp)
   subst M;go_wp2_with fail;go_meet;exact⟨by rw[o.out],rfl⟩
  ·have o:Hid (E=false):=h_ (by rw[S.out,V.out];simp[M])
   have p1:(sv.toList==val.toList)=false:=by simpa using fun e=>M (Nr e)
   clear M;go_wp2_with fail;go_meet;exact⟨by rw[o.out],rfl⟩
 case rest=>
 obtain⟨rfl,rfl⟩:=hcut
 cases E with
 |true=>
  have o:Hid (heldB l val m c d=true):=h_ (by have:=DE S.out.symm;exact VX (by rw[this]) (by rw[this]))
  go_wp2;go_ret;exact⟨by rw[o.out];first|rfl|skip,Y.out⟩
 |false=>
 go_wp2_with fail;clear aa c1
 go_loopw [12,52] (fun ao ap wr=>∃i:Nat,ao=.bool false∧ap=.int .i64 (i:Int)∧i≤y∧Keep [] w2 wr∧NoH l val m c d i) (fun _ x _=>y+1-(intOf x).toNat)
 case atStart=>exact⟨0,rfl,rfl,AA _,By _ _,fun j b hj=>absurd hj (by omega)⟩
 case round=>
 obtain⟨i,rfl,rfl,hi,hK,hb⟩:=hrel;obtain⟨X,HB⟩:=i_2 hK hb;clear hK hb;by_cases am:i<y
 ·have q0:decide ((i:Int)<(y:Int))=true:=An (by omega)
  obtain⟨s,F⟩:∃s,l[i]?=some s:=⟨_,Ad (by rw[←ae.out];exact am)⟩;obtain⟨b,aq,Q,_,_,hr,_⟩:=Cq N3 (Do al.out X.out (by simp)) F;injection Q with Q _ _;subst Q;obtain⟨k,r,q⟩:=s;obtain⟨HS,K⟩:=i_2 F hr;have I:=h_ (X.out.alloc (.cells #[.int .i64 (k:Int),.string r,.bool q] 131));clear F hr
  have u:Hid (¬(c<k∧k≤d∧(r,q)=(val,m))→NoH l val m c d (i+1)):=h_ (fun h j s hj ah=>by
   by_cases Q:j=i
   ·subst Q
    have:=HS.out;rw[ah]at this;injection this with this;rw[this];exact h
   ·exact HB.out j s (by omega) ah)
  by_cases B:c<k
  ·have p1:(c:Int)<(k:Int):=by omega
   by_cases C:k≤d
   ·have p2:(k:Int)≤(d:Int):=by omega
    by_cases D:r=val
    ·by_cases L:q=m
     ·have o:Hid (heldB l val m c d=true):=h_ (VW HS.out B C D L)
      subst D L;clear B C
      go_wp2_with (refine Bc rfl 131 _ rfl b (i*3) rfl [.int .i64 (k:Int),.string r,.bool q] _ K.out F4 rfl (by rfl) ?_)
      go_ret;exact⟨by rw[o.out];first|rfl|skip,Y.out.trans I.out⟩
     ·have p4:(q==m)=false:=by simpa using L
      have A:=h_ (u.out (by simp[L]));clear B C u L;subst D
      go_wp2_with (refine Bc rfl 131 _ rfl b (i*3) rfl [.int .i64 (k:Int),.string r,.bool q] _ K.out F4 rfl (by rfl) ?_)
      exact⟨⟨.bool false,pr wr.heap.size 0,.int .i64 ((i:Int)+1),⟨rfl,i+1,by go_num,by omega,I.out,A.out⟩,rfl,rfl,rfl⟩,by simp only[intOf];omega⟩
    ·have p3:(r.toList==val.toList)=false:=by simpa using fun e=>D (Nr e)
     have A:=h_ (u.out (by simp[D]));clear B C u D
     go_wp2_with (refine Bc rfl 131 _ rfl b (i*3) rfl [.int .i64 (k:Int),.string r,.bool q] _ K.out F4 rfl (by rfl) ?_)
     exact⟨⟨.bool false,pr wr.heap.size 0,.int .i64 ((i:Int)+1),⟨rfl,i+1,by go_num,by omega,I.out,A.out⟩,rfl,rfl,rfl⟩,by simp only[intOf];omega⟩
   ·have p2:¬(k:Int)≤(d:Int):=by omega
    have A:=h_ (u.out (by simp[C]));clear B C u
    go_wp2_with (refine Bc rfl 131 _ rfl b (i*3) rfl [.int .i64 (k:Int),.string r,.bool q] _ K.out F4 rfl (by rfl) ?_)
    exact⟨⟨.bool false,pr wr.heap.size 0,.int .i64 ((i:Int)+1),⟨rfl,i+1,by go_num,by omega,I.out,A.out⟩,rfl,rfl,rfl⟩,by simp only[intOf];omega⟩
  ·have p1:¬(c:Int)<(k:Int):=by omega
   have A:=h_ (u.out (by simp[B]));clear B u
   go_wp2_with (refine Bc rfl 131 _ rfl b (i*3) rfl [.int .i64 (k:Int),.string r,.bool q] _ K.out F4 rfl (by rfl) ?_)
   exact⟨⟨.bool false,pr wr.heap.size 0,.int .i64 ((i:Int)+1),⟨rfl,i+1,by go_num,by omega,I.out,A.out⟩,rfl,rfl,rfl⟩,by simp only[intOf];omega⟩
 ·obtain rfl:i=y:=by omega
  have q0:decide ((i:Int)<(i:Int))=false:=Ak (by omega);have o:Hid (heldB l val m c d=false):=h_ (VV (by have:=of_decide_eq_false S.out.symm;exact this) (fun j s F=>HB.out j s (by rw[ae.out];exact(Ai.1 F).1) F));go_wp2;go_ret;exact⟨by rw[o.out];first|rfl|skip,Y.out.trans X.out⟩
end
theorem Calls.same {P:Program}{f:FuncId}{d:Array Value}{w:World}{v:Value}(h:Calls P f d w fun e c=>e=.returned v∧w=c):
  Calls P f d w fun e c=>e=.returned v∧c=w:=h.mono fun _ _ ⟨a,b⟩=>⟨a,b.symm⟩
theorem Keep.drewN {S:List Nat}{a w:World}(h:Keep S a w)(n:Nat):Keep S a (w.drewN n):=⟨h.os,h.tape,h.output,h.size,h.block⟩
theorem IsClock.drewN {w:World}{b:Nat}{n:Int}(h:IsClock w b n)(k:Nat):IsClock (w.drewN k) b n:=⟨h.blk,h.lo,h.hi⟩
structure IsLease (w:World) (b cb:Nat) (ep en tp:Int):Prop where
 blk:Blk w b [.pointer (some ⟨cb,0,none⟩),.int .i64 ep,.int .i64 en,.int .i64 tp] 141
 lo:0≤en
 hi:en≤1099511627796
theorem IsLease.keep {S:List Nat}{w e:World}{b a:Nat}{ep c d:Int}(h:IsLease w b a ep c d)(k:Keep S w e)(f:b∉S):IsLease e b a ep c d:=⟨h.blk.keep k f,h.lo,h.hi⟩
def Ds (a ep b c s e:Int):Bool:=decide (1≤e∧c≤e∧0≤s∧s≤a∧a-s<20∧(e=ep→b<s+20))
theorem XN {b a:Nat}{n ep d i:Int}{w:World}(h:IsLease w b a ep d i)(g:IsClock w a n):
  Calls Tryz.prog 122 #[pr b 0] w fun e c=>e=.returned (.int .i64 n)∧w=c:=by
 have f:=h.blk.cell 0;simp only[List.getElem?_cons_zero]at f;go_enter Tryz.func122,Tryz.ntmps122
 go_wp2_with (go_at_call 53;refine(DN g).mono ?_;rintro e c ⟨rfl,rfl⟩)
 go_ret;exact⟨rfl,rfl⟩
theorem good_q {b k:Nat}{n ep d s:Int}{w:World}(e:Int)(h:IsLease w b k ep d s)(j:IsClock w k n)(g:Bool)(a:g=decide (0<e∧e=ep∧n<d)):
  Calls Tryz.prog 39 #[pr b 0,.int .i64 e] w fun x t=>x=.returned (.bool g)∧∃m,t=w.drewN m:=by
 have o:=h.blk.cell 0;have p:=h.blk.cell 1;have q:=h.blk.cell 2;simp only[List.getElem?_cons_zero,List.getElem?_cons_succ]at o p q;by_cases f:0<e
 ·by_cases i:e=ep
  ·subst i
   have c:Hid (g=decide (n<d)):=by unfold Hid;rw[a];simp[f]
   clear a;have l:(e==e)=true:=by simp
   by_cases r:n<d
   all_goals
    go_enter Tryz.func39,Tryz.ntmps39;go_wp2_with fail
    go_quiet ((go_at_call 53;refine Calls.quiet_of_same (Calls.same (DN (j.drewN _)))))
    go_wp2;go_ret;exact⟨by rw[c.out];simp[r],_,rfl⟩
  ·have c:Hid (g=false):=by unfold Hid;rw[a];simp[i]
   clear a;have l:(e==ep)=false:=by simpa using i
   go_enter Tryz.func39,Tryz.ntmps39;go_wp2_with fail
   go_quiet ((go_at_call 53;refine Calls.quiet_of_same (Calls.same (DN (j.drewN _)))))
   go_wp2;go_ret;exact⟨by rw[c.out];rfl,_,rfl⟩
 ·have c:Hid (g=false):=by unfold Hid;rw[a];simp[f]
  clear a;have l:decide (0<e)=false:=by simpa using f
  go_enter Tryz.func39,Tryz.ntmps39;go_wp2_with fail
  go_quiet ((go_at_call 53;refine Calls.quiet_of_same (Calls.same (DN (j.drewN _)))))
  go_wp2;go_ret;exact⟨by rw[c.out];rfl,_,rfl⟩
theorem VZ {b c:Nat}{n ep d k:Int}{w:World}(e:Int)(h:IsLease w b c ep d k)(f:IsClock w c n)(g:Bool)(i:g=decide (0<e∧e=ep∧n<d)):
  Calls Tryz.prog 39 #[pr b 0,.int .i64 e] w fun x l=>x=.returned (.bool g)∧Keep [] w l:=
 (good_q e h f g i).mono fun _ _ ⟨a,m,j⟩=>⟨a,by rw[j];exact(By _ _).drewN _⟩
def Took (b c:Nat)(ep d f s e:Int)(g:Bool)(w:World)(x:Ending)(a:World):Prop:=
 x=.returned (.bool g)∧Keep [b] w a∧(if g then IsLease a b c e (s+20) e else IsLease a b c ep d f)
theorem UZ {b m:Nat}{n ep r u:Int}{w:World}(s e:Int)(h:IsLease w b m ep r u)(c:IsClock w m n)(H:b≠m)(g:Bool)(y:g=Ds n ep r u s e):
  Calls Tryz.prog 187 #[pr b 0,.int .i64 s,.int .i64 e] w (Took b m ep r u s e g w):=by
 have A:=h.blk.cell 0;have B:=h.blk.cell 1;have C:=h.blk.cell 2;have D:=h.blk.cell 3;have E:=h.blk.free 1;have F:=h.blk.free 2;have G:=h.blk.free 3;have c1:=c.lo;have c2:=c.hi;obtain⟨j,o,p⟩:=h;have j:=h_ j;simp only[List.getElem?_cons_zero,List.getElem?_cons_succ]at A B C D;have d:=h_ y;clear y;obtain⟨S,k⟩:∃S,Hid (S=Sw n s):=⟨_,rfl⟩
 have x:g=false→IsLease w b m ep r u→Took b m ep r u s e g w (.returned (.bool false)) w:=fun a h=>by subst a;exact⟨rfl,By _ _,h⟩
 have l:=h_ x;clear x;by_cases I:e<1
 ·have q:g=false:=by rw[d.out];unfold Ds;simp;omega
  have i:=h_ q;clear q d;go_enter ET,Ew
  go_wp2_with (first|(go_at_call 53;refine(DN c).mono ?_;rintro e f ⟨rfl,rfl⟩)|(go_at_call 167;refine(E0 s c _ k.out).mono ?_;rintro e f ⟨rfl,rfl⟩))
  go_ret;exact l.out i.out ⟨j.out,o,p⟩
 by_cases J:e<u
 ·have q:g=false:=by rw[d.out];unfold Ds;simp;omega
  have i:=h_ q;clear q d;go_enter ET,Ew
  go_wp2_with (first|(go_at_call 53;refine(DN c).mono ?_;rintro e f ⟨rfl,rfl⟩)|(go_at_call 167;refine(E0 s c _ k.out).mono ?_;rintro e f ⟨rfl,rfl⟩))
  go_ret;exact l.out i.out ⟨j.out,o,p⟩
 by_cases K:s<0
 ·have q:g=false:=by rw[d.out];unfold Ds;simp;omega
  have i:=h_ q;clear q d;go_enter ET,Ew
  go_wp2_with (first|(go_at_call 53;refine(DN c).mono ?_;rintro e f ⟨rfl,rfl⟩)|(go_at_call 167;refine(E0 s c _ k.out).mono ?_;rintro e f ⟨rfl,rfl⟩))
  go_ret;exact l.out i.out ⟨j.out,o,p⟩
 by_cases L:n<s
 ·have q:g=false:=by rw[d.out];unfold Ds;simp;omega
  have i:=h_ q;clear q d;go_enter ET,Ew
  go_wp2_with (first|(go_at_call 53;refine(DN c).mono ?_;rintro e f ⟨rfl,rfl⟩)|(go_at_call 167;refine(E0 s c _ k.out).mono ?_;rintro e f ⟨rfl,rfl⟩))
  go_ret;exact l.out i.out ⟨j.out,o,p⟩
 have v:S=n-s:=by rw[k.out];unfold Sw;rw[Aw (by omega)]
 by_cases M:20≤S
 ·have q:g=false:=by rw[d.out];unfold Ds;simp;omega
  have i:=h_ q;clear q d v;go_enter ET,Ew
  go_wp2_with (first|(go_at_call 53;refine(DN c).mono ?_;rintro e f ⟨rfl,rfl⟩)|(go_at_call 167;refine(E0 s c _ k.out).mono ?_;rintro e f ⟨rfl,rfl⟩))
  go_ret;exact l.out i.out ⟨j.out,o,p⟩
 by_cases t:e=ep
 ·by_cases N:s+20≤r
  ·have q:g=false:=by rw[d.out];unfold Ds;simp;omega
   have i:=h_ q;have z:(e==ep)=true:=by simpa using t
   clear q d v t;go_enter ET,Ew
   go_wp2_with (first|(go_at_call 53;refine(DN c).mono ?_;rintro e f ⟨rfl,rfl⟩)|(go_at_call 167;refine(E0 s c _ k.out).mono ?_;rintro e f ⟨rfl,rfl⟩))
   go_ret;exact l.out i.out ⟨j.out,o,p⟩
  ·have q:g=true:=by rw[d.out];unfold Ds;simp;omega
   subst q;have z:(e==ep)=true:=by simpa using t
   clear d v t;go_enter ET,Ew
   go_wp2_with (first|(go_at_call 53;refine(DN c).mono ?_;rintro e f ⟨rfl,rfl⟩)|(go_at_call 167;refine(E0 s c _ k.out).mono ?_;rintro e f ⟨rfl,rfl⟩))
   go_ret;exact⟨rfl,(((By _ _).setCell (by simp) _).setCell (by simp) _).setCell (by simp) _,⟨((j.out.set 1 _).set 2 _).set 3 _,by omega,by omega⟩⟩
 ·have q:g=true:=by rw[d.out];unfold Ds;simp;omega
  subst q;have z:(e==ep)=false:=by simpa using t
  clear d v t;go_enter ET,Ew
  go_wp2_with (first|(go_at_call 53;refine(DN c).mono ?_;rintro e f ⟨rfl,rfl⟩)|(go_at_call 167;refine(E0 s c _ k.out).mono ?_;rintro e f ⟨rfl,rfl⟩))
  go_ret;exact⟨rfl,(((By _ _).setCell (by simp) _).setCell (by simp) _).setCell (by simp) _,⟨((j.out.set 1 _).set 2 _).set 3 _,by omega,by omega⟩⟩
theorem Wg {b c:Nat}{ep e k:Int}{w:World}(h:IsLease w b c ep e k):
  Calls Tryz.prog 230 #[pr b 0] w fun x d=>x=.returned (.tuple #[])∧Keep [b] w d∧IsLease d b c 0 0 0:=by
 have f:=h.blk.cell 0;have g:=h.blk.cell 1;have i:=h.blk.cell 2;have j:=h.blk.cell 3;have n:=h.blk.free 1;have o:=h.blk.free 2;have p:=h.blk.free 3;obtain⟨a,l,m⟩:=h;have a:=h_ a;simp only[List.getElem?_cons_zero,List.getElem?_cons_succ]at f g i j;go_enter Tryz.func230,Tryz.ntmps230;go_wp2
 go_end0
 exact⟨rfl,(((By _ _).setCell (by simp) _).setCell (by simp) _).setCell (by simp) _,⟨((a.out.set 1 _).set 2 _).set 3 _,by omega,by omega⟩⟩
theorem VC (a:Nat)(w:World):
  Calls Tryz.prog 159 #[pr a 0] w fun x b=>x=.returned (pr w.heap.size 0)∧Keep [] w b∧IsLease b w.heap.size a 0 0 0:=by
 go_enter Tryz.func159,Tryz.ntmps159;go_wp2;go_ret;exact⟨rfl,(By _ _).alloc _,⟨BY _ _ _,by decide,by decide⟩⟩
def plC (p:Pl):List Value:=[.string p.key,.int .i64 (p.pos:Int),.bool p.has,.bool p.gone]
theorem KM (p:Pl):(plC p).length =4:=rfl
theorem SE (p:Pl):∀v∈plC p,v.oneCell'=true:=by intro v a;simp only[plC,Ac,Am,AG]at a;rcases a with rfl|rfl|rfl|rfl<;>rfl
structure IxAt (w:World) (p g:Nat) (t:Tab) (cnt used:Nat):Prop where
 blk:Blk w p [.slice (some ⟨g,0,none⟩) t.length t.length,.int .i64 (cnt:Int),.int .i64 (used:Int)] 326
 row:Blk w g (rows plC t) 330
 len:0<t.length∧t.length≤100000
 keys:∀x∈t,x.key.size≤1000∧x.pos≤1099511627776
 lim:cnt≤t.length∧used≤t.length
section
variable {w w':World} {p g:Nat} {t:Tab} {cnt used:Nat}
theorem IxAt.keep {S:List Nat}(h:IxAt w p g t cnt used)(k:Keep S w w')(b:∀q∈S,q∉ [p,g]):IxAt w' p g t cnt used:=
 ⟨h.blk.keep k (fun a=>b p a (by simp)),h.row.keep k (fun a=>b g a (by simp)),h.len,h.keys,h.lim⟩
theorem IxAt.still (h:IxAt w p g t cnt used)(k:Keep [] w w'):IxAt w' p g t cnt used:=h.keep k (by simp)
theorem IxAt.cells (h:IxAt w p g t cnt used)(i:Nat)(x:Pl)(b:t[i]?=some x):w.cell? ⟨g,i*4,none⟩=some (.string x.key)∧w.cell? ⟨g,i*4+1,none⟩=some (.int .i64 (x.pos:Int))∧w.cell? ⟨g,i*4+2,none⟩=some (.bool x.has)∧w.cell? ⟨g,i*4+3,none⟩=some (.bool x.gone):=by
 have a:∀j,j<4→w.cell? ⟨g,i*4+j,none⟩=(plC x)[j]?:=fun j a=>by rw[h.row.cell];exact I9 KM t i x j b a
 exact⟨a 0 (by decide),a 1 (by decide),a 2 (by decide),a 3 (by decide)⟩
theorem IxAt.range (h:IxAt w p g t cnt used)(i:Nat)(x:Pl)(c:t[i]?=some x):w.rangeAt g (i*4) (plC x):=fun j v a=>by have b:j<4:=(Ai.1 a).1;rw[h.row.cell,I9 KM t i x j c b];exact a
def JN:Option Nat→Int
 |none=>-1
 |some i=>(i:Int)
def findS (a:World)(key:Str)(L:Nat→Bool)(X:Nat→Value)(W:World):Prop:=
 Keep [] a W∧(L 1=true→∃b,X 1=.slice (some ⟨b,0,none⟩) 1 1∧W.cell? ⟨b,0,none⟩=some (.string key))
theorem Hl (h:IxAt w p g t cnt used)(key:Str)(hk:key.size≤1000):Calls Tryz.prog 221 #[pr p 0,.string key] w fun e w'=>
  e=.returned (.tuple #[.int .i64 (JN (find t key).1),.int .i64 (JN (find t key).2)])∧Keep [] w w':=by
 have H:=h_ h;have ag:=h.len;have au:=P3 (sb key);obtain⟨b,N⟩:∃b,b=t.length:=⟨_,rfl⟩;rw[←N]at ag;have z:=h_ N;have f:=h.blk;rw[←N]at f;have Q:=h_ f;obtain⟨m0,S⟩:∃m0,m0=IN (sb key) % b:=⟨_,rfl⟩;have e8:IntKind.u64.wrap (b:Int)=(b:Int):=by rw[Dy];omega
 have e9:((IN (sb key):Nat):Int).tmod (b:Int)=(m0:Int):=by rw[EO (by omega),S];exact(Int.natCast_emod _ _).symm
 have an:m0<b:=by rw[S];exact C1 _ ag.1
 have ak:IntKind.i64.wrap (m0:Int)=(m0:Int):=by rw[A9];omega
 have ai:Hid (probe t key 0=m0):=h_ (by unfold probe FZ;rw[Nat.add_zero,←N,←S];exact AR an);have aw:¬b=0:=by omega
 clear N h f S;go_enter Tryz.func221,Tryz.ntmps221;go_wp2_with fail;refine wM (A:=[0,1,3,0,8,24,56,120,248,511,1023,2047]) 2 [fun _=> .string key,fun _=>undef,fun _=> .int .u64 (IN (sb key):Int),fun _=>pr p 0,fun _=>pr p 0,fun _=>pr p 0,fun _=> .slice (some ⟨g,0,none⟩) b b,fun _=> .int .i64 (b:Int),fun _=> .int .u64 (b:Int),fun _=> .int .u64 (m0:Int),fun _=> .int .i64 (m0:Int),fun _=> .int .i64 (m0:Int)] (findS w key) ?start (.s ?m0<|.t ?m1<|.s ?m2<|.s ?m3<|.s ?m4<|.s ?m5<|.s ?m6<|.s ?m7<|.s ?m8<|.s ?m9<|.s ?m10<|.s ?m11<|.nil) ?fin
 case start=>intro X;exact⟨(By _ _).drew,fun h=>absurd h (by decide)⟩
 case m1=>intro U X x W c hl F D n M L B f K' E;have J:=h_ c;have C:=(Q.out.keep c.1 (by simp)).cell 0;clear c;simp[mV,mY,Ab]at n;simp only[Al,Act.put,A8,A7,A6,n]at f;subst f;clear F D M L;go_simp;have kk:Keep [] W (W.alloc (.cells #[.string key] 9)):=(By _ _).alloc _;have al:=BY W [.string key] 9;exact E _ _ _ rfl ⟨J.out.1.trans kk,fun _=>⟨W.heap.size,Bh _ _ _,al.cell 0⟩⟩
 case fin=>
  intro U X w2 c hd;have r:=c.1;have HK:=h_ r;obtain⟨x1,O⟩:∃v,v=X 1:=⟨_,rfl⟩;simp[Al,Act.put,FK,Ab];rw[←O];clear c hd r O e8 e9 ak;have C:=(Q.out.keep HK.out (by simp)).cell 0;go_wp2_with fail;clear C
  go_loopw [25,7,6] (fun ao s7 s6 wr=>∃(k:Nat) (m:Option Nat),ao=.int .i64 (k:Int)∧k≤b∧s7=.int .i64 (probe t key k:Int)∧s6=.int .i64 (JN m)∧find t key=Fv t key (b-k) k m∧Keep [] w wr) (fun x _ _ _=>b+1-(intOf x).toNat)
  case atStart=>exact⟨0,none,rfl,AA _,by rw[ai.out],rfl,by rw[z.out];rfl,HK.out⟩
  case round=>
  obtain⟨k,m,rfl,ap,rfl,rfl,G,r⟩:=hrel;have K:=H.out.still r;have C:=K.blk.cell 0;rw[←z.out]at C;have ac:=h_ r;by_cases aq:k<b
  ·have q0:decide ((k:Int)<(b:Int))=true:=An (by omega)
   have ah:probe t key k<b:=by rw[z.out];exact Ip H.out.len.1 key k
   obtain⟨x,hx⟩:∃x,t[probe t key k]?=some x:=⟨_,Ad (by rw[←z.out];exact ah)⟩;have hr:=K.range _ x hx;have af:t.getD (probe t key k) pl0=x:=by rw[Af,hx];rfl
   have aa:=Re H.out.len.1 key k;obtain⟨d,T⟩:∃d,d=probe t key k:=⟨_,rfl⟩;rw[←T]at hr ah aa⊢
   have ae:Fv t key (b-k) k m=(if x.has=true∧x.key=key then(some d,some d)else let f':=if x.has=false∧m=none then some d else m;if x.has=false∧x.gone=false then(none,f')else Fv t key (b-(k+1)) (k+1) f'):=by
    rw[show b-k=(b-(k+1))+1 by omega]
    conv=>lhs;unfold Fv
    rw[af,←T]
   rw[ae]at G;obtain⟨u,y,aj⟩:=i_3 G hr aa;have q:=h_ (ac.out.alloc (.cells #[.string x.key,.int .i64 (x.pos:Int),.bool x.has,.bool x.gone] 330));have ad:=(K.blk.alloc (.cells #[.string x.key,.int .i64 (x.pos:Int),.bool x.has,.bool x.gone] 330)).cell 0;rw[←z.out]at ad;obtain⟨o,I,xh,P⟩:=x;simp only at u q ad;have HQ:=h_ T;clear K r G hr aa hx af ae T;obtain⟨ab,Z⟩:∃ab,ab=probe t key (k+1):=⟨_,rfl⟩;have V:=h_ Z
   have ar:((d:Int)+1).tmod (b:Int)=(ab:Int):=by rw[EO (by omega),Z,aj.out,←z.out,show(d:Int)+1=((d+1:Nat):Int) by omega];exact(Int.natCast_emod _ _).symm
   clear Z
   cases xh with
   |true=>
    by_cases R:o=key
    ·subst R
     have a:=u.out;rw[Ay ⟨rfl,rfl⟩]at a;have j:=h_ a;clear a
     go_wp2_with (refine Bc rfl 330 _ rfl g (d*4) rfl [.string o,.int .i64 (I:Int),.bool true,.bool P] _ y.out C9 rfl (by rfl) ?_)
     go_ret2;exact⟨by rw[j.out];rfl,q.out⟩
    ·have a:=u.out
     rw[Aw (fun h=>R h.2)]at a;have l:¬(true=false∧m=none):=fun h=>by cases h.1
     have i:¬(true=false∧P=false):=fun h=>by cases h.1
     simp only[Aw l,Aw i]at a;have av:(o.toList==key.toList)=false:=by simpa using fun e=>R (Nr e)
     have j:=h_ a;clear a R l i
     go_wp2_with (refine Bc rfl 330 _ rfl g (d*4) rfl [.string o,.int .i64 (I:Int),.bool true,.bool P] _ y.out C9 rfl (by rfl) ?_)
     go_roundw
     case rel=>exact⟨k+1,m,by go_num,by omega,by rw[V.out],rfl,j.out,q.out⟩
     case measure=>simp only[intOf];omega
   |false=>
    have a:=u.out;rw[Aw (fun h=>by cases h.1)]at a
    cases m with
    |none=>
     have l:(false=false∧(none:Option Nat)=none):=⟨rfl,rfl⟩;simp only[Ay l]at a
     cases P with
     |false=>
      have i:(false=false∧false=false):=⟨rfl,rfl⟩;simp only[Ay i]at a;have j:=h_ a;clear a l i;simp only[JN]
      go_wp2_with (refine Bc rfl 330 _ rfl g (d*4) rfl [.string o,.int .i64 (I:Int),.bool false,.bool false] _ y.out C9 rfl (by rfl) ?_)
      go_ret2;exact⟨by rw[j.out];rfl,q.out⟩
     |true=>
      have i:¬(false=false∧true=false):=fun h=>by cases h.2
      simp at a;have j:=h_ a;clear a l i;simp only[JN]
      go_wp2_with (refine Bc rfl 330 _ rfl g (d*4) rfl [.string o,.int .i64 (I:Int),.bool false,.bool true] _ y.out C9 rfl (by rfl) ?_)
      go_roundw
      case rel=>exact⟨k+1,some d,by go_num,by omega,by rw[V.out],rfl,j.out,q.out⟩
      case measure=>simp only[intOf];omega
    |some f0=>
     have l:¬(false=false∧(some f0:Option Nat)=none):=fun h=>by cases h.2
     simp only[Aw l]at a;have q8:¬(f0:Int)<0:=by omega
     cases P with
     |false=>
      have i:(false=false∧false=false):=⟨rfl,rfl⟩;simp only[Ay i]at a;have j:=h_ a;clear a l i;simp only[JN]
      go_wp2_with (refine Bc rfl 330 _ rfl g (d*4) rfl [.string o,.int .i64 (I:Int),.bool false,.bool false] _ y.out C9 rfl (by rfl) ?_)
      go_ret2;exact⟨by rw[j.out];rfl,q.out⟩
     |true=>
      have i:¬(false=false∧true=false):=fun h=>by cases h.2
      simp at a;have j:=h_ a;clear a l i;simp only[JN]
      go_wp2_with (refine Bc rfl 330 _ rfl g (d*4) rfl [.string o,.int .i64 (I:Int),.bool false,.bool true] _ y.out C9 rfl (by rfl) ?_)
      go_roundw
      case rel=>exact⟨k+1,some f0,by go_num,by omega,by rw[V.out],rfl,j.out,q.out⟩
      case measure=>simp only[intOf];omega
  ·have he:k=b:=by omega
   subst he;have q0:decide ((k:Int)<(k:Int))=false:=Ak (by omega);rw[C8]at G;have u:=h_ G;clear G K r;go_wp2;go_ret2;exact⟨by rw[u.out];rfl,ac.out⟩
 case m2=>intro U X x W c F D n M L B f K' E;have u1:U 1=true:=D 1 (by decide);have Y:=F 1 u1;obtain⟨b1,O,am⟩:=c.2 u1;rw[O]at Y;clear F D M L;have J:=h_ c;have C:=(Q.out.keep c.1 (by simp)).cell 0;clear c;simp[mV,mY,Ab]at n;simp only[Al,Act.put,A8,A7,A6,n]at f;subst f;simp only[←Y]at E⊢;clear Y O;go_simp;refine(Sr b1 1 1 rfl key am (by omega)).mono ?_;rintro e w2 ⟨rfl,rfl⟩;go_simp;exact E _ _ _ rfl rfl J.out
 all_goals intro U X x W c F D n M L B f K' E;clear F D M L;have J:=h_ c;have C:=(Q.out.keep c.1 (by simp)).cell 0;clear c;simp[mV,mY,Ab]at n;simp only[Al,Act.put,A8,A7,A6,n]at f;subst f;go_simp;exact E _ _ _ rfl rfl J.out
end
section
variable {w w':World} {p g:Nat} {t:Tab} {cnt used:Nat}
def EP:Tab:=List.replicate 16 pl0
theorem Tryz.infoPlace:(Tryz.prog.info? 330).map (fun i=>(i.zero,i.size,i.bytes))=some (some (.agg #[.string ByteArray.empty,.int .i64 0,.bool false,.bool false]),4,32):=by kernel_rfl
theorem Tryz.sizePlace:(Tryz.prog.info? 330).map (·.size)=some 4:=by kernel_rfl
theorem Tu:madeCells (Value.agg #[.string ByteArray.empty,.int .i64 0,.bool false,.bool false]).cells (Int.toNat 16*4)=(rows plC EP).toArray :=by kernel_rfl
theorem IC {w:World}:Calls Tryz.prog 247 #[] w fun e w'=>∃p g,e=.returned (pr p 0)∧IxAt w' p g EP 0 0∧Keep [] w w'∧w.heap.size≤p∧w.heap.size≤g:=by
 obtain⟨o,i,l,m,n⟩:=AU Tryz.infoPlace;have d:=fun W:World=>run_make (P:=Tryz.prog) W 324 330 o _ Tryz.underlying324 i l .i64 .i64 16 16 (by omega) (by omega) (by rw[n];omega) (by omega)
 have b:Hid (∀W:World,(Instr.makeSlice 324 (.int .i64 16) (.int .i64 16)).run Tryz.prog W=.ok (.slice (some ⟨W.heap.size,0,none⟩) 16 16) (W.alloc (.cells (rows plC EP).toArray 330))):=h_ (fun W=>by rw[d W,m,Tu];rfl)
 have j:=b.out;obtain⟨rs,a⟩:∃rs,rs=(rows plC EP).toArray :=⟨_,rfl⟩;rw[←a]at j;have h:=h_ a;clear d a b;go_enter Tryz.func247,Tryz.ntmps247;go_wp2;go_ret;have c:=BY w (rows plC EP) 330;rw[←h.out]at c;have q:Keep [] w (w.alloc (.cells rs 330)):=(By _ _).alloc _;have f:Keep [] (w.alloc (.cells rs 330)) ((w.alloc (.cells rs 330)).alloc (.cells #[.slice (some ⟨w.heap.size,0,none⟩) 16 16,.int .i64 0,.int .i64 0] 326)):=(By _ _).alloc _;refine⟨_,w.heap.size,rfl,⟨Yt _ [.slice (some ⟨w.heap.size,0,none⟩) 16 16,.int .i64 0,.int .i64 0] _ _ (by simp),c.keep f (by simp),by decide, ?_,by decide⟩,q.trans f,by omega,by omega⟩;intro x k;have:=DL k;subst this;decide
theorem R9 (h:IxAt w p g t cnt used)(key:Str)(f:key.size≤1000)(c:(find t key).1 =none):Calls Tryz.prog 278 #[pr p 0,.string key] w fun e w'=>e=.returned (.tuple #[.int .i64 0,.bool false])∧Keep [] w w':=by have a:=h_ (Hl h key f);rw[c]at a;obtain⟨b,d⟩:∃b,b=JN (find t key).2 :=⟨_,rfl⟩;rw[←d]at a;clear h c d;go_enter Tryz.func278,Tryz.ntmps278;go_wp2_with fail;refine a.out.mono ?_;rintro e j ⟨rfl,i⟩;simp only[JN];go_wp2;go_ret2;exact⟨rfl,i⟩
theorem R8 (h:IxAt w p g t cnt used)(key:Str)(z:key.size≤1000)(i:Nat)(x:Pl)(l:(find t key).1 =some i)(d:t[i]?=some x):Calls Tryz.prog 278 #[pr p 0,.string key] w fun e w'=>e=.returned (.tuple #[.int .i64 (x.pos:Int),.bool true])∧Keep [] w w':=by
 have H:=h_ h;have a:=h_ (Hl h key z);rw[l]at a;have y:=(Ai.1 d).1;have s:=h_ d;obtain⟨k,m⟩:∃k,k=JN (find t key).2 :=⟨_,rfl⟩;rw[←m]at a;obtain⟨n,c⟩:∃n,n=t.length:=⟨_,rfl⟩;rw[←c]at y;have r:=h_ c;obtain⟨o,f⟩:∃o,o=x.pos:=⟨_,rfl⟩;have u:=h_ f;rw[←f];clear l d m h c f;go_enter Tryz.func278,Tryz.ntmps278;go_wp2_with fail;refine a.out.mono ?_;rintro e B ⟨rfl,j⟩;have b:=H.out.still j;have v:=b.blk.cell 0;rw[←r.out]at v;obtain⟨_,c1,_,_⟩:=b.cells i x s.out;rw[←u.out]at c1;have q:=h_ j;clear b j;simp only[JN];have A:¬(i:Int)<0:=by omega
 go_wp2;go_ret2;exact⟨rfl,q.out⟩
theorem PC (h:IxAt w p g t cnt used)(pos:Int)(s:∀x∈t,x.has=true→pos≤(x.pos:Int)):Calls Tryz.prog 217 #[pr p 0,.int .i64 pos] w fun e w'=>
  e=.returned (.int .i64 0)∧IxAt w' p g t cnt used∧Keep [p] w w':=by
 have H:=h_ h;have E:=h.len;have z:=h_ s;obtain⟨b,d⟩:∃b,b=t.length:=⟨_,rfl⟩;rw[←d]at E;have r:=h.blk.cell 0;rw[←d]at r;have A:=h_ d;have G:p≠g:=h.blk.ty.ne h.row.ty (by decide);clear h d s;go_enter Tryz.func217,Tryz.ntmps217;go_wp2_with fail;clear r
 go_loopw [15,5] (fun J K wr=>∃k:Nat,J=.int .i64 (k:Int)∧K=.int .i64 0∧k≤b∧Keep [] w wr) (fun x _ _=>b+1-(intOf x).toNat)
 case atStart=>exact⟨0,rfl,rfl,AA _,By _ _⟩
 case round=>
 obtain⟨k,rfl,rfl,N,c⟩:=hrel;have a:=H.out.still c;have i:=h_ c;by_cases F:k<b
 ·have I:decide ((k:Int)<(b:Int))=true:=An (by omega)
  obtain⟨x,j⟩:∃x,t[k]?=some x:=⟨_,Ad (by rw[←A.out];exact F)⟩;have u:=a.range k x j;have l:=z.out x (Aq j);obtain⟨n,f,y,m⟩:=x;simp only at l;have q:=h_ u;have o:=h_ (i.out.alloc (.cells #[.string n,.int .i64 (f:Int),.bool y,.bool m] 330));have B:=h_ l;clear a c u j l
  cases y with
  |false=>
   go_wp2_with (refine Bc rfl 330 _ rfl g (k*4) rfl [.string n,.int .i64 (f:Int),.bool false,.bool m] _ q.out C9 rfl (by rfl) ?_)
   go_roundw
   case rel=>exact⟨k+1,by go_num,rfl,by omega,o.out⟩
   case measure=>simp only[intOf];omega
  |true=>
   have O:¬(f:Int)<pos:=by have:=B.out rfl;omega
   go_wp2_with (refine Bc rfl 330 _ rfl g (k*4) rfl [.string n,.int .i64 (f:Int),.bool true,.bool m] _ q.out C9 rfl (by rfl) ?_)
   go_roundw
   case rel=>exact⟨k+1,by go_num,rfl,by omega,o.out⟩
   case measure=>simp only[intOf];omega
 ·have D:k=b:=by omega
  subst D;have I:decide ((k:Int)<(k:Int))=false:=Ak (by omega);have c1:=a.blk.cell 1;have L:=a.blk.free 1;have M:cnt≤100000:=AJ a.lim.1 H.out.len.2;clear a c;go_wp2;go_ret;have a:=H.out.still i.out;have C:=a.blk.set 1 (.int .i64 (cnt:Int));have v:Keep [p] wr (wr.setCell ⟨p,1,none⟩ (.int .i64 (cnt:Int))):=(By _ _).setCell (.inl (by simp)) _;exact⟨rfl,⟨C,a.row.keep v (by simpa using G.symm),a.len,a.keys,a.lim⟩,(i.out.mono (by simp)).trans v⟩
end
section
variable {w w':World} {p g:Nat} {t:Tab} {cnt used:Nat}
theorem MX (h:IxAt w p g t cnt used)(ak:2*used<t.length)(key:Str)(B:key.size≤1000)(pos:Nat)(ab:pos≤1099511627776)(i:Nat)(x:Pl)(N:(find t key).1 =none)(O:(find t key).2 =some i)(R:t[i]?=some x)(Q:used+(if x.gone=true then 0 else 1)≤t.length∧cnt+1≤t.length):
  Calls Tryz.prog 175 #[pr p 0,.string key,.int .i64 (pos:Int)] w fun e w'=>e=.returned (.int .i64 0)∧IxAt w' p g (t.set i ⟨key,pos,true,false⟩) (cnt+1) (used+(if x.gone=true then 0 else 1))∧Keep [p,g] w w':=by
 have H:=h_ h;have hF:=Hl h key B;rw[N,O]at hF;simp only[JN]at hF;have HF:=h_ hF;have aj:=h.len;have aa:=(Ai.1 R).1;obtain⟨s,C⟩:∃s,s=t.length:=⟨_,rfl⟩;rw[←C]at aj aa ak Q;have c:=h.blk.cell 0;have c2:=h.blk.cell 2;rw[←C]at c;obtain⟨j,I⟩:=i_2 C R;have q:p≠g:=h.blk.ty.ne h.row.ty (by decide);have q0:decide (2*(used:Int)≥(s:Int))=false:=Ak (by omega);have ao:¬(s:Int)≤2*(used:Int):=by omega
 obtain⟨ag,ah⟩:=i_2 N O;clear h C N O hF R;go_enter Tryz.func175,Tryz.ntmps175;go_wp2_with fail
 go_quiet (fail)
 have J:Keep [] w (w.drewN nq):=⟨rfl,rfl,rfl,Av _,fun _ _ _=>rfl⟩;have z:=h_ ((Hl (H.out.still J) key B));rw[ag.out,ah.out]at z;simp only[JN]at z;have G:=h_ J;obtain⟨w1,af⟩:∃W,W=w.drewN nq:=⟨_,rfl⟩;rw[←af]at G z⊢;clear J af c c2;go_wp2_with fail;refine z.out.mono ?_;rintro e S ⟨rfl,m⟩;have a:=H.out.still (G.out.trans m);have c:=a.blk.cell 0;rw[←j.out]at c;have c1:=a.blk.cell 1;have c2:=a.blk.cell 2;have K:=a.blk.free 1;have L:=a.blk.free 2;obtain⟨_,_,_,k⟩:=a.cells i x I.out;have f:=h_2 a (G.out.trans m);obtain⟨xk,xp,xh,xg⟩:=x;simp only at k;have am:¬(i:Int)<0:=by omega
 have ae:=Vn KM t i ⟨key,pos,true,false⟩ (by rw[←j.out];exact aa);have Z:=h_ ae;have ac:i*4+4≤(rows plC t).length :=by rw[Eo KM,←j.out];omega
 have X:=h_ ac;have ad:=a.row;have Y:=h_ ad;have al:cnt≤100000:=AJ a.lim.1 a.len.2;have an:used≤100000:=AJ a.lim.2 a.len.2;have HU:=h_ Q;have ai:=h_2 B ab;clear a m ae ac ad c k Q B ab
 have V:∀(u:Nat) (D:World),used≤u→u≤s→Blk D p [.slice (some ⟨g,0,none⟩) t.length t.length,.int .i64 ((cnt:Int)+1),.int .i64 (u:Int)] 326→Blk D g (rows plC (t.set i ⟨key,pos,true,false⟩)) 330→IxAt D p g (t.set i ⟨key,pos,true,false⟩) (cnt+1) u:=fun u D h1 h2 hb hr=>⟨by rw[Bi];push_cast;exact hb,hr,by rw[Bi];exact f.out.1.len,fun y hy=>by
  rcases DC hy with h|h
  ·exact f.out.1.keys y h
  ·subst h;exact ai.out,by rw[Bi,←j.out];exact⟨by have:=HU.out.2;rw[←j.out]at*;omega,h2⟩⟩
 have U:=h_ V;clear V
 cases xg with
 |true=>
  have c:=f.out.1.blk.cell 0;rw[←j.out]at c;obtain⟨_,_,_,k⟩:=f.out.1.cells i ⟨xk,xp,xh,true⟩ I.out;simp only at k
  go_wp2_with (refine DM (T:=330) rfl 330 _ _ rfl g (i*4) (rows plC t) [.string key,.int .i64 (pos:Int),.bool true,.bool false] rfl rfl Y.out X.out Tryz.sizePlace (SE ⟨key,pos,true,false⟩) ?_;intro v l d;have b:=f.out.1.blk.keep d (by simpa using q);have e1:=b.cell 1;have g1:=b.free 1;have F:=h_3 b l d;clear b l d c c1 c2 K L k)
  go_ret;obtain⟨b,l,d⟩:=F.out;have M:=b.set 1 (.int .i64 ((cnt:Int)+1));have r:Keep [p] v (v.setCell ⟨p,1,none⟩ (.int .i64 ((cnt:Int)+1))):=(By _ _).setCell (.inl (by simp)) _;have n:=l.keep r (by simpa using q.symm);change Blk _ g (BQ (rows plC t) (i*4) (plC ⟨key,pos,true,false⟩)) _ at n;rw[Z.out]at n;refine⟨rfl,U.out used _ (Av _) (by have:=f.out.1.lim.2;rw[←j.out]at this;exact this) M n, ?_⟩;exact((f.out.2.mono (S':=[p,g]) (by simp)).trans (d.mono (S':=[p,g]) (by simp))).trans (r.mono (S':=[p,g]) (by simp))
 |false=>
  have c:=f.out.1.blk.cell 0;rw[←j.out]at c;obtain⟨_,_,_,k⟩:=f.out.1.cells i ⟨xk,xp,xh,false⟩ I.out;simp only at k;have A:=f.out.1.blk.set 2 (.int .i64 ((used:Int)+1));have m:Keep [p] S (S.setCell ⟨p,2,none⟩ (.int .i64 ((used:Int)+1))):=(By _ _).setCell (.inl (by simp)) _;have P:=Y.out.keep m (by simpa using q.symm);obtain⟨ap,o⟩:∃W,W=S.setCell ⟨p,2,none⟩ (.int .i64 ((used:Int)+1)):=⟨_,rfl⟩;rw[←o]at A m P;have e0:=A.cell 0;rw[←j.out]at e0;have E:=h_3 A m P;clear A m P
  go_wp2_with (first|(rw[←o];clear o c c1 c2 K L k;fail)|(refine DM (T:=330) rfl 330 _ _ rfl g (i*4) (rows plC t) [.string key,.int .i64 (pos:Int),.bool true,.bool false] rfl rfl (by rw[←o];exact E.out.2.2) X.out Tryz.sizePlace (SE ⟨key,pos,true,false⟩) ?_;intro v l d;rw[←o]at d;have b:=E.out.1.keep d (by simpa using q);have e1:=b.cell 1;have g1:=b.free 1;have F:=h_3 b l d;clear b l d c c1 c2 K L k e0 o))
  go_ret;obtain⟨b,l,d⟩:=F.out;have M:=b.set 1 (.int .i64 ((cnt:Int)+1));have r:Keep [p] v (v.setCell ⟨p,1,none⟩ (.int .i64 ((cnt:Int)+1))):=(By _ _).setCell (.inl (by simp)) _;have n:=l.keep r (by simpa using q.symm);change Blk _ g (BQ (rows plC t) (i*4) (plC ⟨key,pos,true,false⟩)) _ at n;rw[Z.out]at n;refine⟨rfl,U.out (used+1) _ (by omega) (by have:=HU.out.1;rw[Aw (by simp)]at this;exact this) (by push_cast;exact M) n, ?_⟩;exact(((f.out.2.mono (S':=[p,g]) (by simp)).trans (E.out.2.1.mono (S':=[p,g]) (by simp))).trans (d.mono (S':=[p,g]) (by simp))).trans (r.mono (S':=[p,g]) (by simp))
end
structure TkAt (w:World) (p g n last:Nat) (B:List Nat) (tk:Int→Option (Nat×Str×Bool)):Prop where
 blk:Blk w p [.int .i64 (last:Int),.map (some g)] 274
 map:MV Tryz.prog 2 kyI w g n (fun i=>(tk i).map (fun t=> .pointer (some ⟨t.1,0,none⟩)))
 giv:∀i t,tk i=some t→t.1∈B∧Blk w t.1 [.string t.2.1,.bool t.2.2] 276
 lim:n≤100000∧last≤100000
 new:∀i:Int,(last:Int)<i→tk i=none
 lt:∀q∈B,q<w.heap.size
def KG (p g:Nat)(B:List Nat):List Nat:=p::g::B
def giveS (a:World)(p g n last:Nat)(B:List Nat)(tk:Int→Option (Nat×Str×Bool))(key:Str)(L:Nat→Bool)(X:Nat→Value)(W:World):Prop:=
 ∃b,Keep [g] a W∧Blk W p [.int .i64 ((last:Int)+1),.map (some g)] 274∧(L 11=false→MV Tryz.prog 2 kyI W g n (fun i=>(tk i).map (fun t=>pr t.1 0)))∧
 (L 10=true→X 10=pr b 0∧Blk W b [.string key,.bool true] 276∧a.heap.size≤b)∧
 (L 11=true→MV Tryz.prog 2 kyI W g (n+1) (fun i=>if i=(last:Int)+1 then some (pr b 0)else(tk i).map (fun t=>pr t.1 0)))∧(L 11=true→L 10=true)
section
variable {w w':World} {p g n last:Nat} {B:List Nat} {tk:Int→Option (Nat×Str×Bool)}
theorem TkAt.keep {S:List Nat}(h:TkAt w p g n last B tk)(k:Keep S w w')(b:∀q∈S,q∉KG p g B):TkAt w' p g n last B tk:=
 ⟨h.blk.keep k (fun a=>b p a (by simp[KG])),h.map.keep k (fun a=>b g a (by simp[KG])),fun i t c=>⟨(h.giv i t c).1,(h.giv i t c).2.keep k (fun a=>b _ a (by simp[KG,(h.giv i t c).1]))⟩,h.lim,h.new,fun q d=>AW (h.lt q d) k.size⟩
theorem Tr {w:World}:Calls Tryz.prog 160 #[] w fun e w'=>∃p g,e=.returned (pr p 0)∧TkAt w' p g 0 0 [] (fun _=>none)∧Keep [] w w'∧w.heap.size≤p∧w.heap.size≤g:=by have b:=MV.made Tryz.prog 2 kyI w;have c:(Instr.makeMap 272 none).run Tryz.prog w=.ok (.map (some w.heap.size)) (w.alloc (.map #[] 0)):=run_makeMap _ _;go_enter Tryz.func160,Tryz.ntmps160;go_wp2;go_ret;have a:Keep [] (w.alloc (.map #[] 0)) ((w.alloc (.map #[] 0)).alloc (.cells #[.int .i64 0,.map (some w.heap.size)] 274)):=(By _ _).alloc _;refine⟨_,w.heap.size,rfl,⟨Yt _ [.int .i64 0,.map (some w.heap.size)] _ _ (by simp),(b.keep a (by simp)),(fun i t h=>by cases h),⟨by omega,by omega⟩,fun _ _=>rfl,by simp⟩,((By _ _).alloc _).trans a,by omega,by omega⟩
theorem QI (h:TkAt w p g n last B tk)(J:last<100000∧n<100000)(key:Str):Calls Tryz.prog 228 #[pr p 0,.string key] w fun e w'=>∃b,e=.returned (.int .i64 ((last+1:Nat):Int))∧
  TkAt w' p g (n+1) (last+1) (b::B) (fun i=>if i=((last+1:Nat):Int)then some (b,key,true)else tk i)∧Keep [p,g] w w'∧w.heap.size≤b:=by
 have c0:=h.blk.cell 0;have f0:=h.blk.free 0;have q0:decide ((last:Int)≥1099511627776)=false:=Ak (by omega);have q1:¬(1099511627776:Int)≤(last:Int):=by omega
 have ag:p≠g:=h.map.ne h.blk.ty;have H:=h_ h;obtain⟨Q,P⟩:∃Q,Q=w.setCell ⟨p,0,none⟩ (.int .i64 ((last:Int)+1)):=⟨_,rfl⟩;have f:=h.blk.set 0 (.int .i64 ((last:Int)+1));have k:Keep [p] w Q:=by rw[P];exact(By _ _).setCell (.inl (by simp)) _
 rw[←P]at f;have S:=f.cell 0;have T:=f.cell 1;have ac:=h_2 f k;clear h f k;go_enter Tryz.func228,Tryz.ntmps228;go_wp2_with fail;rw[←P];clear P f0 c0 q0 q1;refine wM (A:=[0,1,3,7,0,16,48,112,0,256,768,2047]) 3072 [fun _=>pr p 0,fun _=>pr p 0,fun _=>pr p 1,fun _=> .map (some g),fun _=>pr p 0,fun _=>pr p 0,fun _=>pr p 0,fun _=> .int .i64 ((last:Int)+1),fun _=> .string key,fun _=> .agg #[.string key,.bool true],fun _=>undef,fun _=>undef] (giveS Q p g n last B tk key) ?start (.s ?m0<|.s ?m1<|.s ?m2<|.s ?m3<|.s ?m4<|.s ?m5<|.s ?m6<|.s ?m7<|.s ?m8<|.s ?m9<|.t ?m10<|.t ?m11<|.nil) ?fin
 case start=>intro X;obtain⟨f,k⟩:=ac.out;exact⟨0,(By _ _).drew,f.drew,fun _=>H.out.map.keep k.drew (by simp;exact ag.symm),fun h=>absurd h (by decide),fun h=>absurd h (by decide),fun h=>absurd h (by decide)⟩
 case fin=>
  intro U X w2 o Z;have ae:=Z 11 (by decide) (by decide);have ad:=Z 10 (by decide) (by decide);obtain⟨b,d,a,m,r,C,D⟩:=o;have K:=C ae;obtain⟨l,c,j⟩:=r ad;have c0:=a.cell 0;obtain⟨f,k⟩:=ac.out;have u:Keep [p,g] w w2:=(k.mono (S':=[p,g]) (by simp)).trans (d.mono (S':=[p,g]) (by simp));have R:=h_6 K c j a u k.size;clear d a m r C D K l c j f k u Z ad ae;simp[Al,Act.put,FK,Ab];go_wp2;go_ret;obtain⟨K,c,j,a,u,ai⟩:=R.out;have af:w.heap.size≤b:=by omega
  refine⟨b,by push_cast;rfl,⟨by push_cast;exact a, ?_,fun i t v=> ?_,⟨by omega,by omega⟩,fun i hi=> ?_,fun q hq=> ?_⟩,u,af⟩
  ·have e:(fun i:Int=>Option.map (fun t:Nat×Str×Bool=>Value.pointer (some ⟨t.1,0,none⟩)) (if i=((last+1:Nat):Int)then some (b,key,true)else tk i))=(fun i:Int=>if i=(last:Int)+1 then some (pr b 0)else(tk i).map (fun t=>pr t.1 0)):=by
    funext i
    push_cast
    by_cases h:i=(last:Int)+1<;>simp[h]
   first|exact e▸K|(rw[e];exact K)
  ·by_cases h:i=((last+1:Nat):Int)
   ·rw[Ay h]at v
    injection v with v;subst v;exact⟨Bx ..,c⟩
   ·rw[Aw h]at v
    obtain⟨h1,Y⟩:=H.out.giv i t v
    exact⟨Ap _ h1,Y.keep u (by have hg:=H.out.map.ne Y.ty;have hp:t.1≠p:=Y.ty.ne H.out.blk.ty (by decide);simp[hg,hp])⟩
  ·rw[Aw (by omega)]
   exact H.out.new i (by omega)
  ·rcases Ac.1 hq with rfl|hq
   ·exact c.lt
   ·exact AW (H.out.lt q hq) u.size
 case' m10|m11=>intro U X x W o J G E I O M B a K' F;have L:=h_ o;obtain⟨_,_,a,_⟩:=o;have S:=a.cell 0;have T:=a.cell 1;clear a;simp[mV,mY,Ab]at I;simp only[Al,Act.put,A8,A7,A6,I]at a;subst a
 case m10=>
  clear G E O M;go_simp;obtain⟨b,d,a,m,r,C,D⟩:=L.out;have aa:U 11=false:=by cases h:U 11 with|false=>rfl|true=>rw[D h]at J;cases J
  have kk:Keep [] W (W.alloc (.cells #[.string key,.bool true] 276)):=(By _ _).alloc _;exact F _ _ _ rfl ⟨W.heap.size,d.trans (kk.mono (by simp)),a.keep kk (by simp),fun _=>(m aa).keep kk (by simp),fun _=>⟨Bh _ _ _,BY W _ _,d.size⟩,fun h=>by simp[upd,aa]at h,fun h=>by simp[upd,aa]at h⟩
 case m11=>have z:U 10=true:=E 10 (by decide);have V:=G 10 z;clear G E O M S T;obtain⟨b,d,a,m,r,C,D⟩:=L.out;obtain⟨l,c,j⟩:=r z;rw[l]at V;obtain⟨w2,ah,N,y⟩:=(m J).put (t:=272) (Maps.int_keyed CY) Tryz.underlying272 (key:= .int .i64 ((last:Int)+1)) (kl:=(last:Int)+1) (VJ CY _ (by omega)) SR (pr b 0) (by unfold maxLen;omega);have R:=h_6 N y c j a d;have HU:=h_2 z l;have ab:=h_ (m J);simp only[←V]at F⊢;clear N y c j a d m r C D l z V;go_simp;obtain⟨N,y,c,j,a,d⟩:=R.out;obtain⟨z,l⟩:=HU.out;refine F undef _ _ rfl ⟨b,d.trans y,a.keep y (by simp;exact ab.out.ne a.ty),fun h=>by simp[upd]at h,fun _=>⟨by rw[Bs _ _ _ _ (by decide)];exact l,c.keep y (by simp;exact ab.out.ne c.ty),j⟩,fun _=>N,fun _=>by simp[upd,z]⟩
 all_goals intro U X x W o G E I O M B a K' F;clear G E O M;have L:=h_ o;obtain⟨_,_,a,_⟩:=o;have S:=a.cell 0;have T:=a.cell 1;clear a;simp[mV,mY,Ab]at I;simp only[Al,Act.put,A8,A7,A6,I]at a;subst a;go_simp;exact F _ _ _ rfl rfl L.out
theorem Tq (h:TkAt w p g n last B tk)(id:Nat)(G:id≤1000000){b:Nat}{key:Str}{good:Bool}(a:tk (id:Int)=some (b,key,good)):Calls Tryz.prog 128 #[pr p 0,.int .i64 (id:Int)] w fun e w'=>e=.returned (.tuple #[.string key,.bool good])∧
  TkAt w' p g n last B (fun i=>if i=(id:Int)then none else tk i)∧Keep [g] w w':=by
 have c1:=h.blk.cell 1;have v:=h_ (h.map.look (t:=272) (Maps.int_keyed CY) Tryz.underlying272 (e:=271) (z:= .pointer none) (by rfl) (key:= .int .i64 (id:Int)) (kl:=(id:Int)) (VJ CY _ (by omega)));obtain⟨s,H,f,c⟩:=h.map.del (t:=272) (Maps.int_keyed CY) Tryz.underlying272 (key:= .int .i64 (id:Int)) (kl:=(id:Int)) (VJ CY _ (by omega)) SR 0;have o:=v.out;rw[a]at o;change _=Result.ok (Value.pointer (some ⟨b,0,none⟩)) w at o;obtain⟨C,k⟩:=h.giv _ _ a;have m:=h.map.ne k.ty;have j:=k.keep c (by simpa using m);have x:=j.cell 0;have y:=j.cell 1;simp only at x y;have u:=h_3 f c h;clear h f c k j a m C;go_enter Tryz.func128,Tryz.ntmps128;go_wp2_with fail
 go_quiet (fail)
 go_wp2;go_ret2;obtain⟨f,F,h⟩:=u.out;have r:Keep [] s (s.drewN nq):=⟨rfl,rfl,rfl,Av _,fun _ _ _=>rfl⟩;have c:=F.trans (r.mono (S':=[g]) (by simp));refine⟨?_,⟨h.blk.keep c (by simp;exact h.map.ne h.blk.ty), ?_,fun i t a=> ?_,h.lim,fun i D=> ?_,fun q E=>AW (h.lt q E) c.size⟩,c⟩
 ·rfl
 ·have e:(fun i:Int=>Option.map (fun t:Nat×Str×Bool=>Value.pointer (some ⟨t.1,0,none⟩)) (if i=(id:Int)then none else tk i))=(fun i:Int=>if i=(id:Int)then none else(tk i).map (fun t=>pr t.1 0)):=by
   funext i
   by_cases h:i=(id:Int)<;>simp[h]
  rw[e];exact f.keep r (by simp)
 ·by_cases d:i=(id:Int)
  ·rw[Ay d]at a;cases a
  ·rw[Aw d]at a
   obtain⟨A,l⟩:=h.giv i t a;exact⟨A,l.keep c (by simp;exact h.map.ne l.ty)⟩
 ·by_cases d:i=(id:Int)
  ·rw[Ay d]
  ·rw[Aw d];exact h.new i D
end
theorem MV.range0 {P:Program}{k t e:TypeId}{w:World}{g n:Nat}{f:Int→Option Value}(h:MV P k kyI w g n f)(d:∀i,f i=none)(K:Maps.Keyed P k)(m:P.underlying k=some (.int .i64))(u:P.underlying t=some (.map k e)):
  ∃w',(Instr.range t (.map (some g))).run P w=.ok (pr w.heap.size 0) w'∧Keep [] w w'∧∀ty,(Instr.next (pr w.heap.size 0) false ty).run P w'=.ok (.tuple #[.bool false]) w':=by
 obtain⟨D,c,A,j⟩:=h;obtain⟨w',s,r,l,_⟩:=c.range K u;refine⟨w',s,by simpa using DJ l,fun ty=> ?_⟩;rcases r.next K ty with⟨_,_,h⟩|⟨key,v,kl,y,C,z,o,q,_⟩
 ·exact h
 ·obtain⟨x,_,rfl,_⟩:=Maps.keyOf_int_inv m o
  have a:=(j x).1;rw[d x]at a;have b:Maps.has D (kyI x)=true:=q;rw[a]at b;cases b
section
variable {w w':World} {p g n last:Nat} {B:List Nat} {tk:Int→Option (Nat×Str×Bool)}
theorem O4 (h:TkAt w p g n last B tk)(a:∀i,tk i=none)(d:Value):Calls Tryz.prog 222 #[pr p 0,d] w fun e w'=>e=.returned (.int .i64 0)∧Keep [] w w':=by
 obtain⟨k,f,b,l⟩:=MV.range0 (t:=272) h.map (fun i=>by rw[a i];rfl) (Maps.int_keyed CY) CY Tryz.underlying272;have c1:=h.blk.cell 1;have c:=h_ b;clear h a b;go_enter Tryz.func222,Tryz.ntmps222;go_wp2_with fail;clear f c1
 go_loopw [5] (fun j wr=>j=.int .i64 0∧wr=k) (fun _ _=>0)
 case atStart=>exact⟨rfl,rfl⟩
 case round=>
 obtain⟨rfl,rfl⟩:=hrel;go_wp2;go_ret;exact⟨rfl,c.out⟩
theorem Ns (h:TkAt w p g n last B tk)(a:∀i,tk i=none):Calls Tryz.prog 195 #[pr p 0] w fun e w'=>e=.returned (.int .i64 0)∧Keep [] w w':=by
 have b:=fun c=>h_ (O4 h a c)
 clear h a;go_enter Tryz.func195,Tryz.ntmps195;go_wp2_with fail;refine(b _).out.mono ?_;rintro e f ⟨rfl,d⟩;go_wp2;go_ret;exact⟨rfl,d⟩
end
theorem VT {w:World}:Calls Tryz.prog 329 #[.slice none 0 0,.int .i64 0,.int .i64 0] w fun e w'=>e=.returned (.tuple #[])∧Keep [] w w':=by
 go_enter Tryz.func329,Tryz.ntmps329;go_wp2
 go_loopw [6] (fun a wr=>a=.int .i64 1∧wr=w) (fun _ _=>0)
 case atStart=>exact⟨rfl,rfl⟩
 case round=>
 obtain⟨rfl,rfl⟩:=hrel;go_wp2
 go_end0
 exact⟨rfl,By _ _⟩
theorem X4 {w:World}:Calls Tryz.prog 290 #[.int .u64 0] w fun e w'=>e=.returned (.int .i64 0)∧Keep [] w w':=by go_enter Tryz.func290,Tryz.ntmps290;go_wp2_with fail;go_ret;exact⟨by kernel_rfl,By _ _⟩
theorem len_0 {w:World}:Calls Tryz.prog 262 #[.int .u64 0] w fun e w'=>e=.returned (.int .i64 0)∧Keep [] w w':=by go_enter Tryz.func262,Tryz.ntmps262;go_wp2_with fail;refine X4.mono ?_;rintro e b ⟨rfl,a⟩;go_wp2;go_ret;exact⟨rfl,a⟩
theorem V2 {w:World}:Calls Tryz.prog 316 #[.slice none 0 0,.int .i64 0,.int .i64 0,.int .i64 0] w fun e w'=>e=.returned (.tuple #[])∧Keep [] w w':=by
 go_enter Tryz.func316,Tryz.ntmps316;go_wp2
 go_loopw [1,2,3,8,9] (fun b c d f h wr=>b=.int .i64 0∧c=.int .i64 0∧d=.int .i64 0∧wr=w) (fun _ _ _ _ _ _=>0)
 case atStart=>exact⟨rfl,rfl,rfl,rfl⟩
 case round=>
 obtain⟨rfl,rfl,rfl,rfl⟩:=hrel;go_wp2_with fail;refine VT.mono ?_;rintro e i ⟨rfl,a⟩;go_wp2_with fail;refine Be (v:= .tuple #[]) (Cx rfl _ _ _) rfl ?_;exact⟨rfl,a⟩
theorem Tw {w:World}:Calls Tryz.prog 292 #[.slice none 0 0] w fun e w'=>e=.returned (.tuple #[])∧Keep [] w w':=by
 go_enter Tryz.func292,Tryz.ntmps292;go_wp2_with fail;refine len_0.mono ?_;rintro e c ⟨rfl,a⟩;go_wp2_with fail;refine V2.mono ?_;rintro e d ⟨rfl,b⟩;go_wp2
 go_end0
 exact⟨rfl,a.trans b⟩
section
variable {w w':World} {p g:Nat} {t:Tab} {cnt used:Nat}
theorem PB (h:IxAt w p g t cnt used)(l:∀x∈t,x.has=false):Calls Tryz.prog 267 #[pr p 0] w fun e w'=>e=.returned (.slice none 0 0)∧Keep [] w w':=by
 have H:=h_ h;have A:=h.len;have u:=h_ l;obtain⟨a,c⟩:∃a,a=t.length:=⟨_,rfl⟩;rw[←c]at A;have j:=h.blk.cell 0;rw[←c]at j;have y:=h_ c;clear h c l;go_enter Tryz.func267,Tryz.ntmps267;go_wp2_with fail;clear j
 go_loopw [13,3] (fun E F wr=>∃k:Nat,E=.int .i64 (k:Int)∧F=.slice none 0 0∧k≤a∧Keep [] w wr) (fun x _ _=>a+1-(intOf x).toNat)
 case atStart=>exact⟨0,rfl,rfl,AA _,By _ _⟩
 case round=>
 obtain⟨k,rfl,rfl,G,b⟩:=hrel;have d:=H.out.still b;have i:=h_ b;by_cases B:k<a
 ·have D:decide ((k:Int)<(a:Int))=true:=An (by omega)
  obtain⟨x,f⟩:∃x,t[k]?=some x:=⟨_,Ad (by rw[←y.out];exact B)⟩;have m:=d.range k x f;have n:=u.out x (Aq f);obtain⟨q,r,J,o⟩:=x;simp only at n;subst n;have v:=h_ m;have s:=h_ (i.out.alloc (.cells #[.string q,.int .i64 (r:Int),.bool false,.bool o] 330));clear d b m f
  go_wp2_with (refine Bc rfl 330 _ rfl g (k*4) rfl [.string q,.int .i64 (r:Int),.bool false,.bool o] _ v.out C9 rfl (by rfl) ?_)
  go_roundw
  case rel=>exact⟨k+1,by go_num,rfl,by omega,s.out⟩
  case measure=>simp only[intOf];omega
 ·have z:k=a:=by omega
  subst z;have D:decide ((k:Int)<(k:Int))=false:=Ak (by omega);clear d b;go_wp2_with fail;refine Tw.mono ?_;rintro e I ⟨rfl,C⟩;go_wp2;go_ret;exact⟨rfl,i.out.trans C⟩
end
end Go.Proofs.YtnhbioehiiifdaaGreat
