import Derived.Test.YtnhbioehiiifdaaGreatD01
import Derived.Deep.RegionLaw
set_option maxRecDepth 100000
set_option maxHeartbeats 16000000
set_option linter.all false
namespace Go.Proofs.YtnhbioehiiifdaaGreat
open Go.ChangeShapes Go.WideShapes Go.ChangeAt Go.RowKit
def Sv (n x:Int):Int:=if 0≤x∧x≤1099511627776-n then n+x else n
def I4 (n:Int)(l:List Int):Int:=l.foldl Sv n
structure IsClock (w:World) (b:Nat) (n:Int):Prop where
 blk:Blk w b [.int .i64 n] 158
 lo:0≤n
 hi:n≤1099511627776
theorem IsClock.keep {S:List Nat}{w a:World}{b:Nat}{n:Int}(h:IsClock w b n)(k:Keep S w a)(c:b∉S):IsClock a b n:=⟨h.blk.keep k c,h.lo,h.hi⟩
theorem DN {b:Nat}{n:Int}{w:World}(h:IsClock w b n):
  Calls Tryz.prog 53 #[pr b 0] w fun e a=>e=.returned (.int .i64 n)∧w=a:=by
 have c:=h.blk.cell 0;clear h;go_enter Tryz.func53,Tryz.ntmps53;go_wp2;go_ret;exact⟨rfl,rfl⟩
def Sw (n t:Int):Int:=if t<0∨n<t then 0 else n-t
theorem E0 {b:Nat}{n:Int}{w:World}(t:Int)(h:IsClock w b n)(m:Int)(d:m=Sw n t):
  Calls Tryz.prog 167 #[pr b 0,.int .i64 t] w fun e f=>e=.returned (.int .i64 m)∧w=f:=by
 subst d;have j:=h.blk.cell 0;obtain⟨_,g,i⟩:=h;unfold Sw;by_cases a:t<0
 ·go_enter Tryz.func167,Tryz.ntmps167
  go_wp2;go_ret;exact⟨by simp[a],rfl⟩
 ·by_cases c:n<t
  all_goals go_enter Tryz.func167,Tryz.ntmps167;go_wp2;go_ret;exact⟨by simp[a,c],rfl⟩
def Ticked (b:Nat)(m:Int)(w:World)(e:Ending)(a:World):Prop:=e=.returned (.int .i64 m)∧IsClock a b m∧Keep [b] w a
theorem Ts {b:Nat}{n:Int}{w:World}(a:Option Addr)(cap:Nat)(h:IsClock w b n)(m:Int)(g:m=I4 n [1]):
  Calls Tryz.prog 87 #[pr b 0,.slice a 0 cap] w (Ticked b m w):=by
 subst g;have o:=h.blk.lt;have c:=h.blk;obtain⟨_,j,k⟩:=h;have f:=c.cell 0;have i:=c.free 0;have d:=h_ c;clear c;simp only[List.getElem?_cons_zero]at f;by_cases l:1≤1099511627776-n
 ·have e:I4 n [1]=n+1:=by simp[I4,Sv];omega
  rw[e];clear e;go_enter Tryz.func87,Tryz.ntmps87;go_wp2
  go_rounds 2
  go_ret;exact⟨rfl,⟨(d.out.set 0 _).alloc _,by omega,by omega⟩,((By _ _).setCell (by simp) _).alloc _⟩
 ·have e:I4 n [1]=n:=by simp[I4,Sv];omega
  rw[e];clear e;go_enter Tryz.func87,Tryz.ntmps87;go_wp2
  go_rounds 2
  go_ret;exact⟨rfl,⟨(d.out.alloc _),by omega,by omega⟩,((By _ _).alloc _)⟩
def E1 (n:Nat)(a:List Nat):List Nat:=be 8 n++([a.length]++(a++List.replicate (51-a.length) 0))
def Cz (n:Nat)(a:List Nat):List Nat:=be 4 (crcSum (E1 n a))++E1 n a
theorem MD (n:Nat)(a:List Nat)(h:a.length≤40):(E1 n a).length =60:=by simp[E1];omega
theorem IW (n:Nat)(b:List Nat)(h:b.length≤40)(d:∀c∈b,c<256):∀c∈E1 n b,c<256:=by
 intro c a;simp only[E1,Ag,Ah,List.mem_replicate]at a;rcases a with a|rfl|a|⟨_,rfl⟩
 ·exact Fj _ _ _ a
 ·omega
 ·exact d _ a
 ·omega
theorem Vj (n:Nat)(a:List Nat)(h:a.length≤40):(Cz n a).length =64:=by simp[Cz,MD n a h]
theorem TA (n:Nat)(b:List Nat)(h:b.length≤40)(d:∀c∈b,c<256):∀c∈Cz n b,c<256:=by
 intro c a;simp only[Cz,Ag]at a;rcases a with a|a
 ·exact Fj _ _ _ a
 ·exact IW n b h d _ a
theorem JT (l:List Nat)(a:∀c∈l,c<256):crcSum l<4294967296:=by unfold crcSum;omega
theorem Oz (L:List Sec)(i:Nat)(s:Sec)(m:List Nat)(a:m.length=64)(b:s.now.length=64):(L.set i ⟨BQ s.now 0 m,s.lasts,true⟩).map flushSec=(L.map flushSec).set i ⟨m,m,false⟩:=by
 have e:BQ s.now 0 m=m:=by simp[BQ,a,b]
 rw[Gl,e];rfl
theorem RY (n:Nat)(j:List Nat)(h:j.length≤40):BQ ((Bb (List.replicate 4 0++be 8 n++List.replicate 52 0)).set 12 (.int .u8 j.length)) 13 (Bb j)=Bb (List.replicate 4 0++E1 n j):=by
 have k:∃a b c d e f g h,be 8 n=[a,b,c,d,e,f,g,h]:=⟨_,_,_,_,_,_,_,_,rfl⟩;obtain⟨a,b,c,d,e,f,g,i,k⟩:=k;have o:List.replicate (51-j.length) 0=(List.replicate 51 0).drop j.length:=List.drop_replicate.symm;unfold E1;rw[k,o];generalize m:List.replicate 51 0=R;have l:List.replicate 52 0=0::R:=by rw[←m];rfl
 rw[l];simp only[BQ,Bd,List.replicate,Bb,AL,Br,Cy,List.cons_append,List.nil_append,List.set,List.take,Dw,AD];rw[show 13+j.length=j.length+13 by omega];simp[bc]
theorem Fg {w:World}(v:Value)(l:List Nat)(h:Rd w v l)(j:l.length≤1099511627776):
  Calls Tryz.prog 154 #[v] w fun e c=>∃b,e=.returned b∧Buf c w.heap.size 5 b l∧Keep [] w c:=by
 obtain⟨_,a,cap,rfl,m,g⟩:=id h
 cases a with
 |some ad=>refine(Mi ad cap l h j).mono ?_;rintro e c ⟨b,rfl,d,i,_⟩;exact⟨b,rfl,d,i⟩
 |none=>
  have k:l=[]:=by
   cases l with
   |nil=>rfl
   |cons x l=>obtain⟨sb,o,f,_⟩:=g (by simp);cases f
  subst k;have n:=fun W=>Lib.run_eql_slice_nil (P:=Tryz.prog) W 81 5 none 0 cap 0 0 Ao
  go_enter Tryz.func154,Tryz.ntmps154;go_wp2;go_ret;exact⟨_,rfl,Y4 _ _ _,By _ _⟩
theorem M4 {w:World}{s d sb:Nat}{L:List Sec}{c:Nat}(at_ slot:Nat)(t0:Int)(v0:Value)(sl0:Int)(n:Nat)(bv:Value)(text:List Nat)
  (hd:IsDev w d sb L c) (hs:Blk w s [pr d 0,.int .i64 at_,.int .i64 t0,v0,.int .i64 sl0] 209)
  (hr:Rd w bv text) (k:∀c∈text,c<256) (hl:text.length≤40) (hslot:at_+slot<L.length) (hn:n<9223372036854775808) (hc:c+2≤1099511627776)
  (hlo:∀b,bv.ownBlock=some b→0<text.length→b<w.heap.size∧b≠d∧b≠sb∧b≠s):
  Calls Tryz.prog 111 #[pr s 0,.int .i64 slot,.int .i64 n,bv] w fun e h=>e=.returned (.int .i64 0)∧IsDev h d sb ((L.map flushSec).set (at_+slot) ⟨Cz n text,Cz n text,false⟩) (c+2)∧
   (∃Q,Blk h s [pr d 0,.int .i64 at_,.int .i64 n,Q,.int .i64 slot] 209∧Buf h w.heap.size 5 Q text)∧Keep [d,sb,s] w h:=by
 obtain⟨i8,ah,a3,al,a4⟩:=AU In;have W:=hr;obtain⟨_,ba,a5,rfl,_,_⟩:=hr;have K:s≠d:=hs.ty.ne hd.dev.ty (by decide);have M:s≠sb:=hs.ty.ne hd.secs.ty (by decide);have bc:=hs.lt;have a8:=hd.dev.lt;have bb:=hd.secs.lt;have a9:=hd.max;go_enter Tryz.func111,Tryz.ntmps111
 go_wp2_with (at_make;refine DI _ rfl _ _ 81 rfl 5 i8 _ Ao ah a3 (by rw[al];rfl) (by decide) _ 64 rfl rfl (by omega) (by rw[a4];omega) (by omega) ?_)
 have X:Blk (w.alloc (.cells (Bb (List.replicate 4 0++List.replicate 8 0++List.replicate 52 0)).toArray 5)) w.heap.size (Bb (List.replicate 4 0++List.replicate 8 0++List.replicate 52 0)) 5:=BY _ _ _;refine(SC (List.replicate 4 0) (List.replicate 8 0) (List.replicate 52 0) 60 n X (by omega) (by simp) (by simp)).mono ?_;rintro e j ⟨rfl,g,aa⟩;have g:Blk j w.heap.size (Bb (List.replicate 4 0++be 8 n++List.replicate 52 0)) 5:=g;have A:Keep [] w j:=((By [] w).alloc _).then aa (by simp);clear aa X
 obtain⟨u,f0⟩:∃u,j.cell? ⟨w.heap.size,12,none⟩=some u:=by rw[g.cell,Ad (by simp)];exact⟨_,rfl⟩
 have f1:=g.free 12;have q0:(text.length:Int)≤40:=by omega
 have ak:=(g.set 12 (.int .u8 text.length)).there 13 text.length (by simp;omega);have O:Keep [w.heap.size] j (j.setCell ⟨w.heap.size,12,none⟩ (.int .u8 text.length)):=(By _ j).setCell (.inl (by simp)) _;have aj:=Rd.src (Yw (W.keep A (by simp)) O (by intro b k l;have:=hlo b k l;simp;omega)) Ao
 go_wp2_with (refine Hu _ rfl _ _ 81 81 rfl 5 i8 Ao ah al w.heap.size 13 51 51 rfl _ text.length (Bb text) rfl aj (by omega) ak ?_)
 obtain⟨a,v⟩:∃a,a=(j.setCell ⟨w.heap.size,12,none⟩ (.int .u8 text.length)).setCells w.heap.size 13 (Bb text):=⟨_,rfl⟩
 have t:Blk a w.heap.size (Bb (List.replicate 4 0++E1 n text)) 5:=by rw[v,←RY n text hl];exact(g.set 12 _).setCells (Bb text) 13 _ _ (by simp;omega)
 have V:Keep [] w a:=by rw[v];exact A.then (E6 _ _ _ _ O (.inl (by simp))) (by simp)
 rw[←v];have J:=MD n text hl;have G:=IW n text hl k;have a0:=t.lt;clear v g A O aj ak f0 f1;have hS:=JT (E1 n text) G
 have y:=h_ (show be 4 (crcSum (E1 n text))++E1 n text=Cz n text from rfl);generalize E1 n text=body at*;have R:=h_ (rfl:crcSum body=crcSum body);generalize ad:crcSum body=S at hS y R;have ao:=h_ ad.symm;clear ad R
 have ab:Rd a (.slice (some ⟨w.heap.size,4,none⟩) 60 60) body:=by unfold Rd;rw[J];refine⟨by simp[J],_,60,rfl,by omega,fun _=>⟨_,4,rfl,a0,fun i hi=> ?_⟩⟩;rw[t.cell];unfold Bb;rw[AL,AC (by simp)];simp
 have l:Rv (a.alloc (.cells #[.slice (some ⟨w.heap.size,4,none⟩) 60 60] 81)).drew 1 (.slice (some ⟨a.heap.size,0,none⟩) 1 1) 1 [.slice (some ⟨w.heap.size,4,none⟩) 60 60]:=(Y1 a [.slice (some ⟨w.heap.size,4,none⟩) 60 60] 81 1 1 1 rfl (by omega) _ rfl).keep (By [] _).drew (by simp);have hq:Rd (a.alloc (.cells #[.slice (some ⟨w.heap.size,4,none⟩) 60 60] 81)).drew (.slice (some ⟨w.heap.size,4,none⟩) 60 60) body:=Yx (Rv.alloc ab _) (By [] _).drew (by simp);have Y:Blk (a.alloc (.cells #[.slice (some ⟨w.heap.size,4,none⟩) 60 60] 81)).drew w.heap.size (Bb (List.replicate 4 0++body)) 5:=(t.alloc _).drew;have E:=IG _ _ _ body l hq G (by omega) S ao.out;have D:Calls Tryz.prog 152 #[.slice (some ⟨w.heap.size,0,none⟩) 4 64,.int .u64 S] (a.alloc (.cells #[.slice (some ⟨w.heap.size,4,none⟩) 60 60] 81)).drew fun e h=>e=.returned (.tuple #[])∧Blk h w.heap.size (Bb (be 4 S++body)) 5∧Keep [w.heap.size] (a.alloc (.cells #[.slice (some ⟨w.heap.size,4,none⟩) 60 60] 81)).drew h:=SC [] (List.replicate 4 0) body 64 S Y (by omega) (by simp) (by simp)
 obtain⟨q,ac⟩:∃z:Int,z=(S:Int):=⟨_,rfl⟩;have a6:0≤q:=by omega
 have a7:q<4294967296:=by omega
 rw[←ac]at E D;clear ac
 have a1:IntKind.u64.wrap q=q:=by simp[IntKind.wrap,IntKind.bits,IntKind.signed];omega
 obtain⟨U,T⟩:=i_2 E D;clear E D l hq Y ab
 go_region_with
  (first
   |(go_at_call 152;(try rw[←a2]);(try rw[a1]);refine T.out.mono ?_;rintro e w3 ⟨rfl,C,k3⟩)
   |(go_at_call 153;refine U.out.mono ?_;rintro e ws ⟨rfl,a2⟩)
   |fail)
 rw[y.out]at C;have H:=Vj n text hl;have au:=TA n text hl k;have p:Keep [] w w3:=((V.alloc _).drew.then k3 (by simp))
 have ap:Rd w3 (.slice (some ⟨w.heap.size,0,none⟩) 64 64) (Cz n text):=by unfold Rd;rw[H];refine⟨by simp[H],_,64,rfl,by omega,fun _=>⟨_,0,rfl,C.lt,fun i hi=> ?_⟩⟩;rw[AP,C.cell]
 generalize Z:Cz n text=img at*;have an:=h_ Z;clear Z;clear y hS G J t V k3 U T;have N:=hs.keep p (by simp);have ae:=hd.keep p (by simp) (by simp);have o:=N.cell 0;have r:=N.cell 1;simp only[List.getElem?_cons_succ,List.getElem?_cons_zero]at o r;go_wp2_with fail;refine BJ 11 (by kernel_rfl) (by kernel_rfl) ?_;simp only[List.take_succ_cons,List.take_zero,BB,Bj]
 repeat still_step
 refine Du ?_;obtain⟨x,ax,az⟩:=Gw hslot;go_wp2_with fail;rw[show(at_:Int)+(slot:Int)=((at_+slot:Nat):Int) by omega];refine(I0 (ae.keep (By [] _).drew (by simp) (by simp)) (at_+slot) x ax _ img (Yx ap (By [] _).drew (by simp)) (by omega) au (by omega)).mono ?_;rintro e w4 ⟨rfl,af,k4⟩;have B:Keep [d,sb] w w4:=(p.drew.mono (by simp)).trans k4;have ai:=hs.keep B (by simp;exact⟨K,M⟩);clear o r;have o:=ai.cell 0;simp only[List.getElem?_cons_zero]at o;go_wp2_with fail;refine(GV af (by omega)).mono ?_;rintro e w5 ⟨rfl,ag,k5⟩;have ay:x.now.length=64:=(hd.ok x az).1;rw[Oz L (at_+slot) x img H ay]at ag;have m:Keep [d,sb] w w5:=B.trans k5;have aw:=hs.keep m (by simp;exact⟨K,M⟩);have av:=Yw W m (by intro b k l;have:=hlo b k l;simp;omega);clear o k4 k5 af ai N ae p B;go_wp2_with fail;refine(Fg _ text av (by omega)).mono ?_;rintro e w6 ⟨Q,rfl,F,P⟩;have K6:=m.trans (P.mono (by simp));obtain⟨ta,am,rfl⟩:=F.slice;have f:=aw.keep P (by simp);have ar:=ag.keep P (by simp) (by simp);have r:=f.cell 0;have g2:=f.cell 2;have g3:=f.cell 3;have g4:=f.cell 4;have f2:=f.free 2;have f3:=f.free 3;have f4:=f.free 4;simp only[List.getElem?_cons_succ,List.getElem?_cons_zero]at r g2 g3 g4;go_wp2;go_ret;have hB:=((f.set 4 (.int .i64 slot)).set 2 (.int .i64 n)).set 3 (.slice ta text.length am);have I:Keep [s] w6 (((w6.setCell ⟨s,4,none⟩ (.int .i64 slot)).setCell ⟨s,2,none⟩ (.int .i64 n)).setCell ⟨s,3,none⟩ (.slice ta text.length am)):=Or (Or (Or (By _ _) (.inl (by simp)) _) (.inl (by simp)) _) (.inl (by simp)) _;rw[an.out];refine⟨rfl,ar.keep I (by simpa using Ne.symm K) (by simpa using Ne.symm M),⟨_,hB,(F.mono m.size).keep I ?_⟩, ?_⟩
 ·intro b aq
  have:=(F.lt b aq).1;have:=m.size;simp;omega
 ·exact(K6.mono (by simp)).then I (by simp)
theorem Buf.ty {w:World}{base:Nat}{E:TypeId}{v:Value}{l:List Nat}(h:Buf w base E v l):∀k,v.ownBlock=some k→Ty w k E:=by
 have a:Own w base E v (Bb l):=by unfold Own;rw[Bd];exact h
 exact a.ty
def Hy (w:World)(s d at_ turn:Nat)(c:List Nat)(b:Nat):Prop:=
 ∃a,Blk w s [pr d 0,.int .i64 at_,.int .i64 turn,a,.int .i64 b] 209∧Buf w 0 5 a c
theorem Hy.keep {w f:World}{s d at_ turn:Nat}{e:List Nat}{c:Nat}{S:List Nat}(h:Hy w s d at_ turn e c)(k:Keep S w f)(g:s∉S)(j:∀x∈S,¬Ty w x 5):Hy f s d at_ turn e c:=by obtain⟨n,i,a⟩:=h;exact⟨n,i.keep k g,a.keep k (fun b l m=>j b m (a.ty b l))⟩
theorem Hy.lt {w:World}{s d at_ turn:Nat}{c:List Nat}{b:Nat}(h:Hy w s d at_ turn c b):s<w.heap.size:=by obtain⟨e,a,_⟩:=h;exact a.lt
theorem Hy.ty {w:World}{s d at_ turn:Nat}{c:List Nat}{b:Nat}(h:Hy w s d at_ turn c b):Ty w s 209:=by obtain⟨e,a,_⟩:=h;exact a.ty
theorem O6 {w:World}{d sb:Nat}{L:List Sec}{c:Nat}(a:IsDev w d sb L c)(at_:Nat)(f:at_+1<L.length):
  Calls Tryz.prog 108 #[pr d 0,.int .i64 at_] w fun e b=>e=.returned (.bool true)∧w=b:=by
 have g:=a.max;have h:(0:Int)≤at_:=by omega
 have i:(at_:Int)<(L.length:Int)-1:=by omega
 go_enter Tryz.func108,Tryz.ntmps108;go_wp2_with fail;refine(IH a).mono ?_;rintro e j ⟨rfl,rfl⟩;go_wp2;go_ret;exact⟨rfl,rfl⟩
theorem WG {w:World}{s d at_ turn:Nat}{a:List Nat}{l:Nat}(h:Hy w s d at_ turn a l)(m:a.length≤40):
  Calls Tryz.prog 133 #[pr s 0] w fun e g=>∃b,e=.returned b∧Buf g w.heap.size 5 b a∧Keep [] w g:=by
 obtain⟨p,k,f⟩:=h;have i:=k.cell 3;simp only[List.getElem?_cons_succ,List.getElem?_cons_zero]at i;obtain⟨n,o,rfl⟩:=f.slice;go_enter Tryz.func133,Tryz.ntmps133;go_wp2_with fail;refine(Fg _ a f.rd (by omega)).mono ?_;rintro e t ⟨b,rfl,c,j⟩;obtain⟨q,r,rfl⟩:=c.slice;go_wp2;go_ret;exact⟨_,rfl,c,j⟩
theorem NW (L:List Sec):(L.map flushSec).map flushSec=L.map flushSec:=by simp[flushSec]
theorem Ud (L:List Sec)(i:Nat)(a b m:Sec)(z:List Nat)(c:z=List.replicate 64 0)(f:a.now=z)(g:b.now=z):
  ((((L.set i a).set (i+1) b).map flushSec).map flushSec).set i m=((L.map flushSec).set (i+1) zeroSec).set i m:=by
 have d:flushSec a=zeroSec:=by unfold flushSec zeroSec;rw[f,c]
 have e:flushSec b=zeroSec:=by unfold flushSec zeroSec;rw[g,c]
 rw[NW,Gl,Gl,d,e,List.set_comm _ _ (show i≠i+1 by omega),List.set_set]
theorem Ti {w:World}{d sb:Nat}{L:List Sec}{c:Nat}(hd:IsDev w d sb L c)(at_:Nat)(hat:at_+1<L.length)(bv:Value)(text:List Nat)
  (hr:Rd w bv text) (a:∀c∈text,c<256) (hl:text.length≤40) (hc:c+5≤1099511627776) (hlo:∀b,bv.ownBlock=some b→0<text.length→b<w.heap.size∧b≠d∧b≠sb):
  Calls Tryz.prog 83 #[pr d 0,.int .i64 at_,bv] w fun e k=>∃s,e=.returned (.tuple #[pr s 0,.int .i64 0])∧
   IsDev k d sb (((L.map flushSec).set (at_+1) zeroSec).set at_ ⟨Cz 1 text,Cz 1 text,false⟩) (c+5)∧Hy k s d at_ 1 text 0∧Keep [d,sb] w k∧w.heap.size≤s:=by
 obtain⟨I,B,E,F,G⟩:=AU In;have S:=hr;obtain⟨_,Q,R,rfl,_,_⟩:=hr;have q0:(text.length:Int)≤40:=by omega
 have ai:=hd.max;have ag:=hd.dev.lt;have aj:=hd.secs.lt;go_enter Tryz.func83,Tryz.ntmps83;go_wp2_with fail;refine(O6 hd at_ hat).mono ?_;rintro e w1 ⟨rfl,rfl⟩;go_wp2_with fail;refine wp_loop_rounds 3 ?_;rw[rounds_succ]
 go_wp2_with (at_make;refine DI _ rfl _ _ 81 rfl 5 I _ Ao B E (by rw[F];rfl) (by decide) _ 64 rfl rfl (by omega) (by rw[G];omega) (by omega) ?_)
 obtain⟨g,ac,Z⟩:=Gw (show at_<L.length by omega);have D:Bb (List.replicate 64 0)=List.replicate 64 (.int .u8 0):=by simp[Bb,bc]
 have t:∀W:World,Rd (W.alloc (.cells (List.replicate 64 (.int .u8 0)).toArray 5)) (.slice (some ⟨W.heap.size,0,none⟩) 64 64) (List.replicate 64 0):=fun W=>by rw[←D];exact Y1 W (Bb (List.replicate 64 0)) 5 1 64 64 (by simp) (by omega) _ rfl
 have H:∀x∈List.replicate 64 0,x<256:=by intro x i;simp at i;omega
 obtain⟨m,n⟩:=i_2 t H;clear t H D;have u:=hd.keep ((By [] w).alloc (.cells (List.replicate 64 (.int .u8 0)).toArray 5)) (by simp) (by simp);have q:=I0 u at_ g ac _ (List.replicate 64 0) (m.out w) (by simp) n.out (by omega);refine q.mono ?_;rintro e l ⟨rfl,v,J⟩;clear q;have N:Keep [d,sb] w l:=((By _ _).alloc _).trans J;have C:∀s:Sec,s∈L→BQ s.now 0 (List.replicate 64 0)=List.replicate 64 0:=fun s hs=>by simp[BQ,(hd.ok s hs).1]
 have q1:((at_+1:Nat):Int)=(at_:Int)+1:=by omega
 obtain⟨j,ad,aa⟩:=Gw hat
 have ae:(L.set at_ ⟨BQ g.now 0 (List.replicate 64 0),g.lasts,true⟩)[at_+1]?=some j:=by rw[List.getElem?_set_ne (by omega)];exact ad
 clear J u;go_wp2_with fail;rw[rounds_succ]
 go_wp2_with (at_make;refine DI _ rfl _ _ 81 rfl 5 I _ Ao B E (by rw[F];rfl) (by decide) _ 64 rfl rfl (by omega) (by rw[G];omega) (by omega) ?_)
 rw[←q1];have y:=v.keep ((By [] l).alloc (.cells (List.replicate 64 (.int .u8 0)).toArray 5)) (by simp) (by simp);have r:=I0 y (at_+1) j ae _ (List.replicate 64 0) (m.out l) (by simp) n.out (by omega);refine r.mono ?_;rintro e w4 ⟨rfl,z,K⟩;have O:Keep [d,sb] w w4:=(N.alloc _).trans K;clear r y v K;go_wp2_with fail;rw[rounds_succ];go_wp2_with fail;refine(GV z (by omega)).mono ?_;rintro e f ⟨rfl,X,M⟩;have o:=O.trans M;clear M z;go_wp2_with fail;have T:Blk (f.alloc (.cells #[pr d 0,.int .i64 at_,.int .i64 0,.slice none 0 0,.int .i64 0] 209)) f.heap.size [pr d 0,.int .i64 at_,.int .i64 0,.slice none 0 0,.int .i64 0] 209:=BY _ _ _;have af:=o.size;have Y:=X.keep ((By [] f).alloc (.cells #[pr d 0,.int .i64 at_,.int .i64 0,.slice none 0 0,.int .i64 0] 209)) (by simp) (by simp);have p:Keep [d,sb] w (f.alloc (.cells #[pr d 0,.int .i64 at_,.int .i64 0,.slice none 0 0,.int .i64 0] 209)):=o.alloc _;have ab:=Yw S p (by intro b a h;have:=hlo b a h;simp;omega);have P:=M4 at_ 0 0 (.slice none 0 0) 0 1 (.slice Q text.length R) text Y T ab a hl (by simp;omega) (by omega) (by omega) (fun b a h=>by have:=hlo b a h;simp;omega);refine P.mono ?_;rintro e w7 ⟨rfl,A,⟨tv,U,V⟩,k7⟩;go_wp2;go_ret2;refine⟨f.heap.size,rfl, ?_,⟨tv,U,V.mono (by omega)⟩,p.then k7 (by intro x i ah;simp at i⊢;omega),af⟩;rw[show at_+0=at_ from rfl,Ud L at_ _ _ _ (List.replicate 64 0) rfl (C g Z) (C j aa)]at A;exact A
section
variable {P:Program}
theorem FW (w:World){C:Array Oper}{o:Oper}{a:Act}{K:Act→World→Prop}{Q:Exit→Act→World→Prop}{F:Prop}(p:o.guard=none)(s x:Operand)(t j:TypeId)
  (r:o.op=.call {callee:= .builtin .append,args:=#[s,x],argTypes:=#[t,j]}) (e:TypeId) (i:TypeInfo) (A:P.underlying t=some (.slice e)) (q:P.info? e=some i)
  (g b f:Nat) (c:Array Value) (n:w.heap[g]?=some (.cells c e (0,0))) (y:a.eval s=.slice (some ⟨g,0,none⟩) b f) (k:Value) (m:Nat) (d:List Value) (B:a.eval x=k) (z:Src P i.size j k m d w)
  (v:b+m≤f) (l:b*i.size+d.length≤c.size)
  (h:K (a.put o.dst (.slice (some ⟨g,0,none⟩) (b+m) f)) (w.setRow g (c.toList.take (b*i.size)++d++c.toList.drop (b*i.size+d.length)).toArray)):
  if Region.wanted o (yielded C a.tmps)=true then Oper.wp P o a w K Q else F:=by
 rw[Ay (by simp[Region.wanted,p])];have u:=Gx (P:=P) w t j o.type e i A q g b f c n k m d z v l;unfold Oper.wp execOp;simp only[r,resolve,invoke,builtin,Db,Sem.run_pure,Result.andThen_ok,DZ,Br,Cy,y,B,u];exact h
theorem IM (w:World)(t e ty:TypeId)(z:Value)(a:List Value)(j:P.underlying t=some (.slice e))(k:∀w,(zeroValue e).run P w=.ok z w)(l:(Builtin.zeroCells z.cells 1).toList =a)(f:∀v∈a,v.oneCell'=true)
  (g o c:Nat) (b:Array Value) (i:w.heap[g]?=some (.cells b e (0,0))) (h:o+a.length≤b.size):
  (Builtin.clear_ #[t] ty #[.slice (some ⟨g,o,none⟩) 1 c]).run P w=.ok (.tuple #[]) (w.setRow g (b.toList.take o++a++b.toList.drop (o+a.length)).toArray):=by
 have d:=run_storeCells_at P g o e a 0 b w i (by simpa using h) f;simp only[Nat.add_zero]at d;simp[Builtin.clear_,Cn j,k,l,d]
theorem SY (xs c:List Value)(a b k:Nat)(e:List Value)(i:a≤b)(j:b≤xs.length)(l:xs.length≤c.length)(h:c.take xs.length=xs)(m:xs.length-b=k):
  (((c.take a++xs.drop b++c.drop (a+k)).take (a+k))++e++((c.take a++xs.drop b++c.drop (a+k)).drop (a+k+e.length))).take (a+k)=xs.take a++xs.drop b:=by
 have f:c.take a=xs.take a:=by rw[←h,List.take_take,BZ (by omega)]
 have d:(xs.take a++xs.drop b).length =a+k:=by rw[Aj,Az,A5];omega
 rw[f];have g:(xs.take a++xs.drop b++c.drop (a+k)).take (a+k)=xs.take a++xs.drop b:=by rw[←d];exact DX
 rw[g,Ax]
 conv=>lhs;rw[←d]
 exact DX
end
theorem Tryz.infoDelMsg:(Tryz.prog.info? 175).map (fun i=>(i.size,i.bytes))=some (21,256):=by kernel_rfl
theorem Su {w:World}{base g n cap:Nat}{xs:List Value}(h:w.ownsRow base 175 21 (.slice (some ⟨g,0,none⟩) n cap) n xs)(F:∀u∈xs,u.oneCell'=true)(i:Nat)(K:i<n)(hn:n≤1000000)(jv:Int)(r:jv=(i:Int)+1):
  Calls Tryz.prog 126 #[.slice (some ⟨g,0,none⟩) n cap,.int .i64 (i:Int),.int .i64 jv] w fun e w'=>e=.returned (.slice (some ⟨g,0,none⟩) (n-1) cap)∧
   w'.ownsRow base 175 21 (.slice (some ⟨g,0,none⟩) (n-1) cap) (n-1) (xs.take (i*21)++xs.drop ((i+1)*21))∧Keep [g] w w':=by
 subst r;obtain⟨s,hh⟩:=h;rcases hh with⟨H,_⟩|⟨g',ar,f,H,hb,J,az,ah,C,O⟩
 ·cases H
 injection H with hc1 _ hc2;injection hc1 with hc1;injection hc1 with hc1;subst hc1 hc2
 obtain⟨a,L,y⟩:∃a,Tryz.prog.info? 175=some a∧a.size=21:=by
  have:=Tryz.infoDelMsg
  cases K:Tryz.prog.info? 175 with
  |none=>rw[K]at this;cases this
  |some a=>rw[K]at this;injection this with this;injection this with F h2;exact⟨a,rfl,F⟩
 obtain⟨j,r⟩:∃j,j=i+1:=⟨_,rfl⟩;have aa:j≤n:=by omega
 have R:Hid ((i:Int)+1=(j:Int)):=h_ (by omega);rw[R.out];obtain⟨b,t⟩:∃b,b=xs.drop (j*21):=⟨_,rfl⟩;have o:b.length=(n-j)*21:=by rw[t,A5,s,←Nat.sub_mul]
 have X:f.toList.length=cap*21:=by simpa using C
 obtain⟨T,G,ab⟩:∃T:Value,T=(.slice (if cap=j then some ⟨g,0,none⟩else some ⟨g,j*21,none⟩) (n-j) (cap-j))∧∀W:World,W.heap[g]?=some (.cells f 175 (0,0))→Src Tryz.prog a.size 66 T (n-j) b W:=by
  refine⟨_,rfl,fun W hW=> ?_⟩;rw[y];by_cases p:cap=j
  ·rw[Ay p]
   have V:n-j=0:=by omega
   have aj:b=[]:=Bv (by rw[o,V,Nat.zero_mul]);rw[V,aj];refine CC _ BT _ 0 _ [] rfl (fun jj x l=>by simp at l) (by simp)
  ·rw[Aw p]
   refine CC _ BT _ (n-j) _ b o (fun jj x l=> ?_) (fun u hu=>F u (by rw[t]at hu;exact AB hu));have ay:=(Ai.1 l).1;rw[Gq];simp only[World.cell?,hW];rw[t,Bp]at l;rw[←O,BP]at l
   split at l
   ·rw[←CV];exact l
   ·cases l
 have al:=h_ (ab w.drew J)
 have aq:Hid (∀W:World,(Instr.sliceAt 66 (.slice (some ⟨g,0,none⟩) n cap) (some (.int .i64 (j:Int))) none none).run Tryz.prog W=.ok T W):=h_ (fun W=>by
  rw[G];have q:(j:Int)≤n:=by omega
  by_cases p:cap=j
  ·simp[Instr.sliceAt,Cn BT,Instr.slice,Instr.sliceBounds,Instr.sliceBound,asIntOf,aa,sizeOf,typeInfo,L,y,p]
  ·simp[Instr.sliceAt,Cn BT,Instr.slice,Instr.sliceBounds,Instr.sliceBound,asIntOf,aa,sizeOf,typeInfo,L,y,p,Addr.add];omega)
 obtain⟨d,D⟩:∃c1:Array Value,c1=(f.toList.take (i*a.size)++b++f.toList.drop (i*a.size+b.length)).toArray :=⟨_,rfl⟩;have I:i*a.size+b.length≤f.size:=by rw[y,o,C,←Dv];exact Ch _ (by omega)
 have N:d.size=cap*21:=by rw[D];simp only[C2,Aj,Az,A5,X];rw[C]at I;omega
 obtain⟨c,B⟩:∃c,c=w.drew.setRow g d:=⟨_,rfl⟩;have Z:c.heap[g]?=some (.cells d 175 (0,0)):=by rw[B];exact setRow_heap w.drew g f _ _ _ J
 obtain⟨z,am,Q,ac⟩:∃z:Value,(∀w,(zeroValue 175).run Tryz.prog w=.ok z w)∧(Builtin.zeroCells z.cells 1).toList.length =21∧(Builtin.zeroCells z.cells 1).toList.all (fun v=>v.oneCell')=true:=⟨_,Tryz.zeroValue175,by kernel_rfl,by kernel_rfl⟩;obtain⟨m,ad⟩:∃m:List Value,m=(Builtin.zeroCells z.cells 1).toList :=⟨_,rfl⟩;rw[←ad]at Q ac;have an:∀v∈m,v.oneCell'=true:=fun v hv=>(Cr.1 ac) v hv
 have ag:(n-1)*21+m.length≤d.size:=by rw[N,Q];omega
 obtain⟨A,E⟩:∃c2:Array Value,c2=(d.toList.take ((n-1)*21)++m++d.toList.drop ((n-1)*21+m.length)).toArray :=⟨_,rfl⟩
 have au:∀ty,(Builtin.clear_ #[66] ty #[.slice (some ⟨g,(n-1)*21,none⟩) (n-(n-1)) (cap-(n-1))]).run Tryz.prog c=.ok (.tuple #[]) (c.setRow g A):=
  fun ty=>by rw[show n-(n-1)=1 by omega,E];exact IM c _ _ ty _ m BT am ad.symm an g ((n-1)*21) _ d Z ag
 have S:Hid ((c.setRow g A).ownsRow base 175 21 (.slice (some ⟨g,0,none⟩) (n-1) cap) (n-1) (xs.take (i*21)++xs.drop ((i+1)*21))∧Keep [g] w (c.setRow g A)):=h_ (by
  have ak:n*21-j*21=(n-j)*21:=(Nat.sub_mul _ _ _).symm;have U:i*21+(n-j)*21=(n-1)*21:=by omega
  refine⟨⟨by rw[Aj,Az,A5,s];omega,.inr ⟨g,cap,A,rfl,hb,setRow_heap c g d _ _ _ Z,by omega,ah, ?_, ?_⟩⟩, ?_⟩
  ·rw[E]
   have:d.toList.length=cap*21:=by simpa using N
   simp only[C2,Aj,Az,A5,this,Q];omega
  ·have Y:=SY xs f.toList (i*21) (j*21) ((n-j)*21) m (by omega) (by omega) (by omega) (by rw[s];exact O) (by rw[s,ak])
   rw[U]at Y;rw[E,D,y,o,U,t,r]at*;exact Y
  ·rw[B]
   exact⟨rfl,rfl,rfl,by simp[World.setRow],fun k hk hn=>by
    have M:k≠g:=by simpa using hn
    rw[setRow_other _ _ _ _ M,setRow_other _ _ _ _ M];rfl⟩)
 obtain⟨HW,ae,af⟩:=i_3 B D I;have aw:i≤cap:=by omega
 have ax:j≤cap:=by omega
 obtain⟨HT,ap⟩:=i_2 G o;have M:¬(i:Int)=(j:Int):=by omega
 have av:(n:Int)≤1000000:=by omega
 have ai:i+(n-j)=n-1:=by omega
 obtain⟨ao,HL⟩:=i_2 r ai;clear E r G B D I t o X O C s N ab R;go_enter Tryz.func126,Tryz.ntmps126;go_wp2_with fail
 go_region_law (refine FW _ rfl (.tmp 22) (.tmp 25) _ 66 rfl 175 a BT L g i cap f J (by simp[Act.eval,Act.put]) T (n-j) b (by simp[Act.eval,Act.put];exact HT.out.symm) al.out (by omega) af.out ?_;rw[←ae.out,←HW.out])
 go_wp2_with fail
 all_goals (go_ret;first|exact⟨rfl,S.out⟩|(have hq:=‹cap=j›;rw[←hq];exact⟨rfl,S.out⟩))
theorem Tryz.infoDelRd:(Tryz.prog.info? 138).map (fun i=>(i.size,i.bytes))=some (5,48):=by kernel_rfl
theorem UO {w:World}{base g n cap:Nat}{xs:List Value}(h:w.ownsRow base 138 5 (.slice (some ⟨g,0,none⟩) n cap) n xs)(F:∀u∈xs,u.oneCell'=true)(i:Nat)(K:i<n)(hn:n≤1000000)(jv:Int)(r:jv=(i:Int)+1):
  Calls Tryz.prog 127 #[.slice (some ⟨g,0,none⟩) n cap,.int .i64 (i:Int),.int .i64 jv] w fun e w'=>e=.returned (.slice (some ⟨g,0,none⟩) (n-1) cap)∧
   w'.ownsRow base 138 5 (.slice (some ⟨g,0,none⟩) (n-1) cap) (n-1) (xs.take (i*5)++xs.drop ((i+1)*5))∧Keep [g] w w':=by
 subst r;obtain⟨s,hh⟩:=h;rcases hh with⟨H,_⟩|⟨g',ar,f,H,hb,J,az,ah,C,O⟩
 ·cases H
 injection H with hc1 _ hc2;injection hc1 with hc1;injection hc1 with hc1;subst hc1 hc2
 obtain⟨a,L,y⟩:∃a,Tryz.prog.info? 138=some a∧a.size=5:=by
  have:=Tryz.infoDelRd
  cases K:Tryz.prog.info? 138 with
  |none=>rw[K]at this;cases this
  |some a=>rw[K]at this;injection this with this;injection this with F h2;exact⟨a,rfl,F⟩
 obtain⟨j,r⟩:∃j,j=i+1:=⟨_,rfl⟩;have aa:j≤n:=by omega
 have R:Hid ((i:Int)+1=(j:Int)):=h_ (by omega);rw[R.out];obtain⟨b,t⟩:∃b,b=xs.drop (j*5):=⟨_,rfl⟩;have o:b.length=(n-j)*5:=by rw[t,A5,s,←Nat.sub_mul]
 have X:f.toList.length=cap*5:=by simpa using C
 obtain⟨T,G,ab⟩:∃T:Value,T=(.slice (if cap=j then some ⟨g,0,none⟩else some ⟨g,j*5,none⟩) (n-j) (cap-j))∧∀W:World,W.heap[g]?=some (.cells f 138 (0,0))→Src Tryz.prog a.size 65 T (n-j) b W:=by
  refine⟨_,rfl,fun W hW=> ?_⟩;rw[y];by_cases p:cap=j
  ·rw[Ay p]
   have V:n-j=0:=by omega
   have aj:b=[]:=Bv (by rw[o,V,Nat.zero_mul]);rw[V,aj];refine CC _ CL _ 0 _ [] rfl (fun jj x l=>by simp at l) (by simp)
  ·rw[Aw p]
   refine CC _ CL _ (n-j) _ b o (fun jj x l=> ?_) (fun u hu=>F u (by rw[t]at hu;exact AB hu));have ay:=(Ai.1 l).1;rw[Gq];simp only[World.cell?,hW];rw[t,Bp]at l;rw[←O,BP]at l
   split at l
   ·rw[←CV];exact l
   ·cases l
 have al:=h_ (ab w.drew J)
 have aq:Hid (∀W:World,(Instr.sliceAt 65 (.slice (some ⟨g,0,none⟩) n cap) (some (.int .i64 (j:Int))) none none).run Tryz.prog W=.ok T W):=h_ (fun W=>by
  rw[G];have q:(j:Int)≤n:=by omega
  by_cases p:cap=j
  ·simp[Instr.sliceAt,Cn CL,Instr.slice,Instr.sliceBounds,Instr.sliceBound,asIntOf,aa,sizeOf,typeInfo,L,y,p]
  ·simp[Instr.sliceAt,Cn CL,Instr.slice,Instr.sliceBounds,Instr.sliceBound,asIntOf,aa,sizeOf,typeInfo,L,y,p,Addr.add];omega)
 obtain⟨d,D⟩:∃c1:Array Value,c1=(f.toList.take (i*a.size)++b++f.toList.drop (i*a.size+b.length)).toArray :=⟨_,rfl⟩;have I:i*a.size+b.length≤f.size:=by rw[y,o,C,←Dv];exact Ch _ (by omega)
 have N:d.size=cap*5:=by rw[D];simp only[C2,Aj,Az,A5,X];rw[C]at I;omega
 obtain⟨c,B⟩:∃c,c=w.drew.setRow g d:=⟨_,rfl⟩;have Z:c.heap[g]?=some (.cells d 138 (0,0)):=by rw[B];exact setRow_heap w.drew g f _ _ _ J
 obtain⟨z,am,Q,ac⟩:∃z:Value,(∀w,(zeroValue 138).run Tryz.prog w=.ok z w)∧(Builtin.zeroCells z.cells 1).toList.length =5∧(Builtin.zeroCells z.cells 1).toList.all (fun v=>v.oneCell')=true:=⟨_,Tryz.zeroValue138,by kernel_rfl,by kernel_rfl⟩;obtain⟨m,ad⟩:∃m:List Value,m=(Builtin.zeroCells z.cells 1).toList :=⟨_,rfl⟩;rw[←ad]at Q ac;have an:∀v∈m,v.oneCell'=true:=fun v hv=>(Cr.1 ac) v hv
 have ag:(n-1)*5+m.length≤d.size:=by rw[N,Q];omega
 obtain⟨A,E⟩:∃c2:Array Value,c2=(d.toList.take ((n-1)*5)++m++d.toList.drop ((n-1)*5+m.length)).toArray :=⟨_,rfl⟩
 have au:∀ty,(Builtin.clear_ #[65] ty #[.slice (some ⟨g,(n-1)*5,none⟩) (n-(n-1)) (cap-(n-1))]).run Tryz.prog c=.ok (.tuple #[]) (c.setRow g A):=
  fun ty=>by rw[show n-(n-1)=1 by omega,E];exact IM c _ _ ty _ m CL am ad.symm an g ((n-1)*5) _ d Z ag
 have S:Hid ((c.setRow g A).ownsRow base 138 5 (.slice (some ⟨g,0,none⟩) (n-1) cap) (n-1) (xs.take (i*5)++xs.drop ((i+1)*5))∧Keep [g] w (c.setRow g A)):=h_ (by
  have ak:n*5-j*5=(n-j)*5:=(Nat.sub_mul _ _ _).symm;have U:i*5+(n-j)*5=(n-1)*5:=by omega
  refine⟨⟨by rw[Aj,Az,A5,s];omega,.inr ⟨g,cap,A,rfl,hb,setRow_heap c g d _ _ _ Z,by omega,ah, ?_, ?_⟩⟩, ?_⟩
  ·rw[E]
   have:d.toList.length=cap*5:=by simpa using N
   simp only[C2,Aj,Az,A5,this,Q];omega
  ·have Y:=SY xs f.toList (i*5) (j*5) ((n-j)*5) m (by omega) (by omega) (by omega) (by rw[s];exact O) (by rw[s,ak])
   rw[U]at Y;rw[E,D,y,o,U,t,r]at*;exact Y
  ·rw[B]
   exact⟨rfl,rfl,rfl,by simp[World.setRow],fun k hk hn=>by
    have M:k≠g:=by simpa using hn
    rw[setRow_other _ _ _ _ M,setRow_other _ _ _ _ M];rfl⟩)
 obtain⟨HW,ae,af⟩:=i_3 B D I;have aw:i≤cap:=by omega
 have ax:j≤cap:=by omega
 obtain⟨HT,ap⟩:=i_2 G o;have M:¬(i:Int)=(j:Int):=by omega
 have av:(n:Int)≤1000000:=by omega
 have ai:i+(n-j)=n-1:=by omega
 obtain⟨ao,HL⟩:=i_2 r ai;clear E r G B D I t o X O C s N ab R;go_enter Tryz.func127,Tryz.ntmps127;go_wp2_with fail
 go_region_law (refine FW _ rfl (.tmp 22) (.tmp 25) _ 65 rfl 138 a CL L g i cap f J (by simp[Act.eval,Act.put]) T (n-j) b (by simp[Act.eval,Act.put];exact HT.out.symm) al.out (by omega) af.out ?_;rw[←ae.out,←HW.out])
 go_wp2_with fail
 all_goals (go_ret;first|exact⟨rfl,S.out⟩|(have hq:=‹cap=j›;rw[←hq];exact⟨rfl,S.out⟩))
theorem Tryz.infoDelWt:(Tryz.prog.info? 223).map (fun i=>(i.size,i.bytes))=some (7,64):=by kernel_rfl
theorem Delete_Wt {w:World}{base g n cap:Nat}{xs:List Value}(h:w.ownsRow base 223 7 (.slice (some ⟨g,0,none⟩) n cap) n xs)(F:∀u∈xs,u.oneCell'=true)(i:Nat)(K:i<n)(hn:n≤1000000)(jv:Int)(r:jv=(i:Int)+1):
  Calls Tryz.prog 207 #[.slice (some ⟨g,0,none⟩) n cap,.int .i64 (i:Int),.int .i64 jv] w fun e w'=>e=.returned (.slice (some ⟨g,0,none⟩) (n-1) cap)∧
   w'.ownsRow base 223 7 (.slice (some ⟨g,0,none⟩) (n-1) cap) (n-1) (xs.take (i*7)++xs.drop ((i+1)*7))∧Keep [g] w w':=by
 subst r;obtain⟨s,hh⟩:=h;rcases hh with⟨H,_⟩|⟨g',ar,f,H,hb,J,az,ah,C,O⟩
 ·cases H
 injection H with hc1 _ hc2;injection hc1 with hc1;injection hc1 with hc1;subst hc1 hc2
 obtain⟨a,L,y⟩:∃a,Tryz.prog.info? 223=some a∧a.size=7:=by
  have:=Tryz.infoDelWt
  cases K:Tryz.prog.info? 223 with
  |none=>rw[K]at this;cases this
  |some a=>rw[K]at this;injection this with this;injection this with F h2;exact⟨a,rfl,F⟩
 obtain⟨j,r⟩:∃j,j=i+1:=⟨_,rfl⟩;have aa:j≤n:=by omega
 have R:Hid ((i:Int)+1=(j:Int)):=h_ (by omega);rw[R.out];obtain⟨b,t⟩:∃b,b=xs.drop (j*7):=⟨_,rfl⟩;have o:b.length=(n-j)*7:=by rw[t,A5,s,←Nat.sub_mul]
 have X:f.toList.length=cap*7:=by simpa using C
 obtain⟨T,G,ab⟩:∃T:Value,T=(.slice (if cap=j then some ⟨g,0,none⟩else some ⟨g,j*7,none⟩) (n-j) (cap-j))∧∀W:World,W.heap[g]?=some (.cells f 223 (0,0))→Src Tryz.prog a.size 64 T (n-j) b W:=by
  refine⟨_,rfl,fun W hW=> ?_⟩;rw[y];by_cases p:cap=j
  ·rw[Ay p]
   have V:n-j=0:=by omega
   have aj:b=[]:=Bv (by rw[o,V,Nat.zero_mul]);rw[V,aj];refine CC _ Tryz.underlying64 _ 0 _ [] rfl (fun jj x l=>by simp at l) (by simp)
  ·rw[Aw p]
   refine CC _ Tryz.underlying64 _ (n-j) _ b o (fun jj x l=> ?_) (fun u hu=>F u (by rw[t]at hu;exact AB hu));have ay:=(Ai.1 l).1;rw[Gq];simp only[World.cell?,hW];rw[t,Bp]at l;rw[←O,BP]at l
   split at l
   ·rw[←CV];exact l
   ·cases l
 have al:=h_ (ab w.drew J)
 have aq:Hid (∀W:World,(Instr.sliceAt 64 (.slice (some ⟨g,0,none⟩) n cap) (some (.int .i64 (j:Int))) none none).run Tryz.prog W=.ok T W):=h_ (fun W=>by
  rw[G];have q:(j:Int)≤n:=by omega
  by_cases p:cap=j
  ·simp[Instr.sliceAt,Cn Tryz.underlying64,Instr.slice,Instr.sliceBounds,Instr.sliceBound,asIntOf,aa,sizeOf,typeInfo,L,y,p]
  ·simp[Instr.sliceAt,Cn Tryz.underlying64,Instr.slice,Instr.sliceBounds,Instr.sliceBound,asIntOf,aa,sizeOf,typeInfo,L,y,p,Addr.add];omega)
 obtain⟨d,D⟩:∃c1:Array Value,c1=(f.toList.take (i*a.size)++b++f.toList.drop (i*a.size+b.length)).toArray :=⟨_,rfl⟩;have I:i*a.size+b.length≤f.size:=by rw[y,o,C,←Dv];exact Ch _ (by omega)
 have N:d.size=cap*7:=by rw[D];simp only[C2,Aj,Az,A5,X];rw[C]at I;omega
 obtain⟨c,B⟩:∃c,c=w.drew.setRow g d:=⟨_,rfl⟩;have Z:c.heap[g]?=some (.cells d 223 (0,0)):=by rw[B];exact setRow_heap w.drew g f _ _ _ J
 obtain⟨z,am,Q,ac⟩:∃z:Value,(∀w,(zeroValue 223).run Tryz.prog w=.ok z w)∧(Builtin.zeroCells z.cells 1).toList.length =7∧(Builtin.zeroCells z.cells 1).toList.all (fun v=>v.oneCell')=true:=⟨_,Tryz.zeroValue223,by kernel_rfl,by kernel_rfl⟩;obtain⟨m,ad⟩:∃m:List Value,m=(Builtin.zeroCells z.cells 1).toList :=⟨_,rfl⟩;rw[←ad]at Q ac;have an:∀v∈m,v.oneCell'=true:=fun v hv=>(Cr.1 ac) v hv
 have ag:(n-1)*7+m.length≤d.size:=by rw[N,Q];omega
 obtain⟨A,E⟩:∃c2:Array Value,c2=(d.toList.take ((n-1)*7)++m++d.toList.drop ((n-1)*7+m.length)).toArray :=⟨_,rfl⟩
 have au:∀ty,(Builtin.clear_ #[64] ty #[.slice (some ⟨g,(n-1)*7,none⟩) (n-(n-1)) (cap-(n-1))]).run Tryz.prog c=.ok (.tuple #[]) (c.setRow g A):=
  fun ty=>by rw[show n-(n-1)=1 by omega,E];exact IM c _ _ ty _ m Tryz.underlying64 am ad.symm an g ((n-1)*7) _ d Z ag
 have S:Hid ((c.setRow g A).ownsRow base 223 7 (.slice (some ⟨g,0,none⟩) (n-1) cap) (n-1) (xs.take (i*7)++xs.drop ((i+1)*7))∧Keep [g] w (c.setRow g A)):=h_ (by
  have ak:n*7-j*7=(n-j)*7:=(Nat.sub_mul _ _ _).symm;have U:i*7+(n-j)*7=(n-1)*7:=by omega
  refine⟨⟨by rw[Aj,Az,A5,s];omega,.inr ⟨g,cap,A,rfl,hb,setRow_heap c g d _ _ _ Z,by omega,ah, ?_, ?_⟩⟩, ?_⟩
  ·rw[E]
   have:d.toList.length=cap*7:=by simpa using N
   simp only[C2,Aj,Az,A5,this,Q];omega
  ·have Y:=SY xs f.toList (i*7) (j*7) ((n-j)*7) m (by omega) (by omega) (by omega) (by rw[s];exact O) (by rw[s,ak])
   rw[U]at Y;rw[E,D,y,o,U,t,r]at*;exact Y
  ·rw[B]
   exact⟨rfl,rfl,rfl,by simp[World.setRow],fun k hk hn=>by
    have M:k≠g:=by simpa using hn
    rw[setRow_other _ _ _ _ M,setRow_other _ _ _ _ M];rfl⟩)
 obtain⟨HW,ae,af⟩:=i_3 B D I;have aw:i≤cap:=by omega
 have ax:j≤cap:=by omega
 obtain⟨HT,ap⟩:=i_2 G o;have M:¬(i:Int)=(j:Int):=by omega
 have av:(n:Int)≤1000000:=by omega
 have ai:i+(n-j)=n-1:=by omega
 obtain⟨ao,HL⟩:=i_2 r ai;clear E r G B D I t o X O C s N ab R;go_enter Tryz.func207,Tryz.ntmps207;go_wp2_with fail
 go_region_law (refine FW _ rfl (.tmp 22) (.tmp 25) _ 64 rfl 223 a Tryz.underlying64 L g i cap f J (by simp[Act.eval,Act.put]) T (n-j) b (by simp[Act.eval,Act.put];exact HT.out.symm) al.out (by omega) af.out ?_;rw[←ae.out,←HW.out])
 go_wp2_with fail
 all_goals (go_ret;first|exact⟨rfl,S.out⟩|(have hq:=‹cap=j›;rw[←hq];exact⟨rfl,S.out⟩))
theorem open_bools {H:Type}{enc:TypeId×Value→H}{W:World}{v:Value}{d:DataW H}{p:List MemPlace}{r:Reach}{b:Nat}
  (g:Value.okWide Tryz.prog W r b 37 v) (h:DataW.Trod enc Tryz.prog W 0 (fun _=>true) true 37 v d p):∃keep:List Bool,Rv W 1 v keep.length (WA keep)∧keep.length≤9223372036854775807:=by
 obtain⟨i,j,cap,rfl⟩:=okWide_slice Tryz.underlying37 g;obtain⟨⟨y,l⟩,a,c,e⟩:=opens_val (f:=fun p:Value×List Bool=>p.1) (opens_bools Tryz.underlying37 Tryz.underlying4 (by kernel_rfl)) (fun y a=>by simpa[Value.cells]using a) h;exact⟨l,a▸c,e⟩
end Go.Proofs.YtnhbioehiiifdaaGreat
