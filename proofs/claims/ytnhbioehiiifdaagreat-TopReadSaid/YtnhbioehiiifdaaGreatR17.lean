import Derived.Test.YtnhbioehiiifdaaGreatR14
set_option maxRecDepth 100000
set_option maxHeartbeats 16000000
set_option linter.all false
namespace Go.Proofs.YtnhbioehiiifdaaGreat
open Go.ChangeShapes Go.WideShapes Go.ChangeAt Go.RowKit
section
variable {w w':World} {stb d sb c t segs:Nat} {L:List Sec} {bt:Nat} {st ep rd:Int} {fz:Bool} {M:List JMk} {R:List (Nat×FR)} {x:StD}
theorem FlOk.devCongr {B g k o p frm j m:Nat}{n:Value}{l:List Sg}{T:Tab}{f:List Sec}(h:FlOk w B g k o p d frm segs t n l L T j m R)(v:0<segs)(s:∀i,frm≤i→i<frm+segs*8→nowF f i=nowF L i):FlOk w B g k o p d frm segs t n l f T j m R:=by obtain⟨y,z,r,q,e,u⟩:=h.log;exact⟨h.blk,⟨y,z,r,q,⟨e.at_,e.dev.congr (fun i a b=>s i a (by omega)) v,e.say⟩,u⟩,h.tail,h.few,h.up,h.idx,h.tab,h.says,h.cnt_,h.may⟩
theorem StAt.wipe (h:StAt w stb d sb c t segs L bt st ep rd fz M R x)(r:c+20<1099511627776)(C:t≤1000000)(v:encN (R.map frRec)+9≤2225):
  Calls Tryz.prog 229 #[pr x.cb 0] w fun e w'=>e=.returned (.int .i64 0)∧∃b f j pos,StAt w' stb d sb j (t+1) segs (f.map flushSec) bt st ep rd fz M (R++[(pos,.wipe)]) b∧j≤c+13∧f.length=L.length∧
   Keep (d::sb::x.fF) w w'∧(∀q∈b.F stb,q∈x.F stb∨w.heap.size≤q)∧b.cb=x.cb∧b.jb=x.jb∧b.k=x.k∧b.T=EP∧b.used=0∧b.cnt=0∧b.slot=x.slot∧b.turn=x.turn∧(∀i,i<162→nowF f i=nowF L i):=by
 refine(RH h.fl h.dev r C ⟨h.segs_.1,h.segs_.2.1⟩ h.segs_.2.2 v).mono ?_;rintro e w' ⟨rfl,K,N,J,D,f,j,pos,y,u,s,n,hF,o,p⟩;obtain⟨E,G,H,I⟩:=h.others;have A:=h.jn.lt;refine⟨rfl,{x with xb:=K,xg:=N,vl:=J,l:=D,T:=EP,cnt:=0,used:=0},f,j,pos,⟨h.blk.keep n E,u,h.kep.keep' n G H,⟨h.lim.1,by have:=h.lim.2;show x.turn≤t+1;omega⟩,((h.jn.keep n I).devCongr (fun i a m=>by rw[CS];exact p i (by omega))).later (by omega),y,fun q g B=> ?_,by rw[AD,o];exact h.segs_⟩,s,o,n,fun q g=> ?_,rfl,rfl,rfl,rfl,rfl,rfl,rfl,rfl,fun i z=>p i (.inl z)⟩
 ·rcases hF q B with a|a
  ·exact h.apart q g a
  ·have:=(A q g).2;omega
 ·simp only[StD.F,StD.jF,StD.fF,Ac,Ag]at g⊢
  rcases g with a|a|a|a|a
  ·simp[a]
  ·simp[a]
  ·simp[a]
  ·simp[a]
  ·rcases hF q a with m|m
   ·simp[m]
   ·exact .inr m
theorem StAt.keeper (h:StAt w stb d sb c t segs L bt st ep rd fz M R x):stb∉ [d,sb,x.s,x.k]∧(∀q∈x.jF,q∉ [d,sb,x.s,x.k])∧∀q∈x.fF,q∉ [d,sb,x.s,x.k]:=by
 have j:=h.jn.notT h.dev.dev.ty (by decide);have l:=h.jn.notT h.dev.secs.ty (by decide);have m:=h.jn.notT h.kep.2.ty (by decide);have n:=h.jn.notT h.kep.1.ty (by decide);have e:=h.fl.notT h.dev.dev.ty (by decide);have f:=h.fl.notT h.dev.secs.ty (by decide);have g:=h.fl.notT h.kep.2.ty (by decide);have i:=h.fl.notT h.kep.1.ty (by decide);refine⟨fun a=> ?_,fun q b a=> ?_,fun q b a=> ?_⟩
 ·simp only[Ac,Am,AG]at a
  rcases a with a|a|a|a
  ·exact h.dev.dev.ty.ne h.blk.ty (by decide) a.symm
  ·exact h.dev.secs.ty.ne h.blk.ty (by decide) a.symm
  ·exact h.kep.2.ty.ne h.blk.ty (by decide) a.symm
  ·exact h.kep.1.ty.ne h.blk.ty (by decide) a.symm
 ·simp only[Ac,Am,AG]at a
  rcases a with rfl|rfl|rfl|rfl
  ·exact j b
  ·exact l b
  ·exact m b
  ·exact n b
 ·simp only[Ac,Am,AG]at a
  rcases a with rfl|rfl|rfl|rfl
  ·exact e b
  ·exact f b
  ·exact g b
  ·exact i b
theorem StAt.save (h:StAt w stb d sb c t segs L bt st ep rd fz M R x)(A:c+20<1099511627776)(E:t≤1000000)(e r:Int)(f:Bool)(b:true=Ep (bt:Int) e r f)(n:ep≤e):
  Calls Tryz.prog 188 #[pr x.k 0,SP (bt:Int) e r f] w fun y w'=>y=.returned (.int .i64 0)∧
   StAt w' stb d sb (c+2) (t+1) segs ((L.map flushSec).set (0+(1-x.slot)) ⟨Cz (x.turn+1) (meText (bt:Int) e r f),Cz (x.turn+1) (meText (bt:Int) e r f),false⟩) bt st e r f M R {x with turn:=x.turn+1,slot:=1-x.slot}∧Keep [d,sb,x.s,x.k] w w':=by
 obtain⟨u,v,z⟩:=h.keeper;have C:=h.lim;have D:=h.segs_;refine(Jd h.dev h.kep (bt:Int) e r f b (Int.le_refl _) n h.lim.1 (by omega) (by omega) (by omega)).mono ?_;rintro y w' ⟨rfl,m,o,a⟩
 have g:∀i,2≤i→nowF ((L.map flushSec).set (0+(1-x.slot)) ⟨Cz (x.turn+1) (meText (bt:Int) e r f),Cz (x.turn+1) (meText (bt:Int) e r f),false⟩) i=nowF L i:=fun i B=>by rw[DF _ _ _ _ (by simp;omega),Aw (by omega),CS]
 refine⟨rfl,⟨h.blk.keep a u,m,o,⟨by show 1-x.slot≤1;omega,by show x.turn+1≤t+1;omega⟩,((h.jn.keep a v).devCongr (fun i j l=>g i (by omega))).later (by omega),((h.fl.keep a (fun q b p=>z q p b)).devCongr (by omega) (fun i j l=>g i (by omega))).later (by omega),h.apart,by rw[Bi,AD];exact h.segs_⟩,a⟩
end
end Go.Proofs.YtnhbioehiiifdaaGreat
