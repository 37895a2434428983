import Derived.Test.YtnhbioehiiifdaaGreatR01
import Derived.Great.BuildSlice
set_option maxRecDepth 100000
set_option maxHeartbeats 16000000
set_option linter.all false
namespace Go.Proofs.YtnhbioehiiifdaaGreat
open Go.ChangeShapes Go.WideShapes Go.ChangeAt Go.RowKit
def SS (v:Value):Option (DataW Value×List MemPlace):=some (.held v,[])
def MV {β:Type}(P:Program)(k:TypeId)(ky:β→Lit)(w:World)(g n:Nat)(f:β→Option Value):Prop:=
 ∃D:DataW Value,w.ownsMap P k SS g n D∧Maps.IsMap D∧∀b:β,Maps.has D (ky b)=(f b).isSome ∧∀x,f b=some x→∀z,D.atKey (ky b) z=.held x
section
variable {P:Program} {k:TypeId} {w w':World} {g n:Nat} {β:Type} {ky:β→Lit} {f:β→Option Value}
theorem MV.made (P:Program)(k:TypeId)(ky:β→Lit)(w:World):MV P k ky (w.alloc (.map #[] 0)) w.heap.size 0 (fun _=>none):=
 ⟨.map [],World.ownsMap_made w _ _ _,Maps.isMap_empty,fun k=>⟨rfl,fun x h=>by cases h⟩⟩
theorem MV.lt (h:MV P k ky w g n f):g<w.heap.size:=by obtain⟨D,h,_⟩:=h;exact h.lt
theorem MV.keep {S:List Nat}(h:MV P k ky w g n f)(i:Keep S w w')(e:g∉S):MV P k ky w' g n f:=by obtain⟨D,⟨b,clock,a,r⟩,c⟩:=h;have d:=(Cd.1 a).1;exact⟨D,⟨b,clock,by rw[i.block g d e];exact a,r⟩,c⟩
theorem MV.ne {b:Nat}{T:TypeId}(h:MV P k ky w g n f)(d:Ty w b T):b≠g:=by obtain⟨D,⟨e,clock,c,_⟩,_⟩:=h;rintro rfl;obtain⟨_,_,a⟩:=d;rw[c]at a;cases a
theorem MV.look {t e:TypeId}(h:MV P k ky w g n f)(K:Maps.Keyed P k)(p:P.underlying t=some (.map k e)){z:Value}(q:(zeroValue e).run P w=.ok z w){key:Value}{kl:β}(m:keyOf P k key=some (ky kl)):
  (Instr.lookup t (.map (some g)) key false).run P w=.ok ((f kl).getD z) w:=by
 obtain⟨D,j,r,l⟩:=h;obtain⟨v,ps,o,b⟩:=j.lookup (t:=t) K p q (show SS z=some (.held z,[])from rfl) m
 have a:DataW.held v=D.atKey (ky kl) (.held z):=by unfold SS at b;simp only[BU,Prod.mk.injEq]at b;exact b.1
 obtain⟨d,i⟩:=l kl;rw[o]
 cases c:f kl with
 |none=>rw[Maps.atKey_of_not_has (by rw[d,c];rfl)]at a;injection a with a;rw[a];rfl
 |some x=>rw[i x c]at a;injection a with a;rw[a];rfl
theorem MV.put [DecidableEq β]{t e:TypeId}(h:MV P k ky w g n f)(K:Maps.Keyed P k)(ht:P.underlying t=some (.map k e)){key:Value}{kl:β}(hk:keyOf P k key=some (ky kl))(hky:∀i j,ky i=ky j→i=j)(x:Value)(hn:n<maxLen):
  ∃w',(Instr.mapUpdate t (.map (some g)) key x).run P w=.ok () w'∧MV P k ky w' g (n+1) (fun j=>if j=kl then some x else f j)∧Keep [g] w w':=by
 obtain⟨D,m,c,d⟩:=h;obtain⟨w',o,p,q⟩:=m.update (t:=t) K ht hn hk (show SS x=some (.held x,[])from rfl);have l:=K.key hk;refine⟨w',o,⟨_,p,c.put _ _,fun j=> ?_⟩,by simpa using DJ q⟩;by_cases b:j=kl
 ·subst b
  simp only[D5];refine⟨Maps.has_put_same c l _,fun y a z=> ?_⟩;injection a with a;subst a;exact Maps.atKey_put_same c l _ _
 ·simp only[Aw b]
  rw[Maps.has_put_other (fun e=>b (hky _ _ e))];exact⟨(d j).1,fun y a z=>by rw[Maps.atKey_put_other (fun e=>b (hky _ _ e))];exact(d j).2 y a z⟩
theorem MV.del [DecidableEq β]{t e:TypeId}(h:MV P k ky w g n f)(K:Maps.Keyed P k)(ht:P.underlying t=some (.map k e)){key:Value}{kl:β}(hk:keyOf P k key=some (ky kl))(hky:∀i j,ky i=ky j→i=j)(ty:TypeId):
  ∃w',(Builtin.delete_ #[t,k] ty #[.map (some g),key]).run P w=.ok (.tuple #[]) w'∧MV P k ky w' g n (fun j=>if j=kl then none else f j)∧Keep [g] w w':=by
 obtain⟨D,d,l,c⟩:=h;obtain⟨w',m,o,p⟩:=d.drop K ht hk ty;refine⟨w',m,⟨_,o,l.del _,fun j=> ?_⟩,by simpa using DJ p.grown⟩;by_cases a:j=kl
 ·subst a
  simp only[D5];exact⟨Maps.has_del_same,fun y b=>by cases b⟩
 ·simp only[Aw a]
  rw[Maps.has_del_other (fun e=>a (hky _ _ e))];exact⟨(c j).1,fun y b z=>by rw[Maps.atKey_del_other (fun e=>a (hky _ _ e))];exact(c j).2 y b z⟩
end
def kyI (a:Int):Lit:= .int .i64 a
def kyS (s:ByteArray):Lit:= .string s.data.toList
theorem SR:∀i j,kyI i=kyI j→i=j:=fun i j h=>by unfold kyI at h;injection h
theorem X5:∀i j,kyS i=kyS j→i=j:=fun i j h=>by unfold kyS at h;injection h with h;exact ByteArray.ext (Array.toList_inj.1 h)
theorem SM {P:Program}{k:TypeId}(a:P.underlying k=some .string)(s:ByteArray)(h:s.size≤1000000):keyOf P k (.string s)=some (kyS s):=WideMaps.keyOf_string_mk a (by unfold maxLen;omega)
theorem VJ {P:Program}{k:TypeId}(b:P.underlying k=some (.int .i64))(a:Int)(h: -9223372036854775808≤a∧a≤9223372036854775807):keyOf P k (.int .i64 a)=some (kyI a):=Maps.keyOf_int_mk b (by simp[Lit.wf,IntKind.min,IntKind.max,IntKind.signed,IntKind.bits];omega)
def Kv (x:Nat):Nat:=
 let a:=((x^^^(x/1073741824))*13787848793156543929) % 18446744073709551616
 let b:=((a^^^(a/134217728))*10723151780598845931) % 18446744073709551616
 b^^^(b/2147483648)
def F7:Nat→List Nat→Nat
 |h,[]=>h
 |h,c::l=>F7 ((Kv (h^^^c)+1) % 18446744073709551616) l
def IN (k:List Nat):Nat:=Kv (F7 11400714819323198485 k^^^(256+k.length))
def MM (a i:Nat):Nat:=Kv (a*1000003+i)
theorem Jj {x y:Nat}(a:x<18446744073709551616)(b:y<18446744073709551616):x^^^y<18446744073709551616:=
 Nat.xor_lt_two_pow (n:=64) a b
theorem Xa (x:Nat):Kv x<18446744073709551616:=by
 unfold Kv;simp only;have:∀b:Nat,b<18446744073709551616→b^^^(b/2147483648)<18446744073709551616:=fun b a=>Jj a (by omega)
 exact this _ (C1 _ (by decide))
theorem Lw:∀(l:List Nat) (h:Nat),h<18446744073709551616→F7 h l<18446744073709551616
 |[],h,hh=>hh
 |c::l,h,hh=>Lw l _ (C1 _ (by decide))
theorem Lv:∀(l:List Nat) (h c:Nat),F7 h (l++[c])=(Kv (F7 h l^^^c)+1) % 18446744073709551616
 |[],h,c=>rfl
 |a::l,h,c=>by show F7 _ (l++[c])=_;rw[Lv l];rfl
theorem P3 (k:List Nat):IN k<18446744073709551616:=Xa _
def GK (a b:Nat×Nat):Bool:=decide (a.1<b.1)||(decide (a.1=b.1)&&decide (a.2<b.2))
def Lo (x:Nat×Nat):List (Nat×Nat)→List (Nat×Nat)
 |[]=>[x]
 |y::l=>if GK x y then x::y::l else y::Lo x l
def NE:List (Nat×Nat)→List (Nat×Nat)
 |[]=>[]
 |x::l=>Lo x (NE l)
def Dd (mem:List Nat):List (Nat×Nat):=mem.flatMap (fun n=>(List.range 8).map (fun i=>(MM n i,n)))
def ptsOf (mem:List Nat):List (Nat×Nat):=NE (Dd mem)
def Eg (pts:List (Nat×Nat))(h:Nat):Nat:=match pts.find? (fun p=>decide (h≤p.1))with
 |some p=>p.2
 |none=>match pts with
  |[]=>0
  |p::_=>p.2
abbrev Str:=ByteArray
def FZ (k:Str):Nat:=IN (sb k)
def JE:List Nat→List Nat→Bool
 |_,[]=>false
 |[],_::_=>true
 |a::l,b::m=>decide (a<b)||(decide (a=b)&&JE l m)
def UR (a b:Str):Bool:=JE (sb a) (sb b)
abbrev se:Str:=ByteArray.empty
structure Wm where
 kind:Nat
 src:Nat:=0
 dst:Nat:=0
 epoch:Nat:=0
 tick:Nat:=0
 seq:Nat:=0
 n:Nat:=0
 id:Nat:=0
 op:Nat:=0
 key:Str:=se
 err:Nat:=0
 last:Bool:=false
 it:Str×Str×Bool:=(se,se,false)
 its:List (Str×Str):=[]
 mks:List (Nat×Str):=[]
 mem:List Nat:=[]
 base:Nat:=0
 old:List Nat:=[]
deriving DecidableEq
structure Mv where
 frm:Nat
 too:Nat
 src:Nat
 dst:Nat
deriving DecidableEq
def Yb (x:Nat):List Nat→List Nat
 |[]=>[x]
 |y::l=>if x<y then x::y::l else if x=y then y::l else y::Yb x l
def VA:List Nat→List Nat
 |[]=>[]
 |x::l=>Yb x (VA l)
def V1 (a b:List (Nat×Nat)):List Nat→Nat→List Mv→List Mv
 |[],_,acc=>acc
 |too::l,frm,acc=>
  let s:=Eg a too
  let d:=Eg b too
  let c:=if s=d then acc else match acc with
   |m::acc0=>if m.too+1=frm∧m.src=s∧m.dst=d then {m with too:=too}::acc0 else⟨frm,too,s,d⟩::acc
   |[]=>[⟨frm,too,s,d⟩]
  V1 a b l (too+1) c
def V0 (a b:List (Nat×Nat)):List Mv:=(V1 a b (VA (a.map Prod.fst++b.map Prod.fst++[18446744073709551615])) 0 []).reverse
def KT (l:List Mv)(h:Nat):Bool:=l.any (fun m=>decide (m.frm≤h∧h≤m.too))
abbrev Cache:=List (Str×Str)
def GA (k v:Str):Cache→Cache
 |[]=>[(k,v)]
 |(k',v')::l=>if UR k k' then(k,v)::(k',v')::l else if k=k' then(k,v)::l else(k',v')::GA k v l
def cGet (c:Cache)(k:Str):Option Str:=(c.find? (fun p=>decide (p.1=k))).map Prod.snd
def W8 (c:Cache)(a:List Str):Cache:=c.filter (fun p=> !a.contains p.1)
def cNext (c:Cache)(f t:Nat)(after:Str):Option (Str×Str):=c.find? (fun p=>UR after p.1&&decide (f≤FZ p.1∧FZ p.1≤t))
structure Who where
 node:Nat
 id:Nat
 op:Nat
 key:Str
deriving DecidableEq
structure Wt where
 w:Who
 id:Nat
 too:Nat
 whn:Nat
deriving DecidableEq
structure OutS where
 epoch:Nat
 src:Nat
 dst:Nat
 parts:List Mv
 tick:Nat
 count:Nat
 id:Nat
 cur:Wm
 part:Nat
 after:Str
 sent:Bool
 frozen:Bool
 fin:Nat
 known:Nat
structure InS where
 epoch:Nat
 src:Nat
 dst:Nat
 parts:List Mv
 id:Nat
 n:Nat
 known:Nat
 last:Bool
structure Disk where
 boot:Nat:=0
 epoch:Nat:=0
 ready:Nat:=0
 frozen:Bool:=false
 cache:Cache:=[]
 jk:List Str:=[]
 used:Nat:=0
structure Rp where
 id:Nat
 op:Nat
 key:Str
 err:Nat
 val:Str
 has:Bool
deriving DecidableEq
structure Nd where
 id:Nat
 dk:Disk
 lep:Nat:=0
 lend:Nat:=0
 ltop:Nat:=0
 ring:Option (Nat×List Nat):=none
 tlast:Nat:=0
 toks:List (Nat×Str×Bool):=[]
 knows:Bool:=false
 parts:List Mv:=[]
 outs:List (Nat×OutS):=[]
 ins:List (Nat×InS):=[]
 waits:List Wt:=[]
 reads:List (Who×Nat):=[]
 asked:Nat:=0
 msgs:List Wm:=[]
 reps:List Rp:=[]
namespace Nd
def pts (n:Nd):List (Nat×Nat):=match n.ring with|none=>[]|some r=>ptsOf r.2
def own (n:Nd)(k:Str):Nat:=Eg n.pts (FZ k)
def say (n:Nd)(l:List Wm):Nd:={n with msgs:=n.msgs++l.map (fun m=> {m with src:=n.id})}
def tell (n:Nd)(w:Who)(err:Nat)(val:Str)(a:Bool):Nd:=
 if w.node=0 then {n with reps:=n.reps++[⟨w.id,w.op,w.key,err,val,a⟩]}
 else n.say [{kind:=14,dst:=w.node,id:=w.id,err:=err,it:=if w.op=1∧err=0 then(w.key,val, !a)else(se,se,false)}]
def good (n:Nd)(now:Nat):Bool:=decide (0<n.dk.epoch∧n.dk.epoch=n.lep∧now<n.lend)
def serves (n:Nd)(now:Nat)(k:Str):Bool:=
 if n.own k≠n.id∨n.good now=false then false
 else if n.dk.frozen=false then true
 else n.knows&& !KT (n.parts.filter (fun m=>decide (m.src=n.id))) (FZ k)
def recLen (k v:Str):Nat:=k.size+v.size+20
def dropKeys (n:Nd)(a:List Str):Nd:={n with dk:={n.dk with cache:=W8 n.dk.cache a,used:=n.dk.used+(a.map (fun k=>recLen k se)).sum }}
def drops (n:Nd)(f:Str→Bool):Nd:=match(n.dk.cache.map Prod.fst).filter f with
 |[]=>n
 |l=>n.dropKeys l
def strange (n:Nd):Nd:=match n.ring with
 |none=>n
 |some _=>n.drops (fun k=>decide (n.own k≠n.id))
def still (n:Nd):Nd:={n with knows:=false,parts:=[],outs:=[],ins:=[]}
def save (n:Nd)(ep rd:Nat)(a:Bool):Nd:={n with dk:={n.dk with epoch:=ep,ready:=rd,frozen:=a}}
def clear (n:Nd):Nd:={n with toks:=n.toks.map (fun t=>(t.1,t.2.1,false))}
def adopt (n:Nd)(a:Nat)(mem:List Nat):Nd:=
 if a=n.dk.epoch then
  match n.ring with
  |some _=>n
  |none=>
   let b:={n with ring:=some (a,mem)}
   if n.dk.ready=0 then b.strange else b
 else
  let b:=if a=n.dk.ready then n else {n with dk:={n.dk with cache:=[],used:=n.dk.used+9}}
  let d:=(({(b.save a 0 false)with ring:=some (a,mem)}:Nd).strange)
  let c:=({d with lep:=0,lend:=0,ltop:=0}:Nd).clear.still
  let e:=c.waits.foldl (fun n w=>n.tell w.w 6 se false) c
  {e with waits:=[]}
def giveUp (n:Nd):Nd:=((n.save n.dk.epoch 0 false).still).strange
def take (n:Nd)(now a ep:Nat):Nd:=
 if ep<1∨ep<n.ltop∨now<a∨20≤now-a∨(ep=n.lep∧a+20≤n.lend)then n
 else {n with lep:=ep,lend:=a+20,ltop:=ep}
end Nd
namespace OutS
def entriesGo (c:Cache)(parts:List Mv):Nat→Nat→Nat→Str→List (Str×Str)→List (Str×Str)×Nat×Str
 |0,_,part,after,acc=>(acc.reverse,part,after)
 |f+1,n,part,after,acc=>
  if n≤acc.length then(acc.reverse,part,after)
  else match parts[part]? with
   |none=>(acc.reverse,part,after)
   |some p=>match cNext c p.frm p.too after with
    |none=>entriesGo c parts f n (part+1) se acc
    |some x=>entriesGo c parts f n part x.1 (if KT (parts.take part) (FZ x.1)then acc else x::acc)
def entries (o:OutS)(d:Disk)(n:Nat):List (Str×Str)×Nat×Str:=entriesGo d.cache o.parts (d.cache.length+o.parts.length+1) n o.part o.after []
def read (o:OutS)(d:Disk)(n:Nat):OutS:=
 let r:=o.entries d 4
 let a:={o with part:=r.2.1,after:=r.2.2}
 {a with cur:={kind:=5,src:=o.src,dst:=o.dst,epoch:=o.epoch,id:=o.id,tick:=o.tick,n:=n,seq:=d.jk.length,its:=r.1,last:=(a.entries d 1).1.isEmpty }}
def begin (o:OutS)(d:Disk):OutS:=
 let b:={o with count:=o.count+1,id:=d.boot*1048576+(o.count+1),part:=0,after:=se,sent:=false}
 let a:=b.read d 1
 {a with known:=a.cur.seq}
def send (d:Disk)(a src dst:Nat)(parts:List Mv):OutS:=begin ⟨a,src,dst,parts,0,0,0,{kind:=0},0,se,false,false,0,0⟩ d
def done (o:OutS):Bool:=o.sent&&o.frozen&&decide (o.fin≤o.known)
def next (o:OutS)(d:Disk):OutS×List Wm:=
 if o.done then(o,[])
 else if o.sent=false then(o,[o.cur])
 else if o.frozen=false then(o,[])
 else if o.known≤d.jk.length then
  (o,[{kind:=8,src:=o.src,dst:=o.dst,epoch:=o.epoch,id:=o.id,tick:=o.tick,seq:=o.known,mks:=((d.jk.zipIdx.map (fun p=>(p.2+1,p.1))).drop o.known).take 4}])
 else let a:=o.begin d;(a,[a.cur])
def hear (o:OutS)(d:Disk)(m:Wm):OutS×List Wm:=
 if(m.kind≠6∧m.kind≠9)∨m.epoch≠o.epoch∨m.src≠o.dst∨m.dst≠o.src then(o,[])
 else
  let r:OutS×Bool:=
   if m.tick≠o.tick then(({o with tick:=m.tick}:OutS).begin d,true)
   else if m.id≠o.id then(o,false)
   else if m.kind=6 then
    if m.n=0 then(o.begin d,true)
    else if m.n≠o.cur.n∨o.sent=true then(o,false)
    else if o.cur.last then({o with sent:=true},true)
    else(o.read d (m.n+1),true)
   else if o.known<m.seq then({o with known:=m.seq},true)
   else(o,false)
  if r.2 then r.1.next d else(r.1,[])
def freeze (o:OutS)(d:Disk):OutS:={o with frozen:=true,fin:=d.jk.length}
end OutS
namespace InS
def say (x:InS)(a kind id n seq:Nat):List Wm:=[{kind:=kind,src:=x.dst,dst:=x.src,epoch:=x.epoch,id:=id,tick:=a,n:=n,seq:=seq}]
def covers (x:InS)(k:Str):Bool:=KT x.parts (FZ k)
def put (x:InS)(d:Disk)(m:Wm):InS×Disk:=
 ({x with n:=m.n,last:=m.last},m.its.foldl (fun d y=>if x.covers y.1 then {d with cache:=GA y.1 y.2 d.cache,used:=d.used+Nd.recLen y.1 y.2}else d) d)
def hear (x:InS)(d:Disk)(m:Wm):InS×Disk×List Wm:=
 if(m.kind≠5∧m.kind≠8)∨m.epoch≠x.epoch∨m.src≠x.src∨m.dst≠x.dst then(x,d,[])
 else if m.tick≠d.boot then(x,d,x.say d.boot 6 m.id 0 0)
 else if m.kind=5 then
  if m.n=1∧x.id<m.id then
   let b:=(d.cache.map Prod.fst).filter x.covers
   let c:={d with cache:=W8 d.cache b,used:=d.used+(b.map (fun k=>Nd.recLen k se)).sum }
   let r:=({x with id:=m.id,known:=m.seq}:InS).put c m
   (r.1,r.2,r.1.say d.boot 6 m.id r.1.n 0)
  else if m.id=x.id∧m.n=x.n+1 then
   let r:=x.put d m
   (r.1,r.2,r.1.say d.boot 6 m.id r.1.n 0)
  else if m.id=x.id∧1≤m.n∧m.n≤x.n then(x,d,x.say d.boot 6 m.id x.n 0)
  else if x.id<m.id then(x,d,x.say d.boot 6 m.id 0 0)
  else(x,d,[])
 else
  if x.id<m.id then(x,d,x.say d.boot 6 m.id 0 0)
  else if m.id<x.id∨x.last=false∨x.known<m.seq then(x,d,[])
  else
   let r:=m.mks.foldl (fun(a:InS×Disk×Bool) y=>
    if a.2.2 then a
    else if y.1≤a.1.known then a
    else if y.1≠a.1.known+1 then(a.1,a.2.1,true)
    else({a.1 with known:=y.1},(if a.1.covers y.2 then {a.2.1 with cache:=W8 a.2.1.cache [y.2],used:=a.2.1.used+Nd.recLen y.2 se}else a.2.1),false)) (x,d,false)
   (r.1,r.2.1,r.1.say d.boot 9 m.id 0 r.1.known)
end InS
namespace Nd
def outAt (n:Nd)(a:Nat):Option OutS:=(n.outs.find? (fun p=>decide (p.1=a))).map Prod.snd
def setOut (n:Nd)(a:Nat)(o:OutS):Nd:={n with outs:=n.outs.map (fun p=>if p.1=a then(a,o)else p)}
def next (n:Nd)(a:Nat):Nd:=match n.outAt a with
 |none=>n
 |some o=>let r:=o.next n.dk;(n.setOut a r.1).say r.2
def allSent (n:Nd):Bool:=n.outs.all (fun p=>p.2.sent)
def allDone (n:Nd):Bool:=n.outs.all (fun p=>p.2.done)
def did (n:Nd):Nd×List Wm×List Rp:=({n with msgs:=[],reps:=[]},n.msgs,n.reps)
def beat (n:Nd)(now:Nat):Nd×List Wm×List Rp:=
 let b:=n.say [{kind:=1,tick:=now,epoch:=n.dk.epoch,seq:=n.dk.ready}]
 let a:=[1,2,3,4,5].foldl next b
 let c:=a.waits.foldl (fun(n:Nd) w=>if now-w.whn<60 then n else n.tell w.w 10 se false) a
 ({c with waits:=a.waits.filter (fun w=>decide (now-w.whn<60))}:Nd).did
def learn (n:Nd)(m:Wm):Nd×List Nat:=
 if n.knows then(n,[])
 else
  let parts:=V0 (ptsOf m.old) (ptsOf m.mem)
  let c:=parts.filter (fun p=>decide (p.src=n.id))
  let b:=parts.filter (fun p=>decide (p.dst=n.id))
  let outs:=[1,2,3,4,5].filterMap (fun a=>let t:=c.filter (fun p=>decide (p.dst=a));if t.isEmpty then none else some (a,OutS.send n.dk m.epoch n.id a t))
  let ins:=[1,2,3,4,5].filterMap (fun a=>let t:=b.filter (fun p=>decide (p.src=a));if t.isEmpty then none else some (a,(⟨m.epoch,a,n.id,t,0,0,0,false⟩:InS)))
  ({n with knows:=true,parts:=parts,outs:=outs,ins:=ins},outs.map Prod.fst)
def mayNodes (l:List Nat):Bool:= !l.isEmpty&&l.all (fun n=>decide (1≤n∧n≤5))&&(l.zip (l.drop 1)).all (fun p=>decide (p.1<p.2))
def prepare (n:Nd)(m:Wm):Nd:=
 if m.epoch≤n.dk.epoch∨m.epoch<n.dk.ready∨m.base<n.dk.epoch∨m.epoch≤m.base∨mayNodes m.old=false then n
 else
  let a:=if n.dk.epoch<m.base then n.adopt m.base m.old else n
  let d:=if a.dk.ready<m.epoch then
    let d:=if 0<a.dk.ready then a.giveUp else a
    let f:=d.save a.dk.epoch m.epoch false
    let e:=(V0 (ptsOf m.old) (ptsOf m.mem)).filter (fun p=>decide (p.dst=n.id))
    f.drops (fun k=>KT e (FZ k))
   else a
  let r:=d.learn m
  let b:=if m.kind=7 then
    let b:=(r.1.save r.1.dk.epoch r.1.dk.ready true).clear
    {b with outs:=b.outs.map (fun p=>(p.1,p.2.freeze b.dk))}
   else r.1
  let c:=r.2.foldl next b
  if m.kind=3 then c.say [{kind:=4,epoch:=m.epoch,last:=c.allSent}]
  else if c.allDone then c.say [{kind:=10,epoch:=m.epoch}]
  else c
def have_ (n:Nd)(m:Wm):Nd:=match n.outAt m.src with
 |none=>n
 |some o=>
  let r:=o.hear n.dk m
  let a:=(n.setOut m.src r.1).say r.2
  if a.dk.frozen&&a.allDone then a.say [{kind:=10,epoch:=m.epoch}]
  else if !a.dk.frozen&&a.allSent then a.say [{kind:=4,epoch:=m.epoch,last:=true}]
  else a
def grant (n:Nd)(now:Nat)(m:Wm):Nd:=
 if m.epoch<n.dk.epoch∨(m.epoch=n.dk.epoch∧m.kind=11)then n
 else
  let a:=n.adopt m.epoch m.mem
  if m.kind=2 then a.take now m.tick m.epoch else a
def keyOk (k:Str):Bool:=decide (1≤k.size∧k.size≤40)
def get (n:Nd)(w:Who):Nd:=match cGet n.dk.cache w.key with
 |some v=>n.tell w 0 v true
 |none=> {n with tlast:=n.tlast+1,toks:=n.toks++[(n.tlast+1,w.key,true)],reads:=n.reads++[(w,n.tlast+1)]}
def killTok (n:Nd)(k:Str):Nd:={n with toks:=n.toks.map (fun t=>if t.2.1=k then(t.1,k,false)else t)}
def kill (n:Nd)(k:Str):Nd:=({n with dk:={n.dk with jk:=n.dk.jk++[k]}}:Nd).dropKeys [k]
def ask (n:Nd)(now:Nat)(w:Who):Nd:=
 if(w.op≠1∧w.op≠2)∨keyOk w.key=false then n.tell w 1 se false
 else if n.ring.isNone then n.tell w 6 se false
 else if n.own w.key≠n.id then
  let id:=n.dk.boot*1048576+(n.asked+1)
  ({n with asked:=n.asked+1,waits:=n.waits++[⟨w,id,n.own w.key,now⟩]}:Nd).say [{kind:=13,dst:=n.own w.key,id:=id,op:=w.op,key:=w.key,epoch:=n.dk.epoch}]
 else if n.serves now w.key=false then n.tell w 6 se false
 else if w.op=2 then((n.killTok w.key).kill w.key).tell w 0 se false
 else n.get w
def foreign (n:Nd)(now:Nat)(m:Wm):Nd:=
 if m.epoch≠n.dk.epoch then n.tell ⟨m.src,m.id,m.op,m.key⟩ 7 se false else n.ask now ⟨m.src,m.id,m.op,m.key⟩
def answer (n:Nd)(m:Wm):Nd:=match n.waits.find? (fun w=>decide (w.too=m.src∧w.id=m.id))with
 |none=>n
 |some w=>
  let a:=if m.err=7 then 6 else m.err
  let b:=decide (a=0∧w.w.op=1∧m.it.1≠se)&& !m.it.2.2
  ({n with waits:=n.waits.eraseP (fun w=>decide (w.too=m.src∧w.id=m.id))}:Nd).tell w.w a (if b then m.it.2.1 else se) b
def step (n:Nd)(now:Nat)(m:Wm):Nd×List Wm×List Rp:=
 let a:=decide (0<n.dk.ready∧m.epoch=n.dk.ready)
 (if m.kind=2∨m.kind=11 then(if mayNodes m.mem then n.grant now m else n)
  else if m.kind=3∨m.kind=7 then(if mayNodes m.mem then n.prepare m else n)
  else if m.kind=12 then(if a then n.giveUp else n)
  else if m.kind=5∨m.kind=8 then
   (if a then match n.ins.find? (fun p=>decide (p.1=m.src))with
    |none=>n
    |some p=>let r:=p.2.hear n.dk m;({n with dk:=r.2.1,ins:=n.ins.map (fun q=>if q.1=m.src then(q.1,r.1)else q)}:Nd).say r.2.2
   else n)
  else if m.kind=6∨m.kind=9 then(if a then n.have_ m else n)
  else if m.kind=13 then n.foreign now m
  else if m.kind=14 then n.answer m
  else n).did
def read (n:Nd)(now i:Nat)(val:Str)(b:Bool):Nd×List Wm×List Rp:=match n.reads[i]? with
 |none=>(n,[],[])
 |some r=>
  let c:={n with reads:=n.reads.eraseIdx i}
  let v:=if b then val else se
  let good:=match c.toks.find? (fun t=>decide (t.1=r.2))with|some t=>t.2.2|none=>false
  let a:={c with toks:=c.toks.filter (fun t=>decide (t.1≠r.2))}
  let d:=if good&&b&&decide (v.size≤200)&&a.serves now r.1.key then {a with dk:={a.dk with cache:=GA r.1.key v a.dk.cache,used:=a.dk.used+recLen r.1.key v}}else a
  (d.tell r.1 0 v b).did
end Nd
structure Au where
 epoch:Nat
 top:Nat
 mem:List Nat
 num:Nat:=0
 phase:Nat:=0
 dest:List Nat:=[]
 nodes:List Nat:=[]
 lost:Nat:=0
 done:List Nat:=[]
 gr:List (Nat×Nat):=[]
namespace Au
def both (a b:List Nat)(c:Nat):List Nat:=[1,2,3,4,5].filter (fun n=>decide (n≠c)&&(a.contains n||b.contains n))
def tell (c:Au)(kind:Nat)(l:List Nat):List Wm:=l.map (fun n=> {kind:=kind,dst:=n,epoch:=c.num,mem:=c.dest,base:=c.epoch,old:=c.mem})
def member (c:Au)(kind too tick:Nat):Wm:={kind:=kind,dst:=too,tick:=tick,epoch:=c.epoch,mem:=c.mem}
def noChange (c:Au):Au:={c with num:=0,phase:=0,dest:=[],nodes:=[],lost:=0,done:=[]}
def commit (c:Au)(now:Nat):Au×List Wm:=
 match c.gr.find? (fun p=>decide (p.1=c.lost))with
 |some p=>if 0<c.lost∧now-p.2<40 then(c,[])else go c
 |none=>go c
where go (c:Au):Au×List Wm:=
 let nodes:=both c.mem c.dest 0
 let c1:=({c with epoch:=c.num,mem:=c.dest}:Au).noChange
 (c1,nodes.map (fun n=>c1.member 11 n 0))
def beat (c:Au)(now:Nat):Au×List Wm:=
 if c.num=0 then(c,[])
 else if c.phase=1 then(c,c.tell 3 c.nodes)
 else if c.phase=2 then(c,c.tell 7 c.nodes)
 else c.commit now
def note (c:Au)(m:Wm)(phase:Nat):Au×Bool:=
 if c.num=0∨m.epoch≠c.num∨c.phase≠phase∨c.nodes.contains m.src=false then(c,false)
 else
  let c1:=if c.done.contains m.src then c else {c with done:=c.done++[m.src]}
  if c1.done.length<c1.nodes.length then(c1,false)else({c1 with phase:=c1.phase+1,done:=[]},true)
def setGr (l:List (Nat×Nat))(a t:Nat):List (Nat×Nat):=(a,t)::l.filter (fun p=>decide (p.1≠a))
def renew (c:Au)(now:Nat)(m:Wm):Au×List Wm:=
 let l:=if c.epoch<m.seq∧m.seq≠c.num then[({kind:=12,dst:=m.src,epoch:=m.seq}:Wm)]else[]
 if c.mem.contains m.src&&decide (m.src≠c.lost)then({c with gr:=setGr c.gr m.src now},l++[c.member 2 m.src m.tick])
 else if m.epoch<c.epoch then(c,l++[c.member 11 m.src 0])
 else(c,l)
def step (c:Au)(now:Nat)(m:Wm):Au×List Wm:=
 if m.kind=1 then c.renew now m
 else if m.kind=4 then
  if m.last=true then let r:=c.note m 1;if r.2 then(r.1,r.1.tell 7 r.1.nodes)else(r.1,[])else(c,[])
 else if m.kind=10 then let r:=c.note m 2;if r.2 then r.1.commit now else(r.1,[])
 else(c,[])
end Au
structure Call where
 id:Nat
 op:Nat
 key:Str
 node:Nat
 frm:Nat
 too:Nat:=0
 done:Bool:=false
 rp:Rp:=⟨0,0,se,0,se,false⟩
structure Cl where
 c:Option Au
 cd:Nat×Nat×List Nat
 cc:Nat:=0
 nodes:Nat→Option Nd
 devs:Nat→Disk
 clk:Nat→Nat:=fun _=>0
 made:Nat→Bool
 net:List Wm:=[]
 onow:Nat:=0
 org:List (Str×Nat×Str×Bool):=[]
 log:List Call:=[]
def Ej {α:Type}(f:Nat→α)(a:Nat)(x:α):Nat→α:=fun b=>if b=a then x else f b
namespace Cl
def send (s:Cl)(l:List Wm):Cl:={s with net:=s.net++l.take (300-s.net.length)}
def endCall (s:Cl)(r:Rp):Cl:={s with log:=s.log.map (fun c=>if c.id=r.id∧c.done=false∧c.op=r.op∧c.key=r.key then {c with done:=true,too:=s.onow,rp:=r}else c)}
def setNd (s:Cl)(a:Nat)(n:Nd):Cl:={s with nodes:=Ej s.nodes a (some n),devs:=Ej s.devs a n.dk}
def came (s:Cl)(a:Nat)(r:Nd×List Wm×List Rp):Cl:=r.2.2.foldl endCall ((s.setNd a r.1).send r.2.1)
def start (s:Cl)(a:Nat):Cl:=
 let d:=s.devs a
 let b:Disk:=if s.made a then {d with boot:=d.boot+1}else {boot:=1}
 {s with nodes:=Ej s.nodes a (some {id:=a,dk:=b}),devs:=Ej s.devs a b,made:=Ej s.made a true}
def make (mem:List Nat):Cl:=mem.foldl start {c:=some ⟨1,1,mem,0,0,[],[],0,[],[]⟩,cd:=(1,1,mem),nodes:=fun _=>none,devs:=fun _=> {},made:=fun _=>false}
def setAu (s:Cl)(c:Au):Cl:={s with c:=some c,cd:=(c.epoch,c.top,c.mem)}
def hears (s:Cl)(m:Wm):Cl:=
 if m.dst=0 then match s.c with
  |none=>s
  |some c=>let r:=c.step s.cc m;(s.setAu r.1).send r.2
 else match s.nodes m.dst with
  |none=>s
  |some n=>s.came m.dst (n.step (s.clk m.dst) m)
def tick (s:Cl)(a:Nat):Cl:=
 if a=0 then
  let b:={s with cc:=s.cc+1}
  match b.c with
  |none=>b
  |some c=>let r:=c.beat b.cc;(b.setAu r.1).send r.2
 else
  let b:={s with clk:=Ej s.clk a (s.clk a+1)}
  match b.nodes a with
  |none=>b
  |some n=>b.came a (n.beat (b.clk a))
def drop (s:Cl)(i:Nat):Cl:={s with net:=s.net.eraseIdx i}
def sendAt (s:Cl)(i:Nat):Cl:=match s.net[i]? with
 |none=>s
 |some m=>(s.drop i).hears m
def orgAt (s:Cl)(pos:Nat)(k:Str):Str×Bool:=match(s.org.filter (fun p=>decide (p.1=k∧p.2.1≤pos))).getLast? with
 |some p=>(p.2.2.1,p.2.2.2)
 |none=>(se,false)
def set (s:Cl)(k v:Str):Cl:={s with onow:=s.onow+1,org:=s.org++[(k,s.onow+1,v,true)]}
def read (s:Cl)(a i:Nat):Cl:=match s.nodes a with
 |none=>s
 |some n=>match n.reads[i]? with
  |none=>s
  |some r=>let v:=s.orgAt s.onow r.1.key;s.came a (n.read (s.clk a) i v.1 v.2)
def call (s:Cl)(op a:Nat)(k:Str):Cl:=match s.nodes a with
 |none=>s
 |some n=>
  let id:=s.log.length+1
  ({s with log:=s.log++[⟨id,op,k,a,s.onow,0,false,⟨0,0,se,0,se,false⟩⟩]}:Cl).came a ((n.ask (s.clk a) ⟨0,id,op,k⟩).did)
def nReads (s:Cl)(a:Nat):Nat:=match s.nodes a with|none=>0|some n=>n.reads.length
def reads (s:Cl):Nat:=([1,2,3,4,5].map s.nReads).sum
end Cl
def keyS (i:Nat):Str:=toStr [107,101,121,32,97+i % 26,97+i/26]
def valS (i n:Nat):Str:=toStr [118,97,108,117,101,32,97+i % 26,48+n % 10]
structure Pl where
 key:ByteArray
 pos:Nat
 has:Bool
 gone:Bool
def pl0:Pl:=⟨ByteArray.empty,0,false,false⟩
abbrev Tab:=List Pl
def probe (t:Tab)(key:ByteArray)(k:Nat):Nat:=(FZ key % t.length+k) % t.length
def Fv (t:Tab)(key:ByteArray):Nat→Nat→Option Nat→Option Nat×Option Nat
 |0,_,f=>(none,f)
 |n+1,k,f=>
  let p:=t.getD (probe t key k) pl0
  if p.has=true∧p.key=key then(some (probe t key k),some (probe t key k))
  else
   let a:=if p.has=false∧f=none then some (probe t key k)else f
   if p.has=false∧p.gone=false then(none,a)else Fv t key n (k+1) a
def find (t:Tab)(key:ByteArray):Option Nat×Option Nat:=Fv t key t.length 0 none
structure TabOk (t:Tab) (u:Nat):Prop where
 pos:0<t.length
 reach:∀(i:Nat) (p:Pl),t[i]?=some p→p.has=true→∃k,k<t.length∧probe t p.key k=i∧∀j,j<k→(t.getD (probe t p.key j) pl0).has =true∨(t.getD (probe t p.key j) pl0).gone =true
 one:∀(i j:Nat) (p q:Pl),t[i]?=some p→t[j]?=some q→p.has=true→q.has=true→p.key=q.key→i=j
 used:u=t.countP (fun p=>p.has||p.gone)
 flag:∀p∈t,p.has=true→p.gone=false
theorem Ip {t:Tab}(h:0<t.length)(key:ByteArray)(k:Nat):probe t key k<t.length:=C1 _ h
theorem Re {t:Tab}(h:0<t.length)(key:ByteArray)(k:Nat):probe t key (k+1)=(probe t key k+1) % t.length:=by show(FZ key % t.length+(k+1)) % t.length=((FZ key % t.length+k) % t.length+1) % t.length;generalize FZ key % t.length=a;rw[Nat.mod_add_mod (a+k),Cv]
theorem TO {t:Tab}(h:0<t.length)(key:ByteArray)(i:Nat)(b:i<t.length):∃k,k<t.length∧probe t key k=i:=by
 let a:=FZ key % t.length
 have c:FZ key % t.length<t.length:=C1 _ h;by_cases d:FZ key % t.length≤i
 ·refine⟨i-FZ key % t.length,by omega, ?_⟩
  unfold probe;rw[show FZ key % t.length+(i-FZ key % t.length)=i by omega];exact AR b
 ·refine⟨i+t.length-FZ key % t.length,by omega, ?_⟩
  unfold probe;rw[show FZ key % t.length+(i+t.length-FZ key % t.length)=i+t.length by omega,Nat.add_mod_right];exact AR b
theorem TN {t:Tab}(h:0<t.length)(key:ByteArray){j k:Nat}(f:j<t.length)(g:k<t.length)(b:probe t key j=probe t key k):j=k:=by
 unfold probe at b;have e:FZ key % t.length<t.length:=C1 _ h;generalize FZ key % t.length=a at*
 have c:(a+j) % t.length=if a+j<t.length then a+j else a+j-t.length:=by
  split
  ·exact AR ‹_›
  ·rw[Nat.mod_eq_sub_mod (by omega)]
   exact AR (by omega)
 have d:(a+k) % t.length=if a+k<t.length then a+k else a+k-t.length:=by
  split
  ·exact AR ‹_›
  ·rw[Nat.mod_eq_sub_mod (by omega)]
   exact AR (by omega)
 rw[c,d]at b
 split at b<;>split at b<;>omega
theorem PU {t:Tab}{key:ByteArray}(i:Nat)(a:Nat)(o:probe t key a=i)(p:Pl)(q:t.getD i pl0=p)(m:p.has=true∧p.key=key)
  (r:∀j,j<a→((t.getD (probe t key j) pl0).has =true∨(t.getD (probe t key j) pl0).gone =true)∧¬((t.getD (probe t key j) pl0).has =true∧(t.getD (probe t key j) pl0).key =key)):
  ∀(n k:Nat) (f:Option Nat),k≤a→a<k+n→Fv t key n k f=(some i,some i):=by
 intro n
 induction n with
 |zero=>intro k f d e;omega
 |succ n ih=>
  intro k f d e;unfold Fv;by_cases l:k=a
  ·subst l
   rw[o,q,Ay m]
  ·have b:=r k (by omega)
   rw[Aw b.2]
   have g:¬((t.getD (probe t key k) pl0).has =false∧(t.getD (probe t key k) pl0).gone =false):=by
    intro c;rcases b.1 with h|h
    ·rw[c.1]at h;cases h
    ·rw[c.2]at h;cases h
   simp only;rw[Aw g];exact ih (k+1) _ (by omega) (by omega)
theorem TabOk.find_some {t:Tab}{u:Nat}(h:TabOk t u){i:Nat}{p:Pl}(a:t[i]?=some p)(c:p.has=true):find t p.key=(some i,some i):=by
 obtain⟨k,l,f,m⟩:=h.reach i p a c;have n:=(Ai.1 a).1;refine PU i k f p (by rw[Af,a];rfl) ⟨c,rfl⟩ (fun j g=>⟨m j g,fun d=> ?_⟩) t.length 0 none (by omega) (by omega);have b:=Ip h.pos p.key j
 have e:=h.one (probe t p.key j) i _ p (Ad b) a (by
  have:=d.1;rw[Af,Ad b]at this;exact this) c (by
  have:=d.2;rw[Af,Ad b]at this;exact this)
 have:=TN h.pos p.key (by omega) l (e.trans f.symm);omega
theorem PV {t:Tab}{key:ByteArray}(A:∀p∈t,¬(p.has=true∧p.key=key))(B:0<t.length):
  ∀(n k:Nat) (f:Option Nat),(Fv t key n k f).1 =none∧
   ((Fv t key n k f).2 =f∧(f≠none∨∀j,k≤j→j<k+n→(t.getD (probe t key j) pl0).has =true)∨
    f=none∧∃j,k≤j∧j<k+n∧(Fv t key n k f).2 =some (probe t key j)∧(t.getD (probe t key j) pl0).has =false∧∀i,k≤i→i<j→(t.getD (probe t key i) pl0).has =true):=by
 intro n
 induction n with
 |zero=>intro k f;exact⟨rfl,.inl ⟨rfl,by by_cases h:f=none;exact .inr (fun j o q=>by omega);exact .inl h⟩⟩
 |succ n ih=>
  intro k f
  have z:t.getD (probe t key k) pl0∈t:=by have y:=Ip B key k;rw[Af,Ad y];exact BS _
  unfold Fv;simp only;rw[Aw (A _ z)];by_cases b:(t.getD (probe t key k) pl0).has =true
  ·have g:¬((t.getD (probe t key k) pl0).has =false∧f=none):=fun d=>by rw[d.1]at b;cases b
   have u:¬((t.getD (probe t key k) pl0).has =false∧(t.getD (probe t key k) pl0).gone =false):=fun d=>by rw[d.1]at b;cases b
   rw[Aw g,Aw u];obtain⟨o,q⟩:=ih (k+1) f;refine⟨o, ?_⟩;rcases q with⟨a,c⟩|⟨a,j,c,C,v,w,x⟩
   ·refine .inl ⟨a, ?_⟩
    rcases c with c|c
    ·exact .inl c
    ·exact .inr (fun j r l=>by
      by_cases m:j=k
      ·subst m;exact b
      ·exact c j (by omega) (by omega))
   ·exact .inr ⟨a,j,by omega,by omega,v,w,fun i r l=>by
     by_cases m:i=k
     ·subst m;exact b
     ·exact x i (by omega) l⟩
  ·have s:(t.getD (probe t key k) pl0).has =false:=by simpa using b
   by_cases e:f=none
   ·subst e
    rw[Ay (show(t.getD (probe t key k) pl0).has =false∧(none:Option Nat)=none from⟨s,rfl⟩)];refine⟨?_,.inr ⟨rfl,k,Av _,by omega, ?_,s,fun i r l=>by omega⟩⟩
    ·split
     ·rfl
     ·exact(ih (k+1) _).1
    ·split
     ·rfl
     ·rcases(ih (k+1) (some (probe t key k))).2 with⟨a,_⟩|⟨a,_⟩
      ·exact a
      ·cases a
   ·have g:¬((t.getD (probe t key k) pl0).has =false∧f=none):=fun d=>e d.2
    rw[Aw g];refine⟨?_,.inl ⟨?_,.inl e⟩⟩
    ·split
     ·rfl
     ·exact(ih (k+1) _).1
    ·split
     ·rfl
     ·rcases(ih (k+1) f).2 with⟨a,_⟩|⟨a,_⟩
      ·exact a
      ·exact absurd a e
theorem Na {t:Tab}{key:ByteArray}(o:∀p∈t,¬(p.has=true∧p.key=key))(c:0<t.length)(m:∃p∈t,p.has=false):
  (find t key).1 =none∧∃j,j<t.length∧(find t key).2 =some (probe t key j)∧(t.getD (probe t key j) pl0).has =false∧∀i,i<j→(t.getD (probe t key i) pl0).has =true:=by
 obtain⟨d,e⟩:=PV o c t.length 0 none;refine⟨d, ?_⟩;rcases e with⟨s,a⟩|⟨_,j,a,u,f,g,h⟩
 ·exfalso
  rcases a with a|a
  ·exact a rfl
  ·obtain⟨p,q,r⟩:=m
   obtain⟨i,b⟩:=Bf q;have n:=(Ai.1 b).1;obtain⟨k,v,l⟩:=TO c key i n;have:=a k (by omega) (by omega);rw[l,Af,b]at this;rw[show(some p).getD pl0=p from rfl,r]at this;cases this
 ·exact⟨j,by omega,f,g,fun i b=>h i (by omega) b⟩
theorem PL {t:Tab}{i:Nat}(x:Pl)(a:i<t.length)(j:Nat):(t.set i x).getD j pl0=if i=j then x else t.getD j pl0:=by
 rw[Af,Af,CM];by_cases h:i=j
 ·subst h;rw[Ay rfl,Ay a,Ay rfl];rfl
 ·rw[Aw h,Aw h]
theorem JM (t:Tab)(i:Nat)(x:Pl)(key:ByteArray)(k:Nat):probe (t.set i x) key k=probe t key k:=by unfold probe;rw[Bi]
theorem X9 {t:Tab}{i:Nat}{p:Pl}(h:t[i]?=some p):t.getD i pl0=p:=by rw[Af,h];rfl
theorem Tg {t:Tab}{i:Nat}(h:i<t.length):t[i]?=some (t.getD i pl0):=by rw[Af,Ad h];rfl
theorem LR {t:Tab}{i:Nat}{p:Pl}(f:Pl→Bool)(x:Pl)(h:t[i]?=some p):(t.set i x).countP f+(if f p=true then 1 else 0)=t.countP f+(if f x=true then 1 else 0):=by
 induction t generalizing i with
 |nil=>simp at h
 |cons a t ih=>
  cases i with
  |zero=>simp only[List.getElem?_cons_zero,BU]at h;subst h;rw[List.set_cons_zero,GB,GB];omega
  |succ i=>simp only[List.getElem?_cons_succ]at h;have:=ih h;rw[List.set_cons_succ,GB,GB];omega
section
variable {t:Tab} {u:Nat}
theorem TabOk.add (h:TabOk t u){key:ByteArray}(y:∀p∈t,¬(p.has=true∧p.key=key)){j:Nat}(v:j<t.length)(C:(t.getD (probe t key j) pl0).has =false)
  (E:∀i,i<j→(t.getD (probe t key i) pl0).has =true) (pos:Nat):TabOk (t.set (probe t key j) ⟨key,pos,true,false⟩) (u+if(t.getD (probe t key j) pl0).gone =true then 0 else 1):=by
 have l:=Ip h.pos key j;have D:=Tg l;generalize G:t.getD (probe t key j) pl0=p at*;generalize B:probe t key j=i at*
 have z:∀(m:ByteArray) (k:Nat),((t.getD (probe t m k) pl0).has =true∨(t.getD (probe t m k) pl0).gone =true)→((t.set i ⟨key,pos,true,false⟩).getD (probe (t.set i ⟨key,pos,true,false⟩) m k) pl0).has =true∨((t.set i ⟨key,pos,true,false⟩).getD (probe (t.set i ⟨key,pos,true,false⟩) m k) pl0).gone =true:=by
  intro m k f;rw[JM,PL _ l]
  split
  ·exact .inl rfl
  ·exact f
 refine⟨by rw[Bi];exact h.pos,fun k q c o=> ?_,fun a b q r c d e n f=> ?_, ?_,fun q c o=> ?_⟩
 ·rw[Bi]
  rw[CM]at c;by_cases x:i=k
  ·subst x
   rw[Ay rfl,Ay l]at c;injection c with c;subst c;exact⟨j,v,by rw[JM];exact B,fun k f=>z _ _ (.inl (E k f))⟩
  ·rw[Aw x]at c
   obtain⟨F,e,n,A⟩:=h.reach k q c o;exact⟨F,e,by rw[JM];exact n,fun j v=>z _ _ (A j v)⟩
 ·rw[CM]at c d
  by_cases s:i=a
  ·rw[Ay s,Ay (s▸l)]at c
   injection c with c;by_cases g:i=b
   ·omega
   ·rw[Aw g]at d
    subst c;exact absurd ⟨n,f.symm⟩ (y r (Aq d))
  ·rw[Aw s]at c
   by_cases g:i=b
   ·rw[Ay g,Ay (g▸l)]at d
    injection d with d;subst d;exact absurd ⟨e,f⟩ (y q (Aq c))
   ·rw[Aw g]at d
    exact h.one a b q r c d e n f
 ·have:=LR (fun p=>p.has||p.gone) ⟨key,pos,true,false⟩ D
  rw[h.used];simp only[C,CH,Bool.true_or,D5]at this;by_cases w:p.gone=true
  ·rw[Ay w]at this⊢;omega
  ·rw[Aw w]at this⊢;omega
 ·rcases DC c with e|e
  ·exact h.flag q e o
  ·subst e;rfl
theorem TabOk.new (n:Nat)(h:0<n):TabOk (List.replicate n pl0) 0:=by
 have d:∀(i:Nat) (p:Pl),(List.replicate n pl0)[i]?=some p→p=pl0:=by intro i p a;exact DL (Aq a)
 refine⟨by simpa using h,fun i p a b=> ?_,fun i j p q a g c e f=> ?_, ?_,fun p a b=> ?_⟩
 ·rw[d i p a]at b;cases b
 ·rw[d i p a]at c;cases c
 ·rw[List.countP_replicate];rfl
 ·rw[DL a];rfl
theorem TabOk.free (h:TabOk t u)(e:u<t.length):∃p∈t,p.has=false∧p.gone=false:=by
 apply Classical.byContradiction;intro c
 have:t.countP (fun p=>p.has||p.gone)=t.length:=by
  rw[List.countP_eq_length];intro p d
  cases b:p.has with
  |true=>rfl
  |false=>
   cases a:p.gone with
   |true=>rfl
   |false=>exact absurd ⟨p,d,b,a⟩ c
 rw[h.used]at e;omega
end
def ents (t:Tab):List (ByteArray×Nat):=t.filterMap (fun p=>if p.has=true then some (p.key,p.pos)else none)
theorem Fn {t:Tab}{k:ByteArray}{pos:Nat}:(k,pos)∈ents t↔∃(i:Nat) (p:Pl),t[i]?=some p∧p.has=true∧p.key=k∧p.pos=pos:=by
 unfold ents;rw[F6];constructor
 ·rintro⟨p,hp,he⟩
  obtain⟨i,a⟩:=Bf hp
  split at he
  ·injection he with he
   injection he with h1 h2;exact⟨i,p,a,‹_›,h1,h2⟩
  ·cases he
 ·rintro⟨i,p,a,hh,rfl,rfl⟩
  exact⟨p,Aq a,by rw[Ay hh]⟩
theorem Me {t:Tab}{key:ByteArray}:(∀p∈t,¬(p.has=true∧p.key=key))↔∀pos,(key,pos)∉ents t:=by
 constructor
 ·intro h pos e
  obtain⟨i,p,a,b,d,_⟩:=Fn.1 e;exact h p (Aq a) ⟨b,d⟩
 ·intro h p b c
  obtain⟨i,a⟩:=Bf b;exact h p.pos (Fn.2 ⟨i,p,a,c.1,c.2,rfl⟩)
theorem Wc {t:Tab}{u:Nat}(h:TabOk t u){key:ByteArray}{i:Nat}(e:i<t.length)(f:(t.getD i pl0).has =false)(pos:Nat)(k:ByteArray)(q:Nat)(m:∀pos,(key,pos)∉ents t):
  (k,q)∈ents (t.set i ⟨key,pos,true,false⟩)↔(k=key∧q=pos)∨(k≠key∧(k,q)∈ents t):=by
 have l:=Tg e;rw[Fn];constructor
 ·rintro⟨j,r,a,c,rfl,rfl⟩
  rw[CM]at a;by_cases d:i=j
  ·rw[Ay d,Ay (d▸e)]at a
   injection a with a;subst a;exact .inl ⟨rfl,rfl⟩
  ·rw[Aw d]at a
   have b:=Fn.2 ⟨j,r,a,c,rfl,rfl⟩;exact .inr ⟨fun g=>m r.pos (g▸b),b⟩
 ·rintro(⟨rfl,rfl⟩|⟨g,b⟩)
  ·exact⟨i,⟨k,q,true,false⟩,by rw[CM,Ay rfl,Ay e],rfl,rfl,rfl⟩
  ·obtain⟨j,r,a,c,rfl,rfl⟩:=Fn.1 b
   refine⟨j,r, ?_,c,rfl,rfl⟩;rw[CM,Aw]
   ·exact a
   ·rintro rfl
    rw[l]at a;injection a with a;rw[a,c]at f;cases f
theorem Iy (n:Nat):ents (List.replicate n pl0)=[]:=by unfold ents;rw[List.filterMap_eq_nil_iff];intro p a;rw[DL a];rfl
theorem PY (t:Tab):(ents t).length =t.countP (fun p=>p.has):=by
 unfold ents
 induction t with
 |nil=>rfl
 |cons p t ih=>
  rw[List.filterMap_cons,GB]
  cases a:p.has with
  |true=>simp only[D5,List.length_cons,ih]
  |false=>simp only[Bool.false_eq_true,D1,ih,Nat.add_zero]
theorem bits_xor_u64_nat (a b:Nat)(e:a<18446744073709551616)(f:b<18446744073709551616):bits .xor .u64 (a:Int) (b:Int)=((a^^^b:Nat):Int):=by
 have g:=Jj e f
 have c:(BitVec.ofInt 64 (a:Int)).toNat =a:=by rw[BitVec.ofInt_natCast,Ck];exact AR (by omega)
 have d:(BitVec.ofInt 64 (b:Int)).toNat =b:=by rw[BitVec.ofInt_natCast,Ck];exact AR (by omega)
 show IntKind.u64.wrap ((BitVec.ofInt 64 (a:Int)^^^BitVec.ofInt 64 (b:Int)).toNat :Int)=_;rw[BitVec.toNat_xor,c,d,Dy];omega
theorem Np (x c:Nat)(a:x<18446744073709551616):bits .xor .u64 (x:Int) ((x:Int)/(c:Int))=((x^^^(x/c):Nat):Int):=by rw[←Int.natCast_ediv];exact bits_xor_u64_nat x (x/c) a (Nat.lt_of_le_of_lt (Nat.div_le_self _ _) a)
theorem O0 (a c:Nat):IntKind.u64.wrap ((a:Int)*(c:Int))=((a*c % 18446744073709551616:Nat):Int):=by rw[Dy,←Int.natCast_mul];rfl
theorem Xb (x:Nat)(n:x<18446744073709551616):∀A B:Int,A=IntKind.u64.wrap (bits .xor .u64 (x:Int) ((x:Int)/1073741824)*13787848793156543929)→B=IntKind.u64.wrap (bits .xor .u64 A (A/134217728)*10723151780598845931)→bits .xor .u64 B (B/2147483648)=((Kv x:Nat):Int):=by
 intro A B c d;have g:=Np x 1073741824 n;rw[show((1073741824:Nat):Int)=1073741824 from rfl]at g;rw[g]at c;have h:=O0 (x^^^(x/1073741824)) 13787848793156543929;rw[show((13787848793156543929:Nat):Int)=13787848793156543929 from rfl]at h;rw[h]at c;obtain⟨a,e⟩:∃a,a=(x^^^(x/1073741824))*13787848793156543929 % 18446744073709551616:=⟨_,rfl⟩;rw[←e]at c;have l:a<18446744073709551616:=by rw[e];exact C1 _ (by decide)
 subst c;have i:=Np a 134217728 l;rw[show((134217728:Nat):Int)=134217728 from rfl]at i;rw[i]at d;have j:=O0 (a^^^(a/134217728)) 10723151780598845931;rw[show((10723151780598845931:Nat):Int)=10723151780598845931 from rfl]at j;rw[j]at d;obtain⟨b,f⟩:∃b,b=(a^^^(a/134217728))*10723151780598845931 % 18446744073709551616:=⟨_,rfl⟩;rw[←f]at d;have m:b<18446744073709551616:=by rw[f];exact C1 _ (by decide)
 subst d;have k:=Np b 2147483648 m;rw[show((2147483648:Nat):Int)=2147483648 from rfl]at k;rw[k];unfold Kv;simp only;rw[←e,←f]
theorem Q6 {w:World}(x:Nat)(b:x<18446744073709551616):Calls Tryz.prog 54 #[.int .u64 (x:Int)] w fun e c=>e=.returned (.int .u64 (Kv x:Int))∧c=w:=by have a:=h_ (Xb x b _ _ rfl rfl);go_enter Tryz.func54,Tryz.ntmps54;go_wp2;go_ret;exact⟨by rw[a.out];rfl,rfl⟩
theorem UU (h c:Nat)(a:h<18446744073709551616)(b:c<256):bits .xor .u64 (h:Int) (c:Int)=((h^^^c:Nat):Int):=bits_xor_u64_nat h c a (by omega)
theorem Sr {w:World}(b:Nat)(n cap:Nat)(A:n=1)(k:ByteArray)(G:w.cell? ⟨b,0,none⟩=some (.string k))(H:k.size≤1000000):Calls Tryz.prog 42 #[.slice (some ⟨b,0,none⟩) n cap] w fun e p=>e=.returned (.int .u64 (IN (sb k):Int))∧p=w:=by
 subst A;have q:Hid (∀x:Nat,x<18446744073709551616→Calls Tryz.prog 54 #[.int .u64 (x:Int)] w fun e p=>e=.returned (.int .u64 (Kv x:Int))∧p=w):=h_ (fun x g=>Q6 x g);go_enter Tryz.func42,Tryz.ntmps42;go_wp2
 go_loopw [9,3] (fun t i wr=>((t=.int .i64 0∧i=.int .u64 11400714819323198485)∨(t=.int .i64 1∧i=.int .u64 (IN (sb k):Int)))∧w=wr) (fun x _ _=>2-(intOf x).toNat)
 case atStart=>exact⟨.inl ⟨rfl,rfl⟩,rfl⟩
 case round=>
 obtain⟨h,rfl⟩:=hrel;rcases h with⟨rfl,rfl⟩|⟨rfl,rfl⟩
 ·go_wp2
  go_loopw [15,3] (fun C i wr=>∃j:Nat,C=.int .i64 (j:Int)∧j≤k.size∧i=.int .u64 (F7 11400714819323198485 ((sb k).take j):Int)∧w=wr) (fun x _ _=>k.size+1-(intOf x).toNat)
  case atStart=>exact⟨0,rfl,AA _,rfl,rfl⟩
  case round=>
  obtain⟨j,rfl,y,rfl,rfl⟩:=hrel;by_cases a:j<k.size
  ·have B:decide ((j:Int)<(k.size:Int))=true:=An (by omega)
   have o:((k[j]'a).toNat :Int)=(((sb k)[j]'(by rw[CO];exact a):Nat):Int):=by simp only[sb,List.getElem_map];rfl
   have h:(sb k)[j]'(by rw[CO];exact a)<256:=by simp only[sb,List.getElem_map];exact UInt8.toNat_lt _
   have f:(sb k).take (j+1)=(sb k).take j++[(sb k)[j]'(by rw[CO];exact a)]:=by rw[Bw (by rw[CO];exact a)]
   obtain⟨c,r⟩:∃c,c=(sb k)[j]'(by rw[CO];exact a):=⟨_,rfl⟩;rw[←r]at o h f;have d:=Lw ((sb k).take j) 11400714819323198485 (by decide);have E:=h_ f
   have g:bits .xor .u64 ((F7 11400714819323198485 ((sb k).take j):Nat):Int) (IntKind.u64.wrap ((k[j]'a).toNat :Int))=((F7 11400714819323198485 ((sb k).take j)^^^c:Nat):Int):=by rw[o,show IntKind.u64.wrap (c:Int)=(c:Int) by rw[Dy];omega];exact UU _ c d h
   have l:=h_ g;have m:Hid (F7 11400714819323198485 ((sb k).take j)^^^c<18446744073709551616):=h_ (Jj d (by omega))
   have v:Hid (IntKind.u64.wrap ((Kv (F7 11400714819323198485 ((sb k).take j)^^^c):Int)+1)=(F7 11400714819323198485 ((sb k).take (j+1)):Int)):=h_ (by rw[f,Lv,Dy];rfl)
   have F:j≤1000000:=by omega
   clear o h f r d g;go_wp2_with fail;rw[l.out];refine(q.out _ m.out).mono ?_;rintro e D ⟨rfl,rfl⟩;go_wp2
   go_roundw
   case rel=>exact⟨j+1,by go_num,by omega,by rw[v.out],by first|rfl|trivial⟩
   case measure=>simp only[intOf];omega
  ·have z:j=k.size:=by omega
   have B:¬((j:Int)<(k.size:Int)):=by omega
   have f:(sb k).take j=sb k:=Ba (by rw[CO];omega);rw[f];have d:=Lw (sb k) 11400714819323198485 (by decide);have s:(sb k).length =k.size:=CO k
   have g:bits .xor .u64 ((F7 11400714819323198485 (sb k):Nat):Int) (256+(k.size:Int))=((F7 11400714819323198485 (sb k)^^^(256+(sb k).length):Nat):Int):=by rw[s,show(256+(k.size:Int))=((256+k.size:Nat):Int) by omega];exact bits_xor_u64_nat _ _ d (by omega)
   have l:=h_ g;have m:Hid (F7 11400714819323198485 (sb k)^^^(256+(sb k).length)<18446744073709551616):=h_ (Jj d (by omega));have u:Hid (IN (sb k)=Kv (F7 11400714819323198485 (sb k)^^^(256+(sb k).length))):=h_ rfl;clear z f d s g a y;go_wp2_with fail;rw[l.out];refine(q.out _ m.out).mono ?_;rintro e D ⟨rfl,rfl⟩;rw[←u.out];go_wp2
   go_roundw
   case rel=>exact⟨.inr ⟨rfl,rfl⟩,by first|rfl|trivial⟩
   case measure=>simp only[intOf];omega
 ·go_wp2
  go_ret;exact⟨rfl,rfl⟩
theorem UG {w:World}(n i:Nat)(f:n≤1000)(d:i≤1000):Calls Tryz.prog 263 #[.int .i64 (n:Int),.int .i64 (i:Int)] w fun e c=>e=.returned (.int .u64 (MM n i:Int))∧c=w:=by have a:Hid ((n:Int)*1000003+(i:Int)=((n*1000003+i:Nat):Int)):=h_ (by omega);have b:=h_ (Q6 (w:=w) (n*1000003+i) (by omega));go_enter Tryz.func263,Tryz.ntmps263;go_wp2_with fail;rw[a.out];refine b.out.mono ?_;rintro e g ⟨rfl,rfl⟩;go_wp2;go_ret;exact⟨rfl,rfl⟩
theorem GJ (a b:Nat×Nat):GK a b=true↔a.1<b.1∨(a.1=b.1∧a.2<b.2):=by unfold GK;simp
theorem FY (a b:Nat×Nat):GK a b=false↔¬(a.1<b.1∨(a.1=b.1∧a.2<b.2)):=by rw[←GJ];simp
theorem TL (a b:Nat×Nat)(c:GK a b=false)(d:GK b a=false):a=b:=by
 rw[FY]at c d;obtain⟨x,y⟩:=a;obtain⟨z,u⟩:=b;simp only at c d;have e:x=z:=by omega
 subst e;have f:y=u:=by omega
 rw[f]
theorem IY (x:Nat×Nat):∀l,(Lo x l).Perm (x::l)
 |[]=>Df _
 |y::l=>by
  unfold Lo
  split
  ·exact Df _
  ·exact((IY x l).cons y).trans (List.Perm.swap ..)
theorem Kb:∀l,(NE l).Perm l
 |[]=>Df _
 |x::l=>(IY x _).trans ((Kb l).cons x)
def KD (l:List (Nat×Nat)):Prop:=l.Pairwise (fun a b=>GK b a=false)
theorem OY (x:Nat×Nat):∀l,KD l→KD (Lo x l)
 |[],_=>by unfold KD Lo;simp
 |y::l,h=>by
  unfold KD at h⊢;have c:=h;rw[B9]at h;unfold Lo;by_cases b:GK x y=true
  ·rw[Ay b,B9]
   refine⟨fun z a=> ?_,c⟩;rcases Ac.1 a with rfl|a
   ·rw[FY];rw[GJ]at b;omega
   ·have:=h.1 z a
    rw[FY]at this⊢;rw[GJ]at b;omega
  ·rw[Aw b,B9]
   refine⟨fun z a=> ?_,OY x l h.2⟩;rcases Ac.1 ((IY x l).mem_iff.1 a)with rfl|a
   ·simpa using b
   ·exact h.1 z a
theorem MK:∀l,KD (NE l)
 |[]=>Gp
 |x::l=>OY x _ (MK l)
theorem SD:∀l m:List (Nat×Nat),l.Perm m→KD l→KD m→l=m
 |[],m,h,_,_=>(List.nil_perm.1 h).symm
 |x::l,[],h,_,_=>absurd (List.perm_nil.1 h) (by simp)
 |x::l,y::m,h,hl,hm=>by
  have c:x=y:=by
   unfold KD at hl hm;rw[B9]at hl hm;have a:y∈x::l:=h.mem_iff.2 (Bx ..);have b:x∈y::m:=h.mem_iff.1 (Bx ..);rcases Ac.1 a with e|a
   ·exact e.symm
   ·rcases Ac.1 b with e|b
    ·exact e
    ·exact TL x y (hm.1 x b) (hl.1 y a)
  subst c;unfold KD at hl hm;rw[B9]at hl hm;rw[SD l m ((List.perm_cons x).1 h) hl.2 hm.2]
theorem Vx {mem:List Nat}{l:List (Nat×Nat)}(h:l.Perm (Dd mem))(a:KD l):l=ptsOf mem:=
 SD l _ (h.trans (Kb _).symm) a (MK _)
theorem Keep.cell1' {w b:World}{a:Addr}{v:Value}(k:Keep [] w b)(h:w.cell? a=some v):b.cell? a=some v:=by
 have c:a.block<w.heap.size:=by obtain⟨_,_,e,d,_⟩:=UD (w:=w) (a:=a) (by rw[h];rfl);rw[e];exact d
 exact(k.cell (p:=a) c (by simp)).trans h
def PtR (w:World)(v:Value)(L:List (Nat×Nat)):Prop:=∃g cap,v=.slice (some ⟨g,0,none⟩) L.length cap∧g<w.heap.size∧∀i a,L[i]?=some a→w.cell? ⟨g,i*2,none⟩=some (.int .u64 (a.1:Int))∧w.cell? ⟨g,i*2+1,none⟩=some (.int .i64 (a.2:Int))
theorem PtR.keep {w e:World}{v:Value}{L:List (Nat×Nat)}{S:List Nat}(h:PtR w v L)(k:Keep S w e)(l:∀b,v.ownBlock=some b→b∉S):PtR e v L:=by obtain⟨g,cap,rfl,c,n⟩:=h;have d:=l g rfl;refine⟨g,cap,rfl,AW c k.size,fun i a m=> ?_⟩;obtain⟨f,j⟩:=n i a m;exact⟨(k.cell (p:=⟨g,i*2,none⟩) c d).trans f,(k.cell (p:=⟨g,i*2+1,none⟩) c d).trans j⟩
structure RingAt (w:World) (rb ep:Nat) (mem:List Nat) (v1 v2:Value):Prop where
 blk:Blk w rb [.int .i64 (ep:Int),v1,v2] 166
 nodes:Rv w 1 v1 mem.length (ints (mem.map Int.ofNat))
 pts:PtR w v2 (ptsOf mem)
theorem Rg {L:List (Nat×Nat)}{h i:Nat}{a:Nat×Nat}(c:L[i]?=some a)(f:h≤a.1)(d:∀j b,j<i→L[j]?=some b→b.1<h):Eg L h=a.2:=by
 unfold Eg
 have:L.find? (fun p=>decide (h≤p.1))=some a:=by rw[List.find?_eq_some_iff_getElem];obtain⟨g,e⟩:=Ai.1 c;refine⟨by simpa using f,i,g,e,fun j k=> ?_⟩;have:=d j (L[j]'(by omega)) k (Ad (by omega));simp;omega
 rw[this]
theorem Rf {L:List (Nat×Nat)}{h:Nat}{a:Nat×Nat}(c:L[0]?=some a)(d:∀(j:Nat) b,L[j]?=some b→b.1<h):Eg L h=a.2:=by
 unfold Eg
 have:L.find? (fun p=>decide (h≤p.1))=none:=by rw[List.find?_eq_none];intro p f;obtain⟨j,e⟩:=Bf f;have:=d j p e;simp;omega
 rw[this]
 cases L with
 |nil=>simp at c
 |cons b L=>simp at c;rw[c]
theorem UH {w:World}(h:Value):Calls Tryz.prog 52 #[.pointer none,h] w fun e a=>e=.returned (.int .i64 0)∧a=w:=by go_enter Tryz.func52,Tryz.ntmps52;go_wp2;go_ret;exact⟨rfl,rfl⟩
theorem UJ {w:World}{A ep:Nat}{mem:List Nat}{W X:Value}(o:RingAt w A ep mem W X)(p:0<(ptsOf mem).length ∧(ptsOf mem).length ≤1000)(h:Nat)(hh:h<18446744073709551616):
  Calls Tryz.prog 52 #[pr A 0,.int .u64 (h:Int)] w fun e Y=>e=.returned (.int .i64 (Eg (ptsOf mem) h:Int))∧Keep [] w Y:=by
 have f:=o.blk.cell 2;obtain⟨g,cap,rfl,I,u⟩:=o.pts;simp only[List.getElem?_cons_succ,List.getElem?_cons_zero]at f;obtain⟨L,G⟩:∃L,L=ptsOf mem:=⟨_,rfl⟩;rw[←G]at f u p⊢;obtain⟨n,z⟩:∃n,n=L.length:=⟨_,rfl⟩;rw[←z]at f p;obtain⟨s,C,Z,aa,O⟩:=i_5 z u o.blk I f;clear G z u o I;go_enter Tryz.func52,Tryz.ntmps52;go_wp2_with fail;clear f
 go_loopw [14] (fun V wr=>∃i:Nat,V=.int .i64 (i:Int)∧i≤n∧Keep [] w wr∧∀j b,j<i→L[j]?=some b→b.1<h) (fun x _=>n+1-(intOf x).toNat)
 case atStart=>exact⟨0,rfl,AA _,By _ _,fun j b K=>absurd K (by omega)⟩
 case round=>
 obtain⟨i,rfl,R,F,H⟩:=hrel;obtain⟨d,r⟩:=i_2 F H;clear F H;by_cases S:i<n
 ·have T:decide ((i:Int)<(n:Int))=true:=An (by omega)
  obtain⟨a,c⟩:∃a,L[i]?=some a:=⟨_,Ad (by rw[←s.out];exact S)⟩;obtain⟨m,c1⟩:=C.out i a c;have q:=d.out.cell1' (a:=⟨g,i*2,none⟩) m;have N:=d.out.cell1' (a:=⟨g,i*2+1,none⟩) c1
  have M:wr.rangeAt g (i*2) [.int .u64 (a.1:Int),.int .i64 (a.2:Int)]:=fun j v l=>by
   rcases j with _|_|j
   ·simp at l;rw[←l];exact q
   ·simp at l;rw[←l];exact N
   ·simp at l
  obtain⟨B,E⟩:=i_2 c M;have D:=h_ (d.out.alloc (.cells #[.int .u64 (a.1:Int),.int .i64 (a.2:Int)] 168));clear m c1 c M q N;by_cases y:h≤a.1
  ·have q1:decide ((a.1:Int)≥(h:Int))=true:=An (by omega)
   have U:(h:Int)≤(a.1:Int):=by omega
   have t:Hid (Eg L h=a.2):=h_ (Rg B.out y r.out);clear y
   go_wp2_with (refine Bc rfl 168 _ rfl g (i*2) rfl [.int .u64 (a.1:Int),.int .i64 (a.2:Int)] _ E.out Tryz.underlying168 rfl (by rfl) ?_)
   go_ret;exact⟨by rw[t.out];first|rfl|skip,D.out⟩
  ·have U:¬(h:Int)≤(a.1:Int):=by omega
   have P:Hid (a.1<h):=h_ (by omega);clear y
   go_wp2_with (refine Bc rfl 168 _ rfl g (i*2) rfl [.int .u64 (a.1:Int),.int .i64 (a.2:Int)] _ E.out Tryz.underlying168 rfl (by rfl) ?_)
   go_roundw
   case rel=>exact⟨i+1,by go_num,by omega,D.out,fun j b K k=>by
    by_cases Q:j=i
    ·subst Q
     have:=B.out;rw[k]at this;injection this with this;rw[this];exact P.out
    ·exact r.out j b (by omega) k⟩
   case measure=>simp only[intOf];omega
 ·have J:i=n:=by omega
  have T:decide ((i:Int)<(n:Int))=false:=Ak (by omega);obtain⟨a,c⟩:∃a,L[0]?=some a:=⟨_,Ad (by rw[←s.out];exact p.1)⟩;obtain⟨m,c1⟩:=C.out 0 a c;have q:=d.out.cell1' (a:=⟨g,0*2+1,none⟩) c1;have f:=d.out.cell1' (a:=⟨A,2,none⟩) O.out;rw[Nat.zero_mul,AP]at q;have t:Hid (Eg L h=a.2):=h_ (Rf c (fun j b k=>r.out j b (by rw[J,s.out];exact(Ai.1 k).1) k));have ab:=p.1;clear m c1 c J R;go_wp2;go_ret;exact⟨by rw[t.out];first|rfl|skip,d.out⟩
theorem Tryz.infoU8:(Tryz.prog.info? 5).map (fun i=>(i.zero,i.size,i.bytes))=some (some (.int .u8 0),1,1):=by kernel_rfl
theorem run_bs2 (a b:Nat)(W:World):(Instr.buildSlice 81 2 #[(0,.int .u8 (a:Int)),(1,.int .u8 (b:Int))]).run Tryz.prog W=.ok (.slice (some ⟨W.heap.size,0,none⟩) 2 2) (W.alloc (.cells #[.int .u8 (a:Int),.int .u8 (b:Int)] 5)):=by obtain⟨f,d,e,c,g⟩:=AU Tryz.infoU8;exact run_buildSlice W _ _ 2 _ _ f _ Ao d e (by rw[c];decide) (by rw[c];decide) (by rw[c];kernel_rfl)
theorem str2 {W:World}{b x y:Nat}(h:Blk W b [.int .u8 (x:Int),.int .u8 (y:Int)] 5)(c:x<256)(d:y<256):(convert 81 9 (.slice (some ⟨b,0,none⟩) 2 2)).run Tryz.prog W=.ok (.string (toStr [x,y])) W:=by
 refine Rd.str (l:=[x,y]) ⟨by simp,some ⟨b,0,none⟩,2,rfl,by simp,fun _=>⟨b,0,rfl, ?_,fun j a=> ?_⟩⟩ (by simp;omega) Ao EQ BG
 ·exact h.lt
 ·rw[AP,h.cell]
  match j,a with
  |0,_=>simp[Bb,bc,AR c]
  |1,_=>simp[Bb,bc,AR d]
theorem key_eq {i:Nat}(a:i<26):(⟨#[107,101,121,32]⟩++toStr [97+i,97]:ByteArray)=keyS i:=by unfold keyS toStr;rw[AR a,Nat.div_eq_of_lt a];exact ByteArray.ext (by rw[ByteArray.data_append];simp)
theorem val_eq {i n:Nat}(a:i<26)(b:n<10):(⟨#[118,97,108,117,101,32]⟩++toStr [97+i,48+n]:ByteArray)=valS i n:=by unfold valS toStr;rw[AR a,AR b];exact ByteArray.ext (by rw[ByteArray.data_append];simp)
section
variable {w w':World}
theorem topKey_any (i:Nat)(c:i<26):
  Calls Tryz.prog 10 #[.int .i64 (i:Int)] w fun e w'=>e=.returned (.string (keyS i))∧Keep [] w w':=by
 have d:(i:Int).tmod 26=(i:Int):=Int.tmod_eq_of_lt (by omega) (by omega);have f:(i:Int).tdiv 26=0:=Int.tdiv_eq_zero_of_lt (by omega) (by omega);have b:=run_bs2 (97+i) (97) w;have a:=str2 (BY w [.int .u8 ((97+i:Nat):Int),.int .u8 ((97:Nat):Int)] 5) (by omega) (by omega);have k:=(By [] w).alloc (.cells #[.int .u8 ((97+i:Nat):Int),.int .u8 ((97:Nat):Int)] 5);have K:=h_ k;clear k;simp only[List.toArray]at a
 push_cast at b a
 go_enter Tryz.func10,Tryz.ntmps10;go_wp2;go_ret;exact⟨by rw[←key_eq c];rfl,K.out⟩
theorem topVal_any (i n:Nat)(c:i<26)(d:n<10):
  Calls Tryz.prog 11 #[.int .i64 (i:Int),.int .i64 (n:Int)] w fun e w'=>e=.returned (.string (valS i n))∧Keep [] w w':=by
 have f:(i:Int).tmod 26=(i:Int):=Int.tmod_eq_of_lt (by omega) (by omega);have g:(n:Int).tmod 10=(n:Int):=Int.tmod_eq_of_lt (by omega) (by omega);have b:=run_bs2 (97+i) (48+n) w;have a:=str2 (BY w [.int .u8 ((97+i:Nat):Int),.int .u8 ((48+n:Nat):Int)] 5) (by omega) (by omega);have k:=(By [] w).alloc (.cells #[.int .u8 ((97+i:Nat):Int),.int .u8 ((48+n:Nat):Int)] 5);have K:=h_ k;clear k;simp only[List.toArray]at a
 push_cast at b a
 go_enter Tryz.func11,Tryz.ntmps11;go_wp2;go_ret;exact⟨by rw[←val_eq c d];rfl,K.out⟩
end
def JD (x:Int)(k:Nat):Nat:=(x.tmod (k:Int)).natAbs
theorem Tx (x:Int)(k:Nat)(c:0<k):JD x k<k:=by unfold JD;have a:=Int.tmod_lt_of_pos x (show(0:Int)<(k:Int) by omega);have b:=Int.lt_tmod_of_pos x (show(0:Int)<(k:Int) by omega);omega
theorem Nq {w:World}(x:Int)(k:Nat)(h:0<k∧k≤1000)(m: -9223372036854775808≤x∧x≤9223372036854775807):Calls Tryz.prog 7 #[.int .i64 x,.int .i64 (k:Int)] w fun e g=>e=.returned (.int .i64 (JD x k:Int))∧g=w:=by
 have d:=Int.tmod_lt_of_pos x (show(0:Int)<(k:Int) by omega);have f:=Int.lt_tmod_of_pos x (show(0:Int)<(k:Int) by omega);have i:¬(k:Int)=0:=by omega
 have j:¬(k:Int)= -1:=by omega
 obtain⟨r,a⟩:∃r,r=x.tmod (k:Int):=⟨_,rfl⟩;have b:Hid ((JD x k:Int)=if r<0 then-r else r):=h_ (by unfold JD;rw[←a];split<;>omega);rw[←a]at d f;have l:=a.symm;clear a;go_enter Tryz.func7,Tryz.ntmps7;by_cases c:r<0
 ·go_wp2
  go_ret;exact⟨by rw[b.out,Ay c];rfl,rfl⟩
 ·go_wp2
  go_ret;exact⟨by rw[b.out,Aw (by omega)];rfl,rfl⟩
end Go.Proofs.YtnhbioehiiifdaaGreat
namespace Go.Proofs.YtnhbioehiiifdaaGreat.topRead
open Go.Proofs.YtnhbioehiiifdaaGreat
theorem c1:OpenClaim.wf (OpenSpec.ofChange Rows.topReadSpec) Rows.topReadRow=true:=by kernel_rfl
theorem c2:laidOutB Tryz.pinned.checked.prog=true:=by kernel_rfl
theorem c3:mapsRowed Tryz.pinned.checked.prog=true:=by kernel_rfl
theorem c4:(Tryz.f3.params.all fun x=>Tryz.pinned.checked.prog.readableRec x)=true:=by kernel_rfl
theorem c5:namedTie Tryz.pinned.checked.prog Rows.topReadRow.named Rows.topReadSpec.vars=true:=by kernel_rfl
theorem c6:(Rows.topReadRow.stops==[])=true:=by kernel_rfl
theorem c7:(Tryz.pinned.checked.prog.stops==[])=true:=by kernel_rfl
theorem c8:(Rows.topReadRow.knobs==[])=true:=by kernel_rfl
theorem c9:(Tryz.pinned.checked.prog.stopKnobs==[])=true:=by kernel_rfl
theorem c10:(Rows.topReadRow.inPlace==Tryz.pinned.checked.prog.inPlace 3)=true:=by kernel_rfl
theorem c11:(Rows.topReadRow.unfollowed==Tryz.pinned.checked.prog.unfollowed 3)=true:=by kernel_rfl
theorem c12:(Rows.topReadRow.recurses==Tryz.pinned.checked.prog.recurses 3)=true:=by kernel_rfl
theorem c13:(Rows.topReadRow.named==Tryz.pinned.checked.prog.varsNamed 3)=true:=by kernel_rfl
theorem c14:(Rows.topReadRow.maps==(Tryz.f3.params.toList++DataSpec.varTypes Tryz.pinned.checked.prog Rows.topReadSpec.plain).any fun x=>Tryz.pinned.checked.prog.mapsRec x)=true:=by kernel_rfl
theorem c15:(Rows.topReadRow.ifaces==(Tryz.f3.params.toList++DataSpec.varTypes Tryz.pinned.checked.prog Rows.topReadSpec.plain).any fun x=>Tryz.pinned.checked.prog.ifacesRec x)=true:=by kernel_rfl
theorem c16:(Rows.topReadRow.mapsOut==Tryz.pinned.checked.prog.mapsAmong Tryz.f3.resultTypes.toList)=true:=by kernel_rfl
theorem c17:(Rows.topReadRow.loops==(Tryz.f3.params.toList++DataSpec.varTypes Tryz.pinned.checked.prog Rows.topReadSpec.plain).any fun x=>Tryz.pinned.checked.prog.loopsFrom x)=true:=by kernel_rfl
theorem c18:(Rows.topReadRow.wideKeys==(Tryz.f3.params.toList++DataSpec.varTypes Tryz.pinned.checked.prog Rows.topReadSpec.plain++Tryz.f3.resultTypes.toList).any fun x=>Tryz.pinned.checked.prog.wideKeysFrom x)=true:=by kernel_rfl
theorem c19:(Rows.topReadSpec.vars.all fun x=>Tryz.pinned.checked.prog.varReadable x)=true:=by kernel_rfl
theorem c20:(Tryz.f3.resultTypes.all fun t=>Tryz.pinned.checked.prog.readableRec t&&decide (t<Tryz.pinned.checked.prog.types.size))=true:=by kernel_rfl
theorem c21:(Rows.topReadRow.ifacesOut==Tryz.f3.resultTypes.toList.any fun x=>Tryz.pinned.checked.prog.ifacesRec x)=true:=by kernel_rfl
theorem c22:(Rows.topReadRow.loopsOut==Tryz.f3.resultTypes.toList.any fun x=>Tryz.pinned.checked.prog.loopsFrom x)=true:=by kernel_rfl
theorem c23:(Rows.topReadRow.plainKeys==Tryz.pinned.checked.prog.plainKeys)=true:=by kernel_rfl
theorem c24:Rows.topReadRow.shortTexts.isNone=true:=by kernel_rfl
theorem c25:Tryz.pinned.checked.prog.stopsHeard=true:=by kernel_rfl
theorem c26:Tryz.pinned.checked.prog.mayEnter=true:=by kernel_rfl
theorem c27:(Rows.topReadRow.lifted==Tryz.pinned.checked.prog.liftsFinal)=true:=by kernel_rfl
theorem c28:(Tryz.pinned.checked.prog.make==some Rows.topReadRow.make)=true:=by kernel_rfl
theorem c29:(Rows.topReadRow.kinds==if Rows.topReadRow.domain.isEmpty=true then[]else List.map (fun t=>match Tryz.pinned.checked.prog.underlying t with|some (TypeDesc.int k)=>some k|x=>none) Tryz.f3.params.toList)=true:=by kernel_rfl
theorem c30:(Rows.topReadRow.pinned==Rows.topReadRow.pinnedBy)=true:=by kernel_rfl
theorem c31:(Rows.topReadRow.veiled==(Tryz.f3.params.toList++DataSpec.varTypes Tryz.pinned.checked.prog Rows.topReadSpec.plain++Tryz.f3.resultTypes.toList).any fun x=>Tryz.pinned.checked.prog.veiledRec x)=true:=by kernel_rfl
theorem c32:Rows.topReadRow.veiledFits Tryz.pinned.checked.prog Tryz.f3.params.toList (Tryz.f3.params.toList++DataSpec.varTypes Tryz.pinned.checked.prog Rows.topReadSpec.plain++Tryz.f3.resultTypes.toList)=true:=by kernel_rfl
theorem closed:joinedFacts Tryz.pinned.checked.prog 3 Tryz.f3 Rows.topReadSpec Rows.topReadRow=true:=by unfold joinedFacts;simp only[Ar];exact⟨⟨⟨⟨⟨⟨⟨⟨⟨⟨⟨⟨⟨⟨⟨⟨⟨⟨⟨⟨⟨⟨⟨⟨⟨⟨⟨⟨⟨⟨⟨c1,c2⟩,c3⟩,c4⟩,c5⟩,c6⟩,c7⟩,c8⟩,c9⟩,c10⟩,c11⟩,c12⟩,c13⟩,c14⟩,c15⟩,c16⟩,c17⟩,c18⟩,c19⟩,c20⟩,c21⟩,c22⟩,c23⟩,c24⟩,c25⟩,c26⟩,c27⟩,c28⟩,c29⟩,c30⟩,c31⟩,c32⟩
theorem isNamed:Tryz.pinned.checked.prog.funcNamed Rows.topReadRow.func=some 3:=by kernel_rfl
theorem inst:Tryz.f3.isInstance Tryz.pinned.checked.prog Rows.topReadRow.origin Rows.topReadRow.targs:=by first|exact DE (by kernel_rfl)|rfl
theorem wrapped:Tryz.f3.isWrapper Tryz.pinned.checked.prog Rows.topReadRow.wrapper Rows.topReadRow.mainSum:=by unfold Func.isWrapper;first|(rw[Ay (by decide+kernel)];kernel_rfl)|(rw[Aw (by decide+kernel)];exact⟨rfl,rfl⟩)
end Go.Proofs.YtnhbioehiiifdaaGreat.topRead
