import Derived.Test.YtnhbioehiiifdaaGreatR04
import Derived.Shelf.SlSortCmp.KitK
set_option maxRecDepth 100000
set_option maxHeartbeats 16000000
set_option linter.all false
namespace Go.Proofs.YtnhbioehiiifdaaGreat
open Go.ChangeShapes Go.WideShapes Go.ChangeAt Go.RowKit
open Go.Shelf Go.Lib Go.Sort
def Kc (x:Nat×Nat):List Value:=[.int .u64 (x.1:Int),.int .i64 (x.2:Int)]
theorem QC (a b:Nat×Nat)(W:World):Calls Tryz.prog 266 #[.agg #[.int .u64 (a.1:Int),.int .i64 (a.2:Int)],.agg #[.int .u64 (b.1:Int),.int .i64 (b.2:Int)]] W fun e k=>e=.returned (.bool (GK a b))∧∃q h,k=grow (W.drewN q) h:=by
 obtain⟨x,y⟩:=a;obtain⟨z,u⟩:=b;simp only;by_cases d:x<z
 ·have i:(x:Int)<(z:Int):=by omega
  have c:Hid (GK (x,y) (z,u)=true):=h_ ((GJ _ _).2 (.inl d));go_enter Tryz.func266,Tryz.ntmps266;go_wp2;go_ret;exact⟨by rw[c.out];first|rfl|simp[d],0,_,by rw[alloc_eq_grow,alloc_eq_grow,grow_grow];rfl⟩
 ·have i:¬(x:Int)<(z:Int):=by omega
  by_cases g:x=z
  ·subst g
   by_cases f:y<u
   ·have j:(y:Int)<(u:Int):=by omega
    have c:Hid (GK (x,y) (x,u)=true):=h_ ((GJ _ _).2 (.inr ⟨rfl,f⟩));go_enter Tryz.func266,Tryz.ntmps266;go_wp2;go_ret;exact⟨by rw[c.out];first|rfl|simp[f],0,_,by rw[alloc_eq_grow,alloc_eq_grow,grow_grow];rfl⟩
   ·have j:¬(y:Int)<(u:Int):=by omega
    have c:Hid (GK (x,y) (x,u)=false):=h_ ((FY _ _).2 (by simp;omega));go_enter Tryz.func266,Tryz.ntmps266;go_wp2;go_ret;exact⟨by rw[c.out];first|rfl|simp[f],0,_,by rw[alloc_eq_grow,alloc_eq_grow,grow_grow];rfl⟩
  ·have l:¬(x:Int)=(z:Int):=by omega
   have c:Hid (GK (x,y) (z,u)=false):=h_ ((FY _ _).2 (by simp;omega));go_enter Tryz.func266,Tryz.ntmps266;go_wp2;go_ret;exact⟨by rw[c.out];first|rfl|simp[d,g],0,_,by rw[alloc_eq_grow,alloc_eq_grow,grow_grow];rfl⟩
def Jv (a b:Nat×Nat):Int:=if GK a b=true then-1 else if GK b a=true then 1 else 0
theorem Ju (a b:Nat×Nat):ltOf Jv a b=GK a b:=by
 unfold ltOf Jv
 cases GK a b with
 |true=>rfl
 |false=>cases GK b a<;>rfl
theorem TM:SWO (ltOf Jv)where
 irrefl x:=by rw[Ju,FY];omega
 trans x y z h1 h2:=by rw[Ju,GJ]at*;omega
 ntrans x y z h1 h2:=by rw[Ju,FY]at*;omega
theorem Rb (a b:Nat×Nat)(W:World):Calls Tryz.prog 265 #[.agg #[.int .u64 (a.1:Int),.int .i64 (a.2:Int)],.agg #[.int .u64 (b.1:Int),.int .i64 (b.2:Int)]] W fun e G=>e=.returned (.int .i64 (Jv a b))∧∃q h,G=grow (W.drewN q) h:=by
 have u:=h_ (fun(W:World)=>QC a b W);have v:=h_ (fun(W:World)=>QC b a W);obtain⟨A,m⟩:∃r,r=GK a b:=⟨_,rfl⟩;obtain⟨B,n⟩:∃r,r=GK b a:=⟨_,rfl⟩;have k:Hid (Jv a b=if A=true then-1 else if B=true then 1 else 0):=h_ (by rw[m,n];rfl);rw[←m]at u;rw[←n]at v;clear m n;go_enter Tryz.func265,Tryz.ntmps265;go_wp2_with fail;obtain⟨c,l⟩:∃c,c=(W.alloc (.cells #[.int .u64 (a.1:Int),.int .i64 (a.2:Int)] 168)).alloc (.cells #[.int .u64 (b.1:Int),.int .i64 (b.2:Int)] 168):=⟨_,rfl⟩;have f:c=grow W #[.cells #[.int .u64 (a.1:Int),.int .i64 (a.2:Int)] 168,.cells #[.int .u64 (b.1:Int),.int .i64 (b.2:Int)] 168]:=by rw[l,alloc_eq_grow,alloc_eq_grow,grow_grow];rfl
 have F:c.heap.size=W.heap.size+2:=by rw[f];simp[grow]
 have w:c.cell? ⟨W.heap.size,0,none⟩=some (.int .u64 (a.1:Int)):=by rw[f];simp[grow,World.cell?]
 have x:c.cell? ⟨W.heap.size,1,none⟩=some (.int .i64 (a.2:Int)):=by rw[f];simp[grow,World.cell?]
 have y:c.cell? ⟨W.heap.size+1,0,none⟩=some (.int .u64 (b.1:Int)):=by rw[f];simp[grow,World.cell?]
 have z:c.cell? ⟨W.heap.size+1,1,none⟩=some (.int .i64 (b.2:Int)):=by rw[f];simp[grow,World.cell?]
 rw[←l];refine(u.out c).mono ?_;rintro e j ⟨rfl,d,g,rfl⟩;have C:=cell_grown (by show W.heap.size<_;omega) w d g;have c1:=cell_grown (by show W.heap.size<_;omega) x d g;have D:=cell_grown (by show W.heap.size+1<_;omega) y d g;have E:=cell_grown (by show W.heap.size+1<_;omega) z d g;have s:Hid (∃q h,grow (c.drewN d) g=grow (W.drewN q) h):=h_ ⟨d,_,by rw[f];exact grow_grow (W.drewN d) _ g⟩;generalize grow (c.drewN d) g=j at*;clear l f F w x y z;cases A
 ·go_wp2_with fail
  refine(v.out j).mono ?_;rintro e H ⟨rfl,i,o,rfl⟩
  have t:Hid (∃q h,grow (j.drewN i) o=grow (W.drewN q) h):=h_ (by obtain⟨q,p,rfl⟩:=s.out;refine⟨q+i,p++o, ?_⟩;rw[show(grow (W.drewN q) p).drewN i=grow ((W.drewN q).drewN i) p from rfl,grow_grow,World.drewN_drewN])
  generalize grow (j.drewN i) o=H at*;clear C c1 D E;cases B
  ·go_wp2
   go_ret;exact⟨by rw[k.out];rfl,t.out⟩
  ·go_wp2
   go_ret;exact⟨by rw[k.out];rfl,t.out⟩
 ·go_wp2
  go_ret;exact⟨by rw[k.out];rfl,s.out⟩
end Go.Proofs.YtnhbioehiiifdaaGreat
