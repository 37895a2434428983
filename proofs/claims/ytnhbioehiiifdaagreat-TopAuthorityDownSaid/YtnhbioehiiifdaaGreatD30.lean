/- The law TopAuthorityDown: its Go text returns true for every input, and what came in reads as before. No condition. -/
import Derived.Test.YtnhbioehiiifdaaGreatD18
import Derived.Test.YtnhbioehiiifdaaGreatD29
set_option maxRecDepth 100000
set_option maxHeartbeats 16000000
set_option linter.all false
namespace Go.Proofs.YtnhbioehiiifdaaGreat.topAuthorityDown
open Go.ChangeShapes Go.WideShapes Go.ChangeAt Go.RowKit
open Go.ChangeMaps (open_string shut_string)
theorem own:ownKnob Tryz.prog.godebug=none:=by kernel_rfl
theorem laidOut:laidOutB Tryz.prog=true:=by kernel_rfl
theorem lifted (os:Os)(started:os.Started)(H:Type)(enc:TypeId×Value→H):
  ReturnsInHanded {} Tryz.checked os 5 .any (Rows.topAuthorityDownSpec.pre6 enc Tryz.prog Tryz.f5 Rows.topAuthorityDownRow.domain false) (Rows.topAuthorityDownSpec.post enc Tryz.prog Tryz.f5 false true false false):=by
 refine returnsInHanded_of_change (C:=Tryz.checked) own started (by kernel_rfl) Tryz.func5
  (ChangeSpec.witness6 (enc:=enc) (C:=Tryz.checked) false ⟨#[],#[.int .i64 0,.slice none 0 0],[]⟩ 8 (by kernel_rfl) (by kernel_rfl) (by kernel_rfl) (by kernel_rfl)) ?_
 intro W base a y S N o n U _;have d:∀(j:Nat) t v,Tryz.f5.params[j]?=some t→a[j]?=some v→Value.okWide Tryz.prog W .any base t v:=o;have A:=n;obtain⟨p,q,l,z,rfl,V,X⟩:=n;have k:DataW.TrodAll enc Tryz.prog W 0 (fun _=>true) true Tryz.f5.params.toList a.toList y p:=l;rw[Tryz.params5]at k d;obtain⟨u,aa,O,Q,F,Y,T,rfl,rfl,g,I⟩:=trodAll_cons k;obtain⟨f,ab,P,R,G,Z,rfl,rfl,rfl,i,J⟩:=trodAll_cons I;obtain⟨rfl,rfl,rfl⟩:=trodAll_nil J;obtain rfl:a=#[u,f]:=by cases a;simp_all
 obtain⟨rfl,rfl⟩:=trodVars_none z;have r:=g;have D:∀x∈F,x.block<W.heap.size:=by obtain⟨m,c⟩:=r;exact DataW.trod_lt m _ _ _ c
 obtain⟨w,rfl,rfl,rfl,K⟩:=open_int ER (d 0 3 u rfl rfl) g;have s:=i;have E:∀x∈G,x.block<W.heap.size:=by obtain⟨m,c⟩:=s;exact DataW.trod_lt m _ _ _ c
 have L:=open_bools (d 1 37 f rfl rfl) i;clear l o;refine(topAuthorityDown_walk w f W K L).mono fun e M ⟨B,b⟩=> ?_
 subst B;exact⟨_,rfl,_,_,_,[],_,[],A,trodAll_mk1 (shut_bool Tryz.underlying4 _),(trodAll_cons_mk (Below.trod laidOut (by kernel_rfl) (DE (by kernel_rfl)) r b D) (trodAll_cons_mk (Below.trod laidOut (by kernel_rfl) (DE (by kernel_rfl)) s b E) trodAll_mk0)),rfl,b.frame _,fun h=>by cases h⟩
theorem BQ:Rows.topAuthorityDownRow.holds Tryz.pinned (OpenSpec.ofChange Rows.topAuthorityDownSpec):=
 OpenClaim.holds_of_wide 5 Tryz.f5 rfl rfl rfl rfl rfl rfl rfl ⟨rfl,rfl,rfl,rfl,rfl⟩ rfl rfl rfl rfl rfl isNamed Tryz.func5 closed
  inst wrapped
  (fun a b H enc _=>lifted a b H enc)
theorem proved:Rows.TopAuthorityDownSaid:=BQ
#print axioms proved
end Go.Proofs.YtnhbioehiiifdaaGreat.topAuthorityDown
