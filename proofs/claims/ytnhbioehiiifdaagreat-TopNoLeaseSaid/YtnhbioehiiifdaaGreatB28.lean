/- The law TopNoLease: its Go text returns true for every input, and what came in reads as before. No condition. -/
import Derived.Test.YtnhbioehiiifdaaGreatB27
set_option maxRecDepth 100000
set_option maxHeartbeats 16000000
set_option linter.all false
namespace Go.Proofs.YtnhbioehiiifdaaGreat.topNoLease
open Go.ChangeShapes Go.WideShapes Go.ChangeAt Go.RowKit
open Go.ChangeMaps (open_string shut_string)
theorem own:ownKnob Tryz.prog.godebug=none:=by kernel_rfl
theorem laidOut:laidOutB Tryz.prog=true:=by kernel_rfl
theorem lifted (os:Os)(started:os.Started)(H:Type)(enc:TypeId×Value→H):
  ReturnsInHanded {} Tryz.checked os 4 .any (Rows.topNoLeaseSpec.pre6 enc Tryz.prog Tryz.f4 Rows.topNoLeaseRow.domain false) (Rows.topNoLeaseSpec.post enc Tryz.prog Tryz.f4 false true false false):=by
 refine returnsInHanded_of_change (C:=Tryz.checked) own started (by kernel_rfl) Tryz.func4
  (ChangeSpec.witness6 (enc:=enc) (C:=Tryz.checked) false ⟨#[],#[.int .i64 0,.string ByteArray.empty],[]⟩ 8 (by kernel_rfl) (by kernel_rfl) (by kernel_rfl) (by kernel_rfl)) ?_
 intro W base a z T O n l V _;have d:∀(j:Nat) t v,Tryz.f4.params[j]?=some t→a[j]?=some v→Value.okWide Tryz.prog W .any base t v:=n;have B:=l;obtain⟨p,q,k,A,rfl,X,Y⟩:=l;have i:DataW.TrodAll enc Tryz.prog W 0 (fun _=>true) true Tryz.f4.params.toList a.toList z p:=k;rw[Tryz.params4]at i d;obtain⟨s,aa,P,R,G,Z,U,rfl,rfl,f,J⟩:=trodAll_cons i;obtain⟨u,ab,Q,S,I,q1,rfl,rfl,rfl,g,K⟩:=trodAll_cons J;obtain⟨rfl,rfl,rfl⟩:=trodAll_nil K;obtain rfl:a=#[s,u]:=by cases a;simp_all
 obtain⟨rfl,rfl⟩:=trodVars_none A;have o:=f;have E:∀x∈G,x.block<W.heap.size:=by obtain⟨m,c⟩:=o;exact DataW.trod_lt m _ _ _ c
 obtain⟨w,rfl,rfl,rfl,L⟩:=open_int ER (d 0 3 s rfl rfl) f;have r:=g;have F:∀x∈I,x.block<W.heap.size:=by obtain⟨m,c⟩:=r;exact DataW.trod_lt m _ _ _ c
 obtain⟨y,rfl,rfl,rfl,M⟩:=open_string BG (d 1 9 u rfl rfl) g;clear k n;refine(Kt w y W L M).mono fun e N ⟨D,b⟩=> ?_
 subst D;exact⟨_,rfl,_,_,_,[],_,[],B,trodAll_mk1 (shut_bool Tryz.underlying4 _),(trodAll_cons_mk (Below.trod laidOut (by kernel_rfl) (DE (by kernel_rfl)) o b E) (trodAll_cons_mk (Below.trod laidOut (by kernel_rfl) (DE (by kernel_rfl)) r b F) trodAll_mk0)),rfl,b.frame _,fun h=>by cases h⟩
theorem BQ:Rows.topNoLeaseRow.holds Tryz.pinned (OpenSpec.ofChange Rows.topNoLeaseSpec):=
 OpenClaim.holds_of_wide 4 Tryz.f4 rfl rfl rfl rfl rfl rfl rfl ⟨rfl,rfl,rfl,rfl,rfl⟩ rfl rfl rfl rfl rfl isNamed Tryz.func4 closed
  inst wrapped
  (fun a b H enc _=>lifted a b H enc)
theorem proved:Rows.TopNoLeaseSaid:=BQ
#print axioms proved
end Go.Proofs.YtnhbioehiiifdaaGreat.topNoLease
