/- The law TopRead: its Go text returns true for every input, and what came in reads as before. No condition. -/
import Derived.Test.YtnhbioehiiifdaaGreatR23
set_option maxRecDepth 100000
set_option maxHeartbeats 16000000
set_option linter.all false
namespace Go.Proofs.YtnhbioehiiifdaaGreat.topRead
open Go.ChangeShapes Go.WideShapes Go.ChangeAt Go.RowKit
open Go.ChangeMaps (open_string shut_string)
theorem own:ownKnob Tryz.prog.godebug=none:=by kernel_rfl
theorem laidOut:laidOutB Tryz.prog=true:=by kernel_rfl
theorem lifted (os:Os)(started:os.Started)(H:Type)(enc:TypeId×Value→H):
  ReturnsInHanded {} Tryz.checked os 3 .any (Rows.topReadSpec.pre6 enc Tryz.prog Tryz.f3 Rows.topReadRow.domain false) (Rows.topReadSpec.post enc Tryz.prog Tryz.f3 false true false false):=by
 refine returnsInHanded_of_change (C:=Tryz.checked) own started (by kernel_rfl) Tryz.func3
  (ChangeSpec.witness6 (enc:=enc) (C:=Tryz.checked) false ⟨#[],#[.int .i64 0,.slice none 0 0],[]⟩ 8 (by kernel_rfl) (by kernel_rfl) (by kernel_rfl) (by kernel_rfl)) ?_
 intro W base d G gs aa y w af _;have g:∀(j:Nat) t v,Tryz.f3.params[j]?=some t→d[j]?=some v→Value.okWide Tryz.prog W .any base t v:=y;have J:=w;obtain⟨p,q,u,I,rfl,ag,ah⟩:=w;have s:DataW.TrodAll enc Tryz.prog W 0 (fun _=>true) true Tryz.f3.params.toList d.toList G p:=u;rw[Tryz.params3]at s g;obtain⟨D,ai,d0,ab,S,q0,ae,rfl,rfl,o,U⟩:=trodAll_cons s;obtain⟨E,aj,d1,ac,T,q1,rfl,rfl,rfl,r,V⟩:=trodAll_cons U;obtain⟨rfl,rfl,rfl⟩:=trodAll_nil V;obtain rfl:d=#[D,E]:=by cases d;simp_all
 obtain⟨rfl,rfl⟩:=trodVars_none I;have z:=o;have Q:∀x∈S,x.block<W.heap.size:=by obtain⟨m,b⟩:=z;exact DataW.trod_lt m _ _ _ b
 obtain⟨F,rfl,rfl,rfl,X⟩:=open_int ER (g 0 3 D rfl rfl) o;have A:=r;have R:∀x∈T,x.block<W.heap.size:=by obtain⟨m,b⟩:=A;exact DataW.trod_lt m _ _ _ b
 obtain⟨k,B,n,rfl⟩:=okWide_slice Dl (g 1 22 E rfl rfl)
 obtain⟨Z,Y⟩:∃i,IsRow .i64 W k B n i:=by
  obtain⟨ad,M⟩:=r;rcases open_ints Dl ER (by kernel_rfl) M with⟨a,_⟩|⟨x,l,c,i,a,_,N,b,P,_,K,O⟩
  ·simp[Value.cells]at a
   obtain⟨rfl,rfl,rfl⟩:=a;exact⟨[],.inl ⟨rfl,rfl,rfl,rfl⟩⟩
  ·simp[Value.cells]at a
   obtain⟨rfl,rfl,rfl⟩:=a;exact⟨i,.inr ⟨_,rfl,N,b,by simpa using P,K,O⟩⟩
 clear u y;refine(topRead_walk F k B n Z W X Y).mono fun e W' ⟨L,f⟩=> ?_
 subst L;exact⟨_,rfl,_,_,_,[],_,[],J,trodAll_mk1 (shut_bool Tryz.underlying4 _),(trodAll_cons_mk (Below.trod laidOut (by kernel_rfl) (DE (by kernel_rfl)) z f Q) (trodAll_cons_mk (Below.trod laidOut (by kernel_rfl) (DE (by kernel_rfl)) A f R) trodAll_mk0)),rfl,f.frame _,fun h=>by cases h⟩
theorem BQ:Rows.topReadRow.holds Tryz.pinned (OpenSpec.ofChange Rows.topReadSpec):=
 OpenClaim.holds_of_wide 3 Tryz.f3 rfl rfl rfl rfl rfl rfl rfl ⟨rfl,rfl,rfl,rfl,rfl⟩ rfl rfl rfl rfl rfl isNamed Tryz.func3 closed
  inst wrapped
  (fun a b H enc _=>lifted a b H enc)
theorem proved:Rows.TopReadSaid:=BQ
#print axioms proved
end Go.Proofs.YtnhbioehiiifdaaGreat.topRead
