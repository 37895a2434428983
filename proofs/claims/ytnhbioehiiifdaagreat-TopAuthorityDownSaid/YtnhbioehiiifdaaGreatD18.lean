import Derived.Test.YtnhbioehiiifdaaGreatD01
set_option maxRecDepth 100000
set_option maxHeartbeats 16000000
set_option linter.all false
namespace Go.Proofs.YtnhbioehiiifdaaGreat.topAuthorityDown
open Go.Proofs.YtnhbioehiiifdaaGreat
theorem c1:OpenClaim.wf (OpenSpec.ofChange Rows.topAuthorityDownSpec) Rows.topAuthorityDownRow=true:=by kernel_rfl
theorem c2:laidOutB Tryz.pinned.checked.prog=true:=by kernel_rfl
theorem c3:mapsRowed Tryz.pinned.checked.prog=true:=by kernel_rfl
theorem c4:(Tryz.f5.params.all fun x=>Tryz.pinned.checked.prog.readableRec x)=true:=by kernel_rfl
theorem c5:namedTie Tryz.pinned.checked.prog Rows.topAuthorityDownRow.named Rows.topAuthorityDownSpec.vars=true:=by kernel_rfl
theorem c6:(Rows.topAuthorityDownRow.stops==[])=true:=by kernel_rfl
theorem c7:(Tryz.pinned.checked.prog.stops==[])=true:=by kernel_rfl
theorem c8:(Rows.topAuthorityDownRow.knobs==[])=true:=by kernel_rfl
theorem c9:(Tryz.pinned.checked.prog.stopKnobs==[])=true:=by kernel_rfl
theorem c10:(Rows.topAuthorityDownRow.inPlace==Tryz.pinned.checked.prog.inPlace 5)=true:=by kernel_rfl
theorem c11:(Rows.topAuthorityDownRow.unfollowed==Tryz.pinned.checked.prog.unfollowed 5)=true:=by kernel_rfl
theorem c12:(Rows.topAuthorityDownRow.recurses==Tryz.pinned.checked.prog.recurses 5)=true:=by kernel_rfl
theorem c13:(Rows.topAuthorityDownRow.named==Tryz.pinned.checked.prog.varsNamed 5)=true:=by kernel_rfl
theorem c14:(Rows.topAuthorityDownRow.maps==(Tryz.f5.params.toList++DataSpec.varTypes Tryz.pinned.checked.prog Rows.topAuthorityDownSpec.plain).any fun x=>Tryz.pinned.checked.prog.mapsRec x)=true:=by kernel_rfl
theorem c15:(Rows.topAuthorityDownRow.ifaces==(Tryz.f5.params.toList++DataSpec.varTypes Tryz.pinned.checked.prog Rows.topAuthorityDownSpec.plain).any fun x=>Tryz.pinned.checked.prog.ifacesRec x)=true:=by kernel_rfl
theorem c16:(Rows.topAuthorityDownRow.mapsOut==Tryz.pinned.checked.prog.mapsAmong Tryz.f5.resultTypes.toList)=true:=by kernel_rfl
theorem c17:(Rows.topAuthorityDownRow.loops==(Tryz.f5.params.toList++DataSpec.varTypes Tryz.pinned.checked.prog Rows.topAuthorityDownSpec.plain).any fun x=>Tryz.pinned.checked.prog.loopsFrom x)=true:=by kernel_rfl
theorem c18:(Rows.topAuthorityDownRow.wideKeys==(Tryz.f5.params.toList++DataSpec.varTypes Tryz.pinned.checked.prog Rows.topAuthorityDownSpec.plain++Tryz.f5.resultTypes.toList).any fun x=>Tryz.pinned.checked.prog.wideKeysFrom x)=true:=by kernel_rfl
theorem c19:(Rows.topAuthorityDownSpec.vars.all fun x=>Tryz.pinned.checked.prog.varReadable x)=true:=by kernel_rfl
theorem c20:(Tryz.f5.resultTypes.all fun t=>Tryz.pinned.checked.prog.readableRec t&&decide (t<Tryz.pinned.checked.prog.types.size))=true:=by kernel_rfl
theorem c21:(Rows.topAuthorityDownRow.ifacesOut==Tryz.f5.resultTypes.toList.any fun x=>Tryz.pinned.checked.prog.ifacesRec x)=true:=by kernel_rfl
theorem c22:(Rows.topAuthorityDownRow.loopsOut==Tryz.f5.resultTypes.toList.any fun x=>Tryz.pinned.checked.prog.loopsFrom x)=true:=by kernel_rfl
theorem c23:(Rows.topAuthorityDownRow.plainKeys==Tryz.pinned.checked.prog.plainKeys)=true:=by kernel_rfl
theorem c24:Rows.topAuthorityDownRow.shortTexts.isNone=true:=by kernel_rfl
theorem c25:Tryz.pinned.checked.prog.stopsHeard=true:=by kernel_rfl
theorem c26:Tryz.pinned.checked.prog.mayEnter=true:=by kernel_rfl
theorem c27:(Rows.topAuthorityDownRow.lifted==Tryz.pinned.checked.prog.liftsFinal)=true:=by kernel_rfl
theorem c28:(Tryz.pinned.checked.prog.make==some Rows.topAuthorityDownRow.make)=true:=by kernel_rfl
theorem c29:(Rows.topAuthorityDownRow.kinds==if Rows.topAuthorityDownRow.domain.isEmpty=true then[]else List.map (fun t=>match Tryz.pinned.checked.prog.underlying t with|some (TypeDesc.int k)=>some k|x=>none) Tryz.f5.params.toList)=true:=by kernel_rfl
theorem c30:(Rows.topAuthorityDownRow.pinned==Rows.topAuthorityDownRow.pinnedBy)=true:=by kernel_rfl
theorem c31:(Rows.topAuthorityDownRow.veiled==(Tryz.f5.params.toList++DataSpec.varTypes Tryz.pinned.checked.prog Rows.topAuthorityDownSpec.plain++Tryz.f5.resultTypes.toList).any fun x=>Tryz.pinned.checked.prog.veiledRec x)=true:=by kernel_rfl
theorem c32:Rows.topAuthorityDownRow.veiledFits Tryz.pinned.checked.prog Tryz.f5.params.toList (Tryz.f5.params.toList++DataSpec.varTypes Tryz.pinned.checked.prog Rows.topAuthorityDownSpec.plain++Tryz.f5.resultTypes.toList)=true:=by kernel_rfl
theorem closed:joinedFacts Tryz.pinned.checked.prog 5 Tryz.f5 Rows.topAuthorityDownSpec Rows.topAuthorityDownRow=true:=by unfold joinedFacts;simp only[Ar];exact⟨⟨⟨⟨⟨⟨⟨⟨⟨⟨⟨⟨⟨⟨⟨⟨⟨⟨⟨⟨⟨⟨⟨⟨⟨⟨⟨⟨⟨⟨⟨c1,c2⟩,c3⟩,c4⟩,c5⟩,c6⟩,c7⟩,c8⟩,c9⟩,c10⟩,c11⟩,c12⟩,c13⟩,c14⟩,c15⟩,c16⟩,c17⟩,c18⟩,c19⟩,c20⟩,c21⟩,c22⟩,c23⟩,c24⟩,c25⟩,c26⟩,c27⟩,c28⟩,c29⟩,c30⟩,c31⟩,c32⟩
theorem isNamed:Tryz.pinned.checked.prog.funcNamed Rows.topAuthorityDownRow.func=some 5:=by kernel_rfl
theorem inst:Tryz.f5.isInstance Tryz.pinned.checked.prog Rows.topAuthorityDownRow.origin Rows.topAuthorityDownRow.targs:=by first|exact DE (by kernel_rfl)|rfl
theorem wrapped:Tryz.f5.isWrapper Tryz.pinned.checked.prog Rows.topAuthorityDownRow.wrapper Rows.topAuthorityDownRow.mainSum:=by unfold Func.isWrapper;first|(rw[Ay (by decide+kernel)];kernel_rfl)|(rw[Aw (by decide+kernel)];exact⟨rfl,rfl⟩)
end Go.Proofs.YtnhbioehiiifdaaGreat.topAuthorityDown
