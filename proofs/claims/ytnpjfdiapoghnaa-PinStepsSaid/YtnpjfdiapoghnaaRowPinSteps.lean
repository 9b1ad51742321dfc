/- The statement PinSteps: for every list of truth values the law returns true, and its argument reads as it did. No condition. -/
import Derived.Test.YtnpjfdiapoghnaaRow
import Derived.Test.YtnpjfdiapoghnaaHead
import Derived.Test.YtnpjfdiapoghnaaRow2
import Derived.Test.YtnpjfdiapoghnaaLaw5c
namespace Go.Proofs.Ytnpjfdiapoghnaa.pinSteps
open Go Go.RowKit Go.ChangeShapes Go.WideShapes Go.ChangeAt
set_option linter.unusedVariables false
set_option maxRecDepth 100000 in
theorem lifted (os : Os) (started : os.Started) (H : Type) (enc : TypeId × Value → H) :
    ReturnsInHanded {} Try.checked os 20 .any (Rows.pinStepsSpec.pre6 enc Try.prog Try.f20 Rows.pinStepsRow.domain false) (Rows.pinStepsSpec.post enc Try.prog Try.f20 false true false false) := by
  refine returnsInHanded_of_change (C := Try.checked) own started (by kernel_rfl) Try.func20
    (ChangeSpec.witness6 (enc := enc) (C := Try.checked) false ⟨#[], #[.slice none 0 0], []⟩ 8 (by kernel_rfl) (by kernel_rfl) (by kernel_rfl) (by kernel_rfl)) ?_
  intro W base args ds gs before hval0 hW _ _
  have hval : ∀ (j : Nat) t v, Try.f20.params[j]? = some t → args[j]? = some v → Value.okWide Try.prog W .any base t v := hval0
  have hW' := hW
  obtain ⟨p, q, hTry, hV, rfl, _, _⟩ := hW
  have hA : DataW.TrodAll enc Try.prog W 0 (fun _ => true) true Try.f20.params.toList args.toList ds p := hTry
  rw [Try.params20] at hA hval
  obtain ⟨v0, vs0, d0, ds0, p0, q0, hargs, rfl, rfl, h0, r0⟩ := trodAll_cons hA
  obtain ⟨rfl, rfl, rfl⟩ := trodAll_nil r0
  obtain rfl : args = #[v0] := by cases args; simp_all
  obtain ⟨rfl, rfl⟩ := trodVars_none hV
  have hlt : ∀ x ∈ p0 ++ [], x.block < W.heap.size := fun x hx => hW'.lt x (List.mem_append_left _ hx)
  obtain ⟨A_0, m0, c0, l0, rfl, wl0, ww0⟩ := open_bools W (hval 0 96 v0 rfl rfl) h0
  refine (PinSteps_any A_0 m0 c0 l0 W wl0).mono fun e W' ⟨he, bel⟩ => ?_
  subst he
  exact ⟨_, rfl, _, _, _, [], _, [], hW', trodAll_mk1 (shut_bool Try.underlying4 _), trodAll_stays Try.laidOut bel _ _ _ _ (by kernel_rfl) hA hlt, rfl, bel.frame _, fun h => by cases h⟩
theorem named : Try.checked.prog.funcNamed Rows.pinStepsRow.func = some 20 := by kernel_rfl
theorem inst : Try.f20.isInstance Try.prog Rows.pinStepsRow.origin Rows.pinStepsRow.targs := of_decide_eq_true (by kernel_rfl)
theorem wrap : Try.f20.isWrapper Try.prog Rows.pinStepsRow.wrapper Rows.pinStepsRow.mainSum := by unfold Func.isWrapper; first | (rw [if_pos (by decide +kernel)]; kernel_rfl) | (rw [if_neg (by decide +kernel)]; exact ⟨rfl, rfl⟩)
theorem k0 : (Rows.pinStepsRow.wf (OpenSpec.ofChange Rows.pinStepsSpec)) = true := by kernel_rfl
theorem k3 : (Try.f20.params.all (Try.checked.prog.readableRec ·)) = true := by kernel_rfl
theorem k4 : (namedTie Try.checked.prog Rows.pinStepsRow.named Rows.pinStepsSpec.vars) = true := by kernel_rfl
theorem k5 : ((Rows.pinStepsRow.stops == [])) = true := by kernel_rfl
theorem k7 : ((Rows.pinStepsRow.knobs == [])) = true := by kernel_rfl
theorem k9 : ((Rows.pinStepsRow.inPlace == Try.checked.prog.inPlace 20)) = true := by kernel_rfl
theorem k10 : ((Rows.pinStepsRow.unfollowed == Try.checked.prog.unfollowed 20)) = true := by kernel_rfl
theorem k11 : ((Rows.pinStepsRow.recurses == Try.checked.prog.recurses 20)) = true := by kernel_rfl
theorem k12 : ((Rows.pinStepsRow.named == Try.checked.prog.varsNamed 20)) = true := by kernel_rfl
theorem k13 : ((Rows.pinStepsRow.maps == (Try.f20.params.toList ++ Rows.pinStepsSpec.plain.varTypes Try.checked.prog).any (Try.checked.prog.mapsRec ·))) = true := by kernel_rfl
theorem k14 : ((Rows.pinStepsRow.ifaces == (Try.f20.params.toList ++ Rows.pinStepsSpec.plain.varTypes Try.checked.prog).any (Try.checked.prog.ifacesRec ·))) = true := by kernel_rfl
theorem k15 : ((Rows.pinStepsRow.mapsOut == Try.checked.prog.mapsAmong Try.f20.resultTypes.toList)) = true := by kernel_rfl
theorem k16 : ((Rows.pinStepsRow.loops == (Try.f20.params.toList ++ Rows.pinStepsSpec.plain.varTypes Try.checked.prog).any (Try.checked.prog.loopsFrom ·))) = true := by kernel_rfl
theorem k17 : ((Rows.pinStepsRow.wideKeys == (Try.f20.params.toList ++ Rows.pinStepsSpec.plain.varTypes Try.checked.prog ++ Try.f20.resultTypes.toList).any (Try.checked.prog.wideKeysFrom ·))) = true := by kernel_rfl
theorem k18 : (Rows.pinStepsSpec.vars.all (Try.checked.prog.varReadable ·)) = true := by kernel_rfl
theorem k19 : (Try.f20.resultTypes.all (fun t => Try.checked.prog.readableRec t && decide (t < Try.checked.prog.types.size))) = true := by kernel_rfl
theorem k20 : ((Rows.pinStepsRow.ifacesOut == Try.f20.resultTypes.toList.any (Try.checked.prog.ifacesRec ·))) = true := by kernel_rfl
theorem k21 : ((Rows.pinStepsRow.loopsOut == Try.f20.resultTypes.toList.any (Try.checked.prog.loopsFrom ·))) = true := by kernel_rfl
theorem k22 : ((Rows.pinStepsRow.plainKeys == Try.checked.prog.plainKeys)) = true := by kernel_rfl
theorem k23 : (Rows.pinStepsRow.shortTexts.isNone) = true := by kernel_rfl
theorem k26 : (Rows.pinStepsRow.lifted == Try.checked.prog.liftsFinal) = true := by rw [p_liftsFinal]; kernel_rfl
theorem k27 : (Try.checked.prog.make == some Rows.pinStepsRow.make) = true := by rw [p_make]; kernel_rfl
theorem k28 : ((Rows.pinStepsRow.kinds == (if Rows.pinStepsRow.domain.isEmpty then [] else Try.f20.params.toList.map fun t => match Try.checked.prog.underlying t with | some (.int k) => some k | _ => none))) = true := by kernel_rfl
theorem k29 : ((Rows.pinStepsRow.pinned == Rows.pinStepsRow.pinnedBy)) = true := by kernel_rfl
theorem k30 : ((Rows.pinStepsRow.veiled == (Try.f20.params.toList ++ Rows.pinStepsSpec.plain.varTypes Try.checked.prog ++ Try.f20.resultTypes.toList).any (Try.checked.prog.veiledRec ·))) = true := by kernel_rfl
theorem k31 : (Rows.pinStepsRow.veiledFits Try.checked.prog Try.f20.params.toList (Try.f20.params.toList ++ Rows.pinStepsSpec.plain.varTypes Try.checked.prog ++ Try.f20.resultTypes.toList)) = true := by kernel_rfl
set_option maxRecDepth 100000 in
theorem facts : joinedFacts Try.checked.prog 20 Try.f20 Rows.pinStepsSpec Rows.pinStepsRow = true := by
  unfold joinedFacts
  exact and2 (and2 (and2 (and2 (and2 (and2 (and2 (and2 (and2 (and2 (and2 (and2 (and2 (and2 (and2 (and2 (and2 (and2 (and2 (and2 (and2 (and2 (and2 (and2 (and2 (and2 (and2 (and2 (and2 (and2 (and2 (k0) Try.laidOut) p_mapsRowed) k3) k4) k5) p_stops) k7) p_stopKnobs) k9) k10) k11) k12) k13) k14) k15) k16) k17) k18) k19) k20) k21) k22) k23) p_stopsHeard) p_mayEnter) k26) k27) k28) k29) k30) k31
theorem over : Rows.pinStepsRow.holds Try.pinned (OpenSpec.ofChange Rows.pinStepsSpec) :=
  OpenClaim.holds_of_wide 20 Try.f20 rfl rfl rfl rfl rfl rfl rfl ⟨rfl, rfl, rfl, rfl, rfl⟩ rfl rfl rfl rfl rfl named Try.func20 facts inst wrap
    (fun os started H enc _ => lifted os started H enc)
theorem proved : Rows.PinStepsSaid := over
end Go.Proofs.Ytnpjfdiapoghnaa.pinSteps
namespace Go.Proofs.Ytnpjfdiapoghnaa
theorem pinSteps_holds : Rows.PinStepsSaid := pinSteps.proved
#print axioms pinSteps_holds
end Go.Proofs.Ytnpjfdiapoghnaa
