/- The statement EpochPinned: for every number and every list of truth values the law returns true, and its arguments read as they did. No condition. -/
import Derived.Test.YtnpjfdiapoghnaaRow
import Derived.Test.YtnpjfdiapoghnaaHead
import Derived.Test.YtnpjfdiapoghnaaRow2
import Derived.Test.YtnpjfdiapoghnaaLaw13e
namespace Go.Proofs.Ytnpjfdiapoghnaa.epochPinned
open Go Go.RowKit Go.ChangeShapes Go.WideShapes Go.ChangeAt
set_option linter.unusedVariables false
set_option maxRecDepth 100000 in
theorem lifted (os : Os) (started : os.Started) (H : Type) (enc : TypeId × Value → H) :
    ReturnsInHanded {} Try.checked os 22 .any (Rows.epochPinnedSpec.pre6 enc Try.prog Try.f22 Rows.epochPinnedRow.domain false) (Rows.epochPinnedSpec.post enc Try.prog Try.f22 false true false false) := by
  refine returnsInHanded_of_change (C := Try.checked) own started (by kernel_rfl) Try.func22
    (ChangeSpec.witness6 (enc := enc) (C := Try.checked) false ⟨#[], #[.int .i64 0, .slice none 0 0], []⟩ 8 (by kernel_rfl) (by kernel_rfl) (by kernel_rfl) (by kernel_rfl)) ?_
  intro W base args ds gs before hval0 hW _ _
  have hval : ∀ (j : Nat) t v, Try.f22.params[j]? = some t → args[j]? = some v → Value.okWide Try.prog W .any base t v := hval0
  have hW' := hW
  obtain ⟨p, q, hTry, hV, rfl, _, _⟩ := hW
  have hA : DataW.TrodAll enc Try.prog W 0 (fun _ => true) true Try.f22.params.toList args.toList ds p := hTry
  rw [Try.params22] at hA hval
  obtain ⟨v0, vs0, d0, ds0, p0, q0, hargs, rfl, rfl, h0, r0⟩ := trodAll_cons hA
  obtain ⟨v1, vs1, d1, ds1, p1, q1, rfl, rfl, rfl, h1, r1⟩ := trodAll_cons r0
  obtain ⟨rfl, rfl, rfl⟩ := trodAll_nil r1
  obtain rfl : args = #[v0, v1] := by cases args; simp_all
  obtain ⟨rfl, rfl⟩ := trodVars_none hV
  have hlt : ∀ x ∈ p0 ++ (p1 ++ []), x.block < W.heap.size := fun x hx => hW'.lt x (List.mem_append_left _ hx)
  obtain ⟨a0, rfl, _, _, wa0⟩ := open_int Try.underlying3 (hval 0 3 v0 rfl rfl) h0
  have ba0 := bounds_i64 wa0
  obtain ⟨A_1, m1, c1, l1, rfl, wl1, ww1⟩ := open_bools W (hval 1 96 v1 rfl rfl) h1
  refine (EpochPinned_any a0 A_1 m1 c1 l1 W wl1).mono fun e W' ⟨he, bel⟩ => ?_
  subst he
  exact ⟨_, rfl, _, _, _, [], _, [], hW', trodAll_mk1 (shut_bool Try.underlying4 _), trodAll_stays Try.laidOut bel _ _ _ _ (by kernel_rfl) hA hlt, rfl, bel.frame _, fun h => by cases h⟩
theorem named : Try.checked.prog.funcNamed Rows.epochPinnedRow.func = some 22 := by kernel_rfl
theorem inst : Try.f22.isInstance Try.prog Rows.epochPinnedRow.origin Rows.epochPinnedRow.targs := of_decide_eq_true (by kernel_rfl)
theorem wrap : Try.f22.isWrapper Try.prog Rows.epochPinnedRow.wrapper Rows.epochPinnedRow.mainSum := by unfold Func.isWrapper; first | (rw [if_pos (by decide +kernel)]; kernel_rfl) | (rw [if_neg (by decide +kernel)]; exact ⟨rfl, rfl⟩)
theorem k0 : (Rows.epochPinnedRow.wf (OpenSpec.ofChange Rows.epochPinnedSpec)) = true := by kernel_rfl
theorem k3 : (Try.f22.params.all (Try.checked.prog.readableRec ·)) = true := by kernel_rfl
theorem k4 : (namedTie Try.checked.prog Rows.epochPinnedRow.named Rows.epochPinnedSpec.vars) = true := by kernel_rfl
theorem k5 : ((Rows.epochPinnedRow.stops == [])) = true := by kernel_rfl
theorem k7 : ((Rows.epochPinnedRow.knobs == [])) = true := by kernel_rfl
theorem k9 : ((Rows.epochPinnedRow.inPlace == Try.checked.prog.inPlace 22)) = true := by kernel_rfl
theorem k10 : ((Rows.epochPinnedRow.unfollowed == Try.checked.prog.unfollowed 22)) = true := by kernel_rfl
theorem k11 : ((Rows.epochPinnedRow.recurses == Try.checked.prog.recurses 22)) = true := by kernel_rfl
theorem k12 : ((Rows.epochPinnedRow.named == Try.checked.prog.varsNamed 22)) = true := by kernel_rfl
theorem k13 : ((Rows.epochPinnedRow.maps == (Try.f22.params.toList ++ Rows.epochPinnedSpec.plain.varTypes Try.checked.prog).any (Try.checked.prog.mapsRec ·))) = true := by kernel_rfl
theorem k14 : ((Rows.epochPinnedRow.ifaces == (Try.f22.params.toList ++ Rows.epochPinnedSpec.plain.varTypes Try.checked.prog).any (Try.checked.prog.ifacesRec ·))) = true := by kernel_rfl
theorem k15 : ((Rows.epochPinnedRow.mapsOut == Try.checked.prog.mapsAmong Try.f22.resultTypes.toList)) = true := by kernel_rfl
theorem k16 : ((Rows.epochPinnedRow.loops == (Try.f22.params.toList ++ Rows.epochPinnedSpec.plain.varTypes Try.checked.prog).any (Try.checked.prog.loopsFrom ·))) = true := by kernel_rfl
theorem k17 : ((Rows.epochPinnedRow.wideKeys == (Try.f22.params.toList ++ Rows.epochPinnedSpec.plain.varTypes Try.checked.prog ++ Try.f22.resultTypes.toList).any (Try.checked.prog.wideKeysFrom ·))) = true := by kernel_rfl
theorem k18 : (Rows.epochPinnedSpec.vars.all (Try.checked.prog.varReadable ·)) = true := by kernel_rfl
theorem k19 : (Try.f22.resultTypes.all (fun t => Try.checked.prog.readableRec t && decide (t < Try.checked.prog.types.size))) = true := by kernel_rfl
theorem k20 : ((Rows.epochPinnedRow.ifacesOut == Try.f22.resultTypes.toList.any (Try.checked.prog.ifacesRec ·))) = true := by kernel_rfl
theorem k21 : ((Rows.epochPinnedRow.loopsOut == Try.f22.resultTypes.toList.any (Try.checked.prog.loopsFrom ·))) = true := by kernel_rfl
theorem k22 : ((Rows.epochPinnedRow.plainKeys == Try.checked.prog.plainKeys)) = true := by kernel_rfl
theorem k23 : (Rows.epochPinnedRow.shortTexts.isNone) = true := by kernel_rfl
theorem k26 : (Rows.epochPinnedRow.lifted == Try.checked.prog.liftsFinal) = true := by rw [p_liftsFinal]; kernel_rfl
theorem k27 : (Try.checked.prog.make == some Rows.epochPinnedRow.make) = true := by rw [p_make]; kernel_rfl
theorem k28 : ((Rows.epochPinnedRow.kinds == (if Rows.epochPinnedRow.domain.isEmpty then [] else Try.f22.params.toList.map fun t => match Try.checked.prog.underlying t with | some (.int k) => some k | _ => none))) = true := by kernel_rfl
theorem k29 : ((Rows.epochPinnedRow.pinned == Rows.epochPinnedRow.pinnedBy)) = true := by kernel_rfl
theorem k30 : ((Rows.epochPinnedRow.veiled == (Try.f22.params.toList ++ Rows.epochPinnedSpec.plain.varTypes Try.checked.prog ++ Try.f22.resultTypes.toList).any (Try.checked.prog.veiledRec ·))) = true := by kernel_rfl
theorem k31 : (Rows.epochPinnedRow.veiledFits Try.checked.prog Try.f22.params.toList (Try.f22.params.toList ++ Rows.epochPinnedSpec.plain.varTypes Try.checked.prog ++ Try.f22.resultTypes.toList)) = true := by kernel_rfl
set_option maxRecDepth 100000 in
theorem facts : joinedFacts Try.checked.prog 22 Try.f22 Rows.epochPinnedSpec Rows.epochPinnedRow = true := by
  unfold joinedFacts
  exact and2 (and2 (and2 (and2 (and2 (and2 (and2 (and2 (and2 (and2 (and2 (and2 (and2 (and2 (and2 (and2 (and2 (and2 (and2 (and2 (and2 (and2 (and2 (and2 (and2 (and2 (and2 (and2 (and2 (and2 (and2 (k0) Try.laidOut) p_mapsRowed) k3) k4) k5) p_stops) k7) p_stopKnobs) k9) k10) k11) k12) k13) k14) k15) k16) k17) k18) k19) k20) k21) k22) k23) p_stopsHeard) p_mayEnter) k26) k27) k28) k29) k30) k31
theorem over : Rows.epochPinnedRow.holds Try.pinned (OpenSpec.ofChange Rows.epochPinnedSpec) :=
  OpenClaim.holds_of_wide 22 Try.f22 rfl rfl rfl rfl rfl rfl rfl ⟨rfl, rfl, rfl, rfl, rfl⟩ rfl rfl rfl rfl rfl named Try.func22 facts inst wrap
    (fun os started H enc _ => lifted os started H enc)
theorem proved : Rows.EpochPinnedSaid := over
end Go.Proofs.Ytnpjfdiapoghnaa.epochPinned
namespace Go.Proofs.Ytnpjfdiapoghnaa
theorem epochPinned_holds : Rows.EpochPinnedSaid := epochPinned.proved
#print axioms epochPinned_holds
end Go.Proofs.Ytnpjfdiapoghnaa
