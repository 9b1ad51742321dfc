/- The statement WordLives: for any two handles the law returns true, and its arguments read as they did. No condition. -/
import Derived.Test.YtnpjfdiapoghnaaRow
import Derived.Test.YtnpjfdiapoghnaaHead
import Derived.Test.YtnpjfdiapoghnaaLaw1f
namespace Go.Proofs.Ytnpjfdiapoghnaa.wordLives
open Go Go.RowKit Go.ChangeShapes Go.WideShapes Go.ChangeAt
set_option linter.unusedVariables false
set_option maxRecDepth 100000 in
theorem lifted (os : Os) (started : os.Started) (H : Type) (enc : TypeId × Value → H) :
    ReturnsInHanded {} Try.checked os 6 .any (Rows.wordLivesSpec.pre6 enc Try.prog Try.f6 Rows.wordLivesRow.domain false) (Rows.wordLivesSpec.post enc Try.prog Try.f6 false true false false) := by
  refine returnsInHanded_of_change (C := Try.checked) own started (by kernel_rfl) Try.func6
    (ChangeSpec.witness6 (enc := enc) (C := Try.checked) false ⟨#[], #[.agg #[.int .i64 0, .int .i64 0], .agg #[.int .i64 0, .int .i64 0]], []⟩ 8 (by kernel_rfl) (by kernel_rfl) (by kernel_rfl) (by kernel_rfl)) ?_
  intro W base args ds gs before hval0 hW _ _
  have hval : ∀ (j : Nat) t v, Try.f6.params[j]? = some t → args[j]? = some v → Value.okWide Try.prog W .any base t v := hval0
  have hW' := hW
  obtain ⟨p, q, hTry, hV, rfl, _, _⟩ := hW
  have hA : DataW.TrodAll enc Try.prog W 0 (fun _ => true) true Try.f6.params.toList args.toList ds p := hTry
  rw [Try.params6] at hA hval
  obtain ⟨v0, vs0, d0, ds0, p0, q0, hargs, rfl, rfl, h0, r0⟩ := trodAll_cons hA
  obtain ⟨v1, vs1, d1, ds1, p1, q1, rfl, rfl, rfl, h1, r1⟩ := trodAll_cons r0
  obtain ⟨rfl, rfl, rfl⟩ := trodAll_nil r1
  obtain rfl : args = #[v0, v1] := by cases args; simp_all
  obtain ⟨rfl, rfl⟩ := trodVars_none hV
  have hlt : ∀ x ∈ p0 ++ (p1 ++ []), x.block < W.heap.size := fun x hx => hW'.lt x (List.mem_append_left _ hx)
  obtain ⟨a0, b0, rfl, wa0, wb0⟩ := open_Handle (hval 0 23 v0 rfl rfl) h0
  have ba0 := bounds_i64 wa0
  have bb0 := bounds_i64 wb0
  obtain ⟨a1, b1, rfl, wa1, wb1⟩ := open_Handle (hval 1 23 v1 rfl rfl) h1
  have ba1 := bounds_i64 wa1
  have bb1 := bounds_i64 wb1
  refine (WordLives_any a0 b0 a1 b1 W).mono fun e W' ⟨he, bel⟩ => ?_
  subst he
  exact ⟨_, rfl, _, _, _, [], _, [], hW', trodAll_mk1 (shut_bool Try.underlying4 _), trodAll_stays Try.laidOut bel _ _ _ _ (by kernel_rfl) hA hlt, rfl, bel.frame _, fun h => by cases h⟩
theorem named : Try.checked.prog.funcNamed Rows.wordLivesRow.func = some 6 := by kernel_rfl
theorem inst : Try.f6.isInstance Try.prog Rows.wordLivesRow.origin Rows.wordLivesRow.targs := of_decide_eq_true (by kernel_rfl)
theorem wrap : Try.f6.isWrapper Try.prog Rows.wordLivesRow.wrapper Rows.wordLivesRow.mainSum := by unfold Func.isWrapper; first | (rw [if_pos (by decide +kernel)]; kernel_rfl) | (rw [if_neg (by decide +kernel)]; exact ⟨rfl, rfl⟩)
theorem k0 : (Rows.wordLivesRow.wf (OpenSpec.ofChange Rows.wordLivesSpec)) = true := by kernel_rfl
theorem k3 : (Try.f6.params.all (Try.checked.prog.readableRec ·)) = true := by kernel_rfl
theorem k4 : (namedTie Try.checked.prog Rows.wordLivesRow.named Rows.wordLivesSpec.vars) = true := by kernel_rfl
theorem k5 : ((Rows.wordLivesRow.stops == [])) = true := by kernel_rfl
theorem k7 : ((Rows.wordLivesRow.knobs == [])) = true := by kernel_rfl
theorem k9 : ((Rows.wordLivesRow.inPlace == Try.checked.prog.inPlace 6)) = true := by kernel_rfl
theorem k10 : ((Rows.wordLivesRow.unfollowed == Try.checked.prog.unfollowed 6)) = true := by kernel_rfl
theorem k11 : ((Rows.wordLivesRow.recurses == Try.checked.prog.recurses 6)) = true := by kernel_rfl
theorem k12 : ((Rows.wordLivesRow.named == Try.checked.prog.varsNamed 6)) = true := by kernel_rfl
theorem k13 : ((Rows.wordLivesRow.maps == (Try.f6.params.toList ++ Rows.wordLivesSpec.plain.varTypes Try.checked.prog).any (Try.checked.prog.mapsRec ·))) = true := by kernel_rfl
theorem k14 : ((Rows.wordLivesRow.ifaces == (Try.f6.params.toList ++ Rows.wordLivesSpec.plain.varTypes Try.checked.prog).any (Try.checked.prog.ifacesRec ·))) = true := by kernel_rfl
theorem k15 : ((Rows.wordLivesRow.mapsOut == Try.checked.prog.mapsAmong Try.f6.resultTypes.toList)) = true := by kernel_rfl
theorem k16 : ((Rows.wordLivesRow.loops == (Try.f6.params.toList ++ Rows.wordLivesSpec.plain.varTypes Try.checked.prog).any (Try.checked.prog.loopsFrom ·))) = true := by kernel_rfl
theorem k17 : ((Rows.wordLivesRow.wideKeys == (Try.f6.params.toList ++ Rows.wordLivesSpec.plain.varTypes Try.checked.prog ++ Try.f6.resultTypes.toList).any (Try.checked.prog.wideKeysFrom ·))) = true := by kernel_rfl
theorem k18 : (Rows.wordLivesSpec.vars.all (Try.checked.prog.varReadable ·)) = true := by kernel_rfl
theorem k19 : (Try.f6.resultTypes.all (fun t => Try.checked.prog.readableRec t && decide (t < Try.checked.prog.types.size))) = true := by kernel_rfl
theorem k20 : ((Rows.wordLivesRow.ifacesOut == Try.f6.resultTypes.toList.any (Try.checked.prog.ifacesRec ·))) = true := by kernel_rfl
theorem k21 : ((Rows.wordLivesRow.loopsOut == Try.f6.resultTypes.toList.any (Try.checked.prog.loopsFrom ·))) = true := by kernel_rfl
theorem k22 : ((Rows.wordLivesRow.plainKeys == Try.checked.prog.plainKeys)) = true := by kernel_rfl
theorem k23 : (Rows.wordLivesRow.shortTexts.isNone) = true := by kernel_rfl
theorem k26 : (Rows.wordLivesRow.lifted == Try.checked.prog.liftsFinal) = true := by rw [p_liftsFinal]; kernel_rfl
theorem k27 : (Try.checked.prog.make == some Rows.wordLivesRow.make) = true := by rw [p_make]; kernel_rfl
theorem k28 : ((Rows.wordLivesRow.kinds == (if Rows.wordLivesRow.domain.isEmpty then [] else Try.f6.params.toList.map fun t => match Try.checked.prog.underlying t with | some (.int k) => some k | _ => none))) = true := by kernel_rfl
theorem k29 : ((Rows.wordLivesRow.pinned == Rows.wordLivesRow.pinnedBy)) = true := by kernel_rfl
theorem k30 : ((Rows.wordLivesRow.veiled == (Try.f6.params.toList ++ Rows.wordLivesSpec.plain.varTypes Try.checked.prog ++ Try.f6.resultTypes.toList).any (Try.checked.prog.veiledRec ·))) = true := by kernel_rfl
theorem k31 : (Rows.wordLivesRow.veiledFits Try.checked.prog Try.f6.params.toList (Try.f6.params.toList ++ Rows.wordLivesSpec.plain.varTypes Try.checked.prog ++ Try.f6.resultTypes.toList)) = true := by kernel_rfl
set_option maxRecDepth 100000 in
theorem facts : joinedFacts Try.checked.prog 6 Try.f6 Rows.wordLivesSpec Rows.wordLivesRow = true := by
  unfold joinedFacts
  exact and2 (and2 (and2 (and2 (and2 (and2 (and2 (and2 (and2 (and2 (and2 (and2 (and2 (and2 (and2 (and2 (and2 (and2 (and2 (and2 (and2 (and2 (and2 (and2 (and2 (and2 (and2 (and2 (and2 (and2 (and2 (k0) Try.laidOut) p_mapsRowed) k3) k4) k5) p_stops) k7) p_stopKnobs) k9) k10) k11) k12) k13) k14) k15) k16) k17) k18) k19) k20) k21) k22) k23) p_stopsHeard) p_mayEnter) k26) k27) k28) k29) k30) k31
theorem over : Rows.wordLivesRow.holds Try.pinned (OpenSpec.ofChange Rows.wordLivesSpec) :=
  OpenClaim.holds_of_wide 6 Try.f6 rfl rfl rfl rfl rfl rfl rfl ⟨rfl, rfl, rfl, rfl, rfl⟩ rfl rfl rfl rfl rfl named Try.func6 facts inst wrap
    (fun os started H enc _ => lifted os started H enc)
theorem proved : Rows.WordLivesSaid := over
end Go.Proofs.Ytnpjfdiapoghnaa.wordLives
namespace Go.Proofs.Ytnpjfdiapoghnaa
theorem wordLives_holds : Rows.WordLivesSaid := wordLives.proved
#print axioms wordLives_holds
end Go.Proofs.Ytnpjfdiapoghnaa
