/- The statement WordParts: for every slot and any two numbers the law returns true, and its arguments read as they did. No condition. -/
import Derived.Test.YtnpjfdiapoghnaaRow
import Derived.Test.YtnpjfdiapoghnaaHead
import Derived.Test.YtnpjfdiapoghnaaLaw1h
namespace Go.Proofs.Ytnpjfdiapoghnaa.wordParts
open Go Go.RowKit Go.ChangeShapes Go.WideShapes Go.ChangeAt
set_option linter.unusedVariables false
set_option maxRecDepth 100000 in
theorem lifted (os : Os) (started : os.Started) (H : Type) (enc : TypeId × Value → H) :
    ReturnsInHanded {} Try.checked os 5 .any (Rows.wordPartsSpec.pre6 enc Try.prog Try.f5 Rows.wordPartsRow.domain false) (Rows.wordPartsSpec.post enc Try.prog Try.f5 false true false false) := by
  refine returnsInHanded_of_change (C := Try.checked) own started (by kernel_rfl) Try.func5
    (ChangeSpec.witness6 (enc := enc) (C := Try.checked) false ⟨#[], #[.agg #[.int .i64 0, .int .i64 0, .int .i64 0, .int .i64 0], .int .i64 0, .int .i64 0], []⟩ 8 (by kernel_rfl) (by kernel_rfl) (by kernel_rfl) (by kernel_rfl)) ?_
  intro W base args ds gs before hval0 hW _ _
  have hval : ∀ (j : Nat) t v, Try.f5.params[j]? = some t → args[j]? = some v → Value.okWide Try.prog W .any base t v := hval0
  have hW' := hW
  obtain ⟨p, q, hTry, hV, rfl, _, _⟩ := hW
  have hA : DataW.TrodAll enc Try.prog W 0 (fun _ => true) true Try.f5.params.toList args.toList ds p := hTry
  rw [Try.params5] at hA hval
  obtain ⟨v0, vs0, d0, ds0, p0, q0, hargs, rfl, rfl, h0, r0⟩ := trodAll_cons hA
  obtain ⟨v1, vs1, d1, ds1, p1, q1, rfl, rfl, rfl, h1, r1⟩ := trodAll_cons r0
  obtain ⟨v2, vs2, d2, ds2, p2, q2, rfl, rfl, rfl, h2, r2⟩ := trodAll_cons r1
  obtain ⟨rfl, rfl, rfl⟩ := trodAll_nil r2
  obtain rfl : args = #[v0, v1, v2] := by cases args; simp_all
  obtain ⟨rfl, rfl⟩ := trodVars_none hV
  have hlt : ∀ x ∈ p0 ++ (p1 ++ (p2 ++ [])), x.block < W.heap.size := fun x hx => hW'.lt x (List.mem_append_left _ hx)
  obtain ⟨a0, b0, c0, e0, rfl, wa0, wb0, wc0, we0⟩ := open_Slot (hval 0 33 v0 rfl rfl) h0
  have ba0 := bounds_i64 wa0
  have bb0 := bounds_i64 wb0
  have bc0 := bounds_i64 wc0
  have be0 := bounds_i64 we0
  obtain ⟨a1, rfl, _, _, wa1⟩ := open_int Try.underlying3 (hval 1 3 v1 rfl rfl) h1
  have ba1 := bounds_i64 wa1
  obtain ⟨a2, rfl, _, _, wa2⟩ := open_int Try.underlying3 (hval 2 3 v2 rfl rfl) h2
  have ba2 := bounds_i64 wa2
  refine (WordParts_any a0 b0 c0 e0 a1 a2 W (by omega) (by omega) (by omega) (by omega)).mono fun e W' ⟨he, bel⟩ => ?_
  subst he
  exact ⟨_, rfl, _, _, _, [], _, [], hW', trodAll_mk1 (shut_bool Try.underlying4 _), trodAll_stays Try.laidOut bel _ _ _ _ (by kernel_rfl) hA hlt, rfl, bel.frame _, fun h => by cases h⟩
theorem named : Try.checked.prog.funcNamed Rows.wordPartsRow.func = some 5 := by kernel_rfl
theorem inst : Try.f5.isInstance Try.prog Rows.wordPartsRow.origin Rows.wordPartsRow.targs := of_decide_eq_true (by kernel_rfl)
theorem wrap : Try.f5.isWrapper Try.prog Rows.wordPartsRow.wrapper Rows.wordPartsRow.mainSum := by unfold Func.isWrapper; first | (rw [if_pos (by decide +kernel)]; kernel_rfl) | (rw [if_neg (by decide +kernel)]; exact ⟨rfl, rfl⟩)
theorem k0 : (Rows.wordPartsRow.wf (OpenSpec.ofChange Rows.wordPartsSpec)) = true := by kernel_rfl
theorem k3 : (Try.f5.params.all (Try.checked.prog.readableRec ·)) = true := by kernel_rfl
theorem k4 : (namedTie Try.checked.prog Rows.wordPartsRow.named Rows.wordPartsSpec.vars) = true := by kernel_rfl
theorem k5 : ((Rows.wordPartsRow.stops == [])) = true := by kernel_rfl
theorem k7 : ((Rows.wordPartsRow.knobs == [])) = true := by kernel_rfl
theorem k9 : ((Rows.wordPartsRow.inPlace == Try.checked.prog.inPlace 5)) = true := by kernel_rfl
theorem k10 : ((Rows.wordPartsRow.unfollowed == Try.checked.prog.unfollowed 5)) = true := by kernel_rfl
theorem k11 : ((Rows.wordPartsRow.recurses == Try.checked.prog.recurses 5)) = true := by kernel_rfl
theorem k12 : ((Rows.wordPartsRow.named == Try.checked.prog.varsNamed 5)) = true := by kernel_rfl
theorem k13 : ((Rows.wordPartsRow.maps == (Try.f5.params.toList ++ Rows.wordPartsSpec.plain.varTypes Try.checked.prog).any (Try.checked.prog.mapsRec ·))) = true := by kernel_rfl
theorem k14 : ((Rows.wordPartsRow.ifaces == (Try.f5.params.toList ++ Rows.wordPartsSpec.plain.varTypes Try.checked.prog).any (Try.checked.prog.ifacesRec ·))) = true := by kernel_rfl
theorem k15 : ((Rows.wordPartsRow.mapsOut == Try.checked.prog.mapsAmong Try.f5.resultTypes.toList)) = true := by kernel_rfl
theorem k16 : ((Rows.wordPartsRow.loops == (Try.f5.params.toList ++ Rows.wordPartsSpec.plain.varTypes Try.checked.prog).any (Try.checked.prog.loopsFrom ·))) = true := by kernel_rfl
theorem k17 : ((Rows.wordPartsRow.wideKeys == (Try.f5.params.toList ++ Rows.wordPartsSpec.plain.varTypes Try.checked.prog ++ Try.f5.resultTypes.toList).any (Try.checked.prog.wideKeysFrom ·))) = true := by kernel_rfl
theorem k18 : (Rows.wordPartsSpec.vars.all (Try.checked.prog.varReadable ·)) = true := by kernel_rfl
theorem k19 : (Try.f5.resultTypes.all (fun t => Try.checked.prog.readableRec t && decide (t < Try.checked.prog.types.size))) = true := by kernel_rfl
theorem k20 : ((Rows.wordPartsRow.ifacesOut == Try.f5.resultTypes.toList.any (Try.checked.prog.ifacesRec ·))) = true := by kernel_rfl
theorem k21 : ((Rows.wordPartsRow.loopsOut == Try.f5.resultTypes.toList.any (Try.checked.prog.loopsFrom ·))) = true := by kernel_rfl
theorem k22 : ((Rows.wordPartsRow.plainKeys == Try.checked.prog.plainKeys)) = true := by kernel_rfl
theorem k23 : (Rows.wordPartsRow.shortTexts.isNone) = true := by kernel_rfl
theorem k26 : (Rows.wordPartsRow.lifted == Try.checked.prog.liftsFinal) = true := by rw [p_liftsFinal]; kernel_rfl
theorem k27 : (Try.checked.prog.make == some Rows.wordPartsRow.make) = true := by rw [p_make]; kernel_rfl
theorem k28 : ((Rows.wordPartsRow.kinds == (if Rows.wordPartsRow.domain.isEmpty then [] else Try.f5.params.toList.map fun t => match Try.checked.prog.underlying t with | some (.int k) => some k | _ => none))) = true := by kernel_rfl
theorem k29 : ((Rows.wordPartsRow.pinned == Rows.wordPartsRow.pinnedBy)) = true := by kernel_rfl
theorem k30 : ((Rows.wordPartsRow.veiled == (Try.f5.params.toList ++ Rows.wordPartsSpec.plain.varTypes Try.checked.prog ++ Try.f5.resultTypes.toList).any (Try.checked.prog.veiledRec ·))) = true := by kernel_rfl
theorem k31 : (Rows.wordPartsRow.veiledFits Try.checked.prog Try.f5.params.toList (Try.f5.params.toList ++ Rows.wordPartsSpec.plain.varTypes Try.checked.prog ++ Try.f5.resultTypes.toList)) = true := by kernel_rfl
set_option maxRecDepth 100000 in
theorem facts : joinedFacts Try.checked.prog 5 Try.f5 Rows.wordPartsSpec Rows.wordPartsRow = true := by
  unfold joinedFacts
  exact and2 (and2 (and2 (and2 (and2 (and2 (and2 (and2 (and2 (and2 (and2 (and2 (and2 (and2 (and2 (and2 (and2 (and2 (and2 (and2 (and2 (and2 (and2 (and2 (and2 (and2 (and2 (and2 (and2 (and2 (and2 (k0) Try.laidOut) p_mapsRowed) k3) k4) k5) p_stops) k7) p_stopKnobs) k9) k10) k11) k12) k13) k14) k15) k16) k17) k18) k19) k20) k21) k22) k23) p_stopsHeard) p_mayEnter) k26) k27) k28) k29) k30) k31
theorem over : Rows.wordPartsRow.holds Try.pinned (OpenSpec.ofChange Rows.wordPartsSpec) :=
  OpenClaim.holds_of_wide 5 Try.f5 rfl rfl rfl rfl rfl rfl rfl ⟨rfl, rfl, rfl, rfl, rfl⟩ rfl rfl rfl rfl rfl named Try.func5 facts inst wrap
    (fun os started H enc _ => lifted os started H enc)
theorem proved : Rows.WordPartsSaid := over
end Go.Proofs.Ytnpjfdiapoghnaa.wordParts
namespace Go.Proofs.Ytnpjfdiapoghnaa
theorem wordParts_holds : Rows.WordPartsSaid := wordParts.proved
#print axioms wordParts_holds
end Go.Proofs.Ytnpjfdiapoghnaa
