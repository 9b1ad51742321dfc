/- The statement WordCells: for every cell and every word the law returns true, and its arguments read as they did. No condition. -/
import Derived.Test.YtnpjfdiapoghnaaRow
import Derived.Test.YtnpjfdiapoghnaaHead
import Derived.Test.YtnpjfdiapoghnaaLaw1d
namespace Go.Proofs.Ytnpjfdiapoghnaa.wordCells
open Go Go.RowKit Go.ChangeShapes Go.WideShapes Go.ChangeAt
set_option linter.unusedVariables false
set_option maxRecDepth 100000 in
theorem lifted (os : Os) (started : os.Started) (H : Type) (enc : TypeId × Value → H) :
    ReturnsInHanded {} Try.checked os 11 .any (Rows.wordCellsSpec.pre6 enc Try.prog Try.f11 Rows.wordCellsRow.domain false) (Rows.wordCellsSpec.post enc Try.prog Try.f11 false true false false) := by
  refine returnsInHanded_of_change (C := Try.checked) own started (by kernel_rfl) Try.func11
    (ChangeSpec.witness6 (enc := enc) (C := Try.checked) false ⟨#[], #[.agg #[.int .i64 0, .bool false, .int .i64 0], .int .u64 0], []⟩ 8 (by kernel_rfl) (by kernel_rfl) (by kernel_rfl) (by kernel_rfl)) ?_
  intro W base args ds gs before hval0 hW _ _
  have hval : ∀ (j : Nat) t v, Try.f11.params[j]? = some t → args[j]? = some v → Value.okWide Try.prog W .any base t v := hval0
  have hW' := hW
  obtain ⟨p, q, hTry, hV, rfl, _, _⟩ := hW
  have hA : DataW.TrodAll enc Try.prog W 0 (fun _ => true) true Try.f11.params.toList args.toList ds p := hTry
  rw [Try.params11] at hA hval
  obtain ⟨v0, vs0, d0, ds0, p0, q0, hargs, rfl, rfl, h0, r0⟩ := trodAll_cons hA
  obtain ⟨v1, vs1, d1, ds1, p1, q1, rfl, rfl, rfl, h1, r1⟩ := trodAll_cons r0
  obtain ⟨rfl, rfl, rfl⟩ := trodAll_nil r1
  obtain rfl : args = #[v0, v1] := by cases args; simp_all
  obtain ⟨rfl, rfl⟩ := trodVars_none hV
  have hlt : ∀ x ∈ p0 ++ (p1 ++ []), x.block < W.heap.size := fun x hx => hW'.lt x (List.mem_append_left _ hx)
  obtain ⟨a0, f0, c0, rfl, wa0, wc0⟩ := open_Cell (hval 0 57 v0 rfl rfl) h0
  have ba0 := bounds_i64 wa0
  have bc0 := bounds_i64 wc0
  obtain ⟨a1, rfl, _, _, wa1⟩ := open_int Try.underlying24 (hval 1 24 v1 rfl rfl) h1
  have ba1 := bounds_u64 wa1
  refine (WordCells_any a0 f0 c0 a1 W (by omega) (by omega) (by omega) (by omega)).mono fun e W' ⟨he, bel⟩ => ?_
  subst he
  exact ⟨_, rfl, _, _, _, [], _, [], hW', trodAll_mk1 (shut_bool Try.underlying4 _), trodAll_stays Try.laidOut bel _ _ _ _ (by kernel_rfl) hA hlt, rfl, bel.frame _, fun h => by cases h⟩
theorem named : Try.checked.prog.funcNamed Rows.wordCellsRow.func = some 11 := by kernel_rfl
theorem inst : Try.f11.isInstance Try.prog Rows.wordCellsRow.origin Rows.wordCellsRow.targs := of_decide_eq_true (by kernel_rfl)
theorem wrap : Try.f11.isWrapper Try.prog Rows.wordCellsRow.wrapper Rows.wordCellsRow.mainSum := by unfold Func.isWrapper; first | (rw [if_pos (by decide +kernel)]; kernel_rfl) | (rw [if_neg (by decide +kernel)]; exact ⟨rfl, rfl⟩)
theorem k0 : (Rows.wordCellsRow.wf (OpenSpec.ofChange Rows.wordCellsSpec)) = true := by kernel_rfl
theorem k3 : (Try.f11.params.all (Try.checked.prog.readableRec ·)) = true := by kernel_rfl
theorem k4 : (namedTie Try.checked.prog Rows.wordCellsRow.named Rows.wordCellsSpec.vars) = true := by kernel_rfl
theorem k5 : ((Rows.wordCellsRow.stops == [])) = true := by kernel_rfl
theorem k7 : ((Rows.wordCellsRow.knobs == [])) = true := by kernel_rfl
theorem k9 : ((Rows.wordCellsRow.inPlace == Try.checked.prog.inPlace 11)) = true := by kernel_rfl
theorem k10 : ((Rows.wordCellsRow.unfollowed == Try.checked.prog.unfollowed 11)) = true := by kernel_rfl
theorem k11 : ((Rows.wordCellsRow.recurses == Try.checked.prog.recurses 11)) = true := by kernel_rfl
theorem k12 : ((Rows.wordCellsRow.named == Try.checked.prog.varsNamed 11)) = true := by kernel_rfl
theorem k13 : ((Rows.wordCellsRow.maps == (Try.f11.params.toList ++ Rows.wordCellsSpec.plain.varTypes Try.checked.prog).any (Try.checked.prog.mapsRec ·))) = true := by kernel_rfl
theorem k14 : ((Rows.wordCellsRow.ifaces == (Try.f11.params.toList ++ Rows.wordCellsSpec.plain.varTypes Try.checked.prog).any (Try.checked.prog.ifacesRec ·))) = true := by kernel_rfl
theorem k15 : ((Rows.wordCellsRow.mapsOut == Try.checked.prog.mapsAmong Try.f11.resultTypes.toList)) = true := by kernel_rfl
theorem k16 : ((Rows.wordCellsRow.loops == (Try.f11.params.toList ++ Rows.wordCellsSpec.plain.varTypes Try.checked.prog).any (Try.checked.prog.loopsFrom ·))) = true := by kernel_rfl
theorem k17 : ((Rows.wordCellsRow.wideKeys == (Try.f11.params.toList ++ Rows.wordCellsSpec.plain.varTypes Try.checked.prog ++ Try.f11.resultTypes.toList).any (Try.checked.prog.wideKeysFrom ·))) = true := by kernel_rfl
theorem k18 : (Rows.wordCellsSpec.vars.all (Try.checked.prog.varReadable ·)) = true := by kernel_rfl
theorem k19 : (Try.f11.resultTypes.all (fun t => Try.checked.prog.readableRec t && decide (t < Try.checked.prog.types.size))) = true := by kernel_rfl
theorem k20 : ((Rows.wordCellsRow.ifacesOut == Try.f11.resultTypes.toList.any (Try.checked.prog.ifacesRec ·))) = true := by kernel_rfl
theorem k21 : ((Rows.wordCellsRow.loopsOut == Try.f11.resultTypes.toList.any (Try.checked.prog.loopsFrom ·))) = true := by kernel_rfl
theorem k22 : ((Rows.wordCellsRow.plainKeys == Try.checked.prog.plainKeys)) = true := by kernel_rfl
theorem k23 : (Rows.wordCellsRow.shortTexts.isNone) = true := by kernel_rfl
theorem k26 : (Rows.wordCellsRow.lifted == Try.checked.prog.liftsFinal) = true := by rw [p_liftsFinal]; kernel_rfl
theorem k27 : (Try.checked.prog.make == some Rows.wordCellsRow.make) = true := by rw [p_make]; kernel_rfl
theorem k28 : ((Rows.wordCellsRow.kinds == (if Rows.wordCellsRow.domain.isEmpty then [] else Try.f11.params.toList.map fun t => match Try.checked.prog.underlying t with | some (.int k) => some k | _ => none))) = true := by kernel_rfl
theorem k29 : ((Rows.wordCellsRow.pinned == Rows.wordCellsRow.pinnedBy)) = true := by kernel_rfl
theorem k30 : ((Rows.wordCellsRow.veiled == (Try.f11.params.toList ++ Rows.wordCellsSpec.plain.varTypes Try.checked.prog ++ Try.f11.resultTypes.toList).any (Try.checked.prog.veiledRec ·))) = true := by kernel_rfl
theorem k31 : (Rows.wordCellsRow.veiledFits Try.checked.prog Try.f11.params.toList (Try.f11.params.toList ++ Rows.wordCellsSpec.plain.varTypes Try.checked.prog ++ Try.f11.resultTypes.toList)) = true := by kernel_rfl
set_option maxRecDepth 100000 in
theorem facts : joinedFacts Try.checked.prog 11 Try.f11 Rows.wordCellsSpec Rows.wordCellsRow = true := by
  unfold joinedFacts
  exact and2 (and2 (and2 (and2 (and2 (and2 (and2 (and2 (and2 (and2 (and2 (and2 (and2 (and2 (and2 (and2 (and2 (and2 (and2 (and2 (and2 (and2 (and2 (and2 (and2 (and2 (and2 (and2 (and2 (and2 (and2 (k0) Try.laidOut) p_mapsRowed) k3) k4) k5) p_stops) k7) p_stopKnobs) k9) k10) k11) k12) k13) k14) k15) k16) k17) k18) k19) k20) k21) k22) k23) p_stopsHeard) p_mayEnter) k26) k27) k28) k29) k30) k31
theorem over : Rows.wordCellsRow.holds Try.pinned (OpenSpec.ofChange Rows.wordCellsSpec) :=
  OpenClaim.holds_of_wide 11 Try.f11 rfl rfl rfl rfl rfl rfl rfl ⟨rfl, rfl, rfl, rfl, rfl⟩ rfl rfl rfl rfl rfl named Try.func11 facts inst wrap
    (fun os started H enc _ => lifted os started H enc)
theorem proved : Rows.WordCellsSaid := over
end Go.Proofs.Ytnpjfdiapoghnaa.wordCells
namespace Go.Proofs.Ytnpjfdiapoghnaa
theorem wordCells_holds : Rows.WordCellsSaid := wordCells.proved
#print axioms wordCells_holds
end Go.Proofs.Ytnpjfdiapoghnaa
