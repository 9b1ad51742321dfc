/- The statement WordHeads: for every head and every word the law returns true, and its arguments read as they did. No condition. -/
import Derived.Test.YtnpjfdiapoghnaaRow
import Derived.Test.YtnpjfdiapoghnaaHead
import Derived.Test.YtnpjfdiapoghnaaLaw1d
namespace Go.Proofs.Ytnpjfdiapoghnaa.wordHeads
open Go Go.RowKit Go.ChangeShapes Go.WideShapes Go.ChangeAt
set_option linter.unusedVariables false
set_option maxRecDepth 100000 in
theorem lifted (os : Os) (started : os.Started) (H : Type) (enc : TypeId × Value → H) :
    ReturnsInHanded {} Try.checked os 10 .any (Rows.wordHeadsSpec.pre6 enc Try.prog Try.f10 Rows.wordHeadsRow.domain false) (Rows.wordHeadsSpec.post enc Try.prog Try.f10 false true false false) := by
  refine returnsInHanded_of_change (C := Try.checked) own started (by kernel_rfl) Try.func10
    (ChangeSpec.witness6 (enc := enc) (C := Try.checked) false ⟨#[], #[.agg #[.int .i64 0, .int .i64 0, .int .i64 0, .int .i64 0, .bool false], .int .u64 0], []⟩ 8 (by kernel_rfl) (by kernel_rfl) (by kernel_rfl) (by kernel_rfl)) ?_
  intro W base args ds gs before hval0 hW _ _
  have hval : ∀ (j : Nat) t v, Try.f10.params[j]? = some t → args[j]? = some v → Value.okWide Try.prog W .any base t v := hval0
  have hW' := hW
  obtain ⟨p, q, hTry, hV, rfl, _, _⟩ := hW
  have hA : DataW.TrodAll enc Try.prog W 0 (fun _ => true) true Try.f10.params.toList args.toList ds p := hTry
  rw [Try.params10] at hA hval
  obtain ⟨v0, vs0, d0, ds0, p0, q0, hargs, rfl, rfl, h0, r0⟩ := trodAll_cons hA
  obtain ⟨v1, vs1, d1, ds1, p1, q1, rfl, rfl, rfl, h1, r1⟩ := trodAll_cons r0
  obtain ⟨rfl, rfl, rfl⟩ := trodAll_nil r1
  obtain rfl : args = #[v0, v1] := by cases args; simp_all
  obtain ⟨rfl, rfl⟩ := trodVars_none hV
  have hlt : ∀ x ∈ p0 ++ (p1 ++ []), x.block < W.heap.size := fun x hx => hW'.lt x (List.mem_append_left _ hx)
  obtain ⟨a0, b0, c0, e0, f0, rfl, wa0, wb0, wc0, we0⟩ := open_Head (hval 0 50 v0 rfl rfl) h0
  have ba0 := bounds_i64 wa0
  have bb0 := bounds_i64 wb0
  have bc0 := bounds_i64 wc0
  have be0 := bounds_i64 we0
  obtain ⟨a1, rfl, _, _, wa1⟩ := open_int Try.underlying24 (hval 1 24 v1 rfl rfl) h1
  have ba1 := bounds_u64 wa1
  refine (WordHeads_any a0 b0 c0 e0 f0 a1 W (by omega) (by omega) (by omega) (by omega) (by omega) (by omega)).mono fun e W' ⟨he, bel⟩ => ?_
  subst he
  exact ⟨_, rfl, _, _, _, [], _, [], hW', trodAll_mk1 (shut_bool Try.underlying4 _), trodAll_stays Try.laidOut bel _ _ _ _ (by kernel_rfl) hA hlt, rfl, bel.frame _, fun h => by cases h⟩
theorem named : Try.checked.prog.funcNamed Rows.wordHeadsRow.func = some 10 := by kernel_rfl
theorem inst : Try.f10.isInstance Try.prog Rows.wordHeadsRow.origin Rows.wordHeadsRow.targs := of_decide_eq_true (by kernel_rfl)
theorem wrap : Try.f10.isWrapper Try.prog Rows.wordHeadsRow.wrapper Rows.wordHeadsRow.mainSum := by unfold Func.isWrapper; first | (rw [if_pos (by decide +kernel)]; kernel_rfl) | (rw [if_neg (by decide +kernel)]; exact ⟨rfl, rfl⟩)
theorem k0 : (Rows.wordHeadsRow.wf (OpenSpec.ofChange Rows.wordHeadsSpec)) = true := by kernel_rfl
theorem k3 : (Try.f10.params.all (Try.checked.prog.readableRec ·)) = true := by kernel_rfl
theorem k4 : (namedTie Try.checked.prog Rows.wordHeadsRow.named Rows.wordHeadsSpec.vars) = true := by kernel_rfl
theorem k5 : ((Rows.wordHeadsRow.stops == [])) = true := by kernel_rfl
theorem k7 : ((Rows.wordHeadsRow.knobs == [])) = true := by kernel_rfl
theorem k9 : ((Rows.wordHeadsRow.inPlace == Try.checked.prog.inPlace 10)) = true := by kernel_rfl
theorem k10 : ((Rows.wordHeadsRow.unfollowed == Try.checked.prog.unfollowed 10)) = true := by kernel_rfl
theorem k11 : ((Rows.wordHeadsRow.recurses == Try.checked.prog.recurses 10)) = true := by kernel_rfl
theorem k12 : ((Rows.wordHeadsRow.named == Try.checked.prog.varsNamed 10)) = true := by kernel_rfl
theorem k13 : ((Rows.wordHeadsRow.maps == (Try.f10.params.toList ++ Rows.wordHeadsSpec.plain.varTypes Try.checked.prog).any (Try.checked.prog.mapsRec ·))) = true := by kernel_rfl
theorem k14 : ((Rows.wordHeadsRow.ifaces == (Try.f10.params.toList ++ Rows.wordHeadsSpec.plain.varTypes Try.checked.prog).any (Try.checked.prog.ifacesRec ·))) = true := by kernel_rfl
theorem k15 : ((Rows.wordHeadsRow.mapsOut == Try.checked.prog.mapsAmong Try.f10.resultTypes.toList)) = true := by kernel_rfl
theorem k16 : ((Rows.wordHeadsRow.loops == (Try.f10.params.toList ++ Rows.wordHeadsSpec.plain.varTypes Try.checked.prog).any (Try.checked.prog.loopsFrom ·))) = true := by kernel_rfl
theorem k17 : ((Rows.wordHeadsRow.wideKeys == (Try.f10.params.toList ++ Rows.wordHeadsSpec.plain.varTypes Try.checked.prog ++ Try.f10.resultTypes.toList).any (Try.checked.prog.wideKeysFrom ·))) = true := by kernel_rfl
theorem k18 : (Rows.wordHeadsSpec.vars.all (Try.checked.prog.varReadable ·)) = true := by kernel_rfl
theorem k19 : (Try.f10.resultTypes.all (fun t => Try.checked.prog.readableRec t && decide (t < Try.checked.prog.types.size))) = true := by kernel_rfl
theorem k20 : ((Rows.wordHeadsRow.ifacesOut == Try.f10.resultTypes.toList.any (Try.checked.prog.ifacesRec ·))) = true := by kernel_rfl
theorem k21 : ((Rows.wordHeadsRow.loopsOut == Try.f10.resultTypes.toList.any (Try.checked.prog.loopsFrom ·))) = true := by kernel_rfl
theorem k22 : ((Rows.wordHeadsRow.plainKeys == Try.checked.prog.plainKeys)) = true := by kernel_rfl
theorem k23 : (Rows.wordHeadsRow.shortTexts.isNone) = true := by kernel_rfl
theorem k26 : (Rows.wordHeadsRow.lifted == Try.checked.prog.liftsFinal) = true := by rw [p_liftsFinal]; kernel_rfl
theorem k27 : (Try.checked.prog.make == some Rows.wordHeadsRow.make) = true := by rw [p_make]; kernel_rfl
theorem k28 : ((Rows.wordHeadsRow.kinds == (if Rows.wordHeadsRow.domain.isEmpty then [] else Try.f10.params.toList.map fun t => match Try.checked.prog.underlying t with | some (.int k) => some k | _ => none))) = true := by kernel_rfl
theorem k29 : ((Rows.wordHeadsRow.pinned == Rows.wordHeadsRow.pinnedBy)) = true := by kernel_rfl
theorem k30 : ((Rows.wordHeadsRow.veiled == (Try.f10.params.toList ++ Rows.wordHeadsSpec.plain.varTypes Try.checked.prog ++ Try.f10.resultTypes.toList).any (Try.checked.prog.veiledRec ·))) = true := by kernel_rfl
theorem k31 : (Rows.wordHeadsRow.veiledFits Try.checked.prog Try.f10.params.toList (Try.f10.params.toList ++ Rows.wordHeadsSpec.plain.varTypes Try.checked.prog ++ Try.f10.resultTypes.toList)) = true := by kernel_rfl
set_option maxRecDepth 100000 in
theorem facts : joinedFacts Try.checked.prog 10 Try.f10 Rows.wordHeadsSpec Rows.wordHeadsRow = true := by
  unfold joinedFacts
  exact and2 (and2 (and2 (and2 (and2 (and2 (and2 (and2 (and2 (and2 (and2 (and2 (and2 (and2 (and2 (and2 (and2 (and2 (and2 (and2 (and2 (and2 (and2 (and2 (and2 (and2 (and2 (and2 (and2 (and2 (and2 (k0) Try.laidOut) p_mapsRowed) k3) k4) k5) p_stops) k7) p_stopKnobs) k9) k10) k11) k12) k13) k14) k15) k16) k17) k18) k19) k20) k21) k22) k23) p_stopsHeard) p_mayEnter) k26) k27) k28) k29) k30) k31
theorem over : Rows.wordHeadsRow.holds Try.pinned (OpenSpec.ofChange Rows.wordHeadsSpec) :=
  OpenClaim.holds_of_wide 10 Try.f10 rfl rfl rfl rfl rfl rfl rfl ⟨rfl, rfl, rfl, rfl, rfl⟩ rfl rfl rfl rfl rfl named Try.func10 facts inst wrap
    (fun os started H enc _ => lifted os started H enc)
theorem proved : Rows.WordHeadsSaid := over
end Go.Proofs.Ytnpjfdiapoghnaa.wordHeads
namespace Go.Proofs.Ytnpjfdiapoghnaa
theorem wordHeads_holds : Rows.WordHeadsSaid := wordHeads.proved
#print axioms wordHeads_holds
end Go.Proofs.Ytnpjfdiapoghnaa
