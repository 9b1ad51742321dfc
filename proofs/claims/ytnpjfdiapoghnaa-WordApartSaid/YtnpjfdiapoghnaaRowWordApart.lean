/- The statement WordApart: for any two slots and any two heads the law returns true, and its arguments read as they did. No condition. -/
import Derived.Test.YtnpjfdiapoghnaaRow
import Derived.Test.YtnpjfdiapoghnaaHead
import Derived.Test.YtnpjfdiapoghnaaRow3
import Derived.Test.YtnpjfdiapoghnaaLaw1i
namespace Go.Proofs.Ytnpjfdiapoghnaa.wordApart
open Go Go.RowKit Go.ChangeShapes Go.WideShapes Go.ChangeAt
set_option linter.unusedVariables false
set_option maxRecDepth 100000 in
theorem lifted (os : Os) (started : os.Started) (H : Type) (enc : TypeId × Value → H) :
    ReturnsInHanded {} Try.checked os 9 .any (Rows.wordApartSpec.pre6 enc Try.prog Try.f9 Rows.wordApartRow.domain false) (Rows.wordApartSpec.post enc Try.prog Try.f9 false true false false) := by
  refine returnsInHanded_of_change (C := Try.checked) own started (by kernel_rfl) Try.func9
    (ChangeSpec.witness6 (enc := enc) (C := Try.checked) false ⟨#[], #[.agg #[.int .i64 0, .int .i64 0, .int .i64 0, .int .i64 0, .int .i64 0, .int .i64 0, .int .i64 0, .int .i64 0], .agg #[.int .i64 0, .int .i64 0, .int .i64 0, .int .i64 0, .bool false, .int .i64 0, .int .i64 0, .int .i64 0, .int .i64 0, .bool false]], []⟩ 8 (by kernel_rfl) (by kernel_rfl) (by kernel_rfl) (by kernel_rfl)) ?_
  intro W base args ds gs before hval0 hW _ _
  have hval : ∀ (j : Nat) t v, Try.f9.params[j]? = some t → args[j]? = some v → Value.okWide Try.prog W .any base t v := hval0
  have hW' := hW
  obtain ⟨p, q, hTry, hV, rfl, _, _⟩ := hW
  have hA : DataW.TrodAll enc Try.prog W 0 (fun _ => true) true Try.f9.params.toList args.toList ds p := hTry
  rw [Try.params9] at hA hval
  obtain ⟨v0, vs0, d0, ds0, p0, q0, hargs, rfl, rfl, h0, r0⟩ := trodAll_cons hA
  obtain ⟨v1, vs1, d1, ds1, p1, q1, rfl, rfl, rfl, h1, r1⟩ := trodAll_cons r0
  obtain ⟨rfl, rfl, rfl⟩ := trodAll_nil r1
  obtain rfl : args = #[v0, v1] := by cases args; simp_all
  obtain ⟨rfl, rfl⟩ := trodVars_none hV
  have hlt : ∀ x ∈ p0 ++ (p1 ++ []), x.block < W.heap.size := fun x hx => hW'.lt x (List.mem_append_left _ hx)
  obtain ⟨a0, b0, c0, e0, i0, j0, k0, l0, rfl, ⟨wa0, wb0, wc0, we0⟩, ⟨wi0, wj0, wk0, wl0⟩⟩ := open_Slots2 (hval 0 48 v0 rfl rfl) h0
  have ba0 := bounds_i64 wa0
  have bb0 := bounds_i64 wb0
  have bc0 := bounds_i64 wc0
  have be0 := bounds_i64 we0
  have bi0 := bounds_i64 wi0
  have bj0 := bounds_i64 wj0
  have bk0 := bounds_i64 wk0
  have bl0 := bounds_i64 wl0
  obtain ⟨a1, b1, c1, e1, f1, i1, j1, k1, l1, g1, rfl, ⟨wa1, wb1, wc1, we1⟩, ⟨wi1, wj1, wk1, wl1⟩⟩ := open_Heads2 (hval 1 51 v1 rfl rfl) h1
  have ba1 := bounds_i64 wa1
  have bb1 := bounds_i64 wb1
  have bc1 := bounds_i64 wc1
  have be1 := bounds_i64 we1
  have bi1 := bounds_i64 wi1
  have bj1 := bounds_i64 wj1
  have bk1 := bounds_i64 wk1
  have bl1 := bounds_i64 wl1
  refine (WordApart_any a0 b0 c0 e0 i0 j0 k0 l0 a1 b1 c1 e1 f1 i1 j1 k1 l1 g1 W (by omega) (by omega) (by omega) (by omega) (by omega) (by omega) (by omega) (by omega) (by omega) (by omega) (by omega) (by omega) (by omega) (by omega) (by omega) (by omega)).mono fun e W' ⟨he, bel⟩ => ?_
  subst he
  exact ⟨_, rfl, _, _, _, [], _, [], hW', trodAll_mk1 (shut_bool Try.underlying4 _), trodAll_stays Try.laidOut bel _ _ _ _ (by kernel_rfl) hA hlt, rfl, bel.frame _, fun h => by cases h⟩
theorem named : Try.checked.prog.funcNamed Rows.wordApartRow.func = some 9 := by kernel_rfl
theorem inst : Try.f9.isInstance Try.prog Rows.wordApartRow.origin Rows.wordApartRow.targs := of_decide_eq_true (by kernel_rfl)
theorem wrap : Try.f9.isWrapper Try.prog Rows.wordApartRow.wrapper Rows.wordApartRow.mainSum := by unfold Func.isWrapper; first | (rw [if_pos (by decide +kernel)]; kernel_rfl) | (rw [if_neg (by decide +kernel)]; exact ⟨rfl, rfl⟩)
theorem k0 : (Rows.wordApartRow.wf (OpenSpec.ofChange Rows.wordApartSpec)) = true := by kernel_rfl
theorem k3 : (Try.f9.params.all (Try.checked.prog.readableRec ·)) = true := by kernel_rfl
theorem k4 : (namedTie Try.checked.prog Rows.wordApartRow.named Rows.wordApartSpec.vars) = true := by kernel_rfl
theorem k5 : ((Rows.wordApartRow.stops == [])) = true := by kernel_rfl
theorem k7 : ((Rows.wordApartRow.knobs == [])) = true := by kernel_rfl
theorem k9 : ((Rows.wordApartRow.inPlace == Try.checked.prog.inPlace 9)) = true := by kernel_rfl
theorem k10 : ((Rows.wordApartRow.unfollowed == Try.checked.prog.unfollowed 9)) = true := by kernel_rfl
theorem k11 : ((Rows.wordApartRow.recurses == Try.checked.prog.recurses 9)) = true := by kernel_rfl
theorem k12 : ((Rows.wordApartRow.named == Try.checked.prog.varsNamed 9)) = true := by kernel_rfl
theorem k13 : ((Rows.wordApartRow.maps == (Try.f9.params.toList ++ Rows.wordApartSpec.plain.varTypes Try.checked.prog).any (Try.checked.prog.mapsRec ·))) = true := by kernel_rfl
theorem k14 : ((Rows.wordApartRow.ifaces == (Try.f9.params.toList ++ Rows.wordApartSpec.plain.varTypes Try.checked.prog).any (Try.checked.prog.ifacesRec ·))) = true := by kernel_rfl
theorem k15 : ((Rows.wordApartRow.mapsOut == Try.checked.prog.mapsAmong Try.f9.resultTypes.toList)) = true := by kernel_rfl
theorem k16 : ((Rows.wordApartRow.loops == (Try.f9.params.toList ++ Rows.wordApartSpec.plain.varTypes Try.checked.prog).any (Try.checked.prog.loopsFrom ·))) = true := by kernel_rfl
theorem k17 : ((Rows.wordApartRow.wideKeys == (Try.f9.params.toList ++ Rows.wordApartSpec.plain.varTypes Try.checked.prog ++ Try.f9.resultTypes.toList).any (Try.checked.prog.wideKeysFrom ·))) = true := by kernel_rfl
theorem k18 : (Rows.wordApartSpec.vars.all (Try.checked.prog.varReadable ·)) = true := by kernel_rfl
theorem k19 : (Try.f9.resultTypes.all (fun t => Try.checked.prog.readableRec t && decide (t < Try.checked.prog.types.size))) = true := by kernel_rfl
theorem k20 : ((Rows.wordApartRow.ifacesOut == Try.f9.resultTypes.toList.any (Try.checked.prog.ifacesRec ·))) = true := by kernel_rfl
theorem k21 : ((Rows.wordApartRow.loopsOut == Try.f9.resultTypes.toList.any (Try.checked.prog.loopsFrom ·))) = true := by kernel_rfl
theorem k22 : ((Rows.wordApartRow.plainKeys == Try.checked.prog.plainKeys)) = true := by kernel_rfl
theorem k23 : (Rows.wordApartRow.shortTexts.isNone) = true := by kernel_rfl
theorem k26 : (Rows.wordApartRow.lifted == Try.checked.prog.liftsFinal) = true := by rw [p_liftsFinal]; kernel_rfl
theorem k27 : (Try.checked.prog.make == some Rows.wordApartRow.make) = true := by rw [p_make]; kernel_rfl
theorem k28 : ((Rows.wordApartRow.kinds == (if Rows.wordApartRow.domain.isEmpty then [] else Try.f9.params.toList.map fun t => match Try.checked.prog.underlying t with | some (.int k) => some k | _ => none))) = true := by kernel_rfl
theorem k29 : ((Rows.wordApartRow.pinned == Rows.wordApartRow.pinnedBy)) = true := by kernel_rfl
theorem k30 : ((Rows.wordApartRow.veiled == (Try.f9.params.toList ++ Rows.wordApartSpec.plain.varTypes Try.checked.prog ++ Try.f9.resultTypes.toList).any (Try.checked.prog.veiledRec ·))) = true := by kernel_rfl
theorem k31 : (Rows.wordApartRow.veiledFits Try.checked.prog Try.f9.params.toList (Try.f9.params.toList ++ Rows.wordApartSpec.plain.varTypes Try.checked.prog ++ Try.f9.resultTypes.toList)) = true := by kernel_rfl
set_option maxRecDepth 100000 in
theorem facts : joinedFacts Try.checked.prog 9 Try.f9 Rows.wordApartSpec Rows.wordApartRow = true := by
  unfold joinedFacts
  exact and2 (and2 (and2 (and2 (and2 (and2 (and2 (and2 (and2 (and2 (and2 (and2 (and2 (and2 (and2 (and2 (and2 (and2 (and2 (and2 (and2 (and2 (and2 (and2 (and2 (and2 (and2 (and2 (and2 (and2 (and2 (k0) Try.laidOut) p_mapsRowed) k3) k4) k5) p_stops) k7) p_stopKnobs) k9) k10) k11) k12) k13) k14) k15) k16) k17) k18) k19) k20) k21) k22) k23) p_stopsHeard) p_mayEnter) k26) k27) k28) k29) k30) k31
theorem over : Rows.wordApartRow.holds Try.pinned (OpenSpec.ofChange Rows.wordApartSpec) :=
  OpenClaim.holds_of_wide 9 Try.f9 rfl rfl rfl rfl rfl rfl rfl ⟨rfl, rfl, rfl, rfl, rfl⟩ rfl rfl rfl rfl rfl named Try.func9 facts inst wrap
    (fun os started H enc _ => lifted os started H enc)
theorem proved : Rows.WordApartSaid := over
end Go.Proofs.Ytnpjfdiapoghnaa.wordApart
namespace Go.Proofs.Ytnpjfdiapoghnaa
theorem wordApart_holds : Rows.WordApartSaid := wordApart.proved
#print axioms wordApart_holds
end Go.Proofs.Ytnpjfdiapoghnaa
