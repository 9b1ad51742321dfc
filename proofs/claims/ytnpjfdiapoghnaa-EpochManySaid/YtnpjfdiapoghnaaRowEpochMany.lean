/- The statement EpochMany: for every number and truth value the law returns true, and its arguments read as they did. No condition. -/
import Derived.Test.YtnpjfdiapoghnaaRow
import Derived.Test.YtnpjfdiapoghnaaHead
import Derived.Test.YtnpjfdiapoghnaaLaw13d
namespace Go.Proofs.Ytnpjfdiapoghnaa.epochMany
open Go Go.RowKit Go.ChangeShapes Go.WideShapes Go.ChangeAt
set_option linter.unusedVariables false
set_option maxRecDepth 100000 in
theorem lifted (os : Os) (started : os.Started) (H : Type) (enc : TypeId × Value → H) :
    ReturnsInHanded {} Try.checked os 21 .any (Rows.epochManySpec.pre6 enc Try.prog Try.f21 Rows.epochManyRow.domain false) (Rows.epochManySpec.post enc Try.prog Try.f21 false true false false) := by
  refine returnsInHanded_of_change (C := Try.checked) own started (by kernel_rfl) Try.func21
    (ChangeSpec.witness6 (enc := enc) (C := Try.checked) false ⟨#[], #[.int .i64 0, .bool false], []⟩ 8 (by kernel_rfl) (by kernel_rfl) (by kernel_rfl) (by kernel_rfl)) ?_
  intro W base args ds gs before hval0 hW _ _
  have hval : ∀ (j : Nat) t v, Try.f21.params[j]? = some t → args[j]? = some v → Value.okWide Try.prog W .any base t v := hval0
  have hW' := hW
  obtain ⟨p, q, hTry, hV, rfl, _, _⟩ := hW
  have hA : DataW.TrodAll enc Try.prog W 0 (fun _ => true) true Try.f21.params.toList args.toList ds p := hTry
  rw [Try.params21] at hA hval
  obtain ⟨v0, vs0, d0, ds0, p0, q0, hargs, rfl, rfl, h0, r0⟩ := trodAll_cons hA
  obtain ⟨v1, vs1, d1, ds1, p1, q1, rfl, rfl, rfl, h1, r1⟩ := trodAll_cons r0
  obtain ⟨rfl, rfl, rfl⟩ := trodAll_nil r1
  obtain rfl : args = #[v0, v1] := by cases args; simp_all
  obtain ⟨rfl, rfl⟩ := trodVars_none hV
  have hlt : ∀ x ∈ p0 ++ (p1 ++ []), x.block < W.heap.size := fun x hx => hW'.lt x (List.mem_append_left _ hx)
  obtain ⟨a0, rfl, _, _, wa0⟩ := open_int Try.underlying3 (hval 0 3 v0 rfl rfl) h0
  have ba0 := bounds_i64 wa0
  obtain ⟨a1, rfl, _, _⟩ := open_bool Try.underlying4 (hval 1 4 v1 rfl rfl) h1
  refine (EpochMany_any a0 a1 W).mono fun e W' ⟨he, bel⟩ => ?_
  subst he
  exact ⟨_, rfl, _, _, _, [], _, [], hW', trodAll_mk1 (shut_bool Try.underlying4 _), trodAll_stays Try.laidOut bel _ _ _ _ (by kernel_rfl) hA hlt, rfl, bel.frame _, fun h => by cases h⟩
theorem named : Try.checked.prog.funcNamed Rows.epochManyRow.func = some 21 := by kernel_rfl
theorem inst : Try.f21.isInstance Try.prog Rows.epochManyRow.origin Rows.epochManyRow.targs := of_decide_eq_true (by kernel_rfl)
theorem wrap : Try.f21.isWrapper Try.prog Rows.epochManyRow.wrapper Rows.epochManyRow.mainSum := by unfold Func.isWrapper; first | (rw [if_pos (by decide +kernel)]; kernel_rfl) | (rw [if_neg (by decide +kernel)]; exact ⟨rfl, rfl⟩)
theorem k0 : (Rows.epochManyRow.wf (OpenSpec.ofChange Rows.epochManySpec)) = true := by kernel_rfl
theorem k3 : (Try.f21.params.all (Try.checked.prog.readableRec ·)) = true := by kernel_rfl
theorem k4 : (namedTie Try.checked.prog Rows.epochManyRow.named Rows.epochManySpec.vars) = true := by kernel_rfl
theorem k5 : ((Rows.epochManyRow.stops == [])) = true := by kernel_rfl
theorem k7 : ((Rows.epochManyRow.knobs == [])) = true := by kernel_rfl
theorem k9 : ((Rows.epochManyRow.inPlace == Try.checked.prog.inPlace 21)) = true := by kernel_rfl
theorem k10 : ((Rows.epochManyRow.unfollowed == Try.checked.prog.unfollowed 21)) = true := by kernel_rfl
theorem k11 : ((Rows.epochManyRow.recurses == Try.checked.prog.recurses 21)) = true := by kernel_rfl
theorem k12 : ((Rows.epochManyRow.named == Try.checked.prog.varsNamed 21)) = true := by kernel_rfl
theorem k13 : ((Rows.epochManyRow.maps == (Try.f21.params.toList ++ Rows.epochManySpec.plain.varTypes Try.checked.prog).any (Try.checked.prog.mapsRec ·))) = true := by kernel_rfl
theorem k14 : ((Rows.epochManyRow.ifaces == (Try.f21.params.toList ++ Rows.epochManySpec.plain.varTypes Try.checked.prog).any (Try.checked.prog.ifacesRec ·))) = true := by kernel_rfl
theorem k15 : ((Rows.epochManyRow.mapsOut == Try.checked.prog.mapsAmong Try.f21.resultTypes.toList)) = true := by kernel_rfl
theorem k16 : ((Rows.epochManyRow.loops == (Try.f21.params.toList ++ Rows.epochManySpec.plain.varTypes Try.checked.prog).any (Try.checked.prog.loopsFrom ·))) = true := by kernel_rfl
theorem k17 : ((Rows.epochManyRow.wideKeys == (Try.f21.params.toList ++ Rows.epochManySpec.plain.varTypes Try.checked.prog ++ Try.f21.resultTypes.toList).any (Try.checked.prog.wideKeysFrom ·))) = true := by kernel_rfl
theorem k18 : (Rows.epochManySpec.vars.all (Try.checked.prog.varReadable ·)) = true := by kernel_rfl
theorem k19 : (Try.f21.resultTypes.all (fun t => Try.checked.prog.readableRec t && decide (t < Try.checked.prog.types.size))) = true := by kernel_rfl
theorem k20 : ((Rows.epochManyRow.ifacesOut == Try.f21.resultTypes.toList.any (Try.checked.prog.ifacesRec ·))) = true := by kernel_rfl
theorem k21 : ((Rows.epochManyRow.loopsOut == Try.f21.resultTypes.toList.any (Try.checked.prog.loopsFrom ·))) = true := by kernel_rfl
theorem k22 : ((Rows.epochManyRow.plainKeys == Try.checked.prog.plainKeys)) = true := by kernel_rfl
theorem k23 : (Rows.epochManyRow.shortTexts.isNone) = true := by kernel_rfl
theorem k26 : (Rows.epochManyRow.lifted == Try.checked.prog.liftsFinal) = true := by rw [p_liftsFinal]; kernel_rfl
theorem k27 : (Try.checked.prog.make == some Rows.epochManyRow.make) = true := by rw [p_make]; kernel_rfl
theorem k28 : ((Rows.epochManyRow.kinds == (if Rows.epochManyRow.domain.isEmpty then [] else Try.f21.params.toList.map fun t => match Try.checked.prog.underlying t with | some (.int k) => some k | _ => none))) = true := by kernel_rfl
theorem k29 : ((Rows.epochManyRow.pinned == Rows.epochManyRow.pinnedBy)) = true := by kernel_rfl
theorem k30 : ((Rows.epochManyRow.veiled == (Try.f21.params.toList ++ Rows.epochManySpec.plain.varTypes Try.checked.prog ++ Try.f21.resultTypes.toList).any (Try.checked.prog.veiledRec ·))) = true := by kernel_rfl
theorem k31 : (Rows.epochManyRow.veiledFits Try.checked.prog Try.f21.params.toList (Try.f21.params.toList ++ Rows.epochManySpec.plain.varTypes Try.checked.prog ++ Try.f21.resultTypes.toList)) = true := by kernel_rfl
set_option maxRecDepth 100000 in
theorem facts : joinedFacts Try.checked.prog 21 Try.f21 Rows.epochManySpec Rows.epochManyRow = true := by
  unfold joinedFacts
  exact and2 (and2 (and2 (and2 (and2 (and2 (and2 (and2 (and2 (and2 (and2 (and2 (and2 (and2 (and2 (and2 (and2 (and2 (and2 (and2 (and2 (and2 (and2 (and2 (and2 (and2 (and2 (and2 (and2 (and2 (and2 (k0) Try.laidOut) p_mapsRowed) k3) k4) k5) p_stops) k7) p_stopKnobs) k9) k10) k11) k12) k13) k14) k15) k16) k17) k18) k19) k20) k21) k22) k23) p_stopsHeard) p_mayEnter) k26) k27) k28) k29) k30) k31
theorem over : Rows.epochManyRow.holds Try.pinned (OpenSpec.ofChange Rows.epochManySpec) :=
  OpenClaim.holds_of_wide 21 Try.f21 rfl rfl rfl rfl rfl rfl rfl ⟨rfl, rfl, rfl, rfl, rfl⟩ rfl rfl rfl rfl rfl named Try.func21 facts inst wrap
    (fun os started H enc _ => lifted os started H enc)
theorem proved : Rows.EpochManySaid := over
end Go.Proofs.Ytnpjfdiapoghnaa.epochMany
namespace Go.Proofs.Ytnpjfdiapoghnaa
theorem epochMany_holds : Rows.EpochManySaid := epochMany.proved
#print axioms epochMany_holds
end Go.Proofs.Ytnpjfdiapoghnaa
