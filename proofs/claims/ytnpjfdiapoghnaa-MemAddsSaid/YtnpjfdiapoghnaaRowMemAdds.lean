/- The statement MemAdds: for all numbers the law returns true, and its argument reads as it did. No condition. -/
import Derived.Test.YtnpjfdiapoghnaaRow
import Derived.Test.YtnpjfdiapoghnaaHead
import Derived.Test.YtnpjfdiapoghnaaRow2
import Derived.Test.YtnpjfdiapoghnaaLaw2a
namespace Go.Proofs.Ytnpjfdiapoghnaa.memAdds
open Go Go.RowKit Go.ChangeShapes Go.WideShapes Go.ChangeAt
set_option linter.unusedVariables false
set_option maxRecDepth 100000 in
theorem lifted (os : Os) (started : os.Started) (H : Type) (enc : TypeId × Value → H) :
    ReturnsInHanded {} Try.checked os 12 .any (Rows.memAddsSpec.pre6 enc Try.prog Try.f12 Rows.memAddsRow.domain false) (Rows.memAddsSpec.post enc Try.prog Try.f12 false true false false) := by
  refine returnsInHanded_of_change (C := Try.checked) own started (by kernel_rfl) Try.func12
    (ChangeSpec.witness6 (enc := enc) (C := Try.checked) false ⟨#[], #[.slice none 0 0], []⟩ 8 (by kernel_rfl) (by kernel_rfl) (by kernel_rfl) (by kernel_rfl)) ?_
  intro W base args ds gs before hval0 hW _ _
  have hval : ∀ (j : Nat) t v, Try.f12.params[j]? = some t → args[j]? = some v → Value.okWide Try.prog W .any base t v := hval0
  have hW' := hW
  obtain ⟨p, q, hTry, hV, rfl, _, _⟩ := hW
  have hA : DataW.TrodAll enc Try.prog W 0 (fun _ => true) true Try.f12.params.toList args.toList ds p := hTry
  rw [Try.params12] at hA hval
  obtain ⟨v0, vs0, d0, ds0, p0, q0, hargs, rfl, rfl, h0, r0⟩ := trodAll_cons hA
  obtain ⟨rfl, rfl, rfl⟩ := trodAll_nil r0
  obtain rfl : args = #[v0] := by cases args; simp_all
  obtain ⟨rfl, rfl⟩ := trodVars_none hV
  have hlt : ∀ x ∈ p0 ++ [], x.block < W.heap.size := fun x hx => hW'.lt x (List.mem_append_left _ hx)
  obtain ⟨A_0, m0, c0, l0, rfl, wl0, ww0⟩ := open_u64s W (hval 0 61 v0 rfl rfl) h0
  refine (MemAdds_any A_0 m0 c0 l0 W wl0).mono fun e W' ⟨he, bel⟩ => ?_
  subst he
  exact ⟨_, rfl, _, _, _, [], _, [], hW', trodAll_mk1 (shut_bool Try.underlying4 _), trodAll_stays Try.laidOut bel _ _ _ _ (by kernel_rfl) hA hlt, rfl, bel.frame _, fun h => by cases h⟩
theorem named : Try.checked.prog.funcNamed Rows.memAddsRow.func = some 12 := by kernel_rfl
theorem inst : Try.f12.isInstance Try.prog Rows.memAddsRow.origin Rows.memAddsRow.targs := of_decide_eq_true (by kernel_rfl)
theorem wrap : Try.f12.isWrapper Try.prog Rows.memAddsRow.wrapper Rows.memAddsRow.mainSum := by unfold Func.isWrapper; first | (rw [if_pos (by decide +kernel)]; kernel_rfl) | (rw [if_neg (by decide +kernel)]; exact ⟨rfl, rfl⟩)
theorem k0 : (Rows.memAddsRow.wf (OpenSpec.ofChange Rows.memAddsSpec)) = true := by kernel_rfl
theorem k3 : (Try.f12.params.all (Try.checked.prog.readableRec ·)) = true := by kernel_rfl
theorem k4 : (namedTie Try.checked.prog Rows.memAddsRow.named Rows.memAddsSpec.vars) = true := by kernel_rfl
theorem k5 : ((Rows.memAddsRow.stops == [])) = true := by kernel_rfl
theorem k7 : ((Rows.memAddsRow.knobs == [])) = true := by kernel_rfl
theorem k9 : ((Rows.memAddsRow.inPlace == Try.checked.prog.inPlace 12)) = true := by kernel_rfl
theorem k10 : ((Rows.memAddsRow.unfollowed == Try.checked.prog.unfollowed 12)) = true := by kernel_rfl
theorem k11 : ((Rows.memAddsRow.recurses == Try.checked.prog.recurses 12)) = true := by kernel_rfl
theorem k12 : ((Rows.memAddsRow.named == Try.checked.prog.varsNamed 12)) = true := by kernel_rfl
theorem k13 : ((Rows.memAddsRow.maps == (Try.f12.params.toList ++ Rows.memAddsSpec.plain.varTypes Try.checked.prog).any (Try.checked.prog.mapsRec ·))) = true := by kernel_rfl
theorem k14 : ((Rows.memAddsRow.ifaces == (Try.f12.params.toList ++ Rows.memAddsSpec.plain.varTypes Try.checked.prog).any (Try.checked.prog.ifacesRec ·))) = true := by kernel_rfl
theorem k15 : ((Rows.memAddsRow.mapsOut == Try.checked.prog.mapsAmong Try.f12.resultTypes.toList)) = true := by kernel_rfl
theorem k16 : ((Rows.memAddsRow.loops == (Try.f12.params.toList ++ Rows.memAddsSpec.plain.varTypes Try.checked.prog).any (Try.checked.prog.loopsFrom ·))) = true := by kernel_rfl
theorem k17 : ((Rows.memAddsRow.wideKeys == (Try.f12.params.toList ++ Rows.memAddsSpec.plain.varTypes Try.checked.prog ++ Try.f12.resultTypes.toList).any (Try.checked.prog.wideKeysFrom ·))) = true := by kernel_rfl
theorem k18 : (Rows.memAddsSpec.vars.all (Try.checked.prog.varReadable ·)) = true := by kernel_rfl
theorem k19 : (Try.f12.resultTypes.all (fun t => Try.checked.prog.readableRec t && decide (t < Try.checked.prog.types.size))) = true := by kernel_rfl
theorem k20 : ((Rows.memAddsRow.ifacesOut == Try.f12.resultTypes.toList.any (Try.checked.prog.ifacesRec ·))) = true := by kernel_rfl
theorem k21 : ((Rows.memAddsRow.loopsOut == Try.f12.resultTypes.toList.any (Try.checked.prog.loopsFrom ·))) = true := by kernel_rfl
theorem k22 : ((Rows.memAddsRow.plainKeys == Try.checked.prog.plainKeys)) = true := by kernel_rfl
theorem k23 : (Rows.memAddsRow.shortTexts.isNone) = true := by kernel_rfl
theorem k26 : (Rows.memAddsRow.lifted == Try.checked.prog.liftsFinal) = true := by rw [p_liftsFinal]; kernel_rfl
theorem k27 : (Try.checked.prog.make == some Rows.memAddsRow.make) = true := by rw [p_make]; kernel_rfl
theorem k28 : ((Rows.memAddsRow.kinds == (if Rows.memAddsRow.domain.isEmpty then [] else Try.f12.params.toList.map fun t => match Try.checked.prog.underlying t with | some (.int k) => some k | _ => none))) = true := by kernel_rfl
theorem k29 : ((Rows.memAddsRow.pinned == Rows.memAddsRow.pinnedBy)) = true := by kernel_rfl
theorem k30 : ((Rows.memAddsRow.veiled == (Try.f12.params.toList ++ Rows.memAddsSpec.plain.varTypes Try.checked.prog ++ Try.f12.resultTypes.toList).any (Try.checked.prog.veiledRec ·))) = true := by kernel_rfl
theorem k31 : (Rows.memAddsRow.veiledFits Try.checked.prog Try.f12.params.toList (Try.f12.params.toList ++ Rows.memAddsSpec.plain.varTypes Try.checked.prog ++ Try.f12.resultTypes.toList)) = true := by kernel_rfl
set_option maxRecDepth 100000 in
theorem facts : joinedFacts Try.checked.prog 12 Try.f12 Rows.memAddsSpec Rows.memAddsRow = true := by
  unfold joinedFacts
  exact and2 (and2 (and2 (and2 (and2 (and2 (and2 (and2 (and2 (and2 (and2 (and2 (and2 (and2 (and2 (and2 (and2 (and2 (and2 (and2 (and2 (and2 (and2 (and2 (and2 (and2 (and2 (and2 (and2 (and2 (and2 (k0) Try.laidOut) p_mapsRowed) k3) k4) k5) p_stops) k7) p_stopKnobs) k9) k10) k11) k12) k13) k14) k15) k16) k17) k18) k19) k20) k21) k22) k23) p_stopsHeard) p_mayEnter) k26) k27) k28) k29) k30) k31
theorem over : Rows.memAddsRow.holds Try.pinned (OpenSpec.ofChange Rows.memAddsSpec) :=
  OpenClaim.holds_of_wide 12 Try.f12 rfl rfl rfl rfl rfl rfl rfl ⟨rfl, rfl, rfl, rfl, rfl⟩ rfl rfl rfl rfl rfl named Try.func12 facts inst wrap
    (fun os started H enc _ => lifted os started H enc)
theorem proved : Rows.MemAddsSaid := over
end Go.Proofs.Ytnpjfdiapoghnaa.memAdds
namespace Go.Proofs.Ytnpjfdiapoghnaa
theorem memAdds_holds : Rows.MemAddsSaid := memAdds.proved
#print axioms memAdds_holds
end Go.Proofs.Ytnpjfdiapoghnaa
