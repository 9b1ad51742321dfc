/- The statement MemApart: for every number and every list of acts the law returns true, and its arguments read as they did. No condition. -/
import Derived.Test.YtnpjfdiapoghnaaRow
import Derived.Test.YtnpjfdiapoghnaaHead
import Derived.Test.YtnpjfdiapoghnaaRow3
import Derived.Test.YtnpjfdiapoghnaaLaw2d
namespace Go.Proofs.Ytnpjfdiapoghnaa.memApart
open Go Go.RowKit Go.ChangeShapes Go.WideShapes Go.ChangeAt
set_option linter.unusedVariables false
set_option maxRecDepth 100000 in
theorem lifted (os : Os) (started : os.Started) (H : Type) (enc : TypeId × Value → H) :
    ReturnsInHanded {} Try.checked os 14 .any (Rows.memApartSpec.pre6 enc Try.prog Try.f14 Rows.memApartRow.domain false) (Rows.memApartSpec.post enc Try.prog Try.f14 false true false false) := by
  refine returnsInHanded_of_change (C := Try.checked) own started (by kernel_rfl) Try.func14
    (ChangeSpec.witness6 (enc := enc) (C := Try.checked) false ⟨#[], #[.int .i64 0, .slice none 0 0], []⟩ 8 (by kernel_rfl) (by kernel_rfl) (by kernel_rfl) (by kernel_rfl)) ?_
  intro W base args ds gs before hval0 hW _ _
  have hval : ∀ (j : Nat) t v, Try.f14.params[j]? = some t → args[j]? = some v → Value.okWide Try.prog W .any base t v := hval0
  have hW' := hW
  obtain ⟨p, q, hTry, hV, rfl, _, _⟩ := hW
  have hA : DataW.TrodAll enc Try.prog W 0 (fun _ => true) true Try.f14.params.toList args.toList ds p := hTry
  rw [Try.params14] at hA hval
  obtain ⟨v0, vs0, d0, ds0, p0, q0, hargs, rfl, rfl, h0, r0⟩ := trodAll_cons hA
  obtain ⟨v1, vs1, d1, ds1, p1, q1, rfl, rfl, rfl, h1, r1⟩ := trodAll_cons r0
  obtain ⟨rfl, rfl, rfl⟩ := trodAll_nil r1
  obtain rfl : args = #[v0, v1] := by cases args; simp_all
  obtain ⟨rfl, rfl⟩ := trodVars_none hV
  have hlt : ∀ x ∈ p0 ++ (p1 ++ []), x.block < W.heap.size := fun x hx => hW'.lt x (List.mem_append_left _ hx)
  obtain ⟨a0, rfl, _, _, wa0⟩ := open_int Try.underlying3 (hval 0 3 v0 rfl rfl) h0
  have ba0 := bounds_i64 wa0
  obtain ⟨A_1, m1, c1, l1, rfl, wl1, ww1⟩ := open_acts W (hval 1 72 v1 rfl rfl) h1
  refine (MemApart_any a0 A_1 m1 c1 W wl1).mono fun e W' ⟨he, bel⟩ => ?_
  subst he
  exact ⟨_, rfl, _, _, _, [], _, [], hW', trodAll_mk1 (shut_bool Try.underlying4 _), trodAll_stays Try.laidOut bel _ _ _ _ (by kernel_rfl) hA hlt, rfl, bel.frame _, fun h => by cases h⟩
theorem named : Try.checked.prog.funcNamed Rows.memApartRow.func = some 14 := by kernel_rfl
theorem inst : Try.f14.isInstance Try.prog Rows.memApartRow.origin Rows.memApartRow.targs := of_decide_eq_true (by kernel_rfl)
theorem wrap : Try.f14.isWrapper Try.prog Rows.memApartRow.wrapper Rows.memApartRow.mainSum := by unfold Func.isWrapper; first | (rw [if_pos (by decide +kernel)]; kernel_rfl) | (rw [if_neg (by decide +kernel)]; exact ⟨rfl, rfl⟩)
theorem k0 : (Rows.memApartRow.wf (OpenSpec.ofChange Rows.memApartSpec)) = true := by kernel_rfl
theorem k3 : (Try.f14.params.all (Try.checked.prog.readableRec ·)) = true := by kernel_rfl
theorem k4 : (namedTie Try.checked.prog Rows.memApartRow.named Rows.memApartSpec.vars) = true := by kernel_rfl
theorem k5 : ((Rows.memApartRow.stops == [])) = true := by kernel_rfl
theorem k7 : ((Rows.memApartRow.knobs == [])) = true := by kernel_rfl
theorem k9 : ((Rows.memApartRow.inPlace == Try.checked.prog.inPlace 14)) = true := by kernel_rfl
theorem k10 : ((Rows.memApartRow.unfollowed == Try.checked.prog.unfollowed 14)) = true := by kernel_rfl
theorem k11 : ((Rows.memApartRow.recurses == Try.checked.prog.recurses 14)) = true := by kernel_rfl
theorem k12 : ((Rows.memApartRow.named == Try.checked.prog.varsNamed 14)) = true := by kernel_rfl
theorem k13 : ((Rows.memApartRow.maps == (Try.f14.params.toList ++ Rows.memApartSpec.plain.varTypes Try.checked.prog).any (Try.checked.prog.mapsRec ·))) = true := by kernel_rfl
theorem k14 : ((Rows.memApartRow.ifaces == (Try.f14.params.toList ++ Rows.memApartSpec.plain.varTypes Try.checked.prog).any (Try.checked.prog.ifacesRec ·))) = true := by kernel_rfl
theorem k15 : ((Rows.memApartRow.mapsOut == Try.checked.prog.mapsAmong Try.f14.resultTypes.toList)) = true := by kernel_rfl
theorem k16 : ((Rows.memApartRow.loops == (Try.f14.params.toList ++ Rows.memApartSpec.plain.varTypes Try.checked.prog).any (Try.checked.prog.loopsFrom ·))) = true := by kernel_rfl
theorem k17 : ((Rows.memApartRow.wideKeys == (Try.f14.params.toList ++ Rows.memApartSpec.plain.varTypes Try.checked.prog ++ Try.f14.resultTypes.toList).any (Try.checked.prog.wideKeysFrom ·))) = true := by kernel_rfl
theorem k18 : (Rows.memApartSpec.vars.all (Try.checked.prog.varReadable ·)) = true := by kernel_rfl
theorem k19 : (Try.f14.resultTypes.all (fun t => Try.checked.prog.readableRec t && decide (t < Try.checked.prog.types.size))) = true := by kernel_rfl
theorem k20 : ((Rows.memApartRow.ifacesOut == Try.f14.resultTypes.toList.any (Try.checked.prog.ifacesRec ·))) = true := by kernel_rfl
theorem k21 : ((Rows.memApartRow.loopsOut == Try.f14.resultTypes.toList.any (Try.checked.prog.loopsFrom ·))) = true := by kernel_rfl
theorem k22 : ((Rows.memApartRow.plainKeys == Try.checked.prog.plainKeys)) = true := by kernel_rfl
theorem k23 : (Rows.memApartRow.shortTexts.isNone) = true := by kernel_rfl
theorem k26 : (Rows.memApartRow.lifted == Try.checked.prog.liftsFinal) = true := by rw [p_liftsFinal]; kernel_rfl
theorem k27 : (Try.checked.prog.make == some Rows.memApartRow.make) = true := by rw [p_make]; kernel_rfl
theorem k28 : ((Rows.memApartRow.kinds == (if Rows.memApartRow.domain.isEmpty then [] else Try.f14.params.toList.map fun t => match Try.checked.prog.underlying t with | some (.int k) => some k | _ => none))) = true := by kernel_rfl
theorem k29 : ((Rows.memApartRow.pinned == Rows.memApartRow.pinnedBy)) = true := by kernel_rfl
theorem k30 : ((Rows.memApartRow.veiled == (Try.f14.params.toList ++ Rows.memApartSpec.plain.varTypes Try.checked.prog ++ Try.f14.resultTypes.toList).any (Try.checked.prog.veiledRec ·))) = true := by kernel_rfl
theorem k31 : (Rows.memApartRow.veiledFits Try.checked.prog Try.f14.params.toList (Try.f14.params.toList ++ Rows.memApartSpec.plain.varTypes Try.checked.prog ++ Try.f14.resultTypes.toList)) = true := by kernel_rfl
set_option maxRecDepth 100000 in
theorem facts : joinedFacts Try.checked.prog 14 Try.f14 Rows.memApartSpec Rows.memApartRow = true := by
  unfold joinedFacts
  exact and2 (and2 (and2 (and2 (and2 (and2 (and2 (and2 (and2 (and2 (and2 (and2 (and2 (and2 (and2 (and2 (and2 (and2 (and2 (and2 (and2 (and2 (and2 (and2 (and2 (and2 (and2 (and2 (and2 (and2 (and2 (k0) Try.laidOut) p_mapsRowed) k3) k4) k5) p_stops) k7) p_stopKnobs) k9) k10) k11) k12) k13) k14) k15) k16) k17) k18) k19) k20) k21) k22) k23) p_stopsHeard) p_mayEnter) k26) k27) k28) k29) k30) k31
theorem over : Rows.memApartRow.holds Try.pinned (OpenSpec.ofChange Rows.memApartSpec) :=
  OpenClaim.holds_of_wide 14 Try.f14 rfl rfl rfl rfl rfl rfl rfl ⟨rfl, rfl, rfl, rfl, rfl⟩ rfl rfl rfl rfl rfl named Try.func14 facts inst wrap
    (fun os started H enc _ => lifted os started H enc)
theorem proved : Rows.MemApartSaid := over
end Go.Proofs.Ytnpjfdiapoghnaa.memApart
namespace Go.Proofs.Ytnpjfdiapoghnaa
theorem memApart_holds : Rows.MemApartSaid := memApart.proved
#print axioms memApart_holds
end Go.Proofs.Ytnpjfdiapoghnaa
