/- The statement MemPlays: for every number and every list of acts the law returns true, and its arguments read as they did. No condition. -/
import Derived.Test.YtnpjfdiapoghnaaRow
import Derived.Test.YtnpjfdiapoghnaaHead
import Derived.Test.YtnpjfdiapoghnaaRow3
import Derived.Test.YtnpjfdiapoghnaaLaw2c
namespace Go.Proofs.Ytnpjfdiapoghnaa.memPlays
open Go Go.RowKit Go.ChangeShapes Go.WideShapes Go.ChangeAt
set_option linter.unusedVariables false
set_option maxRecDepth 100000 in
theorem lifted (os : Os) (started : os.Started) (H : Type) (enc : TypeId × Value → H) :
    ReturnsInHanded {} Try.checked os 15 .any (Rows.memPlaysSpec.pre6 enc Try.prog Try.f15 Rows.memPlaysRow.domain false) (Rows.memPlaysSpec.post enc Try.prog Try.f15 false true false false) := by
  refine returnsInHanded_of_change (C := Try.checked) own started (by kernel_rfl) Try.func15
    (ChangeSpec.witness6 (enc := enc) (C := Try.checked) false ⟨#[], #[.int .i64 0, .slice none 0 0], []⟩ 8 (by kernel_rfl) (by kernel_rfl) (by kernel_rfl) (by kernel_rfl)) ?_
  intro W base args ds gs before hval0 hW _ _
  have hval : ∀ (j : Nat) t v, Try.f15.params[j]? = some t → args[j]? = some v → Value.okWide Try.prog W .any base t v := hval0
  have hW' := hW
  obtain ⟨p, q, hTry, hV, rfl, _, _⟩ := hW
  have hA : DataW.TrodAll enc Try.prog W 0 (fun _ => true) true Try.f15.params.toList args.toList ds p := hTry
  rw [Try.params15] at hA hval
  obtain ⟨v0, vs0, d0, ds0, p0, q0, hargs, rfl, rfl, h0, r0⟩ := trodAll_cons hA
  obtain ⟨v1, vs1, d1, ds1, p1, q1, rfl, rfl, rfl, h1, r1⟩ := trodAll_cons r0
  obtain ⟨rfl, rfl, rfl⟩ := trodAll_nil r1
  obtain rfl : args = #[v0, v1] := by cases args; simp_all
  obtain ⟨rfl, rfl⟩ := trodVars_none hV
  have hlt : ∀ x ∈ p0 ++ (p1 ++ []), x.block < W.heap.size := fun x hx => hW'.lt x (List.mem_append_left _ hx)
  obtain ⟨a0, rfl, _, _, wa0⟩ := open_int Try.underlying3 (hval 0 3 v0 rfl rfl) h0
  have ba0 := bounds_i64 wa0
  obtain ⟨A_1, m1, c1, l1, rfl, wl1, ww1⟩ := open_acts W (hval 1 72 v1 rfl rfl) h1
  refine (MemPlays_any a0 A_1 m1 c1 W wl1).mono fun e W' ⟨he, bel⟩ => ?_
  subst he
  exact ⟨_, rfl, _, _, _, [], _, [], hW', trodAll_mk1 (shut_bool Try.underlying4 _), trodAll_stays Try.laidOut bel _ _ _ _ (by kernel_rfl) hA hlt, rfl, bel.frame _, fun h => by cases h⟩
theorem named : Try.checked.prog.funcNamed Rows.memPlaysRow.func = some 15 := by kernel_rfl
theorem inst : Try.f15.isInstance Try.prog Rows.memPlaysRow.origin Rows.memPlaysRow.targs := of_decide_eq_true (by kernel_rfl)
theorem wrap : Try.f15.isWrapper Try.prog Rows.memPlaysRow.wrapper Rows.memPlaysRow.mainSum := by unfold Func.isWrapper; first | (rw [if_pos (by decide +kernel)]; kernel_rfl) | (rw [if_neg (by decide +kernel)]; exact ⟨rfl, rfl⟩)
theorem k0 : (Rows.memPlaysRow.wf (OpenSpec.ofChange Rows.memPlaysSpec)) = true := by kernel_rfl
theorem k3 : (Try.f15.params.all (Try.checked.prog.readableRec ·)) = true := by kernel_rfl
theorem k4 : (namedTie Try.checked.prog Rows.memPlaysRow.named Rows.memPlaysSpec.vars) = true := by kernel_rfl
theorem k5 : ((Rows.memPlaysRow.stops == [])) = true := by kernel_rfl
theorem k7 : ((Rows.memPlaysRow.knobs == [])) = true := by kernel_rfl
theorem k9 : ((Rows.memPlaysRow.inPlace == Try.checked.prog.inPlace 15)) = true := by kernel_rfl
theorem k10 : ((Rows.memPlaysRow.unfollowed == Try.checked.prog.unfollowed 15)) = true := by kernel_rfl
theorem k11 : ((Rows.memPlaysRow.recurses == Try.checked.prog.recurses 15)) = true := by kernel_rfl
theorem k12 : ((Rows.memPlaysRow.named == Try.checked.prog.varsNamed 15)) = true := by kernel_rfl
theorem k13 : ((Rows.memPlaysRow.maps == (Try.f15.params.toList ++ Rows.memPlaysSpec.plain.varTypes Try.checked.prog).any (Try.checked.prog.mapsRec ·))) = true := by kernel_rfl
theorem k14 : ((Rows.memPlaysRow.ifaces == (Try.f15.params.toList ++ Rows.memPlaysSpec.plain.varTypes Try.checked.prog).any (Try.checked.prog.ifacesRec ·))) = true := by kernel_rfl
theorem k15 : ((Rows.memPlaysRow.mapsOut == Try.checked.prog.mapsAmong Try.f15.resultTypes.toList)) = true := by kernel_rfl
theorem k16 : ((Rows.memPlaysRow.loops == (Try.f15.params.toList ++ Rows.memPlaysSpec.plain.varTypes Try.checked.prog).any (Try.checked.prog.loopsFrom ·))) = true := by kernel_rfl
theorem k17 : ((Rows.memPlaysRow.wideKeys == (Try.f15.params.toList ++ Rows.memPlaysSpec.plain.varTypes Try.checked.prog ++ Try.f15.resultTypes.toList).any (Try.checked.prog.wideKeysFrom ·))) = true := by kernel_rfl
theorem k18 : (Rows.memPlaysSpec.vars.all (Try.checked.prog.varReadable ·)) = true := by kernel_rfl
theorem k19 : (Try.f15.resultTypes.all (fun t => Try.checked.prog.readableRec t && decide (t < Try.checked.prog.types.size))) = true := by kernel_rfl
theorem k20 : ((Rows.memPlaysRow.ifacesOut == Try.f15.resultTypes.toList.any (Try.checked.prog.ifacesRec ·))) = true := by kernel_rfl
theorem k21 : ((Rows.memPlaysRow.loopsOut == Try.f15.resultTypes.toList.any (Try.checked.prog.loopsFrom ·))) = true := by kernel_rfl
theorem k22 : ((Rows.memPlaysRow.plainKeys == Try.checked.prog.plainKeys)) = true := by kernel_rfl
theorem k23 : (Rows.memPlaysRow.shortTexts.isNone) = true := by kernel_rfl
theorem k26 : (Rows.memPlaysRow.lifted == Try.checked.prog.liftsFinal) = true := by rw [p_liftsFinal]; kernel_rfl
theorem k27 : (Try.checked.prog.make == some Rows.memPlaysRow.make) = true := by rw [p_make]; kernel_rfl
theorem k28 : ((Rows.memPlaysRow.kinds == (if Rows.memPlaysRow.domain.isEmpty then [] else Try.f15.params.toList.map fun t => match Try.checked.prog.underlying t with | some (.int k) => some k | _ => none))) = true := by kernel_rfl
theorem k29 : ((Rows.memPlaysRow.pinned == Rows.memPlaysRow.pinnedBy)) = true := by kernel_rfl
theorem k30 : ((Rows.memPlaysRow.veiled == (Try.f15.params.toList ++ Rows.memPlaysSpec.plain.varTypes Try.checked.prog ++ Try.f15.resultTypes.toList).any (Try.checked.prog.veiledRec ·))) = true := by kernel_rfl
theorem k31 : (Rows.memPlaysRow.veiledFits Try.checked.prog Try.f15.params.toList (Try.f15.params.toList ++ Rows.memPlaysSpec.plain.varTypes Try.checked.prog ++ Try.f15.resultTypes.toList)) = true := by kernel_rfl
set_option maxRecDepth 100000 in
theorem facts : joinedFacts Try.checked.prog 15 Try.f15 Rows.memPlaysSpec Rows.memPlaysRow = true := by
  unfold joinedFacts
  exact and2 (and2 (and2 (and2 (and2 (and2 (and2 (and2 (and2 (and2 (and2 (and2 (and2 (and2 (and2 (and2 (and2 (and2 (and2 (and2 (and2 (and2 (and2 (and2 (and2 (and2 (and2 (and2 (and2 (and2 (and2 (k0) Try.laidOut) p_mapsRowed) k3) k4) k5) p_stops) k7) p_stopKnobs) k9) k10) k11) k12) k13) k14) k15) k16) k17) k18) k19) k20) k21) k22) k23) p_stopsHeard) p_mayEnter) k26) k27) k28) k29) k30) k31
theorem over : Rows.memPlaysRow.holds Try.pinned (OpenSpec.ofChange Rows.memPlaysSpec) :=
  OpenClaim.holds_of_wide 15 Try.f15 rfl rfl rfl rfl rfl rfl rfl ⟨rfl, rfl, rfl, rfl, rfl⟩ rfl rfl rfl rfl rfl named Try.func15 facts inst wrap
    (fun os started H enc _ => lifted os started H enc)
theorem proved : Rows.MemPlaysSaid := over
end Go.Proofs.Ytnpjfdiapoghnaa.memPlays
namespace Go.Proofs.Ytnpjfdiapoghnaa
theorem memPlays_holds : Rows.MemPlaysSaid := memPlays.proved
#print axioms memPlays_holds
end Go.Proofs.Ytnpjfdiapoghnaa
