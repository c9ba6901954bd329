/- Proved: for every input the law FnExactEventTake returns true (EventTake returns what the reference returns). No condition. -/
import Derived.Test.YtmbpomcbdopgnaaPtg
namespace Go.Proofs.Ytmbpomcbdopgnaa.rowFnExactEventTake
open Go.ChangeShapes Go.WideShapes Go.ChangeAt Go.RowKit Go.Proofs.Ytmbpomcbdopgnaa.Fw Go.Proofs.Ytmbpomcbdopgnaa.W
set_option linter.unusedVariables false
theorem own : ownKnob Try.prog.godebug = none := by kernel_rfl
theorem laid : laidOutB Try.prog = true := by kernel_rfl
theorem mapsR : mapsRowed Try.prog = true := by kernel_rfl
theorem full : ((List.range Try.prog.types.size).all fun t => match Try.prog.underlying t with | some (.slice e) => decide (0 < Try.prog.cellsOf e) | _ => true) = true := by kernel_rfl
theorem pts : Try.f5.params.toList.all (fun t => decide (t < Try.prog.types.size)) = true := by kernel_rfl
theorem bt : Try.prog.underlying 4 = some .bool := by kernel_rfl
set_option maxRecDepth 100000 in
theorem lifted (os : Os) (started : os.Started) (H : Type) (enc : TypeId × Value → H) :
    ReturnsInHanded {} Try.checked os 5 .any (Rows.fnExactEventTakeSpec.pre6 enc Try.prog Try.f5 Rows.fnExactEventTakeRow.domain false) (Rows.fnExactEventTakeSpec.post enc Try.prog Try.f5 false true false false) := by
  refine returnsInHanded_of_change_sized (C := Try.checked) own started (by kernel_rfl) Try.func5
    (ChangeSpec.witness6 (enc := enc) (C := Try.checked) false ⟨#[], #[.slice none 0 0], []⟩ 16 (by kernel_rfl) (by kernel_rfl) (by kernel_rfl) (by kernel_rfl)) ?_
  intro W base args ds gs before hval0 hW hcnd hsz0 _
  have hsz : (DataW.weightsEach Try.prog (Try.f5.params.toList ++ Rows.fnExactEventTakeSpec.plain.varTypes Try.prog) (ds ++ gs)).all (· ≤ reachBytes) = true := hsz0
  have hval : ∀ (j : Nat) t v, Try.f5.params[j]? = some t → args[j]? = some v → Value.okWide Try.prog W .any base t v := hval0
  have hW' := hW
  obtain ⟨p, q, hA0, hV, rfl, hfz, hnd⟩ := hW
  have hA : DataW.TrodAll enc Try.prog W 0 (fun _ => true) true Try.f5.params.toList args.toList ds p := hA0
  rw [Try.params5] at hA hval hsz
  obtain ⟨v0, d0, rfl, rfl, t0⟩ := trodAll_one hA
  obtain ⟨rfl, rfl⟩ := trodVars_none hV
  have o0 := hval 0 43 v0 rfl rfl
  obtain ⟨A0, l0, c0, W0, E0, SL0, rfl, hlc0, hcm0, hR0, hS0, hW0⟩ := ok_rowE (d := 6) (us := [36, 36, 36, 36, 36, 36, 36, 36, 36, 36, 36, 36, 50]) (ts := 50) (te := 2) Try.underlying43 (by kernel_rfl) (by kernel_rfl) rfl (by kernel_rfl) rfl Try.underlying50 Try.underlying2 (by kernel_rfl) o0 t0
  refine Calls.mono (lawEventTake_w hR0 hlc0 hcm0 hS0 hW0) fun e W' ⟨v, he, hv, hx⟩ => ?_
  subst he; subst hv
  exact ⟨_, rfl, law_post laid mapsR full pts rfl rfl bt hW' rfl hx⟩
theorem over : Rows.fnExactEventTakeRow.holds Try.pinned (OpenSpec.ofChange Rows.fnExactEventTakeSpec) :=
  OpenClaim.holds_of_wide 5 Try.f5 rfl rfl rfl rfl rfl rfl rfl ⟨rfl, rfl, rfl, rfl, rfl⟩ rfl rfl rfl rfl rfl (by kernel_rfl) Try.func5 (by kernel_rfl)
    (of_decide_eq_true (by kernel_rfl)) (by unfold Func.isWrapper; first | (rw [if_pos (by decide +kernel)]; kernel_rfl) | (rw [if_neg (by decide +kernel)]; exact ⟨rfl, rfl⟩))
    (fun os started H enc _ => lifted os started H enc)
end Go.Proofs.Ytmbpomcbdopgnaa.rowFnExactEventTake
namespace Go.Proofs.Ytmbpomcbdopgnaa
theorem fnExactEventTake_holds : Rows.FnExactEventTakeSaid := rowFnExactEventTake.over
#print axioms fnExactEventTake_holds
end Go.Proofs.Ytmbpomcbdopgnaa
