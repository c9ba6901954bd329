/- Proved: for every input the law FnBoxed returns true (Boxed). No condition. -/
import Derived.Test.YtmbpomcbdopgnaaPbg
namespace Go.Proofs.Ytmbpomcbdopgnaa.rowFnBoxed
open Go.ChangeShapes Go.WideShapes Go.ChangeAt Go.RowKit Go.Proofs.Ytmbpomcbdopgnaa.Fw Go.Proofs.Ytmbpomcbdopgnaa.W
set_option linter.unusedVariables false
theorem own : ownKnob Try.prog.godebug = none := by kernel_rfl
theorem laid : laidOutB Try.prog = true := by kernel_rfl
theorem mapsR : mapsRowed Try.prog = true := by kernel_rfl
theorem full : ((List.range Try.prog.types.size).all fun t => match Try.prog.underlying t with | some (.slice e) => decide (0 < Try.prog.cellsOf e) | _ => true) = true := by kernel_rfl
theorem pts : Try.f3.params.toList.all (fun t => decide (t < Try.prog.types.size)) = true := by kernel_rfl
theorem bt : Try.prog.underlying 4 = some .bool := by kernel_rfl
set_option maxRecDepth 100000 in
theorem lifted (os : Os) (started : os.Started) (H : Type) (enc : TypeId × Value → H) :
    ReturnsInHanded {} Try.checked os 3 .any (Rows.fnBoxedSpec.pre6 enc Try.prog Try.f3 Rows.fnBoxedRow.domain false) (Rows.fnBoxedSpec.post enc Try.prog Try.f3 false true false false) := by
  refine returnsInHanded_of_change_sized (C := Try.checked) own started (by kernel_rfl) Try.func3
    (ChangeSpec.witness6 (enc := enc) (C := Try.checked) false ⟨#[], #[.slice none 0 0], []⟩ 16 (by kernel_rfl) (by kernel_rfl) (by kernel_rfl) (by kernel_rfl)) ?_
  intro W base args ds gs before hval0 hW hcnd hsz0 _
  have hsz : (DataW.weightsEach Try.prog (Try.f3.params.toList ++ Rows.fnBoxedSpec.plain.varTypes Try.prog) (ds ++ gs)).all (· ≤ reachBytes) = true := hsz0
  have hval : ∀ (j : Nat) t v, Try.f3.params[j]? = some t → args[j]? = some v → Value.okWide Try.prog W .any base t v := hval0
  have hW' := hW
  obtain ⟨p, q, hA0, hV, rfl, hfz, hnd⟩ := hW
  have hA : DataW.TrodAll enc Try.prog W 0 (fun _ => true) true Try.f3.params.toList args.toList ds p := hA0
  rw [Try.params3] at hA hval hsz
  obtain ⟨v0, d0, rfl, rfl, t0⟩ := trodAll_one hA
  obtain ⟨rfl, rfl⟩ := trodVars_none hV
  have o0 := hval 0 22 v0 rfl rfl
  obtain ⟨A0, l0, c0, L0, rfl, hlc0, hcm0, hL0, hR0, hk0⟩ := ok_rowI (d := 6) (k := .u8) (us := [5]) (m := 1) Try.underlying22 (by kernel_rfl) rfl (by decide) (by kernel_rfl) (by kernel_rfl) o0 t0
  refine Calls.mono (lawBoxed_ok hR0 (by omega) hlc0 hcm0 (fun y hy => u8_rg (hk0 y hy))) fun e W' ⟨v, he, hv, hx⟩ => ?_
  subst he; subst hv
  exact ⟨_, rfl, law_post laid mapsR full pts rfl rfl bt hW' rfl hx⟩
theorem over : Rows.fnBoxedRow.holds Try.pinned (OpenSpec.ofChange Rows.fnBoxedSpec) :=
  OpenClaim.holds_of_wide 3 Try.f3 rfl rfl rfl rfl rfl rfl rfl ⟨rfl, rfl, rfl, rfl, rfl⟩ rfl rfl rfl rfl rfl (by kernel_rfl) Try.func3 (by kernel_rfl)
    (of_decide_eq_true (by kernel_rfl)) (by unfold Func.isWrapper; first | (rw [if_pos (by decide +kernel)]; kernel_rfl) | (rw [if_neg (by decide +kernel)]; exact ⟨rfl, rfl⟩))
    (fun os started H enc _ => lifted os started H enc)
end Go.Proofs.Ytmbpomcbdopgnaa.rowFnBoxed
namespace Go.Proofs.Ytmbpomcbdopgnaa
theorem fnBoxed_holds : Rows.FnBoxedSaid := rowFnBoxed.over
#print axioms fnBoxed_holds
end Go.Proofs.Ytmbpomcbdopgnaa
