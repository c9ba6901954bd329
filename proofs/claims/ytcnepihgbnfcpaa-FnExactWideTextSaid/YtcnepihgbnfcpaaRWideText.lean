/- Proved: for every input the law FnExactWideText returns true (WideText returns what the reference returns). No condition. -/
import Derived.Test.YtcnepihgbnfcpaaWkLWideText
import Derived.Test.YtcnepihgbnfcpaaFw5
import Derived.Test.YtcnepihgbnfcpaaFw12
namespace Go.Proofs.Ytcnepihgbnfcpaa.rowFnExactWideText
open Go.ChangeShapes Go.WideShapes Go.ChangeAt Go.RowKit Go.Proofs.Ytcnepihgbnfcpaa.Fw Go.Proofs.Ytcnepihgbnfcpaa.W
set_option linter.unusedVariables false
theorem own : ownKnob Try.prog.godebug = none := by kernel_rfl
theorem laid : laidOutB Try.prog = true := by kernel_rfl
theorem mapsR : mapsRowed Try.prog = true := by kernel_rfl
theorem full : ((List.range Try.prog.types.size).all fun t => match Try.prog.underlying t with | some (.slice e) => decide (0 < Try.prog.cellsOf e) | _ => true) = true := by kernel_rfl
theorem pts : Try.f3.params.toList.all (fun t => decide (t < Try.prog.types.size)) = true := by kernel_rfl
theorem bt : Try.prog.underlying 4 = some .bool := by kernel_rfl
theorem ct0 : Try.prog.cellTypes Try.prog.depth 24 = some [22, 22, 22, 22] := by kernel_rfl
theorem ck0 : ([22, 22, 22, 22] : List TypeId).map (fun u => Try.prog.underlying u) = ([IntKind.u64, IntKind.u64, IntKind.u64, IntKind.u64] : List IntKind).map (fun k => some (TypeDesc.int k)) := by kernel_rfl
theorem cs0 : Try.prog.cellsOf 24 = ([22, 22, 22, 22] : List TypeId).length := by kernel_rfl
set_option maxRecDepth 100000 in
theorem lifted (os : Os) (started : os.Started) (H : Type) (enc : TypeId × Value → H) :
    ReturnsInHanded {} Try.checked os 3 .any (Rows.fnExactWideTextSpec.pre6 enc Try.prog Try.f3 Rows.fnExactWideTextRow.domain false) (Rows.fnExactWideTextSpec.post enc Try.prog Try.f3 false true false false) := by
  refine returnsInHanded_of_change_sized (C := Try.checked) own started (by kernel_rfl) Try.func3
    (ChangeSpec.witness6 (enc := enc) (C := Try.checked) false ⟨#[], #[.agg #[.int .u64 0, .int .u64 0, .int .u64 0, .int .u64 0]], []⟩ 16 (by kernel_rfl) (by kernel_rfl) (by kernel_rfl) (by kernel_rfl)) ?_
  intro W base args ds gs before hval0 hW hcnd hsz0 _
  have hsz : (DataW.weightsEach Try.prog (Try.f3.params.toList ++ Rows.fnExactWideTextSpec.plain.varTypes Try.prog) (ds ++ gs)).all (· ≤ reachBytes) = true := hsz0
  have hval : ∀ (j : Nat) t v, Try.f3.params[j]? = some t → args[j]? = some v → Value.okWide Try.prog W .any base t v := hval0
  have hW' := hW
  obtain ⟨p, q, hA0, hV, rfl, hfz, hnd⟩ := hW
  have hA : DataW.TrodAll enc Try.prog W 0 (fun _ => true) true Try.f3.params.toList args.toList ds p := hA0
  rw [Try.params3] at hA hval hsz
  obtain ⟨v0, d0, rfl, rfl, t0⟩ := trodAll_one hA
  obtain ⟨rfl, rfl⟩ := trodVars_none hV
  have o0 := hval 0 24 v0 rfl rfl
  obtain ⟨ns0, rfl, hl0, hb0⟩ := ok_ints Try.underlying24 ct0 ck0 cs0 o0
  obtain _ | ⟨x3, ns0⟩ := ns0
  · simp at hl0
  obtain _ | ⟨x2, ns0⟩ := ns0
  · simp at hl0
  obtain _ | ⟨x1, ns0⟩ := ns0
  · simp at hl0
  obtain _ | ⟨x0, ns0⟩ := ns0
  · simp at hl0
  obtain _ | ⟨_, _⟩ := ns0
  rotate_left
  · simp at hl0
  have w_x3 := hb0 0 _ x3 rfl rfl
  have w_x2 := hb0 1 _ x2 rfl rfl
  have w_x1 := hb0 2 _ x1 rfl rfl
  have w_x0 := hb0 3 _ x0 rfl rfl
  refine Calls.mono (lawWideText_w (u64_rg w_x3) (u64_rg w_x2) (u64_rg w_x1) (u64_rg w_x0)) fun e W' ⟨v, he, hv, hx⟩ => ?_
  subst he; subst hv
  exact ⟨_, rfl, law_post laid mapsR full pts rfl rfl bt hW' rfl hx⟩
theorem over : Rows.fnExactWideTextRow.holds Try.pinned (OpenSpec.ofChange Rows.fnExactWideTextSpec) :=
  OpenClaim.holds_of_wide 3 Try.f3 rfl rfl rfl rfl rfl rfl rfl ⟨rfl, rfl, rfl, rfl, rfl⟩ rfl rfl rfl rfl rfl (by kernel_rfl) Try.func3 (by kernel_rfl)
    (of_decide_eq_true (by kernel_rfl)) (by unfold Func.isWrapper; first | (rw [if_pos (by decide +kernel)]; kernel_rfl) | (rw [if_neg (by decide +kernel)]; exact ⟨rfl, rfl⟩))
    (fun os started H enc _ => lifted os started H enc)
end Go.Proofs.Ytcnepihgbnfcpaa.rowFnExactWideText
namespace Go.Proofs.Ytcnepihgbnfcpaa
theorem fnExactWideText_holds : Rows.FnExactWideTextSaid := rowFnExactWideText.over
#print axioms fnExactWideText_holds
end Go.Proofs.Ytcnepihgbnfcpaa
