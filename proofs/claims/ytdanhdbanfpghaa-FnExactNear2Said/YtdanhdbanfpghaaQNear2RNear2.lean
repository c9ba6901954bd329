/- Proved: for every input the law FnExactNear2 returns true (Near2 returns what the reference returns). No condition. -/
import Derived.Test.YtdanhdbanfpghaaQNear2f
namespace Go.Proofs.Ytdanhdbanfpghaa.rowFnExactNear2
open Go.ChangeShapes Go.WideShapes Go.ChangeAt Go.RowKit Go.Proofs.Ytdanhdbanfpghaa.Fw Go.Proofs.Ytdanhdbanfpghaa.W
set_option linter.unusedVariables false
theorem own : ownKnob Try.prog.godebug = none := by kernel_rfl
theorem laid : laidOutB Try.prog = true := by kernel_rfl
theorem mapsR : mapsRowed Try.prog = true := by kernel_rfl
theorem full : ((List.range Try.prog.types.size).all fun t => match Try.prog.underlying t with | some (.slice e) => decide (0 < Try.prog.cellsOf e) | _ => true) = true := by kernel_rfl
theorem pts : Try.f11.params.toList.all (fun t => decide (t < Try.prog.types.size)) = true := by kernel_rfl
theorem bt : Try.prog.underlying 4 = some .bool := by kernel_rfl
theorem ct0 : Try.prog.cellTypes Try.prog.depth 43 = some [2, 2, 2, 2] := by kernel_rfl
theorem ck0 : ([2, 2, 2, 2] : List TypeId).map (fun u => Try.prog.underlying u) = ([IntKind.i64, IntKind.i64, IntKind.i64, IntKind.i64] : List IntKind).map (fun k => some (TypeDesc.int k)) := by kernel_rfl
theorem cs0 : Try.prog.cellsOf 43 = ([2, 2, 2, 2] : List TypeId).length := by kernel_rfl
theorem ct1 : Try.prog.cellTypes Try.prog.depth 41 = some [2, 2] := by kernel_rfl
theorem ck1 : ([2, 2] : List TypeId).map (fun u => Try.prog.underlying u) = ([IntKind.i64, IntKind.i64] : List IntKind).map (fun k => some (TypeDesc.int k)) := by kernel_rfl
theorem cs1 : Try.prog.cellsOf 41 = ([2, 2] : List TypeId).length := by kernel_rfl
set_option maxRecDepth 100000 in
theorem lifted (os : Os) (started : os.Started) (H : Type) (enc : TypeId × Value → H) :
    ReturnsInHanded {} Try.checked os 11 .any (Rows.fnExactNear2Spec.pre6 enc Try.prog Try.f11 Rows.fnExactNear2Row.domain false) (Rows.fnExactNear2Spec.post enc Try.prog Try.f11 false true false false) := by
  refine returnsInHanded_of_change_sized (C := Try.checked) own started (by kernel_rfl) Try.func11
    (ChangeSpec.witness6 (enc := enc) (C := Try.checked) false ⟨#[], #[.agg #[.int .i64 0, .int .i64 0, .int .i64 0, .int .i64 0], .agg #[.int .i64 0, .int .i64 0]], []⟩ 16 (by kernel_rfl) (by kernel_rfl) (by kernel_rfl) (by kernel_rfl)) ?_
  intro W base args ds gs before hval0 hW hcnd hsz0 _
  have hsz : (DataW.weightsEach Try.prog (Try.f11.params.toList ++ Rows.fnExactNear2Spec.plain.varTypes Try.prog) (ds ++ gs)).all (· ≤ reachBytes) = true := hsz0
  have hval : ∀ (j : Nat) t v, Try.f11.params[j]? = some t → args[j]? = some v → Value.okWide Try.prog W .any base t v := hval0
  have hW' := hW
  obtain ⟨p, q, hA0, hV, rfl, hfz, hnd⟩ := hW
  have hA : DataW.TrodAll enc Try.prog W 0 (fun _ => true) true Try.f11.params.toList args.toList ds p := hA0
  rw [Try.params11] at hA hval hsz
  obtain ⟨v0, v1, d0, d1, p0, p1, rfl, rfl, rfl, t0, t1⟩ := trodAll_two hA
  obtain ⟨rfl, rfl⟩ := trodVars_none hV
  have o0 := hval 0 43 v0 rfl rfl
  obtain ⟨ns0, rfl, hl0, hb0⟩ := ok_ints Try.underlying43 ct0 ck0 cs0 o0
  obtain _ | ⟨ax, ns0⟩ := ns0
  · simp at hl0
  obtain _ | ⟨ay, ns0⟩ := ns0
  · simp at hl0
  obtain _ | ⟨bx, ns0⟩ := ns0
  · simp at hl0
  obtain _ | ⟨b_y, ns0⟩ := ns0
  · simp at hl0
  obtain _ | ⟨_, _⟩ := ns0
  rotate_left
  · simp at hl0
  have w_ax := hb0 0 _ ax rfl rfl
  have w_ay := hb0 1 _ ay rfl rfl
  have w_bx := hb0 2 _ bx rfl rfl
  have w_b_y := hb0 3 _ b_y rfl rfl
  have o1 := hval 1 41 v1 rfl rfl
  obtain ⟨ns1, rfl, hl1, hb1⟩ := ok_ints Try.underlying41 ct1 ck1 cs1 o1
  obtain _ | ⟨px, ns1⟩ := ns1
  · simp at hl1
  obtain _ | ⟨py, ns1⟩ := ns1
  · simp at hl1
  obtain _ | ⟨_, _⟩ := ns1
  rotate_left
  · simp at hl1
  have w_px := hb1 0 _ px rfl rfl
  have w_py := hb1 1 _ py rfl rfl
  refine Calls.mono (lawNear2_w (i64_rg w_ax) (i64_rg w_ay) (i64_rg w_bx) (i64_rg w_b_y) (i64_rg w_px) (i64_rg w_py)) fun e W' ⟨v, he, hv, hx⟩ => ?_
  subst he; subst hv
  exact ⟨_, rfl, law_post laid mapsR full pts rfl rfl bt hW' rfl hx⟩
theorem over : Rows.fnExactNear2Row.holds Try.pinned (OpenSpec.ofChange Rows.fnExactNear2Spec) :=
  OpenClaim.holds_of_wide 11 Try.f11 rfl rfl rfl rfl rfl rfl rfl ⟨rfl, rfl, rfl, rfl, rfl⟩ rfl rfl rfl rfl rfl (by kernel_rfl) Try.func11 (by kernel_rfl)
    (of_decide_eq_true (by kernel_rfl)) (by unfold Func.isWrapper; first | (rw [if_pos (by decide +kernel)]; kernel_rfl) | (rw [if_neg (by decide +kernel)]; exact ⟨rfl, rfl⟩))
    (fun os started H enc _ => lifted os started H enc)
end Go.Proofs.Ytdanhdbanfpghaa.rowFnExactNear2
namespace Go.Proofs.Ytdanhdbanfpghaa
theorem fnExactNear2_holds : Rows.FnExactNear2Said := rowFnExactNear2.over
#print axioms fnExactNear2_holds
end Go.Proofs.Ytdanhdbanfpghaa
