/- Proved: for every input the law FnExactStatusAt returns true (StatusAt returns what the reference returns). No condition. -/
import Derived.Test.YtmbpomcbdopgnaaPvn
namespace Go.Proofs.Ytmbpomcbdopgnaa.rowFnExactStatusAt
open Go.ChangeShapes Go.WideShapes Go.ChangeAt Go.RowKit Go.Proofs.Ytmbpomcbdopgnaa.Fw Go.Proofs.Ytmbpomcbdopgnaa.W
set_option linter.unusedVariables false
theorem own : ownKnob Try.prog.godebug = none := by kernel_rfl
theorem laid : laidOutB Try.prog = true := by kernel_rfl
theorem mapsR : mapsRowed Try.prog = true := by kernel_rfl
theorem full : ((List.range Try.prog.types.size).all fun t => match Try.prog.underlying t with | some (.slice e) => decide (0 < Try.prog.cellsOf e) | _ => true) = true := by kernel_rfl
theorem pts : Try.f6.params.toList.all (fun t => decide (t < Try.prog.types.size)) = true := by kernel_rfl
theorem bt : Try.prog.underlying 4 = some .bool := by kernel_rfl
theorem ct1 : Try.prog.cellTypes Try.prog.depth 61 = some [36, 36, 36, 36, 36, 36, 36, 36, 36, 36, 36, 36] := by kernel_rfl
theorem ck1 : ([36, 36, 36, 36, 36, 36, 36, 36, 36, 36, 36, 36] : List TypeId).map (fun u => Try.prog.underlying u) = ([IntKind.u64, IntKind.u64, IntKind.u64, IntKind.u64, IntKind.u64, IntKind.u64, IntKind.u64, IntKind.u64, IntKind.u64, IntKind.u64, IntKind.u64, IntKind.u64] : List IntKind).map (fun k => some (TypeDesc.int k)) := by kernel_rfl
theorem cs1 : Try.prog.cellsOf 61 = ([36, 36, 36, 36, 36, 36, 36, 36, 36, 36, 36, 36] : List TypeId).length := by kernel_rfl
set_option maxRecDepth 100000 in
theorem lifted (os : Os) (started : os.Started) (H : Type) (enc : TypeId × Value → H) :
    ReturnsInHanded {} Try.checked os 6 .any (Rows.fnExactStatusAtSpec.pre6 enc Try.prog Try.f6 Rows.fnExactStatusAtRow.domain false) (Rows.fnExactStatusAtSpec.post enc Try.prog Try.f6 false true false false) := by
  refine returnsInHanded_of_change_sized (C := Try.checked) own started (by kernel_rfl) Try.func6
    (ChangeSpec.witness6 (enc := enc) (C := Try.checked) false ⟨#[], #[.slice none 0 0, .agg #[.int .u64 0, .int .u64 0, .int .u64 0, .int .u64 0, .int .u64 0, .int .u64 0, .int .u64 0, .int .u64 0, .int .u64 0, .int .u64 0, .int .u64 0, .int .u64 0]], []⟩ 16 (by kernel_rfl) (by kernel_rfl) (by kernel_rfl) (by kernel_rfl)) ?_
  intro W base args ds gs before hval0 hW hcnd hsz0 _
  have hsz : (DataW.weightsEach Try.prog (Try.f6.params.toList ++ Rows.fnExactStatusAtSpec.plain.varTypes Try.prog) (ds ++ gs)).all (· ≤ reachBytes) = true := hsz0
  have hval : ∀ (j : Nat) t v, Try.f6.params[j]? = some t → args[j]? = some v → Value.okWide Try.prog W .any base t v := hval0
  have hW' := hW
  obtain ⟨p, q, hA0, hV, rfl, hfz, hnd⟩ := hW
  have hA : DataW.TrodAll enc Try.prog W 0 (fun _ => true) true Try.f6.params.toList args.toList ds p := hA0
  rw [Try.params6] at hA hval hsz
  obtain ⟨v0, v1, d0, d1, p0, p1, rfl, rfl, rfl, t0, t1⟩ := trodAll_two hA
  obtain ⟨rfl, rfl⟩ := trodVars_none hV
  have o0 := hval 0 58 v0 rfl rfl
  obtain ⟨A0, l0, c0, L0, rfl, hlc0, hcm0, hL0, hR0, hk0⟩ := ok_rowI (d := 6) (k := .i64) (us := [2, 2, 2, 2]) (m := 4) Try.underlying58 (by kernel_rfl) rfl (by decide) (by kernel_rfl) (by kernel_rfl) o0 t0
  have o1 := hval 1 61 v1 rfl rfl
  obtain ⟨ns1, rfl, hl1, hb1⟩ := ok_ints Try.underlying61 ct1 ck1 cs1 o1
  obtain _ | ⟨x3, ns1⟩ := ns1
  · simp at hl1
  obtain _ | ⟨x2, ns1⟩ := ns1
  · simp at hl1
  obtain _ | ⟨x1, ns1⟩ := ns1
  · simp at hl1
  obtain _ | ⟨x0, ns1⟩ := ns1
  · simp at hl1
  obtain _ | ⟨y3, ns1⟩ := ns1
  · simp at hl1
  obtain _ | ⟨y2, ns1⟩ := ns1
  · simp at hl1
  obtain _ | ⟨y1, ns1⟩ := ns1
  · simp at hl1
  obtain _ | ⟨y0, ns1⟩ := ns1
  · simp at hl1
  obtain _ | ⟨u3, ns1⟩ := ns1
  · simp at hl1
  obtain _ | ⟨u2, ns1⟩ := ns1
  · simp at hl1
  obtain _ | ⟨u1, ns1⟩ := ns1
  · simp at hl1
  obtain _ | ⟨u0, ns1⟩ := ns1
  · simp at hl1
  obtain _ | ⟨_, _⟩ := ns1
  rotate_left
  · simp at hl1
  have w_x3 := hb1 0 _ x3 rfl rfl
  have w_x2 := hb1 1 _ x2 rfl rfl
  have w_x1 := hb1 2 _ x1 rfl rfl
  have w_x0 := hb1 3 _ x0 rfl rfl
  have w_y3 := hb1 4 _ y3 rfl rfl
  have w_y2 := hb1 5 _ y2 rfl rfl
  have w_y1 := hb1 6 _ y1 rfl rfl
  have w_y0 := hb1 7 _ y0 rfl rfl
  have w_u3 := hb1 8 _ u3 rfl rfl
  have w_u2 := hb1 9 _ u2 rfl rfl
  have w_u1 := hb1 10 _ u1 rfl rfl
  have w_u0 := hb1 11 _ u0 rfl rfl
  refine Calls.mono (lawStatusAt_w hR0 (by omega) hlc0 hcm0 (u64_rg w_x3) (u64_rg w_x2) (u64_rg w_x1) (u64_rg w_x0) (u64_rg w_y3) (u64_rg w_y2) (u64_rg w_y1) (u64_rg w_y0) (u64_rg w_u3) (u64_rg w_u2) (u64_rg w_u1) (u64_rg w_u0)) fun e W' ⟨v, he, hv, hx⟩ => ?_
  subst he; subst hv
  exact ⟨_, rfl, law_post laid mapsR full pts rfl rfl bt hW' rfl hx⟩
theorem over : Rows.fnExactStatusAtRow.holds Try.pinned (OpenSpec.ofChange Rows.fnExactStatusAtSpec) :=
  OpenClaim.holds_of_wide 6 Try.f6 rfl rfl rfl rfl rfl rfl rfl ⟨rfl, rfl, rfl, rfl, rfl⟩ rfl rfl rfl rfl rfl (by kernel_rfl) Try.func6 (by kernel_rfl)
    (of_decide_eq_true (by kernel_rfl)) (by unfold Func.isWrapper; first | (rw [if_pos (by decide +kernel)]; kernel_rfl) | (rw [if_neg (by decide +kernel)]; exact ⟨rfl, rfl⟩))
    (fun os started H enc _ => lifted os started H enc)
end Go.Proofs.Ytmbpomcbdopgnaa.rowFnExactStatusAt
namespace Go.Proofs.Ytmbpomcbdopgnaa
theorem fnExactStatusAt_holds : Rows.FnExactStatusAtSaid := rowFnExactStatusAt.over
#print axioms fnExactStatusAt_holds
end Go.Proofs.Ytmbpomcbdopgnaa
