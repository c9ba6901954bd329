/- The walks of the seat's first functions. -/
import Derived.Test.YtohpoenckafgiaaRows
import Derived.Test.YtohpoenckafgiaaFw5
import Derived.Test.YtohpoenckafgiaaFw7
set_option linter.unusedVariables false
namespace Go.Proofs.Ytohpoenckafgiaa.W
open Go Go.RowKit Go.Proofs.Ytohpoenckafgiaa.Fw
attribute [local irreducible] RunK LW AW DV OE Ct
def mx0 : Int := 0
def spotOk (x y : Int) : Prop := (-1000000 ≤ x ∧ x ≤ 1000000) ∧ -1000000 ≤ y ∧ y ≤ 1000000
instance (x y : Int) : Decidable (spotOk x y) := by unfold spotOk; infer_instance
def spotLt (ax ay bx by_ : Int) : Prop := ax < bx ∨ (ax = bx ∧ ay < by_)
instance (ax ay bx by_ : Int) : Decidable (spotLt ax ay bx by_) := by unfold spotLt; infer_instance
def cmpS (ax ay bx by_ : Int) : Int := if ax = bx ∧ ay = by_ then 0 else if spotLt ax ay bx by_ then -1 else 1
theorem cmpS_neg {ax ay bx by_ : Int} : cmpS ax ay bx by_ < 0 ↔ spotLt ax ay bx by_ := by
  unfold cmpS
  by_cases h0 : ax = bx ∧ ay = by_
  · rw [if_pos h0]; unfold spotLt; omega
  · rw [if_neg h0]
    by_cases h : spotLt ax ay bx by_
    · rw [if_pos h]; simp [h]
    · rw [if_neg h]; simp [h]
theorem cmpS_pos {ax ay bx by_ : Int} : 0 < cmpS ax ay bx by_ ↔ spotLt bx by_ ax ay := by
  unfold cmpS
  by_cases h0 : ax = bx ∧ ay = by_
  · rw [if_pos h0]; unfold spotLt; omega
  · rw [if_neg h0]
    by_cases h : spotLt ax ay bx by_
    · rw [if_pos h]; unfold spotLt at *; omega
    · rw [if_neg h]; unfold spotLt at *; omega
def segOk (ax ay bx by_ : Int) : Prop := spotOk ax ay ∧ spotOk bx by_ ∧ spotLt ax ay bx by_
instance (ax ay bx by_ : Int) : Decidable (segOk ax ay bx by_) := by unfold segOk; infer_instance
def ordV (ax ay bx by_ : Int) : Int × Int × Int × Int := if spotLt bx by_ ax ay then (bx, by_, ax, ay) else (ax, ay, bx, by_)
def segOfOk (ax ay bx by_ : Int) : Prop := spotOk ax ay ∧ spotOk bx by_ ∧ ¬ (ax = bx ∧ ay = by_)
instance (ax ay bx by_ : Int) : Decidable (segOfOk ax ay bx by_) := by unfold segOfOk; infer_instance
def segOfV (ax ay bx by_ : Int) : Int × Int × Int × Int := if segOfOk ax ay bx by_ then ordV ax ay bx by_ else (0, 0, 0, 0)
theorem ag2 : aggB Try.prog 2 = some false := by kernel_rfl
theorem ag24 : aggB Try.prog 24 = some true := by kernel_rfl
theorem ag26 : aggB Try.prog 26 = some true := by kernel_rfl
theorem ag30 : aggB Try.prog 30 = some true := by kernel_rfl
theorem ag33 : aggB Try.prog 33 = some true := by kernel_rfl
theorem co10 : callOk Try.prog 10 = true := by kernel_rfl
theorem co11 : callOk Try.prog 11 = true := by kernel_rfl
theorem co12 : callOk Try.prog 12 = true := by kernel_rfl
theorem co13 : callOk Try.prog 13 = true := by kernel_rfl
theorem co14 : callOk Try.prog 14 = true := by kernel_rfl
theorem co15 : callOk Try.prog 15 = true := by kernel_rfl
theorem co16 : callOk Try.prog 16 = true := by kernel_rfl
theorem co17 : callOk Try.prog 17 = true := by kernel_rfl
theorem co25 : callOk Try.prog 25 = true := by kernel_rfl
theorem co26 : callOk Try.prog 26 = true := by kernel_rfl
theorem co27 : callOk Try.prog 27 = true := by kernel_rfl
theorem co28 : callOk Try.prog 28 = true := by kernel_rfl
theorem co29 : callOk Try.prog 29 = true := by kernel_rfl
theorem co30 : callOk Try.prog 30 = true := by kernel_rfl
theorem co9 : callOk Try.prog 9 = true := by kernel_rfl
theorem eg26 : Try.prog.eqGuardType Try.prog.depth 26 = false := by kernel_rfl
theorem fl26 : flatB Try.prog 26 .i64 2 = true := by kernel_rfl
theorem fo24_0 : fieldOffB Try.prog 24 0 = some 0 := by kernel_rfl
theorem fo24_1 : fieldOffB Try.prog 24 1 = some 1 := by kernel_rfl
theorem fo26_0 : fieldOffB Try.prog 26 0 = some 0 := by kernel_rfl
theorem fo26_1 : fieldOffB Try.prog 26 1 = some 1 := by kernel_rfl
theorem fo30_0 : fieldOffB Try.prog 30 0 = some 0 := by kernel_rfl
theorem fo30_1 : fieldOffB Try.prog 30 1 = some 2 := by kernel_rfl
theorem fo33_0 : fieldOffB Try.prog 33 0 = some 0 := by kernel_rfl
theorem fo33_1 : fieldOffB Try.prog 33 1 = some 2 := by kernel_rfl
theorem mo : Try.prog.follows .mixedOrders = true := by kernel_rfl
theorem pl33 : placesB Try.prog 33 = some [(0, 2), (2, 2)] := by kernel_rfl
theorem sz2 : sizeB Try.prog 2 = some 1 := by kernel_rfl
theorem sz24 : sizeB Try.prog 24 = some 2 := by kernel_rfl
theorem sz26 : sizeB Try.prog 26 = some 2 := by kernel_rfl
theorem sz30 : sizeB Try.prog 30 = some 4 := by kernel_rfl
theorem sz33 : sizeB Try.prog 33 = some 4 := by kernel_rfl
theorem ub4 : Try.prog.underlying 4 = some .bool := by kernel_rfl
theorem zc33 : zcB Try.prog 33 = some [.int .i64 0, .int .i64 0, .int .i64 0, .int .i64 0] := by kernel_rfl
theorem ze26 : zeroB Try.prog 26 = some #[.int .i64 0, .int .i64 0] := by kernel_rfl
theorem ze33 : zeroB Try.prog 33 = some #[.int .i64 0, .int .i64 0, .int .i64 0, .int .i64 0] := by kernel_rfl
theorem l1In_ok {w : World} {n lo hi : Int} : Ct Try.prog 25 [.int .i64 n, .int .i64 lo, .int .i64 hi] w fun v w1 => v = .bool (decide (lo ≤ n ∧ n ≤ hi)) ∧ Ext w w1 := by
  refine ct_run (n := 15) Try.func25 rfl Try.ntmps25 rfl ?_
  have E0 : Below w.heap.size w w := Below.refl _ _
  refine rk_seq ?_
  refine rk_reg ?_
  refine lw_v (.bool false) (dv_assign C) ?_
  refine lw_nil ?_
  refine rk_seq ?_
  refine rk_reg ?_
  refine lw_v (.int .i64 n) (dv_move (T rfl rfl)) ?_
  refine lw_v (.int .i64 lo) (dv_move (T rfl rfl)) ?_
  refine lw_v (.bool (decide (lo ≤ n))) (dv_geq (a := n) (b := lo) (T rfl rfl) (T rfl rfl)) ?_
  refine lw_v (.bool (decide (lo ≤ n))) (dv_move (T rfl rfl)) ?_
  by_cases hb1 : lo ≤ n
  · -- T
    refine lw_vy (.int .i64 n) (d := 10) rfl rfl (congrArg Value.bool (decide_eq_true hb1)) (dv_move (T rfl rfl)) ?_
    refine lw_vy (.int .i64 hi) (d := 10) rfl rfl (congrArg Value.bool (decide_eq_true hb1)) (dv_move (T rfl rfl)) ?_
    refine lw_vy (.bool (decide (n ≤ hi))) (d := 10) rfl rfl (congrArg Value.bool (decide_eq_true hb1)) (dv_leq (a := n) (b := hi) (T rfl rfl) (T rfl rfl)) ?_
    refine lw_v (.bool (decide (n ≤ hi))) (dv_pick_t (T rfl (congrArg Value.bool (decide_eq_true hb1))) (T rfl rfl)) ?_
    refine lw_v (.bool (decide (n ≤ hi))) (dv_assign (T rfl rfl)) ?_
    refine lw_nil ?_
    refine rk_ret Try.func25 (v := .bool (decide (n ≤ hi))) (res1 Try.results25 (rv_tmp rfl rfl)) ⟨_, rfl, ?_⟩
    exact ⟨(vb (by grind)), E0⟩
  · -- F
    refine lw_no (d := 10) rfl rfl (congrArg Value.bool (decide_eq_false hb1)) ?_
    refine lw_no (d := 10) rfl rfl (congrArg Value.bool (decide_eq_false hb1)) ?_
    refine lw_no (d := 10) rfl rfl (congrArg Value.bool (decide_eq_false hb1)) ?_
    refine lw_v (.bool false) (dv_pick_f (T rfl (congrArg Value.bool (decide_eq_false hb1))) C) ?_
    refine lw_v (.bool false) (dv_assign (T rfl rfl)) ?_
    refine lw_nil ?_
    refine rk_ret Try.func25 (v := .bool false) (res1 Try.results25 (rv_tmp rfl rfl)) ⟨_, rfl, ?_⟩
    exact ⟨(vf (by grind)), E0⟩
theorem within_ok {w : World} {n lo hi : Int} : Ct Try.prog 26 [.int .i64 n, .int .i64 lo, .int .i64 hi] w fun v w1 => v = .bool (decide (lo ≤ n ∧ n ≤ hi)) ∧ Ext w w1 := by
  refine ct_run (n := 15) Try.func26 rfl Try.ntmps26 rfl ?_
  have E0 : Below w.heap.size w w := Below.refl _ _
  refine rk_seq ?_
  refine rk_reg ?_
  refine lw_v (.bool false) (dv_assign C) ?_
  refine lw_nil ?_
  refine rk_seq ?_
  refine rk_reg ?_
  refine lw_v (.int .i64 lo) (dv_move (T rfl rfl)) ?_
  refine lw_v (.int .i64 n) (dv_move (T rfl rfl)) ?_
  refine lw_v (.bool (decide (lo ≤ n))) (dv_leq (a := lo) (b := n) (T rfl rfl) (T rfl rfl)) ?_
  refine lw_v (.bool (decide (lo ≤ n))) (dv_move (T rfl rfl)) ?_
  by_cases hb1 : lo ≤ n
  · -- T
    refine lw_vy (.int .i64 n) (d := 10) rfl rfl (congrArg Value.bool (decide_eq_true hb1)) (dv_move (T rfl rfl)) ?_
    refine lw_vy (.int .i64 hi) (d := 10) rfl rfl (congrArg Value.bool (decide_eq_true hb1)) (dv_move (T rfl rfl)) ?_
    refine lw_vy (.bool (decide (n ≤ hi))) (d := 10) rfl rfl (congrArg Value.bool (decide_eq_true hb1)) (dv_leq (a := n) (b := hi) (T rfl rfl) (T rfl rfl)) ?_
    refine lw_v (.bool (decide (n ≤ hi))) (dv_pick_t (T rfl (congrArg Value.bool (decide_eq_true hb1))) (T rfl rfl)) ?_
    refine lw_v (.bool (decide (n ≤ hi))) (dv_assign (T rfl rfl)) ?_
    refine lw_nil ?_
    refine rk_ret Try.func26 (v := .bool (decide (n ≤ hi))) (res1 Try.results26 (rv_tmp rfl rfl)) ⟨_, rfl, ?_⟩
    exact ⟨(vb (by grind)), E0⟩
  · -- F
    refine lw_no (d := 10) rfl rfl (congrArg Value.bool (decide_eq_false hb1)) ?_
    refine lw_no (d := 10) rfl rfl (congrArg Value.bool (decide_eq_false hb1)) ?_
    refine lw_no (d := 10) rfl rfl (congrArg Value.bool (decide_eq_false hb1)) ?_
    refine lw_v (.bool false) (dv_pick_f (T rfl (congrArg Value.bool (decide_eq_false hb1))) C) ?_
    refine lw_v (.bool false) (dv_assign (T rfl rfl)) ?_
    refine lw_nil ?_
    refine rk_ret Try.func26 (v := .bool false) (res1 Try.results26 (rv_tmp rfl rfl)) ⟨_, rfl, ?_⟩
    exact ⟨(vf (by grind)), E0⟩
theorem sSpotOk_ok {w : World} {x y : Int} : Ct Try.prog 9 [.agg #[.int .i64 x, .int .i64 y]] w fun v w1 => v = .bool (decide (spotOk x y)) ∧ Ext w w1 := by
  refine ct_run (n := 11) Try.func9 rfl Try.ntmps9 rfl ?_
  have E0 : Below w.heap.size w w := Below.refl _ _
  refine rk_seq ?_
  refine rk_reg ?_
  refine lw_e (oe_box (v := .agg #[.int .i64 x, .int .i64 y]) (cs := #[.int .i64 x, .int .i64 y]) (T rfl rfl) rfl ?_)
  intro b1 w2 n3
  have N4 : w.heap.size ≤ b1 := n3.eq ▸ E0.size
  have E5 := below_ext E0 E0.size n3.ext
  refine lw_v (.bool false) (dv_assign C) ?_
  refine lw_nil ?_
  refine rk_seq ?_
  refine rk_reg ?_
  refine lw_v (.pointer (some ⟨b1, 0, none⟩)) (dv_fieldAddr (a := ⟨b1, 0, none⟩) (a' := ⟨b1, 0, none⟩) fo26_0 (T rfl rfl) rfl) ?_
  refine lw_v (.int .i64 x) (dv_load1 (b := b1) (o := 0) ag2 (T rfl rfl) n3.blk rfl) ?_
  refine lw_e (oe_callf (vs := [.int .i64 x, .int .i64 (-1000000), .int .i64 1000000]) co25 (ar3 (T rfl rfl) C C) (l1In_ok ) ?_)
  rintro _ w6 ⟨rfl, e7⟩
  have E8 := below_ext E5 E5.size e7
  refine lw_v (.bool (decide ((-1000000 : Int) ≤ x ∧ x ≤ (1000000 : Int)))) (dv_move (T rfl rfl)) ?_
  by_cases hb9 : (-1000000 : Int) ≤ x ∧ x ≤ (1000000 : Int)
  · -- T
    refine lw_vy (.pointer (some ⟨b1, 1, none⟩)) (d := 6) rfl rfl (congrArg Value.bool (decide_eq_true hb9)) (dv_fieldAddr (a := ⟨b1, 0, none⟩) (a' := ⟨b1, 1, none⟩) fo26_1 (T rfl rfl) rfl) ?_
    have H10 := (e7.blk n3.blk)
    refine lw_vy (.int .i64 y) (d := 6) rfl rfl (congrArg Value.bool (decide_eq_true hb9)) (dv_load1 (b := b1) (o := 1) ag2 (T rfl rfl) H10 rfl) ?_
    refine lw_ey (d := 6) rfl rfl (congrArg Value.bool (decide_eq_true hb9)) (oe_callf (vs := [.int .i64 y, .int .i64 (-1000000), .int .i64 1000000]) co25 (ar3 (T rfl rfl) C C) (l1In_ok ) ?_)
    rintro _ w11 ⟨rfl, e12⟩
    have E13 := below_ext E8 E8.size e12
    refine lw_v (.bool (decide ((-1000000 : Int) ≤ y ∧ y ≤ (1000000 : Int)))) (dv_pick_t (T rfl (congrArg Value.bool (decide_eq_true hb9))) (T rfl rfl)) ?_
    refine lw_v (.bool (decide ((-1000000 : Int) ≤ y ∧ y ≤ (1000000 : Int)))) (dv_assign (T rfl rfl)) ?_
    refine lw_nil ?_
    refine rk_ret Try.func9 (v := .bool (decide ((-1000000 : Int) ≤ y ∧ y ≤ (1000000 : Int)))) (res1 Try.results9 (rv_tmp rfl rfl)) ⟨_, rfl, ?_⟩
    exact ⟨(vb (by unfold spotOk; grind)), E13⟩
  · -- F
    refine lw_no (d := 6) rfl rfl (congrArg Value.bool (decide_eq_false hb9)) ?_
    refine lw_no (d := 6) rfl rfl (congrArg Value.bool (decide_eq_false hb9)) ?_
    refine lw_no (d := 6) rfl rfl (congrArg Value.bool (decide_eq_false hb9)) ?_
    refine lw_v (.bool false) (dv_pick_f (T rfl (congrArg Value.bool (decide_eq_false hb9))) C) ?_
    refine lw_v (.bool false) (dv_assign (T rfl rfl)) ?_
    refine lw_nil ?_
    refine rk_ret Try.func9 (v := .bool false) (res1 Try.results9 (rv_tmp rfl rfl)) ⟨_, rfl, ?_⟩
    exact ⟨(vf (by unfold spotOk; grind)), E8⟩
theorem iSpotOk_ok {w : World} {x y : Int} : Ct Try.prog 11 [.agg #[.int .i64 x, .int .i64 y]] w fun v w1 => v = .bool (decide (spotOk x y)) ∧ Ext w w1 := by
  refine ct_run (n := 11) Try.func11 rfl Try.ntmps11 rfl ?_
  have E0 : Below w.heap.size w w := Below.refl _ _
  refine rk_seq ?_
  refine rk_reg ?_
  refine lw_e (oe_box (v := .agg #[.int .i64 x, .int .i64 y]) (cs := #[.int .i64 x, .int .i64 y]) (T rfl rfl) rfl ?_)
  intro b1 w2 n3
  have N4 : w.heap.size ≤ b1 := n3.eq ▸ E0.size
  have E5 := below_ext E0 E0.size n3.ext
  refine lw_v (.bool false) (dv_assign C) ?_
  refine lw_nil ?_
  refine rk_seq ?_
  refine rk_reg ?_
  refine lw_v (.pointer (some ⟨b1, 0, none⟩)) (dv_fieldAddr (a := ⟨b1, 0, none⟩) (a' := ⟨b1, 0, none⟩) fo26_0 (T rfl rfl) rfl) ?_
  refine lw_v (.int .i64 x) (dv_load1 (b := b1) (o := 0) ag2 (T rfl rfl) n3.blk rfl) ?_
  refine lw_e (oe_callf (vs := [.int .i64 x, .int .i64 (-1000000), .int .i64 1000000]) co26 (ar3 (T rfl rfl) C C) (within_ok ) ?_)
  rintro _ w6 ⟨rfl, e7⟩
  have E8 := below_ext E5 E5.size e7
  refine lw_v (.bool (decide ((-1000000 : Int) ≤ x ∧ x ≤ (1000000 : Int)))) (dv_move (T rfl rfl)) ?_
  by_cases hb9 : (-1000000 : Int) ≤ x ∧ x ≤ (1000000 : Int)
  · -- T
    refine lw_vy (.pointer (some ⟨b1, 1, none⟩)) (d := 6) rfl rfl (congrArg Value.bool (decide_eq_true hb9)) (dv_fieldAddr (a := ⟨b1, 0, none⟩) (a' := ⟨b1, 1, none⟩) fo26_1 (T rfl rfl) rfl) ?_
    have H10 := (e7.blk n3.blk)
    refine lw_vy (.int .i64 y) (d := 6) rfl rfl (congrArg Value.bool (decide_eq_true hb9)) (dv_load1 (b := b1) (o := 1) ag2 (T rfl rfl) H10 rfl) ?_
    refine lw_ey (d := 6) rfl rfl (congrArg Value.bool (decide_eq_true hb9)) (oe_callf (vs := [.int .i64 y, .int .i64 (-1000000), .int .i64 1000000]) co26 (ar3 (T rfl rfl) C C) (within_ok ) ?_)
    rintro _ w11 ⟨rfl, e12⟩
    have E13 := below_ext E8 E8.size e12
    refine lw_v (.bool (decide ((-1000000 : Int) ≤ y ∧ y ≤ (1000000 : Int)))) (dv_pick_t (T rfl (congrArg Value.bool (decide_eq_true hb9))) (T rfl rfl)) ?_
    refine lw_v (.bool (decide ((-1000000 : Int) ≤ y ∧ y ≤ (1000000 : Int)))) (dv_assign (T rfl rfl)) ?_
    refine lw_nil ?_
    refine rk_ret Try.func11 (v := .bool (decide ((-1000000 : Int) ≤ y ∧ y ≤ (1000000 : Int)))) (res1 Try.results11 (rv_tmp rfl rfl)) ⟨_, rfl, ?_⟩
    exact ⟨(vb (by unfold spotOk; grind)), E13⟩
  · -- F
    refine lw_no (d := 6) rfl rfl (congrArg Value.bool (decide_eq_false hb9)) ?_
    refine lw_no (d := 6) rfl rfl (congrArg Value.bool (decide_eq_false hb9)) ?_
    refine lw_no (d := 6) rfl rfl (congrArg Value.bool (decide_eq_false hb9)) ?_
    refine lw_v (.bool false) (dv_pick_f (T rfl (congrArg Value.bool (decide_eq_false hb9))) C) ?_
    refine lw_v (.bool false) (dv_assign (T rfl rfl)) ?_
    refine lw_nil ?_
    refine rk_ret Try.func11 (v := .bool false) (res1 Try.results11 (rv_tmp rfl rfl)) ⟨_, rfl, ?_⟩
    exact ⟨(vf (by unfold spotOk; grind)), E8⟩
theorem toSpot_ok {w : World} {x y : Int} : Ct Try.prog 10 [.agg #[.int .i64 x, .int .i64 y]] w fun v w1 => v = .agg #[.int .i64 x, .int .i64 y] ∧ Ext w w1 := by
  refine ct_run (n := 11) Try.func10 rfl Try.ntmps10 rfl ?_
  have E0 : Below w.heap.size w w := Below.refl _ _
  refine rk_seq ?_
  refine rk_reg ?_
  refine lw_e (oe_box (v := .agg #[.int .i64 x, .int .i64 y]) (cs := #[.int .i64 x, .int .i64 y]) (T rfl rfl) rfl ?_)
  intro b1 w2 n3
  have N4 : w.heap.size ≤ b1 := n3.eq ▸ E0.size
  have E5 := below_ext E0 E0.size n3.ext
  refine lw_e (oe_alloc ze26 ?_)
  intro b6 w7 n8
  have N9 : w.heap.size ≤ b6 := n8.eq ▸ E5.size
  have : b1 < b6 := n8.eq ▸ lt_of_blk n3.blk
  have E10 := below_ext E5 E5.size n8.ext
  refine lw_nil ?_
  refine rk_seq ?_
  refine rk_reg ?_
  refine lw_e (oe_alloc ze26 ?_)
  intro b11 w12 n13
  have N14 : w.heap.size ≤ b11 := n13.eq ▸ E10.size
  have : b6 < b11 := n13.eq ▸ lt_of_blk n8.blk
  have E15 := below_ext E10 E10.size n13.ext
  refine lw_nil ?_
  refine rk_seq ?_
  refine rk_reg ?_
  refine lw_v (.pointer (some ⟨b1, 0, none⟩)) (dv_fieldAddr (a := ⟨b1, 0, none⟩) (a' := ⟨b1, 0, none⟩) fo24_0 (T rfl rfl) rfl) ?_
  have H16 := (n13.ext.blk (n8.ext.blk n3.blk))
  refine lw_v (.int .i64 x) (dv_load1 (b := b1) (o := 0) ag2 (T rfl rfl) H16 rfl) ?_
  refine lw_v (.pointer (some ⟨b11, 0, none⟩)) (dv_fieldAddr (a := ⟨b11, 0, none⟩) (a' := ⟨b11, 0, none⟩) fo26_0 (T rfl rfl) rfl) ?_
  refine lw_e (oe_store (v := .int .i64 x) (vs := [.int .i64 x]) (l := [.int .i64 x, .int .i64 0]) (T rfl rfl) (T rfl rfl) sz2 rfl rfl rfl n13.blk rfl ?_)
  intro w17 s18 H19
  have E20 := below_st E15 N14 s18
  refine lw_nil ?_
  refine rk_seq ?_
  refine rk_reg ?_
  refine lw_v (.pointer (some ⟨b1, 1, none⟩)) (dv_fieldAddr (a := ⟨b1, 0, none⟩) (a' := ⟨b1, 1, none⟩) fo24_1 (T rfl rfl) rfl) ?_
  have H21 := (s18.blk H16 (by omega))
  refine lw_v (.int .i64 y) (dv_load1 (b := b1) (o := 1) ag2 (T rfl rfl) H21 rfl) ?_
  refine lw_v (.pointer (some ⟨b11, 1, none⟩)) (dv_fieldAddr (a := ⟨b11, 0, none⟩) (a' := ⟨b11, 1, none⟩) fo26_1 (T rfl rfl) rfl) ?_
  refine lw_e (oe_store (v := .int .i64 y) (vs := [.int .i64 y]) (l := [.int .i64 x, .int .i64 y]) (T rfl rfl) (T rfl rfl) sz2 rfl rfl rfl H19 rfl ?_)
  intro w22 s23 H24
  have E25 := below_st E20 N14 s23
  refine lw_nil ?_
  refine rk_seq ?_
  refine rk_reg ?_
  refine lw_v (.agg #[.int .i64 x, .int .i64 y]) (dv_loads (l := [.int .i64 x, .int .i64 y]) ag26 sz26 (T rfl rfl) H24 rfl) ?_
  have H26 := (s23.blk (s18.blk (n13.ext.blk n8.blk) (by omega)) (by omega))
  refine lw_e (oe_store (v := .agg #[.int .i64 x, .int .i64 y]) (vs := [.int .i64 x, .int .i64 y]) (l := [.int .i64 x, .int .i64 y]) (T rfl rfl) (T rfl rfl) sz26 rfl rfl rfl H26 rfl ?_)
  intro w27 s28 H29
  have E30 := below_st E25 N9 s28
  refine lw_nil ?_
  refine rk_ret Try.func10 (v := .agg #[.int .i64 x, .int .i64 y]) (res1 Try.results10 (rv_cells (l := [.int .i64 x, .int .i64 y]) ag26 sz26 rfl rfl H29 rfl)) ⟨_, rfl, ?_⟩
  exact ⟨rfl, E30⟩
theorem lawSpotOk_ok {w : World} {x y : Int} : Ct Try.prog 4 [.agg #[.int .i64 x, .int .i64 y]] w fun v w1 => v = .bool true ∧ Ext w w1 := by
  refine ct_run (n := 14) Try.func4 rfl Try.ntmps4 rfl ?_
  have E0 : Below w.heap.size w w := Below.refl _ _
  refine rk_seq ?_
  refine rk_reg ?_
  refine lw_e (oe_box (v := .agg #[.int .i64 x, .int .i64 y]) (cs := #[.int .i64 x, .int .i64 y]) (T rfl rfl) rfl ?_)
  intro b1 w2 n3
  have N4 : w.heap.size ≤ b1 := n3.eq ▸ E0.size
  have E5 := below_ext E0 E0.size n3.ext
  refine lw_v (.bool false) (dv_assign C) ?_
  refine lw_nil ?_
  refine rk_seq ?_
  refine rk_reg ?_
  refine lw_v (.agg #[.int .i64 x, .int .i64 y]) (dv_loads (l := [.int .i64 x, .int .i64 y]) ag24 sz24 (T rfl rfl) n3.blk rfl) ?_
  refine lw_e (oe_callf (vs := [.agg #[.int .i64 x, .int .i64 y]]) co10 (ar1 (T rfl rfl)) (toSpot_ok ) ?_)
  rintro _ w6 ⟨rfl, e7⟩
  have E8 := below_ext E5 E5.size e7
  refine lw_e (oe_callf (vs := [.agg #[.int .i64 x, .int .i64 y]]) co9 (ar1 (T rfl rfl)) (sSpotOk_ok ) ?_)
  rintro _ w9 ⟨rfl, e10⟩
  have E11 := below_ext E8 E8.size e10
  refine lw_v (.bool (decide (spotOk x y))) (dv_assign (T rfl rfl)) ?_
  refine lw_nil ?_
  refine rk_seq ?_
  refine rk_reg ?_
  have H12 := (e10.blk (e7.blk n3.blk))
  refine lw_v (.agg #[.int .i64 x, .int .i64 y]) (dv_loads (l := [.int .i64 x, .int .i64 y]) ag24 sz24 (T rfl rfl) H12 rfl) ?_
  refine lw_e (oe_callf (vs := [.agg #[.int .i64 x, .int .i64 y]]) co10 (ar1 (T rfl rfl)) (toSpot_ok ) ?_)
  rintro _ w13 ⟨rfl, e14⟩
  have E15 := below_ext E11 E11.size e14
  refine lw_e (oe_callf (vs := [.agg #[.int .i64 x, .int .i64 y]]) co11 (ar1 (T rfl rfl)) (iSpotOk_ok ) ?_)
  rintro _ w16 ⟨rfl, e17⟩
  have E18 := below_ext E15 E15.size e17
  refine lw_v (.bool (decide (spotOk x y))) (dv_assign (T rfl rfl)) ?_
  refine lw_nil ?_
  refine rk_seq ?_
  refine rk_seq ?_
  refine rk_reg ?_
  refine lw_v (.bool (decide (spotOk x y))) (dv_move (T rfl rfl)) ?_
  refine lw_v (.bool (decide (spotOk x y))) (dv_move (T rfl rfl)) ?_
  refine lw_v (.bool ((decide (spotOk x y)) != (decide (spotOk x y)))) (dv_neqb (a := decide (spotOk x y)) (b := decide (spotOk x y)) ub4 (T rfl rfl) (T rfl rfl)) ?_
  refine lw_nil ?_
  rcases Bool.eq_false_or_eq_true ((decide (spotOk x y)) != (decide (spotOk x y))) with hb19 | hb19
  · -- T
    refine rk_ct (T rfl (congrArg Value.bool hb19)) ?_
    refine rk_seq ?_
    refine rk_reg ?_
    refine lw_v (.bool false) (dv_assign C) ?_
    refine lw_nil ?_
    refine rk_ret Try.func4 (v := .bool false) (res1 Try.results4 (rv_tmp rfl rfl)) ⟨_, rfl, ?_⟩
    exact ⟨(congrArg Value.bool (by grind)), E18⟩
  · -- F
    refine rk_cf (T rfl (congrArg Value.bool hb19)) ?_
    refine rk_skip ?_
    refine rk_seq ?_
    refine rk_reg ?_
    refine lw_v (.bool true) (dv_assign C) ?_
    refine lw_nil ?_
    refine rk_ret Try.func4 (v := .bool true) (res1 Try.results4 (rv_tmp rfl rfl)) ⟨_, rfl, ?_⟩
    exact ⟨rfl, E18⟩
theorem l4Less_ok {w : World} {ax ay bx by_ : Int} : Ct Try.prog 27 [.agg #[.int .i64 ax, .int .i64 ay], .agg #[.int .i64 bx, .int .i64 by_]] w fun v w1 => v = .bool (decide (spotLt ax ay bx by_)) ∧ Ext w w1 := by
  refine ct_run (n := 24) Try.func27 rfl Try.ntmps27 rfl ?_
  have E0 : Below w.heap.size w w := Below.refl _ _
  refine rk_seq ?_
  refine rk_reg ?_
  refine lw_e (oe_box (v := .agg #[.int .i64 ax, .int .i64 ay]) (cs := #[.int .i64 ax, .int .i64 ay]) (T rfl rfl) rfl ?_)
  intro b1 w2 n3
  have N4 : w.heap.size ≤ b1 := n3.eq ▸ E0.size
  have E5 := below_ext E0 E0.size n3.ext
  refine lw_e (oe_box (v := .agg #[.int .i64 bx, .int .i64 by_]) (cs := #[.int .i64 bx, .int .i64 by_]) (T rfl rfl) rfl ?_)
  intro b6 w7 n8
  have N9 : w.heap.size ≤ b6 := n8.eq ▸ E5.size
  have : b1 < b6 := n8.eq ▸ lt_of_blk n3.blk
  have E10 := below_ext E5 E5.size n8.ext
  refine lw_v (.bool false) (dv_assign C) ?_
  refine lw_nil ?_
  refine rk_seq ?_
  refine rk_reg ?_
  refine lw_v (.pointer (some ⟨b1, 0, none⟩)) (dv_fieldAddr (a := ⟨b1, 0, none⟩) (a' := ⟨b1, 0, none⟩) fo26_0 (T rfl rfl) rfl) ?_
  have H11 := (n8.ext.blk n3.blk)
  refine lw_v (.int .i64 ax) (dv_load1 (b := b1) (o := 0) ag2 (T rfl rfl) H11 rfl) ?_
  refine lw_v (.pointer (some ⟨b6, 0, none⟩)) (dv_fieldAddr (a := ⟨b6, 0, none⟩) (a' := ⟨b6, 0, none⟩) fo26_0 (T rfl rfl) rfl) ?_
  refine lw_v (.int .i64 bx) (dv_load1 (b := b6) (o := 0) ag2 (T rfl rfl) n8.blk rfl) ?_
  refine lw_v (.bool (decide (ax < bx))) (dv_lss (a := ax) (b := bx) (T rfl rfl) (T rfl rfl)) ?_
  refine lw_v (.bool (decide (ax < bx))) (dv_move (T rfl rfl)) ?_
  by_cases hb12 : ax < bx
  · -- T
    refine lw_no (d := 10) rfl rfl (congrArg Value.bool (decide_eq_true hb12)) ?_
    refine lw_no (d := 10) rfl rfl (congrArg Value.bool (decide_eq_true hb12)) ?_
    refine lw_no (d := 10) rfl rfl (congrArg Value.bool (decide_eq_true hb12)) ?_
    refine lw_no (d := 10) rfl rfl (congrArg Value.bool (decide_eq_true hb12)) ?_
    refine lw_no (d := 10) rfl rfl (congrArg Value.bool (decide_eq_true hb12)) ?_
    refine lw_no (d := 10) rfl rfl (congrArg Value.bool (decide_eq_true hb12)) ?_
    refine lw_nou (d := 16) rfl rfl ?_
    refine lw_nou (d := 16) rfl rfl ?_
    refine lw_nou (d := 16) rfl rfl ?_
    refine lw_nou (d := 16) rfl rfl ?_
    refine lw_nou (d := 16) rfl rfl ?_
    refine lw_no (d := 10) rfl rfl (congrArg Value.bool (decide_eq_true hb12)) ?_
    refine lw_v (.bool true) (dv_pick_t (T rfl (congrArg Value.bool (decide_eq_true hb12))) C) ?_
    refine lw_v (.bool true) (dv_assign (T rfl rfl)) ?_
    refine lw_nil ?_
    refine rk_ret Try.func27 (v := .bool true) (res1 Try.results27 (rv_tmp rfl rfl)) ⟨_, rfl, ?_⟩
    exact ⟨(vt (by unfold spotLt; grind)), E10⟩
  · -- F
    refine lw_vy (.pointer (some ⟨b1, 0, none⟩)) (d := 10) rfl rfl (congrArg Value.bool (decide_eq_false hb12)) (dv_fieldAddr (a := ⟨b1, 0, none⟩) (a' := ⟨b1, 0, none⟩) fo26_0 (T rfl rfl) rfl) ?_
    refine lw_vy (.int .i64 ax) (d := 10) rfl rfl (congrArg Value.bool (decide_eq_false hb12)) (dv_load1 (b := b1) (o := 0) ag2 (T rfl rfl) H11 rfl) ?_
    refine lw_vy (.pointer (some ⟨b6, 0, none⟩)) (d := 10) rfl rfl (congrArg Value.bool (decide_eq_false hb12)) (dv_fieldAddr (a := ⟨b6, 0, none⟩) (a' := ⟨b6, 0, none⟩) fo26_0 (T rfl rfl) rfl) ?_
    refine lw_vy (.int .i64 bx) (d := 10) rfl rfl (congrArg Value.bool (decide_eq_false hb12)) (dv_load1 (b := b6) (o := 0) ag2 (T rfl rfl) n8.blk rfl) ?_
    refine lw_vy (.bool (decide (ax = bx))) (d := 10) rfl rfl (congrArg Value.bool (decide_eq_false hb12)) (dv_eql (a := ax) (b := bx) (T rfl rfl) (T rfl rfl)) ?_
    refine lw_vy (.bool (decide (ax = bx))) (d := 10) rfl rfl (congrArg Value.bool (decide_eq_false hb12)) (dv_move (T rfl rfl)) ?_
    by_cases hb13 : ax = bx
    · -- FT
      refine lw_vy (.pointer (some ⟨b1, 1, none⟩)) (d := 16) rfl rfl (congrArg Value.bool (decide_eq_true hb13)) (dv_fieldAddr (a := ⟨b1, 0, none⟩) (a' := ⟨b1, 1, none⟩) fo26_1 (T rfl rfl) rfl) ?_
      refine lw_vy (.int .i64 ay) (d := 16) rfl rfl (congrArg Value.bool (decide_eq_true hb13)) (dv_load1 (b := b1) (o := 1) ag2 (T rfl rfl) H11 rfl) ?_
      refine lw_vy (.pointer (some ⟨b6, 1, none⟩)) (d := 16) rfl rfl (congrArg Value.bool (decide_eq_true hb13)) (dv_fieldAddr (a := ⟨b6, 0, none⟩) (a' := ⟨b6, 1, none⟩) fo26_1 (T rfl rfl) rfl) ?_
      refine lw_vy (.int .i64 by_) (d := 16) rfl rfl (congrArg Value.bool (decide_eq_true hb13)) (dv_load1 (b := b6) (o := 1) ag2 (T rfl rfl) n8.blk rfl) ?_
      refine lw_vy (.bool (decide (ay < by_))) (d := 16) rfl rfl (congrArg Value.bool (decide_eq_true hb13)) (dv_lss (a := ay) (b := by_) (T rfl rfl) (T rfl rfl)) ?_
      refine lw_vy (.bool (decide (ay < by_))) (d := 10) rfl rfl (congrArg Value.bool (decide_eq_false hb12)) (dv_pick_t (T rfl (congrArg Value.bool (decide_eq_true hb13))) (T rfl rfl)) ?_
      refine lw_v (.bool (decide (ay < by_))) (dv_pick_f (T rfl (congrArg Value.bool (decide_eq_false hb12))) (T rfl rfl)) ?_
      refine lw_v (.bool (decide (ay < by_))) (dv_assign (T rfl rfl)) ?_
      refine lw_nil ?_
      refine rk_ret Try.func27 (v := .bool (decide (ay < by_))) (res1 Try.results27 (rv_tmp rfl rfl)) ⟨_, rfl, ?_⟩
      exact ⟨(vb (by unfold spotLt; grind)), E10⟩
    · -- FF
      refine lw_no (d := 16) rfl rfl (congrArg Value.bool (decide_eq_false hb13)) ?_
      refine lw_no (d := 16) rfl rfl (congrArg Value.bool (decide_eq_false hb13)) ?_
      refine lw_no (d := 16) rfl rfl (congrArg Value.bool (decide_eq_false hb13)) ?_
      refine lw_no (d := 16) rfl rfl (congrArg Value.bool (decide_eq_false hb13)) ?_
      refine lw_no (d := 16) rfl rfl (congrArg Value.bool (decide_eq_false hb13)) ?_
      refine lw_vy (.bool false) (d := 10) rfl rfl (congrArg Value.bool (decide_eq_false hb12)) (dv_pick_f (T rfl (congrArg Value.bool (decide_eq_false hb13))) C) ?_
      refine lw_v (.bool false) (dv_pick_f (T rfl (congrArg Value.bool (decide_eq_false hb12))) (T rfl rfl)) ?_
      refine lw_v (.bool false) (dv_assign (T rfl rfl)) ?_
      refine lw_nil ?_
      refine rk_ret Try.func27 (v := .bool false) (res1 Try.results27 (rv_tmp rfl rfl)) ⟨_, rfl, ?_⟩
      exact ⟨(vf (by unfold spotLt; grind)), E10⟩
theorem cmpSpots_ok {w : World} {ax ay bx by_ : Int} : Ct Try.prog 28 [.agg #[.int .i64 ax, .int .i64 ay], .agg #[.int .i64 bx, .int .i64 by_]] w fun v w1 => v = .int .i64 (cmpS ax ay bx by_) ∧ Ext w w1 := by
  refine ct_run (n := 29) Try.func28 rfl Try.ntmps28 rfl ?_
  have E0 : Below w.heap.size w w := Below.refl _ _
  refine rk_seq ?_
  refine rk_reg ?_
  refine lw_e (oe_box (v := .agg #[.int .i64 ax, .int .i64 ay]) (cs := #[.int .i64 ax, .int .i64 ay]) (T rfl rfl) rfl ?_)
  intro b1 w2 n3
  have N4 : w.heap.size ≤ b1 := n3.eq ▸ E0.size
  have E5 := below_ext E0 E0.size n3.ext
  refine lw_e (oe_box (v := .agg #[.int .i64 bx, .int .i64 by_]) (cs := #[.int .i64 bx, .int .i64 by_]) (T rfl rfl) rfl ?_)
  intro b6 w7 n8
  have N9 : w.heap.size ≤ b6 := n8.eq ▸ E5.size
  have : b1 < b6 := n8.eq ▸ lt_of_blk n3.blk
  have E10 := below_ext E5 E5.size n8.ext
  refine lw_v (.int .i64 0) (dv_assign C) ?_
  refine lw_nil ?_
  refine rk_seq ?_
  refine rk_block ?_
  refine rk_seq ?_
  refine rk_reg ?_
  have H11 := (n8.ext.blk n3.blk)
  refine lw_v (.agg #[.int .i64 ax, .int .i64 ay]) (dv_loads (l := [.int .i64 ax, .int .i64 ay]) ag26 sz26 (T rfl rfl) H11 rfl) ?_
  refine lw_v (.agg #[.int .i64 bx, .int .i64 by_]) (dv_loads (l := [.int .i64 bx, .int .i64 by_]) ag26 sz26 (T rfl rfl) n8.blk rfl) ?_
  refine lw_v (.bool (decide (([ax, ay] : List Int) = [bx, by_]))) (dv_eqls (k := .i64) (la := [ax, ay]) (lb := [bx, by_]) fl26 eg26 (T rfl rfl) (T rfl rfl) rfl rfl) ?_
  refine lw_v (.bool (decide (([ax, ay] : List Int) = [bx, by_]))) (dv_assign (T rfl rfl)) ?_
  refine lw_nil ?_
  by_cases hb12 : ([ax, ay] : List Int) = [bx, by_]
  · -- T
    refine rk_ct (T rfl (congrArg Value.bool (decide_eq_true hb12))) ?_
    refine rk_seq ?_
    refine rk_reg ?_
    refine lw_v (.int .i64 0) (dv_assign C) ?_
    refine lw_nil ?_
    refine rk_ret Try.func28 (v := .int .i64 0) (res1 Try.results28 (rv_tmp rfl rfl)) ⟨_, rfl, ?_⟩
    exact ⟨(vi (by unfold cmpS spotLt; grind)), E10⟩
  · -- F
    refine rk_cf (T rfl (congrArg Value.bool (decide_eq_false hb12))) ?_
    refine rk_seq ?_
    refine rk_reg ?_
    refine lw_v (.pointer (some ⟨b1, 0, none⟩)) (dv_fieldAddr (a := ⟨b1, 0, none⟩) (a' := ⟨b1, 0, none⟩) fo26_0 (T rfl rfl) rfl) ?_
    refine lw_v (.int .i64 ax) (dv_load1 (b := b1) (o := 0) ag2 (T rfl rfl) H11 rfl) ?_
    refine lw_v (.pointer (some ⟨b6, 0, none⟩)) (dv_fieldAddr (a := ⟨b6, 0, none⟩) (a' := ⟨b6, 0, none⟩) fo26_0 (T rfl rfl) rfl) ?_
    refine lw_v (.int .i64 bx) (dv_load1 (b := b6) (o := 0) ag2 (T rfl rfl) n8.blk rfl) ?_
    refine lw_v (.bool (decide (ax < bx))) (dv_lss (a := ax) (b := bx) (T rfl rfl) (T rfl rfl)) ?_
    refine lw_v (.bool (decide (ax < bx))) (dv_move (T rfl rfl)) ?_
    by_cases hb13 : ax < bx
    · -- FT
      refine lw_no (d := 15) rfl rfl (congrArg Value.bool (decide_eq_true hb13)) ?_
      refine lw_no (d := 15) rfl rfl (congrArg Value.bool (decide_eq_true hb13)) ?_
      refine lw_no (d := 15) rfl rfl (congrArg Value.bool (decide_eq_true hb13)) ?_
      refine lw_no (d := 15) rfl rfl (congrArg Value.bool (decide_eq_true hb13)) ?_
      refine lw_no (d := 15) rfl rfl (congrArg Value.bool (decide_eq_true hb13)) ?_
      refine lw_no (d := 15) rfl rfl (congrArg Value.bool (decide_eq_true hb13)) ?_
      refine lw_nou (d := 21) rfl rfl ?_
      refine lw_nou (d := 21) rfl rfl ?_
      refine lw_nou (d := 21) rfl rfl ?_
      refine lw_nou (d := 21) rfl rfl ?_
      refine lw_nou (d := 21) rfl rfl ?_
      refine lw_no (d := 15) rfl rfl (congrArg Value.bool (decide_eq_true hb13)) ?_
      refine lw_v (.bool true) (dv_pick_t (T rfl (congrArg Value.bool (decide_eq_true hb13))) C) ?_
      refine lw_v (.bool true) (dv_assign (T rfl rfl)) ?_
      refine lw_nil ?_
      refine rk_ct (T rfl rfl) ?_
      refine rk_seq ?_
      refine rk_reg ?_
      refine lw_v (.int .i64 (-1)) (dv_assign C) ?_
      refine lw_nil ?_
      refine rk_ret Try.func28 (v := .int .i64 (-1)) (res1 Try.results28 (rv_tmp rfl rfl)) ⟨_, rfl, ?_⟩
      exact ⟨(vi (by unfold cmpS spotLt; grind)), E10⟩
    · -- FF
      refine lw_vy (.pointer (some ⟨b1, 0, none⟩)) (d := 15) rfl rfl (congrArg Value.bool (decide_eq_false hb13)) (dv_fieldAddr (a := ⟨b1, 0, none⟩) (a' := ⟨b1, 0, none⟩) fo26_0 (T rfl rfl) rfl) ?_
      refine lw_vy (.int .i64 ax) (d := 15) rfl rfl (congrArg Value.bool (decide_eq_false hb13)) (dv_load1 (b := b1) (o := 0) ag2 (T rfl rfl) H11 rfl) ?_
      refine lw_vy (.pointer (some ⟨b6, 0, none⟩)) (d := 15) rfl rfl (congrArg Value.bool (decide_eq_false hb13)) (dv_fieldAddr (a := ⟨b6, 0, none⟩) (a' := ⟨b6, 0, none⟩) fo26_0 (T rfl rfl) rfl) ?_
      refine lw_vy (.int .i64 bx) (d := 15) rfl rfl (congrArg Value.bool (decide_eq_false hb13)) (dv_load1 (b := b6) (o := 0) ag2 (T rfl rfl) n8.blk rfl) ?_
      refine lw_vy (.bool (decide (ax = bx))) (d := 15) rfl rfl (congrArg Value.bool (decide_eq_false hb13)) (dv_eql (a := ax) (b := bx) (T rfl rfl) (T rfl rfl)) ?_
      refine lw_vy (.bool (decide (ax = bx))) (d := 15) rfl rfl (congrArg Value.bool (decide_eq_false hb13)) (dv_move (T rfl rfl)) ?_
      by_cases hb14 : ax = bx
      · -- FFT
        refine lw_vy (.pointer (some ⟨b1, 1, none⟩)) (d := 21) rfl rfl (congrArg Value.bool (decide_eq_true hb14)) (dv_fieldAddr (a := ⟨b1, 0, none⟩) (a' := ⟨b1, 1, none⟩) fo26_1 (T rfl rfl) rfl) ?_
        refine lw_vy (.int .i64 ay) (d := 21) rfl rfl (congrArg Value.bool (decide_eq_true hb14)) (dv_load1 (b := b1) (o := 1) ag2 (T rfl rfl) H11 rfl) ?_
        refine lw_vy (.pointer (some ⟨b6, 1, none⟩)) (d := 21) rfl rfl (congrArg Value.bool (decide_eq_true hb14)) (dv_fieldAddr (a := ⟨b6, 0, none⟩) (a' := ⟨b6, 1, none⟩) fo26_1 (T rfl rfl) rfl) ?_
        refine lw_vy (.int .i64 by_) (d := 21) rfl rfl (congrArg Value.bool (decide_eq_true hb14)) (dv_load1 (b := b6) (o := 1) ag2 (T rfl rfl) n8.blk rfl) ?_
        refine lw_vy (.bool (decide (ay < by_))) (d := 21) rfl rfl (congrArg Value.bool (decide_eq_true hb14)) (dv_lss (a := ay) (b := by_) (T rfl rfl) (T rfl rfl)) ?_
        refine lw_vy (.bool (decide (ay < by_))) (d := 15) rfl rfl (congrArg Value.bool (decide_eq_false hb13)) (dv_pick_t (T rfl (congrArg Value.bool (decide_eq_true hb14))) (T rfl rfl)) ?_
        refine lw_v (.bool (decide (ay < by_))) (dv_pick_f (T rfl (congrArg Value.bool (decide_eq_false hb13))) (T rfl rfl)) ?_
        refine lw_v (.bool (decide (ay < by_))) (dv_assign (T rfl rfl)) ?_
        refine lw_nil ?_
        by_cases hb15 : ay < by_
        · -- FFTT
          refine rk_ct (T rfl (congrArg Value.bool (decide_eq_true hb15))) ?_
          refine rk_seq ?_
          refine rk_reg ?_
          refine lw_v (.int .i64 (-1)) (dv_assign C) ?_
          refine lw_nil ?_
          refine rk_ret Try.func28 (v := .int .i64 (-1)) (res1 Try.results28 (rv_tmp rfl rfl)) ⟨_, rfl, ?_⟩
          exact ⟨(vi (by unfold cmpS spotLt; grind)), E10⟩
        · -- FFTF
          refine rk_cf (T rfl (congrArg Value.bool (decide_eq_false hb15))) ?_
          refine rk_skip ?_
          refine rk_inBlock ?_
          refine rk_seq ?_
          refine rk_reg ?_
          refine lw_v (.int .i64 1) (dv_assign C) ?_
          refine lw_nil ?_
          refine rk_ret Try.func28 (v := .int .i64 1) (res1 Try.results28 (rv_tmp rfl rfl)) ⟨_, rfl, ?_⟩
          exact ⟨(vi (by unfold cmpS spotLt; grind)), E10⟩
      · -- FFF
        refine lw_no (d := 21) rfl rfl (congrArg Value.bool (decide_eq_false hb14)) ?_
        refine lw_no (d := 21) rfl rfl (congrArg Value.bool (decide_eq_false hb14)) ?_
        refine lw_no (d := 21) rfl rfl (congrArg Value.bool (decide_eq_false hb14)) ?_
        refine lw_no (d := 21) rfl rfl (congrArg Value.bool (decide_eq_false hb14)) ?_
        refine lw_no (d := 21) rfl rfl (congrArg Value.bool (decide_eq_false hb14)) ?_
        refine lw_vy (.bool false) (d := 15) rfl rfl (congrArg Value.bool (decide_eq_false hb13)) (dv_pick_f (T rfl (congrArg Value.bool (decide_eq_false hb14))) C) ?_
        refine lw_v (.bool false) (dv_pick_f (T rfl (congrArg Value.bool (decide_eq_false hb13))) (T rfl rfl)) ?_
        refine lw_v (.bool false) (dv_assign (T rfl rfl)) ?_
        refine lw_nil ?_
        refine rk_cf (T rfl rfl) ?_
        refine rk_skip ?_
        refine rk_inBlock ?_
        refine rk_seq ?_
        refine rk_reg ?_
        refine lw_v (.int .i64 1) (dv_assign C) ?_
        refine lw_nil ?_
        refine rk_ret Try.func28 (v := .int .i64 1) (res1 Try.results28 (rv_tmp rfl rfl)) ⟨_, rfl, ?_⟩
        exact ⟨(vi (by unfold cmpS spotLt; grind)), E10⟩
theorem sSegOk_ok {w : World} {ax ay bx by_ : Int} : Ct Try.prog 12 [.agg #[.int .i64 ax, .int .i64 ay, .int .i64 bx, .int .i64 by_]] w fun v w1 => v = .bool (decide (segOk ax ay bx by_)) ∧ Ext w w1 := by
  refine ct_run (n := 18) Try.func12 rfl Try.ntmps12 rfl ?_
  have E0 : Below w.heap.size w w := Below.refl _ _
  refine rk_seq ?_
  refine rk_reg ?_
  refine lw_e (oe_box (v := .agg #[.int .i64 ax, .int .i64 ay, .int .i64 bx, .int .i64 by_]) (cs := #[.int .i64 ax, .int .i64 ay, .int .i64 bx, .int .i64 by_]) (T rfl rfl) rfl ?_)
  intro b1 w2 n3
  have N4 : w.heap.size ≤ b1 := n3.eq ▸ E0.size
  have E5 := below_ext E0 E0.size n3.ext
  refine lw_v (.bool false) (dv_assign C) ?_
  refine lw_nil ?_
  refine rk_seq ?_
  refine rk_reg ?_
  refine lw_v (.pointer (some ⟨b1, 0, none⟩)) (dv_fieldAddr (a := ⟨b1, 0, none⟩) (a' := ⟨b1, 0, none⟩) fo33_0 (T rfl rfl) rfl) ?_
  refine lw_v (.agg #[.int .i64 ax, .int .i64 ay]) (dv_loads (l := [.int .i64 ax, .int .i64 ay]) ag26 sz26 (T rfl rfl) n3.blk rfl) ?_
  refine lw_e (oe_callf (vs := [.agg #[.int .i64 ax, .int .i64 ay]]) co9 (ar1 (T rfl rfl)) (sSpotOk_ok ) ?_)
  rintro _ w6 ⟨rfl, e7⟩
  have E8 := below_ext E5 E5.size e7
  refine lw_v (.bool (decide (spotOk ax ay))) (dv_move (T rfl rfl)) ?_
  by_cases hb9 : spotOk ax ay
  · -- T
    refine lw_vy (.pointer (some ⟨b1, 2, none⟩)) (d := 6) rfl rfl (congrArg Value.bool (decide_eq_true hb9)) (dv_fieldAddr (a := ⟨b1, 0, none⟩) (a' := ⟨b1, 2, none⟩) fo33_1 (T rfl rfl) rfl) ?_
    have H10 := (e7.blk n3.blk)
    refine lw_vy (.agg #[.int .i64 bx, .int .i64 by_]) (d := 6) rfl rfl (congrArg Value.bool (decide_eq_true hb9)) (dv_loads (l := [.int .i64 bx, .int .i64 by_]) ag26 sz26 (T rfl rfl) H10 rfl) ?_
    refine lw_ey (d := 6) rfl rfl (congrArg Value.bool (decide_eq_true hb9)) (oe_callf (vs := [.agg #[.int .i64 bx, .int .i64 by_]]) co9 (ar1 (T rfl rfl)) (sSpotOk_ok ) ?_)
    rintro _ w11 ⟨rfl, e12⟩
    have E13 := below_ext E8 E8.size e12
    refine lw_v (.bool (decide (spotOk bx by_))) (dv_pick_t (T rfl (congrArg Value.bool (decide_eq_true hb9))) (T rfl rfl)) ?_
    refine lw_v (.bool (decide (spotOk bx by_))) (dv_move (T rfl rfl)) ?_
    by_cases hb14 : spotOk bx by_
    · -- TT
      refine lw_vy (.pointer (some ⟨b1, 0, none⟩)) (d := 11) rfl rfl (congrArg Value.bool (decide_eq_true hb14)) (dv_fieldAddr (a := ⟨b1, 0, none⟩) (a' := ⟨b1, 0, none⟩) fo33_0 (T rfl rfl) rfl) ?_
      have H15 := (e12.blk H10)
      refine lw_vy (.agg #[.int .i64 ax, .int .i64 ay]) (d := 11) rfl rfl (congrArg Value.bool (decide_eq_true hb14)) (dv_loads (l := [.int .i64 ax, .int .i64 ay]) ag26 sz26 (T rfl rfl) H15 rfl) ?_
      refine lw_vy (.pointer (some ⟨b1, 2, none⟩)) (d := 11) rfl rfl (congrArg Value.bool (decide_eq_true hb14)) (dv_fieldAddr (a := ⟨b1, 0, none⟩) (a' := ⟨b1, 2, none⟩) fo33_1 (T rfl rfl) rfl) ?_
      refine lw_vy (.agg #[.int .i64 bx, .int .i64 by_]) (d := 11) rfl rfl (congrArg Value.bool (decide_eq_true hb14)) (dv_loads (l := [.int .i64 bx, .int .i64 by_]) ag26 sz26 (T rfl rfl) H15 rfl) ?_
      refine lw_ey (d := 11) rfl rfl (congrArg Value.bool (decide_eq_true hb14)) (oe_callf (vs := [.agg #[.int .i64 ax, .int .i64 ay], .agg #[.int .i64 bx, .int .i64 by_]]) co27 (ar2 (T rfl rfl) (T rfl rfl)) (l4Less_ok ) ?_)
      rintro _ w16 ⟨rfl, e17⟩
      have E18 := below_ext E13 E13.size e17
      refine lw_v (.bool (decide (spotLt ax ay bx by_))) (dv_pick_t (T rfl (congrArg Value.bool (decide_eq_true hb14))) (T rfl rfl)) ?_
      refine lw_v (.bool (decide (spotLt ax ay bx by_))) (dv_assign (T rfl rfl)) ?_
      refine lw_nil ?_
      refine rk_ret Try.func12 (v := .bool (decide (spotLt ax ay bx by_))) (res1 Try.results12 (rv_tmp rfl rfl)) ⟨_, rfl, ?_⟩
      exact ⟨(vb (by grind [segOk, cmpS_neg])), E18⟩
    · -- TF
      refine lw_no (d := 11) rfl rfl (congrArg Value.bool (decide_eq_false hb14)) ?_
      refine lw_no (d := 11) rfl rfl (congrArg Value.bool (decide_eq_false hb14)) ?_
      refine lw_no (d := 11) rfl rfl (congrArg Value.bool (decide_eq_false hb14)) ?_
      refine lw_no (d := 11) rfl rfl (congrArg Value.bool (decide_eq_false hb14)) ?_
      refine lw_no (d := 11) rfl rfl (congrArg Value.bool (decide_eq_false hb14)) ?_
      refine lw_v (.bool false) (dv_pick_f (T rfl (congrArg Value.bool (decide_eq_false hb14))) C) ?_
      refine lw_v (.bool false) (dv_assign (T rfl rfl)) ?_
      refine lw_nil ?_
      refine rk_ret Try.func12 (v := .bool false) (res1 Try.results12 (rv_tmp rfl rfl)) ⟨_, rfl, ?_⟩
      exact ⟨(vf (by grind [segOk, cmpS_neg])), E13⟩
  · -- F
    refine lw_no (d := 6) rfl rfl (congrArg Value.bool (decide_eq_false hb9)) ?_
    refine lw_no (d := 6) rfl rfl (congrArg Value.bool (decide_eq_false hb9)) ?_
    refine lw_no (d := 6) rfl rfl (congrArg Value.bool (decide_eq_false hb9)) ?_
    refine lw_v (.bool false) (dv_pick_f (T rfl (congrArg Value.bool (decide_eq_false hb9))) C) ?_
    refine lw_v (.bool false) (dv_move (T rfl rfl)) ?_
    refine lw_no (d := 11) rfl rfl (rfl) ?_
    refine lw_no (d := 11) rfl rfl (rfl) ?_
    refine lw_no (d := 11) rfl rfl (rfl) ?_
    refine lw_no (d := 11) rfl rfl (rfl) ?_
    refine lw_no (d := 11) rfl rfl (rfl) ?_
    refine lw_v (.bool false) (dv_pick_f (T rfl rfl) C) ?_
    refine lw_v (.bool false) (dv_assign (T rfl rfl)) ?_
    refine lw_nil ?_
    refine rk_ret Try.func12 (v := .bool false) (res1 Try.results12 (rv_tmp rfl rfl)) ⟨_, rfl, ?_⟩
    exact ⟨(vf (by grind [segOk, cmpS_neg])), E8⟩
theorem iSegOk_ok {w : World} {ax ay bx by_ : Int} : Ct Try.prog 14 [.agg #[.int .i64 ax, .int .i64 ay, .int .i64 bx, .int .i64 by_]] w fun v w1 => v = .bool (decide (segOk ax ay bx by_)) ∧ Ext w w1 := by
  refine ct_run (n := 19) Try.func14 rfl Try.ntmps14 rfl ?_
  have E0 : Below w.heap.size w w := Below.refl _ _
  refine rk_seq ?_
  refine rk_reg ?_
  refine lw_e (oe_box (v := .agg #[.int .i64 ax, .int .i64 ay, .int .i64 bx, .int .i64 by_]) (cs := #[.int .i64 ax, .int .i64 ay, .int .i64 bx, .int .i64 by_]) (T rfl rfl) rfl ?_)
  intro b1 w2 n3
  have N4 : w.heap.size ≤ b1 := n3.eq ▸ E0.size
  have E5 := below_ext E0 E0.size n3.ext
  refine lw_v (.bool false) (dv_assign C) ?_
  refine lw_nil ?_
  refine rk_seq ?_
  refine rk_reg ?_
  refine lw_v (.pointer (some ⟨b1, 0, none⟩)) (dv_fieldAddr (a := ⟨b1, 0, none⟩) (a' := ⟨b1, 0, none⟩) fo33_0 (T rfl rfl) rfl) ?_
  refine lw_v (.agg #[.int .i64 ax, .int .i64 ay]) (dv_loads (l := [.int .i64 ax, .int .i64 ay]) ag26 sz26 (T rfl rfl) n3.blk rfl) ?_
  refine lw_e (oe_callf (vs := [.agg #[.int .i64 ax, .int .i64 ay]]) co11 (ar1 (T rfl rfl)) (iSpotOk_ok ) ?_)
  rintro _ w6 ⟨rfl, e7⟩
  have E8 := below_ext E5 E5.size e7
  refine lw_v (.bool (decide (spotOk ax ay))) (dv_move (T rfl rfl)) ?_
  by_cases hb9 : spotOk ax ay
  · -- T
    refine lw_vy (.pointer (some ⟨b1, 2, none⟩)) (d := 6) rfl rfl (congrArg Value.bool (decide_eq_true hb9)) (dv_fieldAddr (a := ⟨b1, 0, none⟩) (a' := ⟨b1, 2, none⟩) fo33_1 (T rfl rfl) rfl) ?_
    have H10 := (e7.blk n3.blk)
    refine lw_vy (.agg #[.int .i64 bx, .int .i64 by_]) (d := 6) rfl rfl (congrArg Value.bool (decide_eq_true hb9)) (dv_loads (l := [.int .i64 bx, .int .i64 by_]) ag26 sz26 (T rfl rfl) H10 rfl) ?_
    refine lw_ey (d := 6) rfl rfl (congrArg Value.bool (decide_eq_true hb9)) (oe_callf (vs := [.agg #[.int .i64 bx, .int .i64 by_]]) co11 (ar1 (T rfl rfl)) (iSpotOk_ok ) ?_)
    rintro _ w11 ⟨rfl, e12⟩
    have E13 := below_ext E8 E8.size e12
    refine lw_v (.bool (decide (spotOk bx by_))) (dv_pick_t (T rfl (congrArg Value.bool (decide_eq_true hb9))) (T rfl rfl)) ?_
    refine lw_v (.bool (decide (spotOk bx by_))) (dv_move (T rfl rfl)) ?_
    by_cases hb14 : spotOk bx by_
    · -- TT
      refine lw_vy (.pointer (some ⟨b1, 0, none⟩)) (d := 11) rfl rfl (congrArg Value.bool (decide_eq_true hb14)) (dv_fieldAddr (a := ⟨b1, 0, none⟩) (a' := ⟨b1, 0, none⟩) fo33_0 (T rfl rfl) rfl) ?_
      have H15 := (e12.blk H10)
      refine lw_vy (.agg #[.int .i64 ax, .int .i64 ay]) (d := 11) rfl rfl (congrArg Value.bool (decide_eq_true hb14)) (dv_loads (l := [.int .i64 ax, .int .i64 ay]) ag26 sz26 (T rfl rfl) H15 rfl) ?_
      refine lw_vy (.pointer (some ⟨b1, 2, none⟩)) (d := 11) rfl rfl (congrArg Value.bool (decide_eq_true hb14)) (dv_fieldAddr (a := ⟨b1, 0, none⟩) (a' := ⟨b1, 2, none⟩) fo33_1 (T rfl rfl) rfl) ?_
      refine lw_vy (.agg #[.int .i64 bx, .int .i64 by_]) (d := 11) rfl rfl (congrArg Value.bool (decide_eq_true hb14)) (dv_loads (l := [.int .i64 bx, .int .i64 by_]) ag26 sz26 (T rfl rfl) H15 rfl) ?_
      refine lw_ey (d := 11) rfl rfl (congrArg Value.bool (decide_eq_true hb14)) (oe_callf (vs := [.agg #[.int .i64 ax, .int .i64 ay], .agg #[.int .i64 bx, .int .i64 by_]]) co28 (ar2 (T rfl rfl) (T rfl rfl)) (cmpSpots_ok ) ?_)
      rintro _ w16 ⟨rfl, e17⟩
      have E18 := below_ext E13 E13.size e17
      refine lw_vy (.bool (decide ((cmpS ax ay bx by_) < 0))) (d := 11) rfl rfl (congrArg Value.bool (decide_eq_true hb14)) (dv_lss (a := cmpS ax ay bx by_) (b := 0) (T rfl rfl) C) ?_
      refine lw_v (.bool (decide ((cmpS ax ay bx by_) < 0))) (dv_pick_t (T rfl (congrArg Value.bool (decide_eq_true hb14))) (T rfl rfl)) ?_
      refine lw_v (.bool (decide ((cmpS ax ay bx by_) < 0))) (dv_assign (T rfl rfl)) ?_
      refine lw_nil ?_
      refine rk_ret Try.func14 (v := .bool (decide ((cmpS ax ay bx by_) < 0))) (res1 Try.results14 (rv_tmp rfl rfl)) ⟨_, rfl, ?_⟩
      exact ⟨(vb (by grind [segOk, cmpS_neg])), E18⟩
    · -- TF
      refine lw_no (d := 11) rfl rfl (congrArg Value.bool (decide_eq_false hb14)) ?_
      refine lw_no (d := 11) rfl rfl (congrArg Value.bool (decide_eq_false hb14)) ?_
      refine lw_no (d := 11) rfl rfl (congrArg Value.bool (decide_eq_false hb14)) ?_
      refine lw_no (d := 11) rfl rfl (congrArg Value.bool (decide_eq_false hb14)) ?_
      refine lw_no (d := 11) rfl rfl (congrArg Value.bool (decide_eq_false hb14)) ?_
      refine lw_no (d := 11) rfl rfl (congrArg Value.bool (decide_eq_false hb14)) ?_
      refine lw_v (.bool false) (dv_pick_f (T rfl (congrArg Value.bool (decide_eq_false hb14))) C) ?_
      refine lw_v (.bool false) (dv_assign (T rfl rfl)) ?_
      refine lw_nil ?_
      refine rk_ret Try.func14 (v := .bool false) (res1 Try.results14 (rv_tmp rfl rfl)) ⟨_, rfl, ?_⟩
      exact ⟨(vf (by grind [segOk, cmpS_neg])), E13⟩
  · -- F
    refine lw_no (d := 6) rfl rfl (congrArg Value.bool (decide_eq_false hb9)) ?_
    refine lw_no (d := 6) rfl rfl (congrArg Value.bool (decide_eq_false hb9)) ?_
    refine lw_no (d := 6) rfl rfl (congrArg Value.bool (decide_eq_false hb9)) ?_
    refine lw_v (.bool false) (dv_pick_f (T rfl (congrArg Value.bool (decide_eq_false hb9))) C) ?_
    refine lw_v (.bool false) (dv_move (T rfl rfl)) ?_
    refine lw_no (d := 11) rfl rfl (rfl) ?_
    refine lw_no (d := 11) rfl rfl (rfl) ?_
    refine lw_no (d := 11) rfl rfl (rfl) ?_
    refine lw_no (d := 11) rfl rfl (rfl) ?_
    refine lw_no (d := 11) rfl rfl (rfl) ?_
    refine lw_no (d := 11) rfl rfl (rfl) ?_
    refine lw_v (.bool false) (dv_pick_f (T rfl rfl) C) ?_
    refine lw_v (.bool false) (dv_assign (T rfl rfl)) ?_
    refine lw_nil ?_
    refine rk_ret Try.func14 (v := .bool false) (res1 Try.results14 (rv_tmp rfl rfl)) ⟨_, rfl, ?_⟩
    exact ⟨(vf (by grind [segOk, cmpS_neg])), E8⟩
theorem toSeg_ok {w : World} {ax ay bx by_ : Int} : Ct Try.prog 13 [.agg #[.int .i64 ax, .int .i64 ay, .int .i64 bx, .int .i64 by_]] w fun v w1 => v = .agg #[.int .i64 ax, .int .i64 ay, .int .i64 bx, .int .i64 by_] ∧ Ext w w1 := by
  refine ct_run (n := 13) Try.func13 rfl Try.ntmps13 rfl ?_
  have E0 : Below w.heap.size w w := Below.refl _ _
  refine rk_seq ?_
  refine rk_reg ?_
  refine lw_e (oe_box (v := .agg #[.int .i64 ax, .int .i64 ay, .int .i64 bx, .int .i64 by_]) (cs := #[.int .i64 ax, .int .i64 ay, .int .i64 bx, .int .i64 by_]) (T rfl rfl) rfl ?_)
  intro b1 w2 n3
  have N4 : w.heap.size ≤ b1 := n3.eq ▸ E0.size
  have E5 := below_ext E0 E0.size n3.ext
  refine lw_e (oe_alloc ze33 ?_)
  intro b6 w7 n8
  have N9 : w.heap.size ≤ b6 := n8.eq ▸ E5.size
  have : b1 < b6 := n8.eq ▸ lt_of_blk n3.blk
  have E10 := below_ext E5 E5.size n8.ext
  refine lw_nil ?_
  refine rk_seq ?_
  refine rk_reg ?_
  refine lw_e (oe_alloc ze33 ?_)
  intro b11 w12 n13
  have N14 : w.heap.size ≤ b11 := n13.eq ▸ E10.size
  have : b6 < b11 := n13.eq ▸ lt_of_blk n8.blk
  have E15 := below_ext E10 E10.size n13.ext
  refine lw_nil ?_
  refine rk_seq ?_
  refine rk_reg ?_
  refine lw_v (.pointer (some ⟨b1, 0, none⟩)) (dv_fieldAddr (a := ⟨b1, 0, none⟩) (a' := ⟨b1, 0, none⟩) fo30_0 (T rfl rfl) rfl) ?_
  have H16 := (n13.ext.blk (n8.ext.blk n3.blk))
  refine lw_v (.agg #[.int .i64 ax, .int .i64 ay]) (dv_loads (l := [.int .i64 ax, .int .i64 ay]) ag24 sz24 (T rfl rfl) H16 rfl) ?_
  refine lw_e (oe_callf (vs := [.agg #[.int .i64 ax, .int .i64 ay]]) co10 (ar1 (T rfl rfl)) (toSpot_ok ) ?_)
  rintro _ w17 ⟨rfl, e18⟩
  have E19 := below_ext E15 E15.size e18
  refine lw_v (.pointer (some ⟨b11, 0, none⟩)) (dv_fieldAddr (a := ⟨b11, 0, none⟩) (a' := ⟨b11, 0, none⟩) fo33_0 (T rfl rfl) rfl) ?_
  have H20 := (e18.blk n13.blk)
  refine lw_e (oe_store (v := .agg #[.int .i64 ax, .int .i64 ay]) (vs := [.int .i64 ax, .int .i64 ay]) (l := [.int .i64 ax, .int .i64 ay, .int .i64 0, .int .i64 0]) (T rfl rfl) (T rfl rfl) sz26 rfl rfl rfl H20 rfl ?_)
  intro w21 s22 H23
  have E24 := below_st E19 N14 s22
  refine lw_nil ?_
  refine rk_seq ?_
  refine rk_reg ?_
  refine lw_v (.pointer (some ⟨b1, 2, none⟩)) (dv_fieldAddr (a := ⟨b1, 0, none⟩) (a' := ⟨b1, 2, none⟩) fo30_1 (T rfl rfl) rfl) ?_
  have H25 := (s22.blk (e18.blk H16) (by omega))
  refine lw_v (.agg #[.int .i64 bx, .int .i64 by_]) (dv_loads (l := [.int .i64 bx, .int .i64 by_]) ag24 sz24 (T rfl rfl) H25 rfl) ?_
  refine lw_e (oe_callf (vs := [.agg #[.int .i64 bx, .int .i64 by_]]) co10 (ar1 (T rfl rfl)) (toSpot_ok ) ?_)
  rintro _ w26 ⟨rfl, e27⟩
  have E28 := below_ext E24 E24.size e27
  refine lw_v (.pointer (some ⟨b11, 2, none⟩)) (dv_fieldAddr (a := ⟨b11, 0, none⟩) (a' := ⟨b11, 2, none⟩) fo33_1 (T rfl rfl) rfl) ?_
  have H29 := (e27.blk H23)
  refine lw_e (oe_store (v := .agg #[.int .i64 bx, .int .i64 by_]) (vs := [.int .i64 bx, .int .i64 by_]) (l := [.int .i64 ax, .int .i64 ay, .int .i64 bx, .int .i64 by_]) (T rfl rfl) (T rfl rfl) sz26 rfl rfl rfl H29 rfl ?_)
  intro w30 s31 H32
  have E33 := below_st E28 N14 s31
  refine lw_nil ?_
  refine rk_seq ?_
  refine rk_reg ?_
  refine lw_v (.agg #[.int .i64 ax, .int .i64 ay, .int .i64 bx, .int .i64 by_]) (dv_loads (l := [.int .i64 ax, .int .i64 ay, .int .i64 bx, .int .i64 by_]) ag33 sz33 (T rfl rfl) H32 rfl) ?_
  have H34 := (s31.blk (e27.blk (s22.blk (e18.blk (n13.ext.blk n8.blk)) (by omega))) (by omega))
  refine lw_e (oe_store (v := .agg #[.int .i64 ax, .int .i64 ay, .int .i64 bx, .int .i64 by_]) (vs := [.int .i64 ax, .int .i64 ay, .int .i64 bx, .int .i64 by_]) (l := [.int .i64 ax, .int .i64 ay, .int .i64 bx, .int .i64 by_]) (T rfl rfl) (T rfl rfl) sz33 rfl rfl rfl H34 rfl ?_)
  intro w35 s36 H37
  have E38 := below_st E33 N9 s36
  refine lw_nil ?_
  refine rk_ret Try.func13 (v := .agg #[.int .i64 ax, .int .i64 ay, .int .i64 bx, .int .i64 by_]) (res1 Try.results13 (rv_cells (l := [.int .i64 ax, .int .i64 ay, .int .i64 bx, .int .i64 by_]) ag33 sz33 rfl rfl H37 rfl)) ⟨_, rfl, ?_⟩
  exact ⟨rfl, E38⟩
theorem lawSegOk_ok {w : World} {ax ay bx by_ : Int} : Ct Try.prog 5 [.agg #[.int .i64 ax, .int .i64 ay, .int .i64 bx, .int .i64 by_]] w fun v w1 => v = .bool true ∧ Ext w w1 := by
  refine ct_run (n := 14) Try.func5 rfl Try.ntmps5 rfl ?_
  have E0 : Below w.heap.size w w := Below.refl _ _
  refine rk_seq ?_
  refine rk_reg ?_
  refine lw_e (oe_box (v := .agg #[.int .i64 ax, .int .i64 ay, .int .i64 bx, .int .i64 by_]) (cs := #[.int .i64 ax, .int .i64 ay, .int .i64 bx, .int .i64 by_]) (T rfl rfl) rfl ?_)
  intro b1 w2 n3
  have N4 : w.heap.size ≤ b1 := n3.eq ▸ E0.size
  have E5 := below_ext E0 E0.size n3.ext
  refine lw_v (.bool false) (dv_assign C) ?_
  refine lw_nil ?_
  refine rk_seq ?_
  refine rk_reg ?_
  refine lw_v (.agg #[.int .i64 ax, .int .i64 ay, .int .i64 bx, .int .i64 by_]) (dv_loads (l := [.int .i64 ax, .int .i64 ay, .int .i64 bx, .int .i64 by_]) ag30 sz30 (T rfl rfl) n3.blk rfl) ?_
  refine lw_e (oe_callf (vs := [.agg #[.int .i64 ax, .int .i64 ay, .int .i64 bx, .int .i64 by_]]) co13 (ar1 (T rfl rfl)) (toSeg_ok ) ?_)
  rintro _ w6 ⟨rfl, e7⟩
  have E8 := below_ext E5 E5.size e7
  refine lw_e (oe_callf (vs := [.agg #[.int .i64 ax, .int .i64 ay, .int .i64 bx, .int .i64 by_]]) co12 (ar1 (T rfl rfl)) (sSegOk_ok ) ?_)
  rintro _ w9 ⟨rfl, e10⟩
  have E11 := below_ext E8 E8.size e10
  refine lw_v (.bool (decide (segOk ax ay bx by_))) (dv_assign (T rfl rfl)) ?_
  refine lw_nil ?_
  refine rk_seq ?_
  refine rk_reg ?_
  have H12 := (e10.blk (e7.blk n3.blk))
  refine lw_v (.agg #[.int .i64 ax, .int .i64 ay, .int .i64 bx, .int .i64 by_]) (dv_loads (l := [.int .i64 ax, .int .i64 ay, .int .i64 bx, .int .i64 by_]) ag30 sz30 (T rfl rfl) H12 rfl) ?_
  refine lw_e (oe_callf (vs := [.agg #[.int .i64 ax, .int .i64 ay, .int .i64 bx, .int .i64 by_]]) co13 (ar1 (T rfl rfl)) (toSeg_ok ) ?_)
  rintro _ w13 ⟨rfl, e14⟩
  have E15 := below_ext E11 E11.size e14
  refine lw_e (oe_callf (vs := [.agg #[.int .i64 ax, .int .i64 ay, .int .i64 bx, .int .i64 by_]]) co14 (ar1 (T rfl rfl)) (iSegOk_ok ) ?_)
  rintro _ w16 ⟨rfl, e17⟩
  have E18 := below_ext E15 E15.size e17
  refine lw_v (.bool (decide (segOk ax ay bx by_))) (dv_assign (T rfl rfl)) ?_
  refine lw_nil ?_
  refine rk_seq ?_
  refine rk_seq ?_
  refine rk_reg ?_
  refine lw_v (.bool (decide (segOk ax ay bx by_))) (dv_move (T rfl rfl)) ?_
  refine lw_v (.bool (decide (segOk ax ay bx by_))) (dv_move (T rfl rfl)) ?_
  refine lw_v (.bool ((decide (segOk ax ay bx by_)) != (decide (segOk ax ay bx by_)))) (dv_neqb (a := decide (segOk ax ay bx by_)) (b := decide (segOk ax ay bx by_)) ub4 (T rfl rfl) (T rfl rfl)) ?_
  refine lw_nil ?_
  rcases Bool.eq_false_or_eq_true ((decide (segOk ax ay bx by_)) != (decide (segOk ax ay bx by_))) with hb19 | hb19
  · -- T
    refine rk_ct (T rfl (congrArg Value.bool hb19)) ?_
    refine rk_seq ?_
    refine rk_reg ?_
    refine lw_v (.bool false) (dv_assign C) ?_
    refine lw_nil ?_
    refine rk_ret Try.func5 (v := .bool false) (res1 Try.results5 (rv_tmp rfl rfl)) ⟨_, rfl, ?_⟩
    exact ⟨(congrArg Value.bool (by grind)), E18⟩
  · -- F
    refine rk_cf (T rfl (congrArg Value.bool hb19)) ?_
    refine rk_skip ?_
    refine rk_seq ?_
    refine rk_reg ?_
    refine lw_v (.bool true) (dv_assign C) ?_
    refine lw_nil ?_
    refine rk_ret Try.func5 (v := .bool true) (res1 Try.results5 (rv_tmp rfl rfl)) ⟨_, rfl, ?_⟩
    exact ⟨rfl, E18⟩
theorem segOf_ok {w : World} {ax ay bx by_ : Int} : Ct Try.prog 29 [.agg #[.int .i64 ax, .int .i64 ay], .agg #[.int .i64 bx, .int .i64 by_]] w fun v w1 => v = .agg #[.int .i64 ((ordV ax ay bx by_).1), .int .i64 ((ordV ax ay bx by_).2.1), .int .i64 ((ordV ax ay bx by_).2.2.1), .int .i64 ((ordV ax ay bx by_).2.2.2)] ∧ Ext w w1 := by
  refine ct_run (n := 15) Try.func29 rfl Try.ntmps29 rfl ?_
  have E0 : Below w.heap.size w w := Below.refl _ _
  refine rk_seq ?_
  refine rk_reg ?_
  refine lw_e (oe_box (v := .agg #[.int .i64 ax, .int .i64 ay]) (cs := #[.int .i64 ax, .int .i64 ay]) (T rfl rfl) rfl ?_)
  intro b1 w2 n3
  have N4 : w.heap.size ≤ b1 := n3.eq ▸ E0.size
  have E5 := below_ext E0 E0.size n3.ext
  refine lw_e (oe_box (v := .agg #[.int .i64 bx, .int .i64 by_]) (cs := #[.int .i64 bx, .int .i64 by_]) (T rfl rfl) rfl ?_)
  intro b6 w7 n8
  have N9 : w.heap.size ≤ b6 := n8.eq ▸ E5.size
  have : b1 < b6 := n8.eq ▸ lt_of_blk n3.blk
  have E10 := below_ext E5 E5.size n8.ext
  refine lw_e (oe_alloc ze33 ?_)
  intro b11 w12 n13
  have N14 : w.heap.size ≤ b11 := n13.eq ▸ E10.size
  have : b6 < b11 := n13.eq ▸ lt_of_blk n8.blk
  have E15 := below_ext E10 E10.size n13.ext
  refine lw_nil ?_
  refine rk_seq ?_
  refine rk_seq ?_
  refine rk_reg ?_
  have H16 := (n13.ext.blk (n8.ext.blk n3.blk))
  refine lw_v (.agg #[.int .i64 ax, .int .i64 ay]) (dv_loads (l := [.int .i64 ax, .int .i64 ay]) ag26 sz26 (T rfl rfl) H16 rfl) ?_
  have H17 := (n13.ext.blk n8.blk)
  refine lw_v (.agg #[.int .i64 bx, .int .i64 by_]) (dv_loads (l := [.int .i64 bx, .int .i64 by_]) ag26 sz26 (T rfl rfl) H17 rfl) ?_
  refine lw_e (oe_callf (vs := [.agg #[.int .i64 ax, .int .i64 ay], .agg #[.int .i64 bx, .int .i64 by_]]) co28 (ar2 (T rfl rfl) (T rfl rfl)) (cmpSpots_ok ) ?_)
  rintro _ w18 ⟨rfl, e19⟩
  have E20 := below_ext E15 E15.size e19
  refine lw_v (.bool (decide (0 < (cmpS ax ay bx by_)))) (dv_gtr (a := cmpS ax ay bx by_) (b := 0) (T rfl rfl) C) ?_
  refine lw_nil ?_
  by_cases hb21 : 0 < (cmpS ax ay bx by_)
  · -- T
    refine rk_ct (T rfl (congrArg Value.bool (decide_eq_true hb21))) ?_
    refine rk_seq ?_
    refine rk_reg ?_
    have H22 := (e19.blk H17)
    refine lw_v (.agg #[.int .i64 bx, .int .i64 by_]) (dv_loads (l := [.int .i64 bx, .int .i64 by_]) ag26 sz26 (T rfl rfl) H22 rfl) ?_
    have H23 := (e19.blk H16)
    refine lw_v (.agg #[.int .i64 ax, .int .i64 ay]) (dv_loads (l := [.int .i64 ax, .int .i64 ay]) ag26 sz26 (T rfl rfl) H23 rfl) ?_
    refine lw_v (.agg #[.int .i64 bx, .int .i64 by_, .int .i64 ax, .int .i64 ay]) (dv_build (pv := [(0, .agg #[.int .i64 bx, .int .i64 by_]), (1, .agg #[.int .i64 ax, .int .i64 ay])]) (l := [.int .i64 bx, .int .i64 by_, .int .i64 ax, .int .i64 ay]) zc33 pl33 ⟨rfl, (T rfl rfl), ⟨rfl, (T rfl rfl), trivial⟩⟩ rfl) ?_
    have H24 := (e19.blk n13.blk)
    refine lw_e (oe_store (v := .agg #[.int .i64 bx, .int .i64 by_, .int .i64 ax, .int .i64 ay]) (vs := [.int .i64 bx, .int .i64 by_, .int .i64 ax, .int .i64 ay]) (l := [.int .i64 bx, .int .i64 by_, .int .i64 ax, .int .i64 ay]) (T rfl rfl) (T rfl rfl) sz33 rfl rfl rfl H24 rfl ?_)
    intro w25 s26 H27
    have E28 := below_st E20 N14 s26
    refine lw_nil ?_
    refine rk_ret Try.func29 (v := .agg #[.int .i64 bx, .int .i64 by_, .int .i64 ax, .int .i64 ay]) (res1 Try.results29 (rv_cells (l := [.int .i64 bx, .int .i64 by_, .int .i64 ax, .int .i64 ay]) ag33 sz33 rfl rfl H27 rfl)) ⟨_, rfl, ?_⟩
    exact ⟨(ag4 (vi (by simp [ordV, ← cmpS_pos, *])) (vi (by simp [ordV, ← cmpS_pos, *])) (vi (by simp [ordV, ← cmpS_pos, *])) (vi (by simp [ordV, ← cmpS_pos, *]))), E28⟩
  · -- F
    refine rk_cf (T rfl (congrArg Value.bool (decide_eq_false hb21))) ?_
    refine rk_skip ?_
    refine rk_seq ?_
    refine rk_reg ?_
    have H29 := (e19.blk H16)
    refine lw_v (.agg #[.int .i64 ax, .int .i64 ay]) (dv_loads (l := [.int .i64 ax, .int .i64 ay]) ag26 sz26 (T rfl rfl) H29 rfl) ?_
    have H30 := (e19.blk H17)
    refine lw_v (.agg #[.int .i64 bx, .int .i64 by_]) (dv_loads (l := [.int .i64 bx, .int .i64 by_]) ag26 sz26 (T rfl rfl) H30 rfl) ?_
    refine lw_v (.agg #[.int .i64 ax, .int .i64 ay, .int .i64 bx, .int .i64 by_]) (dv_build (pv := [(0, .agg #[.int .i64 ax, .int .i64 ay]), (1, .agg #[.int .i64 bx, .int .i64 by_])]) (l := [.int .i64 ax, .int .i64 ay, .int .i64 bx, .int .i64 by_]) zc33 pl33 ⟨rfl, (T rfl rfl), ⟨rfl, (T rfl rfl), trivial⟩⟩ rfl) ?_
    have H31 := (e19.blk n13.blk)
    refine lw_e (oe_store (v := .agg #[.int .i64 ax, .int .i64 ay, .int .i64 bx, .int .i64 by_]) (vs := [.int .i64 ax, .int .i64 ay, .int .i64 bx, .int .i64 by_]) (l := [.int .i64 ax, .int .i64 ay, .int .i64 bx, .int .i64 by_]) (T rfl rfl) (T rfl rfl) sz33 rfl rfl rfl H31 rfl ?_)
    intro w32 s33 H34
    have E35 := below_st E20 N14 s33
    refine lw_nil ?_
    refine rk_ret Try.func29 (v := .agg #[.int .i64 ax, .int .i64 ay, .int .i64 bx, .int .i64 by_]) (res1 Try.results29 (rv_cells (l := [.int .i64 ax, .int .i64 ay, .int .i64 bx, .int .i64 by_]) ag33 sz33 rfl rfl H34 rfl)) ⟨_, rfl, ?_⟩
    exact ⟨(ag4 (vi (by simp [ordV, ← cmpS_pos, *])) (vi (by simp [ordV, ← cmpS_pos, *])) (vi (by simp [ordV, ← cmpS_pos, *])) (vi (by simp [ordV, ← cmpS_pos, *]))), E35⟩
theorem iSegOf_ok {w : World} {ax ay bx by_ : Int} : Ct Try.prog 16 [.agg #[.int .i64 ax, .int .i64 ay], .agg #[.int .i64 bx, .int .i64 by_]] w fun v w1 => v = .tuple #[.agg #[.int .i64 ((segOfV ax ay bx by_).1), .int .i64 ((segOfV ax ay bx by_).2.1), .int .i64 ((segOfV ax ay bx by_).2.2.1), .int .i64 ((segOfV ax ay bx by_).2.2.2)], .bool (decide (segOfOk ax ay bx by_))] ∧ Ext w w1 := by
  refine ct_run (n := 23) Try.func16 rfl Try.ntmps16 rfl ?_
  have E0 : Below w.heap.size w w := Below.refl _ _
  refine rk_seq ?_
  refine rk_reg ?_
  refine lw_e (oe_box (v := .agg #[.int .i64 ax, .int .i64 ay]) (cs := #[.int .i64 ax, .int .i64 ay]) (T rfl rfl) rfl ?_)
  intro b1 w2 n3
  have N4 : w.heap.size ≤ b1 := n3.eq ▸ E0.size
  have E5 := below_ext E0 E0.size n3.ext
  refine lw_e (oe_box (v := .agg #[.int .i64 bx, .int .i64 by_]) (cs := #[.int .i64 bx, .int .i64 by_]) (T rfl rfl) rfl ?_)
  intro b6 w7 n8
  have N9 : w.heap.size ≤ b6 := n8.eq ▸ E5.size
  have : b1 < b6 := n8.eq ▸ lt_of_blk n3.blk
  have E10 := below_ext E5 E5.size n8.ext
  refine lw_e (oe_alloc ze33 ?_)
  intro b11 w12 n13
  have N14 : w.heap.size ≤ b11 := n13.eq ▸ E10.size
  have : b6 < b11 := n13.eq ▸ lt_of_blk n8.blk
  have E15 := below_ext E10 E10.size n13.ext
  refine lw_v (.bool false) (dv_assign C) ?_
  refine lw_nil ?_
  refine rk_seq ?_
  refine rk_seq ?_
  refine rk_reg ?_
  have H16 := (n13.ext.blk (n8.ext.blk n3.blk))
  refine lw_v (.agg #[.int .i64 ax, .int .i64 ay]) (dv_loads (l := [.int .i64 ax, .int .i64 ay]) ag26 sz26 (T rfl rfl) H16 rfl) ?_
  refine lw_e (oe_callf (vs := [.agg #[.int .i64 ax, .int .i64 ay]]) co11 (ar1 (T rfl rfl)) (iSpotOk_ok ) ?_)
  rintro _ w17 ⟨rfl, e18⟩
  have E19 := below_ext E15 E15.size e18
  refine lw_v (.bool (decide (¬ (spotOk ax ay)))) (dv_notd (p := spotOk ax ay) (T rfl rfl)) ?_
  refine lw_v (.bool (decide (¬ (spotOk ax ay)))) (dv_move (T rfl rfl)) ?_
  by_cases hb20 : spotOk ax ay
  · -- T
    have H21 := (e18.blk (n13.ext.blk n8.blk))
    refine lw_vy (.agg #[.int .i64 bx, .int .i64 by_]) (d := 9) rfl rfl (congrArg Value.bool (decide_eq_false (not_not_intro hb20))) (dv_loads (l := [.int .i64 bx, .int .i64 by_]) ag26 sz26 (T rfl rfl) H21 rfl) ?_
    refine lw_ey (d := 9) rfl rfl (congrArg Value.bool (decide_eq_false (not_not_intro hb20))) (oe_callf (vs := [.agg #[.int .i64 bx, .int .i64 by_]]) co11 (ar1 (T rfl rfl)) (iSpotOk_ok ) ?_)
    rintro _ w22 ⟨rfl, e23⟩
    have E24 := below_ext E19 E19.size e23
    refine lw_vy (.bool (decide (¬ (spotOk bx by_)))) (d := 9) rfl rfl (congrArg Value.bool (decide_eq_false (not_not_intro hb20))) (dv_notd (p := spotOk bx by_) (T rfl rfl)) ?_
    refine lw_v (.bool (decide (¬ (spotOk bx by_)))) (dv_pick_f (T rfl (congrArg Value.bool (decide_eq_false (not_not_intro hb20)))) (T rfl rfl)) ?_
    refine lw_v (.bool (decide (¬ (spotOk bx by_)))) (dv_move (T rfl rfl)) ?_
    by_cases hb25 : spotOk bx by_
    · -- TT
      have H26 := (e23.blk (e18.blk H16))
      refine lw_vy (.agg #[.int .i64 ax, .int .i64 ay]) (d := 14) rfl rfl (congrArg Value.bool (decide_eq_false (not_not_intro hb25))) (dv_loads (l := [.int .i64 ax, .int .i64 ay]) ag26 sz26 (T rfl rfl) H26 rfl) ?_
      have H27 := (e23.blk H21)
      refine lw_vy (.agg #[.int .i64 bx, .int .i64 by_]) (d := 14) rfl rfl (congrArg Value.bool (decide_eq_false (not_not_intro hb25))) (dv_loads (l := [.int .i64 bx, .int .i64 by_]) ag26 sz26 (T rfl rfl) H27 rfl) ?_
      refine lw_vy (.bool (decide (([ax, ay] : List Int) = [bx, by_]))) (d := 14) rfl rfl (congrArg Value.bool (decide_eq_false (not_not_intro hb25))) (dv_eqls (k := .i64) (la := [ax, ay]) (lb := [bx, by_]) fl26 eg26 (T rfl rfl) (T rfl rfl) rfl rfl) ?_
      refine lw_v (.bool (decide (([ax, ay] : List Int) = [bx, by_]))) (dv_pick_f (T rfl (congrArg Value.bool (decide_eq_false (not_not_intro hb25)))) (T rfl rfl)) ?_
      refine lw_nil ?_
      by_cases hb28 : ([ax, ay] : List Int) = [bx, by_]
      · -- TTT
        refine rk_ct (T rfl (congrArg Value.bool (decide_eq_true hb28))) ?_
        refine rk_seq ?_
        refine rk_reg ?_
        refine lw_v (.agg #[.int .i64 0, .int .i64 0, .int .i64 0, .int .i64 0]) (dv_build (pv := []) (l := [.int .i64 0, .int .i64 0, .int .i64 0, .int .i64 0]) zc33 pl33 trivial rfl) ?_
        have H29 := (e23.blk (e18.blk n13.blk))
        refine lw_e (oe_store (v := .agg #[.int .i64 0, .int .i64 0, .int .i64 0, .int .i64 0]) (vs := [.int .i64 0, .int .i64 0, .int .i64 0, .int .i64 0]) (l := [.int .i64 0, .int .i64 0, .int .i64 0, .int .i64 0]) (T rfl rfl) (T rfl rfl) sz33 rfl rfl rfl H29 rfl ?_)
        intro w30 s31 H32
        have E33 := below_st E24 N14 s31
        refine lw_v (.bool false) (dv_assign C) ?_
        refine lw_nil ?_
        refine rk_ret Try.func16 (v := .tuple #[.agg #[.int .i64 0, .int .i64 0, .int .i64 0, .int .i64 0], .bool false]) (res2 Try.results16 (rv_cells (l := [.int .i64 0, .int .i64 0, .int .i64 0, .int .i64 0]) ag33 sz33 rfl rfl H32 rfl) (rv_tmp rfl rfl)) ⟨_, rfl, ?_⟩
        exact ⟨(tu2 (ag4 (vi (by first | (simp [segOfV, segOfOk, *]; done) | grind [segOfV, segOfOk])) (vi (by first | (simp [segOfV, segOfOk, *]; done) | grind [segOfV, segOfOk])) (vi (by first | (simp [segOfV, segOfOk, *]; done) | grind [segOfV, segOfOk])) (vi (by first | (simp [segOfV, segOfOk, *]; done) | grind [segOfV, segOfOk]))) (vf (by first | (simp [segOfV, segOfOk, *]; done) | grind [segOfV, segOfOk]))), E33⟩
      · -- TTF
        refine rk_cf (T rfl (congrArg Value.bool (decide_eq_false hb28))) ?_
        refine rk_skip ?_
        refine rk_seq ?_
        refine rk_reg ?_
        refine lw_v (.agg #[.int .i64 ax, .int .i64 ay]) (dv_loads (l := [.int .i64 ax, .int .i64 ay]) ag26 sz26 (T rfl rfl) H26 rfl) ?_
        refine lw_v (.agg #[.int .i64 bx, .int .i64 by_]) (dv_loads (l := [.int .i64 bx, .int .i64 by_]) ag26 sz26 (T rfl rfl) H27 rfl) ?_
        refine lw_e (oe_callf (vs := [.agg #[.int .i64 ax, .int .i64 ay], .agg #[.int .i64 bx, .int .i64 by_]]) co29 (ar2 (T rfl rfl) (T rfl rfl)) (segOf_ok ) ?_)
        rintro _ w34 ⟨rfl, e35⟩
        have E36 := below_ext E24 E24.size e35
        have H37 := (e35.blk (e23.blk (e18.blk n13.blk)))
        refine lw_e (oe_store (v := .agg #[.int .i64 ((ordV ax ay bx by_).1), .int .i64 ((ordV ax ay bx by_).2.1), .int .i64 ((ordV ax ay bx by_).2.2.1), .int .i64 ((ordV ax ay bx by_).2.2.2)]) (vs := [.int .i64 ((ordV ax ay bx by_).1), .int .i64 ((ordV ax ay bx by_).2.1), .int .i64 ((ordV ax ay bx by_).2.2.1), .int .i64 ((ordV ax ay bx by_).2.2.2)]) (l := [.int .i64 ((ordV ax ay bx by_).1), .int .i64 ((ordV ax ay bx by_).2.1), .int .i64 ((ordV ax ay bx by_).2.2.1), .int .i64 ((ordV ax ay bx by_).2.2.2)]) (T rfl rfl) (T rfl rfl) sz33 rfl rfl rfl H37 rfl ?_)
        intro w38 s39 H40
        have E41 := below_st E36 N14 s39
        refine lw_v (.bool true) (dv_assign C) ?_
        refine lw_nil ?_
        refine rk_ret Try.func16 (v := .tuple #[.agg #[.int .i64 ((ordV ax ay bx by_).1), .int .i64 ((ordV ax ay bx by_).2.1), .int .i64 ((ordV ax ay bx by_).2.2.1), .int .i64 ((ordV ax ay bx by_).2.2.2)], .bool true]) (res2 Try.results16 (rv_cells (l := [.int .i64 ((ordV ax ay bx by_).1), .int .i64 ((ordV ax ay bx by_).2.1), .int .i64 ((ordV ax ay bx by_).2.2.1), .int .i64 ((ordV ax ay bx by_).2.2.2)]) ag33 sz33 rfl rfl H40 rfl) (rv_tmp rfl rfl)) ⟨_, rfl, ?_⟩
        exact ⟨(tu2 (ag4 (vi (by first | (simp [segOfV, segOfOk, *]; done) | grind [segOfV, segOfOk])) (vi (by first | (simp [segOfV, segOfOk, *]; done) | grind [segOfV, segOfOk])) (vi (by first | (simp [segOfV, segOfOk, *]; done) | grind [segOfV, segOfOk])) (vi (by first | (simp [segOfV, segOfOk, *]; done) | grind [segOfV, segOfOk]))) (vt (by first | (simp [segOfV, segOfOk, *]; done) | grind [segOfV, segOfOk]))), E41⟩
    · -- TF
      refine lw_no (d := 14) rfl rfl (congrArg Value.bool (decide_eq_true hb25)) ?_
      refine lw_no (d := 14) rfl rfl (congrArg Value.bool (decide_eq_true hb25)) ?_
      refine lw_no (d := 14) rfl rfl (congrArg Value.bool (decide_eq_true hb25)) ?_
      refine lw_v (.bool true) (dv_pick_t (T rfl (congrArg Value.bool (decide_eq_true hb25))) C) ?_
      refine lw_nil ?_
      refine rk_ct (T rfl rfl) ?_
      refine rk_seq ?_
      refine rk_reg ?_
      refine lw_v (.agg #[.int .i64 0, .int .i64 0, .int .i64 0, .int .i64 0]) (dv_build (pv := []) (l := [.int .i64 0, .int .i64 0, .int .i64 0, .int .i64 0]) zc33 pl33 trivial rfl) ?_
      have H42 := (e23.blk (e18.blk n13.blk))
      refine lw_e (oe_store (v := .agg #[.int .i64 0, .int .i64 0, .int .i64 0, .int .i64 0]) (vs := [.int .i64 0, .int .i64 0, .int .i64 0, .int .i64 0]) (l := [.int .i64 0, .int .i64 0, .int .i64 0, .int .i64 0]) (T rfl rfl) (T rfl rfl) sz33 rfl rfl rfl H42 rfl ?_)
      intro w43 s44 H45
      have E46 := below_st E24 N14 s44
      refine lw_v (.bool false) (dv_assign C) ?_
      refine lw_nil ?_
      refine rk_ret Try.func16 (v := .tuple #[.agg #[.int .i64 0, .int .i64 0, .int .i64 0, .int .i64 0], .bool false]) (res2 Try.results16 (rv_cells (l := [.int .i64 0, .int .i64 0, .int .i64 0, .int .i64 0]) ag33 sz33 rfl rfl H45 rfl) (rv_tmp rfl rfl)) ⟨_, rfl, ?_⟩
      exact ⟨(tu2 (ag4 (vi (by first | (simp [segOfV, segOfOk, *]; done) | grind [segOfV, segOfOk])) (vi (by first | (simp [segOfV, segOfOk, *]; done) | grind [segOfV, segOfOk])) (vi (by first | (simp [segOfV, segOfOk, *]; done) | grind [segOfV, segOfOk])) (vi (by first | (simp [segOfV, segOfOk, *]; done) | grind [segOfV, segOfOk]))) (vf (by first | (simp [segOfV, segOfOk, *]; done) | grind [segOfV, segOfOk]))), E46⟩
  · -- F
    refine lw_no (d := 9) rfl rfl (congrArg Value.bool (decide_eq_true hb20)) ?_
    refine lw_no (d := 9) rfl rfl (congrArg Value.bool (decide_eq_true hb20)) ?_
    refine lw_no (d := 9) rfl rfl (congrArg Value.bool (decide_eq_true hb20)) ?_
    refine lw_v (.bool true) (dv_pick_t (T rfl (congrArg Value.bool (decide_eq_true hb20))) C) ?_
    refine lw_v (.bool true) (dv_move (T rfl rfl)) ?_
    refine lw_no (d := 14) rfl rfl (rfl) ?_
    refine lw_no (d := 14) rfl rfl (rfl) ?_
    refine lw_no (d := 14) rfl rfl (rfl) ?_
    refine lw_v (.bool true) (dv_pick_t (T rfl rfl) C) ?_
    refine lw_nil ?_
    refine rk_ct (T rfl rfl) ?_
    refine rk_seq ?_
    refine rk_reg ?_
    refine lw_v (.agg #[.int .i64 0, .int .i64 0, .int .i64 0, .int .i64 0]) (dv_build (pv := []) (l := [.int .i64 0, .int .i64 0, .int .i64 0, .int .i64 0]) zc33 pl33 trivial rfl) ?_
    have H47 := (e18.blk n13.blk)
    refine lw_e (oe_store (v := .agg #[.int .i64 0, .int .i64 0, .int .i64 0, .int .i64 0]) (vs := [.int .i64 0, .int .i64 0, .int .i64 0, .int .i64 0]) (l := [.int .i64 0, .int .i64 0, .int .i64 0, .int .i64 0]) (T rfl rfl) (T rfl rfl) sz33 rfl rfl rfl H47 rfl ?_)
    intro w48 s49 H50
    have E51 := below_st E19 N14 s49
    refine lw_v (.bool false) (dv_assign C) ?_
    refine lw_nil ?_
    refine rk_ret Try.func16 (v := .tuple #[.agg #[.int .i64 0, .int .i64 0, .int .i64 0, .int .i64 0], .bool false]) (res2 Try.results16 (rv_cells (l := [.int .i64 0, .int .i64 0, .int .i64 0, .int .i64 0]) ag33 sz33 rfl rfl H50 rfl) (rv_tmp rfl rfl)) ⟨_, rfl, ?_⟩
    exact ⟨(tu2 (ag4 (vi (by first | (simp [segOfV, segOfOk, *]; done) | grind [segOfV, segOfOk])) (vi (by first | (simp [segOfV, segOfOk, *]; done) | grind [segOfV, segOfOk])) (vi (by first | (simp [segOfV, segOfOk, *]; done) | grind [segOfV, segOfOk])) (vi (by first | (simp [segOfV, segOfOk, *]; done) | grind [segOfV, segOfOk]))) (vf (by first | (simp [segOfV, segOfOk, *]; done) | grind [segOfV, segOfOk]))), E51⟩
theorem sSegOf_ok {w : World} {ax ay bx by_ : Int} : Ct Try.prog 15 [.agg #[.int .i64 ax, .int .i64 ay], .agg #[.int .i64 bx, .int .i64 by_]] w fun v w1 => v = .tuple #[.agg #[.int .i64 ((segOfV ax ay bx by_).1), .int .i64 ((segOfV ax ay bx by_).2.1), .int .i64 ((segOfV ax ay bx by_).2.2.1), .int .i64 ((segOfV ax ay bx by_).2.2.2)], .bool (decide (segOfOk ax ay bx by_))] ∧ Ext w w1 := by
  refine ct_run (n := 20) Try.func15 rfl Try.ntmps15 rfl ?_
  have E0 : Below w.heap.size w w := Below.refl _ _
  refine rk_seq ?_
  refine rk_reg ?_
  refine lw_e (oe_box (v := .agg #[.int .i64 ax, .int .i64 ay]) (cs := #[.int .i64 ax, .int .i64 ay]) (T rfl rfl) rfl ?_)
  intro b1 w2 n3
  have N4 : w.heap.size ≤ b1 := n3.eq ▸ E0.size
  have E5 := below_ext E0 E0.size n3.ext
  refine lw_e (oe_box (v := .agg #[.int .i64 bx, .int .i64 by_]) (cs := #[.int .i64 bx, .int .i64 by_]) (T rfl rfl) rfl ?_)
  intro b6 w7 n8
  have N9 : w.heap.size ≤ b6 := n8.eq ▸ E5.size
  have : b1 < b6 := n8.eq ▸ lt_of_blk n3.blk
  have E10 := below_ext E5 E5.size n8.ext
  refine lw_e (oe_alloc ze33 ?_)
  intro b11 w12 n13
  have N14 : w.heap.size ≤ b11 := n13.eq ▸ E10.size
  have : b6 < b11 := n13.eq ▸ lt_of_blk n8.blk
  have E15 := below_ext E10 E10.size n13.ext
  refine lw_v (.bool false) (dv_assign C) ?_
  refine lw_nil ?_
  refine rk_seq ?_
  refine rk_seq ?_
  refine rk_reg ?_
  have H16 := (n13.ext.blk n8.blk)
  refine lw_v (.agg #[.int .i64 bx, .int .i64 by_]) (dv_loads (l := [.int .i64 bx, .int .i64 by_]) ag26 sz26 (T rfl rfl) H16 rfl) ?_
  have H17 := (n13.ext.blk (n8.ext.blk n3.blk))
  refine lw_v (.agg #[.int .i64 ax, .int .i64 ay]) (dv_loads (l := [.int .i64 ax, .int .i64 ay]) ag26 sz26 (T rfl rfl) H17 rfl) ?_
  refine lw_e (oe_callf (vs := [.agg #[.int .i64 bx, .int .i64 by_], .agg #[.int .i64 ax, .int .i64 ay]]) co27 (ar2 (T rfl rfl) (T rfl rfl)) (l4Less_ok ) ?_)
  rintro _ w18 ⟨rfl, e19⟩
  have E20 := below_ext E15 E15.size e19
  refine lw_nil ?_
  by_cases hb21 : spotLt bx by_ ax ay
  · -- T
    refine rk_ct (T rfl (congrArg Value.bool (decide_eq_true hb21))) ?_
    refine rk_reg ?_
    have H22 := (e19.blk H16)
    refine lw_v (.agg #[.int .i64 bx, .int .i64 by_]) (dv_loads (l := [.int .i64 bx, .int .i64 by_]) ag26 sz26 (T rfl rfl) H22 rfl) ?_
    have H23 := (e19.blk H17)
    refine lw_v (.agg #[.int .i64 ax, .int .i64 ay]) (dv_loads (l := [.int .i64 ax, .int .i64 ay]) ag26 sz26 (T rfl rfl) H23 rfl) ?_
    refine lw_e (oe_store (v := .agg #[.int .i64 bx, .int .i64 by_]) (vs := [.int .i64 bx, .int .i64 by_]) (l := [.int .i64 bx, .int .i64 by_]) (T rfl rfl) (T rfl rfl) sz26 rfl rfl rfl H23 rfl ?_)
    intro w24 s25 H26
    have E27 := below_st E20 N4 s25
    have H28 := (s25.blk H22 (by omega))
    refine lw_e (oe_store (v := .agg #[.int .i64 ax, .int .i64 ay]) (vs := [.int .i64 ax, .int .i64 ay]) (l := [.int .i64 ax, .int .i64 ay]) (T rfl rfl) (T rfl rfl) sz26 rfl rfl rfl H28 rfl ?_)
    intro w29 s30 H31
    have E32 := below_st E27 N9 s30
    refine lw_nil ?_
    refine rk_seq ?_
    refine rk_reg ?_
    have H33 := (s30.blk H26 (by omega))
    refine lw_v (.agg #[.int .i64 bx, .int .i64 by_]) (dv_loads (l := [.int .i64 bx, .int .i64 by_]) ag26 sz26 (T rfl rfl) H33 rfl) ?_
    refine lw_v (.agg #[.int .i64 ax, .int .i64 ay]) (dv_loads (l := [.int .i64 ax, .int .i64 ay]) ag26 sz26 (T rfl rfl) H31 rfl) ?_
    refine lw_v (.agg #[.int .i64 bx, .int .i64 by_, .int .i64 ax, .int .i64 ay]) (dv_build (pv := [(0, .agg #[.int .i64 bx, .int .i64 by_]), (1, .agg #[.int .i64 ax, .int .i64 ay])]) (l := [.int .i64 bx, .int .i64 by_, .int .i64 ax, .int .i64 ay]) zc33 pl33 ⟨rfl, (T rfl rfl), ⟨rfl, (T rfl rfl), trivial⟩⟩ rfl) ?_
    refine lw_e (oe_alloc ze33 ?_)
    intro b34 w35 n36
    have N37 : w.heap.size ≤ b34 := n36.eq ▸ E32.size
    have H38 := (s30.blk (s25.blk (e19.blk n13.blk) (by omega)) (by omega))
    have : b11 < b34 := n36.eq ▸ lt_of_blk H38
    have E39 := below_ext E32 E32.size n36.ext
    refine lw_e (oe_store (v := .agg #[.int .i64 bx, .int .i64 by_, .int .i64 ax, .int .i64 ay]) (vs := [.int .i64 bx, .int .i64 by_, .int .i64 ax, .int .i64 ay]) (l := [.int .i64 bx, .int .i64 by_, .int .i64 ax, .int .i64 ay]) (T rfl rfl) (T rfl rfl) sz33 rfl rfl rfl n36.blk rfl ?_)
    intro w40 s41 H42
    have E43 := below_st E39 N37 s41
    refine lw_nil ?_
    refine rk_seq ?_
    refine rk_seq ?_
    refine rk_reg ?_
    refine lw_v (.agg #[.int .i64 bx, .int .i64 by_, .int .i64 ax, .int .i64 ay]) (dv_loads (l := [.int .i64 bx, .int .i64 by_, .int .i64 ax, .int .i64 ay]) ag33 sz33 (T rfl rfl) H42 rfl) ?_
    refine lw_e (oe_callf (vs := [.agg #[.int .i64 bx, .int .i64 by_, .int .i64 ax, .int .i64 ay]]) co12 (ar1 (T rfl rfl)) (sSegOk_ok ) ?_)
    rintro _ w44 ⟨rfl, e45⟩
    have E46 := below_ext E43 E43.size e45
    refine lw_v (.bool (decide (¬ (segOk bx by_ ax ay)))) (dv_notd (p := segOk bx by_ ax ay) (T rfl rfl)) ?_
    refine lw_nil ?_
    by_cases hb47 : segOk bx by_ ax ay
    · -- TT
      refine rk_cf (T rfl (congrArg Value.bool (decide_eq_false (not_not_intro hb47)))) ?_
      refine rk_skip ?_
      refine rk_seq ?_
      refine rk_reg ?_
      have H48 := (e45.blk H42)
      refine lw_v (.agg #[.int .i64 bx, .int .i64 by_, .int .i64 ax, .int .i64 ay]) (dv_loads (l := [.int .i64 bx, .int .i64 by_, .int .i64 ax, .int .i64 ay]) ag33 sz33 (T rfl rfl) H48 rfl) ?_
      have H49 := (e45.blk (s41.blk (n36.ext.blk H38) (by omega)))
      refine lw_e (oe_store (v := .agg #[.int .i64 bx, .int .i64 by_, .int .i64 ax, .int .i64 ay]) (vs := [.int .i64 bx, .int .i64 by_, .int .i64 ax, .int .i64 ay]) (l := [.int .i64 bx, .int .i64 by_, .int .i64 ax, .int .i64 ay]) (T rfl rfl) (T rfl rfl) sz33 rfl rfl rfl H49 rfl ?_)
      intro w50 s51 H52
      have E53 := below_st E46 N14 s51
      refine lw_v (.bool true) (dv_assign C) ?_
      refine lw_nil ?_
      refine rk_ret Try.func15 (v := .tuple #[.agg #[.int .i64 bx, .int .i64 by_, .int .i64 ax, .int .i64 ay], .bool true]) (res2 Try.results15 (rv_cells (l := [.int .i64 bx, .int .i64 by_, .int .i64 ax, .int .i64 ay]) ag33 sz33 rfl rfl H52 rfl) (rv_tmp rfl rfl)) ⟨_, rfl, ?_⟩
      exact ⟨(tu2 (ag4 (vi (by first | (simp [segOfV, segOfOk, segOk, ordV, *]; done) | (simp only [segOfV, segOfOk, segOk, ordV, spotLt] at *; grind))) (vi (by first | (simp [segOfV, segOfOk, segOk, ordV, *]; done) | (simp only [segOfV, segOfOk, segOk, ordV, spotLt] at *; grind))) (vi (by first | (simp [segOfV, segOfOk, segOk, ordV, *]; done) | (simp only [segOfV, segOfOk, segOk, ordV, spotLt] at *; grind))) (vi (by first | (simp [segOfV, segOfOk, segOk, ordV, *]; done) | (simp only [segOfV, segOfOk, segOk, ordV, spotLt] at *; grind)))) (vt (by first | (simp [segOfV, segOfOk, segOk, ordV, *]; done) | (simp only [segOfV, segOfOk, segOk, ordV, spotLt] at *; grind)))), E53⟩
    · -- TF
      refine rk_ct (T rfl (congrArg Value.bool (decide_eq_true hb47))) ?_
      refine rk_seq ?_
      refine rk_reg ?_
      refine lw_v (.agg #[.int .i64 0, .int .i64 0, .int .i64 0, .int .i64 0]) (dv_build (pv := []) (l := [.int .i64 0, .int .i64 0, .int .i64 0, .int .i64 0]) zc33 pl33 trivial rfl) ?_
      have H54 := (e45.blk (s41.blk (n36.ext.blk H38) (by omega)))
      refine lw_e (oe_store (v := .agg #[.int .i64 0, .int .i64 0, .int .i64 0, .int .i64 0]) (vs := [.int .i64 0, .int .i64 0, .int .i64 0, .int .i64 0]) (l := [.int .i64 0, .int .i64 0, .int .i64 0, .int .i64 0]) (T rfl rfl) (T rfl rfl) sz33 rfl rfl rfl H54 rfl ?_)
      intro w55 s56 H57
      have E58 := below_st E46 N14 s56
      refine lw_v (.bool false) (dv_assign C) ?_
      refine lw_nil ?_
      refine rk_ret Try.func15 (v := .tuple #[.agg #[.int .i64 0, .int .i64 0, .int .i64 0, .int .i64 0], .bool false]) (res2 Try.results15 (rv_cells (l := [.int .i64 0, .int .i64 0, .int .i64 0, .int .i64 0]) ag33 sz33 rfl rfl H57 rfl) (rv_tmp rfl rfl)) ⟨_, rfl, ?_⟩
      exact ⟨(tu2 (ag4 (vi (by first | (simp [segOfV, segOfOk, segOk, ordV, *]; done) | (simp only [segOfV, segOfOk, segOk, ordV, spotLt] at *; grind))) (vi (by first | (simp [segOfV, segOfOk, segOk, ordV, *]; done) | (simp only [segOfV, segOfOk, segOk, ordV, spotLt] at *; grind))) (vi (by first | (simp [segOfV, segOfOk, segOk, ordV, *]; done) | (simp only [segOfV, segOfOk, segOk, ordV, spotLt] at *; grind))) (vi (by first | (simp [segOfV, segOfOk, segOk, ordV, *]; done) | (simp only [segOfV, segOfOk, segOk, ordV, spotLt] at *; grind)))) (vf (by first | (simp [segOfV, segOfOk, segOk, ordV, *]; done) | (simp only [segOfV, segOfOk, segOk, ordV, spotLt] at *; grind)))), E58⟩
  · -- F
    refine rk_cf (T rfl (congrArg Value.bool (decide_eq_false hb21))) ?_
    refine rk_skip ?_
    refine rk_seq ?_
    refine rk_reg ?_
    have H59 := (e19.blk H17)
    refine lw_v (.agg #[.int .i64 ax, .int .i64 ay]) (dv_loads (l := [.int .i64 ax, .int .i64 ay]) ag26 sz26 (T rfl rfl) H59 rfl) ?_
    have H60 := (e19.blk H16)
    refine lw_v (.agg #[.int .i64 bx, .int .i64 by_]) (dv_loads (l := [.int .i64 bx, .int .i64 by_]) ag26 sz26 (T rfl rfl) H60 rfl) ?_
    refine lw_v (.agg #[.int .i64 ax, .int .i64 ay, .int .i64 bx, .int .i64 by_]) (dv_build (pv := [(0, .agg #[.int .i64 ax, .int .i64 ay]), (1, .agg #[.int .i64 bx, .int .i64 by_])]) (l := [.int .i64 ax, .int .i64 ay, .int .i64 bx, .int .i64 by_]) zc33 pl33 ⟨rfl, (T rfl rfl), ⟨rfl, (T rfl rfl), trivial⟩⟩ rfl) ?_
    refine lw_e (oe_alloc ze33 ?_)
    intro b61 w62 n63
    have N64 : w.heap.size ≤ b61 := n63.eq ▸ E20.size
    have H65 := (e19.blk n13.blk)
    have : b11 < b61 := n63.eq ▸ lt_of_blk H65
    have E66 := below_ext E20 E20.size n63.ext
    refine lw_e (oe_store (v := .agg #[.int .i64 ax, .int .i64 ay, .int .i64 bx, .int .i64 by_]) (vs := [.int .i64 ax, .int .i64 ay, .int .i64 bx, .int .i64 by_]) (l := [.int .i64 ax, .int .i64 ay, .int .i64 bx, .int .i64 by_]) (T rfl rfl) (T rfl rfl) sz33 rfl rfl rfl n63.blk rfl ?_)
    intro w67 s68 H69
    have E70 := below_st E66 N64 s68
    refine lw_nil ?_
    refine rk_seq ?_
    refine rk_seq ?_
    refine rk_reg ?_
    refine lw_v (.agg #[.int .i64 ax, .int .i64 ay, .int .i64 bx, .int .i64 by_]) (dv_loads (l := [.int .i64 ax, .int .i64 ay, .int .i64 bx, .int .i64 by_]) ag33 sz33 (T rfl rfl) H69 rfl) ?_
    refine lw_e (oe_callf (vs := [.agg #[.int .i64 ax, .int .i64 ay, .int .i64 bx, .int .i64 by_]]) co12 (ar1 (T rfl rfl)) (sSegOk_ok ) ?_)
    rintro _ w71 ⟨rfl, e72⟩
    have E73 := below_ext E70 E70.size e72
    refine lw_v (.bool (decide (¬ (segOk ax ay bx by_)))) (dv_notd (p := segOk ax ay bx by_) (T rfl rfl)) ?_
    refine lw_nil ?_
    by_cases hb74 : segOk ax ay bx by_
    · -- FT
      refine rk_cf (T rfl (congrArg Value.bool (decide_eq_false (not_not_intro hb74)))) ?_
      refine rk_skip ?_
      refine rk_seq ?_
      refine rk_reg ?_
      have H75 := (e72.blk H69)
      refine lw_v (.agg #[.int .i64 ax, .int .i64 ay, .int .i64 bx, .int .i64 by_]) (dv_loads (l := [.int .i64 ax, .int .i64 ay, .int .i64 bx, .int .i64 by_]) ag33 sz33 (T rfl rfl) H75 rfl) ?_
      have H76 := (e72.blk (s68.blk (n63.ext.blk H65) (by omega)))
      refine lw_e (oe_store (v := .agg #[.int .i64 ax, .int .i64 ay, .int .i64 bx, .int .i64 by_]) (vs := [.int .i64 ax, .int .i64 ay, .int .i64 bx, .int .i64 by_]) (l := [.int .i64 ax, .int .i64 ay, .int .i64 bx, .int .i64 by_]) (T rfl rfl) (T rfl rfl) sz33 rfl rfl rfl H76 rfl ?_)
      intro w77 s78 H79
      have E80 := below_st E73 N14 s78
      refine lw_v (.bool true) (dv_assign C) ?_
      refine lw_nil ?_
      refine rk_ret Try.func15 (v := .tuple #[.agg #[.int .i64 ax, .int .i64 ay, .int .i64 bx, .int .i64 by_], .bool true]) (res2 Try.results15 (rv_cells (l := [.int .i64 ax, .int .i64 ay, .int .i64 bx, .int .i64 by_]) ag33 sz33 rfl rfl H79 rfl) (rv_tmp rfl rfl)) ⟨_, rfl, ?_⟩
      exact ⟨(tu2 (ag4 (vi (by first | (simp [segOfV, segOfOk, segOk, ordV, *]; done) | (simp only [segOfV, segOfOk, segOk, ordV, spotLt] at *; grind))) (vi (by first | (simp [segOfV, segOfOk, segOk, ordV, *]; done) | (simp only [segOfV, segOfOk, segOk, ordV, spotLt] at *; grind))) (vi (by first | (simp [segOfV, segOfOk, segOk, ordV, *]; done) | (simp only [segOfV, segOfOk, segOk, ordV, spotLt] at *; grind))) (vi (by first | (simp [segOfV, segOfOk, segOk, ordV, *]; done) | (simp only [segOfV, segOfOk, segOk, ordV, spotLt] at *; grind)))) (vt (by first | (simp [segOfV, segOfOk, segOk, ordV, *]; done) | (simp only [segOfV, segOfOk, segOk, ordV, spotLt] at *; grind)))), E80⟩
    · -- FF
      refine rk_ct (T rfl (congrArg Value.bool (decide_eq_true hb74))) ?_
      refine rk_seq ?_
      refine rk_reg ?_
      refine lw_v (.agg #[.int .i64 0, .int .i64 0, .int .i64 0, .int .i64 0]) (dv_build (pv := []) (l := [.int .i64 0, .int .i64 0, .int .i64 0, .int .i64 0]) zc33 pl33 trivial rfl) ?_
      have H81 := (e72.blk (s68.blk (n63.ext.blk H65) (by omega)))
      refine lw_e (oe_store (v := .agg #[.int .i64 0, .int .i64 0, .int .i64 0, .int .i64 0]) (vs := [.int .i64 0, .int .i64 0, .int .i64 0, .int .i64 0]) (l := [.int .i64 0, .int .i64 0, .int .i64 0, .int .i64 0]) (T rfl rfl) (T rfl rfl) sz33 rfl rfl rfl H81 rfl ?_)
      intro w82 s83 H84
      have E85 := below_st E73 N14 s83
      refine lw_v (.bool false) (dv_assign C) ?_
      refine lw_nil ?_
      refine rk_ret Try.func15 (v := .tuple #[.agg #[.int .i64 0, .int .i64 0, .int .i64 0, .int .i64 0], .bool false]) (res2 Try.results15 (rv_cells (l := [.int .i64 0, .int .i64 0, .int .i64 0, .int .i64 0]) ag33 sz33 rfl rfl H84 rfl) (rv_tmp rfl rfl)) ⟨_, rfl, ?_⟩
      exact ⟨(tu2 (ag4 (vi (by first | (simp [segOfV, segOfOk, segOk, ordV, *]; done) | (simp only [segOfV, segOfOk, segOk, ordV, spotLt] at *; grind))) (vi (by first | (simp [segOfV, segOfOk, segOk, ordV, *]; done) | (simp only [segOfV, segOfOk, segOk, ordV, spotLt] at *; grind))) (vi (by first | (simp [segOfV, segOfOk, segOk, ordV, *]; done) | (simp only [segOfV, segOfOk, segOk, ordV, spotLt] at *; grind))) (vi (by first | (simp [segOfV, segOfOk, segOk, ordV, *]; done) | (simp only [segOfV, segOfOk, segOk, ordV, spotLt] at *; grind)))) (vf (by first | (simp [segOfV, segOfOk, segOk, ordV, *]; done) | (simp only [segOfV, segOfOk, segOk, ordV, spotLt] at *; grind)))), E85⟩
theorem eqSpot_ok {w : World} {ax ay bx by_ : Int} : Ct Try.prog 30 [.agg #[.int .i64 ax, .int .i64 ay], .agg #[.int .i64 bx, .int .i64 by_]] w fun v w1 => v = .bool (decide (ax = bx ∧ ay = by_)) ∧ Ext w w1 := by
  refine ct_run (n := 15) Try.func30 rfl Try.ntmps30 rfl ?_
  have E0 : Below w.heap.size w w := Below.refl _ _
  refine rk_seq ?_
  refine rk_reg ?_
  refine lw_e (oe_box (v := .agg #[.int .i64 ax, .int .i64 ay]) (cs := #[.int .i64 ax, .int .i64 ay]) (T rfl rfl) rfl ?_)
  intro b1 w2 n3
  have N4 : w.heap.size ≤ b1 := n3.eq ▸ E0.size
  have E5 := below_ext E0 E0.size n3.ext
  refine lw_e (oe_box (v := .agg #[.int .i64 bx, .int .i64 by_]) (cs := #[.int .i64 bx, .int .i64 by_]) (T rfl rfl) rfl ?_)
  intro b6 w7 n8
  have N9 : w.heap.size ≤ b6 := n8.eq ▸ E5.size
  have : b1 < b6 := n8.eq ▸ lt_of_blk n3.blk
  have E10 := below_ext E5 E5.size n8.ext
  refine lw_v (.bool false) (dv_assign C) ?_
  refine lw_nil ?_
  refine rk_seq ?_
  refine rk_seq ?_
  refine rk_reg ?_
  refine lw_v (.pointer (some ⟨b1, 0, none⟩)) (dv_fieldAddr (a := ⟨b1, 0, none⟩) (a' := ⟨b1, 0, none⟩) fo26_0 (T rfl rfl) rfl) ?_
  have H11 := (n8.ext.blk n3.blk)
  refine lw_v (.int .i64 ax) (dv_load1 (b := b1) (o := 0) ag2 (T rfl rfl) H11 rfl) ?_
  refine lw_v (.pointer (some ⟨b6, 0, none⟩)) (dv_fieldAddr (a := ⟨b6, 0, none⟩) (a' := ⟨b6, 0, none⟩) fo26_0 (T rfl rfl) rfl) ?_
  refine lw_v (.int .i64 bx) (dv_load1 (b := b6) (o := 0) ag2 (T rfl rfl) n8.blk rfl) ?_
  refine lw_v (.bool (decide (ax ≠ bx))) (dv_neq (a := ax) (b := bx) (T rfl rfl) (T rfl rfl)) ?_
  refine lw_nil ?_
  by_cases hb12 : ax ≠ bx
  · -- T
    refine rk_ct (T rfl (congrArg Value.bool (decide_eq_true hb12))) ?_
    refine rk_seq ?_
    refine rk_reg ?_
    refine lw_v (.bool false) (dv_assign C) ?_
    refine lw_nil ?_
    refine rk_ret Try.func30 (v := .bool false) (res1 Try.results30 (rv_tmp rfl rfl)) ⟨_, rfl, ?_⟩
    exact ⟨(vf (by grind)), E10⟩
  · -- F
    refine rk_cf (T rfl (congrArg Value.bool (decide_eq_false hb12))) ?_
    refine rk_skip ?_
    refine rk_seq ?_
    refine rk_seq ?_
    refine rk_reg ?_
    refine lw_v (.pointer (some ⟨b1, 1, none⟩)) (dv_fieldAddr (a := ⟨b1, 0, none⟩) (a' := ⟨b1, 1, none⟩) fo26_1 (T rfl rfl) rfl) ?_
    refine lw_v (.int .i64 ay) (dv_load1 (b := b1) (o := 1) ag2 (T rfl rfl) H11 rfl) ?_
    refine lw_v (.pointer (some ⟨b6, 1, none⟩)) (dv_fieldAddr (a := ⟨b6, 0, none⟩) (a' := ⟨b6, 1, none⟩) fo26_1 (T rfl rfl) rfl) ?_
    refine lw_v (.int .i64 by_) (dv_load1 (b := b6) (o := 1) ag2 (T rfl rfl) n8.blk rfl) ?_
    refine lw_v (.bool (decide (ay ≠ by_))) (dv_neq (a := ay) (b := by_) (T rfl rfl) (T rfl rfl)) ?_
    refine lw_nil ?_
    by_cases hb13 : ay ≠ by_
    · -- FT
      refine rk_ct (T rfl (congrArg Value.bool (decide_eq_true hb13))) ?_
      refine rk_seq ?_
      refine rk_reg ?_
      refine lw_v (.bool false) (dv_assign C) ?_
      refine lw_nil ?_
      refine rk_ret Try.func30 (v := .bool false) (res1 Try.results30 (rv_tmp rfl rfl)) ⟨_, rfl, ?_⟩
      exact ⟨(vf (by grind)), E10⟩
    · -- FF
      refine rk_cf (T rfl (congrArg Value.bool (decide_eq_false hb13))) ?_
      refine rk_skip ?_
      refine rk_seq ?_
      refine rk_reg ?_
      refine lw_v (.bool true) (dv_assign C) ?_
      refine lw_nil ?_
      refine rk_ret Try.func30 (v := .bool true) (res1 Try.results30 (rv_tmp rfl rfl)) ⟨_, rfl, ?_⟩
      exact ⟨(vt (by grind)), E10⟩
theorem eqSeg_ok {w : World} {ax ay bx by_ cx cy dx dy : Int} : Ct Try.prog 17 [.agg #[.int .i64 ax, .int .i64 ay, .int .i64 bx, .int .i64 by_], .agg #[.int .i64 cx, .int .i64 cy, .int .i64 dx, .int .i64 dy]] w fun v w1 => v = .bool (decide ((ax = cx ∧ ay = cy) ∧ bx = dx ∧ by_ = dy)) ∧ Ext w w1 := by
  refine ct_run (n := 17) Try.func17 rfl Try.ntmps17 rfl ?_
  have E0 : Below w.heap.size w w := Below.refl _ _
  refine rk_seq ?_
  refine rk_reg ?_
  refine lw_e (oe_box (v := .agg #[.int .i64 ax, .int .i64 ay, .int .i64 bx, .int .i64 by_]) (cs := #[.int .i64 ax, .int .i64 ay, .int .i64 bx, .int .i64 by_]) (T rfl rfl) rfl ?_)
  intro b1 w2 n3
  have N4 : w.heap.size ≤ b1 := n3.eq ▸ E0.size
  have E5 := below_ext E0 E0.size n3.ext
  refine lw_e (oe_box (v := .agg #[.int .i64 cx, .int .i64 cy, .int .i64 dx, .int .i64 dy]) (cs := #[.int .i64 cx, .int .i64 cy, .int .i64 dx, .int .i64 dy]) (T rfl rfl) rfl ?_)
  intro b6 w7 n8
  have N9 : w.heap.size ≤ b6 := n8.eq ▸ E5.size
  have : b1 < b6 := n8.eq ▸ lt_of_blk n3.blk
  have E10 := below_ext E5 E5.size n8.ext
  refine lw_v (.bool false) (dv_assign C) ?_
  refine lw_nil ?_
  refine rk_seq ?_
  refine rk_seq ?_
  refine rk_reg ?_
  refine lw_v (.pointer (some ⟨b1, 0, none⟩)) (dv_fieldAddr (a := ⟨b1, 0, none⟩) (a' := ⟨b1, 0, none⟩) fo33_0 (T rfl rfl) rfl) ?_
  have H11 := (n8.ext.blk n3.blk)
  refine lw_v (.agg #[.int .i64 ax, .int .i64 ay]) (dv_loads (l := [.int .i64 ax, .int .i64 ay]) ag26 sz26 (T rfl rfl) H11 rfl) ?_
  refine lw_v (.pointer (some ⟨b6, 0, none⟩)) (dv_fieldAddr (a := ⟨b6, 0, none⟩) (a' := ⟨b6, 0, none⟩) fo33_0 (T rfl rfl) rfl) ?_
  refine lw_v (.agg #[.int .i64 cx, .int .i64 cy]) (dv_loads (l := [.int .i64 cx, .int .i64 cy]) ag26 sz26 (T rfl rfl) n8.blk rfl) ?_
  refine lw_e (oe_callf (vs := [.agg #[.int .i64 ax, .int .i64 ay], .agg #[.int .i64 cx, .int .i64 cy]]) co30 (ar2 (T rfl rfl) (T rfl rfl)) (eqSpot_ok ) ?_)
  rintro _ w12 ⟨rfl, e13⟩
  have E14 := below_ext E10 E10.size e13
  refine lw_v (.bool (decide (¬ (ax = cx ∧ ay = cy)))) (dv_notd (p := ax = cx ∧ ay = cy) (T rfl rfl)) ?_
  refine lw_nil ?_
  by_cases hb15 : ax = cx ∧ ay = cy
  · -- T
    refine rk_cf (T rfl (congrArg Value.bool (decide_eq_false (not_not_intro hb15)))) ?_
    refine rk_skip ?_
    refine rk_seq ?_
    refine rk_seq ?_
    refine rk_reg ?_
    refine lw_v (.pointer (some ⟨b1, 2, none⟩)) (dv_fieldAddr (a := ⟨b1, 0, none⟩) (a' := ⟨b1, 2, none⟩) fo33_1 (T rfl rfl) rfl) ?_
    have H16 := (e13.blk H11)
    refine lw_v (.agg #[.int .i64 bx, .int .i64 by_]) (dv_loads (l := [.int .i64 bx, .int .i64 by_]) ag26 sz26 (T rfl rfl) H16 rfl) ?_
    refine lw_v (.pointer (some ⟨b6, 2, none⟩)) (dv_fieldAddr (a := ⟨b6, 0, none⟩) (a' := ⟨b6, 2, none⟩) fo33_1 (T rfl rfl) rfl) ?_
    have H17 := (e13.blk n8.blk)
    refine lw_v (.agg #[.int .i64 dx, .int .i64 dy]) (dv_loads (l := [.int .i64 dx, .int .i64 dy]) ag26 sz26 (T rfl rfl) H17 rfl) ?_
    refine lw_e (oe_callf (vs := [.agg #[.int .i64 bx, .int .i64 by_], .agg #[.int .i64 dx, .int .i64 dy]]) co30 (ar2 (T rfl rfl) (T rfl rfl)) (eqSpot_ok ) ?_)
    rintro _ w18 ⟨rfl, e19⟩
    have E20 := below_ext E14 E14.size e19
    refine lw_v (.bool (decide (¬ (bx = dx ∧ by_ = dy)))) (dv_notd (p := bx = dx ∧ by_ = dy) (T rfl rfl)) ?_
    refine lw_nil ?_
    by_cases hb21 : bx = dx ∧ by_ = dy
    · -- TT
      refine rk_cf (T rfl (congrArg Value.bool (decide_eq_false (not_not_intro hb21)))) ?_
      refine rk_skip ?_
      refine rk_seq ?_
      refine rk_reg ?_
      refine lw_v (.bool true) (dv_assign C) ?_
      refine lw_nil ?_
      refine rk_ret Try.func17 (v := .bool true) (res1 Try.results17 (rv_tmp rfl rfl)) ⟨_, rfl, ?_⟩
      exact ⟨(vt (by grind)), E20⟩
    · -- TF
      refine rk_ct (T rfl (congrArg Value.bool (decide_eq_true hb21))) ?_
      refine rk_seq ?_
      refine rk_reg ?_
      refine lw_v (.bool false) (dv_assign C) ?_
      refine lw_nil ?_
      refine rk_ret Try.func17 (v := .bool false) (res1 Try.results17 (rv_tmp rfl rfl)) ⟨_, rfl, ?_⟩
      exact ⟨(vf (by grind)), E20⟩
  · -- F
    refine rk_ct (T rfl (congrArg Value.bool (decide_eq_true hb15))) ?_
    refine rk_seq ?_
    refine rk_reg ?_
    refine lw_v (.bool false) (dv_assign C) ?_
    refine lw_nil ?_
    refine rk_ret Try.func17 (v := .bool false) (res1 Try.results17 (rv_tmp rfl rfl)) ⟨_, rfl, ?_⟩
    exact ⟨(vf (by grind)), E14⟩
theorem lawSegOf_ok {w : World} {ax ay bx by_ : Int} : Ct Try.prog 6 [.agg #[.int .i64 ax, .int .i64 ay], .agg #[.int .i64 bx, .int .i64 by_]] w fun v w1 => v = .bool true ∧ Ext w w1 := by
  refine ct_run (n := 34) Try.func6 rfl Try.ntmps6 rfl ?_
  have E0 : Below w.heap.size w w := Below.refl _ _
  refine rk_seq ?_
  refine rk_reg ?_
  refine lw_e (oe_box (v := .agg #[.int .i64 ax, .int .i64 ay]) (cs := #[.int .i64 ax, .int .i64 ay]) (T rfl rfl) rfl ?_)
  intro b1 w2 n3
  have N4 : w.heap.size ≤ b1 := n3.eq ▸ E0.size
  have E5 := below_ext E0 E0.size n3.ext
  refine lw_e (oe_box (v := .agg #[.int .i64 bx, .int .i64 by_]) (cs := #[.int .i64 bx, .int .i64 by_]) (T rfl rfl) rfl ?_)
  intro b6 w7 n8
  have N9 : w.heap.size ≤ b6 := n8.eq ▸ E5.size
  have : b1 < b6 := n8.eq ▸ lt_of_blk n3.blk
  have E10 := below_ext E5 E5.size n8.ext
  refine lw_v (.bool false) (dv_assign C) ?_
  refine lw_nil ?_
  refine rk_seq ?_
  have H11 := (n8.ext.blk n3.blk)
  refine rk_any (fun w => w.heap[b1]? = some (.cells #[.int .i64 ax, .int .i64 ay] 24) ∧ w.heap[b6]? = some (.cells #[.int .i64 bx, .int .i64 by_] 24)) [10] mo ?_
  intro w12 d13
  have E14 := below_ext E10 E10.size d13.ext
  have H15 := (d13.ext.blk H11)
  have H16 := (d13.ext.blk n8.blk)
  refine aw_load 0 (.agg #[.int .i64 ax, .int .i64 ay]) rfl (by kernel_rfl) .none ⟨H15, H16⟩ (fun _ s => dv_loads (l := [.int .i64 ax, .int .i64 ay]) ag24 sz24 (T rfl rfl) s.1 rfl) ?_
  refine aw_load 2 (.agg #[.int .i64 bx, .int .i64 by_]) rfl (by kernel_rfl) .none ⟨H15, H16⟩ (fun _ s => dv_loads (l := [.int .i64 bx, .int .i64 by_]) ag24 sz24 (T rfl rfl) s.2 rfl) ?_
  refine aw_two 1 8 rfl rfl (by kernel_rfl) .none .none ?_ ?_
  · -- a
    refine id (oe_callf (vs := [.agg #[.int .i64 ax, .int .i64 ay]]) co10 (ar1 (T rfl rfl)) (toSpot_ok ) ?_)
    rintro _ w17 ⟨rfl, e18⟩
    have E19 := below_ext E14 E14.size e18
    have H20 := (e18.blk H15)
    have H21 := (e18.blk H16)
    refine ⟨.inr ⟨H20, H21⟩, ?_⟩
    refine aw_two 3 8 rfl rfl (by kernel_rfl) .none .none ?_ ?_
    · -- aa
      refine id (oe_callf (vs := [.agg #[.int .i64 bx, .int .i64 by_]]) co10 (ar1 (T rfl rfl)) (toSpot_ok ) ?_)
      rintro _ w22 ⟨rfl, e23⟩
      have E24 := below_ext E19 E19.size e23
      have H25 := (e23.blk H20)
      have H26 := (e23.blk H21)
      refine ⟨.inr ⟨H25, H26⟩, ?_⟩
      refine aw_two 4 8 rfl rfl (by kernel_rfl) .none .none ?_ ?_
      · -- aaa
        refine id (oe_callf (vs := [.agg #[.int .i64 ax, .int .i64 ay], .agg #[.int .i64 bx, .int .i64 by_]]) co15 (ar2 (T rfl rfl) (T rfl rfl)) (sSegOf_ok ) ?_)
        rintro _ w27 ⟨rfl, e28⟩
        have E29 := below_ext E24 E24.size e28
        have H30 := (e28.blk H25)
        have H31 := (e28.blk H26)
        refine ⟨.inr ⟨H30, H31⟩, ?_⟩
        refine aw_pure 5 (.tuple #[.agg #[.int .i64 ((segOfV ax ay bx by_).1), .int .i64 ((segOfV ax ay bx by_).2.1), .int .i64 ((segOfV ax ay bx by_).2.2.1), .int .i64 ((segOfV ax ay bx by_).2.2.2)], .bool (decide (segOfOk ax ay bx by_))]) rfl (by kernel_rfl) .none ⟨H30, H31⟩ (fun _ => dv_move (T rfl rfl)) ?_
        refine aw_pure 6 (.agg #[.int .i64 ((segOfV ax ay bx by_).1), .int .i64 ((segOfV ax ay bx by_).2.1), .int .i64 ((segOfV ax ay bx by_).2.2.1), .int .i64 ((segOfV ax ay bx by_).2.2.2)]) rfl (by kernel_rfl) .none ⟨H30, H31⟩ (fun _ => dv_extract (vs := #[.agg #[.int .i64 ((segOfV ax ay bx by_).1), .int .i64 ((segOfV ax ay bx by_).2.1), .int .i64 ((segOfV ax ay bx by_).2.2.1), .int .i64 ((segOfV ax ay bx by_).2.2.2)], .bool (decide (segOfOk ax ay bx by_))]) (T rfl rfl) rfl) ?_
        refine aw_pure 7 (.bool (decide (segOfOk ax ay bx by_))) rfl (by kernel_rfl) .none ⟨H30, H31⟩ (fun _ => dv_extract (vs := #[.agg #[.int .i64 ((segOfV ax ay bx by_).1), .int .i64 ((segOfV ax ay bx by_).2.1), .int .i64 ((segOfV ax ay bx by_).2.2.1), .int .i64 ((segOfV ax ay bx by_).2.2.2)], .bool (decide (segOfOk ax ay bx by_))]) (T rfl rfl) rfl) ?_
        refine aw_one 8 rfl (by kernel_rfl) .none (oe_alloc ze33 ?_)
        intro b32 w33 n34
        have N35 : w.heap.size ≤ b32 := n34.eq ▸ E29.size
        have : b6 < b32 := n34.eq ▸ lt_of_blk H31
        have E36 := below_ext E29 E29.size n34.ext
        have H37 := (n34.ext.blk H30)
        have H38 := (n34.ext.blk H31)
        refine ⟨.inr ⟨H37, H38⟩, ?_⟩
        refine aw_one 9 rfl (by kernel_rfl) .none (oe_store (v := .agg #[.int .i64 ((segOfV ax ay bx by_).1), .int .i64 ((segOfV ax ay bx by_).2.1), .int .i64 ((segOfV ax ay bx by_).2.2.1), .int .i64 ((segOfV ax ay bx by_).2.2.2)]) (vs := [.int .i64 ((segOfV ax ay bx by_).1), .int .i64 ((segOfV ax ay bx by_).2.1), .int .i64 ((segOfV ax ay bx by_).2.2.1), .int .i64 ((segOfV ax ay bx by_).2.2.2)]) (l := [.int .i64 ((segOfV ax ay bx by_).1), .int .i64 ((segOfV ax ay bx by_).2.1), .int .i64 ((segOfV ax ay bx by_).2.2.1), .int .i64 ((segOfV ax ay bx by_).2.2.2)]) (T rfl rfl) (T rfl rfl) sz33 rfl rfl rfl n34.blk rfl ?_)
        intro w39 s40 H41
        have E42 := below_st E36 N35 s40
        have H43 := (s40.blk H37 (by omega))
        have H44 := (s40.blk H38 (by omega))
        refine ⟨.inr ⟨H43, H44⟩, ?_⟩
        refine aw_last 10 (.bool (decide (segOfOk ax ay bx by_))) rfl (by kernel_rfl) .none (fun _ => dv_assign (T rfl rfl)) ?_
        refine aw_done (by kernel_rfl) ?_
        refine rk_seq ?_
        refine rk_any (fun w => w.heap[b1]? = some (.cells #[.int .i64 ax, .int .i64 ay] 24) ∧ w.heap[b6]? = some (.cells #[.int .i64 bx, .int .i64 by_] 24)) [10] mo ?_
        intro w45 d46
        have E47 := below_ext E42 E42.size d46.ext
        have H48 := (d46.ext.blk H43)
        have H49 := (d46.ext.blk H44)
        refine aw_load 0 (.agg #[.int .i64 ax, .int .i64 ay]) rfl (by kernel_rfl) .none ⟨H48, H49⟩ (fun _ s => dv_loads (l := [.int .i64 ax, .int .i64 ay]) ag24 sz24 (T rfl rfl) s.1 rfl) ?_
        refine aw_load 2 (.agg #[.int .i64 bx, .int .i64 by_]) rfl (by kernel_rfl) .none ⟨H48, H49⟩ (fun _ s => dv_loads (l := [.int .i64 bx, .int .i64 by_]) ag24 sz24 (T rfl rfl) s.2 rfl) ?_
        refine aw_two 1 8 rfl rfl (by kernel_rfl) .none .none ?_ ?_
        · -- aaaa
          refine id (oe_callf (vs := [.agg #[.int .i64 ax, .int .i64 ay]]) co10 (ar1 (T rfl rfl)) (toSpot_ok ) ?_)
          rintro _ w50 ⟨rfl, e51⟩
          have E52 := below_ext E47 E47.size e51
          have H53 := (e51.blk H48)
          have H54 := (e51.blk H49)
          refine ⟨.inr ⟨H53, H54⟩, ?_⟩
          refine aw_two 3 8 rfl rfl (by kernel_rfl) .none .none ?_ ?_
          · -- aaaaa
            refine id (oe_callf (vs := [.agg #[.int .i64 bx, .int .i64 by_]]) co10 (ar1 (T rfl rfl)) (toSpot_ok ) ?_)
            rintro _ w55 ⟨rfl, e56⟩
            have E57 := below_ext E52 E52.size e56
            have H58 := (e56.blk H53)
            have H59 := (e56.blk H54)
            refine ⟨.inr ⟨H58, H59⟩, ?_⟩
            refine aw_two 4 8 rfl rfl (by kernel_rfl) .none .none ?_ ?_
            · -- aaaaaa
              refine id (oe_callf (vs := [.agg #[.int .i64 ax, .int .i64 ay], .agg #[.int .i64 bx, .int .i64 by_]]) co16 (ar2 (T rfl rfl) (T rfl rfl)) (iSegOf_ok ) ?_)
              rintro _ w60 ⟨rfl, e61⟩
              have E62 := below_ext E57 E57.size e61
              have H63 := (e61.blk H58)
              have H64 := (e61.blk H59)
              refine ⟨.inr ⟨H63, H64⟩, ?_⟩
              refine aw_pure 5 (.tuple #[.agg #[.int .i64 ((segOfV ax ay bx by_).1), .int .i64 ((segOfV ax ay bx by_).2.1), .int .i64 ((segOfV ax ay bx by_).2.2.1), .int .i64 ((segOfV ax ay bx by_).2.2.2)], .bool (decide (segOfOk ax ay bx by_))]) rfl (by kernel_rfl) .none ⟨H63, H64⟩ (fun _ => dv_move (T rfl rfl)) ?_
              refine aw_pure 6 (.agg #[.int .i64 ((segOfV ax ay bx by_).1), .int .i64 ((segOfV ax ay bx by_).2.1), .int .i64 ((segOfV ax ay bx by_).2.2.1), .int .i64 ((segOfV ax ay bx by_).2.2.2)]) rfl (by kernel_rfl) .none ⟨H63, H64⟩ (fun _ => dv_extract (vs := #[.agg #[.int .i64 ((segOfV ax ay bx by_).1), .int .i64 ((segOfV ax ay bx by_).2.1), .int .i64 ((segOfV ax ay bx by_).2.2.1), .int .i64 ((segOfV ax ay bx by_).2.2.2)], .bool (decide (segOfOk ax ay bx by_))]) (T rfl rfl) rfl) ?_
              refine aw_pure 7 (.bool (decide (segOfOk ax ay bx by_))) rfl (by kernel_rfl) .none ⟨H63, H64⟩ (fun _ => dv_extract (vs := #[.agg #[.int .i64 ((segOfV ax ay bx by_).1), .int .i64 ((segOfV ax ay bx by_).2.1), .int .i64 ((segOfV ax ay bx by_).2.2.1), .int .i64 ((segOfV ax ay bx by_).2.2.2)], .bool (decide (segOfOk ax ay bx by_))]) (T rfl rfl) rfl) ?_
              refine aw_one 8 rfl (by kernel_rfl) .none (oe_alloc ze33 ?_)
              intro b65 w66 n67
              have N68 : w.heap.size ≤ b65 := n67.eq ▸ E62.size
              have H69 := (e61.blk (e56.blk (e51.blk (d46.ext.blk H41))))
              have : b32 < b65 := n67.eq ▸ lt_of_blk H69
              have E70 := below_ext E62 E62.size n67.ext
              have H71 := (n67.ext.blk H63)
              have H72 := (n67.ext.blk H64)
              refine ⟨.inr ⟨H71, H72⟩, ?_⟩
              refine aw_one 9 rfl (by kernel_rfl) .none (oe_store (v := .agg #[.int .i64 ((segOfV ax ay bx by_).1), .int .i64 ((segOfV ax ay bx by_).2.1), .int .i64 ((segOfV ax ay bx by_).2.2.1), .int .i64 ((segOfV ax ay bx by_).2.2.2)]) (vs := [.int .i64 ((segOfV ax ay bx by_).1), .int .i64 ((segOfV ax ay bx by_).2.1), .int .i64 ((segOfV ax ay bx by_).2.2.1), .int .i64 ((segOfV ax ay bx by_).2.2.2)]) (l := [.int .i64 ((segOfV ax ay bx by_).1), .int .i64 ((segOfV ax ay bx by_).2.1), .int .i64 ((segOfV ax ay bx by_).2.2.1), .int .i64 ((segOfV ax ay bx by_).2.2.2)]) (T rfl rfl) (T rfl rfl) sz33 rfl rfl rfl n67.blk rfl ?_)
              intro w73 s74 H75
              have E76 := below_st E70 N68 s74
              have H77 := (s74.blk H71 (by omega))
              have H78 := (s74.blk H72 (by omega))
              refine ⟨.inr ⟨H77, H78⟩, ?_⟩
              refine aw_last 10 (.bool (decide (segOfOk ax ay bx by_))) rfl (by kernel_rfl) .none (fun _ => dv_assign (T rfl rfl)) ?_
              refine aw_done (by kernel_rfl) ?_
              refine rk_seq ?_
              refine rk_seq ?_
              refine rk_reg ?_
              refine lw_v (.agg #[.int .i64 ((segOfV ax ay bx by_).1), .int .i64 ((segOfV ax ay bx by_).2.1), .int .i64 ((segOfV ax ay bx by_).2.2.1), .int .i64 ((segOfV ax ay bx by_).2.2.2)]) (dv_loads (l := [.int .i64 ((segOfV ax ay bx by_).1), .int .i64 ((segOfV ax ay bx by_).2.1), .int .i64 ((segOfV ax ay bx by_).2.2.1), .int .i64 ((segOfV ax ay bx by_).2.2.2)]) ag33 sz33 (T rfl rfl) H75 rfl) ?_
              have H79 := (s74.blk (n67.ext.blk H69) (by omega))
              refine lw_v (.agg #[.int .i64 ((segOfV ax ay bx by_).1), .int .i64 ((segOfV ax ay bx by_).2.1), .int .i64 ((segOfV ax ay bx by_).2.2.1), .int .i64 ((segOfV ax ay bx by_).2.2.2)]) (dv_loads (l := [.int .i64 ((segOfV ax ay bx by_).1), .int .i64 ((segOfV ax ay bx by_).2.1), .int .i64 ((segOfV ax ay bx by_).2.2.1), .int .i64 ((segOfV ax ay bx by_).2.2.2)]) ag33 sz33 (T rfl rfl) H79 rfl) ?_
              refine lw_e (oe_callf (vs := [.agg #[.int .i64 ((segOfV ax ay bx by_).1), .int .i64 ((segOfV ax ay bx by_).2.1), .int .i64 ((segOfV ax ay bx by_).2.2.1), .int .i64 ((segOfV ax ay bx by_).2.2.2)], .agg #[.int .i64 ((segOfV ax ay bx by_).1), .int .i64 ((segOfV ax ay bx by_).2.1), .int .i64 ((segOfV ax ay bx by_).2.2.1), .int .i64 ((segOfV ax ay bx by_).2.2.2)]]) co17 (ar2 (T rfl rfl) (T rfl rfl)) (eqSeg_ok ) ?_)
              rintro _ w80 ⟨rfl, e81⟩
              have E82 := below_ext E76 E76.size e81
              refine lw_v (.bool (decide (¬ ((((segOfV ax ay bx by_).1) = ((segOfV ax ay bx by_).1) ∧ ((segOfV ax ay bx by_).2.1) = ((segOfV ax ay bx by_).2.1)) ∧ ((segOfV ax ay bx by_).2.2.1) = ((segOfV ax ay bx by_).2.2.1) ∧ ((segOfV ax ay bx by_).2.2.2) = ((segOfV ax ay bx by_).2.2.2))))) (dv_notd (p := (((segOfV ax ay bx by_).1) = ((segOfV ax ay bx by_).1) ∧ ((segOfV ax ay bx by_).2.1) = ((segOfV ax ay bx by_).2.1)) ∧ ((segOfV ax ay bx by_).2.2.1) = ((segOfV ax ay bx by_).2.2.1) ∧ ((segOfV ax ay bx by_).2.2.2) = ((segOfV ax ay bx by_).2.2.2)) (T rfl rfl)) ?_
              refine lw_v (.bool (decide (¬ ((((segOfV ax ay bx by_).1) = ((segOfV ax ay bx by_).1) ∧ ((segOfV ax ay bx by_).2.1) = ((segOfV ax ay bx by_).2.1)) ∧ ((segOfV ax ay bx by_).2.2.1) = ((segOfV ax ay bx by_).2.2.1) ∧ ((segOfV ax ay bx by_).2.2.2) = ((segOfV ax ay bx by_).2.2.2))))) (dv_move (T rfl rfl)) ?_
              by_cases hb83 : (((segOfV ax ay bx by_).1) = ((segOfV ax ay bx by_).1) ∧ ((segOfV ax ay bx by_).2.1) = ((segOfV ax ay bx by_).2.1)) ∧ ((segOfV ax ay bx by_).2.2.1) = ((segOfV ax ay bx by_).2.2.1) ∧ ((segOfV ax ay bx by_).2.2.2) = ((segOfV ax ay bx by_).2.2.2)
              · -- aaaaaaT
                refine lw_vy (.bool (decide (segOfOk ax ay bx by_))) (d := 29) rfl rfl (congrArg Value.bool (decide_eq_false (not_not_intro hb83))) (dv_move (T rfl rfl)) ?_
                refine lw_vy (.bool (decide (segOfOk ax ay bx by_))) (d := 29) rfl rfl (congrArg Value.bool (decide_eq_false (not_not_intro hb83))) (dv_move (T rfl rfl)) ?_
                refine lw_vy (.bool ((decide (segOfOk ax ay bx by_)) != (decide (segOfOk ax ay bx by_)))) (d := 29) rfl rfl (congrArg Value.bool (decide_eq_false (not_not_intro hb83))) (dv_neqb (a := decide (segOfOk ax ay bx by_)) (b := decide (segOfOk ax ay bx by_)) ub4 (T rfl rfl) (T rfl rfl)) ?_
                refine lw_v (.bool ((decide (segOfOk ax ay bx by_)) != (decide (segOfOk ax ay bx by_)))) (dv_pick_f (T rfl (congrArg Value.bool (decide_eq_false (not_not_intro hb83)))) (T rfl rfl)) ?_
                refine lw_nil ?_
                rcases Bool.eq_false_or_eq_true ((decide (segOfOk ax ay bx by_)) != (decide (segOfOk ax ay bx by_))) with hb84 | hb84
                · -- aaaaaaTT
                  refine rk_ct (T rfl (congrArg Value.bool hb84)) ?_
                  refine rk_seq ?_
                  refine rk_reg ?_
                  refine lw_v (.bool false) (dv_assign C) ?_
                  refine lw_nil ?_
                  refine rk_ret Try.func6 (v := .bool false) (res1 Try.results6 (rv_tmp rfl rfl)) ⟨_, rfl, ?_⟩
                  exact ⟨(congrArg Value.bool (by grind)), E82⟩
                · -- aaaaaaTF
                  refine rk_cf (T rfl (congrArg Value.bool hb84)) ?_
                  refine rk_skip ?_
                  refine rk_seq ?_
                  refine rk_reg ?_
                  refine lw_v (.bool true) (dv_assign C) ?_
                  refine lw_nil ?_
                  refine rk_ret Try.func6 (v := .bool true) (res1 Try.results6 (rv_tmp rfl rfl)) ⟨_, rfl, ?_⟩
                  exact ⟨rfl, E82⟩
              · -- aaaaaaF
                refine lw_no (d := 29) rfl rfl (congrArg Value.bool (decide_eq_true hb83)) ?_
                refine lw_no (d := 29) rfl rfl (congrArg Value.bool (decide_eq_true hb83)) ?_
                refine lw_no (d := 29) rfl rfl (congrArg Value.bool (decide_eq_true hb83)) ?_
                refine lw_v (.bool true) (dv_pick_t (T rfl (congrArg Value.bool (decide_eq_true hb83))) C) ?_
                refine lw_nil ?_
                refine rk_ct (T rfl rfl) ?_
                refine rk_seq ?_
                refine rk_reg ?_
                refine lw_v (.bool false) (dv_assign C) ?_
                refine lw_nil ?_
                refine rk_ret Try.func6 (v := .bool false) (res1 Try.results6 (rv_tmp rfl rfl)) ⟨_, rfl, ?_⟩
                exact ⟨(congrArg Value.bool (by grind)), E82⟩
            · -- aaaaab
              refine id (oe_alloc ze33 ?_)
              intro b85 w86 n87
              have N88 : w.heap.size ≤ b85 := n87.eq ▸ E57.size
              have H89 := (e56.blk (e51.blk (d46.ext.blk H41)))
              have : b32 < b85 := n87.eq ▸ lt_of_blk H89
              have E90 := below_ext E57 E57.size n87.ext
              have H91 := (n87.ext.blk H58)
              have H92 := (n87.ext.blk H59)
              refine ⟨.inr ⟨H91, H92⟩, ?_⟩
              refine aw_one 4 rfl (by kernel_rfl) .none (oe_callf (vs := [.agg #[.int .i64 ax, .int .i64 ay], .agg #[.int .i64 bx, .int .i64 by_]]) co16 (ar2 (T rfl rfl) (T rfl rfl)) (iSegOf_ok ) ?_)
              rintro _ w93 ⟨rfl, e94⟩
              have E95 := below_ext E90 E90.size e94
              have H96 := (e94.blk H91)
              have H97 := (e94.blk H92)
              refine ⟨.inr ⟨H96, H97⟩, ?_⟩
              refine aw_pure 5 (.tuple #[.agg #[.int .i64 ((segOfV ax ay bx by_).1), .int .i64 ((segOfV ax ay bx by_).2.1), .int .i64 ((segOfV ax ay bx by_).2.2.1), .int .i64 ((segOfV ax ay bx by_).2.2.2)], .bool (decide (segOfOk ax ay bx by_))]) rfl (by kernel_rfl) .none ⟨H96, H97⟩ (fun _ => dv_move (T rfl rfl)) ?_
              refine aw_pure 6 (.agg #[.int .i64 ((segOfV ax ay bx by_).1), .int .i64 ((segOfV ax ay bx by_).2.1), .int .i64 ((segOfV ax ay bx by_).2.2.1), .int .i64 ((segOfV ax ay bx by_).2.2.2)]) rfl (by kernel_rfl) .none ⟨H96, H97⟩ (fun _ => dv_extract (vs := #[.agg #[.int .i64 ((segOfV ax ay bx by_).1), .int .i64 ((segOfV ax ay bx by_).2.1), .int .i64 ((segOfV ax ay bx by_).2.2.1), .int .i64 ((segOfV ax ay bx by_).2.2.2)], .bool (decide (segOfOk ax ay bx by_))]) (T rfl rfl) rfl) ?_
              refine aw_pure 7 (.bool (decide (segOfOk ax ay bx by_))) rfl (by kernel_rfl) .none ⟨H96, H97⟩ (fun _ => dv_extract (vs := #[.agg #[.int .i64 ((segOfV ax ay bx by_).1), .int .i64 ((segOfV ax ay bx by_).2.1), .int .i64 ((segOfV ax ay bx by_).2.2.1), .int .i64 ((segOfV ax ay bx by_).2.2.2)], .bool (decide (segOfOk ax ay bx by_))]) (T rfl rfl) rfl) ?_
              have H98 := (e94.blk n87.blk)
              refine aw_one 9 rfl (by kernel_rfl) .none (oe_store (v := .agg #[.int .i64 ((segOfV ax ay bx by_).1), .int .i64 ((segOfV ax ay bx by_).2.1), .int .i64 ((segOfV ax ay bx by_).2.2.1), .int .i64 ((segOfV ax ay bx by_).2.2.2)]) (vs := [.int .i64 ((segOfV ax ay bx by_).1), .int .i64 ((segOfV ax ay bx by_).2.1), .int .i64 ((segOfV ax ay bx by_).2.2.1), .int .i64 ((segOfV ax ay bx by_).2.2.2)]) (l := [.int .i64 ((segOfV ax ay bx by_).1), .int .i64 ((segOfV ax ay bx by_).2.1), .int .i64 ((segOfV ax ay bx by_).2.2.1), .int .i64 ((segOfV ax ay bx by_).2.2.2)]) (T rfl rfl) (T rfl rfl) sz33 rfl rfl rfl H98 rfl ?_)
              intro w99 s100 H101
              have E102 := below_st E95 N88 s100
              have H103 := (s100.blk H96 (by omega))
              have H104 := (s100.blk H97 (by omega))
              refine ⟨.inr ⟨H103, H104⟩, ?_⟩
              refine aw_last 10 (.bool (decide (segOfOk ax ay bx by_))) rfl (by kernel_rfl) .none (fun _ => dv_assign (T rfl rfl)) ?_
              refine aw_done (by kernel_rfl) ?_
              refine rk_seq ?_
              refine rk_seq ?_
              refine rk_reg ?_
              refine lw_v (.agg #[.int .i64 ((segOfV ax ay bx by_).1), .int .i64 ((segOfV ax ay bx by_).2.1), .int .i64 ((segOfV ax ay bx by_).2.2.1), .int .i64 ((segOfV ax ay bx by_).2.2.2)]) (dv_loads (l := [.int .i64 ((segOfV ax ay bx by_).1), .int .i64 ((segOfV ax ay bx by_).2.1), .int .i64 ((segOfV ax ay bx by_).2.2.1), .int .i64 ((segOfV ax ay bx by_).2.2.2)]) ag33 sz33 (T rfl rfl) H101 rfl) ?_
              have H105 := (s100.blk (e94.blk (n87.ext.blk H89)) (by omega))
              refine lw_v (.agg #[.int .i64 ((segOfV ax ay bx by_).1), .int .i64 ((segOfV ax ay bx by_).2.1), .int .i64 ((segOfV ax ay bx by_).2.2.1), .int .i64 ((segOfV ax ay bx by_).2.2.2)]) (dv_loads (l := [.int .i64 ((segOfV ax ay bx by_).1), .int .i64 ((segOfV ax ay bx by_).2.1), .int .i64 ((segOfV ax ay bx by_).2.2.1), .int .i64 ((segOfV ax ay bx by_).2.2.2)]) ag33 sz33 (T rfl rfl) H105 rfl) ?_
              refine lw_e (oe_callf (vs := [.agg #[.int .i64 ((segOfV ax ay bx by_).1), .int .i64 ((segOfV ax ay bx by_).2.1), .int .i64 ((segOfV ax ay bx by_).2.2.1), .int .i64 ((segOfV ax ay bx by_).2.2.2)], .agg #[.int .i64 ((segOfV ax ay bx by_).1), .int .i64 ((segOfV ax ay bx by_).2.1), .int .i64 ((segOfV ax ay bx by_).2.2.1), .int .i64 ((segOfV ax ay bx by_).2.2.2)]]) co17 (ar2 (T rfl rfl) (T rfl rfl)) (eqSeg_ok ) ?_)
              rintro _ w106 ⟨rfl, e107⟩
              have E108 := below_ext E102 E102.size e107
              refine lw_v (.bool (decide (¬ ((((segOfV ax ay bx by_).1) = ((segOfV ax ay bx by_).1) ∧ ((segOfV ax ay bx by_).2.1) = ((segOfV ax ay bx by_).2.1)) ∧ ((segOfV ax ay bx by_).2.2.1) = ((segOfV ax ay bx by_).2.2.1) ∧ ((segOfV ax ay bx by_).2.2.2) = ((segOfV ax ay bx by_).2.2.2))))) (dv_notd (p := (((segOfV ax ay bx by_).1) = ((segOfV ax ay bx by_).1) ∧ ((segOfV ax ay bx by_).2.1) = ((segOfV ax ay bx by_).2.1)) ∧ ((segOfV ax ay bx by_).2.2.1) = ((segOfV ax ay bx by_).2.2.1) ∧ ((segOfV ax ay bx by_).2.2.2) = ((segOfV ax ay bx by_).2.2.2)) (T rfl rfl)) ?_
              refine lw_v (.bool (decide (¬ ((((segOfV ax ay bx by_).1) = ((segOfV ax ay bx by_).1) ∧ ((segOfV ax ay bx by_).2.1) = ((segOfV ax ay bx by_).2.1)) ∧ ((segOfV ax ay bx by_).2.2.1) = ((segOfV ax ay bx by_).2.2.1) ∧ ((segOfV ax ay bx by_).2.2.2) = ((segOfV ax ay bx by_).2.2.2))))) (dv_move (T rfl rfl)) ?_
              by_cases hb109 : (((segOfV ax ay bx by_).1) = ((segOfV ax ay bx by_).1) ∧ ((segOfV ax ay bx by_).2.1) = ((segOfV ax ay bx by_).2.1)) ∧ ((segOfV ax ay bx by_).2.2.1) = ((segOfV ax ay bx by_).2.2.1) ∧ ((segOfV ax ay bx by_).2.2.2) = ((segOfV ax ay bx by_).2.2.2)
              · -- aaaaabT
                refine lw_vy (.bool (decide (segOfOk ax ay bx by_))) (d := 29) rfl rfl (congrArg Value.bool (decide_eq_false (not_not_intro hb109))) (dv_move (T rfl rfl)) ?_
                refine lw_vy (.bool (decide (segOfOk ax ay bx by_))) (d := 29) rfl rfl (congrArg Value.bool (decide_eq_false (not_not_intro hb109))) (dv_move (T rfl rfl)) ?_
                refine lw_vy (.bool ((decide (segOfOk ax ay bx by_)) != (decide (segOfOk ax ay bx by_)))) (d := 29) rfl rfl (congrArg Value.bool (decide_eq_false (not_not_intro hb109))) (dv_neqb (a := decide (segOfOk ax ay bx by_)) (b := decide (segOfOk ax ay bx by_)) ub4 (T rfl rfl) (T rfl rfl)) ?_
                refine lw_v (.bool ((decide (segOfOk ax ay bx by_)) != (decide (segOfOk ax ay bx by_)))) (dv_pick_f (T rfl (congrArg Value.bool (decide_eq_false (not_not_intro hb109)))) (T rfl rfl)) ?_
                refine lw_nil ?_
                rcases Bool.eq_false_or_eq_true ((decide (segOfOk ax ay bx by_)) != (decide (segOfOk ax ay bx by_))) with hb110 | hb110
                · -- aaaaabTT
                  refine rk_ct (T rfl (congrArg Value.bool hb110)) ?_
                  refine rk_seq ?_
                  refine rk_reg ?_
                  refine lw_v (.bool false) (dv_assign C) ?_
                  refine lw_nil ?_
                  refine rk_ret Try.func6 (v := .bool false) (res1 Try.results6 (rv_tmp rfl rfl)) ⟨_, rfl, ?_⟩
                  exact ⟨(congrArg Value.bool (by grind)), E108⟩
                · -- aaaaabTF
                  refine rk_cf (T rfl (congrArg Value.bool hb110)) ?_
                  refine rk_skip ?_
                  refine rk_seq ?_
                  refine rk_reg ?_
                  refine lw_v (.bool true) (dv_assign C) ?_
                  refine lw_nil ?_
                  refine rk_ret Try.func6 (v := .bool true) (res1 Try.results6 (rv_tmp rfl rfl)) ⟨_, rfl, ?_⟩
                  exact ⟨rfl, E108⟩
              · -- aaaaabF
                refine lw_no (d := 29) rfl rfl (congrArg Value.bool (decide_eq_true hb109)) ?_
                refine lw_no (d := 29) rfl rfl (congrArg Value.bool (decide_eq_true hb109)) ?_
                refine lw_no (d := 29) rfl rfl (congrArg Value.bool (decide_eq_true hb109)) ?_
                refine lw_v (.bool true) (dv_pick_t (T rfl (congrArg Value.bool (decide_eq_true hb109))) C) ?_
                refine lw_nil ?_
                refine rk_ct (T rfl rfl) ?_
                refine rk_seq ?_
                refine rk_reg ?_
                refine lw_v (.bool false) (dv_assign C) ?_
                refine lw_nil ?_
                refine rk_ret Try.func6 (v := .bool false) (res1 Try.results6 (rv_tmp rfl rfl)) ⟨_, rfl, ?_⟩
                exact ⟨(congrArg Value.bool (by grind)), E108⟩
          · -- aaaab
            refine id (oe_alloc ze33 ?_)
            intro b111 w112 n113
            have N114 : w.heap.size ≤ b111 := n113.eq ▸ E52.size
            have H115 := (e51.blk (d46.ext.blk H41))
            have : b32 < b111 := n113.eq ▸ lt_of_blk H115
            have E116 := below_ext E52 E52.size n113.ext
            have H117 := (n113.ext.blk H53)
            have H118 := (n113.ext.blk H54)
            refine ⟨.inr ⟨H117, H118⟩, ?_⟩
            refine aw_one 3 rfl (by kernel_rfl) .none (oe_callf (vs := [.agg #[.int .i64 bx, .int .i64 by_]]) co10 (ar1 (T rfl rfl)) (toSpot_ok ) ?_)
            rintro _ w119 ⟨rfl, e120⟩
            have E121 := below_ext E116 E116.size e120
            have H122 := (e120.blk H117)
            have H123 := (e120.blk H118)
            refine ⟨.inr ⟨H122, H123⟩, ?_⟩
            refine aw_one 4 rfl (by kernel_rfl) .none (oe_callf (vs := [.agg #[.int .i64 ax, .int .i64 ay], .agg #[.int .i64 bx, .int .i64 by_]]) co16 (ar2 (T rfl rfl) (T rfl rfl)) (iSegOf_ok ) ?_)
            rintro _ w124 ⟨rfl, e125⟩
            have E126 := below_ext E121 E121.size e125
            have H127 := (e125.blk H122)
            have H128 := (e125.blk H123)
            refine ⟨.inr ⟨H127, H128⟩, ?_⟩
            refine aw_pure 5 (.tuple #[.agg #[.int .i64 ((segOfV ax ay bx by_).1), .int .i64 ((segOfV ax ay bx by_).2.1), .int .i64 ((segOfV ax ay bx by_).2.2.1), .int .i64 ((segOfV ax ay bx by_).2.2.2)], .bool (decide (segOfOk ax ay bx by_))]) rfl (by kernel_rfl) .none ⟨H127, H128⟩ (fun _ => dv_move (T rfl rfl)) ?_
            refine aw_pure 6 (.agg #[.int .i64 ((segOfV ax ay bx by_).1), .int .i64 ((segOfV ax ay bx by_).2.1), .int .i64 ((segOfV ax ay bx by_).2.2.1), .int .i64 ((segOfV ax ay bx by_).2.2.2)]) rfl (by kernel_rfl) .none ⟨H127, H128⟩ (fun _ => dv_extract (vs := #[.agg #[.int .i64 ((segOfV ax ay bx by_).1), .int .i64 ((segOfV ax ay bx by_).2.1), .int .i64 ((segOfV ax ay bx by_).2.2.1), .int .i64 ((segOfV ax ay bx by_).2.2.2)], .bool (decide (segOfOk ax ay bx by_))]) (T rfl rfl) rfl) ?_
            refine aw_pure 7 (.bool (decide (segOfOk ax ay bx by_))) rfl (by kernel_rfl) .none ⟨H127, H128⟩ (fun _ => dv_extract (vs := #[.agg #[.int .i64 ((segOfV ax ay bx by_).1), .int .i64 ((segOfV ax ay bx by_).2.1), .int .i64 ((segOfV ax ay bx by_).2.2.1), .int .i64 ((segOfV ax ay bx by_).2.2.2)], .bool (decide (segOfOk ax ay bx by_))]) (T rfl rfl) rfl) ?_
            have H129 := (e125.blk (e120.blk n113.blk))
            refine aw_one 9 rfl (by kernel_rfl) .none (oe_store (v := .agg #[.int .i64 ((segOfV ax ay bx by_).1), .int .i64 ((segOfV ax ay bx by_).2.1), .int .i64 ((segOfV ax ay bx by_).2.2.1), .int .i64 ((segOfV ax ay bx by_).2.2.2)]) (vs := [.int .i64 ((segOfV ax ay bx by_).1), .int .i64 ((segOfV ax ay bx by_).2.1), .int .i64 ((segOfV ax ay bx by_).2.2.1), .int .i64 ((segOfV ax ay bx by_).2.2.2)]) (l := [.int .i64 ((segOfV ax ay bx by_).1), .int .i64 ((segOfV ax ay bx by_).2.1), .int .i64 ((segOfV ax ay bx by_).2.2.1), .int .i64 ((segOfV ax ay bx by_).2.2.2)]) (T rfl rfl) (T rfl rfl) sz33 rfl rfl rfl H129 rfl ?_)
            intro w130 s131 H132
            have E133 := below_st E126 N114 s131
            have H134 := (s131.blk H127 (by omega))
            have H135 := (s131.blk H128 (by omega))
            refine ⟨.inr ⟨H134, H135⟩, ?_⟩
            refine aw_last 10 (.bool (decide (segOfOk ax ay bx by_))) rfl (by kernel_rfl) .none (fun _ => dv_assign (T rfl rfl)) ?_
            refine aw_done (by kernel_rfl) ?_
            refine rk_seq ?_
            refine rk_seq ?_
            refine rk_reg ?_
            refine lw_v (.agg #[.int .i64 ((segOfV ax ay bx by_).1), .int .i64 ((segOfV ax ay bx by_).2.1), .int .i64 ((segOfV ax ay bx by_).2.2.1), .int .i64 ((segOfV ax ay bx by_).2.2.2)]) (dv_loads (l := [.int .i64 ((segOfV ax ay bx by_).1), .int .i64 ((segOfV ax ay bx by_).2.1), .int .i64 ((segOfV ax ay bx by_).2.2.1), .int .i64 ((segOfV ax ay bx by_).2.2.2)]) ag33 sz33 (T rfl rfl) H132 rfl) ?_
            have H136 := (s131.blk (e125.blk (e120.blk (n113.ext.blk H115))) (by omega))
            refine lw_v (.agg #[.int .i64 ((segOfV ax ay bx by_).1), .int .i64 ((segOfV ax ay bx by_).2.1), .int .i64 ((segOfV ax ay bx by_).2.2.1), .int .i64 ((segOfV ax ay bx by_).2.2.2)]) (dv_loads (l := [.int .i64 ((segOfV ax ay bx by_).1), .int .i64 ((segOfV ax ay bx by_).2.1), .int .i64 ((segOfV ax ay bx by_).2.2.1), .int .i64 ((segOfV ax ay bx by_).2.2.2)]) ag33 sz33 (T rfl rfl) H136 rfl) ?_
            refine lw_e (oe_callf (vs := [.agg #[.int .i64 ((segOfV ax ay bx by_).1), .int .i64 ((segOfV ax ay bx by_).2.1), .int .i64 ((segOfV ax ay bx by_).2.2.1), .int .i64 ((segOfV ax ay bx by_).2.2.2)], .agg #[.int .i64 ((segOfV ax ay bx by_).1), .int .i64 ((segOfV ax ay bx by_).2.1), .int .i64 ((segOfV ax ay bx by_).2.2.1), .int .i64 ((segOfV ax ay bx by_).2.2.2)]]) co17 (ar2 (T rfl rfl) (T rfl rfl)) (eqSeg_ok ) ?_)
            rintro _ w137 ⟨rfl, e138⟩
            have E139 := below_ext E133 E133.size e138
            refine lw_v (.bool (decide (¬ ((((segOfV ax ay bx by_).1) = ((segOfV ax ay bx by_).1) ∧ ((segOfV ax ay bx by_).2.1) = ((segOfV ax ay bx by_).2.1)) ∧ ((segOfV ax ay bx by_).2.2.1) = ((segOfV ax ay bx by_).2.2.1) ∧ ((segOfV ax ay bx by_).2.2.2) = ((segOfV ax ay bx by_).2.2.2))))) (dv_notd (p := (((segOfV ax ay bx by_).1) = ((segOfV ax ay bx by_).1) ∧ ((segOfV ax ay bx by_).2.1) = ((segOfV ax ay bx by_).2.1)) ∧ ((segOfV ax ay bx by_).2.2.1) = ((segOfV ax ay bx by_).2.2.1) ∧ ((segOfV ax ay bx by_).2.2.2) = ((segOfV ax ay bx by_).2.2.2)) (T rfl rfl)) ?_
            refine lw_v (.bool (decide (¬ ((((segOfV ax ay bx by_).1) = ((segOfV ax ay bx by_).1) ∧ ((segOfV ax ay bx by_).2.1) = ((segOfV ax ay bx by_).2.1)) ∧ ((segOfV ax ay bx by_).2.2.1) = ((segOfV ax ay bx by_).2.2.1) ∧ ((segOfV ax ay bx by_).2.2.2) = ((segOfV ax ay bx by_).2.2.2))))) (dv_move (T rfl rfl)) ?_
            by_cases hb140 : (((segOfV ax ay bx by_).1) = ((segOfV ax ay bx by_).1) ∧ ((segOfV ax ay bx by_).2.1) = ((segOfV ax ay bx by_).2.1)) ∧ ((segOfV ax ay bx by_).2.2.1) = ((segOfV ax ay bx by_).2.2.1) ∧ ((segOfV ax ay bx by_).2.2.2) = ((segOfV ax ay bx by_).2.2.2)
            · -- aaaabT
              refine lw_vy (.bool (decide (segOfOk ax ay bx by_))) (d := 29) rfl rfl (congrArg Value.bool (decide_eq_false (not_not_intro hb140))) (dv_move (T rfl rfl)) ?_
              refine lw_vy (.bool (decide (segOfOk ax ay bx by_))) (d := 29) rfl rfl (congrArg Value.bool (decide_eq_false (not_not_intro hb140))) (dv_move (T rfl rfl)) ?_
              refine lw_vy (.bool ((decide (segOfOk ax ay bx by_)) != (decide (segOfOk ax ay bx by_)))) (d := 29) rfl rfl (congrArg Value.bool (decide_eq_false (not_not_intro hb140))) (dv_neqb (a := decide (segOfOk ax ay bx by_)) (b := decide (segOfOk ax ay bx by_)) ub4 (T rfl rfl) (T rfl rfl)) ?_
              refine lw_v (.bool ((decide (segOfOk ax ay bx by_)) != (decide (segOfOk ax ay bx by_)))) (dv_pick_f (T rfl (congrArg Value.bool (decide_eq_false (not_not_intro hb140)))) (T rfl rfl)) ?_
              refine lw_nil ?_
              rcases Bool.eq_false_or_eq_true ((decide (segOfOk ax ay bx by_)) != (decide (segOfOk ax ay bx by_))) with hb141 | hb141
              · -- aaaabTT
                refine rk_ct (T rfl (congrArg Value.bool hb141)) ?_
                refine rk_seq ?_
                refine rk_reg ?_
                refine lw_v (.bool false) (dv_assign C) ?_
                refine lw_nil ?_
                refine rk_ret Try.func6 (v := .bool false) (res1 Try.results6 (rv_tmp rfl rfl)) ⟨_, rfl, ?_⟩
                exact ⟨(congrArg Value.bool (by grind)), E139⟩
              · -- aaaabTF
                refine rk_cf (T rfl (congrArg Value.bool hb141)) ?_
                refine rk_skip ?_
                refine rk_seq ?_
                refine rk_reg ?_
                refine lw_v (.bool true) (dv_assign C) ?_
                refine lw_nil ?_
                refine rk_ret Try.func6 (v := .bool true) (res1 Try.results6 (rv_tmp rfl rfl)) ⟨_, rfl, ?_⟩
                exact ⟨rfl, E139⟩
            · -- aaaabF
              refine lw_no (d := 29) rfl rfl (congrArg Value.bool (decide_eq_true hb140)) ?_
              refine lw_no (d := 29) rfl rfl (congrArg Value.bool (decide_eq_true hb140)) ?_
              refine lw_no (d := 29) rfl rfl (congrArg Value.bool (decide_eq_true hb140)) ?_
              refine lw_v (.bool true) (dv_pick_t (T rfl (congrArg Value.bool (decide_eq_true hb140))) C) ?_
              refine lw_nil ?_
              refine rk_ct (T rfl rfl) ?_
              refine rk_seq ?_
              refine rk_reg ?_
              refine lw_v (.bool false) (dv_assign C) ?_
              refine lw_nil ?_
              refine rk_ret Try.func6 (v := .bool false) (res1 Try.results6 (rv_tmp rfl rfl)) ⟨_, rfl, ?_⟩
              exact ⟨(congrArg Value.bool (by grind)), E139⟩
        · -- aaab
          refine id (oe_alloc ze33 ?_)
          intro b142 w143 n144
          have N145 : w.heap.size ≤ b142 := n144.eq ▸ E47.size
          have H146 := (d46.ext.blk H41)
          have : b32 < b142 := n144.eq ▸ lt_of_blk H146
          have E147 := below_ext E47 E47.size n144.ext
          have H148 := (n144.ext.blk H48)
          have H149 := (n144.ext.blk H49)
          refine ⟨.inr ⟨H148, H149⟩, ?_⟩
          refine aw_one 1 rfl (by kernel_rfl) .none (oe_callf (vs := [.agg #[.int .i64 ax, .int .i64 ay]]) co10 (ar1 (T rfl rfl)) (toSpot_ok ) ?_)
          rintro _ w150 ⟨rfl, e151⟩
          have E152 := below_ext E147 E147.size e151
          have H153 := (e151.blk H148)
          have H154 := (e151.blk H149)
          refine ⟨.inr ⟨H153, H154⟩, ?_⟩
          refine aw_one 3 rfl (by kernel_rfl) .none (oe_callf (vs := [.agg #[.int .i64 bx, .int .i64 by_]]) co10 (ar1 (T rfl rfl)) (toSpot_ok ) ?_)
          rintro _ w155 ⟨rfl, e156⟩
          have E157 := below_ext E152 E152.size e156
          have H158 := (e156.blk H153)
          have H159 := (e156.blk H154)
          refine ⟨.inr ⟨H158, H159⟩, ?_⟩
          refine aw_one 4 rfl (by kernel_rfl) .none (oe_callf (vs := [.agg #[.int .i64 ax, .int .i64 ay], .agg #[.int .i64 bx, .int .i64 by_]]) co16 (ar2 (T rfl rfl) (T rfl rfl)) (iSegOf_ok ) ?_)
          rintro _ w160 ⟨rfl, e161⟩
          have E162 := below_ext E157 E157.size e161
          have H163 := (e161.blk H158)
          have H164 := (e161.blk H159)
          refine ⟨.inr ⟨H163, H164⟩, ?_⟩
          refine aw_pure 5 (.tuple #[.agg #[.int .i64 ((segOfV ax ay bx by_).1), .int .i64 ((segOfV ax ay bx by_).2.1), .int .i64 ((segOfV ax ay bx by_).2.2.1), .int .i64 ((segOfV ax ay bx by_).2.2.2)], .bool (decide (segOfOk ax ay bx by_))]) rfl (by kernel_rfl) .none ⟨H163, H164⟩ (fun _ => dv_move (T rfl rfl)) ?_
          refine aw_pure 6 (.agg #[.int .i64 ((segOfV ax ay bx by_).1), .int .i64 ((segOfV ax ay bx by_).2.1), .int .i64 ((segOfV ax ay bx by_).2.2.1), .int .i64 ((segOfV ax ay bx by_).2.2.2)]) rfl (by kernel_rfl) .none ⟨H163, H164⟩ (fun _ => dv_extract (vs := #[.agg #[.int .i64 ((segOfV ax ay bx by_).1), .int .i64 ((segOfV ax ay bx by_).2.1), .int .i64 ((segOfV ax ay bx by_).2.2.1), .int .i64 ((segOfV ax ay bx by_).2.2.2)], .bool (decide (segOfOk ax ay bx by_))]) (T rfl rfl) rfl) ?_
          refine aw_pure 7 (.bool (decide (segOfOk ax ay bx by_))) rfl (by kernel_rfl) .none ⟨H163, H164⟩ (fun _ => dv_extract (vs := #[.agg #[.int .i64 ((segOfV ax ay bx by_).1), .int .i64 ((segOfV ax ay bx by_).2.1), .int .i64 ((segOfV ax ay bx by_).2.2.1), .int .i64 ((segOfV ax ay bx by_).2.2.2)], .bool (decide (segOfOk ax ay bx by_))]) (T rfl rfl) rfl) ?_
          have H165 := (e161.blk (e156.blk (e151.blk n144.blk)))
          refine aw_one 9 rfl (by kernel_rfl) .none (oe_store (v := .agg #[.int .i64 ((segOfV ax ay bx by_).1), .int .i64 ((segOfV ax ay bx by_).2.1), .int .i64 ((segOfV ax ay bx by_).2.2.1), .int .i64 ((segOfV ax ay bx by_).2.2.2)]) (vs := [.int .i64 ((segOfV ax ay bx by_).1), .int .i64 ((segOfV ax ay bx by_).2.1), .int .i64 ((segOfV ax ay bx by_).2.2.1), .int .i64 ((segOfV ax ay bx by_).2.2.2)]) (l := [.int .i64 ((segOfV ax ay bx by_).1), .int .i64 ((segOfV ax ay bx by_).2.1), .int .i64 ((segOfV ax ay bx by_).2.2.1), .int .i64 ((segOfV ax ay bx by_).2.2.2)]) (T rfl rfl) (T rfl rfl) sz33 rfl rfl rfl H165 rfl ?_)
          intro w166 s167 H168
          have E169 := below_st E162 N145 s167
          have H170 := (s167.blk H163 (by omega))
          have H171 := (s167.blk H164 (by omega))
          refine ⟨.inr ⟨H170, H171⟩, ?_⟩
          refine aw_last 10 (.bool (decide (segOfOk ax ay bx by_))) rfl (by kernel_rfl) .none (fun _ => dv_assign (T rfl rfl)) ?_
          refine aw_done (by kernel_rfl) ?_
          refine rk_seq ?_
          refine rk_seq ?_
          refine rk_reg ?_
          refine lw_v (.agg #[.int .i64 ((segOfV ax ay bx by_).1), .int .i64 ((segOfV ax ay bx by_).2.1), .int .i64 ((segOfV ax ay bx by_).2.2.1), .int .i64 ((segOfV ax ay bx by_).2.2.2)]) (dv_loads (l := [.int .i64 ((segOfV ax ay bx by_).1), .int .i64 ((segOfV ax ay bx by_).2.1), .int .i64 ((segOfV ax ay bx by_).2.2.1), .int .i64 ((segOfV ax ay bx by_).2.2.2)]) ag33 sz33 (T rfl rfl) H168 rfl) ?_
          have H172 := (s167.blk (e161.blk (e156.blk (e151.blk (n144.ext.blk H146)))) (by omega))
          refine lw_v (.agg #[.int .i64 ((segOfV ax ay bx by_).1), .int .i64 ((segOfV ax ay bx by_).2.1), .int .i64 ((segOfV ax ay bx by_).2.2.1), .int .i64 ((segOfV ax ay bx by_).2.2.2)]) (dv_loads (l := [.int .i64 ((segOfV ax ay bx by_).1), .int .i64 ((segOfV ax ay bx by_).2.1), .int .i64 ((segOfV ax ay bx by_).2.2.1), .int .i64 ((segOfV ax ay bx by_).2.2.2)]) ag33 sz33 (T rfl rfl) H172 rfl) ?_
          refine lw_e (oe_callf (vs := [.agg #[.int .i64 ((segOfV ax ay bx by_).1), .int .i64 ((segOfV ax ay bx by_).2.1), .int .i64 ((segOfV ax ay bx by_).2.2.1), .int .i64 ((segOfV ax ay bx by_).2.2.2)], .agg #[.int .i64 ((segOfV ax ay bx by_).1), .int .i64 ((segOfV ax ay bx by_).2.1), .int .i64 ((segOfV ax ay bx by_).2.2.1), .int .i64 ((segOfV ax ay bx by_).2.2.2)]]) co17 (ar2 (T rfl rfl) (T rfl rfl)) (eqSeg_ok ) ?_)
          rintro _ w173 ⟨rfl, e174⟩
          have E175 := below_ext E169 E169.size e174
          refine lw_v (.bool (decide (¬ ((((segOfV ax ay bx by_).1) = ((segOfV ax ay bx by_).1) ∧ ((segOfV ax ay bx by_).2.1) = ((segOfV ax ay bx by_).2.1)) ∧ ((segOfV ax ay bx by_).2.2.1) = ((segOfV ax ay bx by_).2.2.1) ∧ ((segOfV ax ay bx by_).2.2.2) = ((segOfV ax ay bx by_).2.2.2))))) (dv_notd (p := (((segOfV ax ay bx by_).1) = ((segOfV ax ay bx by_).1) ∧ ((segOfV ax ay bx by_).2.1) = ((segOfV ax ay bx by_).2.1)) ∧ ((segOfV ax ay bx by_).2.2.1) = ((segOfV ax ay bx by_).2.2.1) ∧ ((segOfV ax ay bx by_).2.2.2) = ((segOfV ax ay bx by_).2.2.2)) (T rfl rfl)) ?_
          refine lw_v (.bool (decide (¬ ((((segOfV ax ay bx by_).1) = ((segOfV ax ay bx by_).1) ∧ ((segOfV ax ay bx by_).2.1) = ((segOfV ax ay bx by_).2.1)) ∧ ((segOfV ax ay bx by_).2.2.1) = ((segOfV ax ay bx by_).2.2.1) ∧ ((segOfV ax ay bx by_).2.2.2) = ((segOfV ax ay bx by_).2.2.2))))) (dv_move (T rfl rfl)) ?_
          by_cases hb176 : (((segOfV ax ay bx by_).1) = ((segOfV ax ay bx by_).1) ∧ ((segOfV ax ay bx by_).2.1) = ((segOfV ax ay bx by_).2.1)) ∧ ((segOfV ax ay bx by_).2.2.1) = ((segOfV ax ay bx by_).2.2.1) ∧ ((segOfV ax ay bx by_).2.2.2) = ((segOfV ax ay bx by_).2.2.2)
          · -- aaabT
            refine lw_vy (.bool (decide (segOfOk ax ay bx by_))) (d := 29) rfl rfl (congrArg Value.bool (decide_eq_false (not_not_intro hb176))) (dv_move (T rfl rfl)) ?_
            refine lw_vy (.bool (decide (segOfOk ax ay bx by_))) (d := 29) rfl rfl (congrArg Value.bool (decide_eq_false (not_not_intro hb176))) (dv_move (T rfl rfl)) ?_
            refine lw_vy (.bool ((decide (segOfOk ax ay bx by_)) != (decide (segOfOk ax ay bx by_)))) (d := 29) rfl rfl (congrArg Value.bool (decide_eq_false (not_not_intro hb176))) (dv_neqb (a := decide (segOfOk ax ay bx by_)) (b := decide (segOfOk ax ay bx by_)) ub4 (T rfl rfl) (T rfl rfl)) ?_
            refine lw_v (.bool ((decide (segOfOk ax ay bx by_)) != (decide (segOfOk ax ay bx by_)))) (dv_pick_f (T rfl (congrArg Value.bool (decide_eq_false (not_not_intro hb176)))) (T rfl rfl)) ?_
            refine lw_nil ?_
            rcases Bool.eq_false_or_eq_true ((decide (segOfOk ax ay bx by_)) != (decide (segOfOk ax ay bx by_))) with hb177 | hb177
            · -- aaabTT
              refine rk_ct (T rfl (congrArg Value.bool hb177)) ?_
              refine rk_seq ?_
              refine rk_reg ?_
              refine lw_v (.bool false) (dv_assign C) ?_
              refine lw_nil ?_
              refine rk_ret Try.func6 (v := .bool false) (res1 Try.results6 (rv_tmp rfl rfl)) ⟨_, rfl, ?_⟩
              exact ⟨(congrArg Value.bool (by grind)), E175⟩
            · -- aaabTF
              refine rk_cf (T rfl (congrArg Value.bool hb177)) ?_
              refine rk_skip ?_
              refine rk_seq ?_
              refine rk_reg ?_
              refine lw_v (.bool true) (dv_assign C) ?_
              refine lw_nil ?_
              refine rk_ret Try.func6 (v := .bool true) (res1 Try.results6 (rv_tmp rfl rfl)) ⟨_, rfl, ?_⟩
              exact ⟨rfl, E175⟩
          · -- aaabF
            refine lw_no (d := 29) rfl rfl (congrArg Value.bool (decide_eq_true hb176)) ?_
            refine lw_no (d := 29) rfl rfl (congrArg Value.bool (decide_eq_true hb176)) ?_
            refine lw_no (d := 29) rfl rfl (congrArg Value.bool (decide_eq_true hb176)) ?_
            refine lw_v (.bool true) (dv_pick_t (T rfl (congrArg Value.bool (decide_eq_true hb176))) C) ?_
            refine lw_nil ?_
            refine rk_ct (T rfl rfl) ?_
            refine rk_seq ?_
            refine rk_reg ?_
            refine lw_v (.bool false) (dv_assign C) ?_
            refine lw_nil ?_
            refine rk_ret Try.func6 (v := .bool false) (res1 Try.results6 (rv_tmp rfl rfl)) ⟨_, rfl, ?_⟩
            exact ⟨(congrArg Value.bool (by grind)), E175⟩
      · -- aab
        refine id (oe_alloc ze33 ?_)
        intro b178 w179 n180
        have N181 : w.heap.size ≤ b178 := n180.eq ▸ E24.size
        have : b6 < b178 := n180.eq ▸ lt_of_blk H26
        have E182 := below_ext E24 E24.size n180.ext
        have H183 := (n180.ext.blk H25)
        have H184 := (n180.ext.blk H26)
        refine ⟨.inr ⟨H183, H184⟩, ?_⟩
        refine aw_one 4 rfl (by kernel_rfl) .none (oe_callf (vs := [.agg #[.int .i64 ax, .int .i64 ay], .agg #[.int .i64 bx, .int .i64 by_]]) co15 (ar2 (T rfl rfl) (T rfl rfl)) (sSegOf_ok ) ?_)
        rintro _ w185 ⟨rfl, e186⟩
        have E187 := below_ext E182 E182.size e186
        have H188 := (e186.blk H183)
        have H189 := (e186.blk H184)
        refine ⟨.inr ⟨H188, H189⟩, ?_⟩
        refine aw_pure 5 (.tuple #[.agg #[.int .i64 ((segOfV ax ay bx by_).1), .int .i64 ((segOfV ax ay bx by_).2.1), .int .i64 ((segOfV ax ay bx by_).2.2.1), .int .i64 ((segOfV ax ay bx by_).2.2.2)], .bool (decide (segOfOk ax ay bx by_))]) rfl (by kernel_rfl) .none ⟨H188, H189⟩ (fun _ => dv_move (T rfl rfl)) ?_
        refine aw_pure 6 (.agg #[.int .i64 ((segOfV ax ay bx by_).1), .int .i64 ((segOfV ax ay bx by_).2.1), .int .i64 ((segOfV ax ay bx by_).2.2.1), .int .i64 ((segOfV ax ay bx by_).2.2.2)]) rfl (by kernel_rfl) .none ⟨H188, H189⟩ (fun _ => dv_extract (vs := #[.agg #[.int .i64 ((segOfV ax ay bx by_).1), .int .i64 ((segOfV ax ay bx by_).2.1), .int .i64 ((segOfV ax ay bx by_).2.2.1), .int .i64 ((segOfV ax ay bx by_).2.2.2)], .bool (decide (segOfOk ax ay bx by_))]) (T rfl rfl) rfl) ?_
        refine aw_pure 7 (.bool (decide (segOfOk ax ay bx by_))) rfl (by kernel_rfl) .none ⟨H188, H189⟩ (fun _ => dv_extract (vs := #[.agg #[.int .i64 ((segOfV ax ay bx by_).1), .int .i64 ((segOfV ax ay bx by_).2.1), .int .i64 ((segOfV ax ay bx by_).2.2.1), .int .i64 ((segOfV ax ay bx by_).2.2.2)], .bool (decide (segOfOk ax ay bx by_))]) (T rfl rfl) rfl) ?_
        have H190 := (e186.blk n180.blk)
        refine aw_one 9 rfl (by kernel_rfl) .none (oe_store (v := .agg #[.int .i64 ((segOfV ax ay bx by_).1), .int .i64 ((segOfV ax ay bx by_).2.1), .int .i64 ((segOfV ax ay bx by_).2.2.1), .int .i64 ((segOfV ax ay bx by_).2.2.2)]) (vs := [.int .i64 ((segOfV ax ay bx by_).1), .int .i64 ((segOfV ax ay bx by_).2.1), .int .i64 ((segOfV ax ay bx by_).2.2.1), .int .i64 ((segOfV ax ay bx by_).2.2.2)]) (l := [.int .i64 ((segOfV ax ay bx by_).1), .int .i64 ((segOfV ax ay bx by_).2.1), .int .i64 ((segOfV ax ay bx by_).2.2.1), .int .i64 ((segOfV ax ay bx by_).2.2.2)]) (T rfl rfl) (T rfl rfl) sz33 rfl rfl rfl H190 rfl ?_)
        intro w191 s192 H193
        have E194 := below_st E187 N181 s192
        have H195 := (s192.blk H188 (by omega))
        have H196 := (s192.blk H189 (by omega))
        refine ⟨.inr ⟨H195, H196⟩, ?_⟩
        refine aw_last 10 (.bool (decide (segOfOk ax ay bx by_))) rfl (by kernel_rfl) .none (fun _ => dv_assign (T rfl rfl)) ?_
        refine aw_done (by kernel_rfl) ?_
        refine rk_seq ?_
        refine rk_any (fun w => w.heap[b1]? = some (.cells #[.int .i64 ax, .int .i64 ay] 24) ∧ w.heap[b6]? = some (.cells #[.int .i64 bx, .int .i64 by_] 24)) [10] mo ?_
        intro w197 d198
        have E199 := below_ext E194 E194.size d198.ext
        have H200 := (d198.ext.blk H195)
        have H201 := (d198.ext.blk H196)
        refine aw_load 0 (.agg #[.int .i64 ax, .int .i64 ay]) rfl (by kernel_rfl) .none ⟨H200, H201⟩ (fun _ s => dv_loads (l := [.int .i64 ax, .int .i64 ay]) ag24 sz24 (T rfl rfl) s.1 rfl) ?_
        refine aw_load 2 (.agg #[.int .i64 bx, .int .i64 by_]) rfl (by kernel_rfl) .none ⟨H200, H201⟩ (fun _ s => dv_loads (l := [.int .i64 bx, .int .i64 by_]) ag24 sz24 (T rfl rfl) s.2 rfl) ?_
        refine aw_two 1 8 rfl rfl (by kernel_rfl) .none .none ?_ ?_
        · -- aaba
          refine id (oe_callf (vs := [.agg #[.int .i64 ax, .int .i64 ay]]) co10 (ar1 (T rfl rfl)) (toSpot_ok ) ?_)
          rintro _ w202 ⟨rfl, e203⟩
          have E204 := below_ext E199 E199.size e203
          have H205 := (e203.blk H200)
          have H206 := (e203.blk H201)
          refine ⟨.inr ⟨H205, H206⟩, ?_⟩
          refine aw_two 3 8 rfl rfl (by kernel_rfl) .none .none ?_ ?_
          · -- aabaa
            refine id (oe_callf (vs := [.agg #[.int .i64 bx, .int .i64 by_]]) co10 (ar1 (T rfl rfl)) (toSpot_ok ) ?_)
            rintro _ w207 ⟨rfl, e208⟩
            have E209 := below_ext E204 E204.size e208
            have H210 := (e208.blk H205)
            have H211 := (e208.blk H206)
            refine ⟨.inr ⟨H210, H211⟩, ?_⟩
            refine aw_two 4 8 rfl rfl (by kernel_rfl) .none .none ?_ ?_
            · -- aabaaa
              refine id (oe_callf (vs := [.agg #[.int .i64 ax, .int .i64 ay], .agg #[.int .i64 bx, .int .i64 by_]]) co16 (ar2 (T rfl rfl) (T rfl rfl)) (iSegOf_ok ) ?_)
              rintro _ w212 ⟨rfl, e213⟩
              have E214 := below_ext E209 E209.size e213
              have H215 := (e213.blk H210)
              have H216 := (e213.blk H211)
              refine ⟨.inr ⟨H215, H216⟩, ?_⟩
              refine aw_pure 5 (.tuple #[.agg #[.int .i64 ((segOfV ax ay bx by_).1), .int .i64 ((segOfV ax ay bx by_).2.1), .int .i64 ((segOfV ax ay bx by_).2.2.1), .int .i64 ((segOfV ax ay bx by_).2.2.2)], .bool (decide (segOfOk ax ay bx by_))]) rfl (by kernel_rfl) .none ⟨H215, H216⟩ (fun _ => dv_move (T rfl rfl)) ?_
              refine aw_pure 6 (.agg #[.int .i64 ((segOfV ax ay bx by_).1), .int .i64 ((segOfV ax ay bx by_).2.1), .int .i64 ((segOfV ax ay bx by_).2.2.1), .int .i64 ((segOfV ax ay bx by_).2.2.2)]) rfl (by kernel_rfl) .none ⟨H215, H216⟩ (fun _ => dv_extract (vs := #[.agg #[.int .i64 ((segOfV ax ay bx by_).1), .int .i64 ((segOfV ax ay bx by_).2.1), .int .i64 ((segOfV ax ay bx by_).2.2.1), .int .i64 ((segOfV ax ay bx by_).2.2.2)], .bool (decide (segOfOk ax ay bx by_))]) (T rfl rfl) rfl) ?_
              refine aw_pure 7 (.bool (decide (segOfOk ax ay bx by_))) rfl (by kernel_rfl) .none ⟨H215, H216⟩ (fun _ => dv_extract (vs := #[.agg #[.int .i64 ((segOfV ax ay bx by_).1), .int .i64 ((segOfV ax ay bx by_).2.1), .int .i64 ((segOfV ax ay bx by_).2.2.1), .int .i64 ((segOfV ax ay bx by_).2.2.2)], .bool (decide (segOfOk ax ay bx by_))]) (T rfl rfl) rfl) ?_
              refine aw_one 8 rfl (by kernel_rfl) .none (oe_alloc ze33 ?_)
              intro b217 w218 n219
              have N220 : w.heap.size ≤ b217 := n219.eq ▸ E214.size
              have H221 := (e213.blk (e208.blk (e203.blk (d198.ext.blk H193))))
              have : b178 < b217 := n219.eq ▸ lt_of_blk H221
              have E222 := below_ext E214 E214.size n219.ext
              have H223 := (n219.ext.blk H215)
              have H224 := (n219.ext.blk H216)
              refine ⟨.inr ⟨H223, H224⟩, ?_⟩
              refine aw_one 9 rfl (by kernel_rfl) .none (oe_store (v := .agg #[.int .i64 ((segOfV ax ay bx by_).1), .int .i64 ((segOfV ax ay bx by_).2.1), .int .i64 ((segOfV ax ay bx by_).2.2.1), .int .i64 ((segOfV ax ay bx by_).2.2.2)]) (vs := [.int .i64 ((segOfV ax ay bx by_).1), .int .i64 ((segOfV ax ay bx by_).2.1), .int .i64 ((segOfV ax ay bx by_).2.2.1), .int .i64 ((segOfV ax ay bx by_).2.2.2)]) (l := [.int .i64 ((segOfV ax ay bx by_).1), .int .i64 ((segOfV ax ay bx by_).2.1), .int .i64 ((segOfV ax ay bx by_).2.2.1), .int .i64 ((segOfV ax ay bx by_).2.2.2)]) (T rfl rfl) (T rfl rfl) sz33 rfl rfl rfl n219.blk rfl ?_)
              intro w225 s226 H227
              have E228 := below_st E222 N220 s226
              have H229 := (s226.blk H223 (by omega))
              have H230 := (s226.blk H224 (by omega))
              refine ⟨.inr ⟨H229, H230⟩, ?_⟩
              refine aw_last 10 (.bool (decide (segOfOk ax ay bx by_))) rfl (by kernel_rfl) .none (fun _ => dv_assign (T rfl rfl)) ?_
              refine aw_done (by kernel_rfl) ?_
              refine rk_seq ?_
              refine rk_seq ?_
              refine rk_reg ?_
              refine lw_v (.agg #[.int .i64 ((segOfV ax ay bx by_).1), .int .i64 ((segOfV ax ay bx by_).2.1), .int .i64 ((segOfV ax ay bx by_).2.2.1), .int .i64 ((segOfV ax ay bx by_).2.2.2)]) (dv_loads (l := [.int .i64 ((segOfV ax ay bx by_).1), .int .i64 ((segOfV ax ay bx by_).2.1), .int .i64 ((segOfV ax ay bx by_).2.2.1), .int .i64 ((segOfV ax ay bx by_).2.2.2)]) ag33 sz33 (T rfl rfl) H227 rfl) ?_
              have H231 := (s226.blk (n219.ext.blk H221) (by omega))
              refine lw_v (.agg #[.int .i64 ((segOfV ax ay bx by_).1), .int .i64 ((segOfV ax ay bx by_).2.1), .int .i64 ((segOfV ax ay bx by_).2.2.1), .int .i64 ((segOfV ax ay bx by_).2.2.2)]) (dv_loads (l := [.int .i64 ((segOfV ax ay bx by_).1), .int .i64 ((segOfV ax ay bx by_).2.1), .int .i64 ((segOfV ax ay bx by_).2.2.1), .int .i64 ((segOfV ax ay bx by_).2.2.2)]) ag33 sz33 (T rfl rfl) H231 rfl) ?_
              refine lw_e (oe_callf (vs := [.agg #[.int .i64 ((segOfV ax ay bx by_).1), .int .i64 ((segOfV ax ay bx by_).2.1), .int .i64 ((segOfV ax ay bx by_).2.2.1), .int .i64 ((segOfV ax ay bx by_).2.2.2)], .agg #[.int .i64 ((segOfV ax ay bx by_).1), .int .i64 ((segOfV ax ay bx by_).2.1), .int .i64 ((segOfV ax ay bx by_).2.2.1), .int .i64 ((segOfV ax ay bx by_).2.2.2)]]) co17 (ar2 (T rfl rfl) (T rfl rfl)) (eqSeg_ok ) ?_)
              rintro _ w232 ⟨rfl, e233⟩
              have E234 := below_ext E228 E228.size e233
              refine lw_v (.bool (decide (¬ ((((segOfV ax ay bx by_).1) = ((segOfV ax ay bx by_).1) ∧ ((segOfV ax ay bx by_).2.1) = ((segOfV ax ay bx by_).2.1)) ∧ ((segOfV ax ay bx by_).2.2.1) = ((segOfV ax ay bx by_).2.2.1) ∧ ((segOfV ax ay bx by_).2.2.2) = ((segOfV ax ay bx by_).2.2.2))))) (dv_notd (p := (((segOfV ax ay bx by_).1) = ((segOfV ax ay bx by_).1) ∧ ((segOfV ax ay bx by_).2.1) = ((segOfV ax ay bx by_).2.1)) ∧ ((segOfV ax ay bx by_).2.2.1) = ((segOfV ax ay bx by_).2.2.1) ∧ ((segOfV ax ay bx by_).2.2.2) = ((segOfV ax ay bx by_).2.2.2)) (T rfl rfl)) ?_
              refine lw_v (.bool (decide (¬ ((((segOfV ax ay bx by_).1) = ((segOfV ax ay bx by_).1) ∧ ((segOfV ax ay bx by_).2.1) = ((segOfV ax ay bx by_).2.1)) ∧ ((segOfV ax ay bx by_).2.2.1) = ((segOfV ax ay bx by_).2.2.1) ∧ ((segOfV ax ay bx by_).2.2.2) = ((segOfV ax ay bx by_).2.2.2))))) (dv_move (T rfl rfl)) ?_
              by_cases hb235 : (((segOfV ax ay bx by_).1) = ((segOfV ax ay bx by_).1) ∧ ((segOfV ax ay bx by_).2.1) = ((segOfV ax ay bx by_).2.1)) ∧ ((segOfV ax ay bx by_).2.2.1) = ((segOfV ax ay bx by_).2.2.1) ∧ ((segOfV ax ay bx by_).2.2.2) = ((segOfV ax ay bx by_).2.2.2)
              · -- aabaaaT
                refine lw_vy (.bool (decide (segOfOk ax ay bx by_))) (d := 29) rfl rfl (congrArg Value.bool (decide_eq_false (not_not_intro hb235))) (dv_move (T rfl rfl)) ?_
                refine lw_vy (.bool (decide (segOfOk ax ay bx by_))) (d := 29) rfl rfl (congrArg Value.bool (decide_eq_false (not_not_intro hb235))) (dv_move (T rfl rfl)) ?_
                refine lw_vy (.bool ((decide (segOfOk ax ay bx by_)) != (decide (segOfOk ax ay bx by_)))) (d := 29) rfl rfl (congrArg Value.bool (decide_eq_false (not_not_intro hb235))) (dv_neqb (a := decide (segOfOk ax ay bx by_)) (b := decide (segOfOk ax ay bx by_)) ub4 (T rfl rfl) (T rfl rfl)) ?_
                refine lw_v (.bool ((decide (segOfOk ax ay bx by_)) != (decide (segOfOk ax ay bx by_)))) (dv_pick_f (T rfl (congrArg Value.bool (decide_eq_false (not_not_intro hb235)))) (T rfl rfl)) ?_
                refine lw_nil ?_
                rcases Bool.eq_false_or_eq_true ((decide (segOfOk ax ay bx by_)) != (decide (segOfOk ax ay bx by_))) with hb236 | hb236
                · -- aabaaaTT
                  refine rk_ct (T rfl (congrArg Value.bool hb236)) ?_
                  refine rk_seq ?_
                  refine rk_reg ?_
                  refine lw_v (.bool false) (dv_assign C) ?_
                  refine lw_nil ?_
                  refine rk_ret Try.func6 (v := .bool false) (res1 Try.results6 (rv_tmp rfl rfl)) ⟨_, rfl, ?_⟩
                  exact ⟨(congrArg Value.bool (by grind)), E234⟩
                · -- aabaaaTF
                  refine rk_cf (T rfl (congrArg Value.bool hb236)) ?_
                  refine rk_skip ?_
                  refine rk_seq ?_
                  refine rk_reg ?_
                  refine lw_v (.bool true) (dv_assign C) ?_
                  refine lw_nil ?_
                  refine rk_ret Try.func6 (v := .bool true) (res1 Try.results6 (rv_tmp rfl rfl)) ⟨_, rfl, ?_⟩
                  exact ⟨rfl, E234⟩
              · -- aabaaaF
                refine lw_no (d := 29) rfl rfl (congrArg Value.bool (decide_eq_true hb235)) ?_
                refine lw_no (d := 29) rfl rfl (congrArg Value.bool (decide_eq_true hb235)) ?_
                refine lw_no (d := 29) rfl rfl (congrArg Value.bool (decide_eq_true hb235)) ?_
                refine lw_v (.bool true) (dv_pick_t (T rfl (congrArg Value.bool (decide_eq_true hb235))) C) ?_
                refine lw_nil ?_
                refine rk_ct (T rfl rfl) ?_
                refine rk_seq ?_
                refine rk_reg ?_
                refine lw_v (.bool false) (dv_assign C) ?_
                refine lw_nil ?_
                refine rk_ret Try.func6 (v := .bool false) (res1 Try.results6 (rv_tmp rfl rfl)) ⟨_, rfl, ?_⟩
                exact ⟨(congrArg Value.bool (by grind)), E234⟩
            · -- aabaab
              refine id (oe_alloc ze33 ?_)
              intro b237 w238 n239
              have N240 : w.heap.size ≤ b237 := n239.eq ▸ E209.size
              have H241 := (e208.blk (e203.blk (d198.ext.blk H193)))
              have : b178 < b237 := n239.eq ▸ lt_of_blk H241
              have E242 := below_ext E209 E209.size n239.ext
              have H243 := (n239.ext.blk H210)
              have H244 := (n239.ext.blk H211)
              refine ⟨.inr ⟨H243, H244⟩, ?_⟩
              refine aw_one 4 rfl (by kernel_rfl) .none (oe_callf (vs := [.agg #[.int .i64 ax, .int .i64 ay], .agg #[.int .i64 bx, .int .i64 by_]]) co16 (ar2 (T rfl rfl) (T rfl rfl)) (iSegOf_ok ) ?_)
              rintro _ w245 ⟨rfl, e246⟩
              have E247 := below_ext E242 E242.size e246
              have H248 := (e246.blk H243)
              have H249 := (e246.blk H244)
              refine ⟨.inr ⟨H248, H249⟩, ?_⟩
              refine aw_pure 5 (.tuple #[.agg #[.int .i64 ((segOfV ax ay bx by_).1), .int .i64 ((segOfV ax ay bx by_).2.1), .int .i64 ((segOfV ax ay bx by_).2.2.1), .int .i64 ((segOfV ax ay bx by_).2.2.2)], .bool (decide (segOfOk ax ay bx by_))]) rfl (by kernel_rfl) .none ⟨H248, H249⟩ (fun _ => dv_move (T rfl rfl)) ?_
              refine aw_pure 6 (.agg #[.int .i64 ((segOfV ax ay bx by_).1), .int .i64 ((segOfV ax ay bx by_).2.1), .int .i64 ((segOfV ax ay bx by_).2.2.1), .int .i64 ((segOfV ax ay bx by_).2.2.2)]) rfl (by kernel_rfl) .none ⟨H248, H249⟩ (fun _ => dv_extract (vs := #[.agg #[.int .i64 ((segOfV ax ay bx by_).1), .int .i64 ((segOfV ax ay bx by_).2.1), .int .i64 ((segOfV ax ay bx by_).2.2.1), .int .i64 ((segOfV ax ay bx by_).2.2.2)], .bool (decide (segOfOk ax ay bx by_))]) (T rfl rfl) rfl) ?_
              refine aw_pure 7 (.bool (decide (segOfOk ax ay bx by_))) rfl (by kernel_rfl) .none ⟨H248, H249⟩ (fun _ => dv_extract (vs := #[.agg #[.int .i64 ((segOfV ax ay bx by_).1), .int .i64 ((segOfV ax ay bx by_).2.1), .int .i64 ((segOfV ax ay bx by_).2.2.1), .int .i64 ((segOfV ax ay bx by_).2.2.2)], .bool (decide (segOfOk ax ay bx by_))]) (T rfl rfl) rfl) ?_
              have H250 := (e246.blk n239.blk)
              refine aw_one 9 rfl (by kernel_rfl) .none (oe_store (v := .agg #[.int .i64 ((segOfV ax ay bx by_).1), .int .i64 ((segOfV ax ay bx by_).2.1), .int .i64 ((segOfV ax ay bx by_).2.2.1), .int .i64 ((segOfV ax ay bx by_).2.2.2)]) (vs := [.int .i64 ((segOfV ax ay bx by_).1), .int .i64 ((segOfV ax ay bx by_).2.1), .int .i64 ((segOfV ax ay bx by_).2.2.1), .int .i64 ((segOfV ax ay bx by_).2.2.2)]) (l := [.int .i64 ((segOfV ax ay bx by_).1), .int .i64 ((segOfV ax ay bx by_).2.1), .int .i64 ((segOfV ax ay bx by_).2.2.1), .int .i64 ((segOfV ax ay bx by_).2.2.2)]) (T rfl rfl) (T rfl rfl) sz33 rfl rfl rfl H250 rfl ?_)
              intro w251 s252 H253
              have E254 := below_st E247 N240 s252
              have H255 := (s252.blk H248 (by omega))
              have H256 := (s252.blk H249 (by omega))
              refine ⟨.inr ⟨H255, H256⟩, ?_⟩
              refine aw_last 10 (.bool (decide (segOfOk ax ay bx by_))) rfl (by kernel_rfl) .none (fun _ => dv_assign (T rfl rfl)) ?_
              refine aw_done (by kernel_rfl) ?_
              refine rk_seq ?_
              refine rk_seq ?_
              refine rk_reg ?_
              refine lw_v (.agg #[.int .i64 ((segOfV ax ay bx by_).1), .int .i64 ((segOfV ax ay bx by_).2.1), .int .i64 ((segOfV ax ay bx by_).2.2.1), .int .i64 ((segOfV ax ay bx by_).2.2.2)]) (dv_loads (l := [.int .i64 ((segOfV ax ay bx by_).1), .int .i64 ((segOfV ax ay bx by_).2.1), .int .i64 ((segOfV ax ay bx by_).2.2.1), .int .i64 ((segOfV ax ay bx by_).2.2.2)]) ag33 sz33 (T rfl rfl) H253 rfl) ?_
              have H257 := (s252.blk (e246.blk (n239.ext.blk H241)) (by omega))
              refine lw_v (.agg #[.int .i64 ((segOfV ax ay bx by_).1), .int .i64 ((segOfV ax ay bx by_).2.1), .int .i64 ((segOfV ax ay bx by_).2.2.1), .int .i64 ((segOfV ax ay bx by_).2.2.2)]) (dv_loads (l := [.int .i64 ((segOfV ax ay bx by_).1), .int .i64 ((segOfV ax ay bx by_).2.1), .int .i64 ((segOfV ax ay bx by_).2.2.1), .int .i64 ((segOfV ax ay bx by_).2.2.2)]) ag33 sz33 (T rfl rfl) H257 rfl) ?_
              refine lw_e (oe_callf (vs := [.agg #[.int .i64 ((segOfV ax ay bx by_).1), .int .i64 ((segOfV ax ay bx by_).2.1), .int .i64 ((segOfV ax ay bx by_).2.2.1), .int .i64 ((segOfV ax ay bx by_).2.2.2)], .agg #[.int .i64 ((segOfV ax ay bx by_).1), .int .i64 ((segOfV ax ay bx by_).2.1), .int .i64 ((segOfV ax ay bx by_).2.2.1), .int .i64 ((segOfV ax ay bx by_).2.2.2)]]) co17 (ar2 (T rfl rfl) (T rfl rfl)) (eqSeg_ok ) ?_)
              rintro _ w258 ⟨rfl, e259⟩
              have E260 := below_ext E254 E254.size e259
              refine lw_v (.bool (decide (¬ ((((segOfV ax ay bx by_).1) = ((segOfV ax ay bx by_).1) ∧ ((segOfV ax ay bx by_).2.1) = ((segOfV ax ay bx by_).2.1)) ∧ ((segOfV ax ay bx by_).2.2.1) = ((segOfV ax ay bx by_).2.2.1) ∧ ((segOfV ax ay bx by_).2.2.2) = ((segOfV ax ay bx by_).2.2.2))))) (dv_notd (p := (((segOfV ax ay bx by_).1) = ((segOfV ax ay bx by_).1) ∧ ((segOfV ax ay bx by_).2.1) = ((segOfV ax ay bx by_).2.1)) ∧ ((segOfV ax ay bx by_).2.2.1) = ((segOfV ax ay bx by_).2.2.1) ∧ ((segOfV ax ay bx by_).2.2.2) = ((segOfV ax ay bx by_).2.2.2)) (T rfl rfl)) ?_
              refine lw_v (.bool (decide (¬ ((((segOfV ax ay bx by_).1) = ((segOfV ax ay bx by_).1) ∧ ((segOfV ax ay bx by_).2.1) = ((segOfV ax ay bx by_).2.1)) ∧ ((segOfV ax ay bx by_).2.2.1) = ((segOfV ax ay bx by_).2.2.1) ∧ ((segOfV ax ay bx by_).2.2.2) = ((segOfV ax ay bx by_).2.2.2))))) (dv_move (T rfl rfl)) ?_
              by_cases hb261 : (((segOfV ax ay bx by_).1) = ((segOfV ax ay bx by_).1) ∧ ((segOfV ax ay bx by_).2.1) = ((segOfV ax ay bx by_).2.1)) ∧ ((segOfV ax ay bx by_).2.2.1) = ((segOfV ax ay bx by_).2.2.1) ∧ ((segOfV ax ay bx by_).2.2.2) = ((segOfV ax ay bx by_).2.2.2)
              · -- aabaabT
                refine lw_vy (.bool (decide (segOfOk ax ay bx by_))) (d := 29) rfl rfl (congrArg Value.bool (decide_eq_false (not_not_intro hb261))) (dv_move (T rfl rfl)) ?_
                refine lw_vy (.bool (decide (segOfOk ax ay bx by_))) (d := 29) rfl rfl (congrArg Value.bool (decide_eq_false (not_not_intro hb261))) (dv_move (T rfl rfl)) ?_
                refine lw_vy (.bool ((decide (segOfOk ax ay bx by_)) != (decide (segOfOk ax ay bx by_)))) (d := 29) rfl rfl (congrArg Value.bool (decide_eq_false (not_not_intro hb261))) (dv_neqb (a := decide (segOfOk ax ay bx by_)) (b := decide (segOfOk ax ay bx by_)) ub4 (T rfl rfl) (T rfl rfl)) ?_
                refine lw_v (.bool ((decide (segOfOk ax ay bx by_)) != (decide (segOfOk ax ay bx by_)))) (dv_pick_f (T rfl (congrArg Value.bool (decide_eq_false (not_not_intro hb261)))) (T rfl rfl)) ?_
                refine lw_nil ?_
                rcases Bool.eq_false_or_eq_true ((decide (segOfOk ax ay bx by_)) != (decide (segOfOk ax ay bx by_))) with hb262 | hb262
                · -- aabaabTT
                  refine rk_ct (T rfl (congrArg Value.bool hb262)) ?_
                  refine rk_seq ?_
                  refine rk_reg ?_
                  refine lw_v (.bool false) (dv_assign C) ?_
                  refine lw_nil ?_
                  refine rk_ret Try.func6 (v := .bool false) (res1 Try.results6 (rv_tmp rfl rfl)) ⟨_, rfl, ?_⟩
                  exact ⟨(congrArg Value.bool (by grind)), E260⟩
                · -- aabaabTF
                  refine rk_cf (T rfl (congrArg Value.bool hb262)) ?_
                  refine rk_skip ?_
                  refine rk_seq ?_
                  refine rk_reg ?_
                  refine lw_v (.bool true) (dv_assign C) ?_
                  refine lw_nil ?_
                  refine rk_ret Try.func6 (v := .bool true) (res1 Try.results6 (rv_tmp rfl rfl)) ⟨_, rfl, ?_⟩
                  exact ⟨rfl, E260⟩
              · -- aabaabF
                refine lw_no (d := 29) rfl rfl (congrArg Value.bool (decide_eq_true hb261)) ?_
                refine lw_no (d := 29) rfl rfl (congrArg Value.bool (decide_eq_true hb261)) ?_
                refine lw_no (d := 29) rfl rfl (congrArg Value.bool (decide_eq_true hb261)) ?_
                refine lw_v (.bool true) (dv_pick_t (T rfl (congrArg Value.bool (decide_eq_true hb261))) C) ?_
                refine lw_nil ?_
                refine rk_ct (T rfl rfl) ?_
                refine rk_seq ?_
                refine rk_reg ?_
                refine lw_v (.bool false) (dv_assign C) ?_
                refine lw_nil ?_
                refine rk_ret Try.func6 (v := .bool false) (res1 Try.results6 (rv_tmp rfl rfl)) ⟨_, rfl, ?_⟩
                exact ⟨(congrArg Value.bool (by grind)), E260⟩
          · -- aabab
            refine id (oe_alloc ze33 ?_)
            intro b263 w264 n265
            have N266 : w.heap.size ≤ b263 := n265.eq ▸ E204.size
            have H267 := (e203.blk (d198.ext.blk H193))
            have : b178 < b263 := n265.eq ▸ lt_of_blk H267
            have E268 := below_ext E204 E204.size n265.ext
            have H269 := (n265.ext.blk H205)
            have H270 := (n265.ext.blk H206)
            refine ⟨.inr ⟨H269, H270⟩, ?_⟩
            refine aw_one 3 rfl (by kernel_rfl) .none (oe_callf (vs := [.agg #[.int .i64 bx, .int .i64 by_]]) co10 (ar1 (T rfl rfl)) (toSpot_ok ) ?_)
            rintro _ w271 ⟨rfl, e272⟩
            have E273 := below_ext E268 E268.size e272
            have H274 := (e272.blk H269)
            have H275 := (e272.blk H270)
            refine ⟨.inr ⟨H274, H275⟩, ?_⟩
            refine aw_one 4 rfl (by kernel_rfl) .none (oe_callf (vs := [.agg #[.int .i64 ax, .int .i64 ay], .agg #[.int .i64 bx, .int .i64 by_]]) co16 (ar2 (T rfl rfl) (T rfl rfl)) (iSegOf_ok ) ?_)
            rintro _ w276 ⟨rfl, e277⟩
            have E278 := below_ext E273 E273.size e277
            have H279 := (e277.blk H274)
            have H280 := (e277.blk H275)
            refine ⟨.inr ⟨H279, H280⟩, ?_⟩
            refine aw_pure 5 (.tuple #[.agg #[.int .i64 ((segOfV ax ay bx by_).1), .int .i64 ((segOfV ax ay bx by_).2.1), .int .i64 ((segOfV ax ay bx by_).2.2.1), .int .i64 ((segOfV ax ay bx by_).2.2.2)], .bool (decide (segOfOk ax ay bx by_))]) rfl (by kernel_rfl) .none ⟨H279, H280⟩ (fun _ => dv_move (T rfl rfl)) ?_
            refine aw_pure 6 (.agg #[.int .i64 ((segOfV ax ay bx by_).1), .int .i64 ((segOfV ax ay bx by_).2.1), .int .i64 ((segOfV ax ay bx by_).2.2.1), .int .i64 ((segOfV ax ay bx by_).2.2.2)]) rfl (by kernel_rfl) .none ⟨H279, H280⟩ (fun _ => dv_extract (vs := #[.agg #[.int .i64 ((segOfV ax ay bx by_).1), .int .i64 ((segOfV ax ay bx by_).2.1), .int .i64 ((segOfV ax ay bx by_).2.2.1), .int .i64 ((segOfV ax ay bx by_).2.2.2)], .bool (decide (segOfOk ax ay bx by_))]) (T rfl rfl) rfl) ?_
            refine aw_pure 7 (.bool (decide (segOfOk ax ay bx by_))) rfl (by kernel_rfl) .none ⟨H279, H280⟩ (fun _ => dv_extract (vs := #[.agg #[.int .i64 ((segOfV ax ay bx by_).1), .int .i64 ((segOfV ax ay bx by_).2.1), .int .i64 ((segOfV ax ay bx by_).2.2.1), .int .i64 ((segOfV ax ay bx by_).2.2.2)], .bool (decide (segOfOk ax ay bx by_))]) (T rfl rfl) rfl) ?_
            have H281 := (e277.blk (e272.blk n265.blk))
            refine aw_one 9 rfl (by kernel_rfl) .none (oe_store (v := .agg #[.int .i64 ((segOfV ax ay bx by_).1), .int .i64 ((segOfV ax ay bx by_).2.1), .int .i64 ((segOfV ax ay bx by_).2.2.1), .int .i64 ((segOfV ax ay bx by_).2.2.2)]) (vs := [.int .i64 ((segOfV ax ay bx by_).1), .int .i64 ((segOfV ax ay bx by_).2.1), .int .i64 ((segOfV ax ay bx by_).2.2.1), .int .i64 ((segOfV ax ay bx by_).2.2.2)]) (l := [.int .i64 ((segOfV ax ay bx by_).1), .int .i64 ((segOfV ax ay bx by_).2.1), .int .i64 ((segOfV ax ay bx by_).2.2.1), .int .i64 ((segOfV ax ay bx by_).2.2.2)]) (T rfl rfl) (T rfl rfl) sz33 rfl rfl rfl H281 rfl ?_)
            intro w282 s283 H284
            have E285 := below_st E278 N266 s283
            have H286 := (s283.blk H279 (by omega))
            have H287 := (s283.blk H280 (by omega))
            refine ⟨.inr ⟨H286, H287⟩, ?_⟩
            refine aw_last 10 (.bool (decide (segOfOk ax ay bx by_))) rfl (by kernel_rfl) .none (fun _ => dv_assign (T rfl rfl)) ?_
            refine aw_done (by kernel_rfl) ?_
            refine rk_seq ?_
            refine rk_seq ?_
            refine rk_reg ?_
            refine lw_v (.agg #[.int .i64 ((segOfV ax ay bx by_).1), .int .i64 ((segOfV ax ay bx by_).2.1), .int .i64 ((segOfV ax ay bx by_).2.2.1), .int .i64 ((segOfV ax ay bx by_).2.2.2)]) (dv_loads (l := [.int .i64 ((segOfV ax ay bx by_).1), .int .i64 ((segOfV ax ay bx by_).2.1), .int .i64 ((segOfV ax ay bx by_).2.2.1), .int .i64 ((segOfV ax ay bx by_).2.2.2)]) ag33 sz33 (T rfl rfl) H284 rfl) ?_
            have H288 := (s283.blk (e277.blk (e272.blk (n265.ext.blk H267))) (by omega))
            refine lw_v (.agg #[.int .i64 ((segOfV ax ay bx by_).1), .int .i64 ((segOfV ax ay bx by_).2.1), .int .i64 ((segOfV ax ay bx by_).2.2.1), .int .i64 ((segOfV ax ay bx by_).2.2.2)]) (dv_loads (l := [.int .i64 ((segOfV ax ay bx by_).1), .int .i64 ((segOfV ax ay bx by_).2.1), .int .i64 ((segOfV ax ay bx by_).2.2.1), .int .i64 ((segOfV ax ay bx by_).2.2.2)]) ag33 sz33 (T rfl rfl) H288 rfl) ?_
            refine lw_e (oe_callf (vs := [.agg #[.int .i64 ((segOfV ax ay bx by_).1), .int .i64 ((segOfV ax ay bx by_).2.1), .int .i64 ((segOfV ax ay bx by_).2.2.1), .int .i64 ((segOfV ax ay bx by_).2.2.2)], .agg #[.int .i64 ((segOfV ax ay bx by_).1), .int .i64 ((segOfV ax ay bx by_).2.1), .int .i64 ((segOfV ax ay bx by_).2.2.1), .int .i64 ((segOfV ax ay bx by_).2.2.2)]]) co17 (ar2 (T rfl rfl) (T rfl rfl)) (eqSeg_ok ) ?_)
            rintro _ w289 ⟨rfl, e290⟩
            have E291 := below_ext E285 E285.size e290
            refine lw_v (.bool (decide (¬ ((((segOfV ax ay bx by_).1) = ((segOfV ax ay bx by_).1) ∧ ((segOfV ax ay bx by_).2.1) = ((segOfV ax ay bx by_).2.1)) ∧ ((segOfV ax ay bx by_).2.2.1) = ((segOfV ax ay bx by_).2.2.1) ∧ ((segOfV ax ay bx by_).2.2.2) = ((segOfV ax ay bx by_).2.2.2))))) (dv_notd (p := (((segOfV ax ay bx by_).1) = ((segOfV ax ay bx by_).1) ∧ ((segOfV ax ay bx by_).2.1) = ((segOfV ax ay bx by_).2.1)) ∧ ((segOfV ax ay bx by_).2.2.1) = ((segOfV ax ay bx by_).2.2.1) ∧ ((segOfV ax ay bx by_).2.2.2) = ((segOfV ax ay bx by_).2.2.2)) (T rfl rfl)) ?_
            refine lw_v (.bool (decide (¬ ((((segOfV ax ay bx by_).1) = ((segOfV ax ay bx by_).1) ∧ ((segOfV ax ay bx by_).2.1) = ((segOfV ax ay bx by_).2.1)) ∧ ((segOfV ax ay bx by_).2.2.1) = ((segOfV ax ay bx by_).2.2.1) ∧ ((segOfV ax ay bx by_).2.2.2) = ((segOfV ax ay bx by_).2.2.2))))) (dv_move (T rfl rfl)) ?_
            by_cases hb292 : (((segOfV ax ay bx by_).1) = ((segOfV ax ay bx by_).1) ∧ ((segOfV ax ay bx by_).2.1) = ((segOfV ax ay bx by_).2.1)) ∧ ((segOfV ax ay bx by_).2.2.1) = ((segOfV ax ay bx by_).2.2.1) ∧ ((segOfV ax ay bx by_).2.2.2) = ((segOfV ax ay bx by_).2.2.2)
            · -- aababT
              refine lw_vy (.bool (decide (segOfOk ax ay bx by_))) (d := 29) rfl rfl (congrArg Value.bool (decide_eq_false (not_not_intro hb292))) (dv_move (T rfl rfl)) ?_
              refine lw_vy (.bool (decide (segOfOk ax ay bx by_))) (d := 29) rfl rfl (congrArg Value.bool (decide_eq_false (not_not_intro hb292))) (dv_move (T rfl rfl)) ?_
              refine lw_vy (.bool ((decide (segOfOk ax ay bx by_)) != (decide (segOfOk ax ay bx by_)))) (d := 29) rfl rfl (congrArg Value.bool (decide_eq_false (not_not_intro hb292))) (dv_neqb (a := decide (segOfOk ax ay bx by_)) (b := decide (segOfOk ax ay bx by_)) ub4 (T rfl rfl) (T rfl rfl)) ?_
              refine lw_v (.bool ((decide (segOfOk ax ay bx by_)) != (decide (segOfOk ax ay bx by_)))) (dv_pick_f (T rfl (congrArg Value.bool (decide_eq_false (not_not_intro hb292)))) (T rfl rfl)) ?_
              refine lw_nil ?_
              rcases Bool.eq_false_or_eq_true ((decide (segOfOk ax ay bx by_)) != (decide (segOfOk ax ay bx by_))) with hb293 | hb293
              · -- aababTT
                refine rk_ct (T rfl (congrArg Value.bool hb293)) ?_
                refine rk_seq ?_
                refine rk_reg ?_
                refine lw_v (.bool false) (dv_assign C) ?_
                refine lw_nil ?_
                refine rk_ret Try.func6 (v := .bool false) (res1 Try.results6 (rv_tmp rfl rfl)) ⟨_, rfl, ?_⟩
                exact ⟨(congrArg Value.bool (by grind)), E291⟩
              · -- aababTF
                refine rk_cf (T rfl (congrArg Value.bool hb293)) ?_
                refine rk_skip ?_
                refine rk_seq ?_
                refine rk_reg ?_
                refine lw_v (.bool true) (dv_assign C) ?_
                refine lw_nil ?_
                refine rk_ret Try.func6 (v := .bool true) (res1 Try.results6 (rv_tmp rfl rfl)) ⟨_, rfl, ?_⟩
                exact ⟨rfl, E291⟩
            · -- aababF
              refine lw_no (d := 29) rfl rfl (congrArg Value.bool (decide_eq_true hb292)) ?_
              refine lw_no (d := 29) rfl rfl (congrArg Value.bool (decide_eq_true hb292)) ?_
              refine lw_no (d := 29) rfl rfl (congrArg Value.bool (decide_eq_true hb292)) ?_
              refine lw_v (.bool true) (dv_pick_t (T rfl (congrArg Value.bool (decide_eq_true hb292))) C) ?_
              refine lw_nil ?_
              refine rk_ct (T rfl rfl) ?_
              refine rk_seq ?_
              refine rk_reg ?_
              refine lw_v (.bool false) (dv_assign C) ?_
              refine lw_nil ?_
              refine rk_ret Try.func6 (v := .bool false) (res1 Try.results6 (rv_tmp rfl rfl)) ⟨_, rfl, ?_⟩
              exact ⟨(congrArg Value.bool (by grind)), E291⟩
        · -- aabb
          refine id (oe_alloc ze33 ?_)
          intro b294 w295 n296
          have N297 : w.heap.size ≤ b294 := n296.eq ▸ E199.size
          have H298 := (d198.ext.blk H193)
          have : b178 < b294 := n296.eq ▸ lt_of_blk H298
          have E299 := below_ext E199 E199.size n296.ext
          have H300 := (n296.ext.blk H200)
          have H301 := (n296.ext.blk H201)
          refine ⟨.inr ⟨H300, H301⟩, ?_⟩
          refine aw_one 1 rfl (by kernel_rfl) .none (oe_callf (vs := [.agg #[.int .i64 ax, .int .i64 ay]]) co10 (ar1 (T rfl rfl)) (toSpot_ok ) ?_)
          rintro _ w302 ⟨rfl, e303⟩
          have E304 := below_ext E299 E299.size e303
          have H305 := (e303.blk H300)
          have H306 := (e303.blk H301)
          refine ⟨.inr ⟨H305, H306⟩, ?_⟩
          refine aw_one 3 rfl (by kernel_rfl) .none (oe_callf (vs := [.agg #[.int .i64 bx, .int .i64 by_]]) co10 (ar1 (T rfl rfl)) (toSpot_ok ) ?_)
          rintro _ w307 ⟨rfl, e308⟩
          have E309 := below_ext E304 E304.size e308
          have H310 := (e308.blk H305)
          have H311 := (e308.blk H306)
          refine ⟨.inr ⟨H310, H311⟩, ?_⟩
          refine aw_one 4 rfl (by kernel_rfl) .none (oe_callf (vs := [.agg #[.int .i64 ax, .int .i64 ay], .agg #[.int .i64 bx, .int .i64 by_]]) co16 (ar2 (T rfl rfl) (T rfl rfl)) (iSegOf_ok ) ?_)
          rintro _ w312 ⟨rfl, e313⟩
          have E314 := below_ext E309 E309.size e313
          have H315 := (e313.blk H310)
          have H316 := (e313.blk H311)
          refine ⟨.inr ⟨H315, H316⟩, ?_⟩
          refine aw_pure 5 (.tuple #[.agg #[.int .i64 ((segOfV ax ay bx by_).1), .int .i64 ((segOfV ax ay bx by_).2.1), .int .i64 ((segOfV ax ay bx by_).2.2.1), .int .i64 ((segOfV ax ay bx by_).2.2.2)], .bool (decide (segOfOk ax ay bx by_))]) rfl (by kernel_rfl) .none ⟨H315, H316⟩ (fun _ => dv_move (T rfl rfl)) ?_
          refine aw_pure 6 (.agg #[.int .i64 ((segOfV ax ay bx by_).1), .int .i64 ((segOfV ax ay bx by_).2.1), .int .i64 ((segOfV ax ay bx by_).2.2.1), .int .i64 ((segOfV ax ay bx by_).2.2.2)]) rfl (by kernel_rfl) .none ⟨H315, H316⟩ (fun _ => dv_extract (vs := #[.agg #[.int .i64 ((segOfV ax ay bx by_).1), .int .i64 ((segOfV ax ay bx by_).2.1), .int .i64 ((segOfV ax ay bx by_).2.2.1), .int .i64 ((segOfV ax ay bx by_).2.2.2)], .bool (decide (segOfOk ax ay bx by_))]) (T rfl rfl) rfl) ?_
          refine aw_pure 7 (.bool (decide (segOfOk ax ay bx by_))) rfl (by kernel_rfl) .none ⟨H315, H316⟩ (fun _ => dv_extract (vs := #[.agg #[.int .i64 ((segOfV ax ay bx by_).1), .int .i64 ((segOfV ax ay bx by_).2.1), .int .i64 ((segOfV ax ay bx by_).2.2.1), .int .i64 ((segOfV ax ay bx by_).2.2.2)], .bool (decide (segOfOk ax ay bx by_))]) (T rfl rfl) rfl) ?_
          have H317 := (e313.blk (e308.blk (e303.blk n296.blk)))
          refine aw_one 9 rfl (by kernel_rfl) .none (oe_store (v := .agg #[.int .i64 ((segOfV ax ay bx by_).1), .int .i64 ((segOfV ax ay bx by_).2.1), .int .i64 ((segOfV ax ay bx by_).2.2.1), .int .i64 ((segOfV ax ay bx by_).2.2.2)]) (vs := [.int .i64 ((segOfV ax ay bx by_).1), .int .i64 ((segOfV ax ay bx by_).2.1), .int .i64 ((segOfV ax ay bx by_).2.2.1), .int .i64 ((segOfV ax ay bx by_).2.2.2)]) (l := [.int .i64 ((segOfV ax ay bx by_).1), .int .i64 ((segOfV ax ay bx by_).2.1), .int .i64 ((segOfV ax ay bx by_).2.2.1), .int .i64 ((segOfV ax ay bx by_).2.2.2)]) (T rfl rfl) (T rfl rfl) sz33 rfl rfl rfl H317 rfl ?_)
          intro w318 s319 H320
          have E321 := below_st E314 N297 s319
          have H322 := (s319.blk H315 (by omega))
          have H323 := (s319.blk H316 (by omega))
          refine ⟨.inr ⟨H322, H323⟩, ?_⟩
          refine aw_last 10 (.bool (decide (segOfOk ax ay bx by_))) rfl (by kernel_rfl) .none (fun _ => dv_assign (T rfl rfl)) ?_
          refine aw_done (by kernel_rfl) ?_
          refine rk_seq ?_
          refine rk_seq ?_
          refine rk_reg ?_
          refine lw_v (.agg #[.int .i64 ((segOfV ax ay bx by_).1), .int .i64 ((segOfV ax ay bx by_).2.1), .int .i64 ((segOfV ax ay bx by_).2.2.1), .int .i64 ((segOfV ax ay bx by_).2.2.2)]) (dv_loads (l := [.int .i64 ((segOfV ax ay bx by_).1), .int .i64 ((segOfV ax ay bx by_).2.1), .int .i64 ((segOfV ax ay bx by_).2.2.1), .int .i64 ((segOfV ax ay bx by_).2.2.2)]) ag33 sz33 (T rfl rfl) H320 rfl) ?_
          have H324 := (s319.blk (e313.blk (e308.blk (e303.blk (n296.ext.blk H298)))) (by omega))
          refine lw_v (.agg #[.int .i64 ((segOfV ax ay bx by_).1), .int .i64 ((segOfV ax ay bx by_).2.1), .int .i64 ((segOfV ax ay bx by_).2.2.1), .int .i64 ((segOfV ax ay bx by_).2.2.2)]) (dv_loads (l := [.int .i64 ((segOfV ax ay bx by_).1), .int .i64 ((segOfV ax ay bx by_).2.1), .int .i64 ((segOfV ax ay bx by_).2.2.1), .int .i64 ((segOfV ax ay bx by_).2.2.2)]) ag33 sz33 (T rfl rfl) H324 rfl) ?_
          refine lw_e (oe_callf (vs := [.agg #[.int .i64 ((segOfV ax ay bx by_).1), .int .i64 ((segOfV ax ay bx by_).2.1), .int .i64 ((segOfV ax ay bx by_).2.2.1), .int .i64 ((segOfV ax ay bx by_).2.2.2)], .agg #[.int .i64 ((segOfV ax ay bx by_).1), .int .i64 ((segOfV ax ay bx by_).2.1), .int .i64 ((segOfV ax ay bx by_).2.2.1), .int .i64 ((segOfV ax ay bx by_).2.2.2)]]) co17 (ar2 (T rfl rfl) (T rfl rfl)) (eqSeg_ok ) ?_)
          rintro _ w325 ⟨rfl, e326⟩
          have E327 := below_ext E321 E321.size e326
          refine lw_v (.bool (decide (¬ ((((segOfV ax ay bx by_).1) = ((segOfV ax ay bx by_).1) ∧ ((segOfV ax ay bx by_).2.1) = ((segOfV ax ay bx by_).2.1)) ∧ ((segOfV ax ay bx by_).2.2.1) = ((segOfV ax ay bx by_).2.2.1) ∧ ((segOfV ax ay bx by_).2.2.2) = ((segOfV ax ay bx by_).2.2.2))))) (dv_notd (p := (((segOfV ax ay bx by_).1) = ((segOfV ax ay bx by_).1) ∧ ((segOfV ax ay bx by_).2.1) = ((segOfV ax ay bx by_).2.1)) ∧ ((segOfV ax ay bx by_).2.2.1) = ((segOfV ax ay bx by_).2.2.1) ∧ ((segOfV ax ay bx by_).2.2.2) = ((segOfV ax ay bx by_).2.2.2)) (T rfl rfl)) ?_
          refine lw_v (.bool (decide (¬ ((((segOfV ax ay bx by_).1) = ((segOfV ax ay bx by_).1) ∧ ((segOfV ax ay bx by_).2.1) = ((segOfV ax ay bx by_).2.1)) ∧ ((segOfV ax ay bx by_).2.2.1) = ((segOfV ax ay bx by_).2.2.1) ∧ ((segOfV ax ay bx by_).2.2.2) = ((segOfV ax ay bx by_).2.2.2))))) (dv_move (T rfl rfl)) ?_
          by_cases hb328 : (((segOfV ax ay bx by_).1) = ((segOfV ax ay bx by_).1) ∧ ((segOfV ax ay bx by_).2.1) = ((segOfV ax ay bx by_).2.1)) ∧ ((segOfV ax ay bx by_).2.2.1) = ((segOfV ax ay bx by_).2.2.1) ∧ ((segOfV ax ay bx by_).2.2.2) = ((segOfV ax ay bx by_).2.2.2)
          · -- aabbT
            refine lw_vy (.bool (decide (segOfOk ax ay bx by_))) (d := 29) rfl rfl (congrArg Value.bool (decide_eq_false (not_not_intro hb328))) (dv_move (T rfl rfl)) ?_
            refine lw_vy (.bool (decide (segOfOk ax ay bx by_))) (d := 29) rfl rfl (congrArg Value.bool (decide_eq_false (not_not_intro hb328))) (dv_move (T rfl rfl)) ?_
            refine lw_vy (.bool ((decide (segOfOk ax ay bx by_)) != (decide (segOfOk ax ay bx by_)))) (d := 29) rfl rfl (congrArg Value.bool (decide_eq_false (not_not_intro hb328))) (dv_neqb (a := decide (segOfOk ax ay bx by_)) (b := decide (segOfOk ax ay bx by_)) ub4 (T rfl rfl) (T rfl rfl)) ?_
            refine lw_v (.bool ((decide (segOfOk ax ay bx by_)) != (decide (segOfOk ax ay bx by_)))) (dv_pick_f (T rfl (congrArg Value.bool (decide_eq_false (not_not_intro hb328)))) (T rfl rfl)) ?_
            refine lw_nil ?_
            rcases Bool.eq_false_or_eq_true ((decide (segOfOk ax ay bx by_)) != (decide (segOfOk ax ay bx by_))) with hb329 | hb329
            · -- aabbTT
              refine rk_ct (T rfl (congrArg Value.bool hb329)) ?_
              refine rk_seq ?_
              refine rk_reg ?_
              refine lw_v (.bool false) (dv_assign C) ?_
              refine lw_nil ?_
              refine rk_ret Try.func6 (v := .bool false) (res1 Try.results6 (rv_tmp rfl rfl)) ⟨_, rfl, ?_⟩
              exact ⟨(congrArg Value.bool (by grind)), E327⟩
            · -- aabbTF
              refine rk_cf (T rfl (congrArg Value.bool hb329)) ?_
              refine rk_skip ?_
              refine rk_seq ?_
              refine rk_reg ?_
              refine lw_v (.bool true) (dv_assign C) ?_
              refine lw_nil ?_
              refine rk_ret Try.func6 (v := .bool true) (res1 Try.results6 (rv_tmp rfl rfl)) ⟨_, rfl, ?_⟩
              exact ⟨rfl, E327⟩
          · -- aabbF
            refine lw_no (d := 29) rfl rfl (congrArg Value.bool (decide_eq_true hb328)) ?_
            refine lw_no (d := 29) rfl rfl (congrArg Value.bool (decide_eq_true hb328)) ?_
            refine lw_no (d := 29) rfl rfl (congrArg Value.bool (decide_eq_true hb328)) ?_
            refine lw_v (.bool true) (dv_pick_t (T rfl (congrArg Value.bool (decide_eq_true hb328))) C) ?_
            refine lw_nil ?_
            refine rk_ct (T rfl rfl) ?_
            refine rk_seq ?_
            refine rk_reg ?_
            refine lw_v (.bool false) (dv_assign C) ?_
            refine lw_nil ?_
            refine rk_ret Try.func6 (v := .bool false) (res1 Try.results6 (rv_tmp rfl rfl)) ⟨_, rfl, ?_⟩
            exact ⟨(congrArg Value.bool (by grind)), E327⟩
    · -- ab
      refine id (oe_alloc ze33 ?_)
      intro b330 w331 n332
      have N333 : w.heap.size ≤ b330 := n332.eq ▸ E19.size
      have : b6 < b330 := n332.eq ▸ lt_of_blk H21
      have E334 := below_ext E19 E19.size n332.ext
      have H335 := (n332.ext.blk H20)
      have H336 := (n332.ext.blk H21)
      refine ⟨.inr ⟨H335, H336⟩, ?_⟩
      refine aw_one 3 rfl (by kernel_rfl) .none (oe_callf (vs := [.agg #[.int .i64 bx, .int .i64 by_]]) co10 (ar1 (T rfl rfl)) (toSpot_ok ) ?_)
      rintro _ w337 ⟨rfl, e338⟩
      have E339 := below_ext E334 E334.size e338
      have H340 := (e338.blk H335)
      have H341 := (e338.blk H336)
      refine ⟨.inr ⟨H340, H341⟩, ?_⟩
      refine aw_one 4 rfl (by kernel_rfl) .none (oe_callf (vs := [.agg #[.int .i64 ax, .int .i64 ay], .agg #[.int .i64 bx, .int .i64 by_]]) co15 (ar2 (T rfl rfl) (T rfl rfl)) (sSegOf_ok ) ?_)
      rintro _ w342 ⟨rfl, e343⟩
      have E344 := below_ext E339 E339.size e343
      have H345 := (e343.blk H340)
      have H346 := (e343.blk H341)
      refine ⟨.inr ⟨H345, H346⟩, ?_⟩
      refine aw_pure 5 (.tuple #[.agg #[.int .i64 ((segOfV ax ay bx by_).1), .int .i64 ((segOfV ax ay bx by_).2.1), .int .i64 ((segOfV ax ay bx by_).2.2.1), .int .i64 ((segOfV ax ay bx by_).2.2.2)], .bool (decide (segOfOk ax ay bx by_))]) rfl (by kernel_rfl) .none ⟨H345, H346⟩ (fun _ => dv_move (T rfl rfl)) ?_
      refine aw_pure 6 (.agg #[.int .i64 ((segOfV ax ay bx by_).1), .int .i64 ((segOfV ax ay bx by_).2.1), .int .i64 ((segOfV ax ay bx by_).2.2.1), .int .i64 ((segOfV ax ay bx by_).2.2.2)]) rfl (by kernel_rfl) .none ⟨H345, H346⟩ (fun _ => dv_extract (vs := #[.agg #[.int .i64 ((segOfV ax ay bx by_).1), .int .i64 ((segOfV ax ay bx by_).2.1), .int .i64 ((segOfV ax ay bx by_).2.2.1), .int .i64 ((segOfV ax ay bx by_).2.2.2)], .bool (decide (segOfOk ax ay bx by_))]) (T rfl rfl) rfl) ?_
      refine aw_pure 7 (.bool (decide (segOfOk ax ay bx by_))) rfl (by kernel_rfl) .none ⟨H345, H346⟩ (fun _ => dv_extract (vs := #[.agg #[.int .i64 ((segOfV ax ay bx by_).1), .int .i64 ((segOfV ax ay bx by_).2.1), .int .i64 ((segOfV ax ay bx by_).2.2.1), .int .i64 ((segOfV ax ay bx by_).2.2.2)], .bool (decide (segOfOk ax ay bx by_))]) (T rfl rfl) rfl) ?_
      have H347 := (e343.blk (e338.blk n332.blk))
      refine aw_one 9 rfl (by kernel_rfl) .none (oe_store (v := .agg #[.int .i64 ((segOfV ax ay bx by_).1), .int .i64 ((segOfV ax ay bx by_).2.1), .int .i64 ((segOfV ax ay bx by_).2.2.1), .int .i64 ((segOfV ax ay bx by_).2.2.2)]) (vs := [.int .i64 ((segOfV ax ay bx by_).1), .int .i64 ((segOfV ax ay bx by_).2.1), .int .i64 ((segOfV ax ay bx by_).2.2.1), .int .i64 ((segOfV ax ay bx by_).2.2.2)]) (l := [.int .i64 ((segOfV ax ay bx by_).1), .int .i64 ((segOfV ax ay bx by_).2.1), .int .i64 ((segOfV ax ay bx by_).2.2.1), .int .i64 ((segOfV ax ay bx by_).2.2.2)]) (T rfl rfl) (T rfl rfl) sz33 rfl rfl rfl H347 rfl ?_)
      intro w348 s349 H350
      have E351 := below_st E344 N333 s349
      have H352 := (s349.blk H345 (by omega))
      have H353 := (s349.blk H346 (by omega))
      refine ⟨.inr ⟨H352, H353⟩, ?_⟩
      refine aw_last 10 (.bool (decide (segOfOk ax ay bx by_))) rfl (by kernel_rfl) .none (fun _ => dv_assign (T rfl rfl)) ?_
      refine aw_done (by kernel_rfl) ?_
      refine rk_seq ?_
      refine rk_any (fun w => w.heap[b1]? = some (.cells #[.int .i64 ax, .int .i64 ay] 24) ∧ w.heap[b6]? = some (.cells #[.int .i64 bx, .int .i64 by_] 24)) [10] mo ?_
      intro w354 d355
      have E356 := below_ext E351 E351.size d355.ext
      have H357 := (d355.ext.blk H352)
      have H358 := (d355.ext.blk H353)
      refine aw_load 0 (.agg #[.int .i64 ax, .int .i64 ay]) rfl (by kernel_rfl) .none ⟨H357, H358⟩ (fun _ s => dv_loads (l := [.int .i64 ax, .int .i64 ay]) ag24 sz24 (T rfl rfl) s.1 rfl) ?_
      refine aw_load 2 (.agg #[.int .i64 bx, .int .i64 by_]) rfl (by kernel_rfl) .none ⟨H357, H358⟩ (fun _ s => dv_loads (l := [.int .i64 bx, .int .i64 by_]) ag24 sz24 (T rfl rfl) s.2 rfl) ?_
      refine aw_two 1 8 rfl rfl (by kernel_rfl) .none .none ?_ ?_
      · -- aba
        refine id (oe_callf (vs := [.agg #[.int .i64 ax, .int .i64 ay]]) co10 (ar1 (T rfl rfl)) (toSpot_ok ) ?_)
        rintro _ w359 ⟨rfl, e360⟩
        have E361 := below_ext E356 E356.size e360
        have H362 := (e360.blk H357)
        have H363 := (e360.blk H358)
        refine ⟨.inr ⟨H362, H363⟩, ?_⟩
        refine aw_two 3 8 rfl rfl (by kernel_rfl) .none .none ?_ ?_
        · -- abaa
          refine id (oe_callf (vs := [.agg #[.int .i64 bx, .int .i64 by_]]) co10 (ar1 (T rfl rfl)) (toSpot_ok ) ?_)
          rintro _ w364 ⟨rfl, e365⟩
          have E366 := below_ext E361 E361.size e365
          have H367 := (e365.blk H362)
          have H368 := (e365.blk H363)
          refine ⟨.inr ⟨H367, H368⟩, ?_⟩
          refine aw_two 4 8 rfl rfl (by kernel_rfl) .none .none ?_ ?_
          · -- abaaa
            refine id (oe_callf (vs := [.agg #[.int .i64 ax, .int .i64 ay], .agg #[.int .i64 bx, .int .i64 by_]]) co16 (ar2 (T rfl rfl) (T rfl rfl)) (iSegOf_ok ) ?_)
            rintro _ w369 ⟨rfl, e370⟩
            have E371 := below_ext E366 E366.size e370
            have H372 := (e370.blk H367)
            have H373 := (e370.blk H368)
            refine ⟨.inr ⟨H372, H373⟩, ?_⟩
            refine aw_pure 5 (.tuple #[.agg #[.int .i64 ((segOfV ax ay bx by_).1), .int .i64 ((segOfV ax ay bx by_).2.1), .int .i64 ((segOfV ax ay bx by_).2.2.1), .int .i64 ((segOfV ax ay bx by_).2.2.2)], .bool (decide (segOfOk ax ay bx by_))]) rfl (by kernel_rfl) .none ⟨H372, H373⟩ (fun _ => dv_move (T rfl rfl)) ?_
            refine aw_pure 6 (.agg #[.int .i64 ((segOfV ax ay bx by_).1), .int .i64 ((segOfV ax ay bx by_).2.1), .int .i64 ((segOfV ax ay bx by_).2.2.1), .int .i64 ((segOfV ax ay bx by_).2.2.2)]) rfl (by kernel_rfl) .none ⟨H372, H373⟩ (fun _ => dv_extract (vs := #[.agg #[.int .i64 ((segOfV ax ay bx by_).1), .int .i64 ((segOfV ax ay bx by_).2.1), .int .i64 ((segOfV ax ay bx by_).2.2.1), .int .i64 ((segOfV ax ay bx by_).2.2.2)], .bool (decide (segOfOk ax ay bx by_))]) (T rfl rfl) rfl) ?_
            refine aw_pure 7 (.bool (decide (segOfOk ax ay bx by_))) rfl (by kernel_rfl) .none ⟨H372, H373⟩ (fun _ => dv_extract (vs := #[.agg #[.int .i64 ((segOfV ax ay bx by_).1), .int .i64 ((segOfV ax ay bx by_).2.1), .int .i64 ((segOfV ax ay bx by_).2.2.1), .int .i64 ((segOfV ax ay bx by_).2.2.2)], .bool (decide (segOfOk ax ay bx by_))]) (T rfl rfl) rfl) ?_
            refine aw_one 8 rfl (by kernel_rfl) .none (oe_alloc ze33 ?_)
            intro b374 w375 n376
            have N377 : w.heap.size ≤ b374 := n376.eq ▸ E371.size
            have H378 := (e370.blk (e365.blk (e360.blk (d355.ext.blk H350))))
            have : b330 < b374 := n376.eq ▸ lt_of_blk H378
            have E379 := below_ext E371 E371.size n376.ext
            have H380 := (n376.ext.blk H372)
            have H381 := (n376.ext.blk H373)
            refine ⟨.inr ⟨H380, H381⟩, ?_⟩
            refine aw_one 9 rfl (by kernel_rfl) .none (oe_store (v := .agg #[.int .i64 ((segOfV ax ay bx by_).1), .int .i64 ((segOfV ax ay bx by_).2.1), .int .i64 ((segOfV ax ay bx by_).2.2.1), .int .i64 ((segOfV ax ay bx by_).2.2.2)]) (vs := [.int .i64 ((segOfV ax ay bx by_).1), .int .i64 ((segOfV ax ay bx by_).2.1), .int .i64 ((segOfV ax ay bx by_).2.2.1), .int .i64 ((segOfV ax ay bx by_).2.2.2)]) (l := [.int .i64 ((segOfV ax ay bx by_).1), .int .i64 ((segOfV ax ay bx by_).2.1), .int .i64 ((segOfV ax ay bx by_).2.2.1), .int .i64 ((segOfV ax ay bx by_).2.2.2)]) (T rfl rfl) (T rfl rfl) sz33 rfl rfl rfl n376.blk rfl ?_)
            intro w382 s383 H384
            have E385 := below_st E379 N377 s383
            have H386 := (s383.blk H380 (by omega))
            have H387 := (s383.blk H381 (by omega))
            refine ⟨.inr ⟨H386, H387⟩, ?_⟩
            refine aw_last 10 (.bool (decide (segOfOk ax ay bx by_))) rfl (by kernel_rfl) .none (fun _ => dv_assign (T rfl rfl)) ?_
            refine aw_done (by kernel_rfl) ?_
            refine rk_seq ?_
            refine rk_seq ?_
            refine rk_reg ?_
            refine lw_v (.agg #[.int .i64 ((segOfV ax ay bx by_).1), .int .i64 ((segOfV ax ay bx by_).2.1), .int .i64 ((segOfV ax ay bx by_).2.2.1), .int .i64 ((segOfV ax ay bx by_).2.2.2)]) (dv_loads (l := [.int .i64 ((segOfV ax ay bx by_).1), .int .i64 ((segOfV ax ay bx by_).2.1), .int .i64 ((segOfV ax ay bx by_).2.2.1), .int .i64 ((segOfV ax ay bx by_).2.2.2)]) ag33 sz33 (T rfl rfl) H384 rfl) ?_
            have H388 := (s383.blk (n376.ext.blk H378) (by omega))
            refine lw_v (.agg #[.int .i64 ((segOfV ax ay bx by_).1), .int .i64 ((segOfV ax ay bx by_).2.1), .int .i64 ((segOfV ax ay bx by_).2.2.1), .int .i64 ((segOfV ax ay bx by_).2.2.2)]) (dv_loads (l := [.int .i64 ((segOfV ax ay bx by_).1), .int .i64 ((segOfV ax ay bx by_).2.1), .int .i64 ((segOfV ax ay bx by_).2.2.1), .int .i64 ((segOfV ax ay bx by_).2.2.2)]) ag33 sz33 (T rfl rfl) H388 rfl) ?_
            refine lw_e (oe_callf (vs := [.agg #[.int .i64 ((segOfV ax ay bx by_).1), .int .i64 ((segOfV ax ay bx by_).2.1), .int .i64 ((segOfV ax ay bx by_).2.2.1), .int .i64 ((segOfV ax ay bx by_).2.2.2)], .agg #[.int .i64 ((segOfV ax ay bx by_).1), .int .i64 ((segOfV ax ay bx by_).2.1), .int .i64 ((segOfV ax ay bx by_).2.2.1), .int .i64 ((segOfV ax ay bx by_).2.2.2)]]) co17 (ar2 (T rfl rfl) (T rfl rfl)) (eqSeg_ok ) ?_)
            rintro _ w389 ⟨rfl, e390⟩
            have E391 := below_ext E385 E385.size e390
            refine lw_v (.bool (decide (¬ ((((segOfV ax ay bx by_).1) = ((segOfV ax ay bx by_).1) ∧ ((segOfV ax ay bx by_).2.1) = ((segOfV ax ay bx by_).2.1)) ∧ ((segOfV ax ay bx by_).2.2.1) = ((segOfV ax ay bx by_).2.2.1) ∧ ((segOfV ax ay bx by_).2.2.2) = ((segOfV ax ay bx by_).2.2.2))))) (dv_notd (p := (((segOfV ax ay bx by_).1) = ((segOfV ax ay bx by_).1) ∧ ((segOfV ax ay bx by_).2.1) = ((segOfV ax ay bx by_).2.1)) ∧ ((segOfV ax ay bx by_).2.2.1) = ((segOfV ax ay bx by_).2.2.1) ∧ ((segOfV ax ay bx by_).2.2.2) = ((segOfV ax ay bx by_).2.2.2)) (T rfl rfl)) ?_
            refine lw_v (.bool (decide (¬ ((((segOfV ax ay bx by_).1) = ((segOfV ax ay bx by_).1) ∧ ((segOfV ax ay bx by_).2.1) = ((segOfV ax ay bx by_).2.1)) ∧ ((segOfV ax ay bx by_).2.2.1) = ((segOfV ax ay bx by_).2.2.1) ∧ ((segOfV ax ay bx by_).2.2.2) = ((segOfV ax ay bx by_).2.2.2))))) (dv_move (T rfl rfl)) ?_
            by_cases hb392 : (((segOfV ax ay bx by_).1) = ((segOfV ax ay bx by_).1) ∧ ((segOfV ax ay bx by_).2.1) = ((segOfV ax ay bx by_).2.1)) ∧ ((segOfV ax ay bx by_).2.2.1) = ((segOfV ax ay bx by_).2.2.1) ∧ ((segOfV ax ay bx by_).2.2.2) = ((segOfV ax ay bx by_).2.2.2)
            · -- abaaaT
              refine lw_vy (.bool (decide (segOfOk ax ay bx by_))) (d := 29) rfl rfl (congrArg Value.bool (decide_eq_false (not_not_intro hb392))) (dv_move (T rfl rfl)) ?_
              refine lw_vy (.bool (decide (segOfOk ax ay bx by_))) (d := 29) rfl rfl (congrArg Value.bool (decide_eq_false (not_not_intro hb392))) (dv_move (T rfl rfl)) ?_
              refine lw_vy (.bool ((decide (segOfOk ax ay bx by_)) != (decide (segOfOk ax ay bx by_)))) (d := 29) rfl rfl (congrArg Value.bool (decide_eq_false (not_not_intro hb392))) (dv_neqb (a := decide (segOfOk ax ay bx by_)) (b := decide (segOfOk ax ay bx by_)) ub4 (T rfl rfl) (T rfl rfl)) ?_
              refine lw_v (.bool ((decide (segOfOk ax ay bx by_)) != (decide (segOfOk ax ay bx by_)))) (dv_pick_f (T rfl (congrArg Value.bool (decide_eq_false (not_not_intro hb392)))) (T rfl rfl)) ?_
              refine lw_nil ?_
              rcases Bool.eq_false_or_eq_true ((decide (segOfOk ax ay bx by_)) != (decide (segOfOk ax ay bx by_))) with hb393 | hb393
              · -- abaaaTT
                refine rk_ct (T rfl (congrArg Value.bool hb393)) ?_
                refine rk_seq ?_
                refine rk_reg ?_
                refine lw_v (.bool false) (dv_assign C) ?_
                refine lw_nil ?_
                refine rk_ret Try.func6 (v := .bool false) (res1 Try.results6 (rv_tmp rfl rfl)) ⟨_, rfl, ?_⟩
                exact ⟨(congrArg Value.bool (by grind)), E391⟩
              · -- abaaaTF
                refine rk_cf (T rfl (congrArg Value.bool hb393)) ?_
                refine rk_skip ?_
                refine rk_seq ?_
                refine rk_reg ?_
                refine lw_v (.bool true) (dv_assign C) ?_
                refine lw_nil ?_
                refine rk_ret Try.func6 (v := .bool true) (res1 Try.results6 (rv_tmp rfl rfl)) ⟨_, rfl, ?_⟩
                exact ⟨rfl, E391⟩
            · -- abaaaF
              refine lw_no (d := 29) rfl rfl (congrArg Value.bool (decide_eq_true hb392)) ?_
              refine lw_no (d := 29) rfl rfl (congrArg Value.bool (decide_eq_true hb392)) ?_
              refine lw_no (d := 29) rfl rfl (congrArg Value.bool (decide_eq_true hb392)) ?_
              refine lw_v (.bool true) (dv_pick_t (T rfl (congrArg Value.bool (decide_eq_true hb392))) C) ?_
              refine lw_nil ?_
              refine rk_ct (T rfl rfl) ?_
              refine rk_seq ?_
              refine rk_reg ?_
              refine lw_v (.bool false) (dv_assign C) ?_
              refine lw_nil ?_
              refine rk_ret Try.func6 (v := .bool false) (res1 Try.results6 (rv_tmp rfl rfl)) ⟨_, rfl, ?_⟩
              exact ⟨(congrArg Value.bool (by grind)), E391⟩
          · -- abaab
            refine id (oe_alloc ze33 ?_)
            intro b394 w395 n396
            have N397 : w.heap.size ≤ b394 := n396.eq ▸ E366.size
            have H398 := (e365.blk (e360.blk (d355.ext.blk H350)))
            have : b330 < b394 := n396.eq ▸ lt_of_blk H398
            have E399 := below_ext E366 E366.size n396.ext
            have H400 := (n396.ext.blk H367)
            have H401 := (n396.ext.blk H368)
            refine ⟨.inr ⟨H400, H401⟩, ?_⟩
            refine aw_one 4 rfl (by kernel_rfl) .none (oe_callf (vs := [.agg #[.int .i64 ax, .int .i64 ay], .agg #[.int .i64 bx, .int .i64 by_]]) co16 (ar2 (T rfl rfl) (T rfl rfl)) (iSegOf_ok ) ?_)
            rintro _ w402 ⟨rfl, e403⟩
            have E404 := below_ext E399 E399.size e403
            have H405 := (e403.blk H400)
            have H406 := (e403.blk H401)
            refine ⟨.inr ⟨H405, H406⟩, ?_⟩
            refine aw_pure 5 (.tuple #[.agg #[.int .i64 ((segOfV ax ay bx by_).1), .int .i64 ((segOfV ax ay bx by_).2.1), .int .i64 ((segOfV ax ay bx by_).2.2.1), .int .i64 ((segOfV ax ay bx by_).2.2.2)], .bool (decide (segOfOk ax ay bx by_))]) rfl (by kernel_rfl) .none ⟨H405, H406⟩ (fun _ => dv_move (T rfl rfl)) ?_
            refine aw_pure 6 (.agg #[.int .i64 ((segOfV ax ay bx by_).1), .int .i64 ((segOfV ax ay bx by_).2.1), .int .i64 ((segOfV ax ay bx by_).2.2.1), .int .i64 ((segOfV ax ay bx by_).2.2.2)]) rfl (by kernel_rfl) .none ⟨H405, H406⟩ (fun _ => dv_extract (vs := #[.agg #[.int .i64 ((segOfV ax ay bx by_).1), .int .i64 ((segOfV ax ay bx by_).2.1), .int .i64 ((segOfV ax ay bx by_).2.2.1), .int .i64 ((segOfV ax ay bx by_).2.2.2)], .bool (decide (segOfOk ax ay bx by_))]) (T rfl rfl) rfl) ?_
            refine aw_pure 7 (.bool (decide (segOfOk ax ay bx by_))) rfl (by kernel_rfl) .none ⟨H405, H406⟩ (fun _ => dv_extract (vs := #[.agg #[.int .i64 ((segOfV ax ay bx by_).1), .int .i64 ((segOfV ax ay bx by_).2.1), .int .i64 ((segOfV ax ay bx by_).2.2.1), .int .i64 ((segOfV ax ay bx by_).2.2.2)], .bool (decide (segOfOk ax ay bx by_))]) (T rfl rfl) rfl) ?_
            have H407 := (e403.blk n396.blk)
            refine aw_one 9 rfl (by kernel_rfl) .none (oe_store (v := .agg #[.int .i64 ((segOfV ax ay bx by_).1), .int .i64 ((segOfV ax ay bx by_).2.1), .int .i64 ((segOfV ax ay bx by_).2.2.1), .int .i64 ((segOfV ax ay bx by_).2.2.2)]) (vs := [.int .i64 ((segOfV ax ay bx by_).1), .int .i64 ((segOfV ax ay bx by_).2.1), .int .i64 ((segOfV ax ay bx by_).2.2.1), .int .i64 ((segOfV ax ay bx by_).2.2.2)]) (l := [.int .i64 ((segOfV ax ay bx by_).1), .int .i64 ((segOfV ax ay bx by_).2.1), .int .i64 ((segOfV ax ay bx by_).2.2.1), .int .i64 ((segOfV ax ay bx by_).2.2.2)]) (T rfl rfl) (T rfl rfl) sz33 rfl rfl rfl H407 rfl ?_)
            intro w408 s409 H410
            have E411 := below_st E404 N397 s409
            have H412 := (s409.blk H405 (by omega))
            have H413 := (s409.blk H406 (by omega))
            refine ⟨.inr ⟨H412, H413⟩, ?_⟩
            refine aw_last 10 (.bool (decide (segOfOk ax ay bx by_))) rfl (by kernel_rfl) .none (fun _ => dv_assign (T rfl rfl)) ?_
            refine aw_done (by kernel_rfl) ?_
            refine rk_seq ?_
            refine rk_seq ?_
            refine rk_reg ?_
            refine lw_v (.agg #[.int .i64 ((segOfV ax ay bx by_).1), .int .i64 ((segOfV ax ay bx by_).2.1), .int .i64 ((segOfV ax ay bx by_).2.2.1), .int .i64 ((segOfV ax ay bx by_).2.2.2)]) (dv_loads (l := [.int .i64 ((segOfV ax ay bx by_).1), .int .i64 ((segOfV ax ay bx by_).2.1), .int .i64 ((segOfV ax ay bx by_).2.2.1), .int .i64 ((segOfV ax ay bx by_).2.2.2)]) ag33 sz33 (T rfl rfl) H410 rfl) ?_
            have H414 := (s409.blk (e403.blk (n396.ext.blk H398)) (by omega))
            refine lw_v (.agg #[.int .i64 ((segOfV ax ay bx by_).1), .int .i64 ((segOfV ax ay bx by_).2.1), .int .i64 ((segOfV ax ay bx by_).2.2.1), .int .i64 ((segOfV ax ay bx by_).2.2.2)]) (dv_loads (l := [.int .i64 ((segOfV ax ay bx by_).1), .int .i64 ((segOfV ax ay bx by_).2.1), .int .i64 ((segOfV ax ay bx by_).2.2.1), .int .i64 ((segOfV ax ay bx by_).2.2.2)]) ag33 sz33 (T rfl rfl) H414 rfl) ?_
            refine lw_e (oe_callf (vs := [.agg #[.int .i64 ((segOfV ax ay bx by_).1), .int .i64 ((segOfV ax ay bx by_).2.1), .int .i64 ((segOfV ax ay bx by_).2.2.1), .int .i64 ((segOfV ax ay bx by_).2.2.2)], .agg #[.int .i64 ((segOfV ax ay bx by_).1), .int .i64 ((segOfV ax ay bx by_).2.1), .int .i64 ((segOfV ax ay bx by_).2.2.1), .int .i64 ((segOfV ax ay bx by_).2.2.2)]]) co17 (ar2 (T rfl rfl) (T rfl rfl)) (eqSeg_ok ) ?_)
            rintro _ w415 ⟨rfl, e416⟩
            have E417 := below_ext E411 E411.size e416
            refine lw_v (.bool (decide (¬ ((((segOfV ax ay bx by_).1) = ((segOfV ax ay bx by_).1) ∧ ((segOfV ax ay bx by_).2.1) = ((segOfV ax ay bx by_).2.1)) ∧ ((segOfV ax ay bx by_).2.2.1) = ((segOfV ax ay bx by_).2.2.1) ∧ ((segOfV ax ay bx by_).2.2.2) = ((segOfV ax ay bx by_).2.2.2))))) (dv_notd (p := (((segOfV ax ay bx by_).1) = ((segOfV ax ay bx by_).1) ∧ ((segOfV ax ay bx by_).2.1) = ((segOfV ax ay bx by_).2.1)) ∧ ((segOfV ax ay bx by_).2.2.1) = ((segOfV ax ay bx by_).2.2.1) ∧ ((segOfV ax ay bx by_).2.2.2) = ((segOfV ax ay bx by_).2.2.2)) (T rfl rfl)) ?_
            refine lw_v (.bool (decide (¬ ((((segOfV ax ay bx by_).1) = ((segOfV ax ay bx by_).1) ∧ ((segOfV ax ay bx by_).2.1) = ((segOfV ax ay bx by_).2.1)) ∧ ((segOfV ax ay bx by_).2.2.1) = ((segOfV ax ay bx by_).2.2.1) ∧ ((segOfV ax ay bx by_).2.2.2) = ((segOfV ax ay bx by_).2.2.2))))) (dv_move (T rfl rfl)) ?_
            by_cases hb418 : (((segOfV ax ay bx by_).1) = ((segOfV ax ay bx by_).1) ∧ ((segOfV ax ay bx by_).2.1) = ((segOfV ax ay bx by_).2.1)) ∧ ((segOfV ax ay bx by_).2.2.1) = ((segOfV ax ay bx by_).2.2.1) ∧ ((segOfV ax ay bx by_).2.2.2) = ((segOfV ax ay bx by_).2.2.2)
            · -- abaabT
              refine lw_vy (.bool (decide (segOfOk ax ay bx by_))) (d := 29) rfl rfl (congrArg Value.bool (decide_eq_false (not_not_intro hb418))) (dv_move (T rfl rfl)) ?_
              refine lw_vy (.bool (decide (segOfOk ax ay bx by_))) (d := 29) rfl rfl (congrArg Value.bool (decide_eq_false (not_not_intro hb418))) (dv_move (T rfl rfl)) ?_
              refine lw_vy (.bool ((decide (segOfOk ax ay bx by_)) != (decide (segOfOk ax ay bx by_)))) (d := 29) rfl rfl (congrArg Value.bool (decide_eq_false (not_not_intro hb418))) (dv_neqb (a := decide (segOfOk ax ay bx by_)) (b := decide (segOfOk ax ay bx by_)) ub4 (T rfl rfl) (T rfl rfl)) ?_
              refine lw_v (.bool ((decide (segOfOk ax ay bx by_)) != (decide (segOfOk ax ay bx by_)))) (dv_pick_f (T rfl (congrArg Value.bool (decide_eq_false (not_not_intro hb418)))) (T rfl rfl)) ?_
              refine lw_nil ?_
              rcases Bool.eq_false_or_eq_true ((decide (segOfOk ax ay bx by_)) != (decide (segOfOk ax ay bx by_))) with hb419 | hb419
              · -- abaabTT
                refine rk_ct (T rfl (congrArg Value.bool hb419)) ?_
                refine rk_seq ?_
                refine rk_reg ?_
                refine lw_v (.bool false) (dv_assign C) ?_
                refine lw_nil ?_
                refine rk_ret Try.func6 (v := .bool false) (res1 Try.results6 (rv_tmp rfl rfl)) ⟨_, rfl, ?_⟩
                exact ⟨(congrArg Value.bool (by grind)), E417⟩
              · -- abaabTF
                refine rk_cf (T rfl (congrArg Value.bool hb419)) ?_
                refine rk_skip ?_
                refine rk_seq ?_
                refine rk_reg ?_
                refine lw_v (.bool true) (dv_assign C) ?_
                refine lw_nil ?_
                refine rk_ret Try.func6 (v := .bool true) (res1 Try.results6 (rv_tmp rfl rfl)) ⟨_, rfl, ?_⟩
                exact ⟨rfl, E417⟩
            · -- abaabF
              refine lw_no (d := 29) rfl rfl (congrArg Value.bool (decide_eq_true hb418)) ?_
              refine lw_no (d := 29) rfl rfl (congrArg Value.bool (decide_eq_true hb418)) ?_
              refine lw_no (d := 29) rfl rfl (congrArg Value.bool (decide_eq_true hb418)) ?_
              refine lw_v (.bool true) (dv_pick_t (T rfl (congrArg Value.bool (decide_eq_true hb418))) C) ?_
              refine lw_nil ?_
              refine rk_ct (T rfl rfl) ?_
              refine rk_seq ?_
              refine rk_reg ?_
              refine lw_v (.bool false) (dv_assign C) ?_
              refine lw_nil ?_
              refine rk_ret Try.func6 (v := .bool false) (res1 Try.results6 (rv_tmp rfl rfl)) ⟨_, rfl, ?_⟩
              exact ⟨(congrArg Value.bool (by grind)), E417⟩
        · -- abab
          refine id (oe_alloc ze33 ?_)
          intro b420 w421 n422
          have N423 : w.heap.size ≤ b420 := n422.eq ▸ E361.size
          have H424 := (e360.blk (d355.ext.blk H350))
          have : b330 < b420 := n422.eq ▸ lt_of_blk H424
          have E425 := below_ext E361 E361.size n422.ext
          have H426 := (n422.ext.blk H362)
          have H427 := (n422.ext.blk H363)
          refine ⟨.inr ⟨H426, H427⟩, ?_⟩
          refine aw_one 3 rfl (by kernel_rfl) .none (oe_callf (vs := [.agg #[.int .i64 bx, .int .i64 by_]]) co10 (ar1 (T rfl rfl)) (toSpot_ok ) ?_)
          rintro _ w428 ⟨rfl, e429⟩
          have E430 := below_ext E425 E425.size e429
          have H431 := (e429.blk H426)
          have H432 := (e429.blk H427)
          refine ⟨.inr ⟨H431, H432⟩, ?_⟩
          refine aw_one 4 rfl (by kernel_rfl) .none (oe_callf (vs := [.agg #[.int .i64 ax, .int .i64 ay], .agg #[.int .i64 bx, .int .i64 by_]]) co16 (ar2 (T rfl rfl) (T rfl rfl)) (iSegOf_ok ) ?_)
          rintro _ w433 ⟨rfl, e434⟩
          have E435 := below_ext E430 E430.size e434
          have H436 := (e434.blk H431)
          have H437 := (e434.blk H432)
          refine ⟨.inr ⟨H436, H437⟩, ?_⟩
          refine aw_pure 5 (.tuple #[.agg #[.int .i64 ((segOfV ax ay bx by_).1), .int .i64 ((segOfV ax ay bx by_).2.1), .int .i64 ((segOfV ax ay bx by_).2.2.1), .int .i64 ((segOfV ax ay bx by_).2.2.2)], .bool (decide (segOfOk ax ay bx by_))]) rfl (by kernel_rfl) .none ⟨H436, H437⟩ (fun _ => dv_move (T rfl rfl)) ?_
          refine aw_pure 6 (.agg #[.int .i64 ((segOfV ax ay bx by_).1), .int .i64 ((segOfV ax ay bx by_).2.1), .int .i64 ((segOfV ax ay bx by_).2.2.1), .int .i64 ((segOfV ax ay bx by_).2.2.2)]) rfl (by kernel_rfl) .none ⟨H436, H437⟩ (fun _ => dv_extract (vs := #[.agg #[.int .i64 ((segOfV ax ay bx by_).1), .int .i64 ((segOfV ax ay bx by_).2.1), .int .i64 ((segOfV ax ay bx by_).2.2.1), .int .i64 ((segOfV ax ay bx by_).2.2.2)], .bool (decide (segOfOk ax ay bx by_))]) (T rfl rfl) rfl) ?_
          refine aw_pure 7 (.bool (decide (segOfOk ax ay bx by_))) rfl (by kernel_rfl) .none ⟨H436, H437⟩ (fun _ => dv_extract (vs := #[.agg #[.int .i64 ((segOfV ax ay bx by_).1), .int .i64 ((segOfV ax ay bx by_).2.1), .int .i64 ((segOfV ax ay bx by_).2.2.1), .int .i64 ((segOfV ax ay bx by_).2.2.2)], .bool (decide (segOfOk ax ay bx by_))]) (T rfl rfl) rfl) ?_
          have H438 := (e434.blk (e429.blk n422.blk))
          refine aw_one 9 rfl (by kernel_rfl) .none (oe_store (v := .agg #[.int .i64 ((segOfV ax ay bx by_).1), .int .i64 ((segOfV ax ay bx by_).2.1), .int .i64 ((segOfV ax ay bx by_).2.2.1), .int .i64 ((segOfV ax ay bx by_).2.2.2)]) (vs := [.int .i64 ((segOfV ax ay bx by_).1), .int .i64 ((segOfV ax ay bx by_).2.1), .int .i64 ((segOfV ax ay bx by_).2.2.1), .int .i64 ((segOfV ax ay bx by_).2.2.2)]) (l := [.int .i64 ((segOfV ax ay bx by_).1), .int .i64 ((segOfV ax ay bx by_).2.1), .int .i64 ((segOfV ax ay bx by_).2.2.1), .int .i64 ((segOfV ax ay bx by_).2.2.2)]) (T rfl rfl) (T rfl rfl) sz33 rfl rfl rfl H438 rfl ?_)
          intro w439 s440 H441
          have E442 := below_st E435 N423 s440
          have H443 := (s440.blk H436 (by omega))
          have H444 := (s440.blk H437 (by omega))
          refine ⟨.inr ⟨H443, H444⟩, ?_⟩
          refine aw_last 10 (.bool (decide (segOfOk ax ay bx by_))) rfl (by kernel_rfl) .none (fun _ => dv_assign (T rfl rfl)) ?_
          refine aw_done (by kernel_rfl) ?_
          refine rk_seq ?_
          refine rk_seq ?_
          refine rk_reg ?_
          refine lw_v (.agg #[.int .i64 ((segOfV ax ay bx by_).1), .int .i64 ((segOfV ax ay bx by_).2.1), .int .i64 ((segOfV ax ay bx by_).2.2.1), .int .i64 ((segOfV ax ay bx by_).2.2.2)]) (dv_loads (l := [.int .i64 ((segOfV ax ay bx by_).1), .int .i64 ((segOfV ax ay bx by_).2.1), .int .i64 ((segOfV ax ay bx by_).2.2.1), .int .i64 ((segOfV ax ay bx by_).2.2.2)]) ag33 sz33 (T rfl rfl) H441 rfl) ?_
          have H445 := (s440.blk (e434.blk (e429.blk (n422.ext.blk H424))) (by omega))
          refine lw_v (.agg #[.int .i64 ((segOfV ax ay bx by_).1), .int .i64 ((segOfV ax ay bx by_).2.1), .int .i64 ((segOfV ax ay bx by_).2.2.1), .int .i64 ((segOfV ax ay bx by_).2.2.2)]) (dv_loads (l := [.int .i64 ((segOfV ax ay bx by_).1), .int .i64 ((segOfV ax ay bx by_).2.1), .int .i64 ((segOfV ax ay bx by_).2.2.1), .int .i64 ((segOfV ax ay bx by_).2.2.2)]) ag33 sz33 (T rfl rfl) H445 rfl) ?_
          refine lw_e (oe_callf (vs := [.agg #[.int .i64 ((segOfV ax ay bx by_).1), .int .i64 ((segOfV ax ay bx by_).2.1), .int .i64 ((segOfV ax ay bx by_).2.2.1), .int .i64 ((segOfV ax ay bx by_).2.2.2)], .agg #[.int .i64 ((segOfV ax ay bx by_).1), .int .i64 ((segOfV ax ay bx by_).2.1), .int .i64 ((segOfV ax ay bx by_).2.2.1), .int .i64 ((segOfV ax ay bx by_).2.2.2)]]) co17 (ar2 (T rfl rfl) (T rfl rfl)) (eqSeg_ok ) ?_)
          rintro _ w446 ⟨rfl, e447⟩
          have E448 := below_ext E442 E442.size e447
          refine lw_v (.bool (decide (¬ ((((segOfV ax ay bx by_).1) = ((segOfV ax ay bx by_).1) ∧ ((segOfV ax ay bx by_).2.1) = ((segOfV ax ay bx by_).2.1)) ∧ ((segOfV ax ay bx by_).2.2.1) = ((segOfV ax ay bx by_).2.2.1) ∧ ((segOfV ax ay bx by_).2.2.2) = ((segOfV ax ay bx by_).2.2.2))))) (dv_notd (p := (((segOfV ax ay bx by_).1) = ((segOfV ax ay bx by_).1) ∧ ((segOfV ax ay bx by_).2.1) = ((segOfV ax ay bx by_).2.1)) ∧ ((segOfV ax ay bx by_).2.2.1) = ((segOfV ax ay bx by_).2.2.1) ∧ ((segOfV ax ay bx by_).2.2.2) = ((segOfV ax ay bx by_).2.2.2)) (T rfl rfl)) ?_
          refine lw_v (.bool (decide (¬ ((((segOfV ax ay bx by_).1) = ((segOfV ax ay bx by_).1) ∧ ((segOfV ax ay bx by_).2.1) = ((segOfV ax ay bx by_).2.1)) ∧ ((segOfV ax ay bx by_).2.2.1) = ((segOfV ax ay bx by_).2.2.1) ∧ ((segOfV ax ay bx by_).2.2.2) = ((segOfV ax ay bx by_).2.2.2))))) (dv_move (T rfl rfl)) ?_
          by_cases hb449 : (((segOfV ax ay bx by_).1) = ((segOfV ax ay bx by_).1) ∧ ((segOfV ax ay bx by_).2.1) = ((segOfV ax ay bx by_).2.1)) ∧ ((segOfV ax ay bx by_).2.2.1) = ((segOfV ax ay bx by_).2.2.1) ∧ ((segOfV ax ay bx by_).2.2.2) = ((segOfV ax ay bx by_).2.2.2)
          · -- ababT
            refine lw_vy (.bool (decide (segOfOk ax ay bx by_))) (d := 29) rfl rfl (congrArg Value.bool (decide_eq_false (not_not_intro hb449))) (dv_move (T rfl rfl)) ?_
            refine lw_vy (.bool (decide (segOfOk ax ay bx by_))) (d := 29) rfl rfl (congrArg Value.bool (decide_eq_false (not_not_intro hb449))) (dv_move (T rfl rfl)) ?_
            refine lw_vy (.bool ((decide (segOfOk ax ay bx by_)) != (decide (segOfOk ax ay bx by_)))) (d := 29) rfl rfl (congrArg Value.bool (decide_eq_false (not_not_intro hb449))) (dv_neqb (a := decide (segOfOk ax ay bx by_)) (b := decide (segOfOk ax ay bx by_)) ub4 (T rfl rfl) (T rfl rfl)) ?_
            refine lw_v (.bool ((decide (segOfOk ax ay bx by_)) != (decide (segOfOk ax ay bx by_)))) (dv_pick_f (T rfl (congrArg Value.bool (decide_eq_false (not_not_intro hb449)))) (T rfl rfl)) ?_
            refine lw_nil ?_
            rcases Bool.eq_false_or_eq_true ((decide (segOfOk ax ay bx by_)) != (decide (segOfOk ax ay bx by_))) with hb450 | hb450
            · -- ababTT
              refine rk_ct (T rfl (congrArg Value.bool hb450)) ?_
              refine rk_seq ?_
              refine rk_reg ?_
              refine lw_v (.bool false) (dv_assign C) ?_
              refine lw_nil ?_
              refine rk_ret Try.func6 (v := .bool false) (res1 Try.results6 (rv_tmp rfl rfl)) ⟨_, rfl, ?_⟩
              exact ⟨(congrArg Value.bool (by grind)), E448⟩
            · -- ababTF
              refine rk_cf (T rfl (congrArg Value.bool hb450)) ?_
              refine rk_skip ?_
              refine rk_seq ?_
              refine rk_reg ?_
              refine lw_v (.bool true) (dv_assign C) ?_
              refine lw_nil ?_
              refine rk_ret Try.func6 (v := .bool true) (res1 Try.results6 (rv_tmp rfl rfl)) ⟨_, rfl, ?_⟩
              exact ⟨rfl, E448⟩
          · -- ababF
            refine lw_no (d := 29) rfl rfl (congrArg Value.bool (decide_eq_true hb449)) ?_
            refine lw_no (d := 29) rfl rfl (congrArg Value.bool (decide_eq_true hb449)) ?_
            refine lw_no (d := 29) rfl rfl (congrArg Value.bool (decide_eq_true hb449)) ?_
            refine lw_v (.bool true) (dv_pick_t (T rfl (congrArg Value.bool (decide_eq_true hb449))) C) ?_
            refine lw_nil ?_
            refine rk_ct (T rfl rfl) ?_
            refine rk_seq ?_
            refine rk_reg ?_
            refine lw_v (.bool false) (dv_assign C) ?_
            refine lw_nil ?_
            refine rk_ret Try.func6 (v := .bool false) (res1 Try.results6 (rv_tmp rfl rfl)) ⟨_, rfl, ?_⟩
            exact ⟨(congrArg Value.bool (by grind)), E448⟩
      · -- abb
        refine id (oe_alloc ze33 ?_)
        intro b451 w452 n453
        have N454 : w.heap.size ≤ b451 := n453.eq ▸ E356.size
        have H455 := (d355.ext.blk H350)
        have : b330 < b451 := n453.eq ▸ lt_of_blk H455
        have E456 := below_ext E356 E356.size n453.ext
        have H457 := (n453.ext.blk H357)
        have H458 := (n453.ext.blk H358)
        refine ⟨.inr ⟨H457, H458⟩, ?_⟩
        refine aw_one 1 rfl (by kernel_rfl) .none (oe_callf (vs := [.agg #[.int .i64 ax, .int .i64 ay]]) co10 (ar1 (T rfl rfl)) (toSpot_ok ) ?_)
        rintro _ w459 ⟨rfl, e460⟩
        have E461 := below_ext E456 E456.size e460
        have H462 := (e460.blk H457)
        have H463 := (e460.blk H458)
        refine ⟨.inr ⟨H462, H463⟩, ?_⟩
        refine aw_one 3 rfl (by kernel_rfl) .none (oe_callf (vs := [.agg #[.int .i64 bx, .int .i64 by_]]) co10 (ar1 (T rfl rfl)) (toSpot_ok ) ?_)
        rintro _ w464 ⟨rfl, e465⟩
        have E466 := below_ext E461 E461.size e465
        have H467 := (e465.blk H462)
        have H468 := (e465.blk H463)
        refine ⟨.inr ⟨H467, H468⟩, ?_⟩
        refine aw_one 4 rfl (by kernel_rfl) .none (oe_callf (vs := [.agg #[.int .i64 ax, .int .i64 ay], .agg #[.int .i64 bx, .int .i64 by_]]) co16 (ar2 (T rfl rfl) (T rfl rfl)) (iSegOf_ok ) ?_)
        rintro _ w469 ⟨rfl, e470⟩
        have E471 := below_ext E466 E466.size e470
        have H472 := (e470.blk H467)
        have H473 := (e470.blk H468)
        refine ⟨.inr ⟨H472, H473⟩, ?_⟩
        refine aw_pure 5 (.tuple #[.agg #[.int .i64 ((segOfV ax ay bx by_).1), .int .i64 ((segOfV ax ay bx by_).2.1), .int .i64 ((segOfV ax ay bx by_).2.2.1), .int .i64 ((segOfV ax ay bx by_).2.2.2)], .bool (decide (segOfOk ax ay bx by_))]) rfl (by kernel_rfl) .none ⟨H472, H473⟩ (fun _ => dv_move (T rfl rfl)) ?_
        refine aw_pure 6 (.agg #[.int .i64 ((segOfV ax ay bx by_).1), .int .i64 ((segOfV ax ay bx by_).2.1), .int .i64 ((segOfV ax ay bx by_).2.2.1), .int .i64 ((segOfV ax ay bx by_).2.2.2)]) rfl (by kernel_rfl) .none ⟨H472, H473⟩ (fun _ => dv_extract (vs := #[.agg #[.int .i64 ((segOfV ax ay bx by_).1), .int .i64 ((segOfV ax ay bx by_).2.1), .int .i64 ((segOfV ax ay bx by_).2.2.1), .int .i64 ((segOfV ax ay bx by_).2.2.2)], .bool (decide (segOfOk ax ay bx by_))]) (T rfl rfl) rfl) ?_
        refine aw_pure 7 (.bool (decide (segOfOk ax ay bx by_))) rfl (by kernel_rfl) .none ⟨H472, H473⟩ (fun _ => dv_extract (vs := #[.agg #[.int .i64 ((segOfV ax ay bx by_).1), .int .i64 ((segOfV ax ay bx by_).2.1), .int .i64 ((segOfV ax ay bx by_).2.2.1), .int .i64 ((segOfV ax ay bx by_).2.2.2)], .bool (decide (segOfOk ax ay bx by_))]) (T rfl rfl) rfl) ?_
        have H474 := (e470.blk (e465.blk (e460.blk n453.blk)))
        refine aw_one 9 rfl (by kernel_rfl) .none (oe_store (v := .agg #[.int .i64 ((segOfV ax ay bx by_).1), .int .i64 ((segOfV ax ay bx by_).2.1), .int .i64 ((segOfV ax ay bx by_).2.2.1), .int .i64 ((segOfV ax ay bx by_).2.2.2)]) (vs := [.int .i64 ((segOfV ax ay bx by_).1), .int .i64 ((segOfV ax ay bx by_).2.1), .int .i64 ((segOfV ax ay bx by_).2.2.1), .int .i64 ((segOfV ax ay bx by_).2.2.2)]) (l := [.int .i64 ((segOfV ax ay bx by_).1), .int .i64 ((segOfV ax ay bx by_).2.1), .int .i64 ((segOfV ax ay bx by_).2.2.1), .int .i64 ((segOfV ax ay bx by_).2.2.2)]) (T rfl rfl) (T rfl rfl) sz33 rfl rfl rfl H474 rfl ?_)
        intro w475 s476 H477
        have E478 := below_st E471 N454 s476
        have H479 := (s476.blk H472 (by omega))
        have H480 := (s476.blk H473 (by omega))
        refine ⟨.inr ⟨H479, H480⟩, ?_⟩
        refine aw_last 10 (.bool (decide (segOfOk ax ay bx by_))) rfl (by kernel_rfl) .none (fun _ => dv_assign (T rfl rfl)) ?_
        refine aw_done (by kernel_rfl) ?_
        refine rk_seq ?_
        refine rk_seq ?_
        refine rk_reg ?_
        refine lw_v (.agg #[.int .i64 ((segOfV ax ay bx by_).1), .int .i64 ((segOfV ax ay bx by_).2.1), .int .i64 ((segOfV ax ay bx by_).2.2.1), .int .i64 ((segOfV ax ay bx by_).2.2.2)]) (dv_loads (l := [.int .i64 ((segOfV ax ay bx by_).1), .int .i64 ((segOfV ax ay bx by_).2.1), .int .i64 ((segOfV ax ay bx by_).2.2.1), .int .i64 ((segOfV ax ay bx by_).2.2.2)]) ag33 sz33 (T rfl rfl) H477 rfl) ?_
        have H481 := (s476.blk (e470.blk (e465.blk (e460.blk (n453.ext.blk H455)))) (by omega))
        refine lw_v (.agg #[.int .i64 ((segOfV ax ay bx by_).1), .int .i64 ((segOfV ax ay bx by_).2.1), .int .i64 ((segOfV ax ay bx by_).2.2.1), .int .i64 ((segOfV ax ay bx by_).2.2.2)]) (dv_loads (l := [.int .i64 ((segOfV ax ay bx by_).1), .int .i64 ((segOfV ax ay bx by_).2.1), .int .i64 ((segOfV ax ay bx by_).2.2.1), .int .i64 ((segOfV ax ay bx by_).2.2.2)]) ag33 sz33 (T rfl rfl) H481 rfl) ?_
        refine lw_e (oe_callf (vs := [.agg #[.int .i64 ((segOfV ax ay bx by_).1), .int .i64 ((segOfV ax ay bx by_).2.1), .int .i64 ((segOfV ax ay bx by_).2.2.1), .int .i64 ((segOfV ax ay bx by_).2.2.2)], .agg #[.int .i64 ((segOfV ax ay bx by_).1), .int .i64 ((segOfV ax ay bx by_).2.1), .int .i64 ((segOfV ax ay bx by_).2.2.1), .int .i64 ((segOfV ax ay bx by_).2.2.2)]]) co17 (ar2 (T rfl rfl) (T rfl rfl)) (eqSeg_ok ) ?_)
        rintro _ w482 ⟨rfl, e483⟩
        have E484 := below_ext E478 E478.size e483
        refine lw_v (.bool (decide (¬ ((((segOfV ax ay bx by_).1) = ((segOfV ax ay bx by_).1) ∧ ((segOfV ax ay bx by_).2.1) = ((segOfV ax ay bx by_).2.1)) ∧ ((segOfV ax ay bx by_).2.2.1) = ((segOfV ax ay bx by_).2.2.1) ∧ ((segOfV ax ay bx by_).2.2.2) = ((segOfV ax ay bx by_).2.2.2))))) (dv_notd (p := (((segOfV ax ay bx by_).1) = ((segOfV ax ay bx by_).1) ∧ ((segOfV ax ay bx by_).2.1) = ((segOfV ax ay bx by_).2.1)) ∧ ((segOfV ax ay bx by_).2.2.1) = ((segOfV ax ay bx by_).2.2.1) ∧ ((segOfV ax ay bx by_).2.2.2) = ((segOfV ax ay bx by_).2.2.2)) (T rfl rfl)) ?_
        refine lw_v (.bool (decide (¬ ((((segOfV ax ay bx by_).1) = ((segOfV ax ay bx by_).1) ∧ ((segOfV ax ay bx by_).2.1) = ((segOfV ax ay bx by_).2.1)) ∧ ((segOfV ax ay bx by_).2.2.1) = ((segOfV ax ay bx by_).2.2.1) ∧ ((segOfV ax ay bx by_).2.2.2) = ((segOfV ax ay bx by_).2.2.2))))) (dv_move (T rfl rfl)) ?_
        by_cases hb485 : (((segOfV ax ay bx by_).1) = ((segOfV ax ay bx by_).1) ∧ ((segOfV ax ay bx by_).2.1) = ((segOfV ax ay bx by_).2.1)) ∧ ((segOfV ax ay bx by_).2.2.1) = ((segOfV ax ay bx by_).2.2.1) ∧ ((segOfV ax ay bx by_).2.2.2) = ((segOfV ax ay bx by_).2.2.2)
        · -- abbT
          refine lw_vy (.bool (decide (segOfOk ax ay bx by_))) (d := 29) rfl rfl (congrArg Value.bool (decide_eq_false (not_not_intro hb485))) (dv_move (T rfl rfl)) ?_
          refine lw_vy (.bool (decide (segOfOk ax ay bx by_))) (d := 29) rfl rfl (congrArg Value.bool (decide_eq_false (not_not_intro hb485))) (dv_move (T rfl rfl)) ?_
          refine lw_vy (.bool ((decide (segOfOk ax ay bx by_)) != (decide (segOfOk ax ay bx by_)))) (d := 29) rfl rfl (congrArg Value.bool (decide_eq_false (not_not_intro hb485))) (dv_neqb (a := decide (segOfOk ax ay bx by_)) (b := decide (segOfOk ax ay bx by_)) ub4 (T rfl rfl) (T rfl rfl)) ?_
          refine lw_v (.bool ((decide (segOfOk ax ay bx by_)) != (decide (segOfOk ax ay bx by_)))) (dv_pick_f (T rfl (congrArg Value.bool (decide_eq_false (not_not_intro hb485)))) (T rfl rfl)) ?_
          refine lw_nil ?_
          rcases Bool.eq_false_or_eq_true ((decide (segOfOk ax ay bx by_)) != (decide (segOfOk ax ay bx by_))) with hb486 | hb486
          · -- abbTT
            refine rk_ct (T rfl (congrArg Value.bool hb486)) ?_
            refine rk_seq ?_
            refine rk_reg ?_
            refine lw_v (.bool false) (dv_assign C) ?_
            refine lw_nil ?_
            refine rk_ret Try.func6 (v := .bool false) (res1 Try.results6 (rv_tmp rfl rfl)) ⟨_, rfl, ?_⟩
            exact ⟨(congrArg Value.bool (by grind)), E484⟩
          · -- abbTF
            refine rk_cf (T rfl (congrArg Value.bool hb486)) ?_
            refine rk_skip ?_
            refine rk_seq ?_
            refine rk_reg ?_
            refine lw_v (.bool true) (dv_assign C) ?_
            refine lw_nil ?_
            refine rk_ret Try.func6 (v := .bool true) (res1 Try.results6 (rv_tmp rfl rfl)) ⟨_, rfl, ?_⟩
            exact ⟨rfl, E484⟩
        · -- abbF
          refine lw_no (d := 29) rfl rfl (congrArg Value.bool (decide_eq_true hb485)) ?_
          refine lw_no (d := 29) rfl rfl (congrArg Value.bool (decide_eq_true hb485)) ?_
          refine lw_no (d := 29) rfl rfl (congrArg Value.bool (decide_eq_true hb485)) ?_
          refine lw_v (.bool true) (dv_pick_t (T rfl (congrArg Value.bool (decide_eq_true hb485))) C) ?_
          refine lw_nil ?_
          refine rk_ct (T rfl rfl) ?_
          refine rk_seq ?_
          refine rk_reg ?_
          refine lw_v (.bool false) (dv_assign C) ?_
          refine lw_nil ?_
          refine rk_ret Try.func6 (v := .bool false) (res1 Try.results6 (rv_tmp rfl rfl)) ⟨_, rfl, ?_⟩
          exact ⟨(congrArg Value.bool (by grind)), E484⟩
  · -- b
    refine id (oe_alloc ze33 ?_)
    intro b487 w488 n489
    have N490 : w.heap.size ≤ b487 := n489.eq ▸ E14.size
    have : b6 < b487 := n489.eq ▸ lt_of_blk H16
    have E491 := below_ext E14 E14.size n489.ext
    have H492 := (n489.ext.blk H15)
    have H493 := (n489.ext.blk H16)
    refine ⟨.inr ⟨H492, H493⟩, ?_⟩
    refine aw_one 1 rfl (by kernel_rfl) .none (oe_callf (vs := [.agg #[.int .i64 ax, .int .i64 ay]]) co10 (ar1 (T rfl rfl)) (toSpot_ok ) ?_)
    rintro _ w494 ⟨rfl, e495⟩
    have E496 := below_ext E491 E491.size e495
    have H497 := (e495.blk H492)
    have H498 := (e495.blk H493)
    refine ⟨.inr ⟨H497, H498⟩, ?_⟩
    refine aw_one 3 rfl (by kernel_rfl) .none (oe_callf (vs := [.agg #[.int .i64 bx, .int .i64 by_]]) co10 (ar1 (T rfl rfl)) (toSpot_ok ) ?_)
    rintro _ w499 ⟨rfl, e500⟩
    have E501 := below_ext E496 E496.size e500
    have H502 := (e500.blk H497)
    have H503 := (e500.blk H498)
    refine ⟨.inr ⟨H502, H503⟩, ?_⟩
    refine aw_one 4 rfl (by kernel_rfl) .none (oe_callf (vs := [.agg #[.int .i64 ax, .int .i64 ay], .agg #[.int .i64 bx, .int .i64 by_]]) co15 (ar2 (T rfl rfl) (T rfl rfl)) (sSegOf_ok ) ?_)
    rintro _ w504 ⟨rfl, e505⟩
    have E506 := below_ext E501 E501.size e505
    have H507 := (e505.blk H502)
    have H508 := (e505.blk H503)
    refine ⟨.inr ⟨H507, H508⟩, ?_⟩
    refine aw_pure 5 (.tuple #[.agg #[.int .i64 ((segOfV ax ay bx by_).1), .int .i64 ((segOfV ax ay bx by_).2.1), .int .i64 ((segOfV ax ay bx by_).2.2.1), .int .i64 ((segOfV ax ay bx by_).2.2.2)], .bool (decide (segOfOk ax ay bx by_))]) rfl (by kernel_rfl) .none ⟨H507, H508⟩ (fun _ => dv_move (T rfl rfl)) ?_
    refine aw_pure 6 (.agg #[.int .i64 ((segOfV ax ay bx by_).1), .int .i64 ((segOfV ax ay bx by_).2.1), .int .i64 ((segOfV ax ay bx by_).2.2.1), .int .i64 ((segOfV ax ay bx by_).2.2.2)]) rfl (by kernel_rfl) .none ⟨H507, H508⟩ (fun _ => dv_extract (vs := #[.agg #[.int .i64 ((segOfV ax ay bx by_).1), .int .i64 ((segOfV ax ay bx by_).2.1), .int .i64 ((segOfV ax ay bx by_).2.2.1), .int .i64 ((segOfV ax ay bx by_).2.2.2)], .bool (decide (segOfOk ax ay bx by_))]) (T rfl rfl) rfl) ?_
    refine aw_pure 7 (.bool (decide (segOfOk ax ay bx by_))) rfl (by kernel_rfl) .none ⟨H507, H508⟩ (fun _ => dv_extract (vs := #[.agg #[.int .i64 ((segOfV ax ay bx by_).1), .int .i64 ((segOfV ax ay bx by_).2.1), .int .i64 ((segOfV ax ay bx by_).2.2.1), .int .i64 ((segOfV ax ay bx by_).2.2.2)], .bool (decide (segOfOk ax ay bx by_))]) (T rfl rfl) rfl) ?_
    have H509 := (e505.blk (e500.blk (e495.blk n489.blk)))
    refine aw_one 9 rfl (by kernel_rfl) .none (oe_store (v := .agg #[.int .i64 ((segOfV ax ay bx by_).1), .int .i64 ((segOfV ax ay bx by_).2.1), .int .i64 ((segOfV ax ay bx by_).2.2.1), .int .i64 ((segOfV ax ay bx by_).2.2.2)]) (vs := [.int .i64 ((segOfV ax ay bx by_).1), .int .i64 ((segOfV ax ay bx by_).2.1), .int .i64 ((segOfV ax ay bx by_).2.2.1), .int .i64 ((segOfV ax ay bx by_).2.2.2)]) (l := [.int .i64 ((segOfV ax ay bx by_).1), .int .i64 ((segOfV ax ay bx by_).2.1), .int .i64 ((segOfV ax ay bx by_).2.2.1), .int .i64 ((segOfV ax ay bx by_).2.2.2)]) (T rfl rfl) (T rfl rfl) sz33 rfl rfl rfl H509 rfl ?_)
    intro w510 s511 H512
    have E513 := below_st E506 N490 s511
    have H514 := (s511.blk H507 (by omega))
    have H515 := (s511.blk H508 (by omega))
    refine ⟨.inr ⟨H514, H515⟩, ?_⟩
    refine aw_last 10 (.bool (decide (segOfOk ax ay bx by_))) rfl (by kernel_rfl) .none (fun _ => dv_assign (T rfl rfl)) ?_
    refine aw_done (by kernel_rfl) ?_
    refine rk_seq ?_
    refine rk_any (fun w => w.heap[b1]? = some (.cells #[.int .i64 ax, .int .i64 ay] 24) ∧ w.heap[b6]? = some (.cells #[.int .i64 bx, .int .i64 by_] 24)) [10] mo ?_
    intro w516 d517
    have E518 := below_ext E513 E513.size d517.ext
    have H519 := (d517.ext.blk H514)
    have H520 := (d517.ext.blk H515)
    refine aw_load 0 (.agg #[.int .i64 ax, .int .i64 ay]) rfl (by kernel_rfl) .none ⟨H519, H520⟩ (fun _ s => dv_loads (l := [.int .i64 ax, .int .i64 ay]) ag24 sz24 (T rfl rfl) s.1 rfl) ?_
    refine aw_load 2 (.agg #[.int .i64 bx, .int .i64 by_]) rfl (by kernel_rfl) .none ⟨H519, H520⟩ (fun _ s => dv_loads (l := [.int .i64 bx, .int .i64 by_]) ag24 sz24 (T rfl rfl) s.2 rfl) ?_
    refine aw_two 1 8 rfl rfl (by kernel_rfl) .none .none ?_ ?_
    · -- ba
      refine id (oe_callf (vs := [.agg #[.int .i64 ax, .int .i64 ay]]) co10 (ar1 (T rfl rfl)) (toSpot_ok ) ?_)
      rintro _ w521 ⟨rfl, e522⟩
      have E523 := below_ext E518 E518.size e522
      have H524 := (e522.blk H519)
      have H525 := (e522.blk H520)
      refine ⟨.inr ⟨H524, H525⟩, ?_⟩
      refine aw_two 3 8 rfl rfl (by kernel_rfl) .none .none ?_ ?_
      · -- baa
        refine id (oe_callf (vs := [.agg #[.int .i64 bx, .int .i64 by_]]) co10 (ar1 (T rfl rfl)) (toSpot_ok ) ?_)
        rintro _ w526 ⟨rfl, e527⟩
        have E528 := below_ext E523 E523.size e527
        have H529 := (e527.blk H524)
        have H530 := (e527.blk H525)
        refine ⟨.inr ⟨H529, H530⟩, ?_⟩
        refine aw_two 4 8 rfl rfl (by kernel_rfl) .none .none ?_ ?_
        · -- baaa
          refine id (oe_callf (vs := [.agg #[.int .i64 ax, .int .i64 ay], .agg #[.int .i64 bx, .int .i64 by_]]) co16 (ar2 (T rfl rfl) (T rfl rfl)) (iSegOf_ok ) ?_)
          rintro _ w531 ⟨rfl, e532⟩
          have E533 := below_ext E528 E528.size e532
          have H534 := (e532.blk H529)
          have H535 := (e532.blk H530)
          refine ⟨.inr ⟨H534, H535⟩, ?_⟩
          refine aw_pure 5 (.tuple #[.agg #[.int .i64 ((segOfV ax ay bx by_).1), .int .i64 ((segOfV ax ay bx by_).2.1), .int .i64 ((segOfV ax ay bx by_).2.2.1), .int .i64 ((segOfV ax ay bx by_).2.2.2)], .bool (decide (segOfOk ax ay bx by_))]) rfl (by kernel_rfl) .none ⟨H534, H535⟩ (fun _ => dv_move (T rfl rfl)) ?_
          refine aw_pure 6 (.agg #[.int .i64 ((segOfV ax ay bx by_).1), .int .i64 ((segOfV ax ay bx by_).2.1), .int .i64 ((segOfV ax ay bx by_).2.2.1), .int .i64 ((segOfV ax ay bx by_).2.2.2)]) rfl (by kernel_rfl) .none ⟨H534, H535⟩ (fun _ => dv_extract (vs := #[.agg #[.int .i64 ((segOfV ax ay bx by_).1), .int .i64 ((segOfV ax ay bx by_).2.1), .int .i64 ((segOfV ax ay bx by_).2.2.1), .int .i64 ((segOfV ax ay bx by_).2.2.2)], .bool (decide (segOfOk ax ay bx by_))]) (T rfl rfl) rfl) ?_
          refine aw_pure 7 (.bool (decide (segOfOk ax ay bx by_))) rfl (by kernel_rfl) .none ⟨H534, H535⟩ (fun _ => dv_extract (vs := #[.agg #[.int .i64 ((segOfV ax ay bx by_).1), .int .i64 ((segOfV ax ay bx by_).2.1), .int .i64 ((segOfV ax ay bx by_).2.2.1), .int .i64 ((segOfV ax ay bx by_).2.2.2)], .bool (decide (segOfOk ax ay bx by_))]) (T rfl rfl) rfl) ?_
          refine aw_one 8 rfl (by kernel_rfl) .none (oe_alloc ze33 ?_)
          intro b536 w537 n538
          have N539 : w.heap.size ≤ b536 := n538.eq ▸ E533.size
          have H540 := (e532.blk (e527.blk (e522.blk (d517.ext.blk H512))))
          have : b487 < b536 := n538.eq ▸ lt_of_blk H540
          have E541 := below_ext E533 E533.size n538.ext
          have H542 := (n538.ext.blk H534)
          have H543 := (n538.ext.blk H535)
          refine ⟨.inr ⟨H542, H543⟩, ?_⟩
          refine aw_one 9 rfl (by kernel_rfl) .none (oe_store (v := .agg #[.int .i64 ((segOfV ax ay bx by_).1), .int .i64 ((segOfV ax ay bx by_).2.1), .int .i64 ((segOfV ax ay bx by_).2.2.1), .int .i64 ((segOfV ax ay bx by_).2.2.2)]) (vs := [.int .i64 ((segOfV ax ay bx by_).1), .int .i64 ((segOfV ax ay bx by_).2.1), .int .i64 ((segOfV ax ay bx by_).2.2.1), .int .i64 ((segOfV ax ay bx by_).2.2.2)]) (l := [.int .i64 ((segOfV ax ay bx by_).1), .int .i64 ((segOfV ax ay bx by_).2.1), .int .i64 ((segOfV ax ay bx by_).2.2.1), .int .i64 ((segOfV ax ay bx by_).2.2.2)]) (T rfl rfl) (T rfl rfl) sz33 rfl rfl rfl n538.blk rfl ?_)
          intro w544 s545 H546
          have E547 := below_st E541 N539 s545
          have H548 := (s545.blk H542 (by omega))
          have H549 := (s545.blk H543 (by omega))
          refine ⟨.inr ⟨H548, H549⟩, ?_⟩
          refine aw_last 10 (.bool (decide (segOfOk ax ay bx by_))) rfl (by kernel_rfl) .none (fun _ => dv_assign (T rfl rfl)) ?_
          refine aw_done (by kernel_rfl) ?_
          refine rk_seq ?_
          refine rk_seq ?_
          refine rk_reg ?_
          refine lw_v (.agg #[.int .i64 ((segOfV ax ay bx by_).1), .int .i64 ((segOfV ax ay bx by_).2.1), .int .i64 ((segOfV ax ay bx by_).2.2.1), .int .i64 ((segOfV ax ay bx by_).2.2.2)]) (dv_loads (l := [.int .i64 ((segOfV ax ay bx by_).1), .int .i64 ((segOfV ax ay bx by_).2.1), .int .i64 ((segOfV ax ay bx by_).2.2.1), .int .i64 ((segOfV ax ay bx by_).2.2.2)]) ag33 sz33 (T rfl rfl) H546 rfl) ?_
          have H550 := (s545.blk (n538.ext.blk H540) (by omega))
          refine lw_v (.agg #[.int .i64 ((segOfV ax ay bx by_).1), .int .i64 ((segOfV ax ay bx by_).2.1), .int .i64 ((segOfV ax ay bx by_).2.2.1), .int .i64 ((segOfV ax ay bx by_).2.2.2)]) (dv_loads (l := [.int .i64 ((segOfV ax ay bx by_).1), .int .i64 ((segOfV ax ay bx by_).2.1), .int .i64 ((segOfV ax ay bx by_).2.2.1), .int .i64 ((segOfV ax ay bx by_).2.2.2)]) ag33 sz33 (T rfl rfl) H550 rfl) ?_
          refine lw_e (oe_callf (vs := [.agg #[.int .i64 ((segOfV ax ay bx by_).1), .int .i64 ((segOfV ax ay bx by_).2.1), .int .i64 ((segOfV ax ay bx by_).2.2.1), .int .i64 ((segOfV ax ay bx by_).2.2.2)], .agg #[.int .i64 ((segOfV ax ay bx by_).1), .int .i64 ((segOfV ax ay bx by_).2.1), .int .i64 ((segOfV ax ay bx by_).2.2.1), .int .i64 ((segOfV ax ay bx by_).2.2.2)]]) co17 (ar2 (T rfl rfl) (T rfl rfl)) (eqSeg_ok ) ?_)
          rintro _ w551 ⟨rfl, e552⟩
          have E553 := below_ext E547 E547.size e552
          refine lw_v (.bool (decide (¬ ((((segOfV ax ay bx by_).1) = ((segOfV ax ay bx by_).1) ∧ ((segOfV ax ay bx by_).2.1) = ((segOfV ax ay bx by_).2.1)) ∧ ((segOfV ax ay bx by_).2.2.1) = ((segOfV ax ay bx by_).2.2.1) ∧ ((segOfV ax ay bx by_).2.2.2) = ((segOfV ax ay bx by_).2.2.2))))) (dv_notd (p := (((segOfV ax ay bx by_).1) = ((segOfV ax ay bx by_).1) ∧ ((segOfV ax ay bx by_).2.1) = ((segOfV ax ay bx by_).2.1)) ∧ ((segOfV ax ay bx by_).2.2.1) = ((segOfV ax ay bx by_).2.2.1) ∧ ((segOfV ax ay bx by_).2.2.2) = ((segOfV ax ay bx by_).2.2.2)) (T rfl rfl)) ?_
          refine lw_v (.bool (decide (¬ ((((segOfV ax ay bx by_).1) = ((segOfV ax ay bx by_).1) ∧ ((segOfV ax ay bx by_).2.1) = ((segOfV ax ay bx by_).2.1)) ∧ ((segOfV ax ay bx by_).2.2.1) = ((segOfV ax ay bx by_).2.2.1) ∧ ((segOfV ax ay bx by_).2.2.2) = ((segOfV ax ay bx by_).2.2.2))))) (dv_move (T rfl rfl)) ?_
          by_cases hb554 : (((segOfV ax ay bx by_).1) = ((segOfV ax ay bx by_).1) ∧ ((segOfV ax ay bx by_).2.1) = ((segOfV ax ay bx by_).2.1)) ∧ ((segOfV ax ay bx by_).2.2.1) = ((segOfV ax ay bx by_).2.2.1) ∧ ((segOfV ax ay bx by_).2.2.2) = ((segOfV ax ay bx by_).2.2.2)
          · -- baaaT
            refine lw_vy (.bool (decide (segOfOk ax ay bx by_))) (d := 29) rfl rfl (congrArg Value.bool (decide_eq_false (not_not_intro hb554))) (dv_move (T rfl rfl)) ?_
            refine lw_vy (.bool (decide (segOfOk ax ay bx by_))) (d := 29) rfl rfl (congrArg Value.bool (decide_eq_false (not_not_intro hb554))) (dv_move (T rfl rfl)) ?_
            refine lw_vy (.bool ((decide (segOfOk ax ay bx by_)) != (decide (segOfOk ax ay bx by_)))) (d := 29) rfl rfl (congrArg Value.bool (decide_eq_false (not_not_intro hb554))) (dv_neqb (a := decide (segOfOk ax ay bx by_)) (b := decide (segOfOk ax ay bx by_)) ub4 (T rfl rfl) (T rfl rfl)) ?_
            refine lw_v (.bool ((decide (segOfOk ax ay bx by_)) != (decide (segOfOk ax ay bx by_)))) (dv_pick_f (T rfl (congrArg Value.bool (decide_eq_false (not_not_intro hb554)))) (T rfl rfl)) ?_
            refine lw_nil ?_
            rcases Bool.eq_false_or_eq_true ((decide (segOfOk ax ay bx by_)) != (decide (segOfOk ax ay bx by_))) with hb555 | hb555
            · -- baaaTT
              refine rk_ct (T rfl (congrArg Value.bool hb555)) ?_
              refine rk_seq ?_
              refine rk_reg ?_
              refine lw_v (.bool false) (dv_assign C) ?_
              refine lw_nil ?_
              refine rk_ret Try.func6 (v := .bool false) (res1 Try.results6 (rv_tmp rfl rfl)) ⟨_, rfl, ?_⟩
              exact ⟨(congrArg Value.bool (by grind)), E553⟩
            · -- baaaTF
              refine rk_cf (T rfl (congrArg Value.bool hb555)) ?_
              refine rk_skip ?_
              refine rk_seq ?_
              refine rk_reg ?_
              refine lw_v (.bool true) (dv_assign C) ?_
              refine lw_nil ?_
              refine rk_ret Try.func6 (v := .bool true) (res1 Try.results6 (rv_tmp rfl rfl)) ⟨_, rfl, ?_⟩
              exact ⟨rfl, E553⟩
          · -- baaaF
            refine lw_no (d := 29) rfl rfl (congrArg Value.bool (decide_eq_true hb554)) ?_
            refine lw_no (d := 29) rfl rfl (congrArg Value.bool (decide_eq_true hb554)) ?_
            refine lw_no (d := 29) rfl rfl (congrArg Value.bool (decide_eq_true hb554)) ?_
            refine lw_v (.bool true) (dv_pick_t (T rfl (congrArg Value.bool (decide_eq_true hb554))) C) ?_
            refine lw_nil ?_
            refine rk_ct (T rfl rfl) ?_
            refine rk_seq ?_
            refine rk_reg ?_
            refine lw_v (.bool false) (dv_assign C) ?_
            refine lw_nil ?_
            refine rk_ret Try.func6 (v := .bool false) (res1 Try.results6 (rv_tmp rfl rfl)) ⟨_, rfl, ?_⟩
            exact ⟨(congrArg Value.bool (by grind)), E553⟩
        · -- baab
          refine id (oe_alloc ze33 ?_)
          intro b556 w557 n558
          have N559 : w.heap.size ≤ b556 := n558.eq ▸ E528.size
          have H560 := (e527.blk (e522.blk (d517.ext.blk H512)))
          have : b487 < b556 := n558.eq ▸ lt_of_blk H560
          have E561 := below_ext E528 E528.size n558.ext
          have H562 := (n558.ext.blk H529)
          have H563 := (n558.ext.blk H530)
          refine ⟨.inr ⟨H562, H563⟩, ?_⟩
          refine aw_one 4 rfl (by kernel_rfl) .none (oe_callf (vs := [.agg #[.int .i64 ax, .int .i64 ay], .agg #[.int .i64 bx, .int .i64 by_]]) co16 (ar2 (T rfl rfl) (T rfl rfl)) (iSegOf_ok ) ?_)
          rintro _ w564 ⟨rfl, e565⟩
          have E566 := below_ext E561 E561.size e565
          have H567 := (e565.blk H562)
          have H568 := (e565.blk H563)
          refine ⟨.inr ⟨H567, H568⟩, ?_⟩
          refine aw_pure 5 (.tuple #[.agg #[.int .i64 ((segOfV ax ay bx by_).1), .int .i64 ((segOfV ax ay bx by_).2.1), .int .i64 ((segOfV ax ay bx by_).2.2.1), .int .i64 ((segOfV ax ay bx by_).2.2.2)], .bool (decide (segOfOk ax ay bx by_))]) rfl (by kernel_rfl) .none ⟨H567, H568⟩ (fun _ => dv_move (T rfl rfl)) ?_
          refine aw_pure 6 (.agg #[.int .i64 ((segOfV ax ay bx by_).1), .int .i64 ((segOfV ax ay bx by_).2.1), .int .i64 ((segOfV ax ay bx by_).2.2.1), .int .i64 ((segOfV ax ay bx by_).2.2.2)]) rfl (by kernel_rfl) .none ⟨H567, H568⟩ (fun _ => dv_extract (vs := #[.agg #[.int .i64 ((segOfV ax ay bx by_).1), .int .i64 ((segOfV ax ay bx by_).2.1), .int .i64 ((segOfV ax ay bx by_).2.2.1), .int .i64 ((segOfV ax ay bx by_).2.2.2)], .bool (decide (segOfOk ax ay bx by_))]) (T rfl rfl) rfl) ?_
          refine aw_pure 7 (.bool (decide (segOfOk ax ay bx by_))) rfl (by kernel_rfl) .none ⟨H567, H568⟩ (fun _ => dv_extract (vs := #[.agg #[.int .i64 ((segOfV ax ay bx by_).1), .int .i64 ((segOfV ax ay bx by_).2.1), .int .i64 ((segOfV ax ay bx by_).2.2.1), .int .i64 ((segOfV ax ay bx by_).2.2.2)], .bool (decide (segOfOk ax ay bx by_))]) (T rfl rfl) rfl) ?_
          have H569 := (e565.blk n558.blk)
          refine aw_one 9 rfl (by kernel_rfl) .none (oe_store (v := .agg #[.int .i64 ((segOfV ax ay bx by_).1), .int .i64 ((segOfV ax ay bx by_).2.1), .int .i64 ((segOfV ax ay bx by_).2.2.1), .int .i64 ((segOfV ax ay bx by_).2.2.2)]) (vs := [.int .i64 ((segOfV ax ay bx by_).1), .int .i64 ((segOfV ax ay bx by_).2.1), .int .i64 ((segOfV ax ay bx by_).2.2.1), .int .i64 ((segOfV ax ay bx by_).2.2.2)]) (l := [.int .i64 ((segOfV ax ay bx by_).1), .int .i64 ((segOfV ax ay bx by_).2.1), .int .i64 ((segOfV ax ay bx by_).2.2.1), .int .i64 ((segOfV ax ay bx by_).2.2.2)]) (T rfl rfl) (T rfl rfl) sz33 rfl rfl rfl H569 rfl ?_)
          intro w570 s571 H572
          have E573 := below_st E566 N559 s571
          have H574 := (s571.blk H567 (by omega))
          have H575 := (s571.blk H568 (by omega))
          refine ⟨.inr ⟨H574, H575⟩, ?_⟩
          refine aw_last 10 (.bool (decide (segOfOk ax ay bx by_))) rfl (by kernel_rfl) .none (fun _ => dv_assign (T rfl rfl)) ?_
          refine aw_done (by kernel_rfl) ?_
          refine rk_seq ?_
          refine rk_seq ?_
          refine rk_reg ?_
          refine lw_v (.agg #[.int .i64 ((segOfV ax ay bx by_).1), .int .i64 ((segOfV ax ay bx by_).2.1), .int .i64 ((segOfV ax ay bx by_).2.2.1), .int .i64 ((segOfV ax ay bx by_).2.2.2)]) (dv_loads (l := [.int .i64 ((segOfV ax ay bx by_).1), .int .i64 ((segOfV ax ay bx by_).2.1), .int .i64 ((segOfV ax ay bx by_).2.2.1), .int .i64 ((segOfV ax ay bx by_).2.2.2)]) ag33 sz33 (T rfl rfl) H572 rfl) ?_
          have H576 := (s571.blk (e565.blk (n558.ext.blk H560)) (by omega))
          refine lw_v (.agg #[.int .i64 ((segOfV ax ay bx by_).1), .int .i64 ((segOfV ax ay bx by_).2.1), .int .i64 ((segOfV ax ay bx by_).2.2.1), .int .i64 ((segOfV ax ay bx by_).2.2.2)]) (dv_loads (l := [.int .i64 ((segOfV ax ay bx by_).1), .int .i64 ((segOfV ax ay bx by_).2.1), .int .i64 ((segOfV ax ay bx by_).2.2.1), .int .i64 ((segOfV ax ay bx by_).2.2.2)]) ag33 sz33 (T rfl rfl) H576 rfl) ?_
          refine lw_e (oe_callf (vs := [.agg #[.int .i64 ((segOfV ax ay bx by_).1), .int .i64 ((segOfV ax ay bx by_).2.1), .int .i64 ((segOfV ax ay bx by_).2.2.1), .int .i64 ((segOfV ax ay bx by_).2.2.2)], .agg #[.int .i64 ((segOfV ax ay bx by_).1), .int .i64 ((segOfV ax ay bx by_).2.1), .int .i64 ((segOfV ax ay bx by_).2.2.1), .int .i64 ((segOfV ax ay bx by_).2.2.2)]]) co17 (ar2 (T rfl rfl) (T rfl rfl)) (eqSeg_ok ) ?_)
          rintro _ w577 ⟨rfl, e578⟩
          have E579 := below_ext E573 E573.size e578
          refine lw_v (.bool (decide (¬ ((((segOfV ax ay bx by_).1) = ((segOfV ax ay bx by_).1) ∧ ((segOfV ax ay bx by_).2.1) = ((segOfV ax ay bx by_).2.1)) ∧ ((segOfV ax ay bx by_).2.2.1) = ((segOfV ax ay bx by_).2.2.1) ∧ ((segOfV ax ay bx by_).2.2.2) = ((segOfV ax ay bx by_).2.2.2))))) (dv_notd (p := (((segOfV ax ay bx by_).1) = ((segOfV ax ay bx by_).1) ∧ ((segOfV ax ay bx by_).2.1) = ((segOfV ax ay bx by_).2.1)) ∧ ((segOfV ax ay bx by_).2.2.1) = ((segOfV ax ay bx by_).2.2.1) ∧ ((segOfV ax ay bx by_).2.2.2) = ((segOfV ax ay bx by_).2.2.2)) (T rfl rfl)) ?_
          refine lw_v (.bool (decide (¬ ((((segOfV ax ay bx by_).1) = ((segOfV ax ay bx by_).1) ∧ ((segOfV ax ay bx by_).2.1) = ((segOfV ax ay bx by_).2.1)) ∧ ((segOfV ax ay bx by_).2.2.1) = ((segOfV ax ay bx by_).2.2.1) ∧ ((segOfV ax ay bx by_).2.2.2) = ((segOfV ax ay bx by_).2.2.2))))) (dv_move (T rfl rfl)) ?_
          by_cases hb580 : (((segOfV ax ay bx by_).1) = ((segOfV ax ay bx by_).1) ∧ ((segOfV ax ay bx by_).2.1) = ((segOfV ax ay bx by_).2.1)) ∧ ((segOfV ax ay bx by_).2.2.1) = ((segOfV ax ay bx by_).2.2.1) ∧ ((segOfV ax ay bx by_).2.2.2) = ((segOfV ax ay bx by_).2.2.2)
          · -- baabT
            refine lw_vy (.bool (decide (segOfOk ax ay bx by_))) (d := 29) rfl rfl (congrArg Value.bool (decide_eq_false (not_not_intro hb580))) (dv_move (T rfl rfl)) ?_
            refine lw_vy (.bool (decide (segOfOk ax ay bx by_))) (d := 29) rfl rfl (congrArg Value.bool (decide_eq_false (not_not_intro hb580))) (dv_move (T rfl rfl)) ?_
            refine lw_vy (.bool ((decide (segOfOk ax ay bx by_)) != (decide (segOfOk ax ay bx by_)))) (d := 29) rfl rfl (congrArg Value.bool (decide_eq_false (not_not_intro hb580))) (dv_neqb (a := decide (segOfOk ax ay bx by_)) (b := decide (segOfOk ax ay bx by_)) ub4 (T rfl rfl) (T rfl rfl)) ?_
            refine lw_v (.bool ((decide (segOfOk ax ay bx by_)) != (decide (segOfOk ax ay bx by_)))) (dv_pick_f (T rfl (congrArg Value.bool (decide_eq_false (not_not_intro hb580)))) (T rfl rfl)) ?_
            refine lw_nil ?_
            rcases Bool.eq_false_or_eq_true ((decide (segOfOk ax ay bx by_)) != (decide (segOfOk ax ay bx by_))) with hb581 | hb581
            · -- baabTT
              refine rk_ct (T rfl (congrArg Value.bool hb581)) ?_
              refine rk_seq ?_
              refine rk_reg ?_
              refine lw_v (.bool false) (dv_assign C) ?_
              refine lw_nil ?_
              refine rk_ret Try.func6 (v := .bool false) (res1 Try.results6 (rv_tmp rfl rfl)) ⟨_, rfl, ?_⟩
              exact ⟨(congrArg Value.bool (by grind)), E579⟩
            · -- baabTF
              refine rk_cf (T rfl (congrArg Value.bool hb581)) ?_
              refine rk_skip ?_
              refine rk_seq ?_
              refine rk_reg ?_
              refine lw_v (.bool true) (dv_assign C) ?_
              refine lw_nil ?_
              refine rk_ret Try.func6 (v := .bool true) (res1 Try.results6 (rv_tmp rfl rfl)) ⟨_, rfl, ?_⟩
              exact ⟨rfl, E579⟩
          · -- baabF
            refine lw_no (d := 29) rfl rfl (congrArg Value.bool (decide_eq_true hb580)) ?_
            refine lw_no (d := 29) rfl rfl (congrArg Value.bool (decide_eq_true hb580)) ?_
            refine lw_no (d := 29) rfl rfl (congrArg Value.bool (decide_eq_true hb580)) ?_
            refine lw_v (.bool true) (dv_pick_t (T rfl (congrArg Value.bool (decide_eq_true hb580))) C) ?_
            refine lw_nil ?_
            refine rk_ct (T rfl rfl) ?_
            refine rk_seq ?_
            refine rk_reg ?_
            refine lw_v (.bool false) (dv_assign C) ?_
            refine lw_nil ?_
            refine rk_ret Try.func6 (v := .bool false) (res1 Try.results6 (rv_tmp rfl rfl)) ⟨_, rfl, ?_⟩
            exact ⟨(congrArg Value.bool (by grind)), E579⟩
      · -- bab
        refine id (oe_alloc ze33 ?_)
        intro b582 w583 n584
        have N585 : w.heap.size ≤ b582 := n584.eq ▸ E523.size
        have H586 := (e522.blk (d517.ext.blk H512))
        have : b487 < b582 := n584.eq ▸ lt_of_blk H586
        have E587 := below_ext E523 E523.size n584.ext
        have H588 := (n584.ext.blk H524)
        have H589 := (n584.ext.blk H525)
        refine ⟨.inr ⟨H588, H589⟩, ?_⟩
        refine aw_one 3 rfl (by kernel_rfl) .none (oe_callf (vs := [.agg #[.int .i64 bx, .int .i64 by_]]) co10 (ar1 (T rfl rfl)) (toSpot_ok ) ?_)
        rintro _ w590 ⟨rfl, e591⟩
        have E592 := below_ext E587 E587.size e591
        have H593 := (e591.blk H588)
        have H594 := (e591.blk H589)
        refine ⟨.inr ⟨H593, H594⟩, ?_⟩
        refine aw_one 4 rfl (by kernel_rfl) .none (oe_callf (vs := [.agg #[.int .i64 ax, .int .i64 ay], .agg #[.int .i64 bx, .int .i64 by_]]) co16 (ar2 (T rfl rfl) (T rfl rfl)) (iSegOf_ok ) ?_)
        rintro _ w595 ⟨rfl, e596⟩
        have E597 := below_ext E592 E592.size e596
        have H598 := (e596.blk H593)
        have H599 := (e596.blk H594)
        refine ⟨.inr ⟨H598, H599⟩, ?_⟩
        refine aw_pure 5 (.tuple #[.agg #[.int .i64 ((segOfV ax ay bx by_).1), .int .i64 ((segOfV ax ay bx by_).2.1), .int .i64 ((segOfV ax ay bx by_).2.2.1), .int .i64 ((segOfV ax ay bx by_).2.2.2)], .bool (decide (segOfOk ax ay bx by_))]) rfl (by kernel_rfl) .none ⟨H598, H599⟩ (fun _ => dv_move (T rfl rfl)) ?_
        refine aw_pure 6 (.agg #[.int .i64 ((segOfV ax ay bx by_).1), .int .i64 ((segOfV ax ay bx by_).2.1), .int .i64 ((segOfV ax ay bx by_).2.2.1), .int .i64 ((segOfV ax ay bx by_).2.2.2)]) rfl (by kernel_rfl) .none ⟨H598, H599⟩ (fun _ => dv_extract (vs := #[.agg #[.int .i64 ((segOfV ax ay bx by_).1), .int .i64 ((segOfV ax ay bx by_).2.1), .int .i64 ((segOfV ax ay bx by_).2.2.1), .int .i64 ((segOfV ax ay bx by_).2.2.2)], .bool (decide (segOfOk ax ay bx by_))]) (T rfl rfl) rfl) ?_
        refine aw_pure 7 (.bool (decide (segOfOk ax ay bx by_))) rfl (by kernel_rfl) .none ⟨H598, H599⟩ (fun _ => dv_extract (vs := #[.agg #[.int .i64 ((segOfV ax ay bx by_).1), .int .i64 ((segOfV ax ay bx by_).2.1), .int .i64 ((segOfV ax ay bx by_).2.2.1), .int .i64 ((segOfV ax ay bx by_).2.2.2)], .bool (decide (segOfOk ax ay bx by_))]) (T rfl rfl) rfl) ?_
        have H600 := (e596.blk (e591.blk n584.blk))
        refine aw_one 9 rfl (by kernel_rfl) .none (oe_store (v := .agg #[.int .i64 ((segOfV ax ay bx by_).1), .int .i64 ((segOfV ax ay bx by_).2.1), .int .i64 ((segOfV ax ay bx by_).2.2.1), .int .i64 ((segOfV ax ay bx by_).2.2.2)]) (vs := [.int .i64 ((segOfV ax ay bx by_).1), .int .i64 ((segOfV ax ay bx by_).2.1), .int .i64 ((segOfV ax ay bx by_).2.2.1), .int .i64 ((segOfV ax ay bx by_).2.2.2)]) (l := [.int .i64 ((segOfV ax ay bx by_).1), .int .i64 ((segOfV ax ay bx by_).2.1), .int .i64 ((segOfV ax ay bx by_).2.2.1), .int .i64 ((segOfV ax ay bx by_).2.2.2)]) (T rfl rfl) (T rfl rfl) sz33 rfl rfl rfl H600 rfl ?_)
        intro w601 s602 H603
        have E604 := below_st E597 N585 s602
        have H605 := (s602.blk H598 (by omega))
        have H606 := (s602.blk H599 (by omega))
        refine ⟨.inr ⟨H605, H606⟩, ?_⟩
        refine aw_last 10 (.bool (decide (segOfOk ax ay bx by_))) rfl (by kernel_rfl) .none (fun _ => dv_assign (T rfl rfl)) ?_
        refine aw_done (by kernel_rfl) ?_
        refine rk_seq ?_
        refine rk_seq ?_
        refine rk_reg ?_
        refine lw_v (.agg #[.int .i64 ((segOfV ax ay bx by_).1), .int .i64 ((segOfV ax ay bx by_).2.1), .int .i64 ((segOfV ax ay bx by_).2.2.1), .int .i64 ((segOfV ax ay bx by_).2.2.2)]) (dv_loads (l := [.int .i64 ((segOfV ax ay bx by_).1), .int .i64 ((segOfV ax ay bx by_).2.1), .int .i64 ((segOfV ax ay bx by_).2.2.1), .int .i64 ((segOfV ax ay bx by_).2.2.2)]) ag33 sz33 (T rfl rfl) H603 rfl) ?_
        have H607 := (s602.blk (e596.blk (e591.blk (n584.ext.blk H586))) (by omega))
        refine lw_v (.agg #[.int .i64 ((segOfV ax ay bx by_).1), .int .i64 ((segOfV ax ay bx by_).2.1), .int .i64 ((segOfV ax ay bx by_).2.2.1), .int .i64 ((segOfV ax ay bx by_).2.2.2)]) (dv_loads (l := [.int .i64 ((segOfV ax ay bx by_).1), .int .i64 ((segOfV ax ay bx by_).2.1), .int .i64 ((segOfV ax ay bx by_).2.2.1), .int .i64 ((segOfV ax ay bx by_).2.2.2)]) ag33 sz33 (T rfl rfl) H607 rfl) ?_
        refine lw_e (oe_callf (vs := [.agg #[.int .i64 ((segOfV ax ay bx by_).1), .int .i64 ((segOfV ax ay bx by_).2.1), .int .i64 ((segOfV ax ay bx by_).2.2.1), .int .i64 ((segOfV ax ay bx by_).2.2.2)], .agg #[.int .i64 ((segOfV ax ay bx by_).1), .int .i64 ((segOfV ax ay bx by_).2.1), .int .i64 ((segOfV ax ay bx by_).2.2.1), .int .i64 ((segOfV ax ay bx by_).2.2.2)]]) co17 (ar2 (T rfl rfl) (T rfl rfl)) (eqSeg_ok ) ?_)
        rintro _ w608 ⟨rfl, e609⟩
        have E610 := below_ext E604 E604.size e609
        refine lw_v (.bool (decide (¬ ((((segOfV ax ay bx by_).1) = ((segOfV ax ay bx by_).1) ∧ ((segOfV ax ay bx by_).2.1) = ((segOfV ax ay bx by_).2.1)) ∧ ((segOfV ax ay bx by_).2.2.1) = ((segOfV ax ay bx by_).2.2.1) ∧ ((segOfV ax ay bx by_).2.2.2) = ((segOfV ax ay bx by_).2.2.2))))) (dv_notd (p := (((segOfV ax ay bx by_).1) = ((segOfV ax ay bx by_).1) ∧ ((segOfV ax ay bx by_).2.1) = ((segOfV ax ay bx by_).2.1)) ∧ ((segOfV ax ay bx by_).2.2.1) = ((segOfV ax ay bx by_).2.2.1) ∧ ((segOfV ax ay bx by_).2.2.2) = ((segOfV ax ay bx by_).2.2.2)) (T rfl rfl)) ?_
        refine lw_v (.bool (decide (¬ ((((segOfV ax ay bx by_).1) = ((segOfV ax ay bx by_).1) ∧ ((segOfV ax ay bx by_).2.1) = ((segOfV ax ay bx by_).2.1)) ∧ ((segOfV ax ay bx by_).2.2.1) = ((segOfV ax ay bx by_).2.2.1) ∧ ((segOfV ax ay bx by_).2.2.2) = ((segOfV ax ay bx by_).2.2.2))))) (dv_move (T rfl rfl)) ?_
        by_cases hb611 : (((segOfV ax ay bx by_).1) = ((segOfV ax ay bx by_).1) ∧ ((segOfV ax ay bx by_).2.1) = ((segOfV ax ay bx by_).2.1)) ∧ ((segOfV ax ay bx by_).2.2.1) = ((segOfV ax ay bx by_).2.2.1) ∧ ((segOfV ax ay bx by_).2.2.2) = ((segOfV ax ay bx by_).2.2.2)
        · -- babT
          refine lw_vy (.bool (decide (segOfOk ax ay bx by_))) (d := 29) rfl rfl (congrArg Value.bool (decide_eq_false (not_not_intro hb611))) (dv_move (T rfl rfl)) ?_
          refine lw_vy (.bool (decide (segOfOk ax ay bx by_))) (d := 29) rfl rfl (congrArg Value.bool (decide_eq_false (not_not_intro hb611))) (dv_move (T rfl rfl)) ?_
          refine lw_vy (.bool ((decide (segOfOk ax ay bx by_)) != (decide (segOfOk ax ay bx by_)))) (d := 29) rfl rfl (congrArg Value.bool (decide_eq_false (not_not_intro hb611))) (dv_neqb (a := decide (segOfOk ax ay bx by_)) (b := decide (segOfOk ax ay bx by_)) ub4 (T rfl rfl) (T rfl rfl)) ?_
          refine lw_v (.bool ((decide (segOfOk ax ay bx by_)) != (decide (segOfOk ax ay bx by_)))) (dv_pick_f (T rfl (congrArg Value.bool (decide_eq_false (not_not_intro hb611)))) (T rfl rfl)) ?_
          refine lw_nil ?_
          rcases Bool.eq_false_or_eq_true ((decide (segOfOk ax ay bx by_)) != (decide (segOfOk ax ay bx by_))) with hb612 | hb612
          · -- babTT
            refine rk_ct (T rfl (congrArg Value.bool hb612)) ?_
            refine rk_seq ?_
            refine rk_reg ?_
            refine lw_v (.bool false) (dv_assign C) ?_
            refine lw_nil ?_
            refine rk_ret Try.func6 (v := .bool false) (res1 Try.results6 (rv_tmp rfl rfl)) ⟨_, rfl, ?_⟩
            exact ⟨(congrArg Value.bool (by grind)), E610⟩
          · -- babTF
            refine rk_cf (T rfl (congrArg Value.bool hb612)) ?_
            refine rk_skip ?_
            refine rk_seq ?_
            refine rk_reg ?_
            refine lw_v (.bool true) (dv_assign C) ?_
            refine lw_nil ?_
            refine rk_ret Try.func6 (v := .bool true) (res1 Try.results6 (rv_tmp rfl rfl)) ⟨_, rfl, ?_⟩
            exact ⟨rfl, E610⟩
        · -- babF
          refine lw_no (d := 29) rfl rfl (congrArg Value.bool (decide_eq_true hb611)) ?_
          refine lw_no (d := 29) rfl rfl (congrArg Value.bool (decide_eq_true hb611)) ?_
          refine lw_no (d := 29) rfl rfl (congrArg Value.bool (decide_eq_true hb611)) ?_
          refine lw_v (.bool true) (dv_pick_t (T rfl (congrArg Value.bool (decide_eq_true hb611))) C) ?_
          refine lw_nil ?_
          refine rk_ct (T rfl rfl) ?_
          refine rk_seq ?_
          refine rk_reg ?_
          refine lw_v (.bool false) (dv_assign C) ?_
          refine lw_nil ?_
          refine rk_ret Try.func6 (v := .bool false) (res1 Try.results6 (rv_tmp rfl rfl)) ⟨_, rfl, ?_⟩
          exact ⟨(congrArg Value.bool (by grind)), E610⟩
    · -- bb
      refine id (oe_alloc ze33 ?_)
      intro b613 w614 n615
      have N616 : w.heap.size ≤ b613 := n615.eq ▸ E518.size
      have H617 := (d517.ext.blk H512)
      have : b487 < b613 := n615.eq ▸ lt_of_blk H617
      have E618 := below_ext E518 E518.size n615.ext
      have H619 := (n615.ext.blk H519)
      have H620 := (n615.ext.blk H520)
      refine ⟨.inr ⟨H619, H620⟩, ?_⟩
      refine aw_one 1 rfl (by kernel_rfl) .none (oe_callf (vs := [.agg #[.int .i64 ax, .int .i64 ay]]) co10 (ar1 (T rfl rfl)) (toSpot_ok ) ?_)
      rintro _ w621 ⟨rfl, e622⟩
      have E623 := below_ext E618 E618.size e622
      have H624 := (e622.blk H619)
      have H625 := (e622.blk H620)
      refine ⟨.inr ⟨H624, H625⟩, ?_⟩
      refine aw_one 3 rfl (by kernel_rfl) .none (oe_callf (vs := [.agg #[.int .i64 bx, .int .i64 by_]]) co10 (ar1 (T rfl rfl)) (toSpot_ok ) ?_)
      rintro _ w626 ⟨rfl, e627⟩
      have E628 := below_ext E623 E623.size e627
      have H629 := (e627.blk H624)
      have H630 := (e627.blk H625)
      refine ⟨.inr ⟨H629, H630⟩, ?_⟩
      refine aw_one 4 rfl (by kernel_rfl) .none (oe_callf (vs := [.agg #[.int .i64 ax, .int .i64 ay], .agg #[.int .i64 bx, .int .i64 by_]]) co16 (ar2 (T rfl rfl) (T rfl rfl)) (iSegOf_ok ) ?_)
      rintro _ w631 ⟨rfl, e632⟩
      have E633 := below_ext E628 E628.size e632
      have H634 := (e632.blk H629)
      have H635 := (e632.blk H630)
      refine ⟨.inr ⟨H634, H635⟩, ?_⟩
      refine aw_pure 5 (.tuple #[.agg #[.int .i64 ((segOfV ax ay bx by_).1), .int .i64 ((segOfV ax ay bx by_).2.1), .int .i64 ((segOfV ax ay bx by_).2.2.1), .int .i64 ((segOfV ax ay bx by_).2.2.2)], .bool (decide (segOfOk ax ay bx by_))]) rfl (by kernel_rfl) .none ⟨H634, H635⟩ (fun _ => dv_move (T rfl rfl)) ?_
      refine aw_pure 6 (.agg #[.int .i64 ((segOfV ax ay bx by_).1), .int .i64 ((segOfV ax ay bx by_).2.1), .int .i64 ((segOfV ax ay bx by_).2.2.1), .int .i64 ((segOfV ax ay bx by_).2.2.2)]) rfl (by kernel_rfl) .none ⟨H634, H635⟩ (fun _ => dv_extract (vs := #[.agg #[.int .i64 ((segOfV ax ay bx by_).1), .int .i64 ((segOfV ax ay bx by_).2.1), .int .i64 ((segOfV ax ay bx by_).2.2.1), .int .i64 ((segOfV ax ay bx by_).2.2.2)], .bool (decide (segOfOk ax ay bx by_))]) (T rfl rfl) rfl) ?_
      refine aw_pure 7 (.bool (decide (segOfOk ax ay bx by_))) rfl (by kernel_rfl) .none ⟨H634, H635⟩ (fun _ => dv_extract (vs := #[.agg #[.int .i64 ((segOfV ax ay bx by_).1), .int .i64 ((segOfV ax ay bx by_).2.1), .int .i64 ((segOfV ax ay bx by_).2.2.1), .int .i64 ((segOfV ax ay bx by_).2.2.2)], .bool (decide (segOfOk ax ay bx by_))]) (T rfl rfl) rfl) ?_
      have H636 := (e632.blk (e627.blk (e622.blk n615.blk)))
      refine aw_one 9 rfl (by kernel_rfl) .none (oe_store (v := .agg #[.int .i64 ((segOfV ax ay bx by_).1), .int .i64 ((segOfV ax ay bx by_).2.1), .int .i64 ((segOfV ax ay bx by_).2.2.1), .int .i64 ((segOfV ax ay bx by_).2.2.2)]) (vs := [.int .i64 ((segOfV ax ay bx by_).1), .int .i64 ((segOfV ax ay bx by_).2.1), .int .i64 ((segOfV ax ay bx by_).2.2.1), .int .i64 ((segOfV ax ay bx by_).2.2.2)]) (l := [.int .i64 ((segOfV ax ay bx by_).1), .int .i64 ((segOfV ax ay bx by_).2.1), .int .i64 ((segOfV ax ay bx by_).2.2.1), .int .i64 ((segOfV ax ay bx by_).2.2.2)]) (T rfl rfl) (T rfl rfl) sz33 rfl rfl rfl H636 rfl ?_)
      intro w637 s638 H639
      have E640 := below_st E633 N616 s638
      have H641 := (s638.blk H634 (by omega))
      have H642 := (s638.blk H635 (by omega))
      refine ⟨.inr ⟨H641, H642⟩, ?_⟩
      refine aw_last 10 (.bool (decide (segOfOk ax ay bx by_))) rfl (by kernel_rfl) .none (fun _ => dv_assign (T rfl rfl)) ?_
      refine aw_done (by kernel_rfl) ?_
      refine rk_seq ?_
      refine rk_seq ?_
      refine rk_reg ?_
      refine lw_v (.agg #[.int .i64 ((segOfV ax ay bx by_).1), .int .i64 ((segOfV ax ay bx by_).2.1), .int .i64 ((segOfV ax ay bx by_).2.2.1), .int .i64 ((segOfV ax ay bx by_).2.2.2)]) (dv_loads (l := [.int .i64 ((segOfV ax ay bx by_).1), .int .i64 ((segOfV ax ay bx by_).2.1), .int .i64 ((segOfV ax ay bx by_).2.2.1), .int .i64 ((segOfV ax ay bx by_).2.2.2)]) ag33 sz33 (T rfl rfl) H639 rfl) ?_
      have H643 := (s638.blk (e632.blk (e627.blk (e622.blk (n615.ext.blk H617)))) (by omega))
      refine lw_v (.agg #[.int .i64 ((segOfV ax ay bx by_).1), .int .i64 ((segOfV ax ay bx by_).2.1), .int .i64 ((segOfV ax ay bx by_).2.2.1), .int .i64 ((segOfV ax ay bx by_).2.2.2)]) (dv_loads (l := [.int .i64 ((segOfV ax ay bx by_).1), .int .i64 ((segOfV ax ay bx by_).2.1), .int .i64 ((segOfV ax ay bx by_).2.2.1), .int .i64 ((segOfV ax ay bx by_).2.2.2)]) ag33 sz33 (T rfl rfl) H643 rfl) ?_
      refine lw_e (oe_callf (vs := [.agg #[.int .i64 ((segOfV ax ay bx by_).1), .int .i64 ((segOfV ax ay bx by_).2.1), .int .i64 ((segOfV ax ay bx by_).2.2.1), .int .i64 ((segOfV ax ay bx by_).2.2.2)], .agg #[.int .i64 ((segOfV ax ay bx by_).1), .int .i64 ((segOfV ax ay bx by_).2.1), .int .i64 ((segOfV ax ay bx by_).2.2.1), .int .i64 ((segOfV ax ay bx by_).2.2.2)]]) co17 (ar2 (T rfl rfl) (T rfl rfl)) (eqSeg_ok ) ?_)
      rintro _ w644 ⟨rfl, e645⟩
      have E646 := below_ext E640 E640.size e645
      refine lw_v (.bool (decide (¬ ((((segOfV ax ay bx by_).1) = ((segOfV ax ay bx by_).1) ∧ ((segOfV ax ay bx by_).2.1) = ((segOfV ax ay bx by_).2.1)) ∧ ((segOfV ax ay bx by_).2.2.1) = ((segOfV ax ay bx by_).2.2.1) ∧ ((segOfV ax ay bx by_).2.2.2) = ((segOfV ax ay bx by_).2.2.2))))) (dv_notd (p := (((segOfV ax ay bx by_).1) = ((segOfV ax ay bx by_).1) ∧ ((segOfV ax ay bx by_).2.1) = ((segOfV ax ay bx by_).2.1)) ∧ ((segOfV ax ay bx by_).2.2.1) = ((segOfV ax ay bx by_).2.2.1) ∧ ((segOfV ax ay bx by_).2.2.2) = ((segOfV ax ay bx by_).2.2.2)) (T rfl rfl)) ?_
      refine lw_v (.bool (decide (¬ ((((segOfV ax ay bx by_).1) = ((segOfV ax ay bx by_).1) ∧ ((segOfV ax ay bx by_).2.1) = ((segOfV ax ay bx by_).2.1)) ∧ ((segOfV ax ay bx by_).2.2.1) = ((segOfV ax ay bx by_).2.2.1) ∧ ((segOfV ax ay bx by_).2.2.2) = ((segOfV ax ay bx by_).2.2.2))))) (dv_move (T rfl rfl)) ?_
      by_cases hb647 : (((segOfV ax ay bx by_).1) = ((segOfV ax ay bx by_).1) ∧ ((segOfV ax ay bx by_).2.1) = ((segOfV ax ay bx by_).2.1)) ∧ ((segOfV ax ay bx by_).2.2.1) = ((segOfV ax ay bx by_).2.2.1) ∧ ((segOfV ax ay bx by_).2.2.2) = ((segOfV ax ay bx by_).2.2.2)
      · -- bbT
        refine lw_vy (.bool (decide (segOfOk ax ay bx by_))) (d := 29) rfl rfl (congrArg Value.bool (decide_eq_false (not_not_intro hb647))) (dv_move (T rfl rfl)) ?_
        refine lw_vy (.bool (decide (segOfOk ax ay bx by_))) (d := 29) rfl rfl (congrArg Value.bool (decide_eq_false (not_not_intro hb647))) (dv_move (T rfl rfl)) ?_
        refine lw_vy (.bool ((decide (segOfOk ax ay bx by_)) != (decide (segOfOk ax ay bx by_)))) (d := 29) rfl rfl (congrArg Value.bool (decide_eq_false (not_not_intro hb647))) (dv_neqb (a := decide (segOfOk ax ay bx by_)) (b := decide (segOfOk ax ay bx by_)) ub4 (T rfl rfl) (T rfl rfl)) ?_
        refine lw_v (.bool ((decide (segOfOk ax ay bx by_)) != (decide (segOfOk ax ay bx by_)))) (dv_pick_f (T rfl (congrArg Value.bool (decide_eq_false (not_not_intro hb647)))) (T rfl rfl)) ?_
        refine lw_nil ?_
        rcases Bool.eq_false_or_eq_true ((decide (segOfOk ax ay bx by_)) != (decide (segOfOk ax ay bx by_))) with hb648 | hb648
        · -- bbTT
          refine rk_ct (T rfl (congrArg Value.bool hb648)) ?_
          refine rk_seq ?_
          refine rk_reg ?_
          refine lw_v (.bool false) (dv_assign C) ?_
          refine lw_nil ?_
          refine rk_ret Try.func6 (v := .bool false) (res1 Try.results6 (rv_tmp rfl rfl)) ⟨_, rfl, ?_⟩
          exact ⟨(congrArg Value.bool (by grind)), E646⟩
        · -- bbTF
          refine rk_cf (T rfl (congrArg Value.bool hb648)) ?_
          refine rk_skip ?_
          refine rk_seq ?_
          refine rk_reg ?_
          refine lw_v (.bool true) (dv_assign C) ?_
          refine lw_nil ?_
          refine rk_ret Try.func6 (v := .bool true) (res1 Try.results6 (rv_tmp rfl rfl)) ⟨_, rfl, ?_⟩
          exact ⟨rfl, E646⟩
      · -- bbF
        refine lw_no (d := 29) rfl rfl (congrArg Value.bool (decide_eq_true hb647)) ?_
        refine lw_no (d := 29) rfl rfl (congrArg Value.bool (decide_eq_true hb647)) ?_
        refine lw_no (d := 29) rfl rfl (congrArg Value.bool (decide_eq_true hb647)) ?_
        refine lw_v (.bool true) (dv_pick_t (T rfl (congrArg Value.bool (decide_eq_true hb647))) C) ?_
        refine lw_nil ?_
        refine rk_ct (T rfl rfl) ?_
        refine rk_seq ?_
        refine rk_reg ?_
        refine lw_v (.bool false) (dv_assign C) ?_
        refine lw_nil ?_
        refine rk_ret Try.func6 (v := .bool false) (res1 Try.results6 (rv_tmp rfl rfl)) ⟨_, rfl, ?_⟩
        exact ⟨(congrArg Value.bool (by grind)), E646⟩
end Go.Proofs.Ytohpoenckafgiaa.W
