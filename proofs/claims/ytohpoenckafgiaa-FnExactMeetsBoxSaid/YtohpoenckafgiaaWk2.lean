/- The walks of a segment and a box. -/
import Derived.Test.YtohpoenckafgiaaWk1
set_option linter.unusedVariables false
namespace Go.Proofs.Ytohpoenckafgiaa.W
open Go Go.RowKit Go.Proofs.Ytohpoenckafgiaa.Fw
attribute [local irreducible] RunK LW AW DV OE Ct
def sgnI (n : Int) : Int := if n < 0 then -1 else if 0 < n then 1 else 0
theorem sgnI_rg (n : Int) : sgnI n = -1 ∨ sgnI n = 0 ∨ sgnI n = 1 := by
  unfold sgnI
  by_cases h : n < 0
  · simp [h]
  · by_cases h2 : 0 < n <;> simp [h, h2]
def crossI (ax ay bx by_ cx cy : Int) : Int := (bx - ax) * (cy - ay) - (by_ - ay) * (cx - ax)
def boxOk (lx ly hx hy : Int) : Prop := spotOk lx ly ∧ spotOk hx hy ∧ lx ≤ hx ∧ ly ≤ hy
instance (lx ly hx hy : Int) : Decidable (boxOk lx ly hx hy) := by unfold boxOk; infer_instance
def mbox (ax ay bx by_ lx ly hx hy : Int) : Prop :=
  ¬ (bx < lx ∨ hx < ax ∨ (ay < ly ∧ by_ < ly) ∨ (hy < ay ∧ hy < by_)) ∧
  ¬ (sgnI (crossI ax ay bx by_ lx ly) = 1 ∧ sgnI (crossI ax ay bx by_ lx hy) = 1 ∧ sgnI (crossI ax ay bx by_ hx ly) = 1 ∧ sgnI (crossI ax ay bx by_ hx hy) = 1) ∧
  ¬ (sgnI (crossI ax ay bx by_ lx ly) = -1 ∧ sgnI (crossI ax ay bx by_ lx hy) = -1 ∧ sgnI (crossI ax ay bx by_ hx ly) = -1 ∧ sgnI (crossI ax ay bx by_ hx hy) = -1)
instance (ax ay bx by_ lx ly hx hy : Int) : Decidable (mbox ax ay bx by_ lx ly hx hy) := by unfold mbox; infer_instance
theorem mrange {ax ay bx by_ lx ly hx hy : Int} (h1 : segOk ax ay bx by_) (h2 : boxOk lx ly hx hy) : (-1000000 ≤ ax ∧ ax ≤ 1000000) ∧ (-1000000 ≤ ay ∧ ay ≤ 1000000) ∧ (-1000000 ≤ bx ∧ bx ≤ 1000000) ∧ (-1000000 ≤ by_ ∧ by_ ≤ 1000000) ∧ (-1000000 ≤ lx ∧ lx ≤ 1000000) ∧ (-1000000 ≤ ly ∧ ly ≤ 1000000) ∧ (-1000000 ≤ hx ∧ hx ≤ 1000000) ∧ (-1000000 ≤ hy ∧ hy ≤ 1000000) := by
  unfold segOk spotOk at h1; unfold boxOk spotOk at h2; omega
def is1 (t k : Int) : Int := if t = k then 1 else 0
theorem arr1 {t u d : Int} (h : t = 1) : u + 1 = u + is1 t 1 ∧ d = d + is1 t (-1) := by unfold is1; rw [if_pos h, if_neg (by omega)]; omega
theorem arr2 {t u d : Int} (h : ¬ t = 1) (h2 : t = -1) : u = u + is1 t 1 ∧ d + 1 = d + is1 t (-1) := by unfold is1; rw [if_neg h, if_pos h2]; omega
theorem arr3 {t u d : Int} (h : ¬ t = 1) (h2 : ¬ t = -1) : u = u + is1 t 1 ∧ d = d + is1 t (-1) := by unfold is1; rw [if_neg h, if_neg h2]; omega
theorem is1_rg (t k : Int) : (t = k ∧ is1 t k = 1) ∨ (t ≠ k ∧ is1 t k = 0) := by unfold is1; split <;> simp [*]
theorem cnt1 {u a b c e k : Int} (hu : u = 0 + is1 a k + is1 b k + is1 c k + is1 e k) : u < 4 ↔ ¬ (a = k ∧ b = k ∧ c = k ∧ e = k) := by
  rcases is1_rg a k with h1 | h1 <;> rcases is1_rg b k with h2 | h2 <;> rcases is1_rg c k with h3 | h3 <;> rcases is1_rg e k with h4 | h4 <;> omega
theorem cnt4 {u d a b c e : Int} (hu : u = 0 + is1 a 1 + is1 b 1 + is1 c 1 + is1 e 1) (hd : d = 0 + is1 a (-1) + is1 b (-1) + is1 c (-1) + is1 e (-1)) : (u < 4 ↔ ¬ (a = 1 ∧ b = 1 ∧ c = 1 ∧ e = 1)) ∧ (d < 4 ↔ ¬ (a = -1 ∧ b = -1 ∧ c = -1 ∧ e = -1)) := ⟨cnt1 hu, cnt1 hd⟩
theorem mb_t {u d ax ay bx by_ lx ly hx hy : Int} (hs : ¬ (bx < lx ∨ hx < ax ∨ (ay < ly ∧ by_ < ly) ∨ (hy < ay ∧ hy < by_)))
    (q1 : u < 4 ↔ ¬ (sgnI (crossI ax ay bx by_ lx ly) = 1 ∧ sgnI (crossI ax ay bx by_ hx hy) = 1 ∧ sgnI (crossI ax ay bx by_ lx hy) = 1 ∧ sgnI (crossI ax ay bx by_ hx ly) = 1))
    (q2 : d < 4 ↔ ¬ (sgnI (crossI ax ay bx by_ lx ly) = -1 ∧ sgnI (crossI ax ay bx by_ hx hy) = -1 ∧ sgnI (crossI ax ay bx by_ lx hy) = -1 ∧ sgnI (crossI ax ay bx by_ hx ly) = -1)) (hu : u < 4) : (d < 4 ↔ mbox ax ay bx by_ lx ly hx hy) := by
  unfold mbox; grind
theorem mb_f {u ax ay bx by_ lx ly hx hy : Int}
    (q1 : u < 4 ↔ ¬ (sgnI (crossI ax ay bx by_ lx ly) = 1 ∧ sgnI (crossI ax ay bx by_ hx hy) = 1 ∧ sgnI (crossI ax ay bx by_ lx hy) = 1 ∧ sgnI (crossI ax ay bx by_ hx ly) = 1)) (hu : ¬ u < 4) : ¬ mbox ax ay bx by_ lx ly hx hy := by
  unfold mbox; grind
theorem mx_lt {a b c : Int} : mx a b < c ↔ a < c ∧ b < c := by unfold mx; split <;> omega
theorem lt_mn {a b c : Int} : c < mn a b ↔ c < a ∧ c < b := by unfold mn; split <;> omega
theorem mn_le {a b c : Int} : mn a b ≤ c ↔ a ≤ c ∨ b ≤ c := by unfold mn; split <;> omega
theorem le_mx {a b c : Int} : c ≤ mx a b ↔ c ≤ a ∨ c ≤ b := by unfold mx; split <;> omega
theorem co18 : callOk Try.prog 18 = true := by kernel_rfl
theorem co19 : callOk Try.prog 19 = true := by kernel_rfl
theorem co31 : callOk Try.prog 31 = true := by kernel_rfl
theorem co32 : callOk Try.prog 32 = true := by kernel_rfl
theorem co33 : callOk Try.prog 33 = true := by kernel_rfl
theorem co34 : callOk Try.prog 34 = true := by kernel_rfl
theorem co35 : callOk Try.prog 35 = true := by kernel_rfl
theorem co36 : callOk Try.prog 36 = true := by kernel_rfl
theorem co37 : callOk Try.prog 37 = true := by kernel_rfl
theorem pl26 : placesB Try.prog 26 = some [(0, 1), (1, 1)] := by kernel_rfl
theorem us53 : Try.prog.underlying 53 = some (.slice 26) := by kernel_rfl
theorem us55 : Try.prog.underlying 55 = some (.slice 2) := by kernel_rfl
theorem zc2 : zcB Try.prog 2 = some [.int .i64 0] := by kernel_rfl
theorem zc26 : zcB Try.prog 26 = some [.int .i64 0, .int .i64 0] := by kernel_rfl
set_option maxRecDepth 100000 in
set_option maxHeartbeats 4000000 in
theorem sign_ok {w : World} {n : Int} : Ct Try.prog 36 [.int .i64 n] w fun v w1 => v = .int .i64 (sgnI n) ∧ Ext w w1 := by
  refine ct_run (n := 9) Try.func36 rfl Try.ntmps36 rfl ?_
  have E0 : Below w.heap.size w w := Below.refl _ _
  refine rk_seq ?_
  refine rk_reg ?_
  refine lw_v (.int .i64 0) (dv_assign C) ?_
  refine lw_nil ?_
  refine rk_seq ?_
  refine rk_block ?_
  refine rk_seq ?_
  refine rk_reg ?_
  refine lw_v (.int .i64 n) (dv_move (T rfl rfl)) ?_
  refine lw_v (.bool (decide (n < 0))) (dv_lss (a := n) (b := 0) (T rfl rfl) C) ?_
  refine lw_v (.bool (decide (n < 0))) (dv_assign (T rfl rfl)) ?_
  refine lw_nil ?_
  by_cases hb1 : n < 0
  · -- T
    refine rk_ct (T rfl (congrArg Value.bool (decide_eq_true hb1))) ?_
    refine rk_seq ?_
    refine rk_reg ?_
    refine lw_v (.int .i64 (-1)) (dv_assign C) ?_
    refine lw_nil ?_
    refine rk_ret Try.func36 (v := .int .i64 (-1)) (res1 Try.results36 (rv_tmp rfl rfl)) ⟨_, rfl, ?_⟩
    exact ⟨(vi (by unfold sgnI; simp [*]; try omega)), E0⟩
  · -- F
    refine rk_cf (T rfl (congrArg Value.bool (decide_eq_false hb1))) ?_
    refine rk_seq ?_
    refine rk_reg ?_
    refine lw_v (.int .i64 n) (dv_move (T rfl rfl)) ?_
    refine lw_v (.bool (decide (0 < n))) (dv_gtr (a := n) (b := 0) (T rfl rfl) C) ?_
    refine lw_v (.bool (decide (0 < n))) (dv_assign (T rfl rfl)) ?_
    refine lw_nil ?_
    by_cases hb2 : 0 < n
    · -- FT
      refine rk_ct (T rfl (congrArg Value.bool (decide_eq_true hb2))) ?_
      refine rk_seq ?_
      refine rk_reg ?_
      refine lw_v (.int .i64 1) (dv_assign C) ?_
      refine lw_nil ?_
      refine rk_ret Try.func36 (v := .int .i64 1) (res1 Try.results36 (rv_tmp rfl rfl)) ⟨_, rfl, ?_⟩
      exact ⟨(vi (by unfold sgnI; simp [*]; try omega)), E0⟩
    · -- FF
      refine rk_cf (T rfl (congrArg Value.bool (decide_eq_false hb2))) ?_
      refine rk_skip ?_
      refine rk_inBlock ?_
      refine rk_seq ?_
      refine rk_reg ?_
      refine lw_v (.int .i64 0) (dv_assign C) ?_
      refine lw_nil ?_
      refine rk_ret Try.func36 (v := .int .i64 0) (res1 Try.results36 (rv_tmp rfl rfl)) ⟨_, rfl, ?_⟩
      exact ⟨(vi (by unfold sgnI; simp [*]; try omega)), E0⟩
set_option maxRecDepth 100000 in
set_option maxHeartbeats 4000000 in
theorem cross_ok {w : World} {ax ay bx by_ cx cy : Int} (h : (-1000000 ≤ ax ∧ ax ≤ 1000000) ∧ (-1000000 ≤ ay ∧ ay ≤ 1000000) ∧ (-1000000 ≤ bx ∧ bx ≤ 1000000) ∧ (-1000000 ≤ by_ ∧ by_ ≤ 1000000) ∧ (-1000000 ≤ cx ∧ cx ≤ 1000000) ∧ (-1000000 ≤ cy ∧ cy ≤ 1000000)) : Ct Try.prog 37 [.agg #[.int .i64 ax, .int .i64 ay], .agg #[.int .i64 bx, .int .i64 by_], .agg #[.int .i64 cx, .int .i64 cy]] w fun v w1 => v = .int .i64 (crossI ax ay bx by_ cx cy) ∧ Ext w w1 := by
  refine ct_run (n := 30) Try.func37 rfl Try.ntmps37 rfl ?_
  have E0 : Below w.heap.size w w := Below.refl _ _
  refine rk_seq ?_
  refine rk_reg ?_
  refine lw_e (oe_box (v := .agg #[.int .i64 ax, .int .i64 ay]) (cs := #[.int .i64 ax, .int .i64 ay]) (T rfl rfl) rfl ?_)
  intro b1 w2 n3
  have N4 : w.heap.size ≤ b1 := n3.eq ▸ E0.size
  have E5 := below_ext E0 E0.size n3.ext
  refine lw_e (oe_box (v := .agg #[.int .i64 bx, .int .i64 by_]) (cs := #[.int .i64 bx, .int .i64 by_]) (T rfl rfl) rfl ?_)
  intro b6 w7 n8
  have N9 : w.heap.size ≤ b6 := n8.eq ▸ E5.size
  have : b1 < b6 := n8.eq ▸ lt_of_blk n3.blk
  have E10 := below_ext E5 E5.size n8.ext
  refine lw_e (oe_box (v := .agg #[.int .i64 cx, .int .i64 cy]) (cs := #[.int .i64 cx, .int .i64 cy]) (T rfl rfl) rfl ?_)
  intro b11 w12 n13
  have N14 : w.heap.size ≤ b11 := n13.eq ▸ E10.size
  have : b6 < b11 := n13.eq ▸ lt_of_blk n8.blk
  have E15 := below_ext E10 E10.size n13.ext
  refine lw_v (.int .i64 0) (dv_assign C) ?_
  refine lw_nil ?_
  refine rk_seq ?_
  refine rk_reg ?_
  refine lw_v (.pointer (some ⟨b6, 0, none⟩)) (dv_fieldAddr (a := ⟨b6, 0, none⟩) (a' := ⟨b6, 0, none⟩) fo26_0 (T rfl rfl) rfl) ?_
  have H16 := (n13.ext.blk n8.blk)
  refine lw_v (.int .i64 bx) (dv_load1 (b := b6) (o := 0) ag2 (T rfl rfl) H16 rfl) ?_
  refine lw_v (.pointer (some ⟨b1, 0, none⟩)) (dv_fieldAddr (a := ⟨b1, 0, none⟩) (a' := ⟨b1, 0, none⟩) fo26_0 (T rfl rfl) rfl) ?_
  have H17 := (n13.ext.blk (n8.ext.blk n3.blk))
  refine lw_v (.int .i64 ax) (dv_load1 (b := b1) (o := 0) ag2 (T rfl rfl) H17 rfl) ?_
  refine lw_v (.int .i64 (bx - ax)) (dv_sub (a := bx) (b := ax) (z := bx - ax) (T rfl rfl) (T rfl rfl) (wr_i64 (by omega) (by omega))) ?_
  refine lw_v (.pointer (some ⟨b11, 1, none⟩)) (dv_fieldAddr (a := ⟨b11, 0, none⟩) (a' := ⟨b11, 1, none⟩) fo26_1 (T rfl rfl) rfl) ?_
  refine lw_v (.int .i64 cy) (dv_load1 (b := b11) (o := 1) ag2 (T rfl rfl) n13.blk rfl) ?_
  refine lw_v (.pointer (some ⟨b1, 1, none⟩)) (dv_fieldAddr (a := ⟨b1, 0, none⟩) (a' := ⟨b1, 1, none⟩) fo26_1 (T rfl rfl) rfl) ?_
  refine lw_v (.int .i64 ay) (dv_load1 (b := b1) (o := 1) ag2 (T rfl rfl) H17 rfl) ?_
  refine lw_v (.int .i64 (cy - ay)) (dv_sub (a := cy) (b := ay) (z := cy - ay) (T rfl rfl) (T rfl rfl) (wr_i64 (by omega) (by omega))) ?_
  have hm18 := mul_bd (A := 2000000) (B := 2000000) (show -2000000 ≤ (bx - ax) by omega) (by omega) (show -2000000 ≤ (cy - ay) by omega) (by omega)
  refine lw_v (.int .i64 ((bx - ax) * (cy - ay))) (dv_mul (a := bx - ax) (b := cy - ay) (z := (bx - ax) * (cy - ay)) (T rfl rfl) (T rfl rfl) (wr_i64 (by omega) (by omega))) ?_
  refine lw_v (.pointer (some ⟨b6, 1, none⟩)) (dv_fieldAddr (a := ⟨b6, 0, none⟩) (a' := ⟨b6, 1, none⟩) fo26_1 (T rfl rfl) rfl) ?_
  refine lw_v (.int .i64 by_) (dv_load1 (b := b6) (o := 1) ag2 (T rfl rfl) H16 rfl) ?_
  refine lw_v (.pointer (some ⟨b1, 1, none⟩)) (dv_fieldAddr (a := ⟨b1, 0, none⟩) (a' := ⟨b1, 1, none⟩) fo26_1 (T rfl rfl) rfl) ?_
  refine lw_v (.int .i64 ay) (dv_load1 (b := b1) (o := 1) ag2 (T rfl rfl) H17 rfl) ?_
  refine lw_v (.int .i64 (by_ - ay)) (dv_sub (a := by_) (b := ay) (z := by_ - ay) (T rfl rfl) (T rfl rfl) (wr_i64 (by omega) (by omega))) ?_
  refine lw_v (.pointer (some ⟨b11, 0, none⟩)) (dv_fieldAddr (a := ⟨b11, 0, none⟩) (a' := ⟨b11, 0, none⟩) fo26_0 (T rfl rfl) rfl) ?_
  refine lw_v (.int .i64 cx) (dv_load1 (b := b11) (o := 0) ag2 (T rfl rfl) n13.blk rfl) ?_
  refine lw_v (.pointer (some ⟨b1, 0, none⟩)) (dv_fieldAddr (a := ⟨b1, 0, none⟩) (a' := ⟨b1, 0, none⟩) fo26_0 (T rfl rfl) rfl) ?_
  refine lw_v (.int .i64 ax) (dv_load1 (b := b1) (o := 0) ag2 (T rfl rfl) H17 rfl) ?_
  refine lw_v (.int .i64 (cx - ax)) (dv_sub (a := cx) (b := ax) (z := cx - ax) (T rfl rfl) (T rfl rfl) (wr_i64 (by omega) (by omega))) ?_
  have hm19 := mul_bd (A := 2000000) (B := 2000000) (show -2000000 ≤ (by_ - ay) by omega) (by omega) (show -2000000 ≤ (cx - ax) by omega) (by omega)
  refine lw_v (.int .i64 ((by_ - ay) * (cx - ax))) (dv_mul (a := by_ - ay) (b := cx - ax) (z := (by_ - ay) * (cx - ax)) (T rfl rfl) (T rfl rfl) (wr_i64 (by omega) (by omega))) ?_
  refine lw_v (.int .i64 (((bx - ax) * (cy - ay)) - ((by_ - ay) * (cx - ax)))) (dv_sub (a := (bx - ax) * (cy - ay)) (b := (by_ - ay) * (cx - ax)) (z := ((bx - ax) * (cy - ay)) - ((by_ - ay) * (cx - ax))) (T rfl rfl) (T rfl rfl) (wr_i64 (by omega) (by omega))) ?_
  refine lw_v (.int .i64 (((bx - ax) * (cy - ay)) - ((by_ - ay) * (cx - ax)))) (dv_assign (T rfl rfl)) ?_
  refine lw_nil ?_
  refine rk_ret Try.func37 (v := .int .i64 (((bx - ax) * (cy - ay)) - ((by_ - ay) * (cx - ax)))) (res1 Try.results37 (rv_tmp rfl rfl)) ⟨_, rfl, ?_⟩
  exact ⟨(vi (by rfl)), E15⟩
set_option maxRecDepth 100000 in
set_option maxHeartbeats 4000000 in
theorem l4Turn_ok {w : World} {ax ay bx by_ cx cy : Int} (h : (-1000000 ≤ ax ∧ ax ≤ 1000000) ∧ (-1000000 ≤ ay ∧ ay ≤ 1000000) ∧ (-1000000 ≤ bx ∧ bx ≤ 1000000) ∧ (-1000000 ≤ by_ ∧ by_ ≤ 1000000) ∧ (-1000000 ≤ cx ∧ cx ≤ 1000000) ∧ (-1000000 ≤ cy ∧ cy ≤ 1000000)) : Ct Try.prog 35 [.agg #[.int .i64 ax, .int .i64 ay], .agg #[.int .i64 bx, .int .i64 by_], .agg #[.int .i64 cx, .int .i64 cy]] w fun v w1 => v = .int .i64 (sgnI (crossI ax ay bx by_ cx cy)) ∧ Ext w w1 := by
  refine ct_run (n := 35) Try.func35 rfl Try.ntmps35 rfl ?_
  have E0 : Below w.heap.size w w := Below.refl _ _
  refine rk_seq ?_
  refine rk_reg ?_
  refine lw_e (oe_box (v := .agg #[.int .i64 ax, .int .i64 ay]) (cs := #[.int .i64 ax, .int .i64 ay]) (T rfl rfl) rfl ?_)
  intro b1 w2 n3
  have N4 : w.heap.size ≤ b1 := n3.eq ▸ E0.size
  have E5 := below_ext E0 E0.size n3.ext
  refine lw_e (oe_box (v := .agg #[.int .i64 bx, .int .i64 by_]) (cs := #[.int .i64 bx, .int .i64 by_]) (T rfl rfl) rfl ?_)
  intro b6 w7 n8
  have N9 : w.heap.size ≤ b6 := n8.eq ▸ E5.size
  have : b1 < b6 := n8.eq ▸ lt_of_blk n3.blk
  have E10 := below_ext E5 E5.size n8.ext
  refine lw_e (oe_box (v := .agg #[.int .i64 cx, .int .i64 cy]) (cs := #[.int .i64 cx, .int .i64 cy]) (T rfl rfl) rfl ?_)
  intro b11 w12 n13
  have N14 : w.heap.size ≤ b11 := n13.eq ▸ E10.size
  have : b6 < b11 := n13.eq ▸ lt_of_blk n8.blk
  have E15 := below_ext E10 E10.size n13.ext
  refine lw_v (.int .i64 0) (dv_assign C) ?_
  refine lw_nil ?_
  refine rk_seq ?_
  refine rk_reg ?_
  refine lw_v (.pointer (some ⟨b6, 0, none⟩)) (dv_fieldAddr (a := ⟨b6, 0, none⟩) (a' := ⟨b6, 0, none⟩) fo26_0 (T rfl rfl) rfl) ?_
  have H16 := (n13.ext.blk n8.blk)
  refine lw_v (.int .i64 bx) (dv_load1 (b := b6) (o := 0) ag2 (T rfl rfl) H16 rfl) ?_
  refine lw_v (.pointer (some ⟨b1, 0, none⟩)) (dv_fieldAddr (a := ⟨b1, 0, none⟩) (a' := ⟨b1, 0, none⟩) fo26_0 (T rfl rfl) rfl) ?_
  have H17 := (n13.ext.blk (n8.ext.blk n3.blk))
  refine lw_v (.int .i64 ax) (dv_load1 (b := b1) (o := 0) ag2 (T rfl rfl) H17 rfl) ?_
  refine lw_v (.int .i64 (bx - ax)) (dv_sub (a := bx) (b := ax) (z := bx - ax) (T rfl rfl) (T rfl rfl) (wr_i64 (by omega) (by omega))) ?_
  refine lw_v (.pointer (some ⟨b11, 1, none⟩)) (dv_fieldAddr (a := ⟨b11, 0, none⟩) (a' := ⟨b11, 1, none⟩) fo26_1 (T rfl rfl) rfl) ?_
  refine lw_v (.int .i64 cy) (dv_load1 (b := b11) (o := 1) ag2 (T rfl rfl) n13.blk rfl) ?_
  refine lw_v (.pointer (some ⟨b1, 1, none⟩)) (dv_fieldAddr (a := ⟨b1, 0, none⟩) (a' := ⟨b1, 1, none⟩) fo26_1 (T rfl rfl) rfl) ?_
  refine lw_v (.int .i64 ay) (dv_load1 (b := b1) (o := 1) ag2 (T rfl rfl) H17 rfl) ?_
  refine lw_v (.int .i64 (cy - ay)) (dv_sub (a := cy) (b := ay) (z := cy - ay) (T rfl rfl) (T rfl rfl) (wr_i64 (by omega) (by omega))) ?_
  have hm18 := mul_bd (A := 2000000) (B := 2000000) (show -2000000 ≤ (bx - ax) by omega) (by omega) (show -2000000 ≤ (cy - ay) by omega) (by omega)
  refine lw_v (.int .i64 ((bx - ax) * (cy - ay))) (dv_mul (a := bx - ax) (b := cy - ay) (z := (bx - ax) * (cy - ay)) (T rfl rfl) (T rfl rfl) (wr_i64 (by omega) (by omega))) ?_
  refine lw_v (.pointer (some ⟨b6, 1, none⟩)) (dv_fieldAddr (a := ⟨b6, 0, none⟩) (a' := ⟨b6, 1, none⟩) fo26_1 (T rfl rfl) rfl) ?_
  refine lw_v (.int .i64 by_) (dv_load1 (b := b6) (o := 1) ag2 (T rfl rfl) H16 rfl) ?_
  refine lw_v (.pointer (some ⟨b1, 1, none⟩)) (dv_fieldAddr (a := ⟨b1, 0, none⟩) (a' := ⟨b1, 1, none⟩) fo26_1 (T rfl rfl) rfl) ?_
  refine lw_v (.int .i64 ay) (dv_load1 (b := b1) (o := 1) ag2 (T rfl rfl) H17 rfl) ?_
  refine lw_v (.int .i64 (by_ - ay)) (dv_sub (a := by_) (b := ay) (z := by_ - ay) (T rfl rfl) (T rfl rfl) (wr_i64 (by omega) (by omega))) ?_
  refine lw_v (.pointer (some ⟨b11, 0, none⟩)) (dv_fieldAddr (a := ⟨b11, 0, none⟩) (a' := ⟨b11, 0, none⟩) fo26_0 (T rfl rfl) rfl) ?_
  refine lw_v (.int .i64 cx) (dv_load1 (b := b11) (o := 0) ag2 (T rfl rfl) n13.blk rfl) ?_
  refine lw_v (.pointer (some ⟨b1, 0, none⟩)) (dv_fieldAddr (a := ⟨b1, 0, none⟩) (a' := ⟨b1, 0, none⟩) fo26_0 (T rfl rfl) rfl) ?_
  refine lw_v (.int .i64 ax) (dv_load1 (b := b1) (o := 0) ag2 (T rfl rfl) H17 rfl) ?_
  refine lw_v (.int .i64 (cx - ax)) (dv_sub (a := cx) (b := ax) (z := cx - ax) (T rfl rfl) (T rfl rfl) (wr_i64 (by omega) (by omega))) ?_
  have hm19 := mul_bd (A := 2000000) (B := 2000000) (show -2000000 ≤ (by_ - ay) by omega) (by omega) (show -2000000 ≤ (cx - ax) by omega) (by omega)
  refine lw_v (.int .i64 ((by_ - ay) * (cx - ax))) (dv_mul (a := by_ - ay) (b := cx - ax) (z := (by_ - ay) * (cx - ax)) (T rfl rfl) (T rfl rfl) (wr_i64 (by omega) (by omega))) ?_
  refine lw_v (.int .i64 (((bx - ax) * (cy - ay)) - ((by_ - ay) * (cx - ax)))) (dv_sub (a := (bx - ax) * (cy - ay)) (b := (by_ - ay) * (cx - ax)) (z := ((bx - ax) * (cy - ay)) - ((by_ - ay) * (cx - ax))) (T rfl rfl) (T rfl rfl) (wr_i64 (by omega) (by omega))) ?_
  refine lw_v (.int .i64 (((bx - ax) * (cy - ay)) - ((by_ - ay) * (cx - ax)))) (dv_assign (T rfl rfl)) ?_
  refine lw_nil ?_
  refine rk_seq ?_
  refine rk_seq ?_
  refine rk_reg ?_
  refine lw_v (.int .i64 (((bx - ax) * (cy - ay)) - ((by_ - ay) * (cx - ax)))) (dv_move (T rfl rfl)) ?_
  refine lw_v (.bool (decide ((((bx - ax) * (cy - ay)) - ((by_ - ay) * (cx - ax))) < 0))) (dv_lss (a := ((bx - ax) * (cy - ay)) - ((by_ - ay) * (cx - ax))) (b := 0) (T rfl rfl) C) ?_
  refine lw_nil ?_
  by_cases hb20 : (((bx - ax) * (cy - ay)) - ((by_ - ay) * (cx - ax))) < 0
  · -- T
    refine rk_ct (T rfl (congrArg Value.bool (decide_eq_true hb20))) ?_
    refine rk_seq ?_
    refine rk_reg ?_
    refine lw_v (.int .i64 (-1)) (dv_assign C) ?_
    refine lw_nil ?_
    refine rk_ret Try.func35 (v := .int .i64 (-1)) (res1 Try.results35 (rv_tmp rfl rfl)) ⟨_, rfl, ?_⟩
    exact ⟨(vi (by unfold sgnI crossI; simp [*]; try omega)), E15⟩
  · -- F
    refine rk_cf (T rfl (congrArg Value.bool (decide_eq_false hb20))) ?_
    refine rk_skip ?_
    refine rk_seq ?_
    refine rk_seq ?_
    refine rk_reg ?_
    refine lw_v (.int .i64 (((bx - ax) * (cy - ay)) - ((by_ - ay) * (cx - ax)))) (dv_move (T rfl rfl)) ?_
    refine lw_v (.bool (decide (0 < (((bx - ax) * (cy - ay)) - ((by_ - ay) * (cx - ax)))))) (dv_gtr (a := ((bx - ax) * (cy - ay)) - ((by_ - ay) * (cx - ax))) (b := 0) (T rfl rfl) C) ?_
    refine lw_nil ?_
    by_cases hb21 : 0 < (((bx - ax) * (cy - ay)) - ((by_ - ay) * (cx - ax)))
    · -- FT
      refine rk_ct (T rfl (congrArg Value.bool (decide_eq_true hb21))) ?_
      refine rk_seq ?_
      refine rk_reg ?_
      refine lw_v (.int .i64 1) (dv_assign C) ?_
      refine lw_nil ?_
      refine rk_ret Try.func35 (v := .int .i64 1) (res1 Try.results35 (rv_tmp rfl rfl)) ⟨_, rfl, ?_⟩
      exact ⟨(vi (by unfold sgnI crossI; simp [*]; try omega)), E15⟩
    · -- FF
      refine rk_cf (T rfl (congrArg Value.bool (decide_eq_false hb21))) ?_
      refine rk_skip ?_
      refine rk_seq ?_
      refine rk_reg ?_
      refine lw_v (.int .i64 0) (dv_assign C) ?_
      refine lw_nil ?_
      refine rk_ret Try.func35 (v := .int .i64 0) (res1 Try.results35 (rv_tmp rfl rfl)) ⟨_, rfl, ?_⟩
      exact ⟨(vi (by unfold sgnI crossI; simp [*]; try omega)), E15⟩
set_option maxRecDepth 100000 in
set_option maxHeartbeats 4000000 in
theorem l4Box_ok {w : World} {lx ly hx hy : Int} : Ct Try.prog 31 [.agg #[.int .i64 lx, .int .i64 ly], .agg #[.int .i64 hx, .int .i64 hy]] w fun v w1 => v = .bool (decide (boxOk lx ly hx hy)) ∧ Ext w w1 := by
  refine ct_run (n := 25) Try.func31 rfl Try.ntmps31 rfl ?_
  have E0 : Below w.heap.size w w := Below.refl _ _
  refine rk_seq ?_
  refine rk_reg ?_
  refine lw_e (oe_box (v := .agg #[.int .i64 lx, .int .i64 ly]) (cs := #[.int .i64 lx, .int .i64 ly]) (T rfl rfl) rfl ?_)
  intro b1 w2 n3
  have N4 : w.heap.size ≤ b1 := n3.eq ▸ E0.size
  have E5 := below_ext E0 E0.size n3.ext
  refine lw_e (oe_box (v := .agg #[.int .i64 hx, .int .i64 hy]) (cs := #[.int .i64 hx, .int .i64 hy]) (T rfl rfl) rfl ?_)
  intro b6 w7 n8
  have N9 : w.heap.size ≤ b6 := n8.eq ▸ E5.size
  have : b1 < b6 := n8.eq ▸ lt_of_blk n3.blk
  have E10 := below_ext E5 E5.size n8.ext
  refine lw_v (.bool false) (dv_assign C) ?_
  refine lw_nil ?_
  refine rk_seq ?_
  refine rk_reg ?_
  have H11 := (n8.ext.blk n3.blk)
  refine lw_v (.agg #[.int .i64 lx, .int .i64 ly]) (dv_loads (l := [.int .i64 lx, .int .i64 ly]) ag26 sz26 (T rfl rfl) H11 rfl) ?_
  refine lw_e (oe_callf (vs := [.agg #[.int .i64 lx, .int .i64 ly]]) co9 (ar1 (T rfl rfl)) (sSpotOk_ok ) ?_)
  rintro _ w12 ⟨rfl, e13⟩
  have E14 := below_ext E10 E10.size e13
  refine lw_v (.bool (decide (spotOk lx ly))) (dv_move (T rfl rfl)) ?_
  by_cases hb15 : spotOk lx ly
  · -- T
    have H16 := (e13.blk n8.blk)
    refine lw_vy (.agg #[.int .i64 hx, .int .i64 hy]) (d := 7) rfl rfl (congrArg Value.bool (decide_eq_true hb15)) (dv_loads (l := [.int .i64 hx, .int .i64 hy]) ag26 sz26 (T rfl rfl) H16 rfl) ?_
    refine lw_ey (d := 7) rfl rfl (congrArg Value.bool (decide_eq_true hb15)) (oe_callf (vs := [.agg #[.int .i64 hx, .int .i64 hy]]) co9 (ar1 (T rfl rfl)) (sSpotOk_ok ) ?_)
    rintro _ w17 ⟨rfl, e18⟩
    have E19 := below_ext E14 E14.size e18
    refine lw_v (.bool (decide (spotOk hx hy))) (dv_pick_t (T rfl (congrArg Value.bool (decide_eq_true hb15))) (T rfl rfl)) ?_
    refine lw_v (.bool (decide (spotOk hx hy))) (dv_move (T rfl rfl)) ?_
    by_cases hb20 : spotOk hx hy
    · -- TT
      refine lw_vy (.pointer (some ⟨b1, 0, none⟩)) (d := 11) rfl rfl (congrArg Value.bool (decide_eq_true hb20)) (dv_fieldAddr (a := ⟨b1, 0, none⟩) (a' := ⟨b1, 0, none⟩) fo26_0 (T rfl rfl) rfl) ?_
      have H21 := (e18.blk (e13.blk H11))
      refine lw_vy (.int .i64 lx) (d := 11) rfl rfl (congrArg Value.bool (decide_eq_true hb20)) (dv_load1 (b := b1) (o := 0) ag2 (T rfl rfl) H21 rfl) ?_
      refine lw_vy (.pointer (some ⟨b6, 0, none⟩)) (d := 11) rfl rfl (congrArg Value.bool (decide_eq_true hb20)) (dv_fieldAddr (a := ⟨b6, 0, none⟩) (a' := ⟨b6, 0, none⟩) fo26_0 (T rfl rfl) rfl) ?_
      have H22 := (e18.blk H16)
      refine lw_vy (.int .i64 hx) (d := 11) rfl rfl (congrArg Value.bool (decide_eq_true hb20)) (dv_load1 (b := b6) (o := 0) ag2 (T rfl rfl) H22 rfl) ?_
      refine lw_vy (.bool (decide (lx ≤ hx))) (d := 11) rfl rfl (congrArg Value.bool (decide_eq_true hb20)) (dv_leq (a := lx) (b := hx) (T rfl rfl) (T rfl rfl)) ?_
      refine lw_v (.bool (decide (lx ≤ hx))) (dv_pick_t (T rfl (congrArg Value.bool (decide_eq_true hb20))) (T rfl rfl)) ?_
      refine lw_v (.bool (decide (lx ≤ hx))) (dv_move (T rfl rfl)) ?_
      by_cases hb23 : lx ≤ hx
      · -- TTT
        refine lw_vy (.pointer (some ⟨b1, 1, none⟩)) (d := 18) rfl rfl (congrArg Value.bool (decide_eq_true hb23)) (dv_fieldAddr (a := ⟨b1, 0, none⟩) (a' := ⟨b1, 1, none⟩) fo26_1 (T rfl rfl) rfl) ?_
        refine lw_vy (.int .i64 ly) (d := 18) rfl rfl (congrArg Value.bool (decide_eq_true hb23)) (dv_load1 (b := b1) (o := 1) ag2 (T rfl rfl) H21 rfl) ?_
        refine lw_vy (.pointer (some ⟨b6, 1, none⟩)) (d := 18) rfl rfl (congrArg Value.bool (decide_eq_true hb23)) (dv_fieldAddr (a := ⟨b6, 0, none⟩) (a' := ⟨b6, 1, none⟩) fo26_1 (T rfl rfl) rfl) ?_
        refine lw_vy (.int .i64 hy) (d := 18) rfl rfl (congrArg Value.bool (decide_eq_true hb23)) (dv_load1 (b := b6) (o := 1) ag2 (T rfl rfl) H22 rfl) ?_
        refine lw_vy (.bool (decide (ly ≤ hy))) (d := 18) rfl rfl (congrArg Value.bool (decide_eq_true hb23)) (dv_leq (a := ly) (b := hy) (T rfl rfl) (T rfl rfl)) ?_
        refine lw_v (.bool (decide (ly ≤ hy))) (dv_pick_t (T rfl (congrArg Value.bool (decide_eq_true hb23))) (T rfl rfl)) ?_
        refine lw_v (.bool (decide (ly ≤ hy))) (dv_assign (T rfl rfl)) ?_
        refine lw_nil ?_
        refine rk_ret Try.func31 (v := .bool (decide (ly ≤ hy))) (res1 Try.results31 (rv_tmp rfl rfl)) ⟨_, rfl, ?_⟩
        exact ⟨(vb (by grind [boxOk])), E19⟩
      · -- TTF
        refine lw_no (d := 18) rfl rfl (congrArg Value.bool (decide_eq_false hb23)) ?_
        refine lw_no (d := 18) rfl rfl (congrArg Value.bool (decide_eq_false hb23)) ?_
        refine lw_no (d := 18) rfl rfl (congrArg Value.bool (decide_eq_false hb23)) ?_
        refine lw_no (d := 18) rfl rfl (congrArg Value.bool (decide_eq_false hb23)) ?_
        refine lw_no (d := 18) rfl rfl (congrArg Value.bool (decide_eq_false hb23)) ?_
        refine lw_v (.bool false) (dv_pick_f (T rfl (congrArg Value.bool (decide_eq_false hb23))) C) ?_
        refine lw_v (.bool false) (dv_assign (T rfl rfl)) ?_
        refine lw_nil ?_
        refine rk_ret Try.func31 (v := .bool false) (res1 Try.results31 (rv_tmp rfl rfl)) ⟨_, rfl, ?_⟩
        exact ⟨(vf (by grind [boxOk])), E19⟩
    · -- TF
      refine lw_no (d := 11) rfl rfl (congrArg Value.bool (decide_eq_false hb20)) ?_
      refine lw_no (d := 11) rfl rfl (congrArg Value.bool (decide_eq_false hb20)) ?_
      refine lw_no (d := 11) rfl rfl (congrArg Value.bool (decide_eq_false hb20)) ?_
      refine lw_no (d := 11) rfl rfl (congrArg Value.bool (decide_eq_false hb20)) ?_
      refine lw_no (d := 11) rfl rfl (congrArg Value.bool (decide_eq_false hb20)) ?_
      refine lw_v (.bool false) (dv_pick_f (T rfl (congrArg Value.bool (decide_eq_false hb20))) C) ?_
      refine lw_v (.bool false) (dv_move (T rfl rfl)) ?_
      refine lw_no (d := 18) rfl rfl (rfl) ?_
      refine lw_no (d := 18) rfl rfl (rfl) ?_
      refine lw_no (d := 18) rfl rfl (rfl) ?_
      refine lw_no (d := 18) rfl rfl (rfl) ?_
      refine lw_no (d := 18) rfl rfl (rfl) ?_
      refine lw_v (.bool false) (dv_pick_f (T rfl rfl) C) ?_
      refine lw_v (.bool false) (dv_assign (T rfl rfl)) ?_
      refine lw_nil ?_
      refine rk_ret Try.func31 (v := .bool false) (res1 Try.results31 (rv_tmp rfl rfl)) ⟨_, rfl, ?_⟩
      exact ⟨(vf (by grind [boxOk])), E19⟩
  · -- F
    refine lw_no (d := 7) rfl rfl (congrArg Value.bool (decide_eq_false hb15)) ?_
    refine lw_no (d := 7) rfl rfl (congrArg Value.bool (decide_eq_false hb15)) ?_
    refine lw_v (.bool false) (dv_pick_f (T rfl (congrArg Value.bool (decide_eq_false hb15))) C) ?_
    refine lw_v (.bool false) (dv_move (T rfl rfl)) ?_
    refine lw_no (d := 11) rfl rfl (rfl) ?_
    refine lw_no (d := 11) rfl rfl (rfl) ?_
    refine lw_no (d := 11) rfl rfl (rfl) ?_
    refine lw_no (d := 11) rfl rfl (rfl) ?_
    refine lw_no (d := 11) rfl rfl (rfl) ?_
    refine lw_v (.bool false) (dv_pick_f (T rfl rfl) C) ?_
    refine lw_v (.bool false) (dv_move (T rfl rfl)) ?_
    refine lw_no (d := 18) rfl rfl (rfl) ?_
    refine lw_no (d := 18) rfl rfl (rfl) ?_
    refine lw_no (d := 18) rfl rfl (rfl) ?_
    refine lw_no (d := 18) rfl rfl (rfl) ?_
    refine lw_no (d := 18) rfl rfl (rfl) ?_
    refine lw_v (.bool false) (dv_pick_f (T rfl rfl) C) ?_
    refine lw_v (.bool false) (dv_assign (T rfl rfl)) ?_
    refine lw_nil ?_
    refine rk_ret Try.func31 (v := .bool false) (res1 Try.results31 (rv_tmp rfl rfl)) ⟨_, rfl, ?_⟩
    exact ⟨(vf (by grind [boxOk])), E14⟩
set_option maxRecDepth 100000 in
set_option maxHeartbeats 4000000 in
theorem isBox_ok {w : World} {lx ly hx hy : Int} : Ct Try.prog 33 [.agg #[.int .i64 lx, .int .i64 ly], .agg #[.int .i64 hx, .int .i64 hy]] w fun v w1 => v = .bool (decide (boxOk lx ly hx hy)) ∧ Ext w w1 := by
  refine ct_run (n := 25) Try.func33 rfl Try.ntmps33 rfl ?_
  have E0 : Below w.heap.size w w := Below.refl _ _
  refine rk_seq ?_
  refine rk_reg ?_
  refine lw_e (oe_box (v := .agg #[.int .i64 lx, .int .i64 ly]) (cs := #[.int .i64 lx, .int .i64 ly]) (T rfl rfl) rfl ?_)
  intro b1 w2 n3
  have N4 : w.heap.size ≤ b1 := n3.eq ▸ E0.size
  have E5 := below_ext E0 E0.size n3.ext
  refine lw_e (oe_box (v := .agg #[.int .i64 hx, .int .i64 hy]) (cs := #[.int .i64 hx, .int .i64 hy]) (T rfl rfl) rfl ?_)
  intro b6 w7 n8
  have N9 : w.heap.size ≤ b6 := n8.eq ▸ E5.size
  have : b1 < b6 := n8.eq ▸ lt_of_blk n3.blk
  have E10 := below_ext E5 E5.size n8.ext
  refine lw_v (.bool false) (dv_assign C) ?_
  refine lw_nil ?_
  refine rk_seq ?_
  refine rk_reg ?_
  have H11 := (n8.ext.blk n3.blk)
  refine lw_v (.agg #[.int .i64 lx, .int .i64 ly]) (dv_loads (l := [.int .i64 lx, .int .i64 ly]) ag26 sz26 (T rfl rfl) H11 rfl) ?_
  refine lw_e (oe_callf (vs := [.agg #[.int .i64 lx, .int .i64 ly]]) co11 (ar1 (T rfl rfl)) (iSpotOk_ok ) ?_)
  rintro _ w12 ⟨rfl, e13⟩
  have E14 := below_ext E10 E10.size e13
  refine lw_v (.bool (decide (spotOk lx ly))) (dv_move (T rfl rfl)) ?_
  by_cases hb15 : spotOk lx ly
  · -- T
    have H16 := (e13.blk n8.blk)
    refine lw_vy (.agg #[.int .i64 hx, .int .i64 hy]) (d := 7) rfl rfl (congrArg Value.bool (decide_eq_true hb15)) (dv_loads (l := [.int .i64 hx, .int .i64 hy]) ag26 sz26 (T rfl rfl) H16 rfl) ?_
    refine lw_ey (d := 7) rfl rfl (congrArg Value.bool (decide_eq_true hb15)) (oe_callf (vs := [.agg #[.int .i64 hx, .int .i64 hy]]) co11 (ar1 (T rfl rfl)) (iSpotOk_ok ) ?_)
    rintro _ w17 ⟨rfl, e18⟩
    have E19 := below_ext E14 E14.size e18
    refine lw_v (.bool (decide (spotOk hx hy))) (dv_pick_t (T rfl (congrArg Value.bool (decide_eq_true hb15))) (T rfl rfl)) ?_
    refine lw_v (.bool (decide (spotOk hx hy))) (dv_move (T rfl rfl)) ?_
    by_cases hb20 : spotOk hx hy
    · -- TT
      refine lw_vy (.pointer (some ⟨b1, 0, none⟩)) (d := 11) rfl rfl (congrArg Value.bool (decide_eq_true hb20)) (dv_fieldAddr (a := ⟨b1, 0, none⟩) (a' := ⟨b1, 0, none⟩) fo26_0 (T rfl rfl) rfl) ?_
      have H21 := (e18.blk (e13.blk H11))
      refine lw_vy (.int .i64 lx) (d := 11) rfl rfl (congrArg Value.bool (decide_eq_true hb20)) (dv_load1 (b := b1) (o := 0) ag2 (T rfl rfl) H21 rfl) ?_
      refine lw_vy (.pointer (some ⟨b6, 0, none⟩)) (d := 11) rfl rfl (congrArg Value.bool (decide_eq_true hb20)) (dv_fieldAddr (a := ⟨b6, 0, none⟩) (a' := ⟨b6, 0, none⟩) fo26_0 (T rfl rfl) rfl) ?_
      have H22 := (e18.blk H16)
      refine lw_vy (.int .i64 hx) (d := 11) rfl rfl (congrArg Value.bool (decide_eq_true hb20)) (dv_load1 (b := b6) (o := 0) ag2 (T rfl rfl) H22 rfl) ?_
      refine lw_vy (.bool (decide (lx ≤ hx))) (d := 11) rfl rfl (congrArg Value.bool (decide_eq_true hb20)) (dv_leq (a := lx) (b := hx) (T rfl rfl) (T rfl rfl)) ?_
      refine lw_v (.bool (decide (lx ≤ hx))) (dv_pick_t (T rfl (congrArg Value.bool (decide_eq_true hb20))) (T rfl rfl)) ?_
      refine lw_v (.bool (decide (lx ≤ hx))) (dv_move (T rfl rfl)) ?_
      by_cases hb23 : lx ≤ hx
      · -- TTT
        refine lw_vy (.pointer (some ⟨b1, 1, none⟩)) (d := 18) rfl rfl (congrArg Value.bool (decide_eq_true hb23)) (dv_fieldAddr (a := ⟨b1, 0, none⟩) (a' := ⟨b1, 1, none⟩) fo26_1 (T rfl rfl) rfl) ?_
        refine lw_vy (.int .i64 ly) (d := 18) rfl rfl (congrArg Value.bool (decide_eq_true hb23)) (dv_load1 (b := b1) (o := 1) ag2 (T rfl rfl) H21 rfl) ?_
        refine lw_vy (.pointer (some ⟨b6, 1, none⟩)) (d := 18) rfl rfl (congrArg Value.bool (decide_eq_true hb23)) (dv_fieldAddr (a := ⟨b6, 0, none⟩) (a' := ⟨b6, 1, none⟩) fo26_1 (T rfl rfl) rfl) ?_
        refine lw_vy (.int .i64 hy) (d := 18) rfl rfl (congrArg Value.bool (decide_eq_true hb23)) (dv_load1 (b := b6) (o := 1) ag2 (T rfl rfl) H22 rfl) ?_
        refine lw_vy (.bool (decide (ly ≤ hy))) (d := 18) rfl rfl (congrArg Value.bool (decide_eq_true hb23)) (dv_leq (a := ly) (b := hy) (T rfl rfl) (T rfl rfl)) ?_
        refine lw_v (.bool (decide (ly ≤ hy))) (dv_pick_t (T rfl (congrArg Value.bool (decide_eq_true hb23))) (T rfl rfl)) ?_
        refine lw_v (.bool (decide (ly ≤ hy))) (dv_assign (T rfl rfl)) ?_
        refine lw_nil ?_
        refine rk_ret Try.func33 (v := .bool (decide (ly ≤ hy))) (res1 Try.results33 (rv_tmp rfl rfl)) ⟨_, rfl, ?_⟩
        exact ⟨(vb (by grind [boxOk])), E19⟩
      · -- TTF
        refine lw_no (d := 18) rfl rfl (congrArg Value.bool (decide_eq_false hb23)) ?_
        refine lw_no (d := 18) rfl rfl (congrArg Value.bool (decide_eq_false hb23)) ?_
        refine lw_no (d := 18) rfl rfl (congrArg Value.bool (decide_eq_false hb23)) ?_
        refine lw_no (d := 18) rfl rfl (congrArg Value.bool (decide_eq_false hb23)) ?_
        refine lw_no (d := 18) rfl rfl (congrArg Value.bool (decide_eq_false hb23)) ?_
        refine lw_v (.bool false) (dv_pick_f (T rfl (congrArg Value.bool (decide_eq_false hb23))) C) ?_
        refine lw_v (.bool false) (dv_assign (T rfl rfl)) ?_
        refine lw_nil ?_
        refine rk_ret Try.func33 (v := .bool false) (res1 Try.results33 (rv_tmp rfl rfl)) ⟨_, rfl, ?_⟩
        exact ⟨(vf (by grind [boxOk])), E19⟩
    · -- TF
      refine lw_no (d := 11) rfl rfl (congrArg Value.bool (decide_eq_false hb20)) ?_
      refine lw_no (d := 11) rfl rfl (congrArg Value.bool (decide_eq_false hb20)) ?_
      refine lw_no (d := 11) rfl rfl (congrArg Value.bool (decide_eq_false hb20)) ?_
      refine lw_no (d := 11) rfl rfl (congrArg Value.bool (decide_eq_false hb20)) ?_
      refine lw_no (d := 11) rfl rfl (congrArg Value.bool (decide_eq_false hb20)) ?_
      refine lw_v (.bool false) (dv_pick_f (T rfl (congrArg Value.bool (decide_eq_false hb20))) C) ?_
      refine lw_v (.bool false) (dv_move (T rfl rfl)) ?_
      refine lw_no (d := 18) rfl rfl (rfl) ?_
      refine lw_no (d := 18) rfl rfl (rfl) ?_
      refine lw_no (d := 18) rfl rfl (rfl) ?_
      refine lw_no (d := 18) rfl rfl (rfl) ?_
      refine lw_no (d := 18) rfl rfl (rfl) ?_
      refine lw_v (.bool false) (dv_pick_f (T rfl rfl) C) ?_
      refine lw_v (.bool false) (dv_assign (T rfl rfl)) ?_
      refine lw_nil ?_
      refine rk_ret Try.func33 (v := .bool false) (res1 Try.results33 (rv_tmp rfl rfl)) ⟨_, rfl, ?_⟩
      exact ⟨(vf (by grind [boxOk])), E19⟩
  · -- F
    refine lw_no (d := 7) rfl rfl (congrArg Value.bool (decide_eq_false hb15)) ?_
    refine lw_no (d := 7) rfl rfl (congrArg Value.bool (decide_eq_false hb15)) ?_
    refine lw_v (.bool false) (dv_pick_f (T rfl (congrArg Value.bool (decide_eq_false hb15))) C) ?_
    refine lw_v (.bool false) (dv_move (T rfl rfl)) ?_
    refine lw_no (d := 11) rfl rfl (rfl) ?_
    refine lw_no (d := 11) rfl rfl (rfl) ?_
    refine lw_no (d := 11) rfl rfl (rfl) ?_
    refine lw_no (d := 11) rfl rfl (rfl) ?_
    refine lw_no (d := 11) rfl rfl (rfl) ?_
    refine lw_v (.bool false) (dv_pick_f (T rfl rfl) C) ?_
    refine lw_v (.bool false) (dv_move (T rfl rfl)) ?_
    refine lw_no (d := 18) rfl rfl (rfl) ?_
    refine lw_no (d := 18) rfl rfl (rfl) ?_
    refine lw_no (d := 18) rfl rfl (rfl) ?_
    refine lw_no (d := 18) rfl rfl (rfl) ?_
    refine lw_no (d := 18) rfl rfl (rfl) ?_
    refine lw_v (.bool false) (dv_pick_f (T rfl rfl) C) ?_
    refine lw_v (.bool false) (dv_assign (T rfl rfl)) ?_
    refine lw_nil ?_
    refine rk_ret Try.func33 (v := .bool false) (res1 Try.results33 (rv_tmp rfl rfl)) ⟨_, rfl, ?_⟩
    exact ⟨(vf (by grind [boxOk])), E14⟩
set_option maxRecDepth 100000 in
set_option maxHeartbeats 4000000 in
theorem iMeets_ok {w : World} {ax ay bx by_ lx ly hx hy : Int} (h : (-1000000 ≤ ax ∧ ax ≤ 1000000) ∧ (-1000000 ≤ ay ∧ ay ≤ 1000000) ∧ (-1000000 ≤ bx ∧ bx ≤ 1000000) ∧ (-1000000 ≤ by_ ∧ by_ ≤ 1000000) ∧ (-1000000 ≤ lx ∧ lx ≤ 1000000) ∧ (-1000000 ≤ ly ∧ ly ≤ 1000000) ∧ (-1000000 ≤ hx ∧ hx ≤ 1000000) ∧ (-1000000 ≤ hy ∧ hy ≤ 1000000)) : Ct Try.prog 34 [.agg #[.int .i64 ax, .int .i64 ay, .int .i64 bx, .int .i64 by_], .agg #[.int .i64 lx, .int .i64 ly], .agg #[.int .i64 hx, .int .i64 hy]] w fun v w1 => v = .bool (decide (mbox ax ay bx by_ lx ly hx hy)) ∧ Ext w w1 := by
  refine ct_run (n := 95) Try.func34 rfl Try.ntmps34 rfl ?_
  have E0 : Below w.heap.size w w := Below.refl _ _
  refine rk_seq ?_
  refine rk_reg ?_
  refine lw_e (oe_box (v := .agg #[.int .i64 ax, .int .i64 ay, .int .i64 bx, .int .i64 by_]) (cs := #[.int .i64 ax, .int .i64 ay, .int .i64 bx, .int .i64 by_]) (T rfl rfl) rfl ?_)
  intro b1 w2 n3
  have N4 : w.heap.size ≤ b1 := n3.eq ▸ E0.size
  have E5 := below_ext E0 E0.size n3.ext
  refine lw_e (oe_box (v := .agg #[.int .i64 lx, .int .i64 ly]) (cs := #[.int .i64 lx, .int .i64 ly]) (T rfl rfl) rfl ?_)
  intro b6 w7 n8
  have N9 : w.heap.size ≤ b6 := n8.eq ▸ E5.size
  have : b1 < b6 := n8.eq ▸ lt_of_blk n3.blk
  have E10 := below_ext E5 E5.size n8.ext
  refine lw_e (oe_box (v := .agg #[.int .i64 hx, .int .i64 hy]) (cs := #[.int .i64 hx, .int .i64 hy]) (T rfl rfl) rfl ?_)
  intro b11 w12 n13
  have N14 : w.heap.size ≤ b11 := n13.eq ▸ E10.size
  have : b6 < b11 := n13.eq ▸ lt_of_blk n8.blk
  have E15 := below_ext E10 E10.size n13.ext
  refine lw_v (.bool false) (dv_assign C) ?_
  refine lw_nil ?_
  refine rk_seq ?_
  refine rk_seq ?_
  refine rk_reg ?_
  refine lw_v (.pointer (some ⟨b1, 2, none⟩)) (dv_fieldAddr (a := ⟨b1, 0, none⟩) (a' := ⟨b1, 2, none⟩) fo33_1 (T rfl rfl) rfl) ?_
  refine lw_v (.pointer (some ⟨b1, 2, none⟩)) (dv_fieldAddr (a := ⟨b1, 2, none⟩) (a' := ⟨b1, 2, none⟩) fo26_0 (T rfl rfl) rfl) ?_
  have H16 := (n13.ext.blk (n8.ext.blk n3.blk))
  refine lw_v (.int .i64 bx) (dv_load1 (b := b1) (o := 2) ag2 (T rfl rfl) H16 rfl) ?_
  refine lw_v (.pointer (some ⟨b6, 0, none⟩)) (dv_fieldAddr (a := ⟨b6, 0, none⟩) (a' := ⟨b6, 0, none⟩) fo26_0 (T rfl rfl) rfl) ?_
  have H17 := (n13.ext.blk n8.blk)
  refine lw_v (.int .i64 lx) (dv_load1 (b := b6) (o := 0) ag2 (T rfl rfl) H17 rfl) ?_
  refine lw_v (.bool (decide (bx < lx))) (dv_lss (a := bx) (b := lx) (T rfl rfl) (T rfl rfl)) ?_
  refine lw_v (.bool (decide (bx < lx))) (dv_move (T rfl rfl)) ?_
  by_cases hb18 : bx < lx
  · -- T
    refine lw_no (d := 20) rfl rfl (congrArg Value.bool (decide_eq_true hb18)) ?_
    refine lw_no (d := 20) rfl rfl (congrArg Value.bool (decide_eq_true hb18)) ?_
    refine lw_no (d := 20) rfl rfl (congrArg Value.bool (decide_eq_true hb18)) ?_
    refine lw_no (d := 20) rfl rfl (congrArg Value.bool (decide_eq_true hb18)) ?_
    refine lw_no (d := 20) rfl rfl (congrArg Value.bool (decide_eq_true hb18)) ?_
    refine lw_no (d := 20) rfl rfl (congrArg Value.bool (decide_eq_true hb18)) ?_
    refine lw_v (.bool true) (dv_pick_t (T rfl (congrArg Value.bool (decide_eq_true hb18))) C) ?_
    refine lw_v (.bool true) (dv_move (T rfl rfl)) ?_
    refine lw_no (d := 28) rfl rfl (rfl) ?_
    refine lw_no (d := 28) rfl rfl (rfl) ?_
    refine lw_no (d := 28) rfl rfl (rfl) ?_
    refine lw_no (d := 28) rfl rfl (rfl) ?_
    refine lw_no (d := 28) rfl rfl (rfl) ?_
    refine lw_no (d := 28) rfl rfl (rfl) ?_
    refine lw_no (d := 28) rfl rfl (rfl) ?_
    refine lw_no (d := 28) rfl rfl (rfl) ?_
    refine lw_no (d := 28) rfl rfl (rfl) ?_
    refine lw_no (d := 28) rfl rfl (rfl) ?_
    refine lw_v (.bool true) (dv_pick_t (T rfl rfl) C) ?_
    refine lw_v (.bool true) (dv_move (T rfl rfl)) ?_
    refine lw_no (d := 40) rfl rfl (rfl) ?_
    refine lw_no (d := 40) rfl rfl (rfl) ?_
    refine lw_no (d := 40) rfl rfl (rfl) ?_
    refine lw_no (d := 40) rfl rfl (rfl) ?_
    refine lw_no (d := 40) rfl rfl (rfl) ?_
    refine lw_no (d := 40) rfl rfl (rfl) ?_
    refine lw_no (d := 40) rfl rfl (rfl) ?_
    refine lw_no (d := 40) rfl rfl (rfl) ?_
    refine lw_no (d := 40) rfl rfl (rfl) ?_
    refine lw_no (d := 40) rfl rfl (rfl) ?_
    refine lw_v (.bool true) (dv_pick_t (T rfl rfl) C) ?_
    refine lw_nil ?_
    refine rk_ct (T rfl rfl) ?_
    refine rk_seq ?_
    refine rk_reg ?_
    refine lw_v (.bool false) (dv_assign C) ?_
    refine lw_nil ?_
    refine rk_ret Try.func34 (v := .bool false) (res1 Try.results34 (rv_tmp rfl rfl)) ⟨_, rfl, ?_⟩
    have t1 := sgnI_rg (crossI ax ay bx by_ lx ly); have t2 := sgnI_rg (crossI ax ay bx by_ lx hy); have t3 := sgnI_rg (crossI ax ay bx by_ hx ly); have t4 := sgnI_rg (crossI ax ay bx by_ hx hy)
    exact ⟨(vf (by first | (unfold mbox; omega) | (simp only [mn_le, le_mx]; unfold mbox; omega))), E15⟩
  · -- F
    refine lw_vy (.pointer (some ⟨b1, 0, none⟩)) (d := 20) rfl rfl (congrArg Value.bool (decide_eq_false hb18)) (dv_fieldAddr (a := ⟨b1, 0, none⟩) (a' := ⟨b1, 0, none⟩) fo33_0 (T rfl rfl) rfl) ?_
    refine lw_vy (.pointer (some ⟨b1, 0, none⟩)) (d := 20) rfl rfl (congrArg Value.bool (decide_eq_false hb18)) (dv_fieldAddr (a := ⟨b1, 0, none⟩) (a' := ⟨b1, 0, none⟩) fo26_0 (T rfl rfl) rfl) ?_
    refine lw_vy (.int .i64 ax) (d := 20) rfl rfl (congrArg Value.bool (decide_eq_false hb18)) (dv_load1 (b := b1) (o := 0) ag2 (T rfl rfl) H16 rfl) ?_
    refine lw_vy (.pointer (some ⟨b11, 0, none⟩)) (d := 20) rfl rfl (congrArg Value.bool (decide_eq_false hb18)) (dv_fieldAddr (a := ⟨b11, 0, none⟩) (a' := ⟨b11, 0, none⟩) fo26_0 (T rfl rfl) rfl) ?_
    refine lw_vy (.int .i64 hx) (d := 20) rfl rfl (congrArg Value.bool (decide_eq_false hb18)) (dv_load1 (b := b11) (o := 0) ag2 (T rfl rfl) n13.blk rfl) ?_
    refine lw_vy (.bool (decide (hx < ax))) (d := 20) rfl rfl (congrArg Value.bool (decide_eq_false hb18)) (dv_gtr (a := ax) (b := hx) (T rfl rfl) (T rfl rfl)) ?_
    refine lw_v (.bool (decide (hx < ax))) (dv_pick_f (T rfl (congrArg Value.bool (decide_eq_false hb18))) (T rfl rfl)) ?_
    refine lw_v (.bool (decide (hx < ax))) (dv_move (T rfl rfl)) ?_
    by_cases hb19 : hx < ax
    · -- FT
      refine lw_no (d := 28) rfl rfl (congrArg Value.bool (decide_eq_true hb19)) ?_
      refine lw_no (d := 28) rfl rfl (congrArg Value.bool (decide_eq_true hb19)) ?_
      refine lw_no (d := 28) rfl rfl (congrArg Value.bool (decide_eq_true hb19)) ?_
      refine lw_no (d := 28) rfl rfl (congrArg Value.bool (decide_eq_true hb19)) ?_
      refine lw_no (d := 28) rfl rfl (congrArg Value.bool (decide_eq_true hb19)) ?_
      refine lw_no (d := 28) rfl rfl (congrArg Value.bool (decide_eq_true hb19)) ?_
      refine lw_no (d := 28) rfl rfl (congrArg Value.bool (decide_eq_true hb19)) ?_
      refine lw_no (d := 28) rfl rfl (congrArg Value.bool (decide_eq_true hb19)) ?_
      refine lw_no (d := 28) rfl rfl (congrArg Value.bool (decide_eq_true hb19)) ?_
      refine lw_no (d := 28) rfl rfl (congrArg Value.bool (decide_eq_true hb19)) ?_
      refine lw_v (.bool true) (dv_pick_t (T rfl (congrArg Value.bool (decide_eq_true hb19))) C) ?_
      refine lw_v (.bool true) (dv_move (T rfl rfl)) ?_
      refine lw_no (d := 40) rfl rfl (rfl) ?_
      refine lw_no (d := 40) rfl rfl (rfl) ?_
      refine lw_no (d := 40) rfl rfl (rfl) ?_
      refine lw_no (d := 40) rfl rfl (rfl) ?_
      refine lw_no (d := 40) rfl rfl (rfl) ?_
      refine lw_no (d := 40) rfl rfl (rfl) ?_
      refine lw_no (d := 40) rfl rfl (rfl) ?_
      refine lw_no (d := 40) rfl rfl (rfl) ?_
      refine lw_no (d := 40) rfl rfl (rfl) ?_
      refine lw_no (d := 40) rfl rfl (rfl) ?_
      refine lw_v (.bool true) (dv_pick_t (T rfl rfl) C) ?_
      refine lw_nil ?_
      refine rk_ct (T rfl rfl) ?_
      refine rk_seq ?_
      refine rk_reg ?_
      refine lw_v (.bool false) (dv_assign C) ?_
      refine lw_nil ?_
      refine rk_ret Try.func34 (v := .bool false) (res1 Try.results34 (rv_tmp rfl rfl)) ⟨_, rfl, ?_⟩
      have t1 := sgnI_rg (crossI ax ay bx by_ lx ly); have t2 := sgnI_rg (crossI ax ay bx by_ lx hy); have t3 := sgnI_rg (crossI ax ay bx by_ hx ly); have t4 := sgnI_rg (crossI ax ay bx by_ hx hy)
      exact ⟨(vf (by first | (unfold mbox; omega) | (simp only [mn_le, le_mx]; unfold mbox; omega))), E15⟩
    · -- FF
      refine lw_vy (.pointer (some ⟨b1, 0, none⟩)) (d := 28) rfl rfl (congrArg Value.bool (decide_eq_false hb19)) (dv_fieldAddr (a := ⟨b1, 0, none⟩) (a' := ⟨b1, 0, none⟩) fo33_0 (T rfl rfl) rfl) ?_
      refine lw_vy (.pointer (some ⟨b1, 1, none⟩)) (d := 28) rfl rfl (congrArg Value.bool (decide_eq_false hb19)) (dv_fieldAddr (a := ⟨b1, 0, none⟩) (a' := ⟨b1, 1, none⟩) fo26_1 (T rfl rfl) rfl) ?_
      refine lw_vy (.int .i64 ay) (d := 28) rfl rfl (congrArg Value.bool (decide_eq_false hb19)) (dv_load1 (b := b1) (o := 1) ag2 (T rfl rfl) H16 rfl) ?_
      refine lw_vy (.pointer (some ⟨b1, 2, none⟩)) (d := 28) rfl rfl (congrArg Value.bool (decide_eq_false hb19)) (dv_fieldAddr (a := ⟨b1, 0, none⟩) (a' := ⟨b1, 2, none⟩) fo33_1 (T rfl rfl) rfl) ?_
      refine lw_vy (.pointer (some ⟨b1, 3, none⟩)) (d := 28) rfl rfl (congrArg Value.bool (decide_eq_false hb19)) (dv_fieldAddr (a := ⟨b1, 2, none⟩) (a' := ⟨b1, 3, none⟩) fo26_1 (T rfl rfl) rfl) ?_
      refine lw_vy (.int .i64 by_) (d := 28) rfl rfl (congrArg Value.bool (decide_eq_false hb19)) (dv_load1 (b := b1) (o := 3) ag2 (T rfl rfl) H16 rfl) ?_
      refine lw_vy (.int .i64 (mx ay by_)) (d := 28) rfl rfl (congrArg Value.bool (decide_eq_false hb19)) (dv_max (a := ay) (b := by_) (T rfl rfl) (T rfl rfl)) ?_
      refine lw_vy (.pointer (some ⟨b6, 1, none⟩)) (d := 28) rfl rfl (congrArg Value.bool (decide_eq_false hb19)) (dv_fieldAddr (a := ⟨b6, 0, none⟩) (a' := ⟨b6, 1, none⟩) fo26_1 (T rfl rfl) rfl) ?_
      refine lw_vy (.int .i64 ly) (d := 28) rfl rfl (congrArg Value.bool (decide_eq_false hb19)) (dv_load1 (b := b6) (o := 1) ag2 (T rfl rfl) H17 rfl) ?_
      refine lw_vy (.bool (decide ((mx ay by_) < ly))) (d := 28) rfl rfl (congrArg Value.bool (decide_eq_false hb19)) (dv_lss (a := mx ay by_) (b := ly) (T rfl rfl) (T rfl rfl)) ?_
      refine lw_v (.bool (decide ((mx ay by_) < ly))) (dv_pick_f (T rfl (congrArg Value.bool (decide_eq_false hb19))) (T rfl rfl)) ?_
      refine lw_v (.bool (decide ((mx ay by_) < ly))) (dv_move (T rfl rfl)) ?_
      by_cases hb20 : (mx ay by_) < ly
      · -- FFT
        refine lw_no (d := 40) rfl rfl (congrArg Value.bool (decide_eq_true hb20)) ?_
        refine lw_no (d := 40) rfl rfl (congrArg Value.bool (decide_eq_true hb20)) ?_
        refine lw_no (d := 40) rfl rfl (congrArg Value.bool (decide_eq_true hb20)) ?_
        refine lw_no (d := 40) rfl rfl (congrArg Value.bool (decide_eq_true hb20)) ?_
        refine lw_no (d := 40) rfl rfl (congrArg Value.bool (decide_eq_true hb20)) ?_
        refine lw_no (d := 40) rfl rfl (congrArg Value.bool (decide_eq_true hb20)) ?_
        refine lw_no (d := 40) rfl rfl (congrArg Value.bool (decide_eq_true hb20)) ?_
        refine lw_no (d := 40) rfl rfl (congrArg Value.bool (decide_eq_true hb20)) ?_
        refine lw_no (d := 40) rfl rfl (congrArg Value.bool (decide_eq_true hb20)) ?_
        refine lw_no (d := 40) rfl rfl (congrArg Value.bool (decide_eq_true hb20)) ?_
        refine lw_v (.bool true) (dv_pick_t (T rfl (congrArg Value.bool (decide_eq_true hb20))) C) ?_
        refine lw_nil ?_
        refine rk_ct (T rfl rfl) ?_
        refine rk_seq ?_
        refine rk_reg ?_
        refine lw_v (.bool false) (dv_assign C) ?_
        refine lw_nil ?_
        refine rk_ret Try.func34 (v := .bool false) (res1 Try.results34 (rv_tmp rfl rfl)) ⟨_, rfl, ?_⟩
        simp only [mx_lt, lt_mn, mn_le, le_mx] at hb20
        have t1 := sgnI_rg (crossI ax ay bx by_ lx ly); have t2 := sgnI_rg (crossI ax ay bx by_ lx hy); have t3 := sgnI_rg (crossI ax ay bx by_ hx ly); have t4 := sgnI_rg (crossI ax ay bx by_ hx hy)
        exact ⟨(vf (by first | (unfold mbox; omega) | (simp only [mn_le, le_mx]; unfold mbox; omega))), E15⟩
      · -- FFF
        refine lw_vy (.pointer (some ⟨b1, 0, none⟩)) (d := 40) rfl rfl (congrArg Value.bool (decide_eq_false hb20)) (dv_fieldAddr (a := ⟨b1, 0, none⟩) (a' := ⟨b1, 0, none⟩) fo33_0 (T rfl rfl) rfl) ?_
        refine lw_vy (.pointer (some ⟨b1, 1, none⟩)) (d := 40) rfl rfl (congrArg Value.bool (decide_eq_false hb20)) (dv_fieldAddr (a := ⟨b1, 0, none⟩) (a' := ⟨b1, 1, none⟩) fo26_1 (T rfl rfl) rfl) ?_
        refine lw_vy (.int .i64 ay) (d := 40) rfl rfl (congrArg Value.bool (decide_eq_false hb20)) (dv_load1 (b := b1) (o := 1) ag2 (T rfl rfl) H16 rfl) ?_
        refine lw_vy (.pointer (some ⟨b1, 2, none⟩)) (d := 40) rfl rfl (congrArg Value.bool (decide_eq_false hb20)) (dv_fieldAddr (a := ⟨b1, 0, none⟩) (a' := ⟨b1, 2, none⟩) fo33_1 (T rfl rfl) rfl) ?_
        refine lw_vy (.pointer (some ⟨b1, 3, none⟩)) (d := 40) rfl rfl (congrArg Value.bool (decide_eq_false hb20)) (dv_fieldAddr (a := ⟨b1, 2, none⟩) (a' := ⟨b1, 3, none⟩) fo26_1 (T rfl rfl) rfl) ?_
        refine lw_vy (.int .i64 by_) (d := 40) rfl rfl (congrArg Value.bool (decide_eq_false hb20)) (dv_load1 (b := b1) (o := 3) ag2 (T rfl rfl) H16 rfl) ?_
        refine lw_vy (.int .i64 (mn ay by_)) (d := 40) rfl rfl (congrArg Value.bool (decide_eq_false hb20)) (dv_min (a := ay) (b := by_) (T rfl rfl) (T rfl rfl)) ?_
        refine lw_vy (.pointer (some ⟨b11, 1, none⟩)) (d := 40) rfl rfl (congrArg Value.bool (decide_eq_false hb20)) (dv_fieldAddr (a := ⟨b11, 0, none⟩) (a' := ⟨b11, 1, none⟩) fo26_1 (T rfl rfl) rfl) ?_
        refine lw_vy (.int .i64 hy) (d := 40) rfl rfl (congrArg Value.bool (decide_eq_false hb20)) (dv_load1 (b := b11) (o := 1) ag2 (T rfl rfl) n13.blk rfl) ?_
        refine lw_vy (.bool (decide (hy < (mn ay by_)))) (d := 40) rfl rfl (congrArg Value.bool (decide_eq_false hb20)) (dv_gtr (a := mn ay by_) (b := hy) (T rfl rfl) (T rfl rfl)) ?_
        refine lw_v (.bool (decide (hy < (mn ay by_)))) (dv_pick_f (T rfl (congrArg Value.bool (decide_eq_false hb20))) (T rfl rfl)) ?_
        refine lw_nil ?_
        by_cases hb21 : hy < (mn ay by_)
        · -- FFFT
          refine rk_ct (T rfl (congrArg Value.bool (decide_eq_true hb21))) ?_
          refine rk_seq ?_
          refine rk_reg ?_
          refine lw_v (.bool false) (dv_assign C) ?_
          refine lw_nil ?_
          refine rk_ret Try.func34 (v := .bool false) (res1 Try.results34 (rv_tmp rfl rfl)) ⟨_, rfl, ?_⟩
          simp only [mx_lt, lt_mn, mn_le, le_mx] at hb20
          simp only [mx_lt, lt_mn, mn_le, le_mx] at hb21
          have t1 := sgnI_rg (crossI ax ay bx by_ lx ly); have t2 := sgnI_rg (crossI ax ay bx by_ lx hy); have t3 := sgnI_rg (crossI ax ay bx by_ hx ly); have t4 := sgnI_rg (crossI ax ay bx by_ hx hy)
          exact ⟨(vf (by first | (unfold mbox; omega) | (simp only [mn_le, le_mx]; unfold mbox; omega))), E15⟩
        · -- FFFF
          refine rk_cf (T rfl (congrArg Value.bool (decide_eq_false hb21))) ?_
          refine rk_skip ?_
          refine rk_seq ?_
          refine rk_reg ?_
          refine lw_v (.int .i64 1) (dv_assign C) ?_
          refine lw_v (.int .i64 (-1)) (dv_assign C) ?_
          refine lw_nil ?_
          refine rk_seq ?_
          refine rk_seq ?_
          refine rk_reg ?_
          refine lw_v (.pointer (some ⟨b6, 0, none⟩)) (dv_fieldAddr (a := ⟨b6, 0, none⟩) (a' := ⟨b6, 0, none⟩) fo26_0 (T rfl rfl) rfl) ?_
          refine lw_v (.int .i64 lx) (dv_load1 (b := b6) (o := 0) ag2 (T rfl rfl) H17 rfl) ?_
          refine lw_v (.pointer (some ⟨b11, 0, none⟩)) (dv_fieldAddr (a := ⟨b11, 0, none⟩) (a' := ⟨b11, 0, none⟩) fo26_0 (T rfl rfl) rfl) ?_
          refine lw_v (.int .i64 hx) (dv_load1 (b := b11) (o := 0) ag2 (T rfl rfl) n13.blk rfl) ?_
          refine lw_e (oe_buildSlice (pv := [(0, .int .i64 lx), (1, .int .i64 hx)]) (init := [.int .i64 0, .int .i64 0]) (l := [.int .i64 lx, .int .i64 hx]) us55 sz2 rfl rfl zc2 (by kernel_rfl) ⟨rfl, (T rfl rfl), ⟨rfl, (T rfl rfl), trivial⟩⟩ rfl ?_)
          intro b22 w23 n24
          have N25 : w.heap.size ≤ b22 := n24.eq ▸ E15.size
          have : b11 < b22 := n24.eq ▸ lt_of_blk n13.blk
          have E26 := below_ext E15 E15.size n24.ext
          refine lw_v (.int .i64 2) (dv_len (ad := some ⟨b22, 0, none⟩) (l := 2) (c := 2) us55 (T rfl rfl)) ?_
          refine lw_v (.int .i64 0) (dv_move C) ?_
          refine lw_nil ?_
          refine rk_block ?_
          refine rk_unroll ?_
          refine rk_seq ?_
          refine rk_reg ?_
          refine lw_v (.bool (decide (((0 : Int) < 2 : Prop)))) (dv_lss (a := 0) (b := 2) (T rfl rfl) (T rfl rfl)) ?_
          refine lw_nil ?_
          refine rk_seq ?_
          refine rk_ct (T rfl (rfl)) ?_
          refine rk_skip ?_
          refine rk_seq ?_
          refine rk_block ?_
          refine rk_seq ?_
          refine rk_reg ?_
          refine lw_v (.pointer (some ⟨b22, 0, none⟩)) (dv_indexAddr (a := ⟨b22, 0, none⟩) (a' := ⟨b22, 0, none⟩) (l := 2) (c := 2) (j := 0) us55 sz2 (T rfl rfl) (T rfl rfl) (by decide) (by decide) rfl) ?_
          refine lw_v (.int .i64 lx) (dv_load1 (b := b22) (o := 0) ag2 (T rfl rfl) n24.blk rfl) ?_
          refine lw_v (.int .i64 lx) (dv_assign (T rfl rfl)) ?_
          refine lw_nil ?_
          refine rk_seq ?_
          refine rk_reg ?_
          refine lw_v (.pointer (some ⟨b6, 1, none⟩)) (dv_fieldAddr (a := ⟨b6, 0, none⟩) (a' := ⟨b6, 1, none⟩) fo26_1 (T rfl rfl) rfl) ?_
          have H27 := (n24.ext.blk H17)
          refine lw_v (.int .i64 ly) (dv_load1 (b := b6) (o := 1) ag2 (T rfl rfl) H27 rfl) ?_
          refine lw_v (.pointer (some ⟨b11, 1, none⟩)) (dv_fieldAddr (a := ⟨b11, 0, none⟩) (a' := ⟨b11, 1, none⟩) fo26_1 (T rfl rfl) rfl) ?_
          have H28 := (n24.ext.blk n13.blk)
          refine lw_v (.int .i64 hy) (dv_load1 (b := b11) (o := 1) ag2 (T rfl rfl) H28 rfl) ?_
          refine lw_e (oe_buildSlice (pv := [(0, .int .i64 ly), (1, .int .i64 hy)]) (init := [.int .i64 0, .int .i64 0]) (l := [.int .i64 ly, .int .i64 hy]) us55 sz2 rfl rfl zc2 (by kernel_rfl) ⟨rfl, (T rfl rfl), ⟨rfl, (T rfl rfl), trivial⟩⟩ rfl ?_)
          intro b29 w30 n31
          have N32 : w.heap.size ≤ b29 := n31.eq ▸ E26.size
          have : b22 < b29 := n31.eq ▸ lt_of_blk n24.blk
          have E33 := below_ext E26 E26.size n31.ext
          refine lw_v (.int .i64 2) (dv_len (ad := some ⟨b29, 0, none⟩) (l := 2) (c := 2) us55 (T rfl rfl)) ?_
          refine lw_v (.int .i64 0) (dv_move C) ?_
          refine lw_nil ?_
          refine rk_block ?_
          refine rk_unroll ?_
          refine rk_seq ?_
          refine rk_reg ?_
          refine lw_v (.bool (decide (((0 : Int) < 2 : Prop)))) (dv_lss (a := 0) (b := 2) (T rfl rfl) (T rfl rfl)) ?_
          refine lw_nil ?_
          refine rk_seq ?_
          refine rk_ct (T rfl (rfl)) ?_
          refine rk_skip ?_
          refine rk_seq ?_
          refine rk_block ?_
          refine rk_seq ?_
          refine rk_reg ?_
          refine lw_v (.pointer (some ⟨b29, 0, none⟩)) (dv_indexAddr (a := ⟨b29, 0, none⟩) (a' := ⟨b29, 0, none⟩) (l := 2) (c := 2) (j := 0) us55 sz2 (T rfl rfl) (T rfl rfl) (by decide) (by decide) rfl) ?_
          refine lw_v (.int .i64 ly) (dv_load1 (b := b29) (o := 0) ag2 (T rfl rfl) n31.blk rfl) ?_
          refine lw_v (.int .i64 ly) (dv_assign (T rfl rfl)) ?_
          refine lw_nil ?_
          refine rk_seq ?_
          refine rk_reg ?_
          refine lw_v (.pointer (some ⟨b1, 0, none⟩)) (dv_fieldAddr (a := ⟨b1, 0, none⟩) (a' := ⟨b1, 0, none⟩) fo33_0 (T rfl rfl) rfl) ?_
          have H34 := (n31.ext.blk (n24.ext.blk H16))
          refine lw_v (.agg #[.int .i64 ax, .int .i64 ay]) (dv_loads (l := [.int .i64 ax, .int .i64 ay]) ag26 sz26 (T rfl rfl) H34 rfl) ?_
          refine lw_v (.pointer (some ⟨b1, 2, none⟩)) (dv_fieldAddr (a := ⟨b1, 0, none⟩) (a' := ⟨b1, 2, none⟩) fo33_1 (T rfl rfl) rfl) ?_
          refine lw_v (.agg #[.int .i64 bx, .int .i64 by_]) (dv_loads (l := [.int .i64 bx, .int .i64 by_]) ag26 sz26 (T rfl rfl) H34 rfl) ?_
          refine lw_v (.int .i64 lx) (dv_move (T rfl rfl)) ?_
          refine lw_v (.int .i64 ly) (dv_move (T rfl rfl)) ?_
          refine lw_v (.agg #[.int .i64 lx, .int .i64 ly]) (dv_build (pv := [(0, .int .i64 lx), (1, .int .i64 ly)]) (l := [.int .i64 lx, .int .i64 ly]) zc26 pl26 ⟨rfl, (T rfl rfl), ⟨rfl, (T rfl rfl), trivial⟩⟩ rfl) ?_
          refine lw_e (oe_callf (vs := [.agg #[.int .i64 ax, .int .i64 ay], .agg #[.int .i64 bx, .int .i64 by_], .agg #[.int .i64 lx, .int .i64 ly]]) co37 (ar3 (T rfl rfl) (T rfl rfl) (T rfl rfl)) (cross_ok (by omega)) ?_)
          rintro _ w35 ⟨rfl, e36⟩
          have E37 := below_ext E33 E33.size e36
          refine lw_e (oe_callf (vs := [.int .i64 (crossI ax ay bx by_ lx ly)]) co36 (ar1 (T rfl rfl)) (sign_ok ) ?_)
          rintro _ w38 ⟨rfl, e39⟩
          have E40 := below_ext E37 E37.size e39
          refine lw_v (.int .i64 (sgnI (crossI ax ay bx by_ lx ly))) (dv_assign (T rfl rfl)) ?_
          refine lw_nil ?_
          refine rk_reg ?_
          refine lw_v (.int .i64 1) (dv_move (T rfl rfl)) ?_
          refine lw_v (.int .i64 (sgnI (crossI ax ay bx by_ lx ly))) (dv_move (T rfl rfl)) ?_
          refine lw_v (.int .i64 (mn 1 (sgnI (crossI ax ay bx by_ lx ly)))) (dv_min (a := 1) (b := sgnI (crossI ax ay bx by_ lx ly)) (T rfl rfl) (T rfl rfl)) ?_
          refine lw_v (.int .i64 (-1)) (dv_move (T rfl rfl)) ?_
          refine lw_v (.int .i64 (sgnI (crossI ax ay bx by_ lx ly))) (dv_move (T rfl rfl)) ?_
          refine lw_v (.int .i64 (mx (-1) (sgnI (crossI ax ay bx by_ lx ly)))) (dv_max (a := -1) (b := sgnI (crossI ax ay bx by_ lx ly)) (T rfl rfl) (T rfl rfl)) ?_
          refine lw_v (.int .i64 (mn 1 (sgnI (crossI ax ay bx by_ lx ly)))) (dv_assign (T rfl rfl)) ?_
          refine lw_v (.int .i64 (mx (-1) (sgnI (crossI ax ay bx by_ lx ly)))) (dv_assign (T rfl rfl)) ?_
          refine lw_nil ?_
          refine rk_inBlock ?_
          refine rk_reg ?_
          refine lw_v (.int .i64 1) (dv_add (a := 0) (b := 1) (z := 1) (T rfl rfl) C (by decide)) ?_
          refine lw_v (.int .i64 1) (dv_move (T rfl rfl)) ?_
          refine lw_nil ?_
          refine rk_inLoop ?_
          refine rk_seq ?_
          refine rk_reg ?_
          refine lw_v (.bool (decide (((1 : Int) < 2 : Prop)))) (dv_lss (a := 1) (b := 2) (T rfl rfl) (T rfl rfl)) ?_
          refine lw_nil ?_
          refine rk_seq ?_
          refine rk_ct (T rfl (rfl)) ?_
          refine rk_skip ?_
          refine rk_seq ?_
          refine rk_block ?_
          refine rk_seq ?_
          refine rk_reg ?_
          refine lw_v (.pointer (some ⟨b29, 1, none⟩)) (dv_indexAddr (a := ⟨b29, 0, none⟩) (a' := ⟨b29, 1, none⟩) (l := 2) (c := 2) (j := 1) us55 sz2 (T rfl rfl) (T rfl rfl) (by decide) (by decide) rfl) ?_
          have H41 := (e39.blk (e36.blk n31.blk))
          refine lw_v (.int .i64 hy) (dv_load1 (b := b29) (o := 1) ag2 (T rfl rfl) H41 rfl) ?_
          refine lw_v (.int .i64 hy) (dv_assign (T rfl rfl)) ?_
          refine lw_nil ?_
          refine rk_seq ?_
          refine rk_reg ?_
          refine lw_v (.pointer (some ⟨b1, 0, none⟩)) (dv_fieldAddr (a := ⟨b1, 0, none⟩) (a' := ⟨b1, 0, none⟩) fo33_0 (T rfl rfl) rfl) ?_
          have H42 := (e39.blk (e36.blk H34))
          refine lw_v (.agg #[.int .i64 ax, .int .i64 ay]) (dv_loads (l := [.int .i64 ax, .int .i64 ay]) ag26 sz26 (T rfl rfl) H42 rfl) ?_
          refine lw_v (.pointer (some ⟨b1, 2, none⟩)) (dv_fieldAddr (a := ⟨b1, 0, none⟩) (a' := ⟨b1, 2, none⟩) fo33_1 (T rfl rfl) rfl) ?_
          refine lw_v (.agg #[.int .i64 bx, .int .i64 by_]) (dv_loads (l := [.int .i64 bx, .int .i64 by_]) ag26 sz26 (T rfl rfl) H42 rfl) ?_
          refine lw_v (.int .i64 lx) (dv_move (T rfl rfl)) ?_
          refine lw_v (.int .i64 hy) (dv_move (T rfl rfl)) ?_
          refine lw_v (.agg #[.int .i64 lx, .int .i64 hy]) (dv_build (pv := [(0, .int .i64 lx), (1, .int .i64 hy)]) (l := [.int .i64 lx, .int .i64 hy]) zc26 pl26 ⟨rfl, (T rfl rfl), ⟨rfl, (T rfl rfl), trivial⟩⟩ rfl) ?_
          refine lw_e (oe_callf (vs := [.agg #[.int .i64 ax, .int .i64 ay], .agg #[.int .i64 bx, .int .i64 by_], .agg #[.int .i64 lx, .int .i64 hy]]) co37 (ar3 (T rfl rfl) (T rfl rfl) (T rfl rfl)) (cross_ok (by omega)) ?_)
          rintro _ w43 ⟨rfl, e44⟩
          have E45 := below_ext E40 E40.size e44
          refine lw_e (oe_callf (vs := [.int .i64 (crossI ax ay bx by_ lx hy)]) co36 (ar1 (T rfl rfl)) (sign_ok ) ?_)
          rintro _ w46 ⟨rfl, e47⟩
          have E48 := below_ext E45 E45.size e47
          refine lw_v (.int .i64 (sgnI (crossI ax ay bx by_ lx hy))) (dv_assign (T rfl rfl)) ?_
          refine lw_nil ?_
          refine rk_reg ?_
          refine lw_v (.int .i64 (mn 1 (sgnI (crossI ax ay bx by_ lx ly)))) (dv_move (T rfl rfl)) ?_
          refine lw_v (.int .i64 (sgnI (crossI ax ay bx by_ lx hy))) (dv_move (T rfl rfl)) ?_
          refine lw_v (.int .i64 (mn (mn 1 (sgnI (crossI ax ay bx by_ lx ly))) (sgnI (crossI ax ay bx by_ lx hy)))) (dv_min (a := mn 1 (sgnI (crossI ax ay bx by_ lx ly))) (b := sgnI (crossI ax ay bx by_ lx hy)) (T rfl rfl) (T rfl rfl)) ?_
          refine lw_v (.int .i64 (mx (-1) (sgnI (crossI ax ay bx by_ lx ly)))) (dv_move (T rfl rfl)) ?_
          refine lw_v (.int .i64 (sgnI (crossI ax ay bx by_ lx hy))) (dv_move (T rfl rfl)) ?_
          refine lw_v (.int .i64 (mx (mx (-1) (sgnI (crossI ax ay bx by_ lx ly))) (sgnI (crossI ax ay bx by_ lx hy)))) (dv_max (a := mx (-1) (sgnI (crossI ax ay bx by_ lx ly))) (b := sgnI (crossI ax ay bx by_ lx hy)) (T rfl rfl) (T rfl rfl)) ?_
          refine lw_v (.int .i64 (mn (mn 1 (sgnI (crossI ax ay bx by_ lx ly))) (sgnI (crossI ax ay bx by_ lx hy)))) (dv_assign (T rfl rfl)) ?_
          refine lw_v (.int .i64 (mx (mx (-1) (sgnI (crossI ax ay bx by_ lx ly))) (sgnI (crossI ax ay bx by_ lx hy)))) (dv_assign (T rfl rfl)) ?_
          refine lw_nil ?_
          refine rk_inBlock ?_
          refine rk_reg ?_
          refine lw_v (.int .i64 2) (dv_add (a := 1) (b := 1) (z := 2) (T rfl rfl) C (by decide)) ?_
          refine lw_v (.int .i64 2) (dv_move (T rfl rfl)) ?_
          refine lw_nil ?_
          refine rk_inLoop ?_
          refine rk_seq ?_
          refine rk_reg ?_
          refine lw_v (.bool (decide (((2 : Int) < 2 : Prop)))) (dv_lss (a := 2) (b := 2) (T rfl rfl) (T rfl rfl)) ?_
          refine lw_nil ?_
          refine rk_seq ?_
          refine rk_cf (T rfl (rfl)) ?_
          refine rk_exit rfl ?_
          refine rk_inBlock ?_
          refine rk_reg ?_
          refine lw_v (.int .i64 1) (dv_add (a := 0) (b := 1) (z := 1) (T rfl rfl) C (by decide)) ?_
          refine lw_v (.int .i64 1) (dv_move (T rfl rfl)) ?_
          refine lw_nil ?_
          refine rk_inLoop ?_
          refine rk_seq ?_
          refine rk_reg ?_
          refine lw_v (.bool (decide (((1 : Int) < 2 : Prop)))) (dv_lss (a := 1) (b := 2) (T rfl rfl) (T rfl rfl)) ?_
          refine lw_nil ?_
          refine rk_seq ?_
          refine rk_ct (T rfl (rfl)) ?_
          refine rk_skip ?_
          refine rk_seq ?_
          refine rk_block ?_
          refine rk_seq ?_
          refine rk_reg ?_
          refine lw_v (.pointer (some ⟨b22, 1, none⟩)) (dv_indexAddr (a := ⟨b22, 0, none⟩) (a' := ⟨b22, 1, none⟩) (l := 2) (c := 2) (j := 1) us55 sz2 (T rfl rfl) (T rfl rfl) (by decide) (by decide) rfl) ?_
          have H49 := (e47.blk (e44.blk (e39.blk (e36.blk (n31.ext.blk n24.blk)))))
          refine lw_v (.int .i64 hx) (dv_load1 (b := b22) (o := 1) ag2 (T rfl rfl) H49 rfl) ?_
          refine lw_v (.int .i64 hx) (dv_assign (T rfl rfl)) ?_
          refine lw_nil ?_
          refine rk_seq ?_
          refine rk_reg ?_
          refine lw_v (.pointer (some ⟨b6, 1, none⟩)) (dv_fieldAddr (a := ⟨b6, 0, none⟩) (a' := ⟨b6, 1, none⟩) fo26_1 (T rfl rfl) rfl) ?_
          have H50 := (e47.blk (e44.blk (e39.blk (e36.blk (n31.ext.blk H27)))))
          refine lw_v (.int .i64 ly) (dv_load1 (b := b6) (o := 1) ag2 (T rfl rfl) H50 rfl) ?_
          refine lw_v (.pointer (some ⟨b11, 1, none⟩)) (dv_fieldAddr (a := ⟨b11, 0, none⟩) (a' := ⟨b11, 1, none⟩) fo26_1 (T rfl rfl) rfl) ?_
          have H51 := (e47.blk (e44.blk (e39.blk (e36.blk (n31.ext.blk H28)))))
          refine lw_v (.int .i64 hy) (dv_load1 (b := b11) (o := 1) ag2 (T rfl rfl) H51 rfl) ?_
          refine lw_e (oe_buildSlice (pv := [(0, .int .i64 ly), (1, .int .i64 hy)]) (init := [.int .i64 0, .int .i64 0]) (l := [.int .i64 ly, .int .i64 hy]) us55 sz2 rfl rfl zc2 (by kernel_rfl) ⟨rfl, (T rfl rfl), ⟨rfl, (T rfl rfl), trivial⟩⟩ rfl ?_)
          intro b52 w53 n54
          have N55 : w.heap.size ≤ b52 := n54.eq ▸ E48.size
          have H56 := (e47.blk (e44.blk H41))
          have : b29 < b52 := n54.eq ▸ lt_of_blk H56
          have E57 := below_ext E48 E48.size n54.ext
          refine lw_v (.int .i64 2) (dv_len (ad := some ⟨b52, 0, none⟩) (l := 2) (c := 2) us55 (T rfl rfl)) ?_
          refine lw_v (.int .i64 0) (dv_move C) ?_
          refine lw_nil ?_
          refine rk_block ?_
          refine rk_unroll ?_
          refine rk_seq ?_
          refine rk_reg ?_
          refine lw_v (.bool (decide (((0 : Int) < 2 : Prop)))) (dv_lss (a := 0) (b := 2) (T rfl rfl) (T rfl rfl)) ?_
          refine lw_nil ?_
          refine rk_seq ?_
          refine rk_ct (T rfl (rfl)) ?_
          refine rk_skip ?_
          refine rk_seq ?_
          refine rk_block ?_
          refine rk_seq ?_
          refine rk_reg ?_
          refine lw_v (.pointer (some ⟨b52, 0, none⟩)) (dv_indexAddr (a := ⟨b52, 0, none⟩) (a' := ⟨b52, 0, none⟩) (l := 2) (c := 2) (j := 0) us55 sz2 (T rfl rfl) (T rfl rfl) (by decide) (by decide) rfl) ?_
          refine lw_v (.int .i64 ly) (dv_load1 (b := b52) (o := 0) ag2 (T rfl rfl) n54.blk rfl) ?_
          refine lw_v (.int .i64 ly) (dv_assign (T rfl rfl)) ?_
          refine lw_nil ?_
          refine rk_seq ?_
          refine rk_reg ?_
          refine lw_v (.pointer (some ⟨b1, 0, none⟩)) (dv_fieldAddr (a := ⟨b1, 0, none⟩) (a' := ⟨b1, 0, none⟩) fo33_0 (T rfl rfl) rfl) ?_
          have H58 := (n54.ext.blk (e47.blk (e44.blk H42)))
          refine lw_v (.agg #[.int .i64 ax, .int .i64 ay]) (dv_loads (l := [.int .i64 ax, .int .i64 ay]) ag26 sz26 (T rfl rfl) H58 rfl) ?_
          refine lw_v (.pointer (some ⟨b1, 2, none⟩)) (dv_fieldAddr (a := ⟨b1, 0, none⟩) (a' := ⟨b1, 2, none⟩) fo33_1 (T rfl rfl) rfl) ?_
          refine lw_v (.agg #[.int .i64 bx, .int .i64 by_]) (dv_loads (l := [.int .i64 bx, .int .i64 by_]) ag26 sz26 (T rfl rfl) H58 rfl) ?_
          refine lw_v (.int .i64 hx) (dv_move (T rfl rfl)) ?_
          refine lw_v (.int .i64 ly) (dv_move (T rfl rfl)) ?_
          refine lw_v (.agg #[.int .i64 hx, .int .i64 ly]) (dv_build (pv := [(0, .int .i64 hx), (1, .int .i64 ly)]) (l := [.int .i64 hx, .int .i64 ly]) zc26 pl26 ⟨rfl, (T rfl rfl), ⟨rfl, (T rfl rfl), trivial⟩⟩ rfl) ?_
          refine lw_e (oe_callf (vs := [.agg #[.int .i64 ax, .int .i64 ay], .agg #[.int .i64 bx, .int .i64 by_], .agg #[.int .i64 hx, .int .i64 ly]]) co37 (ar3 (T rfl rfl) (T rfl rfl) (T rfl rfl)) (cross_ok (by omega)) ?_)
          rintro _ w59 ⟨rfl, e60⟩
          have E61 := below_ext E57 E57.size e60
          refine lw_e (oe_callf (vs := [.int .i64 (crossI ax ay bx by_ hx ly)]) co36 (ar1 (T rfl rfl)) (sign_ok ) ?_)
          rintro _ w62 ⟨rfl, e63⟩
          have E64 := below_ext E61 E61.size e63
          refine lw_v (.int .i64 (sgnI (crossI ax ay bx by_ hx ly))) (dv_assign (T rfl rfl)) ?_
          refine lw_nil ?_
          refine rk_reg ?_
          refine lw_v (.int .i64 (mn (mn 1 (sgnI (crossI ax ay bx by_ lx ly))) (sgnI (crossI ax ay bx by_ lx hy)))) (dv_move (T rfl rfl)) ?_
          refine lw_v (.int .i64 (sgnI (crossI ax ay bx by_ hx ly))) (dv_move (T rfl rfl)) ?_
          refine lw_v (.int .i64 (mn (mn (mn 1 (sgnI (crossI ax ay bx by_ lx ly))) (sgnI (crossI ax ay bx by_ lx hy))) (sgnI (crossI ax ay bx by_ hx ly)))) (dv_min (a := mn (mn 1 (sgnI (crossI ax ay bx by_ lx ly))) (sgnI (crossI ax ay bx by_ lx hy))) (b := sgnI (crossI ax ay bx by_ hx ly)) (T rfl rfl) (T rfl rfl)) ?_
          refine lw_v (.int .i64 (mx (mx (-1) (sgnI (crossI ax ay bx by_ lx ly))) (sgnI (crossI ax ay bx by_ lx hy)))) (dv_move (T rfl rfl)) ?_
          refine lw_v (.int .i64 (sgnI (crossI ax ay bx by_ hx ly))) (dv_move (T rfl rfl)) ?_
          refine lw_v (.int .i64 (mx (mx (mx (-1) (sgnI (crossI ax ay bx by_ lx ly))) (sgnI (crossI ax ay bx by_ lx hy))) (sgnI (crossI ax ay bx by_ hx ly)))) (dv_max (a := mx (mx (-1) (sgnI (crossI ax ay bx by_ lx ly))) (sgnI (crossI ax ay bx by_ lx hy))) (b := sgnI (crossI ax ay bx by_ hx ly)) (T rfl rfl) (T rfl rfl)) ?_
          refine lw_v (.int .i64 (mn (mn (mn 1 (sgnI (crossI ax ay bx by_ lx ly))) (sgnI (crossI ax ay bx by_ lx hy))) (sgnI (crossI ax ay bx by_ hx ly)))) (dv_assign (T rfl rfl)) ?_
          refine lw_v (.int .i64 (mx (mx (mx (-1) (sgnI (crossI ax ay bx by_ lx ly))) (sgnI (crossI ax ay bx by_ lx hy))) (sgnI (crossI ax ay bx by_ hx ly)))) (dv_assign (T rfl rfl)) ?_
          refine lw_nil ?_
          refine rk_inBlock ?_
          refine rk_reg ?_
          refine lw_v (.int .i64 1) (dv_add (a := 0) (b := 1) (z := 1) (T rfl rfl) C (by decide)) ?_
          refine lw_v (.int .i64 1) (dv_move (T rfl rfl)) ?_
          refine lw_nil ?_
          refine rk_inLoop ?_
          refine rk_seq ?_
          refine rk_reg ?_
          refine lw_v (.bool (decide (((1 : Int) < 2 : Prop)))) (dv_lss (a := 1) (b := 2) (T rfl rfl) (T rfl rfl)) ?_
          refine lw_nil ?_
          refine rk_seq ?_
          refine rk_ct (T rfl (rfl)) ?_
          refine rk_skip ?_
          refine rk_seq ?_
          refine rk_block ?_
          refine rk_seq ?_
          refine rk_reg ?_
          refine lw_v (.pointer (some ⟨b52, 1, none⟩)) (dv_indexAddr (a := ⟨b52, 0, none⟩) (a' := ⟨b52, 1, none⟩) (l := 2) (c := 2) (j := 1) us55 sz2 (T rfl rfl) (T rfl rfl) (by decide) (by decide) rfl) ?_
          have H65 := (e63.blk (e60.blk n54.blk))
          refine lw_v (.int .i64 hy) (dv_load1 (b := b52) (o := 1) ag2 (T rfl rfl) H65 rfl) ?_
          refine lw_v (.int .i64 hy) (dv_assign (T rfl rfl)) ?_
          refine lw_nil ?_
          refine rk_seq ?_
          refine rk_reg ?_
          refine lw_v (.pointer (some ⟨b1, 0, none⟩)) (dv_fieldAddr (a := ⟨b1, 0, none⟩) (a' := ⟨b1, 0, none⟩) fo33_0 (T rfl rfl) rfl) ?_
          have H66 := (e63.blk (e60.blk H58))
          refine lw_v (.agg #[.int .i64 ax, .int .i64 ay]) (dv_loads (l := [.int .i64 ax, .int .i64 ay]) ag26 sz26 (T rfl rfl) H66 rfl) ?_
          refine lw_v (.pointer (some ⟨b1, 2, none⟩)) (dv_fieldAddr (a := ⟨b1, 0, none⟩) (a' := ⟨b1, 2, none⟩) fo33_1 (T rfl rfl) rfl) ?_
          refine lw_v (.agg #[.int .i64 bx, .int .i64 by_]) (dv_loads (l := [.int .i64 bx, .int .i64 by_]) ag26 sz26 (T rfl rfl) H66 rfl) ?_
          refine lw_v (.int .i64 hx) (dv_move (T rfl rfl)) ?_
          refine lw_v (.int .i64 hy) (dv_move (T rfl rfl)) ?_
          refine lw_v (.agg #[.int .i64 hx, .int .i64 hy]) (dv_build (pv := [(0, .int .i64 hx), (1, .int .i64 hy)]) (l := [.int .i64 hx, .int .i64 hy]) zc26 pl26 ⟨rfl, (T rfl rfl), ⟨rfl, (T rfl rfl), trivial⟩⟩ rfl) ?_
          refine lw_e (oe_callf (vs := [.agg #[.int .i64 ax, .int .i64 ay], .agg #[.int .i64 bx, .int .i64 by_], .agg #[.int .i64 hx, .int .i64 hy]]) co37 (ar3 (T rfl rfl) (T rfl rfl) (T rfl rfl)) (cross_ok (by omega)) ?_)
          rintro _ w67 ⟨rfl, e68⟩
          have E69 := below_ext E64 E64.size e68
          refine lw_e (oe_callf (vs := [.int .i64 (crossI ax ay bx by_ hx hy)]) co36 (ar1 (T rfl rfl)) (sign_ok ) ?_)
          rintro _ w70 ⟨rfl, e71⟩
          have E72 := below_ext E69 E69.size e71
          refine lw_v (.int .i64 (sgnI (crossI ax ay bx by_ hx hy))) (dv_assign (T rfl rfl)) ?_
          refine lw_nil ?_
          refine rk_reg ?_
          refine lw_v (.int .i64 (mn (mn (mn 1 (sgnI (crossI ax ay bx by_ lx ly))) (sgnI (crossI ax ay bx by_ lx hy))) (sgnI (crossI ax ay bx by_ hx ly)))) (dv_move (T rfl rfl)) ?_
          refine lw_v (.int .i64 (sgnI (crossI ax ay bx by_ hx hy))) (dv_move (T rfl rfl)) ?_
          refine lw_v (.int .i64 (mn (mn (mn (mn 1 (sgnI (crossI ax ay bx by_ lx ly))) (sgnI (crossI ax ay bx by_ lx hy))) (sgnI (crossI ax ay bx by_ hx ly))) (sgnI (crossI ax ay bx by_ hx hy)))) (dv_min (a := mn (mn (mn 1 (sgnI (crossI ax ay bx by_ lx ly))) (sgnI (crossI ax ay bx by_ lx hy))) (sgnI (crossI ax ay bx by_ hx ly))) (b := sgnI (crossI ax ay bx by_ hx hy)) (T rfl rfl) (T rfl rfl)) ?_
          refine lw_v (.int .i64 (mx (mx (mx (-1) (sgnI (crossI ax ay bx by_ lx ly))) (sgnI (crossI ax ay bx by_ lx hy))) (sgnI (crossI ax ay bx by_ hx ly)))) (dv_move (T rfl rfl)) ?_
          refine lw_v (.int .i64 (sgnI (crossI ax ay bx by_ hx hy))) (dv_move (T rfl rfl)) ?_
          refine lw_v (.int .i64 (mx (mx (mx (mx (-1) (sgnI (crossI ax ay bx by_ lx ly))) (sgnI (crossI ax ay bx by_ lx hy))) (sgnI (crossI ax ay bx by_ hx ly))) (sgnI (crossI ax ay bx by_ hx hy)))) (dv_max (a := mx (mx (mx (-1) (sgnI (crossI ax ay bx by_ lx ly))) (sgnI (crossI ax ay bx by_ lx hy))) (sgnI (crossI ax ay bx by_ hx ly))) (b := sgnI (crossI ax ay bx by_ hx hy)) (T rfl rfl) (T rfl rfl)) ?_
          refine lw_v (.int .i64 (mn (mn (mn (mn 1 (sgnI (crossI ax ay bx by_ lx ly))) (sgnI (crossI ax ay bx by_ lx hy))) (sgnI (crossI ax ay bx by_ hx ly))) (sgnI (crossI ax ay bx by_ hx hy)))) (dv_assign (T rfl rfl)) ?_
          refine lw_v (.int .i64 (mx (mx (mx (mx (-1) (sgnI (crossI ax ay bx by_ lx ly))) (sgnI (crossI ax ay bx by_ lx hy))) (sgnI (crossI ax ay bx by_ hx ly))) (sgnI (crossI ax ay bx by_ hx hy)))) (dv_assign (T rfl rfl)) ?_
          refine lw_nil ?_
          refine rk_inBlock ?_
          refine rk_reg ?_
          refine lw_v (.int .i64 2) (dv_add (a := 1) (b := 1) (z := 2) (T rfl rfl) C (by decide)) ?_
          refine lw_v (.int .i64 2) (dv_move (T rfl rfl)) ?_
          refine lw_nil ?_
          refine rk_inLoop ?_
          refine rk_seq ?_
          refine rk_reg ?_
          refine lw_v (.bool (decide (((2 : Int) < 2 : Prop)))) (dv_lss (a := 2) (b := 2) (T rfl rfl) (T rfl rfl)) ?_
          refine lw_nil ?_
          refine rk_seq ?_
          refine rk_cf (T rfl (rfl)) ?_
          refine rk_exit rfl ?_
          refine rk_inBlock ?_
          refine rk_reg ?_
          refine lw_v (.int .i64 2) (dv_add (a := 1) (b := 1) (z := 2) (T rfl rfl) C (by decide)) ?_
          refine lw_v (.int .i64 2) (dv_move (T rfl rfl)) ?_
          refine lw_nil ?_
          refine rk_inLoop ?_
          refine rk_seq ?_
          refine rk_reg ?_
          refine lw_v (.bool (decide (((2 : Int) < 2 : Prop)))) (dv_lss (a := 2) (b := 2) (T rfl rfl) (T rfl rfl)) ?_
          refine lw_nil ?_
          refine rk_seq ?_
          refine rk_cf (T rfl (rfl)) ?_
          refine rk_exit rfl ?_
          refine rk_seq ?_
          refine rk_reg ?_
          refine lw_v (.int .i64 (mn (mn (mn (mn 1 (sgnI (crossI ax ay bx by_ lx ly))) (sgnI (crossI ax ay bx by_ lx hy))) (sgnI (crossI ax ay bx by_ hx ly))) (sgnI (crossI ax ay bx by_ hx hy)))) (dv_move (T rfl rfl)) ?_
          refine lw_v (.bool (decide ((mn (mn (mn (mn 1 (sgnI (crossI ax ay bx by_ lx ly))) (sgnI (crossI ax ay bx by_ lx hy))) (sgnI (crossI ax ay bx by_ hx ly))) (sgnI (crossI ax ay bx by_ hx hy))) ≤ 0))) (dv_leq (a := mn (mn (mn (mn 1 (sgnI (crossI ax ay bx by_ lx ly))) (sgnI (crossI ax ay bx by_ lx hy))) (sgnI (crossI ax ay bx by_ hx ly))) (sgnI (crossI ax ay bx by_ hx hy))) (b := 0) (T rfl rfl) C) ?_
          refine lw_v (.bool (decide ((mn (mn (mn (mn 1 (sgnI (crossI ax ay bx by_ lx ly))) (sgnI (crossI ax ay bx by_ lx hy))) (sgnI (crossI ax ay bx by_ hx ly))) (sgnI (crossI ax ay bx by_ hx hy))) ≤ 0))) (dv_move (T rfl rfl)) ?_
          by_cases hb73 : (mn (mn (mn (mn 1 (sgnI (crossI ax ay bx by_ lx ly))) (sgnI (crossI ax ay bx by_ lx hy))) (sgnI (crossI ax ay bx by_ hx ly))) (sgnI (crossI ax ay bx by_ hx hy))) ≤ 0
          · -- FFFFT
            refine lw_vy (.int .i64 (mx (mx (mx (mx (-1) (sgnI (crossI ax ay bx by_ lx ly))) (sgnI (crossI ax ay bx by_ lx hy))) (sgnI (crossI ax ay bx by_ hx ly))) (sgnI (crossI ax ay bx by_ hx hy)))) (d := 91) rfl rfl (congrArg Value.bool (decide_eq_true hb73)) (dv_move (T rfl rfl)) ?_
            refine lw_vy (.bool (decide (0 ≤ (mx (mx (mx (mx (-1) (sgnI (crossI ax ay bx by_ lx ly))) (sgnI (crossI ax ay bx by_ lx hy))) (sgnI (crossI ax ay bx by_ hx ly))) (sgnI (crossI ax ay bx by_ hx hy)))))) (d := 91) rfl rfl (congrArg Value.bool (decide_eq_true hb73)) (dv_geq (a := mx (mx (mx (mx (-1) (sgnI (crossI ax ay bx by_ lx ly))) (sgnI (crossI ax ay bx by_ lx hy))) (sgnI (crossI ax ay bx by_ hx ly))) (sgnI (crossI ax ay bx by_ hx hy))) (b := 0) (T rfl rfl) C) ?_
            refine lw_v (.bool (decide (0 ≤ (mx (mx (mx (mx (-1) (sgnI (crossI ax ay bx by_ lx ly))) (sgnI (crossI ax ay bx by_ lx hy))) (sgnI (crossI ax ay bx by_ hx ly))) (sgnI (crossI ax ay bx by_ hx hy)))))) (dv_pick_t (T rfl (congrArg Value.bool (decide_eq_true hb73))) (T rfl rfl)) ?_
            refine lw_v (.bool (decide (0 ≤ (mx (mx (mx (mx (-1) (sgnI (crossI ax ay bx by_ lx ly))) (sgnI (crossI ax ay bx by_ lx hy))) (sgnI (crossI ax ay bx by_ hx ly))) (sgnI (crossI ax ay bx by_ hx hy)))))) (dv_assign (T rfl rfl)) ?_
            refine lw_nil ?_
            refine rk_ret Try.func34 (v := .bool (decide (0 ≤ (mx (mx (mx (mx (-1) (sgnI (crossI ax ay bx by_ lx ly))) (sgnI (crossI ax ay bx by_ lx hy))) (sgnI (crossI ax ay bx by_ hx ly))) (sgnI (crossI ax ay bx by_ hx hy)))))) (res1 Try.results34 (rv_tmp rfl rfl)) ⟨_, rfl, ?_⟩
            simp only [mx_lt, lt_mn, mn_le, le_mx] at hb20
            simp only [mx_lt, lt_mn, mn_le, le_mx] at hb21
            simp only [mx_lt, lt_mn, mn_le, le_mx] at hb73
            have t1 := sgnI_rg (crossI ax ay bx by_ lx ly); have t2 := sgnI_rg (crossI ax ay bx by_ lx hy); have t3 := sgnI_rg (crossI ax ay bx by_ hx ly); have t4 := sgnI_rg (crossI ax ay bx by_ hx hy)
            exact ⟨(vb (by first | (unfold mbox; omega) | (simp only [mn_le, le_mx]; unfold mbox; omega))), E72⟩
          · -- FFFFF
            refine lw_no (d := 91) rfl rfl (congrArg Value.bool (decide_eq_false hb73)) ?_
            refine lw_no (d := 91) rfl rfl (congrArg Value.bool (decide_eq_false hb73)) ?_
            refine lw_v (.bool false) (dv_pick_f (T rfl (congrArg Value.bool (decide_eq_false hb73))) C) ?_
            refine lw_v (.bool false) (dv_assign (T rfl rfl)) ?_
            refine lw_nil ?_
            refine rk_ret Try.func34 (v := .bool false) (res1 Try.results34 (rv_tmp rfl rfl)) ⟨_, rfl, ?_⟩
            simp only [mx_lt, lt_mn, mn_le, le_mx] at hb20
            simp only [mx_lt, lt_mn, mn_le, le_mx] at hb21
            simp only [mx_lt, lt_mn, mn_le, le_mx] at hb73
            have t1 := sgnI_rg (crossI ax ay bx by_ lx ly); have t2 := sgnI_rg (crossI ax ay bx by_ lx hy); have t3 := sgnI_rg (crossI ax ay bx by_ hx ly); have t4 := sgnI_rg (crossI ax ay bx by_ hx hy)
            exact ⟨(vf (by first | (unfold mbox; omega) | (simp only [mn_le, le_mx]; unfold mbox; omega))), E72⟩
set_option maxRecDepth 100000 in
set_option maxHeartbeats 4000000 in
theorem sMeets_ok {w : World} {ax ay bx by_ lx ly hx hy : Int} (h : (-1000000 ≤ ax ∧ ax ≤ 1000000) ∧ (-1000000 ≤ ay ∧ ay ≤ 1000000) ∧ (-1000000 ≤ bx ∧ bx ≤ 1000000) ∧ (-1000000 ≤ by_ ∧ by_ ≤ 1000000) ∧ (-1000000 ≤ lx ∧ lx ≤ 1000000) ∧ (-1000000 ≤ ly ∧ ly ≤ 1000000) ∧ (-1000000 ≤ hx ∧ hx ≤ 1000000) ∧ (-1000000 ≤ hy ∧ hy ≤ 1000000)) : Ct Try.prog 32 [.agg #[.int .i64 ax, .int .i64 ay, .int .i64 bx, .int .i64 by_], .agg #[.int .i64 lx, .int .i64 ly], .agg #[.int .i64 hx, .int .i64 hy]] w fun v w1 => v = .bool (decide (mbox ax ay bx by_ lx ly hx hy)) ∧ Ext w w1 := by
  refine ct_run (n := 96) Try.func32 rfl Try.ntmps32 rfl ?_
  have E0 : Below w.heap.size w w := Below.refl _ _
  refine rk_seq ?_
  refine rk_reg ?_
  refine lw_e (oe_box (v := .agg #[.int .i64 ax, .int .i64 ay, .int .i64 bx, .int .i64 by_]) (cs := #[.int .i64 ax, .int .i64 ay, .int .i64 bx, .int .i64 by_]) (T rfl rfl) rfl ?_)
  intro b1 w2 n3
  have N4 : w.heap.size ≤ b1 := n3.eq ▸ E0.size
  have E5 := below_ext E0 E0.size n3.ext
  refine lw_e (oe_box (v := .agg #[.int .i64 lx, .int .i64 ly]) (cs := #[.int .i64 lx, .int .i64 ly]) (T rfl rfl) rfl ?_)
  intro b6 w7 n8
  have N9 : w.heap.size ≤ b6 := n8.eq ▸ E5.size
  have : b1 < b6 := n8.eq ▸ lt_of_blk n3.blk
  have E10 := below_ext E5 E5.size n8.ext
  refine lw_e (oe_box (v := .agg #[.int .i64 hx, .int .i64 hy]) (cs := #[.int .i64 hx, .int .i64 hy]) (T rfl rfl) rfl ?_)
  intro b11 w12 n13
  have N14 : w.heap.size ≤ b11 := n13.eq ▸ E10.size
  have : b6 < b11 := n13.eq ▸ lt_of_blk n8.blk
  have E15 := below_ext E10 E10.size n13.ext
  refine lw_v (.bool false) (dv_assign C) ?_
  refine lw_nil ?_
  refine rk_seq ?_
  refine rk_seq ?_
  refine rk_join (fun fr wl => fr 3 = .pointer (some ⟨b1, 0, none⟩) ∧ fr 4 = .pointer (some ⟨b6, 0, none⟩) ∧ fr 5 = .pointer (some ⟨b11, 0, none⟩) ∧ fr 6 = .bool false ∧ fr 56 = .bool (decide (bx < lx ∨ hx < ax ∨ (ay < ly ∧ by_ < ly) ∨ (hy < ay ∧ hy < by_))) ∧ Below w.heap.size w wl ∧ wl.heap[b1]? = some (.cells #[.int .i64 ax, .int .i64 ay, .int .i64 bx, .int .i64 by_] 33) ∧ wl.heap[b6]? = some (.cells #[.int .i64 lx, .int .i64 ly] 26) ∧ wl.heap[b11]? = some (.cells #[.int .i64 hx, .int .i64 hy] 26)) ?_ (fun hj18 => ?_)
  · -- behind the join
    intro fr19 w16 hI17
    obtain ⟨f20, f21, f22, f23, f24, E25, H26, H27, H28⟩ := hI17
    by_cases hb29 : bx < lx ∨ hx < ax ∨ (ay < ly ∧ by_ < ly) ∨ (hy < ay ∧ hy < by_)
    · -- JT
      refine rk_ct (T rfl (f24.trans (congrArg Value.bool (decide_eq_true hb29)))) ?_
      refine rk_seq ?_
      refine rk_reg ?_
      refine lw_v (.bool false) (dv_assign C) ?_
      refine lw_nil ?_
      refine rk_ret Try.func32 (v := .bool false) (res1 Try.results32 (rv_tmp rfl rfl)) ⟨_, rfl, ?_⟩
      exact ⟨(vf (by first | exact mb_t (by assumption) q1 q2 (by assumption) | exact mb_f q1 (by assumption) | (unfold mbox; omega))), E25⟩
    · -- JF
      refine rk_cf (T rfl (f24.trans (congrArg Value.bool (decide_eq_false hb29)))) ?_
      refine rk_skip ?_
      refine rk_seq ?_
      refine rk_reg ?_
      refine lw_v (.int .i64 0) (dv_assign C) ?_
      refine lw_nil ?_
      refine rk_seq ?_
      refine rk_reg ?_
      refine lw_v (.int .i64 0) (dv_assign C) ?_
      refine lw_nil ?_
      refine rk_seq ?_
      refine rk_seq ?_
      refine rk_reg ?_
      refine lw_v (.agg #[.int .i64 lx, .int .i64 ly]) (dv_loads (l := [.int .i64 lx, .int .i64 ly]) ag26 sz26 (T rfl f21) H27 rfl) ?_
      refine lw_v (.agg #[.int .i64 hx, .int .i64 hy]) (dv_loads (l := [.int .i64 hx, .int .i64 hy]) ag26 sz26 (T rfl f22) H28 rfl) ?_
      refine lw_v (.pointer (some ⟨b6, 0, none⟩)) (dv_fieldAddr (a := ⟨b6, 0, none⟩) (a' := ⟨b6, 0, none⟩) fo26_0 (T rfl f21) rfl) ?_
      refine lw_v (.int .i64 lx) (dv_load1 (b := b6) (o := 0) ag2 (T rfl rfl) H27 rfl) ?_
      refine lw_v (.pointer (some ⟨b11, 1, none⟩)) (dv_fieldAddr (a := ⟨b11, 0, none⟩) (a' := ⟨b11, 1, none⟩) fo26_1 (T rfl f22) rfl) ?_
      refine lw_v (.int .i64 hy) (dv_load1 (b := b11) (o := 1) ag2 (T rfl rfl) H28 rfl) ?_
      refine lw_v (.agg #[.int .i64 lx, .int .i64 hy]) (dv_build (pv := [(0, .int .i64 lx), (1, .int .i64 hy)]) (l := [.int .i64 lx, .int .i64 hy]) zc26 pl26 ⟨rfl, (T rfl rfl), ⟨rfl, (T rfl rfl), trivial⟩⟩ rfl) ?_
      refine lw_v (.pointer (some ⟨b11, 0, none⟩)) (dv_fieldAddr (a := ⟨b11, 0, none⟩) (a' := ⟨b11, 0, none⟩) fo26_0 (T rfl f22) rfl) ?_
      refine lw_v (.int .i64 hx) (dv_load1 (b := b11) (o := 0) ag2 (T rfl rfl) H28 rfl) ?_
      refine lw_v (.pointer (some ⟨b6, 1, none⟩)) (dv_fieldAddr (a := ⟨b6, 0, none⟩) (a' := ⟨b6, 1, none⟩) fo26_1 (T rfl f21) rfl) ?_
      refine lw_v (.int .i64 ly) (dv_load1 (b := b6) (o := 1) ag2 (T rfl rfl) H27 rfl) ?_
      refine lw_v (.agg #[.int .i64 hx, .int .i64 ly]) (dv_build (pv := [(0, .int .i64 hx), (1, .int .i64 ly)]) (l := [.int .i64 hx, .int .i64 ly]) zc26 pl26 ⟨rfl, (T rfl rfl), ⟨rfl, (T rfl rfl), trivial⟩⟩ rfl) ?_
      refine lw_e (oe_buildSlice (pv := [(0, .agg #[.int .i64 lx, .int .i64 ly]), (1, .agg #[.int .i64 hx, .int .i64 hy]), (2, .agg #[.int .i64 lx, .int .i64 hy]), (3, .agg #[.int .i64 hx, .int .i64 ly])]) (init := [.int .i64 0, .int .i64 0, .int .i64 0, .int .i64 0, .int .i64 0, .int .i64 0, .int .i64 0, .int .i64 0]) (l := [.int .i64 lx, .int .i64 ly, .int .i64 hx, .int .i64 hy, .int .i64 lx, .int .i64 hy, .int .i64 hx, .int .i64 ly]) us53 sz26 rfl rfl zc26 (by kernel_rfl) ⟨rfl, (T rfl rfl), ⟨rfl, (T rfl rfl), ⟨rfl, (T rfl rfl), ⟨rfl, (T rfl rfl), trivial⟩⟩⟩⟩ rfl ?_)
      intro b30 w31 n32
      have N33 : w.heap.size ≤ b30 := n32.eq ▸ E25.size
      have : b11 < b30 := n32.eq ▸ lt_of_blk H28
      have E34 := below_ext E25 E25.size n32.ext
      refine lw_v (.int .i64 4) (dv_len (ad := some ⟨b30, 0, none⟩) (l := 4) (c := 4) us53 (T rfl rfl)) ?_
      refine lw_v (.int .i64 0) (dv_move C) ?_
      refine lw_nil ?_
      refine rk_block ?_
      refine rk_unroll ?_
      refine rk_seq ?_
      refine rk_reg ?_
      refine lw_v (.bool (decide (((0 : Int) < 4 : Prop)))) (dv_lss (a := 0) (b := 4) (T rfl rfl) (T rfl rfl)) ?_
      refine lw_nil ?_
      refine rk_seq ?_
      refine rk_ct (T rfl (rfl)) ?_
      refine rk_skip ?_
      refine rk_seq ?_
      refine rk_block ?_
      refine rk_seq ?_
      refine rk_reg ?_
      refine lw_v (.pointer (some ⟨b30, 0, none⟩)) (dv_indexAddr (a := ⟨b30, 0, none⟩) (a' := ⟨b30, 0, none⟩) (l := 4) (c := 4) (j := 0) us53 sz26 (T rfl rfl) (T rfl rfl) (by decide) (by decide) rfl) ?_
      refine lw_v (.agg #[.int .i64 lx, .int .i64 ly]) (dv_loads (l := [.int .i64 lx, .int .i64 ly]) ag26 sz26 (T rfl rfl) n32.blk rfl) ?_
      refine lw_e (oe_alloc ze26 ?_)
      intro b35 w36 n37
      have N38 : w.heap.size ≤ b35 := n37.eq ▸ E34.size
      have : b30 < b35 := n37.eq ▸ lt_of_blk n32.blk
      have E39 := below_ext E34 E34.size n37.ext
      refine lw_e (oe_store (v := .agg #[.int .i64 lx, .int .i64 ly]) (vs := [.int .i64 lx, .int .i64 ly]) (l := [.int .i64 lx, .int .i64 ly]) (T rfl rfl) (T rfl rfl) sz26 rfl rfl rfl n37.blk rfl ?_)
      intro w40 s41 H42
      have E43 := below_st E39 N38 s41
      refine lw_nil ?_
      refine rk_seq ?_
      refine rk_reg ?_
      refine lw_v (.pointer (some ⟨b1, 0, none⟩)) (dv_fieldAddr (a := ⟨b1, 0, none⟩) (a' := ⟨b1, 0, none⟩) fo33_0 (T rfl f20) rfl) ?_
      have H44 := (s41.blk (n37.ext.blk (n32.ext.blk H26)) (by omega))
      refine lw_v (.agg #[.int .i64 ax, .int .i64 ay]) (dv_loads (l := [.int .i64 ax, .int .i64 ay]) ag26 sz26 (T rfl rfl) H44 rfl) ?_
      refine lw_v (.pointer (some ⟨b1, 2, none⟩)) (dv_fieldAddr (a := ⟨b1, 0, none⟩) (a' := ⟨b1, 2, none⟩) fo33_1 (T rfl f20) rfl) ?_
      refine lw_v (.agg #[.int .i64 bx, .int .i64 by_]) (dv_loads (l := [.int .i64 bx, .int .i64 by_]) ag26 sz26 (T rfl rfl) H44 rfl) ?_
      refine lw_v (.agg #[.int .i64 lx, .int .i64 ly]) (dv_loads (l := [.int .i64 lx, .int .i64 ly]) ag26 sz26 (T rfl rfl) H42 rfl) ?_
      refine lw_e (oe_callf (vs := [.agg #[.int .i64 ax, .int .i64 ay], .agg #[.int .i64 bx, .int .i64 by_], .agg #[.int .i64 lx, .int .i64 ly]]) co35 (ar3 (T rfl rfl) (T rfl rfl) (T rfl rfl)) (l4Turn_ok (by omega)) ?_)
      rintro _ w45 ⟨rfl, e46⟩
      have E47 := below_ext E43 E43.size e46
      refine lw_nil ?_
      refine rk_join (fun fr wl => ∃ (up48 dn48 : Int), fr 3 = .pointer (some ⟨b1, 0, none⟩) ∧ fr 6 = .bool false ∧ fr 7 = .int .i64 up48 ∧ fr 8 = .int .i64 dn48 ∧ fr 10 = .pointer (some ⟨b35, 0, none⟩) ∧ fr 69 = .slice (some ⟨b30, 0, none⟩) 4 4 ∧ fr 70 = .int .i64 4 ∧ fr 71 = .int .i64 0 ∧ fr 72 = .bool (decide (((0 : Int) < 4 : Prop))) ∧ fr 73 = .pointer (some ⟨b30, 0, none⟩) ∧ fr 74 = .agg #[.int .i64 lx, .int .i64 ly] ∧ fr 75 = .pointer (some ⟨b1, 0, none⟩) ∧ fr 76 = .agg #[.int .i64 ax, .int .i64 ay] ∧ fr 77 = .pointer (some ⟨b1, 2, none⟩) ∧ fr 78 = .agg #[.int .i64 bx, .int .i64 by_] ∧ fr 79 = .agg #[.int .i64 lx, .int .i64 ly] ∧ fr 80 = .int .i64 (sgnI (crossI ax ay bx by_ lx ly)) ∧ Below w.heap.size w wl ∧ wl.heap[b1]? = some (.cells #[.int .i64 ax, .int .i64 ay, .int .i64 bx, .int .i64 by_] 33) ∧ wl.heap[b6]? = some (.cells #[.int .i64 lx, .int .i64 ly] 26) ∧ wl.heap[b11]? = some (.cells #[.int .i64 hx, .int .i64 hy] 26) ∧ wl.heap[b30]? = some (.cells #[.int .i64 lx, .int .i64 ly, .int .i64 hx, .int .i64 hy, .int .i64 lx, .int .i64 hy, .int .i64 hx, .int .i64 ly] 26) ∧ wl.heap[b35]? = some (.cells #[.int .i64 lx, .int .i64 ly] 26) ∧ ((up48 = 0 + is1 (sgnI (crossI ax ay bx by_ lx ly)) 1 ∧ dn48 = 0 + is1 (sgnI (crossI ax ay bx by_ lx ly)) (-1) ∧ 0 ≤ up48 ∧ up48 ≤ 1 ∧ 0 ≤ dn48 ∧ dn48 ≤ 1))) ?_ (fun hj51 => ?_)
      · -- behind the join
        intro fr52 w49 hI50
        obtain ⟨up48, dn48, f53, f54, f55, f56, f57, f58, f59, f60, f61, f62, f63, f64, f65, f66, f67, f68, f69, E70, H71, H72, H73, H74, H75, ⟨hj48, hk48, hl48⟩⟩ := hI50
        refine rk_inBlock ?_
        refine rk_reg ?_
        refine lw_v (.int .i64 1) (dv_add (a := 0) (b := 1) (z := 1) (T rfl f60) C (by decide)) ?_
        refine lw_v (.int .i64 1) (dv_move (T rfl rfl)) ?_
        refine lw_nil ?_
        refine rk_inLoop ?_
        refine rk_seq ?_
        refine rk_reg ?_
        refine lw_v (.bool (decide (((1 : Int) < 4 : Prop)))) (dv_lss (a := 1) (b := 4) (T rfl rfl) (T rfl f59)) ?_
        refine lw_nil ?_
        refine rk_seq ?_
        refine rk_ct (T rfl (rfl)) ?_
        refine rk_skip ?_
        refine rk_seq ?_
        refine rk_block ?_
        refine rk_seq ?_
        refine rk_reg ?_
        refine lw_v (.pointer (some ⟨b30, 2, none⟩)) (dv_indexAddr (a := ⟨b30, 0, none⟩) (a' := ⟨b30, 2, none⟩) (l := 4) (c := 4) (j := 1) us53 sz26 (T rfl f58) (T rfl rfl) (by decide) (by decide) rfl) ?_
        refine lw_v (.agg #[.int .i64 hx, .int .i64 hy]) (dv_loads (l := [.int .i64 hx, .int .i64 hy]) ag26 sz26 (T rfl rfl) H74 rfl) ?_
        refine lw_e (oe_alloc ze26 ?_)
        intro b76 w77 n78
        have N79 : w.heap.size ≤ b76 := n78.eq ▸ E70.size
        have : b35 < b76 := n78.eq ▸ lt_of_blk H75
        have E80 := below_ext E70 E70.size n78.ext
        refine lw_e (oe_store (v := .agg #[.int .i64 hx, .int .i64 hy]) (vs := [.int .i64 hx, .int .i64 hy]) (l := [.int .i64 hx, .int .i64 hy]) (T rfl rfl) (T rfl rfl) sz26 rfl rfl rfl n78.blk rfl ?_)
        intro w81 s82 H83
        have E84 := below_st E80 N79 s82
        refine lw_nil ?_
        refine rk_seq ?_
        refine rk_reg ?_
        refine lw_v (.pointer (some ⟨b1, 0, none⟩)) (dv_fieldAddr (a := ⟨b1, 0, none⟩) (a' := ⟨b1, 0, none⟩) fo33_0 (T rfl f53) rfl) ?_
        have H85 := (s82.blk (n78.ext.blk H71) (by omega))
        refine lw_v (.agg #[.int .i64 ax, .int .i64 ay]) (dv_loads (l := [.int .i64 ax, .int .i64 ay]) ag26 sz26 (T rfl rfl) H85 rfl) ?_
        refine lw_v (.pointer (some ⟨b1, 2, none⟩)) (dv_fieldAddr (a := ⟨b1, 0, none⟩) (a' := ⟨b1, 2, none⟩) fo33_1 (T rfl f53) rfl) ?_
        refine lw_v (.agg #[.int .i64 bx, .int .i64 by_]) (dv_loads (l := [.int .i64 bx, .int .i64 by_]) ag26 sz26 (T rfl rfl) H85 rfl) ?_
        refine lw_v (.agg #[.int .i64 hx, .int .i64 hy]) (dv_loads (l := [.int .i64 hx, .int .i64 hy]) ag26 sz26 (T rfl rfl) H83 rfl) ?_
        refine lw_e (oe_callf (vs := [.agg #[.int .i64 ax, .int .i64 ay], .agg #[.int .i64 bx, .int .i64 by_], .agg #[.int .i64 hx, .int .i64 hy]]) co35 (ar3 (T rfl rfl) (T rfl rfl) (T rfl rfl)) (l4Turn_ok (by omega)) ?_)
        rintro _ w86 ⟨rfl, e87⟩
        have E88 := below_ext E84 E84.size e87
        refine lw_nil ?_
        refine rk_join (fun fr wl => ∃ (up89 dn89 : Int), fr 3 = .pointer (some ⟨b1, 0, none⟩) ∧ fr 6 = .bool false ∧ fr 7 = .int .i64 up89 ∧ fr 8 = .int .i64 dn89 ∧ fr 10 = .pointer (some ⟨b76, 0, none⟩) ∧ fr 69 = .slice (some ⟨b30, 0, none⟩) 4 4 ∧ fr 70 = .int .i64 4 ∧ fr 71 = .int .i64 1 ∧ fr 72 = .bool (decide (((1 : Int) < 4 : Prop))) ∧ fr 73 = .pointer (some ⟨b30, 2, none⟩) ∧ fr 74 = .agg #[.int .i64 hx, .int .i64 hy] ∧ fr 75 = .pointer (some ⟨b1, 0, none⟩) ∧ fr 76 = .agg #[.int .i64 ax, .int .i64 ay] ∧ fr 77 = .pointer (some ⟨b1, 2, none⟩) ∧ fr 78 = .agg #[.int .i64 bx, .int .i64 by_] ∧ fr 79 = .agg #[.int .i64 hx, .int .i64 hy] ∧ fr 80 = .int .i64 (sgnI (crossI ax ay bx by_ hx hy)) ∧ fr 89 = .int .i64 1 ∧ Below w.heap.size w wl ∧ wl.heap[b1]? = some (.cells #[.int .i64 ax, .int .i64 ay, .int .i64 bx, .int .i64 by_] 33) ∧ wl.heap[b6]? = some (.cells #[.int .i64 lx, .int .i64 ly] 26) ∧ wl.heap[b11]? = some (.cells #[.int .i64 hx, .int .i64 hy] 26) ∧ wl.heap[b30]? = some (.cells #[.int .i64 lx, .int .i64 ly, .int .i64 hx, .int .i64 hy, .int .i64 lx, .int .i64 hy, .int .i64 hx, .int .i64 ly] 26) ∧ wl.heap[b35]? = some (.cells #[.int .i64 lx, .int .i64 ly] 26) ∧ wl.heap[b76]? = some (.cells #[.int .i64 hx, .int .i64 hy] 26) ∧ ((up89 = up48 + is1 (sgnI (crossI ax ay bx by_ hx hy)) 1 ∧ dn89 = dn48 + is1 (sgnI (crossI ax ay bx by_ hx hy)) (-1) ∧ 0 ≤ up89 ∧ up89 ≤ 2 ∧ 0 ≤ dn89 ∧ dn89 ≤ 2))) ?_ (fun hj92 => ?_)
        · -- behind the join
          intro fr93 w90 hI91
          obtain ⟨up89, dn89, f94, f95, f96, f97, f98, f99, f100, f101, f102, f103, f104, f105, f106, f107, f108, f109, f110, f111, E112, H113, H114, H115, H116, H117, H118, ⟨hj89, hk89, hl89⟩⟩ := hI91
          refine rk_inBlock ?_
          refine rk_reg ?_
          refine lw_v (.int .i64 2) (dv_add (a := 1) (b := 1) (z := 2) (T rfl f101) C (by decide)) ?_
          refine lw_v (.int .i64 2) (dv_move (T rfl rfl)) ?_
          refine lw_nil ?_
          refine rk_inLoop ?_
          refine rk_seq ?_
          refine rk_reg ?_
          refine lw_v (.bool (decide (((2 : Int) < 4 : Prop)))) (dv_lss (a := 2) (b := 4) (T rfl rfl) (T rfl f100)) ?_
          refine lw_nil ?_
          refine rk_seq ?_
          refine rk_ct (T rfl (rfl)) ?_
          refine rk_skip ?_
          refine rk_seq ?_
          refine rk_block ?_
          refine rk_seq ?_
          refine rk_reg ?_
          refine lw_v (.pointer (some ⟨b30, 4, none⟩)) (dv_indexAddr (a := ⟨b30, 0, none⟩) (a' := ⟨b30, 4, none⟩) (l := 4) (c := 4) (j := 2) us53 sz26 (T rfl f99) (T rfl rfl) (by decide) (by decide) rfl) ?_
          refine lw_v (.agg #[.int .i64 lx, .int .i64 hy]) (dv_loads (l := [.int .i64 lx, .int .i64 hy]) ag26 sz26 (T rfl rfl) H116 rfl) ?_
          refine lw_e (oe_alloc ze26 ?_)
          intro b119 w120 n121
          have N122 : w.heap.size ≤ b119 := n121.eq ▸ E112.size
          have : b76 < b119 := n121.eq ▸ lt_of_blk H118
          have E123 := below_ext E112 E112.size n121.ext
          refine lw_e (oe_store (v := .agg #[.int .i64 lx, .int .i64 hy]) (vs := [.int .i64 lx, .int .i64 hy]) (l := [.int .i64 lx, .int .i64 hy]) (T rfl rfl) (T rfl rfl) sz26 rfl rfl rfl n121.blk rfl ?_)
          intro w124 s125 H126
          have E127 := below_st E123 N122 s125
          refine lw_nil ?_
          refine rk_seq ?_
          refine rk_reg ?_
          refine lw_v (.pointer (some ⟨b1, 0, none⟩)) (dv_fieldAddr (a := ⟨b1, 0, none⟩) (a' := ⟨b1, 0, none⟩) fo33_0 (T rfl f94) rfl) ?_
          have H128 := (s125.blk (n121.ext.blk H113) (by omega))
          refine lw_v (.agg #[.int .i64 ax, .int .i64 ay]) (dv_loads (l := [.int .i64 ax, .int .i64 ay]) ag26 sz26 (T rfl rfl) H128 rfl) ?_
          refine lw_v (.pointer (some ⟨b1, 2, none⟩)) (dv_fieldAddr (a := ⟨b1, 0, none⟩) (a' := ⟨b1, 2, none⟩) fo33_1 (T rfl f94) rfl) ?_
          refine lw_v (.agg #[.int .i64 bx, .int .i64 by_]) (dv_loads (l := [.int .i64 bx, .int .i64 by_]) ag26 sz26 (T rfl rfl) H128 rfl) ?_
          refine lw_v (.agg #[.int .i64 lx, .int .i64 hy]) (dv_loads (l := [.int .i64 lx, .int .i64 hy]) ag26 sz26 (T rfl rfl) H126 rfl) ?_
          refine lw_e (oe_callf (vs := [.agg #[.int .i64 ax, .int .i64 ay], .agg #[.int .i64 bx, .int .i64 by_], .agg #[.int .i64 lx, .int .i64 hy]]) co35 (ar3 (T rfl rfl) (T rfl rfl) (T rfl rfl)) (l4Turn_ok (by omega)) ?_)
          rintro _ w129 ⟨rfl, e130⟩
          have E131 := below_ext E127 E127.size e130
          refine lw_nil ?_
          refine rk_join (fun fr wl => ∃ (up132 dn132 : Int), fr 3 = .pointer (some ⟨b1, 0, none⟩) ∧ fr 6 = .bool false ∧ fr 7 = .int .i64 up132 ∧ fr 8 = .int .i64 dn132 ∧ fr 10 = .pointer (some ⟨b119, 0, none⟩) ∧ fr 69 = .slice (some ⟨b30, 0, none⟩) 4 4 ∧ fr 70 = .int .i64 4 ∧ fr 71 = .int .i64 2 ∧ fr 72 = .bool (decide (((2 : Int) < 4 : Prop))) ∧ fr 73 = .pointer (some ⟨b30, 4, none⟩) ∧ fr 74 = .agg #[.int .i64 lx, .int .i64 hy] ∧ fr 75 = .pointer (some ⟨b1, 0, none⟩) ∧ fr 76 = .agg #[.int .i64 ax, .int .i64 ay] ∧ fr 77 = .pointer (some ⟨b1, 2, none⟩) ∧ fr 78 = .agg #[.int .i64 bx, .int .i64 by_] ∧ fr 79 = .agg #[.int .i64 lx, .int .i64 hy] ∧ fr 80 = .int .i64 (sgnI (crossI ax ay bx by_ lx hy)) ∧ fr 89 = .int .i64 2 ∧ Below w.heap.size w wl ∧ wl.heap[b1]? = some (.cells #[.int .i64 ax, .int .i64 ay, .int .i64 bx, .int .i64 by_] 33) ∧ wl.heap[b6]? = some (.cells #[.int .i64 lx, .int .i64 ly] 26) ∧ wl.heap[b11]? = some (.cells #[.int .i64 hx, .int .i64 hy] 26) ∧ wl.heap[b30]? = some (.cells #[.int .i64 lx, .int .i64 ly, .int .i64 hx, .int .i64 hy, .int .i64 lx, .int .i64 hy, .int .i64 hx, .int .i64 ly] 26) ∧ wl.heap[b35]? = some (.cells #[.int .i64 lx, .int .i64 ly] 26) ∧ wl.heap[b76]? = some (.cells #[.int .i64 hx, .int .i64 hy] 26) ∧ wl.heap[b119]? = some (.cells #[.int .i64 lx, .int .i64 hy] 26) ∧ ((up132 = up89 + is1 (sgnI (crossI ax ay bx by_ lx hy)) 1 ∧ dn132 = dn89 + is1 (sgnI (crossI ax ay bx by_ lx hy)) (-1) ∧ 0 ≤ up132 ∧ up132 ≤ 3 ∧ 0 ≤ dn132 ∧ dn132 ≤ 3))) ?_ (fun hj135 => ?_)
          · -- behind the join
            intro fr136 w133 hI134
            obtain ⟨up132, dn132, f137, f138, f139, f140, f141, f142, f143, f144, f145, f146, f147, f148, f149, f150, f151, f152, f153, f154, E155, H156, H157, H158, H159, H160, H161, H162, ⟨hj132, hk132, hl132⟩⟩ := hI134
            refine rk_inBlock ?_
            refine rk_reg ?_
            refine lw_v (.int .i64 3) (dv_add (a := 2) (b := 1) (z := 3) (T rfl f144) C (by decide)) ?_
            refine lw_v (.int .i64 3) (dv_move (T rfl rfl)) ?_
            refine lw_nil ?_
            refine rk_inLoop ?_
            refine rk_seq ?_
            refine rk_reg ?_
            refine lw_v (.bool (decide (((3 : Int) < 4 : Prop)))) (dv_lss (a := 3) (b := 4) (T rfl rfl) (T rfl f143)) ?_
            refine lw_nil ?_
            refine rk_seq ?_
            refine rk_ct (T rfl (rfl)) ?_
            refine rk_skip ?_
            refine rk_seq ?_
            refine rk_block ?_
            refine rk_seq ?_
            refine rk_reg ?_
            refine lw_v (.pointer (some ⟨b30, 6, none⟩)) (dv_indexAddr (a := ⟨b30, 0, none⟩) (a' := ⟨b30, 6, none⟩) (l := 4) (c := 4) (j := 3) us53 sz26 (T rfl f142) (T rfl rfl) (by decide) (by decide) rfl) ?_
            refine lw_v (.agg #[.int .i64 hx, .int .i64 ly]) (dv_loads (l := [.int .i64 hx, .int .i64 ly]) ag26 sz26 (T rfl rfl) H159 rfl) ?_
            refine lw_e (oe_alloc ze26 ?_)
            intro b163 w164 n165
            have N166 : w.heap.size ≤ b163 := n165.eq ▸ E155.size
            have : b119 < b163 := n165.eq ▸ lt_of_blk H162
            have E167 := below_ext E155 E155.size n165.ext
            refine lw_e (oe_store (v := .agg #[.int .i64 hx, .int .i64 ly]) (vs := [.int .i64 hx, .int .i64 ly]) (l := [.int .i64 hx, .int .i64 ly]) (T rfl rfl) (T rfl rfl) sz26 rfl rfl rfl n165.blk rfl ?_)
            intro w168 s169 H170
            have E171 := below_st E167 N166 s169
            refine lw_nil ?_
            refine rk_seq ?_
            refine rk_reg ?_
            refine lw_v (.pointer (some ⟨b1, 0, none⟩)) (dv_fieldAddr (a := ⟨b1, 0, none⟩) (a' := ⟨b1, 0, none⟩) fo33_0 (T rfl f137) rfl) ?_
            have H172 := (s169.blk (n165.ext.blk H156) (by omega))
            refine lw_v (.agg #[.int .i64 ax, .int .i64 ay]) (dv_loads (l := [.int .i64 ax, .int .i64 ay]) ag26 sz26 (T rfl rfl) H172 rfl) ?_
            refine lw_v (.pointer (some ⟨b1, 2, none⟩)) (dv_fieldAddr (a := ⟨b1, 0, none⟩) (a' := ⟨b1, 2, none⟩) fo33_1 (T rfl f137) rfl) ?_
            refine lw_v (.agg #[.int .i64 bx, .int .i64 by_]) (dv_loads (l := [.int .i64 bx, .int .i64 by_]) ag26 sz26 (T rfl rfl) H172 rfl) ?_
            refine lw_v (.agg #[.int .i64 hx, .int .i64 ly]) (dv_loads (l := [.int .i64 hx, .int .i64 ly]) ag26 sz26 (T rfl rfl) H170 rfl) ?_
            refine lw_e (oe_callf (vs := [.agg #[.int .i64 ax, .int .i64 ay], .agg #[.int .i64 bx, .int .i64 by_], .agg #[.int .i64 hx, .int .i64 ly]]) co35 (ar3 (T rfl rfl) (T rfl rfl) (T rfl rfl)) (l4Turn_ok (by omega)) ?_)
            rintro _ w173 ⟨rfl, e174⟩
            have E175 := below_ext E171 E171.size e174
            refine lw_nil ?_
            refine rk_join (fun fr wl => ∃ (up176 dn176 : Int), fr 3 = .pointer (some ⟨b1, 0, none⟩) ∧ fr 6 = .bool false ∧ fr 7 = .int .i64 up176 ∧ fr 8 = .int .i64 dn176 ∧ fr 10 = .pointer (some ⟨b163, 0, none⟩) ∧ fr 69 = .slice (some ⟨b30, 0, none⟩) 4 4 ∧ fr 70 = .int .i64 4 ∧ fr 71 = .int .i64 3 ∧ fr 72 = .bool (decide (((3 : Int) < 4 : Prop))) ∧ fr 73 = .pointer (some ⟨b30, 6, none⟩) ∧ fr 74 = .agg #[.int .i64 hx, .int .i64 ly] ∧ fr 75 = .pointer (some ⟨b1, 0, none⟩) ∧ fr 76 = .agg #[.int .i64 ax, .int .i64 ay] ∧ fr 77 = .pointer (some ⟨b1, 2, none⟩) ∧ fr 78 = .agg #[.int .i64 bx, .int .i64 by_] ∧ fr 79 = .agg #[.int .i64 hx, .int .i64 ly] ∧ fr 80 = .int .i64 (sgnI (crossI ax ay bx by_ hx ly)) ∧ fr 89 = .int .i64 3 ∧ Below w.heap.size w wl ∧ wl.heap[b1]? = some (.cells #[.int .i64 ax, .int .i64 ay, .int .i64 bx, .int .i64 by_] 33) ∧ wl.heap[b6]? = some (.cells #[.int .i64 lx, .int .i64 ly] 26) ∧ wl.heap[b11]? = some (.cells #[.int .i64 hx, .int .i64 hy] 26) ∧ wl.heap[b30]? = some (.cells #[.int .i64 lx, .int .i64 ly, .int .i64 hx, .int .i64 hy, .int .i64 lx, .int .i64 hy, .int .i64 hx, .int .i64 ly] 26) ∧ wl.heap[b35]? = some (.cells #[.int .i64 lx, .int .i64 ly] 26) ∧ wl.heap[b76]? = some (.cells #[.int .i64 hx, .int .i64 hy] 26) ∧ wl.heap[b119]? = some (.cells #[.int .i64 lx, .int .i64 hy] 26) ∧ wl.heap[b163]? = some (.cells #[.int .i64 hx, .int .i64 ly] 26) ∧ ((up176 = up132 + is1 (sgnI (crossI ax ay bx by_ hx ly)) 1 ∧ dn176 = dn132 + is1 (sgnI (crossI ax ay bx by_ hx ly)) (-1) ∧ 0 ≤ up176 ∧ up176 ≤ 4 ∧ 0 ≤ dn176 ∧ dn176 ≤ 4))) ?_ (fun hj179 => ?_)
            · -- behind the join
              intro fr180 w177 hI178
              obtain ⟨up176, dn176, f181, f182, f183, f184, f185, f186, f187, f188, f189, f190, f191, f192, f193, f194, f195, f196, f197, f198, E199, H200, H201, H202, H203, H204, H205, H206, H207, ⟨hj176, hk176, hl176⟩⟩ := hI178
              refine rk_inBlock ?_
              refine rk_reg ?_
              refine lw_v (.int .i64 4) (dv_add (a := 3) (b := 1) (z := 4) (T rfl f188) C (by decide)) ?_
              refine lw_v (.int .i64 4) (dv_move (T rfl rfl)) ?_
              refine lw_nil ?_
              refine rk_inLoop ?_
              refine rk_seq ?_
              refine rk_reg ?_
              refine lw_v (.bool (decide (((4 : Int) < 4 : Prop)))) (dv_lss (a := 4) (b := 4) (T rfl rfl) (T rfl f187)) ?_
              refine lw_nil ?_
              refine rk_seq ?_
              refine rk_cf (T rfl (rfl)) ?_
              refine rk_exit rfl ?_
              refine rk_seq ?_
              refine rk_reg ?_
              refine lw_v (.int .i64 up176) (dv_move (T rfl f183)) ?_
              refine lw_v (.bool (decide (up176 < 4))) (dv_lss (a := up176) (b := 4) (T rfl rfl) C) ?_
              refine lw_v (.bool (decide (up176 < 4))) (dv_move (T rfl rfl)) ?_
              by_cases hb208 : up176 < 4
              · -- JFJJJJT
                refine lw_vy (.int .i64 dn176) (d := 92) rfl rfl (congrArg Value.bool (decide_eq_true hb208)) (dv_move (T rfl f184)) ?_
                refine lw_vy (.bool (decide (dn176 < 4))) (d := 92) rfl rfl (congrArg Value.bool (decide_eq_true hb208)) (dv_lss (a := dn176) (b := 4) (T rfl rfl) C) ?_
                refine lw_v (.bool (decide (dn176 < 4))) (dv_pick_t (T rfl (congrArg Value.bool (decide_eq_true hb208))) (T rfl rfl)) ?_
                refine lw_v (.bool (decide (dn176 < 4))) (dv_assign (T rfl rfl)) ?_
                refine lw_nil ?_
                refine rk_ret Try.func32 (v := .bool (decide (dn176 < 4))) (res1 Try.results32 (rv_tmp rfl rfl)) ⟨_, rfl, ?_⟩
                obtain ⟨q1, q2⟩ := cnt4 (u := up176) (d := dn176) (a := sgnI (crossI ax ay bx by_ lx ly)) (b := sgnI (crossI ax ay bx by_ hx hy)) (c := sgnI (crossI ax ay bx by_ lx hy)) (e := sgnI (crossI ax ay bx by_ hx ly)) (by omega) (by omega)
                exact ⟨(vb (by first | exact mb_t (by assumption) q1 q2 (by assumption) | exact mb_f q1 (by assumption) | (unfold mbox; omega))), E199⟩
              · -- JFJJJJF
                refine lw_no (d := 92) rfl rfl (congrArg Value.bool (decide_eq_false hb208)) ?_
                refine lw_no (d := 92) rfl rfl (congrArg Value.bool (decide_eq_false hb208)) ?_
                refine lw_v (.bool false) (dv_pick_f (T rfl (congrArg Value.bool (decide_eq_false hb208))) C) ?_
                refine lw_v (.bool false) (dv_assign (T rfl rfl)) ?_
                refine lw_nil ?_
                refine rk_ret Try.func32 (v := .bool false) (res1 Try.results32 (rv_tmp rfl rfl)) ⟨_, rfl, ?_⟩
                obtain ⟨q1, q2⟩ := cnt4 (u := up176) (d := dn176) (a := sgnI (crossI ax ay bx by_ lx ly)) (b := sgnI (crossI ax ay bx by_ hx hy)) (c := sgnI (crossI ax ay bx by_ lx hy)) (e := sgnI (crossI ax ay bx by_ hx ly)) (by omega) (by omega)
                exact ⟨(vf (by first | exact mb_t (by assumption) q1 q2 (by assumption) | exact mb_f q1 (by assumption) | (unfold mbox; omega))), E199⟩
            · -- up to the join
              refine rk_block ?_
              refine rk_seq ?_
              refine rk_reg ?_
              refine lw_v (.bool (decide ((sgnI (crossI ax ay bx by_ hx ly)) = 1))) (dv_eql (a := sgnI (crossI ax ay bx by_ hx ly)) (b := 1) (T rfl rfl) C) ?_
              refine lw_v (.bool (decide ((sgnI (crossI ax ay bx by_ hx ly)) = 1))) (dv_assign (T rfl rfl)) ?_
              refine lw_nil ?_
              by_cases hb209 : (sgnI (crossI ax ay bx by_ hx ly)) = 1
              · -- JFJJJT
                refine rk_ct (T rfl (congrArg Value.bool (decide_eq_true hb209))) ?_
                refine rk_reg ?_
                refine lw_v (.int .i64 up132) (dv_move (T rfl f139)) ?_
                refine lw_v (.int .i64 (up132 + 1)) (dv_add (a := up132) (b := 1) (z := up132 + 1) (T rfl rfl) C (wr_i64 (by omega) (by omega))) ?_
                refine lw_v (.int .i64 (up132 + 1)) (dv_assign (T rfl rfl)) ?_
                refine lw_nil ?_
                refine rk_inBlock ?_
                have H210 := (e174.blk H172)
                have H211 := (e174.blk (s169.blk (n165.ext.blk H157) (by omega)))
                have H212 := (e174.blk (s169.blk (n165.ext.blk H158) (by omega)))
                have H213 := (e174.blk (s169.blk (n165.ext.blk H159) (by omega)))
                have H214 := (e174.blk (s169.blk (n165.ext.blk H160) (by omega)))
                have H215 := (e174.blk (s169.blk (n165.ext.blk H161) (by omega)))
                have H216 := (e174.blk (s169.blk (n165.ext.blk H162) (by omega)))
                have H217 := (e174.blk H170)
                exact hj179 _ _ ⟨up132 + 1, dn132, f137, f138, rfl, f140, rfl, f142, f143, rfl, rfl, rfl, rfl, rfl, rfl, rfl, rfl, rfl, rfl, rfl, E175, H210, H211, H212, H213, H214, H215, H216, H217, (by first | (have hq := arr1 (u := up132) (d := dn132) (by assumption); exact ⟨hq.1, hq.2, by omega, by omega, by omega, by omega⟩) | (have hq := arr2 (u := up132) (d := dn132) (by assumption) (by assumption); exact ⟨hq.1, hq.2, by omega, by omega, by omega, by omega⟩) | (have hq := arr3 (u := up132) (d := dn132) (by assumption) (by assumption); exact ⟨hq.1, hq.2, by omega, by omega, by omega, by omega⟩))⟩
              · -- JFJJJF
                refine rk_cf (T rfl (congrArg Value.bool (decide_eq_false hb209))) ?_
                refine rk_seq ?_
                refine rk_reg ?_
                refine lw_v (.bool (decide ((sgnI (crossI ax ay bx by_ hx ly)) = (-1)))) (dv_eql (a := sgnI (crossI ax ay bx by_ hx ly)) (b := -1) (T rfl rfl) C) ?_
                refine lw_v (.bool (decide ((sgnI (crossI ax ay bx by_ hx ly)) = (-1)))) (dv_assign (T rfl rfl)) ?_
                refine lw_nil ?_
                by_cases hb218 : (sgnI (crossI ax ay bx by_ hx ly)) = (-1)
                · -- JFJJJFT
                  refine rk_ct (T rfl (congrArg Value.bool (decide_eq_true hb218))) ?_
                  refine rk_reg ?_
                  refine lw_v (.int .i64 dn132) (dv_move (T rfl f140)) ?_
                  refine lw_v (.int .i64 (dn132 + 1)) (dv_add (a := dn132) (b := 1) (z := dn132 + 1) (T rfl rfl) C (wr_i64 (by omega) (by omega))) ?_
                  refine lw_v (.int .i64 (dn132 + 1)) (dv_assign (T rfl rfl)) ?_
                  refine lw_nil ?_
                  refine rk_inBlock ?_
                  have H219 := (e174.blk H172)
                  have H220 := (e174.blk (s169.blk (n165.ext.blk H157) (by omega)))
                  have H221 := (e174.blk (s169.blk (n165.ext.blk H158) (by omega)))
                  have H222 := (e174.blk (s169.blk (n165.ext.blk H159) (by omega)))
                  have H223 := (e174.blk (s169.blk (n165.ext.blk H160) (by omega)))
                  have H224 := (e174.blk (s169.blk (n165.ext.blk H161) (by omega)))
                  have H225 := (e174.blk (s169.blk (n165.ext.blk H162) (by omega)))
                  have H226 := (e174.blk H170)
                  exact hj179 _ _ ⟨up132, dn132 + 1, f137, f138, f139, rfl, rfl, f142, f143, rfl, rfl, rfl, rfl, rfl, rfl, rfl, rfl, rfl, rfl, rfl, E175, H219, H220, H221, H222, H223, H224, H225, H226, (by first | (have hq := arr1 (u := up132) (d := dn132) (by assumption); exact ⟨hq.1, hq.2, by omega, by omega, by omega, by omega⟩) | (have hq := arr2 (u := up132) (d := dn132) (by assumption) (by assumption); exact ⟨hq.1, hq.2, by omega, by omega, by omega, by omega⟩) | (have hq := arr3 (u := up132) (d := dn132) (by assumption) (by assumption); exact ⟨hq.1, hq.2, by omega, by omega, by omega, by omega⟩))⟩
                · -- JFJJJFF
                  refine rk_cf (T rfl (congrArg Value.bool (decide_eq_false hb218))) ?_
                  refine rk_skip ?_
                  refine rk_inBlock ?_
                  have H227 := (e174.blk H172)
                  have H228 := (e174.blk (s169.blk (n165.ext.blk H157) (by omega)))
                  have H229 := (e174.blk (s169.blk (n165.ext.blk H158) (by omega)))
                  have H230 := (e174.blk (s169.blk (n165.ext.blk H159) (by omega)))
                  have H231 := (e174.blk (s169.blk (n165.ext.blk H160) (by omega)))
                  have H232 := (e174.blk (s169.blk (n165.ext.blk H161) (by omega)))
                  have H233 := (e174.blk (s169.blk (n165.ext.blk H162) (by omega)))
                  have H234 := (e174.blk H170)
                  exact hj179 _ _ ⟨up132, dn132, f137, f138, f139, f140, rfl, f142, f143, rfl, rfl, rfl, rfl, rfl, rfl, rfl, rfl, rfl, rfl, rfl, E175, H227, H228, H229, H230, H231, H232, H233, H234, (by first | (have hq := arr1 (u := up132) (d := dn132) (by assumption); exact ⟨hq.1, hq.2, by omega, by omega, by omega, by omega⟩) | (have hq := arr2 (u := up132) (d := dn132) (by assumption) (by assumption); exact ⟨hq.1, hq.2, by omega, by omega, by omega, by omega⟩) | (have hq := arr3 (u := up132) (d := dn132) (by assumption) (by assumption); exact ⟨hq.1, hq.2, by omega, by omega, by omega, by omega⟩))⟩
          · -- up to the join
            refine rk_block ?_
            refine rk_seq ?_
            refine rk_reg ?_
            refine lw_v (.bool (decide ((sgnI (crossI ax ay bx by_ lx hy)) = 1))) (dv_eql (a := sgnI (crossI ax ay bx by_ lx hy)) (b := 1) (T rfl rfl) C) ?_
            refine lw_v (.bool (decide ((sgnI (crossI ax ay bx by_ lx hy)) = 1))) (dv_assign (T rfl rfl)) ?_
            refine lw_nil ?_
            by_cases hb235 : (sgnI (crossI ax ay bx by_ lx hy)) = 1
            · -- JFJJT
              refine rk_ct (T rfl (congrArg Value.bool (decide_eq_true hb235))) ?_
              refine rk_reg ?_
              refine lw_v (.int .i64 up89) (dv_move (T rfl f96)) ?_
              refine lw_v (.int .i64 (up89 + 1)) (dv_add (a := up89) (b := 1) (z := up89 + 1) (T rfl rfl) C (wr_i64 (by omega) (by omega))) ?_
              refine lw_v (.int .i64 (up89 + 1)) (dv_assign (T rfl rfl)) ?_
              refine lw_nil ?_
              refine rk_inBlock ?_
              have H236 := (e130.blk H128)
              have H237 := (e130.blk (s125.blk (n121.ext.blk H114) (by omega)))
              have H238 := (e130.blk (s125.blk (n121.ext.blk H115) (by omega)))
              have H239 := (e130.blk (s125.blk (n121.ext.blk H116) (by omega)))
              have H240 := (e130.blk (s125.blk (n121.ext.blk H117) (by omega)))
              have H241 := (e130.blk (s125.blk (n121.ext.blk H118) (by omega)))
              have H242 := (e130.blk H126)
              exact hj135 _ _ ⟨up89 + 1, dn89, f94, f95, rfl, f97, rfl, f99, f100, rfl, rfl, rfl, rfl, rfl, rfl, rfl, rfl, rfl, rfl, rfl, E131, H236, H237, H238, H239, H240, H241, H242, (by first | (have hq := arr1 (u := up89) (d := dn89) (by assumption); exact ⟨hq.1, hq.2, by omega, by omega, by omega, by omega⟩) | (have hq := arr2 (u := up89) (d := dn89) (by assumption) (by assumption); exact ⟨hq.1, hq.2, by omega, by omega, by omega, by omega⟩) | (have hq := arr3 (u := up89) (d := dn89) (by assumption) (by assumption); exact ⟨hq.1, hq.2, by omega, by omega, by omega, by omega⟩))⟩
            · -- JFJJF
              refine rk_cf (T rfl (congrArg Value.bool (decide_eq_false hb235))) ?_
              refine rk_seq ?_
              refine rk_reg ?_
              refine lw_v (.bool (decide ((sgnI (crossI ax ay bx by_ lx hy)) = (-1)))) (dv_eql (a := sgnI (crossI ax ay bx by_ lx hy)) (b := -1) (T rfl rfl) C) ?_
              refine lw_v (.bool (decide ((sgnI (crossI ax ay bx by_ lx hy)) = (-1)))) (dv_assign (T rfl rfl)) ?_
              refine lw_nil ?_
              by_cases hb243 : (sgnI (crossI ax ay bx by_ lx hy)) = (-1)
              · -- JFJJFT
                refine rk_ct (T rfl (congrArg Value.bool (decide_eq_true hb243))) ?_
                refine rk_reg ?_
                refine lw_v (.int .i64 dn89) (dv_move (T rfl f97)) ?_
                refine lw_v (.int .i64 (dn89 + 1)) (dv_add (a := dn89) (b := 1) (z := dn89 + 1) (T rfl rfl) C (wr_i64 (by omega) (by omega))) ?_
                refine lw_v (.int .i64 (dn89 + 1)) (dv_assign (T rfl rfl)) ?_
                refine lw_nil ?_
                refine rk_inBlock ?_
                have H244 := (e130.blk H128)
                have H245 := (e130.blk (s125.blk (n121.ext.blk H114) (by omega)))
                have H246 := (e130.blk (s125.blk (n121.ext.blk H115) (by omega)))
                have H247 := (e130.blk (s125.blk (n121.ext.blk H116) (by omega)))
                have H248 := (e130.blk (s125.blk (n121.ext.blk H117) (by omega)))
                have H249 := (e130.blk (s125.blk (n121.ext.blk H118) (by omega)))
                have H250 := (e130.blk H126)
                exact hj135 _ _ ⟨up89, dn89 + 1, f94, f95, f96, rfl, rfl, f99, f100, rfl, rfl, rfl, rfl, rfl, rfl, rfl, rfl, rfl, rfl, rfl, E131, H244, H245, H246, H247, H248, H249, H250, (by first | (have hq := arr1 (u := up89) (d := dn89) (by assumption); exact ⟨hq.1, hq.2, by omega, by omega, by omega, by omega⟩) | (have hq := arr2 (u := up89) (d := dn89) (by assumption) (by assumption); exact ⟨hq.1, hq.2, by omega, by omega, by omega, by omega⟩) | (have hq := arr3 (u := up89) (d := dn89) (by assumption) (by assumption); exact ⟨hq.1, hq.2, by omega, by omega, by omega, by omega⟩))⟩
              · -- JFJJFF
                refine rk_cf (T rfl (congrArg Value.bool (decide_eq_false hb243))) ?_
                refine rk_skip ?_
                refine rk_inBlock ?_
                have H251 := (e130.blk H128)
                have H252 := (e130.blk (s125.blk (n121.ext.blk H114) (by omega)))
                have H253 := (e130.blk (s125.blk (n121.ext.blk H115) (by omega)))
                have H254 := (e130.blk (s125.blk (n121.ext.blk H116) (by omega)))
                have H255 := (e130.blk (s125.blk (n121.ext.blk H117) (by omega)))
                have H256 := (e130.blk (s125.blk (n121.ext.blk H118) (by omega)))
                have H257 := (e130.blk H126)
                exact hj135 _ _ ⟨up89, dn89, f94, f95, f96, f97, rfl, f99, f100, rfl, rfl, rfl, rfl, rfl, rfl, rfl, rfl, rfl, rfl, rfl, E131, H251, H252, H253, H254, H255, H256, H257, (by first | (have hq := arr1 (u := up89) (d := dn89) (by assumption); exact ⟨hq.1, hq.2, by omega, by omega, by omega, by omega⟩) | (have hq := arr2 (u := up89) (d := dn89) (by assumption) (by assumption); exact ⟨hq.1, hq.2, by omega, by omega, by omega, by omega⟩) | (have hq := arr3 (u := up89) (d := dn89) (by assumption) (by assumption); exact ⟨hq.1, hq.2, by omega, by omega, by omega, by omega⟩))⟩
        · -- up to the join
          refine rk_block ?_
          refine rk_seq ?_
          refine rk_reg ?_
          refine lw_v (.bool (decide ((sgnI (crossI ax ay bx by_ hx hy)) = 1))) (dv_eql (a := sgnI (crossI ax ay bx by_ hx hy)) (b := 1) (T rfl rfl) C) ?_
          refine lw_v (.bool (decide ((sgnI (crossI ax ay bx by_ hx hy)) = 1))) (dv_assign (T rfl rfl)) ?_
          refine lw_nil ?_
          by_cases hb258 : (sgnI (crossI ax ay bx by_ hx hy)) = 1
          · -- JFJT
            refine rk_ct (T rfl (congrArg Value.bool (decide_eq_true hb258))) ?_
            refine rk_reg ?_
            refine lw_v (.int .i64 up48) (dv_move (T rfl f55)) ?_
            refine lw_v (.int .i64 (up48 + 1)) (dv_add (a := up48) (b := 1) (z := up48 + 1) (T rfl rfl) C (wr_i64 (by omega) (by omega))) ?_
            refine lw_v (.int .i64 (up48 + 1)) (dv_assign (T rfl rfl)) ?_
            refine lw_nil ?_
            refine rk_inBlock ?_
            have H259 := (e87.blk H85)
            have H260 := (e87.blk (s82.blk (n78.ext.blk H72) (by omega)))
            have H261 := (e87.blk (s82.blk (n78.ext.blk H73) (by omega)))
            have H262 := (e87.blk (s82.blk (n78.ext.blk H74) (by omega)))
            have H263 := (e87.blk (s82.blk (n78.ext.blk H75) (by omega)))
            have H264 := (e87.blk H83)
            exact hj92 _ _ ⟨up48 + 1, dn48, f53, f54, rfl, f56, rfl, f58, f59, rfl, rfl, rfl, rfl, rfl, rfl, rfl, rfl, rfl, rfl, rfl, E88, H259, H260, H261, H262, H263, H264, (by first | (have hq := arr1 (u := up48) (d := dn48) (by assumption); exact ⟨hq.1, hq.2, by omega, by omega, by omega, by omega⟩) | (have hq := arr2 (u := up48) (d := dn48) (by assumption) (by assumption); exact ⟨hq.1, hq.2, by omega, by omega, by omega, by omega⟩) | (have hq := arr3 (u := up48) (d := dn48) (by assumption) (by assumption); exact ⟨hq.1, hq.2, by omega, by omega, by omega, by omega⟩))⟩
          · -- JFJF
            refine rk_cf (T rfl (congrArg Value.bool (decide_eq_false hb258))) ?_
            refine rk_seq ?_
            refine rk_reg ?_
            refine lw_v (.bool (decide ((sgnI (crossI ax ay bx by_ hx hy)) = (-1)))) (dv_eql (a := sgnI (crossI ax ay bx by_ hx hy)) (b := -1) (T rfl rfl) C) ?_
            refine lw_v (.bool (decide ((sgnI (crossI ax ay bx by_ hx hy)) = (-1)))) (dv_assign (T rfl rfl)) ?_
            refine lw_nil ?_
            by_cases hb265 : (sgnI (crossI ax ay bx by_ hx hy)) = (-1)
            · -- JFJFT
              refine rk_ct (T rfl (congrArg Value.bool (decide_eq_true hb265))) ?_
              refine rk_reg ?_
              refine lw_v (.int .i64 dn48) (dv_move (T rfl f56)) ?_
              refine lw_v (.int .i64 (dn48 + 1)) (dv_add (a := dn48) (b := 1) (z := dn48 + 1) (T rfl rfl) C (wr_i64 (by omega) (by omega))) ?_
              refine lw_v (.int .i64 (dn48 + 1)) (dv_assign (T rfl rfl)) ?_
              refine lw_nil ?_
              refine rk_inBlock ?_
              have H266 := (e87.blk H85)
              have H267 := (e87.blk (s82.blk (n78.ext.blk H72) (by omega)))
              have H268 := (e87.blk (s82.blk (n78.ext.blk H73) (by omega)))
              have H269 := (e87.blk (s82.blk (n78.ext.blk H74) (by omega)))
              have H270 := (e87.blk (s82.blk (n78.ext.blk H75) (by omega)))
              have H271 := (e87.blk H83)
              exact hj92 _ _ ⟨up48, dn48 + 1, f53, f54, f55, rfl, rfl, f58, f59, rfl, rfl, rfl, rfl, rfl, rfl, rfl, rfl, rfl, rfl, rfl, E88, H266, H267, H268, H269, H270, H271, (by first | (have hq := arr1 (u := up48) (d := dn48) (by assumption); exact ⟨hq.1, hq.2, by omega, by omega, by omega, by omega⟩) | (have hq := arr2 (u := up48) (d := dn48) (by assumption) (by assumption); exact ⟨hq.1, hq.2, by omega, by omega, by omega, by omega⟩) | (have hq := arr3 (u := up48) (d := dn48) (by assumption) (by assumption); exact ⟨hq.1, hq.2, by omega, by omega, by omega, by omega⟩))⟩
            · -- JFJFF
              refine rk_cf (T rfl (congrArg Value.bool (decide_eq_false hb265))) ?_
              refine rk_skip ?_
              refine rk_inBlock ?_
              have H272 := (e87.blk H85)
              have H273 := (e87.blk (s82.blk (n78.ext.blk H72) (by omega)))
              have H274 := (e87.blk (s82.blk (n78.ext.blk H73) (by omega)))
              have H275 := (e87.blk (s82.blk (n78.ext.blk H74) (by omega)))
              have H276 := (e87.blk (s82.blk (n78.ext.blk H75) (by omega)))
              have H277 := (e87.blk H83)
              exact hj92 _ _ ⟨up48, dn48, f53, f54, f55, f56, rfl, f58, f59, rfl, rfl, rfl, rfl, rfl, rfl, rfl, rfl, rfl, rfl, rfl, E88, H272, H273, H274, H275, H276, H277, (by first | (have hq := arr1 (u := up48) (d := dn48) (by assumption); exact ⟨hq.1, hq.2, by omega, by omega, by omega, by omega⟩) | (have hq := arr2 (u := up48) (d := dn48) (by assumption) (by assumption); exact ⟨hq.1, hq.2, by omega, by omega, by omega, by omega⟩) | (have hq := arr3 (u := up48) (d := dn48) (by assumption) (by assumption); exact ⟨hq.1, hq.2, by omega, by omega, by omega, by omega⟩))⟩
      · -- up to the join
        refine rk_block ?_
        refine rk_seq ?_
        refine rk_reg ?_
        refine lw_v (.bool (decide ((sgnI (crossI ax ay bx by_ lx ly)) = 1))) (dv_eql (a := sgnI (crossI ax ay bx by_ lx ly)) (b := 1) (T rfl rfl) C) ?_
        refine lw_v (.bool (decide ((sgnI (crossI ax ay bx by_ lx ly)) = 1))) (dv_assign (T rfl rfl)) ?_
        refine lw_nil ?_
        by_cases hb278 : (sgnI (crossI ax ay bx by_ lx ly)) = 1
        · -- JFT
          refine rk_ct (T rfl (congrArg Value.bool (decide_eq_true hb278))) ?_
          refine rk_reg ?_
          refine lw_v (.int .i64 0) (dv_move (T rfl rfl)) ?_
          refine lw_v (.int .i64 1) (dv_add (a := 0) (b := 1) (z := 1) (T rfl rfl) C (by decide)) ?_
          refine lw_v (.int .i64 1) (dv_assign (T rfl rfl)) ?_
          refine lw_nil ?_
          refine rk_inBlock ?_
          have H279 := (e46.blk H44)
          have H280 := (e46.blk (s41.blk (n37.ext.blk (n32.ext.blk H27)) (by omega)))
          have H281 := (e46.blk (s41.blk (n37.ext.blk (n32.ext.blk H28)) (by omega)))
          have H282 := (e46.blk (s41.blk (n37.ext.blk n32.blk) (by omega)))
          have H283 := (e46.blk H42)
          exact hj51 _ _ ⟨1, 0, f20, f23, rfl, rfl, rfl, rfl, rfl, rfl, rfl, rfl, rfl, rfl, rfl, rfl, rfl, rfl, rfl, E47, H279, H280, H281, H282, H283, (by first | (have hq := arr1 (u := 0) (d := 0) (by assumption); exact ⟨hq.1, hq.2, by omega, by omega, by omega, by omega⟩) | (have hq := arr2 (u := 0) (d := 0) (by assumption) (by assumption); exact ⟨hq.1, hq.2, by omega, by omega, by omega, by omega⟩) | (have hq := arr3 (u := 0) (d := 0) (by assumption) (by assumption); exact ⟨hq.1, hq.2, by omega, by omega, by omega, by omega⟩))⟩
        · -- JFF
          refine rk_cf (T rfl (congrArg Value.bool (decide_eq_false hb278))) ?_
          refine rk_seq ?_
          refine rk_reg ?_
          refine lw_v (.bool (decide ((sgnI (crossI ax ay bx by_ lx ly)) = (-1)))) (dv_eql (a := sgnI (crossI ax ay bx by_ lx ly)) (b := -1) (T rfl rfl) C) ?_
          refine lw_v (.bool (decide ((sgnI (crossI ax ay bx by_ lx ly)) = (-1)))) (dv_assign (T rfl rfl)) ?_
          refine lw_nil ?_
          by_cases hb284 : (sgnI (crossI ax ay bx by_ lx ly)) = (-1)
          · -- JFFT
            refine rk_ct (T rfl (congrArg Value.bool (decide_eq_true hb284))) ?_
            refine rk_reg ?_
            refine lw_v (.int .i64 0) (dv_move (T rfl rfl)) ?_
            refine lw_v (.int .i64 1) (dv_add (a := 0) (b := 1) (z := 1) (T rfl rfl) C (by decide)) ?_
            refine lw_v (.int .i64 1) (dv_assign (T rfl rfl)) ?_
            refine lw_nil ?_
            refine rk_inBlock ?_
            have H285 := (e46.blk H44)
            have H286 := (e46.blk (s41.blk (n37.ext.blk (n32.ext.blk H27)) (by omega)))
            have H287 := (e46.blk (s41.blk (n37.ext.blk (n32.ext.blk H28)) (by omega)))
            have H288 := (e46.blk (s41.blk (n37.ext.blk n32.blk) (by omega)))
            have H289 := (e46.blk H42)
            exact hj51 _ _ ⟨0, 1, f20, f23, rfl, rfl, rfl, rfl, rfl, rfl, rfl, rfl, rfl, rfl, rfl, rfl, rfl, rfl, rfl, E47, H285, H286, H287, H288, H289, (by first | (have hq := arr1 (u := 0) (d := 0) (by assumption); exact ⟨hq.1, hq.2, by omega, by omega, by omega, by omega⟩) | (have hq := arr2 (u := 0) (d := 0) (by assumption) (by assumption); exact ⟨hq.1, hq.2, by omega, by omega, by omega, by omega⟩) | (have hq := arr3 (u := 0) (d := 0) (by assumption) (by assumption); exact ⟨hq.1, hq.2, by omega, by omega, by omega, by omega⟩))⟩
          · -- JFFF
            refine rk_cf (T rfl (congrArg Value.bool (decide_eq_false hb284))) ?_
            refine rk_skip ?_
            refine rk_inBlock ?_
            have H290 := (e46.blk H44)
            have H291 := (e46.blk (s41.blk (n37.ext.blk (n32.ext.blk H27)) (by omega)))
            have H292 := (e46.blk (s41.blk (n37.ext.blk (n32.ext.blk H28)) (by omega)))
            have H293 := (e46.blk (s41.blk (n37.ext.blk n32.blk) (by omega)))
            have H294 := (e46.blk H42)
            exact hj51 _ _ ⟨0, 0, f20, f23, rfl, rfl, rfl, rfl, rfl, rfl, rfl, rfl, rfl, rfl, rfl, rfl, rfl, rfl, rfl, E47, H290, H291, H292, H293, H294, (by first | (have hq := arr1 (u := 0) (d := 0) (by assumption); exact ⟨hq.1, hq.2, by omega, by omega, by omega, by omega⟩) | (have hq := arr2 (u := 0) (d := 0) (by assumption) (by assumption); exact ⟨hq.1, hq.2, by omega, by omega, by omega, by omega⟩) | (have hq := arr3 (u := 0) (d := 0) (by assumption) (by assumption); exact ⟨hq.1, hq.2, by omega, by omega, by omega, by omega⟩))⟩
  · -- up to the join
    refine rk_reg ?_
    refine lw_v (.pointer (some ⟨b1, 2, none⟩)) (dv_fieldAddr (a := ⟨b1, 0, none⟩) (a' := ⟨b1, 2, none⟩) fo33_1 (T rfl rfl) rfl) ?_
    refine lw_v (.pointer (some ⟨b1, 2, none⟩)) (dv_fieldAddr (a := ⟨b1, 2, none⟩) (a' := ⟨b1, 2, none⟩) fo26_0 (T rfl rfl) rfl) ?_
    have H295 := (n13.ext.blk (n8.ext.blk n3.blk))
    refine lw_v (.int .i64 bx) (dv_load1 (b := b1) (o := 2) ag2 (T rfl rfl) H295 rfl) ?_
    refine lw_v (.pointer (some ⟨b6, 0, none⟩)) (dv_fieldAddr (a := ⟨b6, 0, none⟩) (a' := ⟨b6, 0, none⟩) fo26_0 (T rfl rfl) rfl) ?_
    have H296 := (n13.ext.blk n8.blk)
    refine lw_v (.int .i64 lx) (dv_load1 (b := b6) (o := 0) ag2 (T rfl rfl) H296 rfl) ?_
    refine lw_v (.bool (decide (bx < lx))) (dv_lss (a := bx) (b := lx) (T rfl rfl) (T rfl rfl)) ?_
    refine lw_v (.bool (decide (bx < lx))) (dv_move (T rfl rfl)) ?_
    by_cases hb297 : bx < lx
    · -- T
      refine lw_no (d := 17) rfl rfl (congrArg Value.bool (decide_eq_true hb297)) ?_
      refine lw_no (d := 17) rfl rfl (congrArg Value.bool (decide_eq_true hb297)) ?_
      refine lw_no (d := 17) rfl rfl (congrArg Value.bool (decide_eq_true hb297)) ?_
      refine lw_no (d := 17) rfl rfl (congrArg Value.bool (decide_eq_true hb297)) ?_
      refine lw_no (d := 17) rfl rfl (congrArg Value.bool (decide_eq_true hb297)) ?_
      refine lw_no (d := 17) rfl rfl (congrArg Value.bool (decide_eq_true hb297)) ?_
      refine lw_v (.bool true) (dv_pick_t (T rfl (congrArg Value.bool (decide_eq_true hb297))) C) ?_
      refine lw_v (.bool true) (dv_move (T rfl rfl)) ?_
      refine lw_no (d := 25) rfl rfl (rfl) ?_
      refine lw_no (d := 25) rfl rfl (rfl) ?_
      refine lw_no (d := 25) rfl rfl (rfl) ?_
      refine lw_no (d := 25) rfl rfl (rfl) ?_
      refine lw_no (d := 25) rfl rfl (rfl) ?_
      refine lw_no (d := 25) rfl rfl (rfl) ?_
      refine lw_no (d := 25) rfl rfl (rfl) ?_
      refine lw_nou (d := 32) rfl rfl ?_
      refine lw_nou (d := 32) rfl rfl ?_
      refine lw_nou (d := 32) rfl rfl ?_
      refine lw_nou (d := 32) rfl rfl ?_
      refine lw_nou (d := 32) rfl rfl ?_
      refine lw_nou (d := 32) rfl rfl ?_
      refine lw_no (d := 25) rfl rfl (rfl) ?_
      refine lw_v (.bool true) (dv_pick_t (T rfl rfl) C) ?_
      refine lw_v (.bool true) (dv_move (T rfl rfl)) ?_
      refine lw_no (d := 41) rfl rfl (rfl) ?_
      refine lw_no (d := 41) rfl rfl (rfl) ?_
      refine lw_no (d := 41) rfl rfl (rfl) ?_
      refine lw_no (d := 41) rfl rfl (rfl) ?_
      refine lw_no (d := 41) rfl rfl (rfl) ?_
      refine lw_no (d := 41) rfl rfl (rfl) ?_
      refine lw_no (d := 41) rfl rfl (rfl) ?_
      refine lw_nou (d := 48) rfl rfl ?_
      refine lw_nou (d := 48) rfl rfl ?_
      refine lw_nou (d := 48) rfl rfl ?_
      refine lw_nou (d := 48) rfl rfl ?_
      refine lw_nou (d := 48) rfl rfl ?_
      refine lw_nou (d := 48) rfl rfl ?_
      refine lw_no (d := 41) rfl rfl (rfl) ?_
      refine lw_v (.bool true) (dv_pick_t (T rfl rfl) C) ?_
      refine lw_nil ?_
      exact hj18 _ _ ⟨rfl, rfl, rfl, rfl, (by first | exact vt (by omega) | exact vf (by omega) | exact vb (by omega)), E15, H295, H296, n13.blk⟩
    · -- F
      refine lw_vy (.pointer (some ⟨b1, 0, none⟩)) (d := 17) rfl rfl (congrArg Value.bool (decide_eq_false hb297)) (dv_fieldAddr (a := ⟨b1, 0, none⟩) (a' := ⟨b1, 0, none⟩) fo33_0 (T rfl rfl) rfl) ?_
      refine lw_vy (.pointer (some ⟨b1, 0, none⟩)) (d := 17) rfl rfl (congrArg Value.bool (decide_eq_false hb297)) (dv_fieldAddr (a := ⟨b1, 0, none⟩) (a' := ⟨b1, 0, none⟩) fo26_0 (T rfl rfl) rfl) ?_
      refine lw_vy (.int .i64 ax) (d := 17) rfl rfl (congrArg Value.bool (decide_eq_false hb297)) (dv_load1 (b := b1) (o := 0) ag2 (T rfl rfl) H295 rfl) ?_
      refine lw_vy (.pointer (some ⟨b11, 0, none⟩)) (d := 17) rfl rfl (congrArg Value.bool (decide_eq_false hb297)) (dv_fieldAddr (a := ⟨b11, 0, none⟩) (a' := ⟨b11, 0, none⟩) fo26_0 (T rfl rfl) rfl) ?_
      refine lw_vy (.int .i64 hx) (d := 17) rfl rfl (congrArg Value.bool (decide_eq_false hb297)) (dv_load1 (b := b11) (o := 0) ag2 (T rfl rfl) n13.blk rfl) ?_
      refine lw_vy (.bool (decide (hx < ax))) (d := 17) rfl rfl (congrArg Value.bool (decide_eq_false hb297)) (dv_gtr (a := ax) (b := hx) (T rfl rfl) (T rfl rfl)) ?_
      refine lw_v (.bool (decide (hx < ax))) (dv_pick_f (T rfl (congrArg Value.bool (decide_eq_false hb297))) (T rfl rfl)) ?_
      refine lw_v (.bool (decide (hx < ax))) (dv_move (T rfl rfl)) ?_
      by_cases hb298 : hx < ax
      · -- FT
        refine lw_no (d := 25) rfl rfl (congrArg Value.bool (decide_eq_true hb298)) ?_
        refine lw_no (d := 25) rfl rfl (congrArg Value.bool (decide_eq_true hb298)) ?_
        refine lw_no (d := 25) rfl rfl (congrArg Value.bool (decide_eq_true hb298)) ?_
        refine lw_no (d := 25) rfl rfl (congrArg Value.bool (decide_eq_true hb298)) ?_
        refine lw_no (d := 25) rfl rfl (congrArg Value.bool (decide_eq_true hb298)) ?_
        refine lw_no (d := 25) rfl rfl (congrArg Value.bool (decide_eq_true hb298)) ?_
        refine lw_no (d := 25) rfl rfl (congrArg Value.bool (decide_eq_true hb298)) ?_
        refine lw_nou (d := 32) rfl rfl ?_
        refine lw_nou (d := 32) rfl rfl ?_
        refine lw_nou (d := 32) rfl rfl ?_
        refine lw_nou (d := 32) rfl rfl ?_
        refine lw_nou (d := 32) rfl rfl ?_
        refine lw_nou (d := 32) rfl rfl ?_
        refine lw_no (d := 25) rfl rfl (congrArg Value.bool (decide_eq_true hb298)) ?_
        refine lw_v (.bool true) (dv_pick_t (T rfl (congrArg Value.bool (decide_eq_true hb298))) C) ?_
        refine lw_v (.bool true) (dv_move (T rfl rfl)) ?_
        refine lw_no (d := 41) rfl rfl (rfl) ?_
        refine lw_no (d := 41) rfl rfl (rfl) ?_
        refine lw_no (d := 41) rfl rfl (rfl) ?_
        refine lw_no (d := 41) rfl rfl (rfl) ?_
        refine lw_no (d := 41) rfl rfl (rfl) ?_
        refine lw_no (d := 41) rfl rfl (rfl) ?_
        refine lw_no (d := 41) rfl rfl (rfl) ?_
        refine lw_nou (d := 48) rfl rfl ?_
        refine lw_nou (d := 48) rfl rfl ?_
        refine lw_nou (d := 48) rfl rfl ?_
        refine lw_nou (d := 48) rfl rfl ?_
        refine lw_nou (d := 48) rfl rfl ?_
        refine lw_nou (d := 48) rfl rfl ?_
        refine lw_no (d := 41) rfl rfl (rfl) ?_
        refine lw_v (.bool true) (dv_pick_t (T rfl rfl) C) ?_
        refine lw_nil ?_
        exact hj18 _ _ ⟨rfl, rfl, rfl, rfl, (by first | exact vt (by omega) | exact vf (by omega) | exact vb (by omega)), E15, H295, H296, n13.blk⟩
      · -- FF
        refine lw_vy (.pointer (some ⟨b1, 0, none⟩)) (d := 25) rfl rfl (congrArg Value.bool (decide_eq_false hb298)) (dv_fieldAddr (a := ⟨b1, 0, none⟩) (a' := ⟨b1, 0, none⟩) fo33_0 (T rfl rfl) rfl) ?_
        refine lw_vy (.pointer (some ⟨b1, 1, none⟩)) (d := 25) rfl rfl (congrArg Value.bool (decide_eq_false hb298)) (dv_fieldAddr (a := ⟨b1, 0, none⟩) (a' := ⟨b1, 1, none⟩) fo26_1 (T rfl rfl) rfl) ?_
        refine lw_vy (.int .i64 ay) (d := 25) rfl rfl (congrArg Value.bool (decide_eq_false hb298)) (dv_load1 (b := b1) (o := 1) ag2 (T rfl rfl) H295 rfl) ?_
        refine lw_vy (.pointer (some ⟨b6, 1, none⟩)) (d := 25) rfl rfl (congrArg Value.bool (decide_eq_false hb298)) (dv_fieldAddr (a := ⟨b6, 0, none⟩) (a' := ⟨b6, 1, none⟩) fo26_1 (T rfl rfl) rfl) ?_
        refine lw_vy (.int .i64 ly) (d := 25) rfl rfl (congrArg Value.bool (decide_eq_false hb298)) (dv_load1 (b := b6) (o := 1) ag2 (T rfl rfl) H296 rfl) ?_
        refine lw_vy (.bool (decide (ay < ly))) (d := 25) rfl rfl (congrArg Value.bool (decide_eq_false hb298)) (dv_lss (a := ay) (b := ly) (T rfl rfl) (T rfl rfl)) ?_
        refine lw_vy (.bool (decide (ay < ly))) (d := 25) rfl rfl (congrArg Value.bool (decide_eq_false hb298)) (dv_move (T rfl rfl)) ?_
        by_cases hb299 : ay < ly
        · -- FFT
          refine lw_vy (.pointer (some ⟨b1, 2, none⟩)) (d := 32) rfl rfl (congrArg Value.bool (decide_eq_true hb299)) (dv_fieldAddr (a := ⟨b1, 0, none⟩) (a' := ⟨b1, 2, none⟩) fo33_1 (T rfl rfl) rfl) ?_
          refine lw_vy (.pointer (some ⟨b1, 3, none⟩)) (d := 32) rfl rfl (congrArg Value.bool (decide_eq_true hb299)) (dv_fieldAddr (a := ⟨b1, 2, none⟩) (a' := ⟨b1, 3, none⟩) fo26_1 (T rfl rfl) rfl) ?_
          refine lw_vy (.int .i64 by_) (d := 32) rfl rfl (congrArg Value.bool (decide_eq_true hb299)) (dv_load1 (b := b1) (o := 3) ag2 (T rfl rfl) H295 rfl) ?_
          refine lw_vy (.pointer (some ⟨b6, 1, none⟩)) (d := 32) rfl rfl (congrArg Value.bool (decide_eq_true hb299)) (dv_fieldAddr (a := ⟨b6, 0, none⟩) (a' := ⟨b6, 1, none⟩) fo26_1 (T rfl rfl) rfl) ?_
          refine lw_vy (.int .i64 ly) (d := 32) rfl rfl (congrArg Value.bool (decide_eq_true hb299)) (dv_load1 (b := b6) (o := 1) ag2 (T rfl rfl) H296 rfl) ?_
          refine lw_vy (.bool (decide (by_ < ly))) (d := 32) rfl rfl (congrArg Value.bool (decide_eq_true hb299)) (dv_lss (a := by_) (b := ly) (T rfl rfl) (T rfl rfl)) ?_
          refine lw_vy (.bool (decide (by_ < ly))) (d := 25) rfl rfl (congrArg Value.bool (decide_eq_false hb298)) (dv_pick_t (T rfl (congrArg Value.bool (decide_eq_true hb299))) (T rfl rfl)) ?_
          refine lw_v (.bool (decide (by_ < ly))) (dv_pick_f (T rfl (congrArg Value.bool (decide_eq_false hb298))) (T rfl rfl)) ?_
          refine lw_v (.bool (decide (by_ < ly))) (dv_move (T rfl rfl)) ?_
          by_cases hb300 : by_ < ly
          · -- FFTT
            refine lw_no (d := 41) rfl rfl (congrArg Value.bool (decide_eq_true hb300)) ?_
            refine lw_no (d := 41) rfl rfl (congrArg Value.bool (decide_eq_true hb300)) ?_
            refine lw_no (d := 41) rfl rfl (congrArg Value.bool (decide_eq_true hb300)) ?_
            refine lw_no (d := 41) rfl rfl (congrArg Value.bool (decide_eq_true hb300)) ?_
            refine lw_no (d := 41) rfl rfl (congrArg Value.bool (decide_eq_true hb300)) ?_
            refine lw_no (d := 41) rfl rfl (congrArg Value.bool (decide_eq_true hb300)) ?_
            refine lw_no (d := 41) rfl rfl (congrArg Value.bool (decide_eq_true hb300)) ?_
            refine lw_nou (d := 48) rfl rfl ?_
            refine lw_nou (d := 48) rfl rfl ?_
            refine lw_nou (d := 48) rfl rfl ?_
            refine lw_nou (d := 48) rfl rfl ?_
            refine lw_nou (d := 48) rfl rfl ?_
            refine lw_nou (d := 48) rfl rfl ?_
            refine lw_no (d := 41) rfl rfl (congrArg Value.bool (decide_eq_true hb300)) ?_
            refine lw_v (.bool true) (dv_pick_t (T rfl (congrArg Value.bool (decide_eq_true hb300))) C) ?_
            refine lw_nil ?_
            exact hj18 _ _ ⟨rfl, rfl, rfl, rfl, (by first | exact vt (by omega) | exact vf (by omega) | exact vb (by omega)), E15, H295, H296, n13.blk⟩
          · -- FFTF
            refine lw_vy (.pointer (some ⟨b1, 0, none⟩)) (d := 41) rfl rfl (congrArg Value.bool (decide_eq_false hb300)) (dv_fieldAddr (a := ⟨b1, 0, none⟩) (a' := ⟨b1, 0, none⟩) fo33_0 (T rfl rfl) rfl) ?_
            refine lw_vy (.pointer (some ⟨b1, 1, none⟩)) (d := 41) rfl rfl (congrArg Value.bool (decide_eq_false hb300)) (dv_fieldAddr (a := ⟨b1, 0, none⟩) (a' := ⟨b1, 1, none⟩) fo26_1 (T rfl rfl) rfl) ?_
            refine lw_vy (.int .i64 ay) (d := 41) rfl rfl (congrArg Value.bool (decide_eq_false hb300)) (dv_load1 (b := b1) (o := 1) ag2 (T rfl rfl) H295 rfl) ?_
            refine lw_vy (.pointer (some ⟨b11, 1, none⟩)) (d := 41) rfl rfl (congrArg Value.bool (decide_eq_false hb300)) (dv_fieldAddr (a := ⟨b11, 0, none⟩) (a' := ⟨b11, 1, none⟩) fo26_1 (T rfl rfl) rfl) ?_
            refine lw_vy (.int .i64 hy) (d := 41) rfl rfl (congrArg Value.bool (decide_eq_false hb300)) (dv_load1 (b := b11) (o := 1) ag2 (T rfl rfl) n13.blk rfl) ?_
            refine lw_vy (.bool (decide (hy < ay))) (d := 41) rfl rfl (congrArg Value.bool (decide_eq_false hb300)) (dv_gtr (a := ay) (b := hy) (T rfl rfl) (T rfl rfl)) ?_
            refine lw_vy (.bool (decide (hy < ay))) (d := 41) rfl rfl (congrArg Value.bool (decide_eq_false hb300)) (dv_move (T rfl rfl)) ?_
            by_cases hb301 : hy < ay
            · -- FFTFT
              refine lw_vy (.pointer (some ⟨b1, 2, none⟩)) (d := 48) rfl rfl (congrArg Value.bool (decide_eq_true hb301)) (dv_fieldAddr (a := ⟨b1, 0, none⟩) (a' := ⟨b1, 2, none⟩) fo33_1 (T rfl rfl) rfl) ?_
              refine lw_vy (.pointer (some ⟨b1, 3, none⟩)) (d := 48) rfl rfl (congrArg Value.bool (decide_eq_true hb301)) (dv_fieldAddr (a := ⟨b1, 2, none⟩) (a' := ⟨b1, 3, none⟩) fo26_1 (T rfl rfl) rfl) ?_
              refine lw_vy (.int .i64 by_) (d := 48) rfl rfl (congrArg Value.bool (decide_eq_true hb301)) (dv_load1 (b := b1) (o := 3) ag2 (T rfl rfl) H295 rfl) ?_
              refine lw_vy (.pointer (some ⟨b11, 1, none⟩)) (d := 48) rfl rfl (congrArg Value.bool (decide_eq_true hb301)) (dv_fieldAddr (a := ⟨b11, 0, none⟩) (a' := ⟨b11, 1, none⟩) fo26_1 (T rfl rfl) rfl) ?_
              refine lw_vy (.int .i64 hy) (d := 48) rfl rfl (congrArg Value.bool (decide_eq_true hb301)) (dv_load1 (b := b11) (o := 1) ag2 (T rfl rfl) n13.blk rfl) ?_
              refine lw_vy (.bool (decide (hy < by_))) (d := 48) rfl rfl (congrArg Value.bool (decide_eq_true hb301)) (dv_gtr (a := by_) (b := hy) (T rfl rfl) (T rfl rfl)) ?_
              refine lw_vy (.bool (decide (hy < by_))) (d := 41) rfl rfl (congrArg Value.bool (decide_eq_false hb300)) (dv_pick_t (T rfl (congrArg Value.bool (decide_eq_true hb301))) (T rfl rfl)) ?_
              refine lw_v (.bool (decide (hy < by_))) (dv_pick_f (T rfl (congrArg Value.bool (decide_eq_false hb300))) (T rfl rfl)) ?_
              refine lw_nil ?_
              exact hj18 _ _ ⟨rfl, rfl, rfl, rfl, (by first | exact vt (by omega) | exact vf (by omega) | exact vb (by omega)), E15, H295, H296, n13.blk⟩
            · -- FFTFF
              refine lw_no (d := 48) rfl rfl (congrArg Value.bool (decide_eq_false hb301)) ?_
              refine lw_no (d := 48) rfl rfl (congrArg Value.bool (decide_eq_false hb301)) ?_
              refine lw_no (d := 48) rfl rfl (congrArg Value.bool (decide_eq_false hb301)) ?_
              refine lw_no (d := 48) rfl rfl (congrArg Value.bool (decide_eq_false hb301)) ?_
              refine lw_no (d := 48) rfl rfl (congrArg Value.bool (decide_eq_false hb301)) ?_
              refine lw_no (d := 48) rfl rfl (congrArg Value.bool (decide_eq_false hb301)) ?_
              refine lw_vy (.bool false) (d := 41) rfl rfl (congrArg Value.bool (decide_eq_false hb300)) (dv_pick_f (T rfl (congrArg Value.bool (decide_eq_false hb301))) C) ?_
              refine lw_v (.bool false) (dv_pick_f (T rfl (congrArg Value.bool (decide_eq_false hb300))) (T rfl rfl)) ?_
              refine lw_nil ?_
              exact hj18 _ _ ⟨rfl, rfl, rfl, rfl, (by first | exact vt (by omega) | exact vf (by omega) | exact vb (by omega)), E15, H295, H296, n13.blk⟩
        · -- FFF
          refine lw_no (d := 32) rfl rfl (congrArg Value.bool (decide_eq_false hb299)) ?_
          refine lw_no (d := 32) rfl rfl (congrArg Value.bool (decide_eq_false hb299)) ?_
          refine lw_no (d := 32) rfl rfl (congrArg Value.bool (decide_eq_false hb299)) ?_
          refine lw_no (d := 32) rfl rfl (congrArg Value.bool (decide_eq_false hb299)) ?_
          refine lw_no (d := 32) rfl rfl (congrArg Value.bool (decide_eq_false hb299)) ?_
          refine lw_no (d := 32) rfl rfl (congrArg Value.bool (decide_eq_false hb299)) ?_
          refine lw_vy (.bool false) (d := 25) rfl rfl (congrArg Value.bool (decide_eq_false hb298)) (dv_pick_f (T rfl (congrArg Value.bool (decide_eq_false hb299))) C) ?_
          refine lw_v (.bool false) (dv_pick_f (T rfl (congrArg Value.bool (decide_eq_false hb298))) (T rfl rfl)) ?_
          refine lw_v (.bool false) (dv_move (T rfl rfl)) ?_
          refine lw_vy (.pointer (some ⟨b1, 0, none⟩)) (d := 41) rfl rfl (rfl) (dv_fieldAddr (a := ⟨b1, 0, none⟩) (a' := ⟨b1, 0, none⟩) fo33_0 (T rfl rfl) rfl) ?_
          refine lw_vy (.pointer (some ⟨b1, 1, none⟩)) (d := 41) rfl rfl (rfl) (dv_fieldAddr (a := ⟨b1, 0, none⟩) (a' := ⟨b1, 1, none⟩) fo26_1 (T rfl rfl) rfl) ?_
          refine lw_vy (.int .i64 ay) (d := 41) rfl rfl (rfl) (dv_load1 (b := b1) (o := 1) ag2 (T rfl rfl) H295 rfl) ?_
          refine lw_vy (.pointer (some ⟨b11, 1, none⟩)) (d := 41) rfl rfl (rfl) (dv_fieldAddr (a := ⟨b11, 0, none⟩) (a' := ⟨b11, 1, none⟩) fo26_1 (T rfl rfl) rfl) ?_
          refine lw_vy (.int .i64 hy) (d := 41) rfl rfl (rfl) (dv_load1 (b := b11) (o := 1) ag2 (T rfl rfl) n13.blk rfl) ?_
          refine lw_vy (.bool (decide (hy < ay))) (d := 41) rfl rfl (rfl) (dv_gtr (a := ay) (b := hy) (T rfl rfl) (T rfl rfl)) ?_
          refine lw_vy (.bool (decide (hy < ay))) (d := 41) rfl rfl (rfl) (dv_move (T rfl rfl)) ?_
          by_cases hb302 : hy < ay
          · -- FFFT
            refine lw_vy (.pointer (some ⟨b1, 2, none⟩)) (d := 48) rfl rfl (congrArg Value.bool (decide_eq_true hb302)) (dv_fieldAddr (a := ⟨b1, 0, none⟩) (a' := ⟨b1, 2, none⟩) fo33_1 (T rfl rfl) rfl) ?_
            refine lw_vy (.pointer (some ⟨b1, 3, none⟩)) (d := 48) rfl rfl (congrArg Value.bool (decide_eq_true hb302)) (dv_fieldAddr (a := ⟨b1, 2, none⟩) (a' := ⟨b1, 3, none⟩) fo26_1 (T rfl rfl) rfl) ?_
            refine lw_vy (.int .i64 by_) (d := 48) rfl rfl (congrArg Value.bool (decide_eq_true hb302)) (dv_load1 (b := b1) (o := 3) ag2 (T rfl rfl) H295 rfl) ?_
            refine lw_vy (.pointer (some ⟨b11, 1, none⟩)) (d := 48) rfl rfl (congrArg Value.bool (decide_eq_true hb302)) (dv_fieldAddr (a := ⟨b11, 0, none⟩) (a' := ⟨b11, 1, none⟩) fo26_1 (T rfl rfl) rfl) ?_
            refine lw_vy (.int .i64 hy) (d := 48) rfl rfl (congrArg Value.bool (decide_eq_true hb302)) (dv_load1 (b := b11) (o := 1) ag2 (T rfl rfl) n13.blk rfl) ?_
            refine lw_vy (.bool (decide (hy < by_))) (d := 48) rfl rfl (congrArg Value.bool (decide_eq_true hb302)) (dv_gtr (a := by_) (b := hy) (T rfl rfl) (T rfl rfl)) ?_
            refine lw_vy (.bool (decide (hy < by_))) (d := 41) rfl rfl (rfl) (dv_pick_t (T rfl (congrArg Value.bool (decide_eq_true hb302))) (T rfl rfl)) ?_
            refine lw_v (.bool (decide (hy < by_))) (dv_pick_f (T rfl rfl) (T rfl rfl)) ?_
            refine lw_nil ?_
            exact hj18 _ _ ⟨rfl, rfl, rfl, rfl, (by first | exact vt (by omega) | exact vf (by omega) | exact vb (by omega)), E15, H295, H296, n13.blk⟩
          · -- FFFF
            refine lw_no (d := 48) rfl rfl (congrArg Value.bool (decide_eq_false hb302)) ?_
            refine lw_no (d := 48) rfl rfl (congrArg Value.bool (decide_eq_false hb302)) ?_
            refine lw_no (d := 48) rfl rfl (congrArg Value.bool (decide_eq_false hb302)) ?_
            refine lw_no (d := 48) rfl rfl (congrArg Value.bool (decide_eq_false hb302)) ?_
            refine lw_no (d := 48) rfl rfl (congrArg Value.bool (decide_eq_false hb302)) ?_
            refine lw_no (d := 48) rfl rfl (congrArg Value.bool (decide_eq_false hb302)) ?_
            refine lw_vy (.bool false) (d := 41) rfl rfl (rfl) (dv_pick_f (T rfl (congrArg Value.bool (decide_eq_false hb302))) C) ?_
            refine lw_v (.bool false) (dv_pick_f (T rfl rfl) (T rfl rfl)) ?_
            refine lw_nil ?_
            exact hj18 _ _ ⟨rfl, rfl, rfl, rfl, (by first | exact vt (by omega) | exact vf (by omega) | exact vb (by omega)), E15, H295, H296, n13.blk⟩
set_option maxRecDepth 100000 in
set_option maxHeartbeats 4000000 in
theorem sMeetsBox_ok {w : World} {ax ay bx by_ lx ly hx hy : Int} : Ct Try.prog 18 [.agg #[.int .i64 ax, .int .i64 ay, .int .i64 bx, .int .i64 by_], .agg #[.int .i64 lx, .int .i64 ly], .agg #[.int .i64 hx, .int .i64 hy]] w fun v w1 => v = .bool (decide (segOk ax ay bx by_ ∧ boxOk lx ly hx hy ∧ mbox ax ay bx by_ lx ly hx hy)) ∧ Ext w w1 := by
  refine ct_run (n := 20) Try.func18 rfl Try.ntmps18 rfl ?_
  have E0 : Below w.heap.size w w := Below.refl _ _
  refine rk_seq ?_
  refine rk_reg ?_
  refine lw_e (oe_box (v := .agg #[.int .i64 ax, .int .i64 ay, .int .i64 bx, .int .i64 by_]) (cs := #[.int .i64 ax, .int .i64 ay, .int .i64 bx, .int .i64 by_]) (T rfl rfl) rfl ?_)
  intro b1 w2 n3
  have N4 : w.heap.size ≤ b1 := n3.eq ▸ E0.size
  have E5 := below_ext E0 E0.size n3.ext
  refine lw_e (oe_box (v := .agg #[.int .i64 lx, .int .i64 ly]) (cs := #[.int .i64 lx, .int .i64 ly]) (T rfl rfl) rfl ?_)
  intro b6 w7 n8
  have N9 : w.heap.size ≤ b6 := n8.eq ▸ E5.size
  have : b1 < b6 := n8.eq ▸ lt_of_blk n3.blk
  have E10 := below_ext E5 E5.size n8.ext
  refine lw_e (oe_box (v := .agg #[.int .i64 hx, .int .i64 hy]) (cs := #[.int .i64 hx, .int .i64 hy]) (T rfl rfl) rfl ?_)
  intro b11 w12 n13
  have N14 : w.heap.size ≤ b11 := n13.eq ▸ E10.size
  have : b6 < b11 := n13.eq ▸ lt_of_blk n8.blk
  have E15 := below_ext E10 E10.size n13.ext
  refine lw_v (.bool false) (dv_assign C) ?_
  refine lw_nil ?_
  refine rk_seq ?_
  refine rk_reg ?_
  have H16 := (n13.ext.blk (n8.ext.blk n3.blk))
  refine lw_v (.agg #[.int .i64 ax, .int .i64 ay, .int .i64 bx, .int .i64 by_]) (dv_loads (l := [.int .i64 ax, .int .i64 ay, .int .i64 bx, .int .i64 by_]) ag33 sz33 (T rfl rfl) H16 rfl) ?_
  refine lw_e (oe_callf (vs := [.agg #[.int .i64 ax, .int .i64 ay, .int .i64 bx, .int .i64 by_]]) co12 (ar1 (T rfl rfl)) (sSegOk_ok ) ?_)
  rintro _ w17 ⟨rfl, e18⟩
  have E19 := below_ext E15 E15.size e18
  refine lw_v (.bool (decide (segOk ax ay bx by_))) (dv_move (T rfl rfl)) ?_
  by_cases hb20 : segOk ax ay bx by_
  · -- T
    have H21 := (e18.blk (n13.ext.blk n8.blk))
    refine lw_vy (.agg #[.int .i64 lx, .int .i64 ly]) (d := 9) rfl rfl (congrArg Value.bool (decide_eq_true hb20)) (dv_loads (l := [.int .i64 lx, .int .i64 ly]) ag26 sz26 (T rfl rfl) H21 rfl) ?_
    have H22 := (e18.blk n13.blk)
    refine lw_vy (.agg #[.int .i64 hx, .int .i64 hy]) (d := 9) rfl rfl (congrArg Value.bool (decide_eq_true hb20)) (dv_loads (l := [.int .i64 hx, .int .i64 hy]) ag26 sz26 (T rfl rfl) H22 rfl) ?_
    refine lw_ey (d := 9) rfl rfl (congrArg Value.bool (decide_eq_true hb20)) (oe_callf (vs := [.agg #[.int .i64 lx, .int .i64 ly], .agg #[.int .i64 hx, .int .i64 hy]]) co31 (ar2 (T rfl rfl) (T rfl rfl)) (l4Box_ok ) ?_)
    rintro _ w23 ⟨rfl, e24⟩
    have E25 := below_ext E19 E19.size e24
    refine lw_v (.bool (decide (boxOk lx ly hx hy))) (dv_pick_t (T rfl (congrArg Value.bool (decide_eq_true hb20))) (T rfl rfl)) ?_
    refine lw_v (.bool (decide (boxOk lx ly hx hy))) (dv_move (T rfl rfl)) ?_
    by_cases hb26 : boxOk lx ly hx hy
    · -- TT
      have H27 := (e24.blk (e18.blk H16))
      refine lw_vy (.agg #[.int .i64 ax, .int .i64 ay, .int .i64 bx, .int .i64 by_]) (d := 14) rfl rfl (congrArg Value.bool (decide_eq_true hb26)) (dv_loads (l := [.int .i64 ax, .int .i64 ay, .int .i64 bx, .int .i64 by_]) ag33 sz33 (T rfl rfl) H27 rfl) ?_
      have H28 := (e24.blk H21)
      refine lw_vy (.agg #[.int .i64 lx, .int .i64 ly]) (d := 14) rfl rfl (congrArg Value.bool (decide_eq_true hb26)) (dv_loads (l := [.int .i64 lx, .int .i64 ly]) ag26 sz26 (T rfl rfl) H28 rfl) ?_
      have H29 := (e24.blk H22)
      refine lw_vy (.agg #[.int .i64 hx, .int .i64 hy]) (d := 14) rfl rfl (congrArg Value.bool (decide_eq_true hb26)) (dv_loads (l := [.int .i64 hx, .int .i64 hy]) ag26 sz26 (T rfl rfl) H29 rfl) ?_
      refine lw_ey (d := 14) rfl rfl (congrArg Value.bool (decide_eq_true hb26)) (oe_callf (vs := [.agg #[.int .i64 ax, .int .i64 ay, .int .i64 bx, .int .i64 by_], .agg #[.int .i64 lx, .int .i64 ly], .agg #[.int .i64 hx, .int .i64 hy]]) co32 (ar3 (T rfl rfl) (T rfl rfl) (T rfl rfl)) (sMeets_ok (mrange (by assumption) (by assumption))) ?_)
      rintro _ w30 ⟨rfl, e31⟩
      have E32 := below_ext E25 E25.size e31
      refine lw_v (.bool (decide (mbox ax ay bx by_ lx ly hx hy))) (dv_pick_t (T rfl (congrArg Value.bool (decide_eq_true hb26))) (T rfl rfl)) ?_
      refine lw_v (.bool (decide (mbox ax ay bx by_ lx ly hx hy))) (dv_assign (T rfl rfl)) ?_
      refine lw_nil ?_
      refine rk_ret Try.func18 (v := .bool (decide (mbox ax ay bx by_ lx ly hx hy))) (res1 Try.results18 (rv_tmp rfl rfl)) ⟨_, rfl, ?_⟩
      exact ⟨(vb (by grind)), E32⟩
    · -- TF
      refine lw_no (d := 14) rfl rfl (congrArg Value.bool (decide_eq_false hb26)) ?_
      refine lw_no (d := 14) rfl rfl (congrArg Value.bool (decide_eq_false hb26)) ?_
      refine lw_no (d := 14) rfl rfl (congrArg Value.bool (decide_eq_false hb26)) ?_
      refine lw_no (d := 14) rfl rfl (congrArg Value.bool (decide_eq_false hb26)) ?_
      refine lw_v (.bool false) (dv_pick_f (T rfl (congrArg Value.bool (decide_eq_false hb26))) C) ?_
      refine lw_v (.bool false) (dv_assign (T rfl rfl)) ?_
      refine lw_nil ?_
      refine rk_ret Try.func18 (v := .bool false) (res1 Try.results18 (rv_tmp rfl rfl)) ⟨_, rfl, ?_⟩
      exact ⟨(vf (by grind)), E25⟩
  · -- F
    refine lw_no (d := 9) rfl rfl (congrArg Value.bool (decide_eq_false hb20)) ?_
    refine lw_no (d := 9) rfl rfl (congrArg Value.bool (decide_eq_false hb20)) ?_
    refine lw_no (d := 9) rfl rfl (congrArg Value.bool (decide_eq_false hb20)) ?_
    refine lw_v (.bool false) (dv_pick_f (T rfl (congrArg Value.bool (decide_eq_false hb20))) C) ?_
    refine lw_v (.bool false) (dv_move (T rfl rfl)) ?_
    refine lw_no (d := 14) rfl rfl (rfl) ?_
    refine lw_no (d := 14) rfl rfl (rfl) ?_
    refine lw_no (d := 14) rfl rfl (rfl) ?_
    refine lw_no (d := 14) rfl rfl (rfl) ?_
    refine lw_v (.bool false) (dv_pick_f (T rfl rfl) C) ?_
    refine lw_v (.bool false) (dv_assign (T rfl rfl)) ?_
    refine lw_nil ?_
    refine rk_ret Try.func18 (v := .bool false) (res1 Try.results18 (rv_tmp rfl rfl)) ⟨_, rfl, ?_⟩
    exact ⟨(vf (by grind)), E19⟩
set_option maxRecDepth 100000 in
set_option maxHeartbeats 4000000 in
theorem iMeetsBox_ok {w : World} {ax ay bx by_ lx ly hx hy : Int} : Ct Try.prog 19 [.agg #[.int .i64 ax, .int .i64 ay, .int .i64 bx, .int .i64 by_], .agg #[.int .i64 lx, .int .i64 ly], .agg #[.int .i64 hx, .int .i64 hy]] w fun v w1 => v = .bool (decide (segOk ax ay bx by_ ∧ boxOk lx ly hx hy ∧ mbox ax ay bx by_ lx ly hx hy)) ∧ Ext w w1 := by
  refine ct_run (n := 20) Try.func19 rfl Try.ntmps19 rfl ?_
  have E0 : Below w.heap.size w w := Below.refl _ _
  refine rk_seq ?_
  refine rk_reg ?_
  refine lw_e (oe_box (v := .agg #[.int .i64 ax, .int .i64 ay, .int .i64 bx, .int .i64 by_]) (cs := #[.int .i64 ax, .int .i64 ay, .int .i64 bx, .int .i64 by_]) (T rfl rfl) rfl ?_)
  intro b1 w2 n3
  have N4 : w.heap.size ≤ b1 := n3.eq ▸ E0.size
  have E5 := below_ext E0 E0.size n3.ext
  refine lw_e (oe_box (v := .agg #[.int .i64 lx, .int .i64 ly]) (cs := #[.int .i64 lx, .int .i64 ly]) (T rfl rfl) rfl ?_)
  intro b6 w7 n8
  have N9 : w.heap.size ≤ b6 := n8.eq ▸ E5.size
  have : b1 < b6 := n8.eq ▸ lt_of_blk n3.blk
  have E10 := below_ext E5 E5.size n8.ext
  refine lw_e (oe_box (v := .agg #[.int .i64 hx, .int .i64 hy]) (cs := #[.int .i64 hx, .int .i64 hy]) (T rfl rfl) rfl ?_)
  intro b11 w12 n13
  have N14 : w.heap.size ≤ b11 := n13.eq ▸ E10.size
  have : b6 < b11 := n13.eq ▸ lt_of_blk n8.blk
  have E15 := below_ext E10 E10.size n13.ext
  refine lw_v (.bool false) (dv_assign C) ?_
  refine lw_nil ?_
  refine rk_seq ?_
  refine rk_reg ?_
  have H16 := (n13.ext.blk (n8.ext.blk n3.blk))
  refine lw_v (.agg #[.int .i64 ax, .int .i64 ay, .int .i64 bx, .int .i64 by_]) (dv_loads (l := [.int .i64 ax, .int .i64 ay, .int .i64 bx, .int .i64 by_]) ag33 sz33 (T rfl rfl) H16 rfl) ?_
  refine lw_e (oe_callf (vs := [.agg #[.int .i64 ax, .int .i64 ay, .int .i64 bx, .int .i64 by_]]) co14 (ar1 (T rfl rfl)) (iSegOk_ok ) ?_)
  rintro _ w17 ⟨rfl, e18⟩
  have E19 := below_ext E15 E15.size e18
  refine lw_v (.bool (decide (segOk ax ay bx by_))) (dv_move (T rfl rfl)) ?_
  by_cases hb20 : segOk ax ay bx by_
  · -- T
    have H21 := (e18.blk (n13.ext.blk n8.blk))
    refine lw_vy (.agg #[.int .i64 lx, .int .i64 ly]) (d := 9) rfl rfl (congrArg Value.bool (decide_eq_true hb20)) (dv_loads (l := [.int .i64 lx, .int .i64 ly]) ag26 sz26 (T rfl rfl) H21 rfl) ?_
    have H22 := (e18.blk n13.blk)
    refine lw_vy (.agg #[.int .i64 hx, .int .i64 hy]) (d := 9) rfl rfl (congrArg Value.bool (decide_eq_true hb20)) (dv_loads (l := [.int .i64 hx, .int .i64 hy]) ag26 sz26 (T rfl rfl) H22 rfl) ?_
    refine lw_ey (d := 9) rfl rfl (congrArg Value.bool (decide_eq_true hb20)) (oe_callf (vs := [.agg #[.int .i64 lx, .int .i64 ly], .agg #[.int .i64 hx, .int .i64 hy]]) co33 (ar2 (T rfl rfl) (T rfl rfl)) (isBox_ok ) ?_)
    rintro _ w23 ⟨rfl, e24⟩
    have E25 := below_ext E19 E19.size e24
    refine lw_v (.bool (decide (boxOk lx ly hx hy))) (dv_pick_t (T rfl (congrArg Value.bool (decide_eq_true hb20))) (T rfl rfl)) ?_
    refine lw_v (.bool (decide (boxOk lx ly hx hy))) (dv_move (T rfl rfl)) ?_
    by_cases hb26 : boxOk lx ly hx hy
    · -- TT
      have H27 := (e24.blk (e18.blk H16))
      refine lw_vy (.agg #[.int .i64 ax, .int .i64 ay, .int .i64 bx, .int .i64 by_]) (d := 14) rfl rfl (congrArg Value.bool (decide_eq_true hb26)) (dv_loads (l := [.int .i64 ax, .int .i64 ay, .int .i64 bx, .int .i64 by_]) ag33 sz33 (T rfl rfl) H27 rfl) ?_
      have H28 := (e24.blk H21)
      refine lw_vy (.agg #[.int .i64 lx, .int .i64 ly]) (d := 14) rfl rfl (congrArg Value.bool (decide_eq_true hb26)) (dv_loads (l := [.int .i64 lx, .int .i64 ly]) ag26 sz26 (T rfl rfl) H28 rfl) ?_
      have H29 := (e24.blk H22)
      refine lw_vy (.agg #[.int .i64 hx, .int .i64 hy]) (d := 14) rfl rfl (congrArg Value.bool (decide_eq_true hb26)) (dv_loads (l := [.int .i64 hx, .int .i64 hy]) ag26 sz26 (T rfl rfl) H29 rfl) ?_
      refine lw_ey (d := 14) rfl rfl (congrArg Value.bool (decide_eq_true hb26)) (oe_callf (vs := [.agg #[.int .i64 ax, .int .i64 ay, .int .i64 bx, .int .i64 by_], .agg #[.int .i64 lx, .int .i64 ly], .agg #[.int .i64 hx, .int .i64 hy]]) co34 (ar3 (T rfl rfl) (T rfl rfl) (T rfl rfl)) (iMeets_ok (mrange (by assumption) (by assumption))) ?_)
      rintro _ w30 ⟨rfl, e31⟩
      have E32 := below_ext E25 E25.size e31
      refine lw_v (.bool (decide (mbox ax ay bx by_ lx ly hx hy))) (dv_pick_t (T rfl (congrArg Value.bool (decide_eq_true hb26))) (T rfl rfl)) ?_
      refine lw_v (.bool (decide (mbox ax ay bx by_ lx ly hx hy))) (dv_assign (T rfl rfl)) ?_
      refine lw_nil ?_
      refine rk_ret Try.func19 (v := .bool (decide (mbox ax ay bx by_ lx ly hx hy))) (res1 Try.results19 (rv_tmp rfl rfl)) ⟨_, rfl, ?_⟩
      exact ⟨(vb (by grind)), E32⟩
    · -- TF
      refine lw_no (d := 14) rfl rfl (congrArg Value.bool (decide_eq_false hb26)) ?_
      refine lw_no (d := 14) rfl rfl (congrArg Value.bool (decide_eq_false hb26)) ?_
      refine lw_no (d := 14) rfl rfl (congrArg Value.bool (decide_eq_false hb26)) ?_
      refine lw_no (d := 14) rfl rfl (congrArg Value.bool (decide_eq_false hb26)) ?_
      refine lw_v (.bool false) (dv_pick_f (T rfl (congrArg Value.bool (decide_eq_false hb26))) C) ?_
      refine lw_v (.bool false) (dv_assign (T rfl rfl)) ?_
      refine lw_nil ?_
      refine rk_ret Try.func19 (v := .bool false) (res1 Try.results19 (rv_tmp rfl rfl)) ⟨_, rfl, ?_⟩
      exact ⟨(vf (by grind)), E25⟩
  · -- F
    refine lw_no (d := 9) rfl rfl (congrArg Value.bool (decide_eq_false hb20)) ?_
    refine lw_no (d := 9) rfl rfl (congrArg Value.bool (decide_eq_false hb20)) ?_
    refine lw_no (d := 9) rfl rfl (congrArg Value.bool (decide_eq_false hb20)) ?_
    refine lw_v (.bool false) (dv_pick_f (T rfl (congrArg Value.bool (decide_eq_false hb20))) C) ?_
    refine lw_v (.bool false) (dv_move (T rfl rfl)) ?_
    refine lw_no (d := 14) rfl rfl (rfl) ?_
    refine lw_no (d := 14) rfl rfl (rfl) ?_
    refine lw_no (d := 14) rfl rfl (rfl) ?_
    refine lw_no (d := 14) rfl rfl (rfl) ?_
    refine lw_v (.bool false) (dv_pick_f (T rfl rfl) C) ?_
    refine lw_v (.bool false) (dv_assign (T rfl rfl)) ?_
    refine lw_nil ?_
    refine rk_ret Try.func19 (v := .bool false) (res1 Try.results19 (rv_tmp rfl rfl)) ⟨_, rfl, ?_⟩
    exact ⟨(vf (by grind)), E19⟩
set_option maxRecDepth 100000 in
set_option maxHeartbeats 4000000 in
theorem lawMeetsBox_ok {w : World} {ax ay bx by_ lx ly hx hy : Int} : Ct Try.prog 7 [.agg #[.int .i64 ax, .int .i64 ay, .int .i64 bx, .int .i64 by_], .agg #[.int .i64 lx, .int .i64 ly], .agg #[.int .i64 hx, .int .i64 hy]] w fun v w1 => v = .bool true ∧ Ext w w1 := by
  refine ct_run (n := 26) Try.func7 rfl Try.ntmps7 rfl ?_
  have E0 : Below w.heap.size w w := Below.refl _ _
  refine rk_seq ?_
  refine rk_reg ?_
  refine lw_e (oe_box (v := .agg #[.int .i64 ax, .int .i64 ay, .int .i64 bx, .int .i64 by_]) (cs := #[.int .i64 ax, .int .i64 ay, .int .i64 bx, .int .i64 by_]) (T rfl rfl) rfl ?_)
  intro b1 w2 n3
  have N4 : w.heap.size ≤ b1 := n3.eq ▸ E0.size
  have E5 := below_ext E0 E0.size n3.ext
  refine lw_e (oe_box (v := .agg #[.int .i64 lx, .int .i64 ly]) (cs := #[.int .i64 lx, .int .i64 ly]) (T rfl rfl) rfl ?_)
  intro b6 w7 n8
  have N9 : w.heap.size ≤ b6 := n8.eq ▸ E5.size
  have : b1 < b6 := n8.eq ▸ lt_of_blk n3.blk
  have E10 := below_ext E5 E5.size n8.ext
  refine lw_e (oe_box (v := .agg #[.int .i64 hx, .int .i64 hy]) (cs := #[.int .i64 hx, .int .i64 hy]) (T rfl rfl) rfl ?_)
  intro b11 w12 n13
  have N14 : w.heap.size ≤ b11 := n13.eq ▸ E10.size
  have : b6 < b11 := n13.eq ▸ lt_of_blk n8.blk
  have E15 := below_ext E10 E10.size n13.ext
  refine lw_v (.bool false) (dv_assign C) ?_
  refine lw_nil ?_
  refine rk_seq ?_
  refine rk_any (fun w => w.heap[b1]? = some (.cells #[.int .i64 ax, .int .i64 ay, .int .i64 bx, .int .i64 by_] 30) ∧ w.heap[b6]? = some (.cells #[.int .i64 lx, .int .i64 ly] 24) ∧ w.heap[b11]? = some (.cells #[.int .i64 hx, .int .i64 hy] 24)) [7] mo ?_
  intro w16 d17
  have E18 := below_ext E15 E15.size d17.ext
  have H19 := (d17.ext.blk (n13.ext.blk (n8.ext.blk n3.blk)))
  have H20 := (d17.ext.blk (n13.ext.blk n8.blk))
  have H21 := (d17.ext.blk n13.blk)
  refine aw_load 0 (.agg #[.int .i64 ax, .int .i64 ay, .int .i64 bx, .int .i64 by_]) rfl (by kernel_rfl) .none ⟨H19, H20, H21⟩ (fun _ s => dv_loads (l := [.int .i64 ax, .int .i64 ay, .int .i64 bx, .int .i64 by_]) ag30 sz30 (T rfl rfl) s.1 rfl) ?_
  refine aw_load 2 (.agg #[.int .i64 lx, .int .i64 ly]) rfl (by kernel_rfl) .none ⟨H19, H20, H21⟩ (fun _ s => dv_loads (l := [.int .i64 lx, .int .i64 ly]) ag24 sz24 (T rfl rfl) s.2.1 rfl) ?_
  refine aw_load 4 (.agg #[.int .i64 hx, .int .i64 hy]) rfl (by kernel_rfl) .none ⟨H19, H20, H21⟩ (fun _ s => dv_loads (l := [.int .i64 hx, .int .i64 hy]) ag24 sz24 (T rfl rfl) s.2.2 rfl) ?_
  refine aw_one 1 rfl (by kernel_rfl) .none (oe_callf (vs := [.agg #[.int .i64 ax, .int .i64 ay, .int .i64 bx, .int .i64 by_]]) co13 (ar1 (T rfl rfl)) (toSeg_ok ) ?_)
  rintro _ w22 ⟨rfl, e23⟩
  have E24 := below_ext E18 E18.size e23
  have H25 := (e23.blk H19)
  have H26 := (e23.blk H20)
  have H27 := (e23.blk H21)
  refine ⟨.inr ⟨H25, H26, H27⟩, ?_⟩
  refine aw_one 3 rfl (by kernel_rfl) .none (oe_callf (vs := [.agg #[.int .i64 lx, .int .i64 ly]]) co10 (ar1 (T rfl rfl)) (toSpot_ok ) ?_)
  rintro _ w28 ⟨rfl, e29⟩
  have E30 := below_ext E24 E24.size e29
  have H31 := (e29.blk H25)
  have H32 := (e29.blk H26)
  have H33 := (e29.blk H27)
  refine ⟨.inr ⟨H31, H32, H33⟩, ?_⟩
  refine aw_one 5 rfl (by kernel_rfl) .none (oe_callf (vs := [.agg #[.int .i64 hx, .int .i64 hy]]) co10 (ar1 (T rfl rfl)) (toSpot_ok ) ?_)
  rintro _ w34 ⟨rfl, e35⟩
  have E36 := below_ext E30 E30.size e35
  have H37 := (e35.blk H31)
  have H38 := (e35.blk H32)
  have H39 := (e35.blk H33)
  refine ⟨.inr ⟨H37, H38, H39⟩, ?_⟩
  refine aw_one 6 rfl (by kernel_rfl) .none (oe_callf (vs := [.agg #[.int .i64 ax, .int .i64 ay, .int .i64 bx, .int .i64 by_], .agg #[.int .i64 lx, .int .i64 ly], .agg #[.int .i64 hx, .int .i64 hy]]) co18 (ar3 (T rfl rfl) (T rfl rfl) (T rfl rfl)) (sMeetsBox_ok ) ?_)
  rintro _ w40 ⟨rfl, e41⟩
  have E42 := below_ext E36 E36.size e41
  have H43 := (e41.blk H37)
  have H44 := (e41.blk H38)
  have H45 := (e41.blk H39)
  refine ⟨.inr ⟨H43, H44, H45⟩, ?_⟩
  refine aw_last 7 (.bool (decide (segOk ax ay bx by_ ∧ boxOk lx ly hx hy ∧ mbox ax ay bx by_ lx ly hx hy))) rfl (by kernel_rfl) .none (fun _ => dv_assign (T rfl rfl)) ?_
  refine aw_done (by kernel_rfl) ?_
  refine rk_seq ?_
  refine rk_any (fun w => w.heap[b1]? = some (.cells #[.int .i64 ax, .int .i64 ay, .int .i64 bx, .int .i64 by_] 30) ∧ w.heap[b6]? = some (.cells #[.int .i64 lx, .int .i64 ly] 24) ∧ w.heap[b11]? = some (.cells #[.int .i64 hx, .int .i64 hy] 24)) [7] mo ?_
  intro w46 d47
  have E48 := below_ext E42 E42.size d47.ext
  have H49 := (d47.ext.blk H43)
  have H50 := (d47.ext.blk H44)
  have H51 := (d47.ext.blk H45)
  refine aw_load 0 (.agg #[.int .i64 ax, .int .i64 ay, .int .i64 bx, .int .i64 by_]) rfl (by kernel_rfl) .none ⟨H49, H50, H51⟩ (fun _ s => dv_loads (l := [.int .i64 ax, .int .i64 ay, .int .i64 bx, .int .i64 by_]) ag30 sz30 (T rfl rfl) s.1 rfl) ?_
  refine aw_load 2 (.agg #[.int .i64 lx, .int .i64 ly]) rfl (by kernel_rfl) .none ⟨H49, H50, H51⟩ (fun _ s => dv_loads (l := [.int .i64 lx, .int .i64 ly]) ag24 sz24 (T rfl rfl) s.2.1 rfl) ?_
  refine aw_load 4 (.agg #[.int .i64 hx, .int .i64 hy]) rfl (by kernel_rfl) .none ⟨H49, H50, H51⟩ (fun _ s => dv_loads (l := [.int .i64 hx, .int .i64 hy]) ag24 sz24 (T rfl rfl) s.2.2 rfl) ?_
  refine aw_one 1 rfl (by kernel_rfl) .none (oe_callf (vs := [.agg #[.int .i64 ax, .int .i64 ay, .int .i64 bx, .int .i64 by_]]) co13 (ar1 (T rfl rfl)) (toSeg_ok ) ?_)
  rintro _ w52 ⟨rfl, e53⟩
  have E54 := below_ext E48 E48.size e53
  have H55 := (e53.blk H49)
  have H56 := (e53.blk H50)
  have H57 := (e53.blk H51)
  refine ⟨.inr ⟨H55, H56, H57⟩, ?_⟩
  refine aw_one 3 rfl (by kernel_rfl) .none (oe_callf (vs := [.agg #[.int .i64 lx, .int .i64 ly]]) co10 (ar1 (T rfl rfl)) (toSpot_ok ) ?_)
  rintro _ w58 ⟨rfl, e59⟩
  have E60 := below_ext E54 E54.size e59
  have H61 := (e59.blk H55)
  have H62 := (e59.blk H56)
  have H63 := (e59.blk H57)
  refine ⟨.inr ⟨H61, H62, H63⟩, ?_⟩
  refine aw_one 5 rfl (by kernel_rfl) .none (oe_callf (vs := [.agg #[.int .i64 hx, .int .i64 hy]]) co10 (ar1 (T rfl rfl)) (toSpot_ok ) ?_)
  rintro _ w64 ⟨rfl, e65⟩
  have E66 := below_ext E60 E60.size e65
  have H67 := (e65.blk H61)
  have H68 := (e65.blk H62)
  have H69 := (e65.blk H63)
  refine ⟨.inr ⟨H67, H68, H69⟩, ?_⟩
  refine aw_one 6 rfl (by kernel_rfl) .none (oe_callf (vs := [.agg #[.int .i64 ax, .int .i64 ay, .int .i64 bx, .int .i64 by_], .agg #[.int .i64 lx, .int .i64 ly], .agg #[.int .i64 hx, .int .i64 hy]]) co19 (ar3 (T rfl rfl) (T rfl rfl) (T rfl rfl)) (iMeetsBox_ok ) ?_)
  rintro _ w70 ⟨rfl, e71⟩
  have E72 := below_ext E66 E66.size e71
  have H73 := (e71.blk H67)
  have H74 := (e71.blk H68)
  have H75 := (e71.blk H69)
  refine ⟨.inr ⟨H73, H74, H75⟩, ?_⟩
  refine aw_last 7 (.bool (decide (segOk ax ay bx by_ ∧ boxOk lx ly hx hy ∧ mbox ax ay bx by_ lx ly hx hy))) rfl (by kernel_rfl) .none (fun _ => dv_assign (T rfl rfl)) ?_
  refine aw_done (by kernel_rfl) ?_
  refine rk_seq ?_
  refine rk_seq ?_
  refine rk_reg ?_
  refine lw_v (.bool (decide (segOk ax ay bx by_ ∧ boxOk lx ly hx hy ∧ mbox ax ay bx by_ lx ly hx hy))) (dv_move (T rfl rfl)) ?_
  refine lw_v (.bool (decide (segOk ax ay bx by_ ∧ boxOk lx ly hx hy ∧ mbox ax ay bx by_ lx ly hx hy))) (dv_move (T rfl rfl)) ?_
  refine lw_v (.bool ((decide (segOk ax ay bx by_ ∧ boxOk lx ly hx hy ∧ mbox ax ay bx by_ lx ly hx hy)) != (decide (segOk ax ay bx by_ ∧ boxOk lx ly hx hy ∧ mbox ax ay bx by_ lx ly hx hy)))) (dv_neqb (a := decide (segOk ax ay bx by_ ∧ boxOk lx ly hx hy ∧ mbox ax ay bx by_ lx ly hx hy)) (b := decide (segOk ax ay bx by_ ∧ boxOk lx ly hx hy ∧ mbox ax ay bx by_ lx ly hx hy)) ub4 (T rfl rfl) (T rfl rfl)) ?_
  refine lw_nil ?_
  rcases Bool.eq_false_or_eq_true ((decide (segOk ax ay bx by_ ∧ boxOk lx ly hx hy ∧ mbox ax ay bx by_ lx ly hx hy)) != (decide (segOk ax ay bx by_ ∧ boxOk lx ly hx hy ∧ mbox ax ay bx by_ lx ly hx hy))) with hb76 | hb76
  · -- T
    refine rk_ct (T rfl (congrArg Value.bool hb76)) ?_
    refine rk_seq ?_
    refine rk_reg ?_
    refine lw_v (.bool false) (dv_assign C) ?_
    refine lw_nil ?_
    refine rk_ret Try.func7 (v := .bool false) (res1 Try.results7 (rv_tmp rfl rfl)) ⟨_, rfl, ?_⟩
    exact ⟨(congrArg Value.bool (by grind)), E72⟩
  · -- F
    refine rk_cf (T rfl (congrArg Value.bool hb76)) ?_
    refine rk_skip ?_
    refine rk_seq ?_
    refine rk_reg ?_
    refine lw_v (.bool true) (dv_assign C) ?_
    refine lw_nil ?_
    refine rk_ret Try.func7 (v := .bool true) (res1 Try.results7 (rv_tmp rfl rfl)) ⟨_, rfl, ?_⟩
    exact ⟨rfl, E72⟩
end Go.Proofs.Ytohpoenckafgiaa.W
