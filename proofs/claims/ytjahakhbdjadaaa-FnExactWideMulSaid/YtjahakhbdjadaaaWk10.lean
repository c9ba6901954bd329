/- Wk10: walks, written by a program of this session. -/
import Derived.Test.YtjahakhbdjadaaaWk9
import Derived.Test.YtjahakhbdjadaaaFw12
set_option linter.unusedVariables false
set_option linter.unusedSimpArgs false
namespace Go.Proofs.Ytjahakhbdjadaaa.W
open Go Go.RowKit Go.Proofs.Ytjahakhbdjadaaa.Fw
attribute [local irreducible] RunK LW AW DV OE Ct
def sm3 (x y z : Int) : Prop := nbits ((x.natAbs : Nat) : Int).toNat ≤ 80 ∧ nbits ((y.natAbs : Nat) : Int).toNat ≤ 80 ∧ nbits ((z.natAbs : Nat) : Int).toNat ≤ 80
instance (x y z : Int) : Decidable (sm3 x y z) := by unfold sm3; infer_instance
def pk (S : Prop) [Decidable S] (a : Int) : Int := if S then a else 0
theorem pk_t {S : Prop} [Decidable S] {a : Int} (h : S) : pk S a = a := if_pos h
theorem pk_f {S : Prop} [Decidable S] {a : Int} (h : ¬ S) : pk S a = 0 := if_neg h
theorem nb64 {x : Int} (h : -9223372036854775808 ≤ x ∧ x ≤ 9223372036854775807) : nbits ((x.natAbs : Nat) : Int).toNat ≤ 80 := by
  rw [Int.toNat_natCast, nbits_le_iff]
  have e : (2 : Nat) ^ 80 = 1208925819614629174706176 := by decide
  omega
theorem sm_64 {x y : Int} (h : -9223372036854775808 ≤ x ∧ x ≤ 9223372036854775807) (h2 : -9223372036854775808 ≤ y ∧ y ≤ 9223372036854775807) : sm3 x y 1 := ⟨nb64 h, nb64 h2, nb64 (by omega)⟩
theorem agt2 : aggB Try.prog 2 = some false := by kernel_rfl
theorem agt39 : aggB Try.prog 39 = some true := by kernel_rfl
theorem agt41 : aggB Try.prog 41 = some true := by kernel_rfl
theorem agt73 : aggB Try.prog 73 = some true := by kernel_rfl
theorem co22 : callOk Try.prog 22 = true := by kernel_rfl
theorem co23 : callOk Try.prog 23 = true := by kernel_rfl
theorem co24 : callOk Try.prog 24 = true := by kernel_rfl
theorem co25 : callOk Try.prog 25 = true := by kernel_rfl
theorem co26 : callOk Try.prog 26 = true := by kernel_rfl
theorem co31 : callOk Try.prog 31 = true := by kernel_rfl
theorem co32 : callOk Try.prog 32 = true := by kernel_rfl
theorem co33 : callOk Try.prog 33 = true := by kernel_rfl
theorem co34 : callOk Try.prog 34 = true := by kernel_rfl
theorem co57 : callOk Try.prog 57 = true := by kernel_rfl
theorem co58 : callOk Try.prog 58 = true := by kernel_rfl
theorem co79 : callOk Try.prog 79 = true := by kernel_rfl
theorem fo37_0 : fieldOffB Try.prog 37 0 = some 0 := by kernel_rfl
theorem fo37_1 : fieldOffB Try.prog 37 1 = some 1 := by kernel_rfl
theorem fo39_0 : fieldOffB Try.prog 39 0 = some 0 := by kernel_rfl
theorem fo39_1 : fieldOffB Try.prog 39 1 = some 4 := by kernel_rfl
theorem fo39_2 : fieldOffB Try.prog 39 2 = some 8 := by kernel_rfl
theorem fo41_0 : fieldOffB Try.prog 41 0 = some 0 := by kernel_rfl
theorem fo41_1 : fieldOffB Try.prog 41 1 = some 1 := by kernel_rfl
theorem fo73_0 : fieldOffB Try.prog 73 0 = some 0 := by kernel_rfl
theorem fo73_1 : fieldOffB Try.prog 73 1 = some 2 := by kernel_rfl
theorem fo73_2 : fieldOffB Try.prog 73 2 = some 4 := by kernel_rfl
theorem pl39 : placesB Try.prog 39 = some [(0, 4), (4, 4), (8, 4)] := by kernel_rfl
theorem pl73 : placesB Try.prog 73 = some [(0, 2), (2, 2), (4, 2)] := by kernel_rfl
theorem sz2 : sizeB Try.prog 2 = some 1 := by kernel_rfl
theorem sz39 : sizeB Try.prog 39 = some 12 := by kernel_rfl
theorem sz41 : sizeB Try.prog 41 = some 2 := by kernel_rfl
theorem sz73 : sizeB Try.prog 73 = some 6 := by kernel_rfl
theorem zc39 : zcB Try.prog 39 = some [.int .u64 0, .int .u64 0, .int .u64 0, .int .u64 0, .int .u64 0, .int .u64 0, .int .u64 0, .int .u64 0, .int .u64 0, .int .u64 0, .int .u64 0, .int .u64 0] := by kernel_rfl
theorem zc73 : zcB Try.prog 73 = some [.bool false, .slice none 0 0, .bool false, .slice none 0 0, .bool false, .slice none 0 0] := by kernel_rfl
theorem ze39 : zeroB Try.prog 39 = some #[.int .u64 0, .int .u64 0, .int .u64 0, .int .u64 0, .int .u64 0, .int .u64 0, .int .u64 0, .int .u64 0, .int .u64 0, .int .u64 0, .int .u64 0, .int .u64 0] := by kernel_rfl
theorem ze41 : zeroB Try.prog 41 = some #[.int .i64 0, .int .i64 0] := by kernel_rfl
theorem ze73 : zeroB Try.prog 73 = some #[.bool false, .slice none 0 0, .bool false, .slice none 0 0, .bool false, .slice none 0 0] := by kernel_rfl
set_option maxHeartbeats 1000000 in
theorem l3Spot_ok {w : World} {x y : Int} (hx : -9223372036854775808 ≤ x ∧ x ≤ 9223372036854775807) (hy : -9223372036854775808 ≤ y ∧ y ≤ 9223372036854775807) : Ct Try.prog 58 [.agg #[.int .i64 x, .int .i64 y]] w fun v w1 => ∃ n1 A1 l1 c1 n2 A2 l2 c2 n3 A3 l3 c3, v = .agg #[.bool n1, .slice A1 l1 c1, .bool n2, .slice A2 l2 c2, .bool n3, .slice A3 l3 c3] ∧ Ext w w1 ∧ Num 32 84 .u32 w1 n1 A1 l1 c1 x 64 ∧ Num 32 84 .u32 w1 n2 A2 l2 c2 y 64 ∧ Num 32 84 .u32 w1 n3 A3 l3 c3 1 64 := by
  refine ct_run (n := 11) Try.func58 rfl Try.ntmps58 rfl ?_
  have E0 : Below w.heap.size w w := Below.refl _ _
  refine rk_seq ?_
  refine rk_reg ?_
  refine lw_e (oe_box (v := .agg #[.int .i64 x, .int .i64 y]) (cs := #[.int .i64 x, .int .i64 y]) (T rfl rfl) rfl ?_)
  intro b1 w2 n3
  have N4 : w.heap.size ≤ b1 := n3.eq ▸ E0.size
  have E5 := below_ext E0 E0.size n3.ext
  refine lw_e (oe_alloc ze73 ?_)
  intro b6 w7 n8
  have N9 : w.heap.size ≤ b6 := n8.eq ▸ E5.size
  have : b1 < b6 := n8.eq ▸ lt_of_blk n3.blk
  have E10 := below_ext E5 E5.size n8.ext
  refine lw_nil ?_
  refine rk_seq ?_
  refine rk_any (fun w => w.heap[b1]? = some (.cells #[.int .i64 x, .int .i64 y] 41)) [8] mo ?_
  intro w11 d12
  have E13 := below_ext E10 E10.size d12.ext
  have H14 := (d12.ext.blk (n8.ext.blk n3.blk))
  refine aw_pure 0 (.pointer (some ⟨b1, 0, none⟩)) rfl (by kernel_rfl) .none H14 (fun _ => dv_fieldAddr (a := ⟨b1, 0, none⟩) (a' := ⟨b1, 0, none⟩) fo41_0 (T rfl rfl) rfl) ?_
  refine aw_load 1 (.int .i64 x) rfl (by kernel_rfl) .none H14 (fun _ s => dv_load1 (b := b1) (o := 0) agt2 (T rfl rfl) s rfl) ?_
  refine aw_pure 3 (.pointer (some ⟨b1, 1, none⟩)) rfl (by kernel_rfl) .none H14 (fun _ => dv_fieldAddr (a := ⟨b1, 0, none⟩) (a' := ⟨b1, 1, none⟩) fo41_1 (T rfl rfl) rfl) ?_
  refine aw_load 4 (.int .i64 y) rfl (by kernel_rfl) .none H14 (fun _ s => dv_load1 (b := b1) (o := 1) agt2 (T rfl rfl) s rfl) ?_
  refine aw_one 2 rfl (by kernel_rfl) .none (oe_callf (vs := [.int .i64 x]) co52 (ar1 (T rfl rfl)) (l1Int_ok  (by omega)) ?_)
  rintro _ w20 ⟨nr15, A16, n17, c18, rfl, e21, h19⟩
  have E22 := below_ext E13 E13.size e21
  have lh19 := Num.len (by decide) h19
  have H23 := (e21.blk H14)
  refine ⟨.inr H23, ?_⟩
  refine aw_one 5 rfl (by kernel_rfl) .none (oe_callf (vs := [.int .i64 y]) co52 (ar1 (T rfl rfl)) (l1Int_ok  (by omega)) ?_)
  rintro _ w29 ⟨nr24, A25, n26, c27, rfl, e30, h28⟩
  have E31 := below_ext E22 E22.size e30
  have lh28 := Num.len (by decide) h28
  have H32 := (e30.blk H23)
  refine ⟨.inr H32, ?_⟩
  refine aw_one 6 rfl (by kernel_rfl) .none (oe_callf (vs := [.int .i64 1]) co52 (ar1 C) (l1Int_ok  (by omega)) ?_)
  rintro _ w38 ⟨nr33, A34, n35, c36, rfl, e39, h37⟩
  have E40 := below_ext E31 E31.size e39
  have lh37 := Num.len (by decide) h37
  have H41 := (e39.blk H32)
  refine ⟨.inr H41, ?_⟩
  refine aw_pure 7 (.agg #[.bool nr15, .slice A16 n17 c18, .bool nr24, .slice A25 n26 c27, .bool nr33, .slice A34 n35 c36]) rfl (by kernel_rfl) .none H41 (fun _ => dv_build (pv := [(0, .agg #[.bool nr15, .slice A16 n17 c18]), (1, .agg #[.bool nr24, .slice A25 n26 c27]), (2, .agg #[.bool nr33, .slice A34 n35 c36])]) (l := [.bool nr15, .slice A16 n17 c18, .bool nr24, .slice A25 n26 c27, .bool nr33, .slice A34 n35 c36]) zc73 pl73 ⟨rfl, (T rfl rfl), ⟨rfl, (T rfl rfl), ⟨rfl, (T rfl rfl), trivial⟩⟩⟩ rfl) ?_
  have H42 := (e39.blk (e30.blk (e21.blk (d12.ext.blk n8.blk))))
  refine aw_one 8 rfl (by kernel_rfl) .none (oe_store (v := .agg #[.bool nr15, .slice A16 n17 c18, .bool nr24, .slice A25 n26 c27, .bool nr33, .slice A34 n35 c36]) (vs := [.bool nr15, .slice A16 n17 c18, .bool nr24, .slice A25 n26 c27, .bool nr33, .slice A34 n35 c36]) (l := [.bool nr15, .slice A16 n17 c18, .bool nr24, .slice A25 n26 c27, .bool nr33, .slice A34 n35 c36]) (T rfl rfl) (T rfl rfl) sz73 rfl rfl rfl H42 rfl ?_)
  intro w43 s44 H45
  have E46 := below_st E40 N9 s44
  refine ⟨.inl rfl, ?_⟩
  refine aw_done (by kernel_rfl) ?_
  refine rk_ret Try.func58 (v := .agg #[.bool nr15, .slice A16 n17 c18, .bool nr24, .slice A25 n26 c27, .bool nr33, .slice A34 n35 c36]) (res1 Try.results58 (rv_cells (l := [.bool nr15, .slice A16 n17 c18, .bool nr24, .slice A25 n26 c27, .bool nr33, .slice A34 n35 c36]) agt73 sz73 rfl rfl H45 rfl)) ⟨_, rfl, ?_⟩
  have h47 := (((h19.ext e30).ext e39).st s44 H42 (by decide))
  have h48 := ((h28.ext e39).st s44 H42 (by decide))
  have h49 := (h37.st s44 H42 (by decide))
  exact ⟨_, _, _, _, _, _, _, _, _, _, _, _, rfl, E46, h47, h48, h49⟩

set_option maxHeartbeats 1000000 in
theorem l3Small_ok {w : World} {na : Bool} {Aa : Option Addr} {la ca : Nat} {x : Int} {sx : Nat} (ha : Num 32 84 .u32 w na Aa la ca x sx) {nb : Bool} {Ab : Option Addr} {lb cb : Nat} {y : Int} {sy : Nat} (hb : Num 32 84 .u32 w nb Ab lb cb y sy) {nm : Bool} {Am : Option Addr} {lm cm : Nat} {z : Int} {sz : Nat} (hm : Num 32 84 .u32 w nm Am lm cm z sz) (hs1 : sx ≤ 400000) (hs2 : sy ≤ 400000) (hs3 : sz ≤ 400000) : Ct Try.prog 79 [.agg #[.bool na, .slice Aa la ca, .bool nb, .slice Ab lb cb, .bool nm, .slice Am lm cm]] w fun v w1 => v = .bool (decide (sm3 x y z)) ∧ Ext w w1 := by
  refine ct_run (n := 22) Try.func79 rfl Try.ntmps79 rfl ?_
  have E0 : Below w.heap.size w w := Below.refl _ _
  have lha := Num.len (by decide) ha
  have lhb := Num.len (by decide) hb
  have lhm := Num.len (by decide) hm
  refine rk_seq ?_
  refine rk_reg ?_
  refine lw_e (oe_box (v := .agg #[.bool na, .slice Aa la ca, .bool nb, .slice Ab lb cb, .bool nm, .slice Am lm cm]) (cs := #[.bool na, .slice Aa la ca, .bool nb, .slice Ab lb cb, .bool nm, .slice Am lm cm]) (T rfl rfl) rfl ?_)
  intro b1 w2 n3
  have N4 : w.heap.size ≤ b1 := n3.eq ▸ E0.size
  have E5 := below_ext E0 E0.size n3.ext
  refine lw_v (.bool false) (dv_assign C) ?_
  refine lw_nil ?_
  refine rk_seq ?_
  refine rk_reg ?_
  refine lw_v (.pointer (some ⟨b1, 0, none⟩)) (dv_fieldAddr (a := ⟨b1, 0, none⟩) (a' := ⟨b1, 0, none⟩) fo73_0 (T rfl rfl) rfl) ?_
  refine lw_v (.pointer (some ⟨b1, 1, none⟩)) (dv_fieldAddr (a := ⟨b1, 0, none⟩) (a' := ⟨b1, 1, none⟩) fo55_1 (T rfl rfl) rfl) ?_
  refine lw_v (.slice Aa la ca) (dv_load1 (b := b1) (o := 1) agt53 (T rfl rfl) n3.blk rfl) ?_
  have h6 := (ha.ext n3.ext)
  refine lw_e (oe_callf (vs := [.slice Aa la ca]) co47 (ar1 (T rfl rfl)) (l1Bits_wc h6.wc (by omega)) ?_)
  rintro _ w7 ⟨rfl, e8⟩
  have E9 := below_ext E5 E5.size e8
  refine lw_v (.bool (decide (((nbits ((x.natAbs : Int)).toNat : Int)) ≤ 80))) (dv_leq (a := (nbits ((x.natAbs : Int)).toNat : Int)) (b := 80) (T rfl rfl) C) ?_
  refine lw_v (.bool (decide (((nbits ((x.natAbs : Int)).toNat : Int)) ≤ 80))) (dv_move (T rfl rfl)) ?_
  by_cases hb10 : ((nbits ((x.natAbs : Int)).toNat : Int)) ≤ 80
  · -- T
    refine lw_vy (.pointer (some ⟨b1, 2, none⟩)) (d := 8) rfl rfl (congrArg Value.bool (decide_eq_true hb10)) (dv_fieldAddr (a := ⟨b1, 0, none⟩) (a' := ⟨b1, 2, none⟩) fo73_1 (T rfl rfl) rfl) ?_
    refine lw_vy (.pointer (some ⟨b1, 3, none⟩)) (d := 8) rfl rfl (congrArg Value.bool (decide_eq_true hb10)) (dv_fieldAddr (a := ⟨b1, 2, none⟩) (a' := ⟨b1, 3, none⟩) fo55_1 (T rfl rfl) rfl) ?_
    have H11 := (e8.blk n3.blk)
    refine lw_vy (.slice Ab lb cb) (d := 8) rfl rfl (congrArg Value.bool (decide_eq_true hb10)) (dv_load1 (b := b1) (o := 3) agt53 (T rfl rfl) H11 rfl) ?_
    have h12 := ((hb.ext n3.ext).ext e8)
    refine lw_ey (d := 8) rfl rfl (congrArg Value.bool (decide_eq_true hb10)) (oe_callf (vs := [.slice Ab lb cb]) co47 (ar1 (T rfl rfl)) (l1Bits_wc h12.wc (by omega)) ?_)
    rintro _ w13 ⟨rfl, e14⟩
    have E15 := below_ext E9 E9.size e14
    refine lw_vy (.bool (decide (((nbits ((y.natAbs : Int)).toNat : Int)) ≤ 80))) (d := 8) rfl rfl (congrArg Value.bool (decide_eq_true hb10)) (dv_leq (a := (nbits ((y.natAbs : Int)).toNat : Int)) (b := 80) (T rfl rfl) C) ?_
    refine lw_v (.bool (decide (((nbits ((y.natAbs : Int)).toNat : Int)) ≤ 80))) (dv_pick_t (T rfl (congrArg Value.bool (decide_eq_true hb10))) (T rfl rfl)) ?_
    refine lw_v (.bool (decide (((nbits ((y.natAbs : Int)).toNat : Int)) ≤ 80))) (dv_move (T rfl rfl)) ?_
    by_cases hb16 : ((nbits ((y.natAbs : Int)).toNat : Int)) ≤ 80
    · -- TT
      refine lw_vy (.pointer (some ⟨b1, 4, none⟩)) (d := 15) rfl rfl (congrArg Value.bool (decide_eq_true hb16)) (dv_fieldAddr (a := ⟨b1, 0, none⟩) (a' := ⟨b1, 4, none⟩) fo73_2 (T rfl rfl) rfl) ?_
      refine lw_vy (.pointer (some ⟨b1, 5, none⟩)) (d := 15) rfl rfl (congrArg Value.bool (decide_eq_true hb16)) (dv_fieldAddr (a := ⟨b1, 4, none⟩) (a' := ⟨b1, 5, none⟩) fo55_1 (T rfl rfl) rfl) ?_
      have H17 := (e14.blk H11)
      refine lw_vy (.slice Am lm cm) (d := 15) rfl rfl (congrArg Value.bool (decide_eq_true hb16)) (dv_load1 (b := b1) (o := 5) agt53 (T rfl rfl) H17 rfl) ?_
      have h18 := (((hm.ext n3.ext).ext e8).ext e14)
      refine lw_ey (d := 15) rfl rfl (congrArg Value.bool (decide_eq_true hb16)) (oe_callf (vs := [.slice Am lm cm]) co47 (ar1 (T rfl rfl)) (l1Bits_wc h18.wc (by omega)) ?_)
      rintro _ w19 ⟨rfl, e20⟩
      have E21 := below_ext E15 E15.size e20
      refine lw_vy (.bool (decide (((nbits ((z.natAbs : Int)).toNat : Int)) ≤ 80))) (d := 15) rfl rfl (congrArg Value.bool (decide_eq_true hb16)) (dv_leq (a := (nbits ((z.natAbs : Int)).toNat : Int)) (b := 80) (T rfl rfl) C) ?_
      refine lw_v (.bool (decide (((nbits ((z.natAbs : Int)).toNat : Int)) ≤ 80))) (dv_pick_t (T rfl (congrArg Value.bool (decide_eq_true hb16))) (T rfl rfl)) ?_
      refine lw_v (.bool (decide (((nbits ((z.natAbs : Int)).toNat : Int)) ≤ 80))) (dv_assign (T rfl rfl)) ?_
      refine lw_nil ?_
      refine rk_ret Try.func79 (v := .bool (decide (((nbits ((z.natAbs : Int)).toNat : Int)) ≤ 80))) (res1 Try.results79 (rv_tmp rfl rfl)) ⟨_, rfl, ?_⟩
      exact ⟨(vb (by unfold sm3; omega)), E21⟩
    · -- TF
      refine lw_no (d := 15) rfl rfl (congrArg Value.bool (decide_eq_false hb16)) ?_
      refine lw_no (d := 15) rfl rfl (congrArg Value.bool (decide_eq_false hb16)) ?_
      refine lw_no (d := 15) rfl rfl (congrArg Value.bool (decide_eq_false hb16)) ?_
      refine lw_no (d := 15) rfl rfl (congrArg Value.bool (decide_eq_false hb16)) ?_
      refine lw_no (d := 15) rfl rfl (congrArg Value.bool (decide_eq_false hb16)) ?_
      refine lw_v (.bool false) (dv_pick_f (T rfl (congrArg Value.bool (decide_eq_false hb16))) C) ?_
      refine lw_v (.bool false) (dv_assign (T rfl rfl)) ?_
      refine lw_nil ?_
      refine rk_ret Try.func79 (v := .bool false) (res1 Try.results79 (rv_tmp rfl rfl)) ⟨_, rfl, ?_⟩
      exact ⟨(vf (by unfold sm3; omega)), E15⟩
  · -- F
    refine lw_no (d := 8) rfl rfl (congrArg Value.bool (decide_eq_false hb10)) ?_
    refine lw_no (d := 8) rfl rfl (congrArg Value.bool (decide_eq_false hb10)) ?_
    refine lw_no (d := 8) rfl rfl (congrArg Value.bool (decide_eq_false hb10)) ?_
    refine lw_no (d := 8) rfl rfl (congrArg Value.bool (decide_eq_false hb10)) ?_
    refine lw_no (d := 8) rfl rfl (congrArg Value.bool (decide_eq_false hb10)) ?_
    refine lw_v (.bool false) (dv_pick_f (T rfl (congrArg Value.bool (decide_eq_false hb10))) C) ?_
    refine lw_v (.bool false) (dv_move (T rfl rfl)) ?_
    refine lw_no (d := 15) rfl rfl (rfl) ?_
    refine lw_no (d := 15) rfl rfl (rfl) ?_
    refine lw_no (d := 15) rfl rfl (rfl) ?_
    refine lw_no (d := 15) rfl rfl (rfl) ?_
    refine lw_no (d := 15) rfl rfl (rfl) ?_
    refine lw_v (.bool false) (dv_pick_f (T rfl rfl) C) ?_
    refine lw_v (.bool false) (dv_assign (T rfl rfl)) ?_
    refine lw_nil ?_
    refine rk_ret Try.func79 (v := .bool false) (res1 Try.results79 (rv_tmp rfl rfl)) ⟨_, rfl, ?_⟩
    exact ⟨(vf (by unfold sm3; omega)), E9⟩

set_option maxHeartbeats 1000000 in
theorem l3Point_ok {w : World} {na : Bool} {Aa : Option Addr} {la ca : Nat} {x : Int} {sx : Nat} (ha : Num 32 84 .u32 w na Aa la ca x sx) {nb : Bool} {Ab : Option Addr} {lb cb : Nat} {y : Int} {sy : Nat} (hb : Num 32 84 .u32 w nb Ab lb cb y sy) {nm : Bool} {Am : Option Addr} {lm cm : Nat} {z : Int} {sz : Nat} (hm : Num 32 84 .u32 w nm Am lm cm z sz) (hs1 : sx ≤ 400000) (hs2 : sy ≤ 400000) (hs3 : sz ≤ 400000) : Ct Try.prog 57 [.agg #[.bool na, .slice Aa la ca, .bool nb, .slice Ab lb cb, .bool nm, .slice Am lm cm]] w fun v w1 => v = .tuple #[.agg #[.int .u64 (pk (sm3 x y z) (wv3 x)), .int .u64 (pk (sm3 x y z) (wv2 x)), .int .u64 (pk (sm3 x y z) (wv1 x)), .int .u64 (pk (sm3 x y z) (wv0 x)), .int .u64 (pk (sm3 x y z) (wv3 y)), .int .u64 (pk (sm3 x y z) (wv2 y)), .int .u64 (pk (sm3 x y z) (wv1 y)), .int .u64 (pk (sm3 x y z) (wv0 y)), .int .u64 (pk (sm3 x y z) (wv3 z)), .int .u64 (pk (sm3 x y z) (wv2 z)), .int .u64 (pk (sm3 x y z) (wv1 z)), .int .u64 (pk (sm3 x y z) (wv0 z))], .bool (decide (sm3 x y z))] ∧ Ext w w1 := by
  refine ct_run (n := 36) Try.func57 rfl Try.ntmps57 rfl ?_
  have E0 : Below w.heap.size w w := Below.refl _ _
  refine rk_seq ?_
  refine rk_reg ?_
  refine lw_e (oe_box (v := .agg #[.bool na, .slice Aa la ca, .bool nb, .slice Ab lb cb, .bool nm, .slice Am lm cm]) (cs := #[.bool na, .slice Aa la ca, .bool nb, .slice Ab lb cb, .bool nm, .slice Am lm cm]) (T rfl rfl) rfl ?_)
  intro b1 w2 n3
  have N4 : w.heap.size ≤ b1 := n3.eq ▸ E0.size
  have E5 := below_ext E0 E0.size n3.ext
  refine lw_e (oe_alloc ze39 ?_)
  intro b6 w7 n8
  have N9 : w.heap.size ≤ b6 := n8.eq ▸ E5.size
  have : b1 < b6 := n8.eq ▸ lt_of_blk n3.blk
  have E10 := below_ext E5 E5.size n8.ext
  refine lw_v (.bool false) (dv_assign C) ?_
  refine lw_nil ?_
  refine rk_seq ?_
  refine rk_seq ?_
  refine rk_reg ?_
  have H11 := (n8.ext.blk n3.blk)
  refine lw_v (.agg #[.bool na, .slice Aa la ca, .bool nb, .slice Ab lb cb, .bool nm, .slice Am lm cm]) (dv_loads (l := [.bool na, .slice Aa la ca, .bool nb, .slice Ab lb cb, .bool nm, .slice Am lm cm]) agt73 sz73 (T rfl rfl) H11 rfl) ?_
  have h12 := ((ha.ext n3.ext).ext n8.ext)
  have h13 := ((hb.ext n3.ext).ext n8.ext)
  have h14 := ((hm.ext n3.ext).ext n8.ext)
  refine lw_e (oe_callf (vs := [.agg #[.bool na, .slice Aa la ca, .bool nb, .slice Ab lb cb, .bool nm, .slice Am lm cm]]) co79 (ar1 (T rfl rfl)) (l3Small_ok h12 h13 h14 (by omega) (by omega) (by omega)) ?_)
  rintro _ w15 ⟨rfl, e16⟩
  have E17 := below_ext E10 E10.size e16
  refine lw_v (.bool (decide (¬ (sm3 x y z)))) (dv_notd (p := sm3 x y z) (T rfl rfl)) ?_
  refine lw_nil ?_
  by_cases hb18 : sm3 x y z
  · -- T
    refine rk_cf (T rfl (congrArg Value.bool (decide_eq_false (not_not_intro hb18)))) ?_
    refine rk_skip ?_
    refine rk_seq ?_
    refine rk_reg ?_
    refine lw_v (.pointer (some ⟨b1, 0, none⟩)) (dv_fieldAddr (a := ⟨b1, 0, none⟩) (a' := ⟨b1, 0, none⟩) fo73_0 (T rfl rfl) rfl) ?_
    have H19 := (e16.blk H11)
    refine lw_v (.agg #[.bool na, .slice Aa la ca]) (dv_loads (l := [.bool na, .slice Aa la ca]) agt55 sz55 (T rfl rfl) H19 rfl) ?_
    have h20 := (h12.ext e16)
    refine lw_e (oe_callf (vs := [.agg #[.bool na, .slice Aa la ca]]) co51 (ar1 (T rfl rfl)) (l1Wide_ok h20 (by first | decide | omega)) ?_)
    rintro _ w22 ⟨rfl, e23⟩
    have E24 := below_ext E17 E17.size e23
    have bw21 := w_rg (x)
    refine lw_v (.tuple #[.agg #[.int .u64 (wv3 x), .int .u64 (wv2 x), .int .u64 (wv1 x), .int .u64 (wv0 x)], .bool (decide (fits x))]) (dv_move (T rfl rfl)) ?_
    refine lw_v (.agg #[.int .u64 (wv3 x), .int .u64 (wv2 x), .int .u64 (wv1 x), .int .u64 (wv0 x)]) (dv_extract (vs := #[.agg #[.int .u64 (wv3 x), .int .u64 (wv2 x), .int .u64 (wv1 x), .int .u64 (wv0 x)], .bool (decide (fits x))]) (T rfl rfl) rfl) ?_
    refine lw_v (.bool (decide (fits x))) (dv_extract (vs := #[.agg #[.int .u64 (wv3 x), .int .u64 (wv2 x), .int .u64 (wv1 x), .int .u64 (wv0 x)], .bool (decide (fits x))]) (T rfl rfl) rfl) ?_
    refine lw_e (oe_alloc ze26 ?_)
    intro b25 w26 n27
    have N28 : w.heap.size ≤ b25 := n27.eq ▸ E24.size
    have H29 := (e23.blk (e16.blk n8.blk))
    have : b6 < b25 := n27.eq ▸ lt_of_blk H29
    have E30 := below_ext E24 E24.size n27.ext
    refine lw_e (oe_store (v := .agg #[.int .u64 (wv3 x), .int .u64 (wv2 x), .int .u64 (wv1 x), .int .u64 (wv0 x)]) (vs := [.int .u64 (wv3 x), .int .u64 (wv2 x), .int .u64 (wv1 x), .int .u64 (wv0 x)]) (l := [.int .u64 (wv3 x), .int .u64 (wv2 x), .int .u64 (wv1 x), .int .u64 (wv0 x)]) (T rfl rfl) (T rfl rfl) sz26 rfl rfl rfl n27.blk rfl ?_)
    intro w31 s32 H33
    have E34 := below_st E30 N28 s32
    refine lw_v (.bool (decide (fits x))) (dv_assign (T rfl rfl)) ?_
    refine lw_nil ?_
    refine rk_seq ?_
    refine rk_reg ?_
    refine lw_v (.pointer (some ⟨b1, 2, none⟩)) (dv_fieldAddr (a := ⟨b1, 0, none⟩) (a' := ⟨b1, 2, none⟩) fo73_1 (T rfl rfl) rfl) ?_
    have H35 := (s32.blk (n27.ext.blk (e23.blk H19)) (by omega))
    refine lw_v (.agg #[.bool nb, .slice Ab lb cb]) (dv_loads (l := [.bool nb, .slice Ab lb cb]) agt55 sz55 (T rfl rfl) H35 rfl) ?_
    have h36 := ((((h13.ext e16).ext e23).ext n27.ext).st s32 n27.blk (by decide))
    refine lw_e (oe_callf (vs := [.agg #[.bool nb, .slice Ab lb cb]]) co51 (ar1 (T rfl rfl)) (l1Wide_ok h36 (by first | decide | omega)) ?_)
    rintro _ w38 ⟨rfl, e39⟩
    have E40 := below_ext E34 E34.size e39
    have bw37 := w_rg (y)
    refine lw_v (.tuple #[.agg #[.int .u64 (wv3 y), .int .u64 (wv2 y), .int .u64 (wv1 y), .int .u64 (wv0 y)], .bool (decide (fits y))]) (dv_move (T rfl rfl)) ?_
    refine lw_v (.agg #[.int .u64 (wv3 y), .int .u64 (wv2 y), .int .u64 (wv1 y), .int .u64 (wv0 y)]) (dv_extract (vs := #[.agg #[.int .u64 (wv3 y), .int .u64 (wv2 y), .int .u64 (wv1 y), .int .u64 (wv0 y)], .bool (decide (fits y))]) (T rfl rfl) rfl) ?_
    refine lw_v (.bool (decide (fits y))) (dv_extract (vs := #[.agg #[.int .u64 (wv3 y), .int .u64 (wv2 y), .int .u64 (wv1 y), .int .u64 (wv0 y)], .bool (decide (fits y))]) (T rfl rfl) rfl) ?_
    refine lw_e (oe_alloc ze26 ?_)
    intro b41 w42 n43
    have N44 : w.heap.size ≤ b41 := n43.eq ▸ E40.size
    have H45 := (e39.blk H33)
    have : b25 < b41 := n43.eq ▸ lt_of_blk H45
    have E46 := below_ext E40 E40.size n43.ext
    refine lw_e (oe_store (v := .agg #[.int .u64 (wv3 y), .int .u64 (wv2 y), .int .u64 (wv1 y), .int .u64 (wv0 y)]) (vs := [.int .u64 (wv3 y), .int .u64 (wv2 y), .int .u64 (wv1 y), .int .u64 (wv0 y)]) (l := [.int .u64 (wv3 y), .int .u64 (wv2 y), .int .u64 (wv1 y), .int .u64 (wv0 y)]) (T rfl rfl) (T rfl rfl) sz26 rfl rfl rfl n43.blk rfl ?_)
    intro w47 s48 H49
    have E50 := below_st E46 N44 s48
    refine lw_v (.bool (decide (fits y))) (dv_assign (T rfl rfl)) ?_
    refine lw_nil ?_
    refine rk_seq ?_
    refine rk_reg ?_
    refine lw_v (.pointer (some ⟨b1, 4, none⟩)) (dv_fieldAddr (a := ⟨b1, 0, none⟩) (a' := ⟨b1, 4, none⟩) fo73_2 (T rfl rfl) rfl) ?_
    have H51 := (s48.blk (n43.ext.blk (e39.blk H35)) (by omega))
    refine lw_v (.agg #[.bool nm, .slice Am lm cm]) (dv_loads (l := [.bool nm, .slice Am lm cm]) agt55 sz55 (T rfl rfl) H51 rfl) ?_
    have h52 := (((((((h14.ext e16).ext e23).ext n27.ext).st s32 n27.blk (by decide)).ext e39).ext n43.ext).st s48 n43.blk (by decide))
    refine lw_e (oe_callf (vs := [.agg #[.bool nm, .slice Am lm cm]]) co51 (ar1 (T rfl rfl)) (l1Wide_ok h52 (by first | decide | omega)) ?_)
    rintro _ w54 ⟨rfl, e55⟩
    have E56 := below_ext E50 E50.size e55
    have bw53 := w_rg (z)
    refine lw_v (.tuple #[.agg #[.int .u64 (wv3 z), .int .u64 (wv2 z), .int .u64 (wv1 z), .int .u64 (wv0 z)], .bool (decide (fits z))]) (dv_move (T rfl rfl)) ?_
    refine lw_v (.agg #[.int .u64 (wv3 z), .int .u64 (wv2 z), .int .u64 (wv1 z), .int .u64 (wv0 z)]) (dv_extract (vs := #[.agg #[.int .u64 (wv3 z), .int .u64 (wv2 z), .int .u64 (wv1 z), .int .u64 (wv0 z)], .bool (decide (fits z))]) (T rfl rfl) rfl) ?_
    refine lw_v (.bool (decide (fits z))) (dv_extract (vs := #[.agg #[.int .u64 (wv3 z), .int .u64 (wv2 z), .int .u64 (wv1 z), .int .u64 (wv0 z)], .bool (decide (fits z))]) (T rfl rfl) rfl) ?_
    refine lw_e (oe_alloc ze26 ?_)
    intro b57 w58 n59
    have N60 : w.heap.size ≤ b57 := n59.eq ▸ E56.size
    have H61 := (e55.blk H49)
    have : b41 < b57 := n59.eq ▸ lt_of_blk H61
    have E62 := below_ext E56 E56.size n59.ext
    refine lw_e (oe_store (v := .agg #[.int .u64 (wv3 z), .int .u64 (wv2 z), .int .u64 (wv1 z), .int .u64 (wv0 z)]) (vs := [.int .u64 (wv3 z), .int .u64 (wv2 z), .int .u64 (wv1 z), .int .u64 (wv0 z)]) (l := [.int .u64 (wv3 z), .int .u64 (wv2 z), .int .u64 (wv1 z), .int .u64 (wv0 z)]) (T rfl rfl) (T rfl rfl) sz26 rfl rfl rfl n59.blk rfl ?_)
    intro w63 s64 H65
    have E66 := below_st E62 N60 s64
    refine lw_v (.bool (decide (fits z))) (dv_assign (T rfl rfl)) ?_
    refine lw_nil ?_
    refine rk_seq ?_
    refine rk_reg ?_
    have H67 := (s64.blk (n59.ext.blk (e55.blk (s48.blk (n43.ext.blk H45) (by omega)))) (by omega))
    refine lw_v (.agg #[.int .u64 (wv3 x), .int .u64 (wv2 x), .int .u64 (wv1 x), .int .u64 (wv0 x)]) (dv_loads (l := [.int .u64 (wv3 x), .int .u64 (wv2 x), .int .u64 (wv1 x), .int .u64 (wv0 x)]) agt26 sz26 (T rfl rfl) H67 rfl) ?_
    have H68 := (s64.blk (n59.ext.blk H61) (by omega))
    refine lw_v (.agg #[.int .u64 (wv3 y), .int .u64 (wv2 y), .int .u64 (wv1 y), .int .u64 (wv0 y)]) (dv_loads (l := [.int .u64 (wv3 y), .int .u64 (wv2 y), .int .u64 (wv1 y), .int .u64 (wv0 y)]) agt26 sz26 (T rfl rfl) H68 rfl) ?_
    refine lw_v (.agg #[.int .u64 (wv3 z), .int .u64 (wv2 z), .int .u64 (wv1 z), .int .u64 (wv0 z)]) (dv_loads (l := [.int .u64 (wv3 z), .int .u64 (wv2 z), .int .u64 (wv1 z), .int .u64 (wv0 z)]) agt26 sz26 (T rfl rfl) H65 rfl) ?_
    refine lw_v (.agg #[.int .u64 (wv3 x), .int .u64 (wv2 x), .int .u64 (wv1 x), .int .u64 (wv0 x), .int .u64 (wv3 y), .int .u64 (wv2 y), .int .u64 (wv1 y), .int .u64 (wv0 y), .int .u64 (wv3 z), .int .u64 (wv2 z), .int .u64 (wv1 z), .int .u64 (wv0 z)]) (dv_build (pv := [(0, .agg #[.int .u64 (wv3 x), .int .u64 (wv2 x), .int .u64 (wv1 x), .int .u64 (wv0 x)]), (1, .agg #[.int .u64 (wv3 y), .int .u64 (wv2 y), .int .u64 (wv1 y), .int .u64 (wv0 y)]), (2, .agg #[.int .u64 (wv3 z), .int .u64 (wv2 z), .int .u64 (wv1 z), .int .u64 (wv0 z)])]) (l := [.int .u64 (wv3 x), .int .u64 (wv2 x), .int .u64 (wv1 x), .int .u64 (wv0 x), .int .u64 (wv3 y), .int .u64 (wv2 y), .int .u64 (wv1 y), .int .u64 (wv0 y), .int .u64 (wv3 z), .int .u64 (wv2 z), .int .u64 (wv1 z), .int .u64 (wv0 z)]) zc39 pl39 ⟨rfl, (T rfl rfl), ⟨rfl, (T rfl rfl), ⟨rfl, (T rfl rfl), trivial⟩⟩⟩ rfl) ?_
    have H69 := (s64.blk (n59.ext.blk (e55.blk (s48.blk (n43.ext.blk (e39.blk (s32.blk (n27.ext.blk H29) (by omega)))) (by omega)))) (by omega))
    refine lw_e (oe_store (v := .agg #[.int .u64 (wv3 x), .int .u64 (wv2 x), .int .u64 (wv1 x), .int .u64 (wv0 x), .int .u64 (wv3 y), .int .u64 (wv2 y), .int .u64 (wv1 y), .int .u64 (wv0 y), .int .u64 (wv3 z), .int .u64 (wv2 z), .int .u64 (wv1 z), .int .u64 (wv0 z)]) (vs := [.int .u64 (wv3 x), .int .u64 (wv2 x), .int .u64 (wv1 x), .int .u64 (wv0 x), .int .u64 (wv3 y), .int .u64 (wv2 y), .int .u64 (wv1 y), .int .u64 (wv0 y), .int .u64 (wv3 z), .int .u64 (wv2 z), .int .u64 (wv1 z), .int .u64 (wv0 z)]) (l := [.int .u64 (wv3 x), .int .u64 (wv2 x), .int .u64 (wv1 x), .int .u64 (wv0 x), .int .u64 (wv3 y), .int .u64 (wv2 y), .int .u64 (wv1 y), .int .u64 (wv0 y), .int .u64 (wv3 z), .int .u64 (wv2 z), .int .u64 (wv1 z), .int .u64 (wv0 z)]) (T rfl rfl) (T rfl rfl) sz39 rfl rfl rfl H69 rfl ?_)
    intro w70 s71 H72
    have E73 := below_st E66 N9 s71
    refine lw_v (.bool true) (dv_assign C) ?_
    refine lw_nil ?_
    refine rk_ret Try.func57 (v := .tuple #[.agg #[.int .u64 (wv3 x), .int .u64 (wv2 x), .int .u64 (wv1 x), .int .u64 (wv0 x), .int .u64 (wv3 y), .int .u64 (wv2 y), .int .u64 (wv1 y), .int .u64 (wv0 y), .int .u64 (wv3 z), .int .u64 (wv2 z), .int .u64 (wv1 z), .int .u64 (wv0 z)], .bool true]) (res2 Try.results57 (rv_cells (l := [.int .u64 (wv3 x), .int .u64 (wv2 x), .int .u64 (wv1 x), .int .u64 (wv0 x), .int .u64 (wv3 y), .int .u64 (wv2 y), .int .u64 (wv1 y), .int .u64 (wv0 y), .int .u64 (wv3 z), .int .u64 (wv2 z), .int .u64 (wv1 z), .int .u64 (wv0 z)]) agt39 sz39 rfl rfl H72 rfl) (rv_tmp rfl rfl)) ⟨_, rfl, ?_⟩
    exact ⟨(tu2 (ag12 (vi (by first | exact (pk_t (by assumption)).symm | exact (pk_f (by assumption)).symm | assumption | (exact pk_nn (by assumption) (by assumption)))) (vi (by first | exact (pk_t (by assumption)).symm | exact (pk_f (by assumption)).symm | assumption | (exact pk_nn (by assumption) (by assumption)))) (vi (by first | exact (pk_t (by assumption)).symm | exact (pk_f (by assumption)).symm | assumption | (exact pk_nn (by assumption) (by assumption)))) (vi (by first | exact (pk_t (by assumption)).symm | exact (pk_f (by assumption)).symm | assumption | (exact pk_nn (by assumption) (by assumption)))) (vi (by first | exact (pk_t (by assumption)).symm | exact (pk_f (by assumption)).symm | assumption | (exact pk_nn (by assumption) (by assumption)))) (vi (by first | exact (pk_t (by assumption)).symm | exact (pk_f (by assumption)).symm | assumption | (exact pk_nn (by assumption) (by assumption)))) (vi (by first | exact (pk_t (by assumption)).symm | exact (pk_f (by assumption)).symm | assumption | (exact pk_nn (by assumption) (by assumption)))) (vi (by first | exact (pk_t (by assumption)).symm | exact (pk_f (by assumption)).symm | assumption | (exact pk_nn (by assumption) (by assumption)))) (vi (by first | exact (pk_t (by assumption)).symm | exact (pk_f (by assumption)).symm | assumption | (exact pk_nn (by assumption) (by assumption)))) (vi (by first | exact (pk_t (by assumption)).symm | exact (pk_f (by assumption)).symm | assumption | (exact pk_nn (by assumption) (by assumption)))) (vi (by first | exact (pk_t (by assumption)).symm | exact (pk_f (by assumption)).symm | assumption | (exact pk_nn (by assumption) (by assumption)))) (vi (by first | exact (pk_t (by assumption)).symm | exact (pk_f (by assumption)).symm | assumption | (exact pk_nn (by assumption) (by assumption))))) (vt (by first | exact (pk_t (by assumption)).symm | exact (pk_f (by assumption)).symm | assumption | (exact pk_nn (by assumption) (by assumption))))), E73⟩
  · -- F
    refine rk_ct (T rfl (congrArg Value.bool (decide_eq_true hb18))) ?_
    refine rk_seq ?_
    refine rk_reg ?_
    refine lw_v (.agg #[.int .u64 0, .int .u64 0, .int .u64 0, .int .u64 0, .int .u64 0, .int .u64 0, .int .u64 0, .int .u64 0, .int .u64 0, .int .u64 0, .int .u64 0, .int .u64 0]) (dv_build (pv := []) (l := [.int .u64 0, .int .u64 0, .int .u64 0, .int .u64 0, .int .u64 0, .int .u64 0, .int .u64 0, .int .u64 0, .int .u64 0, .int .u64 0, .int .u64 0, .int .u64 0]) zc39 pl39 trivial rfl) ?_
    have H74 := (e16.blk n8.blk)
    refine lw_e (oe_store (v := .agg #[.int .u64 0, .int .u64 0, .int .u64 0, .int .u64 0, .int .u64 0, .int .u64 0, .int .u64 0, .int .u64 0, .int .u64 0, .int .u64 0, .int .u64 0, .int .u64 0]) (vs := [.int .u64 0, .int .u64 0, .int .u64 0, .int .u64 0, .int .u64 0, .int .u64 0, .int .u64 0, .int .u64 0, .int .u64 0, .int .u64 0, .int .u64 0, .int .u64 0]) (l := [.int .u64 0, .int .u64 0, .int .u64 0, .int .u64 0, .int .u64 0, .int .u64 0, .int .u64 0, .int .u64 0, .int .u64 0, .int .u64 0, .int .u64 0, .int .u64 0]) (T rfl rfl) (T rfl rfl) sz39 rfl rfl rfl H74 rfl ?_)
    intro w75 s76 H77
    have E78 := below_st E17 N9 s76
    refine lw_v (.bool false) (dv_assign C) ?_
    refine lw_nil ?_
    refine rk_ret Try.func57 (v := .tuple #[.agg #[.int .u64 0, .int .u64 0, .int .u64 0, .int .u64 0, .int .u64 0, .int .u64 0, .int .u64 0, .int .u64 0, .int .u64 0, .int .u64 0, .int .u64 0, .int .u64 0], .bool false]) (res2 Try.results57 (rv_cells (l := [.int .u64 0, .int .u64 0, .int .u64 0, .int .u64 0, .int .u64 0, .int .u64 0, .int .u64 0, .int .u64 0, .int .u64 0, .int .u64 0, .int .u64 0, .int .u64 0]) agt39 sz39 rfl rfl H77 rfl) (rv_tmp rfl rfl)) ⟨_, rfl, ?_⟩
    exact ⟨(tu2 (ag12 (vi (by first | exact (pk_t (by assumption)).symm | exact (pk_f (by assumption)).symm | assumption | (exact pk_nn (by assumption) (by assumption)))) (vi (by first | exact (pk_t (by assumption)).symm | exact (pk_f (by assumption)).symm | assumption | (exact pk_nn (by assumption) (by assumption)))) (vi (by first | exact (pk_t (by assumption)).symm | exact (pk_f (by assumption)).symm | assumption | (exact pk_nn (by assumption) (by assumption)))) (vi (by first | exact (pk_t (by assumption)).symm | exact (pk_f (by assumption)).symm | assumption | (exact pk_nn (by assumption) (by assumption)))) (vi (by first | exact (pk_t (by assumption)).symm | exact (pk_f (by assumption)).symm | assumption | (exact pk_nn (by assumption) (by assumption)))) (vi (by first | exact (pk_t (by assumption)).symm | exact (pk_f (by assumption)).symm | assumption | (exact pk_nn (by assumption) (by assumption)))) (vi (by first | exact (pk_t (by assumption)).symm | exact (pk_f (by assumption)).symm | assumption | (exact pk_nn (by assumption) (by assumption)))) (vi (by first | exact (pk_t (by assumption)).symm | exact (pk_f (by assumption)).symm | assumption | (exact pk_nn (by assumption) (by assumption)))) (vi (by first | exact (pk_t (by assumption)).symm | exact (pk_f (by assumption)).symm | assumption | (exact pk_nn (by assumption) (by assumption)))) (vi (by first | exact (pk_t (by assumption)).symm | exact (pk_f (by assumption)).symm | assumption | (exact pk_nn (by assumption) (by assumption)))) (vi (by first | exact (pk_t (by assumption)).symm | exact (pk_f (by assumption)).symm | assumption | (exact pk_nn (by assumption) (by assumption)))) (vi (by first | exact (pk_t (by assumption)).symm | exact (pk_f (by assumption)).symm | assumption | (exact pk_nn (by assumption) (by assumption))))) (vf (by first | exact (pk_t (by assumption)).symm | exact (pk_f (by assumption)).symm | assumption | (exact pk_nn (by assumption) (by assumption))))), E78⟩

set_option maxHeartbeats 1000000 in
theorem sPointOf_ok {w : World} {x y : Int} (hx : -9223372036854775808 ≤ x ∧ x ≤ 9223372036854775807) (hy : -9223372036854775808 ≤ y ∧ y ≤ 9223372036854775807) : Ct Try.prog 27 [.agg #[.int .i64 x, .int .i64 y]] w fun v w1 => v = .agg #[.int .u64 (wv3 x), .int .u64 (wv2 x), .int .u64 (wv1 x), .int .u64 (wv0 x), .int .u64 (wv3 y), .int .u64 (wv2 y), .int .u64 (wv1 y), .int .u64 (wv0 y), .int .u64 (wv3 1), .int .u64 (wv2 1), .int .u64 (wv1 1), .int .u64 (wv0 1)] ∧ Ext w w1 := by
  refine ct_run (n := 12) Try.func27 rfl Try.ntmps27 rfl ?_
  have E0 : Below w.heap.size w w := Below.refl _ _
  refine rk_seq ?_
  refine rk_reg ?_
  refine lw_e (oe_box (v := .agg #[.int .i64 x, .int .i64 y]) (cs := #[.int .i64 x, .int .i64 y]) (T rfl rfl) rfl ?_)
  intro b1 w2 n3
  have N4 : w.heap.size ≤ b1 := n3.eq ▸ E0.size
  have E5 := below_ext E0 E0.size n3.ext
  refine lw_e (oe_alloc ze39 ?_)
  intro b6 w7 n8
  have N9 : w.heap.size ≤ b6 := n8.eq ▸ E5.size
  have : b1 < b6 := n8.eq ▸ lt_of_blk n3.blk
  have E10 := below_ext E5 E5.size n8.ext
  refine lw_nil ?_
  refine rk_seq ?_
  refine rk_reg ?_
  have H11 := (n8.ext.blk n3.blk)
  refine lw_v (.agg #[.int .i64 x, .int .i64 y]) (dv_loads (l := [.int .i64 x, .int .i64 y]) agt41 sz41 (T rfl rfl) H11 rfl) ?_
  refine lw_e (oe_callf (vs := [.agg #[.int .i64 x, .int .i64 y]]) co58 (ar1 (T rfl rfl)) (l3Spot_ok (by omega) (by omega)) ?_)
  rintro _ w27 ⟨nr12, A13, n14, c15, nr16, A17, n18, c19, nr20, A21, n22, c23, rfl, e28, h24, h25, h26⟩
  have E29 := below_ext E10 E10.size e28
  have lh24 := Num.len (by decide) h24
  have lh25 := Num.len (by decide) h25
  have lh26 := Num.len (by decide) h26
  refine lw_e (oe_callf (vs := [.agg #[.bool nr12, .slice A13 n14 c15, .bool nr16, .slice A17 n18 c19, .bool nr20, .slice A21 n22 c23]]) co57 (ar1 (T rfl rfl)) (l3Point_ok h24 h25 h26 (by omega) (by omega) (by omega)) ?_)
  rintro _ w30 ⟨rfl, e31⟩
  have E32 := below_ext E29 E29.size e31
  refine lw_v (.tuple #[.agg #[.int .u64 (pk (sm3 x y 1) (wv3 x)), .int .u64 (pk (sm3 x y 1) (wv2 x)), .int .u64 (pk (sm3 x y 1) (wv1 x)), .int .u64 (pk (sm3 x y 1) (wv0 x)), .int .u64 (pk (sm3 x y 1) (wv3 y)), .int .u64 (pk (sm3 x y 1) (wv2 y)), .int .u64 (pk (sm3 x y 1) (wv1 y)), .int .u64 (pk (sm3 x y 1) (wv0 y)), .int .u64 (pk (sm3 x y 1) (wv3 1)), .int .u64 (pk (sm3 x y 1) (wv2 1)), .int .u64 (pk (sm3 x y 1) (wv1 1)), .int .u64 (pk (sm3 x y 1) (wv0 1))], .bool (decide (sm3 x y 1))]) (dv_move (T rfl rfl)) ?_
  refine lw_v (.agg #[.int .u64 (pk (sm3 x y 1) (wv3 x)), .int .u64 (pk (sm3 x y 1) (wv2 x)), .int .u64 (pk (sm3 x y 1) (wv1 x)), .int .u64 (pk (sm3 x y 1) (wv0 x)), .int .u64 (pk (sm3 x y 1) (wv3 y)), .int .u64 (pk (sm3 x y 1) (wv2 y)), .int .u64 (pk (sm3 x y 1) (wv1 y)), .int .u64 (pk (sm3 x y 1) (wv0 y)), .int .u64 (pk (sm3 x y 1) (wv3 1)), .int .u64 (pk (sm3 x y 1) (wv2 1)), .int .u64 (pk (sm3 x y 1) (wv1 1)), .int .u64 (pk (sm3 x y 1) (wv0 1))]) (dv_extract (vs := #[.agg #[.int .u64 (pk (sm3 x y 1) (wv3 x)), .int .u64 (pk (sm3 x y 1) (wv2 x)), .int .u64 (pk (sm3 x y 1) (wv1 x)), .int .u64 (pk (sm3 x y 1) (wv0 x)), .int .u64 (pk (sm3 x y 1) (wv3 y)), .int .u64 (pk (sm3 x y 1) (wv2 y)), .int .u64 (pk (sm3 x y 1) (wv1 y)), .int .u64 (pk (sm3 x y 1) (wv0 y)), .int .u64 (pk (sm3 x y 1) (wv3 1)), .int .u64 (pk (sm3 x y 1) (wv2 1)), .int .u64 (pk (sm3 x y 1) (wv1 1)), .int .u64 (pk (sm3 x y 1) (wv0 1))], .bool (decide (sm3 x y 1))]) (T rfl rfl) rfl) ?_
  refine lw_v (.bool (decide (sm3 x y 1))) (dv_extract (vs := #[.agg #[.int .u64 (pk (sm3 x y 1) (wv3 x)), .int .u64 (pk (sm3 x y 1) (wv2 x)), .int .u64 (pk (sm3 x y 1) (wv1 x)), .int .u64 (pk (sm3 x y 1) (wv0 x)), .int .u64 (pk (sm3 x y 1) (wv3 y)), .int .u64 (pk (sm3 x y 1) (wv2 y)), .int .u64 (pk (sm3 x y 1) (wv1 y)), .int .u64 (pk (sm3 x y 1) (wv0 y)), .int .u64 (pk (sm3 x y 1) (wv3 1)), .int .u64 (pk (sm3 x y 1) (wv2 1)), .int .u64 (pk (sm3 x y 1) (wv1 1)), .int .u64 (pk (sm3 x y 1) (wv0 1))], .bool (decide (sm3 x y 1))]) (T rfl rfl) rfl) ?_
  refine lw_e (oe_alloc ze39 ?_)
  intro b33 w34 n35
  have N36 : w.heap.size ≤ b33 := n35.eq ▸ E32.size
  have H37 := (e31.blk (e28.blk n8.blk))
  have : b6 < b33 := n35.eq ▸ lt_of_blk H37
  have E38 := below_ext E32 E32.size n35.ext
  refine lw_e (oe_store (v := .agg #[.int .u64 (pk (sm3 x y 1) (wv3 x)), .int .u64 (pk (sm3 x y 1) (wv2 x)), .int .u64 (pk (sm3 x y 1) (wv1 x)), .int .u64 (pk (sm3 x y 1) (wv0 x)), .int .u64 (pk (sm3 x y 1) (wv3 y)), .int .u64 (pk (sm3 x y 1) (wv2 y)), .int .u64 (pk (sm3 x y 1) (wv1 y)), .int .u64 (pk (sm3 x y 1) (wv0 y)), .int .u64 (pk (sm3 x y 1) (wv3 1)), .int .u64 (pk (sm3 x y 1) (wv2 1)), .int .u64 (pk (sm3 x y 1) (wv1 1)), .int .u64 (pk (sm3 x y 1) (wv0 1))]) (vs := [.int .u64 (pk (sm3 x y 1) (wv3 x)), .int .u64 (pk (sm3 x y 1) (wv2 x)), .int .u64 (pk (sm3 x y 1) (wv1 x)), .int .u64 (pk (sm3 x y 1) (wv0 x)), .int .u64 (pk (sm3 x y 1) (wv3 y)), .int .u64 (pk (sm3 x y 1) (wv2 y)), .int .u64 (pk (sm3 x y 1) (wv1 y)), .int .u64 (pk (sm3 x y 1) (wv0 y)), .int .u64 (pk (sm3 x y 1) (wv3 1)), .int .u64 (pk (sm3 x y 1) (wv2 1)), .int .u64 (pk (sm3 x y 1) (wv1 1)), .int .u64 (pk (sm3 x y 1) (wv0 1))]) (l := [.int .u64 (pk (sm3 x y 1) (wv3 x)), .int .u64 (pk (sm3 x y 1) (wv2 x)), .int .u64 (pk (sm3 x y 1) (wv1 x)), .int .u64 (pk (sm3 x y 1) (wv0 x)), .int .u64 (pk (sm3 x y 1) (wv3 y)), .int .u64 (pk (sm3 x y 1) (wv2 y)), .int .u64 (pk (sm3 x y 1) (wv1 y)), .int .u64 (pk (sm3 x y 1) (wv0 y)), .int .u64 (pk (sm3 x y 1) (wv3 1)), .int .u64 (pk (sm3 x y 1) (wv2 1)), .int .u64 (pk (sm3 x y 1) (wv1 1)), .int .u64 (pk (sm3 x y 1) (wv0 1))]) (T rfl rfl) (T rfl rfl) sz39 rfl rfl rfl n35.blk rfl ?_)
  intro w39 s40 H41
  have E42 := below_st E38 N36 s40
  refine lw_v (.bool (decide (sm3 x y 1))) (dv_assign (T rfl rfl)) ?_
  refine lw_nil ?_
  refine rk_seq ?_
  refine rk_reg ?_
  refine lw_v (.agg #[.int .u64 (pk (sm3 x y 1) (wv3 x)), .int .u64 (pk (sm3 x y 1) (wv2 x)), .int .u64 (pk (sm3 x y 1) (wv1 x)), .int .u64 (pk (sm3 x y 1) (wv0 x)), .int .u64 (pk (sm3 x y 1) (wv3 y)), .int .u64 (pk (sm3 x y 1) (wv2 y)), .int .u64 (pk (sm3 x y 1) (wv1 y)), .int .u64 (pk (sm3 x y 1) (wv0 y)), .int .u64 (pk (sm3 x y 1) (wv3 1)), .int .u64 (pk (sm3 x y 1) (wv2 1)), .int .u64 (pk (sm3 x y 1) (wv1 1)), .int .u64 (pk (sm3 x y 1) (wv0 1))]) (dv_loads (l := [.int .u64 (pk (sm3 x y 1) (wv3 x)), .int .u64 (pk (sm3 x y 1) (wv2 x)), .int .u64 (pk (sm3 x y 1) (wv1 x)), .int .u64 (pk (sm3 x y 1) (wv0 x)), .int .u64 (pk (sm3 x y 1) (wv3 y)), .int .u64 (pk (sm3 x y 1) (wv2 y)), .int .u64 (pk (sm3 x y 1) (wv1 y)), .int .u64 (pk (sm3 x y 1) (wv0 y)), .int .u64 (pk (sm3 x y 1) (wv3 1)), .int .u64 (pk (sm3 x y 1) (wv2 1)), .int .u64 (pk (sm3 x y 1) (wv1 1)), .int .u64 (pk (sm3 x y 1) (wv0 1))]) agt39 sz39 (T rfl rfl) H41 rfl) ?_
  have H43 := (s40.blk (n35.ext.blk H37) (by omega))
  refine lw_e (oe_store (v := .agg #[.int .u64 (pk (sm3 x y 1) (wv3 x)), .int .u64 (pk (sm3 x y 1) (wv2 x)), .int .u64 (pk (sm3 x y 1) (wv1 x)), .int .u64 (pk (sm3 x y 1) (wv0 x)), .int .u64 (pk (sm3 x y 1) (wv3 y)), .int .u64 (pk (sm3 x y 1) (wv2 y)), .int .u64 (pk (sm3 x y 1) (wv1 y)), .int .u64 (pk (sm3 x y 1) (wv0 y)), .int .u64 (pk (sm3 x y 1) (wv3 1)), .int .u64 (pk (sm3 x y 1) (wv2 1)), .int .u64 (pk (sm3 x y 1) (wv1 1)), .int .u64 (pk (sm3 x y 1) (wv0 1))]) (vs := [.int .u64 (pk (sm3 x y 1) (wv3 x)), .int .u64 (pk (sm3 x y 1) (wv2 x)), .int .u64 (pk (sm3 x y 1) (wv1 x)), .int .u64 (pk (sm3 x y 1) (wv0 x)), .int .u64 (pk (sm3 x y 1) (wv3 y)), .int .u64 (pk (sm3 x y 1) (wv2 y)), .int .u64 (pk (sm3 x y 1) (wv1 y)), .int .u64 (pk (sm3 x y 1) (wv0 y)), .int .u64 (pk (sm3 x y 1) (wv3 1)), .int .u64 (pk (sm3 x y 1) (wv2 1)), .int .u64 (pk (sm3 x y 1) (wv1 1)), .int .u64 (pk (sm3 x y 1) (wv0 1))]) (l := [.int .u64 (pk (sm3 x y 1) (wv3 x)), .int .u64 (pk (sm3 x y 1) (wv2 x)), .int .u64 (pk (sm3 x y 1) (wv1 x)), .int .u64 (pk (sm3 x y 1) (wv0 x)), .int .u64 (pk (sm3 x y 1) (wv3 y)), .int .u64 (pk (sm3 x y 1) (wv2 y)), .int .u64 (pk (sm3 x y 1) (wv1 y)), .int .u64 (pk (sm3 x y 1) (wv0 y)), .int .u64 (pk (sm3 x y 1) (wv3 1)), .int .u64 (pk (sm3 x y 1) (wv2 1)), .int .u64 (pk (sm3 x y 1) (wv1 1)), .int .u64 (pk (sm3 x y 1) (wv0 1))]) (T rfl rfl) (T rfl rfl) sz39 rfl rfl rfl H43 rfl ?_)
  intro w44 s45 H46
  have E47 := below_st E42 N9 s45
  refine lw_nil ?_
  refine rk_ret Try.func27 (v := .agg #[.int .u64 (pk (sm3 x y 1) (wv3 x)), .int .u64 (pk (sm3 x y 1) (wv2 x)), .int .u64 (pk (sm3 x y 1) (wv1 x)), .int .u64 (pk (sm3 x y 1) (wv0 x)), .int .u64 (pk (sm3 x y 1) (wv3 y)), .int .u64 (pk (sm3 x y 1) (wv2 y)), .int .u64 (pk (sm3 x y 1) (wv1 y)), .int .u64 (pk (sm3 x y 1) (wv0 y)), .int .u64 (pk (sm3 x y 1) (wv3 1)), .int .u64 (pk (sm3 x y 1) (wv2 1)), .int .u64 (pk (sm3 x y 1) (wv1 1)), .int .u64 (pk (sm3 x y 1) (wv0 1))]) (res1 Try.results27 (rv_cells (l := [.int .u64 (pk (sm3 x y 1) (wv3 x)), .int .u64 (pk (sm3 x y 1) (wv2 x)), .int .u64 (pk (sm3 x y 1) (wv1 x)), .int .u64 (pk (sm3 x y 1) (wv0 x)), .int .u64 (pk (sm3 x y 1) (wv3 y)), .int .u64 (pk (sm3 x y 1) (wv2 y)), .int .u64 (pk (sm3 x y 1) (wv1 y)), .int .u64 (pk (sm3 x y 1) (wv0 y)), .int .u64 (pk (sm3 x y 1) (wv3 1)), .int .u64 (pk (sm3 x y 1) (wv2 1)), .int .u64 (pk (sm3 x y 1) (wv1 1)), .int .u64 (pk (sm3 x y 1) (wv0 1))]) agt39 sz39 rfl rfl H46 rfl)) ⟨_, rfl, ?_⟩
  exact ⟨(ag12 (vi (by first | rfl | exact pk_t (sm_64 hx hy))) (vi (by first | rfl | exact pk_t (sm_64 hx hy))) (vi (by first | rfl | exact pk_t (sm_64 hx hy))) (vi (by first | rfl | exact pk_t (sm_64 hx hy))) (vi (by first | rfl | exact pk_t (sm_64 hx hy))) (vi (by first | rfl | exact pk_t (sm_64 hx hy))) (vi (by first | rfl | exact pk_t (sm_64 hx hy))) (vi (by first | rfl | exact pk_t (sm_64 hx hy))) (vi (by first | rfl | exact pk_t (sm_64 hx hy))) (vi (by first | rfl | exact pk_t (sm_64 hx hy))) (vi (by first | rfl | exact pk_t (sm_64 hx hy))) (vi (by first | rfl | exact pk_t (sm_64 hx hy)))), E47⟩

set_option maxHeartbeats 1000000 in
theorem iPointOf_ok {w : World} {x y : Int} (hx : -9223372036854775808 ≤ x ∧ x ≤ 9223372036854775807) (hy : -9223372036854775808 ≤ y ∧ y ≤ 9223372036854775807) : Ct Try.prog 29 [.agg #[.int .i64 x, .int .i64 y]] w fun v w1 => v = .agg #[.int .u64 (wv3 x), .int .u64 (wv2 x), .int .u64 (wv1 x), .int .u64 (wv0 x), .int .u64 (wv3 y), .int .u64 (wv2 y), .int .u64 (wv1 y), .int .u64 (wv0 y), .int .u64 (wv3 1), .int .u64 (wv2 1), .int .u64 (wv1 1), .int .u64 (wv0 1)] ∧ Ext w w1 := by
  refine ct_run (n := 11) Try.func29 rfl Try.ntmps29 rfl ?_
  have E0 : Below w.heap.size w w := Below.refl _ _
  refine rk_seq ?_
  refine rk_reg ?_
  refine lw_e (oe_box (v := .agg #[.int .i64 x, .int .i64 y]) (cs := #[.int .i64 x, .int .i64 y]) (T rfl rfl) rfl ?_)
  intro b1 w2 n3
  have N4 : w.heap.size ≤ b1 := n3.eq ▸ E0.size
  have E5 := below_ext E0 E0.size n3.ext
  refine lw_e (oe_alloc ze39 ?_)
  intro b6 w7 n8
  have N9 : w.heap.size ≤ b6 := n8.eq ▸ E5.size
  have : b1 < b6 := n8.eq ▸ lt_of_blk n3.blk
  have E10 := below_ext E5 E5.size n8.ext
  refine lw_nil ?_
  refine rk_seq ?_
  refine rk_any (fun w => w.heap[b1]? = some (.cells #[.int .i64 x, .int .i64 y] 41)) [8] mo ?_
  intro w11 d12
  have E13 := below_ext E10 E10.size d12.ext
  have H14 := (d12.ext.blk (n8.ext.blk n3.blk))
  refine aw_pure 0 (.pointer (some ⟨b1, 0, none⟩)) rfl (by kernel_rfl) .none H14 (fun _ => dv_fieldAddr (a := ⟨b1, 0, none⟩) (a' := ⟨b1, 0, none⟩) fo41_0 (T rfl rfl) rfl) ?_
  refine aw_load 1 (.int .i64 x) rfl (by kernel_rfl) .none H14 (fun _ s => dv_load1 (b := b1) (o := 0) agt2 (T rfl rfl) s rfl) ?_
  refine aw_pure 3 (.pointer (some ⟨b1, 1, none⟩)) rfl (by kernel_rfl) .none H14 (fun _ => dv_fieldAddr (a := ⟨b1, 0, none⟩) (a' := ⟨b1, 1, none⟩) fo41_1 (T rfl rfl) rfl) ?_
  refine aw_load 4 (.int .i64 y) rfl (by kernel_rfl) .none H14 (fun _ s => dv_load1 (b := b1) (o := 1) agt2 (T rfl rfl) s rfl) ?_
  refine aw_one 2 rfl (by kernel_rfl) .none (oe_callf (vs := [.int .i64 x]) co23 (ar1 (T rfl rfl)) (iWideOf_ok (by omega)) ?_)
  rintro _ w15 ⟨rfl, e16⟩
  have E17 := below_ext E13 E13.size e16
  have H18 := (e16.blk H14)
  refine ⟨.inr H18, ?_⟩
  refine aw_one 5 rfl (by kernel_rfl) .none (oe_callf (vs := [.int .i64 y]) co23 (ar1 (T rfl rfl)) (iWideOf_ok (by omega)) ?_)
  rintro _ w19 ⟨rfl, e20⟩
  have E21 := below_ext E17 E17.size e20
  have H22 := (e20.blk H18)
  refine ⟨.inr H22, ?_⟩
  refine aw_one 6 rfl (by kernel_rfl) .none (oe_callf (vs := [.int .i64 1]) co23 (ar1 C) (iWideOf_ok (by omega)) ?_)
  rintro _ w23 ⟨rfl, e24⟩
  have E25 := below_ext E21 E21.size e24
  have H26 := (e24.blk H22)
  refine ⟨.inr H26, ?_⟩
  refine aw_pure 7 (.agg #[.int .u64 (wv3 x), .int .u64 (wv2 x), .int .u64 (wv1 x), .int .u64 (wv0 x), .int .u64 (wv3 y), .int .u64 (wv2 y), .int .u64 (wv1 y), .int .u64 (wv0 y), .int .u64 (wv3 (1 : Int)), .int .u64 (wv2 (1 : Int)), .int .u64 (wv1 (1 : Int)), .int .u64 (wv0 (1 : Int))]) rfl (by kernel_rfl) .none H26 (fun _ => dv_build (pv := [(0, .agg #[.int .u64 (wv3 x), .int .u64 (wv2 x), .int .u64 (wv1 x), .int .u64 (wv0 x)]), (1, .agg #[.int .u64 (wv3 y), .int .u64 (wv2 y), .int .u64 (wv1 y), .int .u64 (wv0 y)]), (2, .agg #[.int .u64 (wv3 (1 : Int)), .int .u64 (wv2 (1 : Int)), .int .u64 (wv1 (1 : Int)), .int .u64 (wv0 (1 : Int))])]) (l := [.int .u64 (wv3 x), .int .u64 (wv2 x), .int .u64 (wv1 x), .int .u64 (wv0 x), .int .u64 (wv3 y), .int .u64 (wv2 y), .int .u64 (wv1 y), .int .u64 (wv0 y), .int .u64 (wv3 (1 : Int)), .int .u64 (wv2 (1 : Int)), .int .u64 (wv1 (1 : Int)), .int .u64 (wv0 (1 : Int))]) zc39 pl39 ⟨rfl, (T rfl rfl), ⟨rfl, (T rfl rfl), ⟨rfl, (T rfl rfl), trivial⟩⟩⟩ rfl) ?_
  have H27 := (e24.blk (e20.blk (e16.blk (d12.ext.blk n8.blk))))
  refine aw_one 8 rfl (by kernel_rfl) .none (oe_store (v := .agg #[.int .u64 (wv3 x), .int .u64 (wv2 x), .int .u64 (wv1 x), .int .u64 (wv0 x), .int .u64 (wv3 y), .int .u64 (wv2 y), .int .u64 (wv1 y), .int .u64 (wv0 y), .int .u64 (wv3 (1 : Int)), .int .u64 (wv2 (1 : Int)), .int .u64 (wv1 (1 : Int)), .int .u64 (wv0 (1 : Int))]) (vs := [.int .u64 (wv3 x), .int .u64 (wv2 x), .int .u64 (wv1 x), .int .u64 (wv0 x), .int .u64 (wv3 y), .int .u64 (wv2 y), .int .u64 (wv1 y), .int .u64 (wv0 y), .int .u64 (wv3 (1 : Int)), .int .u64 (wv2 (1 : Int)), .int .u64 (wv1 (1 : Int)), .int .u64 (wv0 (1 : Int))]) (l := [.int .u64 (wv3 x), .int .u64 (wv2 x), .int .u64 (wv1 x), .int .u64 (wv0 x), .int .u64 (wv3 y), .int .u64 (wv2 y), .int .u64 (wv1 y), .int .u64 (wv0 y), .int .u64 (wv3 (1 : Int)), .int .u64 (wv2 (1 : Int)), .int .u64 (wv1 (1 : Int)), .int .u64 (wv0 (1 : Int))]) (T rfl rfl) (T rfl rfl) sz39 rfl rfl rfl H27 rfl ?_)
  intro w28 s29 H30
  have E31 := below_st E25 N9 s29
  refine ⟨.inl rfl, ?_⟩
  refine aw_done (by kernel_rfl) ?_
  refine rk_ret Try.func29 (v := .agg #[.int .u64 (wv3 x), .int .u64 (wv2 x), .int .u64 (wv1 x), .int .u64 (wv0 x), .int .u64 (wv3 y), .int .u64 (wv2 y), .int .u64 (wv1 y), .int .u64 (wv0 y), .int .u64 (wv3 (1 : Int)), .int .u64 (wv2 (1 : Int)), .int .u64 (wv1 (1 : Int)), .int .u64 (wv0 (1 : Int))]) (res1 Try.results29 (rv_cells (l := [.int .u64 (wv3 x), .int .u64 (wv2 x), .int .u64 (wv1 x), .int .u64 (wv0 x), .int .u64 (wv3 y), .int .u64 (wv2 y), .int .u64 (wv1 y), .int .u64 (wv0 y), .int .u64 (wv3 (1 : Int)), .int .u64 (wv2 (1 : Int)), .int .u64 (wv1 (1 : Int)), .int .u64 (wv0 (1 : Int))]) agt39 sz39 rfl rfl H30 rfl)) ⟨_, rfl, ?_⟩
  exact ⟨(ag12 rfl rfl rfl rfl rfl rfl rfl rfl (vi (by rfl)) (vi (by rfl)) (vi (by rfl)) (vi (by rfl))), E31⟩

set_option maxHeartbeats 1000000 in
theorem toSpot_ok {w : World} {x y : Int}  : Ct Try.prog 28 [.agg #[.int .i64 x, .int .i64 y]] w fun v w1 => v = .agg #[.int .i64 x, .int .i64 y] ∧ Ext w w1 := by
  refine ct_run (n := 11) Try.func28 rfl Try.ntmps28 rfl ?_
  have E0 : Below w.heap.size w w := Below.refl _ _
  refine rk_seq ?_
  refine rk_reg ?_
  refine lw_e (oe_box (v := .agg #[.int .i64 x, .int .i64 y]) (cs := #[.int .i64 x, .int .i64 y]) (T rfl rfl) rfl ?_)
  intro b1 w2 n3
  have N4 : w.heap.size ≤ b1 := n3.eq ▸ E0.size
  have E5 := below_ext E0 E0.size n3.ext
  refine lw_e (oe_alloc ze41 ?_)
  intro b6 w7 n8
  have N9 : w.heap.size ≤ b6 := n8.eq ▸ E5.size
  have : b1 < b6 := n8.eq ▸ lt_of_blk n3.blk
  have E10 := below_ext E5 E5.size n8.ext
  refine lw_nil ?_
  refine rk_seq ?_
  refine rk_reg ?_
  refine lw_e (oe_alloc ze41 ?_)
  intro b11 w12 n13
  have N14 : w.heap.size ≤ b11 := n13.eq ▸ E10.size
  have : b6 < b11 := n13.eq ▸ lt_of_blk n8.blk
  have E15 := below_ext E10 E10.size n13.ext
  refine lw_nil ?_
  refine rk_seq ?_
  refine rk_reg ?_
  refine lw_v (.pointer (some ⟨b1, 0, none⟩)) (dv_fieldAddr (a := ⟨b1, 0, none⟩) (a' := ⟨b1, 0, none⟩) fo37_0 (T rfl rfl) rfl) ?_
  have H16 := (n13.ext.blk (n8.ext.blk n3.blk))
  refine lw_v (.int .i64 x) (dv_load1 (b := b1) (o := 0) agt2 (T rfl rfl) H16 rfl) ?_
  refine lw_v (.pointer (some ⟨b11, 0, none⟩)) (dv_fieldAddr (a := ⟨b11, 0, none⟩) (a' := ⟨b11, 0, none⟩) fo41_0 (T rfl rfl) rfl) ?_
  refine lw_e (oe_store (v := .int .i64 x) (vs := [.int .i64 x]) (l := [.int .i64 x, .int .i64 0]) (T rfl rfl) (T rfl rfl) sz2 rfl rfl rfl n13.blk rfl ?_)
  intro w17 s18 H19
  have E20 := below_st E15 N14 s18
  refine lw_nil ?_
  refine rk_seq ?_
  refine rk_reg ?_
  refine lw_v (.pointer (some ⟨b1, 1, none⟩)) (dv_fieldAddr (a := ⟨b1, 0, none⟩) (a' := ⟨b1, 1, none⟩) fo37_1 (T rfl rfl) rfl) ?_
  have H21 := (s18.blk H16 (by omega))
  refine lw_v (.int .i64 y) (dv_load1 (b := b1) (o := 1) agt2 (T rfl rfl) H21 rfl) ?_
  refine lw_v (.pointer (some ⟨b11, 1, none⟩)) (dv_fieldAddr (a := ⟨b11, 0, none⟩) (a' := ⟨b11, 1, none⟩) fo41_1 (T rfl rfl) rfl) ?_
  refine lw_e (oe_store (v := .int .i64 y) (vs := [.int .i64 y]) (l := [.int .i64 x, .int .i64 y]) (T rfl rfl) (T rfl rfl) sz2 rfl rfl rfl H19 rfl ?_)
  intro w22 s23 H24
  have E25 := below_st E20 N14 s23
  refine lw_nil ?_
  refine rk_seq ?_
  refine rk_reg ?_
  refine lw_v (.agg #[.int .i64 x, .int .i64 y]) (dv_loads (l := [.int .i64 x, .int .i64 y]) agt41 sz41 (T rfl rfl) H24 rfl) ?_
  have H26 := (s23.blk (s18.blk (n13.ext.blk n8.blk) (by omega)) (by omega))
  refine lw_e (oe_store (v := .agg #[.int .i64 x, .int .i64 y]) (vs := [.int .i64 x, .int .i64 y]) (l := [.int .i64 x, .int .i64 y]) (T rfl rfl) (T rfl rfl) sz41 rfl rfl rfl H26 rfl ?_)
  intro w27 s28 H29
  have E30 := below_st E25 N9 s28
  refine lw_nil ?_
  refine rk_ret Try.func28 (v := .agg #[.int .i64 x, .int .i64 y]) (res1 Try.results28 (rv_cells (l := [.int .i64 x, .int .i64 y]) agt41 sz41 rfl rfl H29 rfl)) ⟨_, rfl, ?_⟩
  exact ⟨rfl, E30⟩

set_option maxHeartbeats 1000000 in
theorem eqPoint_ok {w : World} {u0 u1 u2 u3 u4 u5 u6 u7 u8 u9 u10 u11 v0 v1 v2 v3 v4 v5 v6 v7 v8 v9 v10 v11 : Int}  : Ct Try.prog 30 [.agg #[.int .u64 u0, .int .u64 u1, .int .u64 u2, .int .u64 u3, .int .u64 u4, .int .u64 u5, .int .u64 u6, .int .u64 u7, .int .u64 u8, .int .u64 u9, .int .u64 u10, .int .u64 u11], .agg #[.int .u64 v0, .int .u64 v1, .int .u64 v2, .int .u64 v3, .int .u64 v4, .int .u64 v5, .int .u64 v6, .int .u64 v7, .int .u64 v8, .int .u64 v9, .int .u64 v10, .int .u64 v11]] w fun v w1 => v = .bool (decide (u0 = v0 ∧ u1 = v1 ∧ u2 = v2 ∧ u3 = v3 ∧ u4 = v4 ∧ u5 = v5 ∧ u6 = v6 ∧ u7 = v7 ∧ u8 = v8 ∧ u9 = v9 ∧ u10 = v10 ∧ u11 = v11)) ∧ Ext w w1 := by
  refine ct_run (n := 23) Try.func30 rfl Try.ntmps30 rfl ?_
  have E0 : Below w.heap.size w w := Below.refl _ _
  refine rk_seq ?_
  refine rk_reg ?_
  refine lw_e (oe_box (v := .agg #[.int .u64 u0, .int .u64 u1, .int .u64 u2, .int .u64 u3, .int .u64 u4, .int .u64 u5, .int .u64 u6, .int .u64 u7, .int .u64 u8, .int .u64 u9, .int .u64 u10, .int .u64 u11]) (cs := #[.int .u64 u0, .int .u64 u1, .int .u64 u2, .int .u64 u3, .int .u64 u4, .int .u64 u5, .int .u64 u6, .int .u64 u7, .int .u64 u8, .int .u64 u9, .int .u64 u10, .int .u64 u11]) (T rfl rfl) rfl ?_)
  intro b1 w2 n3
  have N4 : w.heap.size ≤ b1 := n3.eq ▸ E0.size
  have E5 := below_ext E0 E0.size n3.ext
  refine lw_e (oe_box (v := .agg #[.int .u64 v0, .int .u64 v1, .int .u64 v2, .int .u64 v3, .int .u64 v4, .int .u64 v5, .int .u64 v6, .int .u64 v7, .int .u64 v8, .int .u64 v9, .int .u64 v10, .int .u64 v11]) (cs := #[.int .u64 v0, .int .u64 v1, .int .u64 v2, .int .u64 v3, .int .u64 v4, .int .u64 v5, .int .u64 v6, .int .u64 v7, .int .u64 v8, .int .u64 v9, .int .u64 v10, .int .u64 v11]) (T rfl rfl) rfl ?_)
  intro b6 w7 n8
  have N9 : w.heap.size ≤ b6 := n8.eq ▸ E5.size
  have : b1 < b6 := n8.eq ▸ lt_of_blk n3.blk
  have E10 := below_ext E5 E5.size n8.ext
  refine lw_v (.bool false) (dv_assign C) ?_
  refine lw_nil ?_
  refine rk_seq ?_
  refine rk_seq ?_
  refine rk_reg ?_
  refine lw_v (.pointer (some ⟨b1, 0, none⟩)) (dv_fieldAddr (a := ⟨b1, 0, none⟩) (a' := ⟨b1, 0, none⟩) fo39_0 (T rfl rfl) rfl) ?_
  have H11 := (n8.ext.blk n3.blk)
  refine lw_v (.agg #[.int .u64 u0, .int .u64 u1, .int .u64 u2, .int .u64 u3]) (dv_loads (l := [.int .u64 u0, .int .u64 u1, .int .u64 u2, .int .u64 u3]) agt26 sz26 (T rfl rfl) H11 rfl) ?_
  refine lw_v (.pointer (some ⟨b6, 0, none⟩)) (dv_fieldAddr (a := ⟨b6, 0, none⟩) (a' := ⟨b6, 0, none⟩) fo39_0 (T rfl rfl) rfl) ?_
  refine lw_v (.agg #[.int .u64 v0, .int .u64 v1, .int .u64 v2, .int .u64 v3]) (dv_loads (l := [.int .u64 v0, .int .u64 v1, .int .u64 v2, .int .u64 v3]) agt26 sz26 (T rfl rfl) n8.blk rfl) ?_
  refine lw_e (oe_callf (vs := [.agg #[.int .u64 u0, .int .u64 u1, .int .u64 u2, .int .u64 u3], .agg #[.int .u64 v0, .int .u64 v1, .int .u64 v2, .int .u64 v3]]) co24 (ar2 (T rfl rfl) (T rfl rfl)) (eqWide_ok ) ?_)
  rintro _ w12 ⟨rfl, e13⟩
  have E14 := below_ext E10 E10.size e13
  refine lw_v (.bool (decide (¬ (u0 = v0 ∧ u1 = v1 ∧ u2 = v2 ∧ u3 = v3)))) (dv_notd (p := u0 = v0 ∧ u1 = v1 ∧ u2 = v2 ∧ u3 = v3) (T rfl rfl)) ?_
  refine lw_nil ?_
  by_cases hb15 : u0 = v0 ∧ u1 = v1 ∧ u2 = v2 ∧ u3 = v3
  · -- T
    refine rk_cf (T rfl (congrArg Value.bool (decide_eq_false (not_not_intro hb15)))) ?_
    refine rk_skip ?_
    refine rk_seq ?_
    refine rk_seq ?_
    refine rk_reg ?_
    refine lw_v (.pointer (some ⟨b1, 4, none⟩)) (dv_fieldAddr (a := ⟨b1, 0, none⟩) (a' := ⟨b1, 4, none⟩) fo39_1 (T rfl rfl) rfl) ?_
    have H16 := (e13.blk H11)
    refine lw_v (.agg #[.int .u64 u4, .int .u64 u5, .int .u64 u6, .int .u64 u7]) (dv_loads (l := [.int .u64 u4, .int .u64 u5, .int .u64 u6, .int .u64 u7]) agt26 sz26 (T rfl rfl) H16 rfl) ?_
    refine lw_v (.pointer (some ⟨b6, 4, none⟩)) (dv_fieldAddr (a := ⟨b6, 0, none⟩) (a' := ⟨b6, 4, none⟩) fo39_1 (T rfl rfl) rfl) ?_
    have H17 := (e13.blk n8.blk)
    refine lw_v (.agg #[.int .u64 v4, .int .u64 v5, .int .u64 v6, .int .u64 v7]) (dv_loads (l := [.int .u64 v4, .int .u64 v5, .int .u64 v6, .int .u64 v7]) agt26 sz26 (T rfl rfl) H17 rfl) ?_
    refine lw_e (oe_callf (vs := [.agg #[.int .u64 u4, .int .u64 u5, .int .u64 u6, .int .u64 u7], .agg #[.int .u64 v4, .int .u64 v5, .int .u64 v6, .int .u64 v7]]) co24 (ar2 (T rfl rfl) (T rfl rfl)) (eqWide_ok ) ?_)
    rintro _ w18 ⟨rfl, e19⟩
    have E20 := below_ext E14 E14.size e19
    refine lw_v (.bool (decide (¬ (u4 = v4 ∧ u5 = v5 ∧ u6 = v6 ∧ u7 = v7)))) (dv_notd (p := u4 = v4 ∧ u5 = v5 ∧ u6 = v6 ∧ u7 = v7) (T rfl rfl)) ?_
    refine lw_nil ?_
    by_cases hb21 : u4 = v4 ∧ u5 = v5 ∧ u6 = v6 ∧ u7 = v7
    · -- TT
      refine rk_cf (T rfl (congrArg Value.bool (decide_eq_false (not_not_intro hb21)))) ?_
      refine rk_skip ?_
      refine rk_seq ?_
      refine rk_seq ?_
      refine rk_reg ?_
      refine lw_v (.pointer (some ⟨b1, 8, none⟩)) (dv_fieldAddr (a := ⟨b1, 0, none⟩) (a' := ⟨b1, 8, none⟩) fo39_2 (T rfl rfl) rfl) ?_
      have H22 := (e19.blk H16)
      refine lw_v (.agg #[.int .u64 u8, .int .u64 u9, .int .u64 u10, .int .u64 u11]) (dv_loads (l := [.int .u64 u8, .int .u64 u9, .int .u64 u10, .int .u64 u11]) agt26 sz26 (T rfl rfl) H22 rfl) ?_
      refine lw_v (.pointer (some ⟨b6, 8, none⟩)) (dv_fieldAddr (a := ⟨b6, 0, none⟩) (a' := ⟨b6, 8, none⟩) fo39_2 (T rfl rfl) rfl) ?_
      have H23 := (e19.blk H17)
      refine lw_v (.agg #[.int .u64 v8, .int .u64 v9, .int .u64 v10, .int .u64 v11]) (dv_loads (l := [.int .u64 v8, .int .u64 v9, .int .u64 v10, .int .u64 v11]) agt26 sz26 (T rfl rfl) H23 rfl) ?_
      refine lw_e (oe_callf (vs := [.agg #[.int .u64 u8, .int .u64 u9, .int .u64 u10, .int .u64 u11], .agg #[.int .u64 v8, .int .u64 v9, .int .u64 v10, .int .u64 v11]]) co24 (ar2 (T rfl rfl) (T rfl rfl)) (eqWide_ok ) ?_)
      rintro _ w24 ⟨rfl, e25⟩
      have E26 := below_ext E20 E20.size e25
      refine lw_v (.bool (decide (¬ (u8 = v8 ∧ u9 = v9 ∧ u10 = v10 ∧ u11 = v11)))) (dv_notd (p := u8 = v8 ∧ u9 = v9 ∧ u10 = v10 ∧ u11 = v11) (T rfl rfl)) ?_
      refine lw_nil ?_
      by_cases hb27 : u8 = v8 ∧ u9 = v9 ∧ u10 = v10 ∧ u11 = v11
      · -- TTT
        refine rk_cf (T rfl (congrArg Value.bool (decide_eq_false (not_not_intro hb27)))) ?_
        refine rk_skip ?_
        refine rk_seq ?_
        refine rk_reg ?_
        refine lw_v (.bool true) (dv_assign C) ?_
        refine lw_nil ?_
        refine rk_ret Try.func30 (v := .bool true) (res1 Try.results30 (rv_tmp rfl rfl)) ⟨_, rfl, ?_⟩
        exact ⟨(vt (by grind)), E26⟩
      · -- TTF
        refine rk_ct (T rfl (congrArg Value.bool (decide_eq_true hb27))) ?_
        refine rk_seq ?_
        refine rk_reg ?_
        refine lw_v (.bool false) (dv_assign C) ?_
        refine lw_nil ?_
        refine rk_ret Try.func30 (v := .bool false) (res1 Try.results30 (rv_tmp rfl rfl)) ⟨_, rfl, ?_⟩
        exact ⟨(vf (by grind)), E26⟩
    · -- TF
      refine rk_ct (T rfl (congrArg Value.bool (decide_eq_true hb21))) ?_
      refine rk_seq ?_
      refine rk_reg ?_
      refine lw_v (.bool false) (dv_assign C) ?_
      refine lw_nil ?_
      refine rk_ret Try.func30 (v := .bool false) (res1 Try.results30 (rv_tmp rfl rfl)) ⟨_, rfl, ?_⟩
      exact ⟨(vf (by grind)), E20⟩
  · -- F
    refine rk_ct (T rfl (congrArg Value.bool (decide_eq_true hb15))) ?_
    refine rk_seq ?_
    refine rk_reg ?_
    refine lw_v (.bool false) (dv_assign C) ?_
    refine lw_nil ?_
    refine rk_ret Try.func30 (v := .bool false) (res1 Try.results30 (rv_tmp rfl rfl)) ⟨_, rfl, ?_⟩
    exact ⟨(vf (by grind)), E14⟩

end Go.Proofs.Ytjahakhbdjadaaa.W
