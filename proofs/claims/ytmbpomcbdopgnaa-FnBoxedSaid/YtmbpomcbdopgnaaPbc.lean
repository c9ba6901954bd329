/- Walks and plain mathematics, packed by a program of this session: declarations that the rows reach. -/
import Derived.Test.YtmbpomcbdopgnaaRows
import Derived.Shelf.Small.Bits
import Derived.Shelf.Strconv.Itoa0
import Derived.Shelf.Bits.Mul64
import Derived.Ground.SlgnProg
import Derived.Shelf.SlicesE.Clone
import Derived.Test.YtmbpomcbdopgnaaProg
import Derived.Test.YtmbpomcbdopgnaaPbb
set_option linter.unusedVariables false
set_option linter.unusedSimpArgs false
namespace Go.Proofs.Ytmbpomcbdopgnaa.W
open Go Go.RowKit Go.Proofs.Ytmbpomcbdopgnaa.Fw
attribute [local irreducible] RunK LW AW DV OE Ct
theorem agt105 : aggB Try.prog 105 = some false := by kernel_rfl
theorem agt107 : aggB Try.prog 107 = some true := by kernel_rfl
theorem agt36 : aggB Try.prog 36 = some false := by kernel_rfl
theorem agt4 : aggB Try.prog 4 = some false := by kernel_rfl
theorem co103 : callOk Try.prog 103 = true := by kernel_rfl
theorem co114 : callOk Try.prog 114 = true := by kernel_rfl
theorem co117 : callOk Try.prog 117 = true := by kernel_rfl
theorem co118 : callOk Try.prog 118 = true := by kernel_rfl
theorem co119 : callOk Try.prog 119 = true := by kernel_rfl
theorem co120 : callOk Try.prog 120 = true := by kernel_rfl
theorem co139 : callOk Try.prog 139 = true := by kernel_rfl
theorem co73 : callOk Try.prog 73 = true := by kernel_rfl
theorem co74 : callOk Try.prog 74 = true := by kernel_rfl
theorem fo107_0 : fieldOffB Try.prog 107 0 = some 0 := by kernel_rfl
theorem fo107_1 : fieldOffB Try.prog 107 1 = some 1 := by kernel_rfl
theorem in36 : (Try.prog.info? 36).map (fun i => (i.zero, i.size, i.bytes)) = some (some (.int .u64 0), 1, 8) := by kernel_rfl
theorem mo : Try.prog.follows .mixedOrders = true := by kernel_rfl
theorem pl107 : placesB Try.prog 107 = some [(0, 1), (1, 1)] := by kernel_rfl
theorem sz107 : sizeB Try.prog 107 = some 2 := by kernel_rfl
theorem sz36 : sizeB Try.prog 36 = some 1 := by kernel_rfl
theorem ub4 : Try.prog.underlying 4 = some .bool := by kernel_rfl
theorem ui2 : Try.prog.underlying 2 = some (.int .i64) := by kernel_rfl
theorem ui36 : Try.prog.underlying 36 = some (.int .u64) := by kernel_rfl
theorem us105 : Try.prog.underlying 105 = some (.slice 36) := by kernel_rfl
theorem zc107 : zcB Try.prog 107 = some [.bool false, .slice none 0 0] := by kernel_rfl
theorem zc36 : zcB Try.prog 36 = some [.int .u64 0] := by kernel_rfl
theorem ze107 : zeroB Try.prog 107 = some #[.bool false, .slice none 0 0] := by kernel_rfl
set_option maxHeartbeats 1000000 in
theorem trim_ok {w : World} {A : Option Addr} {c : Nat} {xs : List Int} (hx : Wd w 36 .u64 A xs) (hc : xs.length ≤ c) (hL : xs.length ≤ 1000000) : Ct Try.prog 139 [.slice A (xs.length) c] w fun v w1 => v = .slice A (trimL xs).length c ∧ Ext w w1 := by
 refine ct_run (n := 21) Try.func139 rfl Try.ntmps139 rfl ?_
 have E0 : Below w.heap.size w w := Below.refl _ _
 refine rk_seq ?_
 refine rk_reg ?_
 refine lw_v (.slice none 0 0) (dv_assign C) ?_
 refine lw_nil ?_
 refine rk_seq ?_
 refine rk_block ?_
 refine rk_loop (fun dm_ fr wl => ∃ (n : Nat), dm_ = n ∧ fr 0 = .slice A n c ∧ fr 2 = .slice none 0 0 ∧ Below w.heap.size w wl ∧ (n ≤ xs.length) ∧ (trimL (xs.take n) = trimL xs)) (xs.length) ⟨xs.length, rfl, rfl, rfl, E0, (Nat.le_refl _), (by rw [List.take_of_length_le (Nat.le_refl _)])⟩ ?_
 intro d5 fr4 w1 hI2 ih3
 obtain ⟨n, hd9, f6, f7, E8, hn, ht⟩ := hI2
 refine rk_seq ?_
 refine rk_seq ?_
 refine rk_reg ?_
 refine lw_v (.slice A n c) (dv_move (T rfl f6)) ?_
 refine lw_v (.int .i64 ((n : Int))) (dv_len (ad := A) (l := n) (c := c) us105 (T rfl rfl)) ?_
 refine lw_v (.bool (decide (0 < ((n : Int))))) (dv_gtr (a := (n : Int)) (b := 0) (T rfl rfl) C) ?_
 refine lw_v (.bool (decide (0 < ((n : Int))))) (dv_move (T rfl rfl)) ?_
 by_cases hb10 : 0 < ((n : Int))
 · refine lw_vy (.slice A n c) (d := 6) rfl rfl (congrArg Value.bool (decide_eq_true hb10)) (dv_move (T rfl f6)) ?_
   refine lw_vy (.slice A n c) (d := 6) rfl rfl (congrArg Value.bool (decide_eq_true hb10)) (dv_move (T rfl f6)) ?_
   refine lw_vy (.int .i64 ((n : Int))) (d := 6) rfl rfl (congrArg Value.bool (decide_eq_true hb10)) (dv_len (ad := A) (l := n) (c := c) us105 (T rfl rfl)) ?_
   refine lw_vy (.int .i64 (((n : Int)) - 1)) (d := 6) rfl rfl (congrArg Value.bool (decide_eq_true hb10)) (dv_sub (a := (n : Int)) (b := 1) (z := ((n : Int)) - 1) (T rfl rfl) C (wr_i64 (by omega) (by omega))) ?_
   have h11 := ((hx.take n).ext E8)
   obtain ⟨g12, o13, rfl⟩ := Wd.at h11 (by first | omega | (simp; done) | (simp; omega))
   refine lw_vy (.pointer (some ⟨g12, o13 + ((n) - 1), none⟩)) (d := 6) rfl rfl (congrArg Value.bool (decide_eq_true hb10)) (dv_indexW (g := g12) (o := o13) (l := n) (c := c) (i := ((n) - 1)) (j := ((n : Int)) - 1) us105 sz36 (T rfl rfl) (T rfl rfl) (by omega) (by first | omega | (simp; done) | (simp; omega))) ?_
   refine lw_vy (.int .u64 (((xs.take n)).getD (((n) - 1)) 0)) (d := 6) rfl rfl (congrArg Value.bool (decide_eq_true hb10)) (dv_load agt36 (T rfl rfl) (Wd.cell h11 (by first | omega | (simp; done) | (simp; omega)))) ?_
   refine lw_vy (.bool (decide ((((xs.take n)).getD (((n) - 1)) 0) = 0))) (d := 6) rfl rfl (congrArg Value.bool (decide_eq_true hb10)) (dv_eql (a := ((xs.take n)).getD (((n) - 1)) 0) (b := 0) (T rfl rfl) C) ?_
   refine lw_v (.bool (decide ((((xs.take n)).getD (((n) - 1)) 0) = 0))) (dv_pick_t (T rfl (congrArg Value.bool (decide_eq_true hb10))) (T rfl rfl)) ?_
   refine lw_nil ?_
   by_cases hb14 : (((xs.take n)).getD (((n) - 1)) 0) = 0
   · refine rk_ct (T rfl (congrArg Value.bool (decide_eq_true hb14))) ?_
     refine rk_skip ?_
     refine rk_block ?_
     refine rk_reg ?_
     refine lw_v (.slice (some ⟨g12, o13, none⟩) n c) (dv_move (T rfl f6)) ?_
     refine lw_v (.slice (some ⟨g12, o13, none⟩) n c) (dv_move (T rfl f6)) ?_
     refine lw_v (.int .i64 ((n : Int))) (dv_len (ad := (some ⟨g12, o13, none⟩)) (l := n) (c := c) us105 (T rfl rfl)) ?_
     refine lw_v (.int .i64 (((n : Int)) - 1)) (dv_sub (a := (n : Int)) (b := 1) (z := ((n : Int)) - 1) (T rfl rfl) C (wr_i64 (by omega) (by omega))) ?_
     refine lw_v (.slice (some ⟨g12, o13, none⟩) (((n) - 1)) c) (dv_sliceH (ad := (some ⟨g12, o13, none⟩)) (l := n) (c := c) (i := ((n) - 1)) (j := ((n : Int)) - 1) us105 sz36 (T rfl rfl) (T rfl rfl) (by omega) (by first | omega | (simp; done) | (simp; omega))) ?_
     refine lw_v (.slice (some ⟨g12, o13, none⟩) (((n) - 1)) c) (dv_assign (T rfl rfl)) ?_
     refine lw_nil ?_
     refine rk_inBlock ?_
     exact ih3 (((n - 1))) _ _ (by rw [hd9]; omega) ⟨(n - 1), rfl, rfl, f7, E8, (by omega), (by rw [← ht, trim_less xs n (by omega) hn (by first | assumption | simpa using ‹_›)])⟩
   · refine rk_cf (T rfl (congrArg Value.bool (decide_eq_false hb14))) ?_
     refine rk_exit rfl ?_
     refine rk_seq ?_
     refine rk_reg ?_
     refine lw_v (.slice (some ⟨g12, o13, none⟩) n c) (dv_move (T rfl f6)) ?_
     refine lw_v (.slice (some ⟨g12, o13, none⟩) n c) (dv_assign (T rfl rfl)) ?_
     refine lw_nil ?_
     refine rk_ret Try.func139 (v := .slice (some ⟨g12, o13, none⟩) n c) (res1 Try.results139 (rv_tmp rfl rfl)) ⟨_, rfl, ?_⟩
     exact ⟨by rw [trim_done xs n hn ht (by first | (left; omega) | (right; assumption))], E8⟩
 · refine lw_no (d := 6) rfl rfl (congrArg Value.bool (decide_eq_false hb10)) ?_
   refine lw_no (d := 6) rfl rfl (congrArg Value.bool (decide_eq_false hb10)) ?_
   refine lw_no (d := 6) rfl rfl (congrArg Value.bool (decide_eq_false hb10)) ?_
   refine lw_no (d := 6) rfl rfl (congrArg Value.bool (decide_eq_false hb10)) ?_
   refine lw_no (d := 6) rfl rfl (congrArg Value.bool (decide_eq_false hb10)) ?_
   refine lw_no (d := 6) rfl rfl (congrArg Value.bool (decide_eq_false hb10)) ?_
   refine lw_no (d := 6) rfl rfl (congrArg Value.bool (decide_eq_false hb10)) ?_
   refine lw_v (.bool false) (dv_pick_f (T rfl (congrArg Value.bool (decide_eq_false hb10))) C) ?_
   refine lw_nil ?_
   refine rk_cf (T rfl rfl) ?_
   refine rk_exit rfl ?_
   refine rk_seq ?_
   refine rk_reg ?_
   refine lw_v (.slice A n c) (dv_move (T rfl f6)) ?_
   refine lw_v (.slice A n c) (dv_assign (T rfl rfl)) ?_
   refine lw_nil ?_
   refine rk_ret Try.func139 (v := .slice A n c) (res1 Try.results139 (rv_tmp rfl rfl)) ⟨_, rfl, ?_⟩
   exact ⟨by rw [trim_done xs n hn ht (by first | (left; omega) | (right; assumption))], E8⟩
theorem trim_okl {w : World} {A : Option Addr} {l c : Nat} {xs : List Int} (hx : Wd w 36 .u64 A xs) (hc : l ≤ c) (hL : l ≤ 1000000) (hl : xs.length = l) : Ct Try.prog 139 [.slice A l c] w fun v w1 =>
 v = .slice A (trimL xs).length c ∧ Ext w w1 := by
 subst hl
 exact trim_ok hx hc hL
set_option maxHeartbeats 1000000 in
theorem cmpWords_ok {w : World} {A D : Option Addr} {c d : Nat} {xs ys : List Int} (hx : Wd w 36 .u64 A xs) (hy : Wd w 36 .u64 D ys) (ox : okW (2 ^ 64) xs) (oy : okW (2 ^ 64) ys) (cx : canon xs) (cy : canon ys) (lx : xs.length ≤ 1000000) (ly : ys.length ≤ 1000000) : Ct Try.prog 119 [.slice A (xs.length) c, .slice D (ys.length) d] w fun v w1 => ∃ r : Int, v = .int .i64 r ∧ Ext w w1 ∧ cmpR r (valB (2 ^ 64) xs) (valB (2 ^ 64) ys) := by
 refine ct_run (n := 41) Try.func119 rfl Try.ntmps119 rfl ?_
 have E0 : Below w.heap.size w w := Below.refl _ _
 refine rk_seq ?_
 refine rk_reg ?_
 refine lw_v (.int .i64 0) (dv_assign C) ?_
 refine lw_nil ?_
 refine rk_seq ?_
 refine rk_seq ?_
 refine rk_reg ?_
 refine lw_v (.slice A (xs.length) c) (dv_move (T rfl rfl)) ?_
 refine lw_v (.int .i64 ((xs.length : Int))) (dv_len (ad := A) (l := xs.length) (c := c) us105 (T rfl rfl)) ?_
 refine lw_v (.slice D (ys.length) d) (dv_move (T rfl rfl)) ?_
 refine lw_v (.int .i64 ((ys.length : Int))) (dv_len (ad := D) (l := ys.length) (c := d) us105 (T rfl rfl)) ?_
 refine lw_v (.bool (decide (((xs.length : Int)) ≠ ((ys.length : Int))))) (dv_neq (a := (xs.length : Int)) (b := (ys.length : Int)) (T rfl rfl) (T rfl rfl)) ?_
 refine lw_nil ?_
 by_cases hb1 : ((xs.length : Int)) ≠ ((ys.length : Int))
 · refine rk_ct (T rfl (congrArg Value.bool (decide_eq_true hb1))) ?_
   refine rk_seq ?_
   refine rk_reg ?_
   refine lw_v (.slice A (xs.length) c) (dv_move (T rfl rfl)) ?_
   refine lw_v (.int .i64 ((xs.length : Int))) (dv_len (ad := A) (l := xs.length) (c := c) us105 (T rfl rfl)) ?_
   refine lw_v (.slice D (ys.length) d) (dv_move (T rfl rfl)) ?_
   refine lw_v (.int .i64 ((ys.length : Int))) (dv_len (ad := D) (l := ys.length) (c := d) us105 (T rfl rfl)) ?_
   refine lw_v (.int .i64 (((xs.length : Int)) - ((ys.length : Int)))) (dv_sub (a := (xs.length : Int)) (b := (ys.length : Int)) (z := ((xs.length : Int)) - ((ys.length : Int))) (T rfl rfl) (T rfl rfl) (wr_i64 (by omega) (by omega))) ?_
   refine lw_v (.int .i64 (((xs.length : Int)) - ((ys.length : Int)))) (dv_assign (T rfl rfl)) ?_
   refine lw_nil ?_
   refine rk_ret Try.func119 (v := .int .i64 (((xs.length : Int)) - ((ys.length : Int)))) (res1 Try.results119 (rv_tmp rfl rfl)) ⟨_, rfl, ?_⟩
   exact ⟨_, rfl, E0, cmp_len (by decide) ox oy cx cy (by omega)⟩
 · refine rk_cf (T rfl (congrArg Value.bool (decide_eq_false hb1))) ?_
   refine rk_skip ?_
   refine rk_seq ?_
   refine rk_seq ?_
   refine rk_reg ?_
   refine lw_v (.slice A (xs.length) c) (dv_move (T rfl rfl)) ?_
   refine lw_v (.int .i64 ((xs.length : Int))) (dv_len (ad := A) (l := xs.length) (c := c) us105 (T rfl rfl)) ?_
   refine lw_v (.int .i64 (((xs.length : Int)) - 1)) (dv_sub (a := (xs.length : Int)) (b := 1) (z := ((xs.length : Int)) - 1) (T rfl rfl) C (wr_i64 (by omega) (by omega))) ?_
   refine lw_v (.int .i64 (((xs.length : Int)) - 1)) (dv_assign (T rfl rfl)) ?_
   refine lw_nil ?_
   refine rk_block ?_
   refine rk_loop (fun dm_ fr wl => ∃ (n : Nat), dm_ = n ∧ fr 0 = .slice A (xs.length) c ∧ fr 1 = .slice D (ys.length) d ∧ fr 5 = .int .i64 ((n : Int) - 1) ∧ Below w.heap.size w wl ∧ (n ≤ xs.length) ∧ (xs.drop n = ys.drop n)) (xs.length) ⟨xs.length, rfl, rfl, rfl, (vi (by omega)), E0, (Nat.le_refl _), (by rw [List.drop_of_length_le (Nat.le_refl _), List.drop_of_length_le (by omega)])⟩ ?_
   intro d6 fr5 w2 hI3 ih4
   obtain ⟨n, hd11, f7, f8, f9, E10, hn, hd⟩ := hI3
   refine rk_seq ?_
   refine rk_seq ?_
   refine rk_reg ?_
   refine lw_v (.int .i64 ((n : Int) - 1)) (dv_move (T rfl f9)) ?_
   refine lw_v (.bool (decide (0 ≤ ((n : Int) - 1)))) (dv_geq (a := (n : Int) - 1) (b := 0) (T rfl rfl) C) ?_
   refine lw_nil ?_
   by_cases hb12 : 0 ≤ ((n : Int) - 1)
   · refine rk_ct (T rfl (congrArg Value.bool (decide_eq_true hb12))) ?_
     refine rk_skip ?_
     refine rk_seq ?_
     refine rk_block ?_
     refine rk_seq ?_
     have h13 := (hx.ext E10)
     have h14 := (hy.ext E10)
     refine rk_any (fun w => Wd w 36 .u64 A xs ∧ Wd w 36 .u64 D ys) [] mo ?_
     intro w15 d16
     have E17 := below_ext E10 E10.size d16.ext
     have h18 := (h13.ext d16.ext)
     have h19 := (h14.ext d16.ext)
     refine aw_pure 0 (.slice A (xs.length) c) rfl (by kernel_rfl) .none ⟨h18, h19⟩ (fun _ => dv_move (T rfl f7)) ?_
     refine aw_pure 1 (.int .i64 ((n : Int) - 1)) rfl (by kernel_rfl) .none ⟨h18, h19⟩ (fun _ => dv_move (T rfl f9)) ?_
     obtain ⟨g20, o21, rfl⟩ := Wd.at h18 (by omega)
     refine aw_pure 2 (.pointer (some ⟨g20, o21 + (n - 1), none⟩)) rfl (by kernel_rfl) .none ⟨h18, h19⟩ (fun _ => dv_indexW (g := g20) (o := o21) (l := xs.length) (c := c) (i := (n - 1)) (j := (n : Int) - 1) us105 sz36 (T rfl rfl) (T rfl rfl) (by omega) (by omega)) ?_
     refine aw_load 3 (.int .u64 (xs.getD ((n - 1)) 0)) rfl (by kernel_rfl) .none ⟨h18, h19⟩ (fun _ s => dv_load agt36 (T rfl rfl) (Wd.cell s.1 (by omega))) ?_
     refine aw_pure 4 (.slice D (ys.length) d) rfl (by kernel_rfl) .none ⟨h18, h19⟩ (fun _ => dv_move (T rfl f8)) ?_
     refine aw_pure 5 (.int .i64 ((n : Int) - 1)) rfl (by kernel_rfl) .none ⟨h18, h19⟩ (fun _ => dv_move (T rfl f9)) ?_
     obtain ⟨g22, o23, rfl⟩ := Wd.at h19 (by omega)
     refine aw_pure 6 (.pointer (some ⟨g22, o23 + (n - 1), none⟩)) rfl (by kernel_rfl) .none ⟨h18, h19⟩ (fun _ => dv_indexW (g := g22) (o := o23) (l := ys.length) (c := d) (i := (n - 1)) (j := (n : Int) - 1) us105 sz36 (T rfl rfl) (T rfl rfl) (by omega) (by omega)) ?_
     refine aw_load 7 (.int .u64 (ys.getD ((n - 1)) 0)) rfl (by kernel_rfl) .none ⟨h18, h19⟩ (fun _ s => dv_load agt36 (T rfl rfl) (Wd.cell s.2 (by omega))) ?_
     refine aw_pure 8 (.bool (decide ((xs.getD ((n - 1)) 0) ≠ (ys.getD ((n - 1)) 0)))) rfl (by kernel_rfl) .none ⟨h18, h19⟩ (fun _ => dv_neq (a := xs.getD ((n - 1)) 0) (b := ys.getD ((n - 1)) 0) (T rfl rfl) (T rfl rfl)) ?_
     refine aw_done (by kernel_rfl) ?_
     by_cases hb24 : (xs.getD ((n - 1)) 0) ≠ (ys.getD ((n - 1)) 0)
     · refine rk_ct (T rfl (congrArg Value.bool (decide_eq_true hb24))) ?_
       refine rk_seq ?_
       refine rk_seq ?_
       refine rk_any (fun w => Wd w 36 .u64 (some ⟨g20, o21, none⟩) xs ∧ Wd w 36 .u64 (some ⟨g22, o23, none⟩) ys) [] mo ?_
       intro w25 d26
       have E27 := below_ext E17 E17.size d26.ext
       have h28 := (h18.ext d26.ext)
       have h29 := (h19.ext d26.ext)
       refine aw_pure 0 (.slice (some ⟨g20, o21, none⟩) (xs.length) c) rfl (by kernel_rfl) .none ⟨h28, h29⟩ (fun _ => dv_move (T rfl f7)) ?_
       refine aw_pure 1 (.int .i64 ((n : Int) - 1)) rfl (by kernel_rfl) .none ⟨h28, h29⟩ (fun _ => dv_move (T rfl f9)) ?_
       refine aw_pure 2 (.pointer (some ⟨g20, o21 + (n - 1), none⟩)) rfl (by kernel_rfl) .none ⟨h28, h29⟩ (fun _ => dv_indexW (g := g20) (o := o21) (l := xs.length) (c := c) (i := (n - 1)) (j := (n : Int) - 1) us105 sz36 (T rfl rfl) (T rfl rfl) (by omega) (by omega)) ?_
       refine aw_load 3 (.int .u64 (xs.getD ((n - 1)) 0)) rfl (by kernel_rfl) .none ⟨h28, h29⟩ (fun _ s => dv_load agt36 (T rfl rfl) (Wd.cell s.1 (by omega))) ?_
       refine aw_pure 4 (.slice (some ⟨g22, o23, none⟩) (ys.length) d) rfl (by kernel_rfl) .none ⟨h28, h29⟩ (fun _ => dv_move (T rfl f8)) ?_
       refine aw_pure 5 (.int .i64 ((n : Int) - 1)) rfl (by kernel_rfl) .none ⟨h28, h29⟩ (fun _ => dv_move (T rfl f9)) ?_
       refine aw_pure 6 (.pointer (some ⟨g22, o23 + (n - 1), none⟩)) rfl (by kernel_rfl) .none ⟨h28, h29⟩ (fun _ => dv_indexW (g := g22) (o := o23) (l := ys.length) (c := d) (i := (n - 1)) (j := (n : Int) - 1) us105 sz36 (T rfl rfl) (T rfl rfl) (by omega) (by omega)) ?_
       refine aw_load 7 (.int .u64 (ys.getD ((n - 1)) 0)) rfl (by kernel_rfl) .none ⟨h28, h29⟩ (fun _ s => dv_load agt36 (T rfl rfl) (Wd.cell s.2 (by omega))) ?_
       refine aw_pure 8 (.bool (decide ((xs.getD ((n - 1)) 0) < (ys.getD ((n - 1)) 0)))) rfl (by kernel_rfl) .none ⟨h28, h29⟩ (fun _ => dv_lss (a := xs.getD ((n - 1)) 0) (b := ys.getD ((n - 1)) 0) (T rfl rfl) (T rfl rfl)) ?_
       refine aw_done (by kernel_rfl) ?_
       by_cases hb30 : (xs.getD ((n - 1)) 0) < (ys.getD ((n - 1)) 0)
       · refine rk_ct (T rfl (congrArg Value.bool (decide_eq_true hb30))) ?_
         refine rk_seq ?_
         refine rk_reg ?_
         refine lw_v (.int .i64 (-1)) (dv_assign C) ?_
         refine lw_nil ?_
         refine rk_ret Try.func119 (v := .int .i64 (-1)) (res1 Try.results119 (rv_tmp rfl rfl)) ⟨_, rfl, ?_⟩
         exact ⟨_, rfl, E27, ⟨by have := cmp_word (by decide) ox oy n (by omega) (by omega) (by omega) hd (by assumption); omega, by have := cmp_word (by decide) ox oy n (by omega) (by omega) (by omega) hd (by assumption); omega⟩⟩
       · refine rk_cf (T rfl (congrArg Value.bool (decide_eq_false hb30))) ?_
         refine rk_skip ?_
         refine rk_seq ?_
         refine rk_reg ?_
         refine lw_v (.int .i64 1) (dv_assign C) ?_
         refine lw_nil ?_
         refine rk_ret Try.func119 (v := .int .i64 1) (res1 Try.results119 (rv_tmp rfl rfl)) ⟨_, rfl, ?_⟩
         exact ⟨_, rfl, E27, ⟨by have := cmp_word (by decide) oy ox n (by omega) (by omega) (by omega) hd.symm (by omega); omega, by have := cmp_word (by decide) oy ox n (by omega) (by omega) (by omega) hd.symm (by omega); omega⟩⟩
     · refine rk_cf (T rfl (congrArg Value.bool (decide_eq_false hb24))) ?_
       refine rk_skip ?_
       refine rk_inBlock ?_
       refine rk_reg ?_
       refine lw_v (.int .i64 ((n : Int) - 1)) (dv_move (T rfl f9)) ?_
       refine lw_v (.int .i64 (((n : Int) - 1) - 1)) (dv_sub (a := (n : Int) - 1) (b := 1) (z := ((n : Int) - 1) - 1) (T rfl rfl) C (wr_i64 (by omega) (by omega))) ?_
       refine lw_v (.int .i64 (((n : Int) - 1) - 1)) (dv_assign (T rfl rfl)) ?_
       refine lw_nil ?_
       exact ih4 (((n - 1))) _ _ (by rw [hd11]; omega) ⟨(n - 1), rfl, f7, f8, (vi (by omega)), E17, (by omega), (drop_step xs ys n (by omega) (by omega) (by omega) hd (by omega))⟩
   · refine rk_cf (T rfl (congrArg Value.bool (decide_eq_false hb12))) ?_
     refine rk_exit rfl ?_
     refine rk_seq ?_
     refine rk_reg ?_
     refine lw_v (.int .i64 0) (dv_assign C) ?_
     refine lw_nil ?_
     refine rk_ret Try.func119 (v := .int .i64 0) (res1 Try.results119 (rv_tmp rfl rfl)) ⟨_, rfl, ?_⟩
     exact ⟨_, rfl, E10, (cmp_same (by have hn0 : n = 0 := (by omega); subst hn0; simpa using hd))⟩
theorem cmpWords_wc {w : World} {A D : Option Addr} {l c l' d : Nat} {x y : Int} (h : Wc 64 36 .u64 w A l c x) (h' : Wc 64 36 .u64 w D l' d y) (hl : l ≤ 1000000) (hl' : l' ≤ 1000000) : Ct Try.prog 119 [.slice A l c, .slice D l' d] w fun v w1 =>
 ∃ r : Int, v = .int .i64 r ∧ Ext w w1 ∧ cmpR r x y := by
 obtain ⟨xs, rfl, hc, hw, ho, hk, rfl⟩ := h
 obtain ⟨ys, rfl, hc', hw', ho', hk', rfl⟩ := h'
 exact cmpWords_ok hw hw' ho ho' hk hk' hl hl'
set_option maxHeartbeats 1000000 in
theorem made_ok {w : World} {neg : Bool} {A : Option Addr} {c : Nat} {xs : List Int} (hx : Wd w 36 .u64 A xs) (hc : xs.length ≤ c) (hL : xs.length ≤ 1000000)  : Ct Try.prog 114 [.bool neg, .slice A (xs.length) c] w fun v w1 => v = .agg #[.bool (neg && decide (0 < ((trimL xs).length : Int))), .slice A ((trimL xs).length) c] ∧ Ext w w1 := by
 refine ct_run (n := 15) Try.func114 rfl Try.ntmps114 rfl ?_
 have E0 : Below w.heap.size w w := Below.refl _ _
 refine rk_seq ?_
 refine rk_reg ?_
 refine lw_e (oe_alloc ze107 ?_)
 intro b1 w2 n3
 have N4 : w.heap.size ≤ b1 := n3.eq ▸ E0.size
 have E5 := below_ext E0 E0.size n3.ext
 refine lw_nil ?_
 refine rk_seq ?_
 refine rk_reg ?_
 refine lw_v (.slice A (xs.length) c) (dv_move (T rfl rfl)) ?_
 have h6 := (hx.ext n3.ext)
 refine lw_e (oe_callf (vs := [.slice A (xs.length) c]) co139 (ar1 (T rfl rfl)) (trim_okl h6 (by omega) (by omega) (by first | rfl | first | (simp; done) | (simp; omega) | omega)) ?_)
 rintro _ w7 ⟨rfl, e8⟩
 have E9 := below_ext E5 E5.size e8
 refine lw_v (.slice A ((trimL xs).length) c) (dv_assign (T rfl rfl)) ?_
 refine lw_nil ?_
 refine rk_seq ?_
 refine rk_reg ?_
 refine lw_v (.bool neg) (dv_move (T rfl rfl)) ?_
 refine lw_v (.bool neg) (dv_move (T rfl rfl)) ?_
 rcases Bool.eq_false_or_eq_true (neg) with hb10 | hb10
 · refine lw_vy (.slice A ((trimL xs).length) c) (d := 8) rfl rfl (congrArg Value.bool hb10) (dv_move (T rfl rfl)) ?_
   refine lw_vy (.int .i64 (((trimL xs).length : Int))) (d := 8) rfl rfl (congrArg Value.bool hb10) (dv_len (ad := A) (l := (trimL xs).length) (c := c) us105 (T rfl rfl)) ?_
   refine lw_vy (.bool (decide (0 < (((trimL xs).length : Int))))) (d := 8) rfl rfl (congrArg Value.bool hb10) (dv_gtr (a := ((trimL xs).length : Int)) (b := 0) (T rfl rfl) C) ?_
   refine lw_v (.bool (decide (0 < (((trimL xs).length : Int))))) (dv_pick_t (T rfl (congrArg Value.bool hb10)) (T rfl rfl)) ?_
   refine lw_v (.slice A ((trimL xs).length) c) (dv_move (T rfl rfl)) ?_
   refine lw_v (.agg #[.bool (decide (0 < (((trimL xs).length : Int)))), .slice A ((trimL xs).length) c]) (dv_build (pv := [(0, .bool (decide (0 < (((trimL xs).length : Int))))), (1, .slice A ((trimL xs).length) c)]) (l := [.bool (decide (0 < (((trimL xs).length : Int)))), .slice A ((trimL xs).length) c]) zc107 pl107 ⟨rfl, (T rfl rfl), ⟨rfl, (T rfl rfl), trivial⟩⟩ rfl) ?_
   have H11 := (e8.blk n3.blk)
   refine lw_e (oe_store (v := .agg #[.bool (decide (0 < (((trimL xs).length : Int)))), .slice A ((trimL xs).length) c]) (vs := [.bool (decide (0 < (((trimL xs).length : Int)))), .slice A ((trimL xs).length) c]) (l := [.bool (decide (0 < (((trimL xs).length : Int)))), .slice A ((trimL xs).length) c]) (T rfl rfl) (T rfl rfl) sz107 rfl rfl rfl H11 rfl ?_)
   intro w12 s13 H14
   have E15 := below_st E9 N4 s13
   refine lw_nil ?_
   refine rk_ret Try.func114 (v := .agg #[.bool (decide (0 < (((trimL xs).length : Int)))), .slice A ((trimL xs).length) c]) (res1 Try.results114 (rv_cells (l := [.bool (decide (0 < (((trimL xs).length : Int)))), .slice A ((trimL xs).length) c]) agt107 sz107 rfl rfl H14 rfl)) ⟨_, rfl, ?_⟩
   exact ⟨(ag2 (congrArg Value.bool (by simp [*])) rfl), E15⟩
 · refine lw_no (d := 8) rfl rfl (congrArg Value.bool hb10) ?_
   refine lw_no (d := 8) rfl rfl (congrArg Value.bool hb10) ?_
   refine lw_no (d := 8) rfl rfl (congrArg Value.bool hb10) ?_
   refine lw_v (.bool false) (dv_pick_f (T rfl (congrArg Value.bool hb10)) C) ?_
   refine lw_v (.slice A ((trimL xs).length) c) (dv_move (T rfl rfl)) ?_
   refine lw_v (.agg #[.bool false, .slice A ((trimL xs).length) c]) (dv_build (pv := [(0, .bool false), (1, .slice A ((trimL xs).length) c)]) (l := [.bool false, .slice A ((trimL xs).length) c]) zc107 pl107 ⟨rfl, (T rfl rfl), ⟨rfl, (T rfl rfl), trivial⟩⟩ rfl) ?_
   have H16 := (e8.blk n3.blk)
   refine lw_e (oe_store (v := .agg #[.bool false, .slice A ((trimL xs).length) c]) (vs := [.bool false, .slice A ((trimL xs).length) c]) (l := [.bool false, .slice A ((trimL xs).length) c]) (T rfl rfl) (T rfl rfl) sz107 rfl rfl rfl H16 rfl ?_)
   intro w17 s18 H19
   have E20 := below_st E9 N4 s18
   refine lw_nil ?_
   refine rk_ret Try.func114 (v := .agg #[.bool false, .slice A ((trimL xs).length) c]) (res1 Try.results114 (rv_cells (l := [.bool false, .slice A ((trimL xs).length) c]) agt107 sz107 rfl rfl H19 rfl)) ⟨_, rfl, ?_⟩
   exact ⟨(ag2 (congrArg Value.bool (by simp [*])) rfl), E20⟩
theorem made_num {w : World} {neg : Bool} {A : Option Addr} {l c s : Nat} {x : Int} (h : Ws 64 36 .u64 w A l c x) (hl : l ≤ 1000000) (hs : x < 2 ^ s) : Ct Try.prog 114 [.bool neg, .slice A l c] w fun v w1 =>
 ∃ nb n, v = .agg #[.bool nb, .slice A n c] ∧ Ext w w1 ∧ Num 64 36 .u64 w1 nb A n c (sg neg x) s := by
 obtain ⟨xs, rfl, hc, hw, ho, hv⟩ := h
 refine (made_ok (neg := neg) hw hc hl).mono fun v w1 ⟨h1, h2⟩ => ⟨_, _, h1, h2, ?_⟩
 have hc' := trimL_canon xs
 have hcp := canon_pos (B := 2 ^ 64) (by decide) (trimL_ok ho) hc'
 rw [trimL_val, ← hv] at hcp
 refine Wc.num ⟨trimL xs, rfl, Nat.le_trans (trimL_len xs) hc, (hw.ext h2).trim, trimL_ok ho, hc', by rw [hv, trimL_val]⟩ (fun hn => ?_) ?_ hs
 · simp only [Bool.and_eq_true, decide_eq_true_eq] at hn
   omega
 · by_cases hz : 0 < (trimL xs).length
   · simp [hz]
   · have hx0 : x = 0 := by
      have := valB_nonneg (B := 2 ^ 64) (by decide) ho
      omega
     subst hx0
     cases neg <;> simp [sg, hz]
set_option maxHeartbeats 1000000 in
theorem addWords_ok {w : World} {A D : Option Addr} {c d : Nat} {xs ys : List Int} (hx : Wd w 36 .u64 A xs) (hy : Wd w 36 .u64 D ys) (hc : xs.length ≤ c) (hd : ys.length ≤ d) (ox : okW (2 ^ 64) xs) (oy : okW (2 ^ 64) ys) (lx : xs.length ≤ 500000) (ly : ys.length ≤ 500000) : Ct Try.prog 118 [.slice A (xs.length) c, .slice D (ys.length) d] w fun v w1 => ∃ A' n c', v = .slice A' n c' ∧ Ext w w1 ∧ Wc 64 36 .u64 w1 A' n c' (valB (2 ^ 64) xs + valB (2 ^ 64) ys) := by
 refine ct_run (n := 54) Try.func118 rfl Try.ntmps118 rfl ?_
 have E0 : Below w.heap.size w w := Below.refl _ _
 refine rk_seq ?_
 refine rk_reg ?_
 refine lw_v (.slice none 0 0) (dv_assign C) ?_
 refine lw_nil ?_
 refine rk_seq ?_
 refine rk_seq ?_
 refine rk_reg ?_
 refine lw_v (.slice A (xs.length) c) (dv_move (T rfl rfl)) ?_
 refine lw_v (.int .i64 ((xs.length : Int))) (dv_len (ad := A) (l := xs.length) (c := c) us105 (T rfl rfl)) ?_
 refine lw_v (.slice D (ys.length) d) (dv_move (T rfl rfl)) ?_
 refine lw_v (.int .i64 ((ys.length : Int))) (dv_len (ad := D) (l := ys.length) (c := d) us105 (T rfl rfl)) ?_
 refine lw_v (.bool (decide (((xs.length : Int)) < ((ys.length : Int))))) (dv_lss (a := (xs.length : Int)) (b := (ys.length : Int)) (T rfl rfl) (T rfl rfl)) ?_
 refine lw_nil ?_
 by_cases hb1 : ((xs.length : Int)) < ((ys.length : Int))
 · refine rk_ct (T rfl (congrArg Value.bool (decide_eq_true hb1))) ?_
   refine rk_reg ?_
   refine lw_v (.slice D (ys.length) d) (dv_move (T rfl rfl)) ?_
   refine lw_v (.slice A (xs.length) c) (dv_move (T rfl rfl)) ?_
   refine lw_v (.slice D (ys.length) d) (dv_assign (T rfl rfl)) ?_
   refine lw_v (.slice A (xs.length) c) (dv_assign (T rfl rfl)) ?_
   refine lw_nil ?_
   refine rk_seq ?_
   refine rk_reg ?_
   refine lw_v (.slice D (ys.length) d) (dv_move (T rfl rfl)) ?_
   refine lw_v (.int .i64 ((ys.length : Int))) (dv_len (ad := D) (l := ys.length) (c := d) us105 (T rfl rfl)) ?_
   refine lw_v (.int .i64 (((ys.length : Int)) + 1)) (dv_add (a := (ys.length : Int)) (b := 1) (z := ((ys.length : Int)) + 1) (T rfl rfl) C (wr_i64 (by omega) (by omega))) ?_
   refine lw_e (oe_makeW (l := ((ys.length) + 1)) (j := ((ys.length : Int)) + 1) us105 in36 (T rfl rfl) (T rfl rfl) (by omega) (by omega) (by omega) ?_)
   intro b2 w3 n4
   have N5 : w.heap.size ≤ b2 := n4.eq ▸ E0.size
   have E6 := below_ext E0 E0.size n4.ext
   refine lw_v (.slice (some ⟨b2, 0, none⟩) (((ys.length) + 1)) (((ys.length) + 1))) (dv_assign (T rfl rfl)) ?_
   refine lw_v (.int .u64 0) (dv_assign C) ?_
   refine lw_nil ?_
   refine rk_seq ?_
   refine rk_seq ?_
   refine rk_reg ?_
   refine lw_v (.slice D (ys.length) d) (dv_move (T rfl rfl)) ?_
   refine lw_v (.int .i64 ((ys.length : Int))) (dv_len (ad := D) (l := ys.length) (c := d) us105 (T rfl rfl)) ?_
   refine lw_v (.int .i64 0) (dv_move C) ?_
   refine lw_nil ?_
   refine rk_block ?_
   refine rk_loop (fun dm_ fr wl => ∃ (i : Nat) (L : List Int) (cy : Int), dm_ = ys.length - i ∧ fr 0 = .slice D (ys.length) d ∧ fr 1 = .slice A (xs.length) c ∧ fr 4 = .slice none 0 0 ∧ fr 5 = .slice (some ⟨b2, 0, none⟩) (((ys.length) + 1)) (((ys.length) + 1)) ∧ fr 6 = .int .u64 cy ∧ fr 21 = .int .i64 ((ys.length : Int)) ∧ fr 22 = .int .i64 ((i : Int)) ∧ Below w.heap.size w wl ∧ wl.heap[b2]? = some (.cells (L.map (Value.int .u64)).toArray 36) ∧ (i ≤ ys.length) ∧ (L.length = ys.length + 1) ∧ (okW (2 ^ 64) L) ∧ (0 ≤ cy ∧ cy ≤ 1) ∧ (valB (2 ^ 64) (L.take i) + cy * (2 ^ 64) ^ i = valB (2 ^ 64) (ys.take i) + valB (2 ^ 64) (xs.take i))) (ys.length - 0) ⟨0, (List.replicate (((ys.length) + 1)) (0 : Int)), 0, rfl, rfl, rfl, rfl, rfl, rfl, rfl, rfl, E6, n4.blk, (Nat.zero_le _), (by simp), (okW.replicate (by decide) _), (by decide), (by simp [valB])⟩ ?_
   intro d11 fr10 w7 hI8 ih9
   obtain ⟨i, L, cy, hd21, f12, f13, f14, f15, f16, f17, f18, E19, H20, hi, hl, hok, hcy, hv⟩ := hI8
   have bys := okW.getD oy (by decide) i
   have bxs := okW.getD ox (by decide) i
   refine rk_seq ?_
   refine rk_reg ?_
   refine lw_v (.bool (decide (((i : Int)) < ((ys.length : Int))))) (dv_lss (a := (i : Int)) (b := (ys.length : Int)) (T rfl f18) (T rfl f17)) ?_
   refine lw_nil ?_
   refine rk_seq ?_
   by_cases hb22 : ((i : Int)) < ((ys.length : Int))
   · refine rk_ct (T rfl (congrArg Value.bool (decide_eq_true hb22))) ?_
     refine rk_skip ?_
     refine rk_seq ?_
     refine rk_block ?_
     refine rk_seq ?_
     refine rk_reg ?_
     refine lw_v (.int .i64 ((i : Int))) (dv_move (T rfl f18)) ?_
     refine lw_v (.int .i64 ((i : Int))) (dv_assign (T rfl rfl)) ?_
     refine lw_nil ?_
     refine rk_seq ?_
     refine rk_reg ?_
     refine lw_v (.int .u64 0) (dv_assign C) ?_
     refine lw_nil ?_
     refine rk_seq ?_
     refine rk_seq ?_
     refine rk_reg ?_
     refine lw_v (.int .i64 ((i : Int))) (dv_move (T rfl rfl)) ?_
     refine lw_v (.slice A (xs.length) c) (dv_move (T rfl f13)) ?_
     refine lw_v (.int .i64 ((xs.length : Int))) (dv_len (ad := A) (l := xs.length) (c := c) us105 (T rfl rfl)) ?_
     refine lw_v (.bool (decide (((i : Int)) < ((xs.length : Int))))) (dv_lss (a := (i : Int)) (b := (xs.length : Int)) (T rfl rfl) (T rfl rfl)) ?_
     refine lw_nil ?_
     refine rk_join (fun fr wl => ∃ (x : Int), fr 0 = .slice D (ys.length) d ∧ fr 1 = .slice A (xs.length) c ∧ fr 4 = .slice none 0 0 ∧ fr 5 = .slice (some ⟨b2, 0, none⟩) (((ys.length) + 1)) (((ys.length) + 1)) ∧ fr 6 = .int .u64 cy ∧ fr 7 = .int .i64 ((i : Int)) ∧ fr 8 = .int .u64 x ∧ fr 21 = .int .i64 ((ys.length : Int)) ∧ fr 22 = .int .i64 ((i : Int)) ∧ fr 23 = .bool (decide (((i : Int)) < ((ys.length : Int)))) ∧ fr 24 = .int .i64 ((i : Int)) ∧ fr 25 = .int .i64 ((i : Int)) ∧ fr 26 = .slice A (xs.length) c ∧ fr 27 = .int .i64 ((xs.length : Int)) ∧ fr 28 = .bool (decide (((i : Int)) < ((xs.length : Int)))) ∧ Below w.heap.size w wl ∧ wl.heap[b2]? = some (.cells (L.map (Value.int .u64)).toArray 36) ∧ (x = xs.getD i 0)) ?_ (fun hj25 => ?_)
     · intro fr26 w23 hI24
       obtain ⟨x, f27, f28, f29, f30, f31, f32, f33, f34, f35, f36, f37, f38, f39, f40, f41, E42, H43, hx0⟩ := hI24
       refine rk_reg ?_
       refine lw_v (.slice (some ⟨b2, 0, none⟩) (((ys.length) + 1)) (((ys.length) + 1))) (dv_move (T rfl f30)) ?_
       refine lw_v (.int .i64 ((i : Int))) (dv_move (T rfl f32)) ?_
       refine lw_v (.slice D (ys.length) d) (dv_move (T rfl f27)) ?_
       refine lw_v (.int .i64 ((i : Int))) (dv_move (T rfl f32)) ?_
       have h44 := (hy.ext E42)
       obtain ⟨g45, o46, rfl⟩ := Wd.at h44 (by omega)
       refine lw_v (.pointer (some ⟨g45, o46 + i, none⟩)) (dv_indexW (g := g45) (o := o46) (l := ys.length) (c := d) (i := i) (j := (i : Int)) us105 sz36 (T rfl rfl) (T rfl rfl) (by omega) (by omega)) ?_
       refine lw_v (.int .u64 (ys.getD i 0)) (dv_load agt36 (T rfl rfl) (Wd.cell h44 (by omega))) ?_
       refine lw_v (.int .u64 x) (dv_move (T rfl f33)) ?_
       refine lw_v (.int .u64 cy) (dv_move (T rfl f31)) ?_
       refine lw_v (.tuple #[.int .u64 (((ys.getD i 0) + x + cy) % 18446744073709551616), .int .u64 (((ys.getD i 0) + x + cy) / 18446744073709551616)]) (dv_ext (e := add64Entry) (vs := [.int .u64 (ys.getD i 0), .int .u64 x, .int .u64 cy]) Try.func116 rfl rfl (by kernel_rfl) (by kernel_rfl) (ar3 (T rfl rfl) (T rfl rfl) (T rfl rfl)) (run_addE (ys.getD i 0) x cy (by omega) (by omega) (by omega))) ?_
       refine lw_v (.tuple #[.int .u64 (((ys.getD i 0) + x + cy) % 18446744073709551616), .int .u64 (((ys.getD i 0) + x + cy) / 18446744073709551616)]) (dv_move (T rfl rfl)) ?_
       refine lw_v (.int .u64 (((ys.getD i 0) + x + cy) % 18446744073709551616)) (dv_extract (vs := #[.int .u64 (((ys.getD i 0) + x + cy) % 18446744073709551616), .int .u64 (((ys.getD i 0) + x + cy) / 18446744073709551616)]) (T rfl rfl) rfl) ?_
       refine lw_v (.int .u64 (((ys.getD i 0) + x + cy) / 18446744073709551616)) (dv_extract (vs := #[.int .u64 (((ys.getD i 0) + x + cy) % 18446744073709551616), .int .u64 (((ys.getD i 0) + x + cy) / 18446744073709551616)]) (T rfl rfl) rfl) ?_
       refine lw_v (.pointer (some ⟨b2, i, none⟩)) (dv_indexO (g := b2) (l := ((ys.length) + 1)) (c := ((ys.length) + 1)) (i := i) (j := (i : Int)) us105 sz36 (T rfl rfl) (T rfl rfl) (by omega) (by omega)) ?_
       refine lw_e (oe_storeW (L := L) (i := i) (z := ((ys.getD i 0) + x + cy) % 18446744073709551616) sz36 (T rfl rfl) (T rfl rfl) H43 (by omega) ?_)
       intro w47 s48 H49
       have E50 := below_st E42 N5 s48
       refine lw_v (.int .u64 (((ys.getD i 0) + x + cy) / 18446744073709551616)) (dv_assign (T rfl rfl)) ?_
       refine lw_nil ?_
       refine rk_inBlock ?_
       refine rk_reg ?_
       refine lw_v (.int .i64 (((i : Int)) + 1)) (dv_add (a := (i : Int)) (b := 1) (z := ((i : Int)) + 1) (T rfl f35) C (wr_i64 (by omega) (by omega))) ?_
       refine lw_v (.int .i64 (((i : Int)) + 1)) (dv_move (T rfl rfl)) ?_
       refine lw_nil ?_
       exact ih9 (ys.length - ((i + 1))) _ _ (by rw [hd21]; omega) ⟨(i + 1), (L.set i (((ys.getD i 0) + x + cy) % 18446744073709551616)), (((ys.getD i 0) + x + cy) / 18446744073709551616), rfl, f27, f28, f29, f30, rfl, f34, rfl, E50, H49, (by omega), (by simp [hl]), (okW.set hok (by omega) (by omega) _), (by omega), (add_inv (by omega) hv (by omega))⟩
     · by_cases hb51 : ((i : Int)) < ((xs.length : Int))
       · refine rk_ct (T rfl (congrArg Value.bool (decide_eq_true hb51))) ?_
         refine rk_reg ?_
         refine lw_v (.slice A (xs.length) c) (dv_move (T rfl f13)) ?_
         refine lw_v (.int .i64 ((i : Int))) (dv_move (T rfl rfl)) ?_
         have h52 := (hx.ext E19)
         obtain ⟨g53, o54, rfl⟩ := Wd.at h52 (by omega)
         refine lw_v (.pointer (some ⟨g53, o54 + i, none⟩)) (dv_indexW (g := g53) (o := o54) (l := xs.length) (c := c) (i := i) (j := (i : Int)) us105 sz36 (T rfl rfl) (T rfl rfl) (by omega) (by omega)) ?_
         refine lw_v (.int .u64 (xs.getD i 0)) (dv_load agt36 (T rfl rfl) (Wd.cell h52 (by omega))) ?_
         refine lw_v (.int .u64 (xs.getD i 0)) (dv_assign (T rfl rfl)) ?_
         refine lw_nil ?_
         exact hj25 _ _ ⟨xs.getD i 0, f12, f13, f14, f15, f16, rfl, rfl, f17, f18, rfl, rfl, rfl, rfl, rfl, rfl, E19, H20, (by first | rfl | exact (getD_ge _ _ (by omega)).symm)⟩
       · refine rk_cf (T rfl (congrArg Value.bool (decide_eq_false hb51))) ?_
         refine rk_skip ?_
         exact hj25 _ _ ⟨0, f12, f13, f14, f15, f16, rfl, rfl, f17, f18, rfl, rfl, rfl, rfl, rfl, rfl, E19, H20, (by first | rfl | exact (getD_ge _ _ (by omega)).symm)⟩
   · refine rk_cf (T rfl (congrArg Value.bool (decide_eq_false hb22))) ?_
     refine rk_exit rfl ?_
     refine rk_seq ?_
     refine rk_reg ?_
     refine lw_v (.slice (some ⟨b2, 0, none⟩) (((ys.length) + 1)) (((ys.length) + 1))) (dv_move (T rfl f15)) ?_
     refine lw_v (.slice D (ys.length) d) (dv_move (T rfl f12)) ?_
     refine lw_v (.int .i64 ((ys.length : Int))) (dv_len (ad := D) (l := ys.length) (c := d) us105 (T rfl rfl)) ?_
     refine lw_v (.int .u64 cy) (dv_move (T rfl f16)) ?_
     refine lw_v (.pointer (some ⟨b2, ys.length, none⟩)) (dv_indexO (g := b2) (l := ((ys.length) + 1)) (c := ((ys.length) + 1)) (i := ys.length) (j := (ys.length : Int)) us105 sz36 (T rfl rfl) (T rfl rfl) (by omega) (by omega)) ?_
     refine lw_e (oe_storeW (L := L) (i := ys.length) (z := cy) sz36 (T rfl rfl) (T rfl rfl) H20 (by omega) ?_)
     intro w55 s56 H57
     have E58 := below_st E19 N5 s56
     refine lw_nil ?_
     refine rk_seq ?_
     refine rk_reg ?_
     refine lw_v (.slice (some ⟨b2, 0, none⟩) (((ys.length) + 1)) (((ys.length) + 1))) (dv_move (T rfl f15)) ?_
     refine lw_e (oe_callf (vs := [.slice (some ⟨b2, 0, none⟩) (((ys.length) + 1)) (((ys.length) + 1))]) co139 (ar1 (T rfl rfl)) (trim_okl (Wd.ownW H57) (by omega) (by omega) (by first | rfl | first | (simp; done) | (simp; omega) | omega)) ?_)
     rintro _ w59 ⟨rfl, e60⟩
     have E61 := below_ext E58 E58.size e60
     refine lw_v (.slice (some ⟨b2, 0, none⟩) ((trimL ((L.set ys.length cy))).length) (((ys.length) + 1))) (dv_assign (T rfl rfl)) ?_
     refine lw_nil ?_
     refine rk_ret Try.func118 (v := .slice (some ⟨b2, 0, none⟩) ((trimL ((L.set ys.length cy))).length) (((ys.length) + 1))) (res1 Try.results118 (rv_tmp rfl rfl)) ⟨_, rfl, ?_⟩
     exact ⟨_, _, _, rfl, E61, ⟨trimL ((L.set ys.length cy)), rfl, (by have := trimL_len ((L.set ys.length cy)); simp at this ⊢; omega), (Wd.trim ((Wd.ownW H57).ext e60)), trimL_ok (okW.set hok (by omega) (by omega) _), trimL_canon _, (by rw [trimL_val]; first | exact add_fin (by decide) hl hi (by omega) (by omega) hv | (rw [Int.add_comm]; exact add_fin (by decide) hl hi (by omega) (by omega) hv))⟩⟩
 · refine rk_cf (T rfl (congrArg Value.bool (decide_eq_false hb1))) ?_
   refine rk_skip ?_
   refine rk_seq ?_
   refine rk_reg ?_
   refine lw_v (.slice A (xs.length) c) (dv_move (T rfl rfl)) ?_
   refine lw_v (.int .i64 ((xs.length : Int))) (dv_len (ad := A) (l := xs.length) (c := c) us105 (T rfl rfl)) ?_
   refine lw_v (.int .i64 (((xs.length : Int)) + 1)) (dv_add (a := (xs.length : Int)) (b := 1) (z := ((xs.length : Int)) + 1) (T rfl rfl) C (wr_i64 (by omega) (by omega))) ?_
   refine lw_e (oe_makeW (l := ((xs.length) + 1)) (j := ((xs.length : Int)) + 1) us105 in36 (T rfl rfl) (T rfl rfl) (by omega) (by omega) (by omega) ?_)
   intro b62 w63 n64
   have N65 : w.heap.size ≤ b62 := n64.eq ▸ E0.size
   have E66 := below_ext E0 E0.size n64.ext
   refine lw_v (.slice (some ⟨b62, 0, none⟩) (((xs.length) + 1)) (((xs.length) + 1))) (dv_assign (T rfl rfl)) ?_
   refine lw_v (.int .u64 0) (dv_assign C) ?_
   refine lw_nil ?_
   refine rk_seq ?_
   refine rk_seq ?_
   refine rk_reg ?_
   refine lw_v (.slice A (xs.length) c) (dv_move (T rfl rfl)) ?_
   refine lw_v (.int .i64 ((xs.length : Int))) (dv_len (ad := A) (l := xs.length) (c := c) us105 (T rfl rfl)) ?_
   refine lw_v (.int .i64 0) (dv_move C) ?_
   refine lw_nil ?_
   refine rk_block ?_
   refine rk_loop (fun dm_ fr wl => ∃ (i : Nat) (L : List Int) (cy : Int), dm_ = xs.length - i ∧ fr 0 = .slice A (xs.length) c ∧ fr 1 = .slice D (ys.length) d ∧ fr 4 = .slice none 0 0 ∧ fr 5 = .slice (some ⟨b62, 0, none⟩) (((xs.length) + 1)) (((xs.length) + 1)) ∧ fr 6 = .int .u64 cy ∧ fr 21 = .int .i64 ((xs.length : Int)) ∧ fr 22 = .int .i64 ((i : Int)) ∧ Below w.heap.size w wl ∧ wl.heap[b62]? = some (.cells (L.map (Value.int .u64)).toArray 36) ∧ (i ≤ xs.length) ∧ (L.length = xs.length + 1) ∧ (okW (2 ^ 64) L) ∧ (0 ≤ cy ∧ cy ≤ 1) ∧ (valB (2 ^ 64) (L.take i) + cy * (2 ^ 64) ^ i = valB (2 ^ 64) (xs.take i) + valB (2 ^ 64) (ys.take i))) (xs.length - 0) ⟨0, (List.replicate (((xs.length) + 1)) (0 : Int)), 0, rfl, rfl, rfl, rfl, rfl, rfl, rfl, rfl, E66, n64.blk, (Nat.zero_le _), (by simp), (okW.replicate (by decide) _), (by decide), (by simp [valB])⟩ ?_
   intro d71 fr70 w67 hI68 ih69
   obtain ⟨i, L, cy, hd81, f72, f73, f74, f75, f76, f77, f78, E79, H80, hi, hl, hok, hcy, hv⟩ := hI68
   have bxs := okW.getD ox (by decide) i
   have bys := okW.getD oy (by decide) i
   refine rk_seq ?_
   refine rk_reg ?_
   refine lw_v (.bool (decide (((i : Int)) < ((xs.length : Int))))) (dv_lss (a := (i : Int)) (b := (xs.length : Int)) (T rfl f78) (T rfl f77)) ?_
   refine lw_nil ?_
   refine rk_seq ?_
   by_cases hb82 : ((i : Int)) < ((xs.length : Int))
   · refine rk_ct (T rfl (congrArg Value.bool (decide_eq_true hb82))) ?_
     refine rk_skip ?_
     refine rk_seq ?_
     refine rk_block ?_
     refine rk_seq ?_
     refine rk_reg ?_
     refine lw_v (.int .i64 ((i : Int))) (dv_move (T rfl f78)) ?_
     refine lw_v (.int .i64 ((i : Int))) (dv_assign (T rfl rfl)) ?_
     refine lw_nil ?_
     refine rk_seq ?_
     refine rk_reg ?_
     refine lw_v (.int .u64 0) (dv_assign C) ?_
     refine lw_nil ?_
     refine rk_seq ?_
     refine rk_seq ?_
     refine rk_reg ?_
     refine lw_v (.int .i64 ((i : Int))) (dv_move (T rfl rfl)) ?_
     refine lw_v (.slice D (ys.length) d) (dv_move (T rfl f73)) ?_
     refine lw_v (.int .i64 ((ys.length : Int))) (dv_len (ad := D) (l := ys.length) (c := d) us105 (T rfl rfl)) ?_
     refine lw_v (.bool (decide (((i : Int)) < ((ys.length : Int))))) (dv_lss (a := (i : Int)) (b := (ys.length : Int)) (T rfl rfl) (T rfl rfl)) ?_
     refine lw_nil ?_
     refine rk_join (fun fr wl => ∃ (x : Int), fr 0 = .slice A (xs.length) c ∧ fr 1 = .slice D (ys.length) d ∧ fr 4 = .slice none 0 0 ∧ fr 5 = .slice (some ⟨b62, 0, none⟩) (((xs.length) + 1)) (((xs.length) + 1)) ∧ fr 6 = .int .u64 cy ∧ fr 7 = .int .i64 ((i : Int)) ∧ fr 8 = .int .u64 x ∧ fr 21 = .int .i64 ((xs.length : Int)) ∧ fr 22 = .int .i64 ((i : Int)) ∧ fr 23 = .bool (decide (((i : Int)) < ((xs.length : Int)))) ∧ fr 24 = .int .i64 ((i : Int)) ∧ fr 25 = .int .i64 ((i : Int)) ∧ fr 26 = .slice D (ys.length) d ∧ fr 27 = .int .i64 ((ys.length : Int)) ∧ fr 28 = .bool (decide (((i : Int)) < ((ys.length : Int)))) ∧ Below w.heap.size w wl ∧ wl.heap[b62]? = some (.cells (L.map (Value.int .u64)).toArray 36) ∧ (x = ys.getD i 0)) ?_ (fun hj85 => ?_)
     · intro fr86 w83 hI84
       obtain ⟨x, f87, f88, f89, f90, f91, f92, f93, f94, f95, f96, f97, f98, f99, f100, f101, E102, H103, hx0⟩ := hI84
       refine rk_reg ?_
       refine lw_v (.slice (some ⟨b62, 0, none⟩) (((xs.length) + 1)) (((xs.length) + 1))) (dv_move (T rfl f90)) ?_
       refine lw_v (.int .i64 ((i : Int))) (dv_move (T rfl f92)) ?_
       refine lw_v (.slice A (xs.length) c) (dv_move (T rfl f87)) ?_
       refine lw_v (.int .i64 ((i : Int))) (dv_move (T rfl f92)) ?_
       have h104 := (hx.ext E102)
       obtain ⟨g105, o106, rfl⟩ := Wd.at h104 (by omega)
       refine lw_v (.pointer (some ⟨g105, o106 + i, none⟩)) (dv_indexW (g := g105) (o := o106) (l := xs.length) (c := c) (i := i) (j := (i : Int)) us105 sz36 (T rfl rfl) (T rfl rfl) (by omega) (by omega)) ?_
       refine lw_v (.int .u64 (xs.getD i 0)) (dv_load agt36 (T rfl rfl) (Wd.cell h104 (by omega))) ?_
       refine lw_v (.int .u64 x) (dv_move (T rfl f93)) ?_
       refine lw_v (.int .u64 cy) (dv_move (T rfl f91)) ?_
       refine lw_v (.tuple #[.int .u64 (((xs.getD i 0) + x + cy) % 18446744073709551616), .int .u64 (((xs.getD i 0) + x + cy) / 18446744073709551616)]) (dv_ext (e := add64Entry) (vs := [.int .u64 (xs.getD i 0), .int .u64 x, .int .u64 cy]) Try.func116 rfl rfl (by kernel_rfl) (by kernel_rfl) (ar3 (T rfl rfl) (T rfl rfl) (T rfl rfl)) (run_addE (xs.getD i 0) x cy (by omega) (by omega) (by omega))) ?_
       refine lw_v (.tuple #[.int .u64 (((xs.getD i 0) + x + cy) % 18446744073709551616), .int .u64 (((xs.getD i 0) + x + cy) / 18446744073709551616)]) (dv_move (T rfl rfl)) ?_
       refine lw_v (.int .u64 (((xs.getD i 0) + x + cy) % 18446744073709551616)) (dv_extract (vs := #[.int .u64 (((xs.getD i 0) + x + cy) % 18446744073709551616), .int .u64 (((xs.getD i 0) + x + cy) / 18446744073709551616)]) (T rfl rfl) rfl) ?_
       refine lw_v (.int .u64 (((xs.getD i 0) + x + cy) / 18446744073709551616)) (dv_extract (vs := #[.int .u64 (((xs.getD i 0) + x + cy) % 18446744073709551616), .int .u64 (((xs.getD i 0) + x + cy) / 18446744073709551616)]) (T rfl rfl) rfl) ?_
       refine lw_v (.pointer (some ⟨b62, i, none⟩)) (dv_indexO (g := b62) (l := ((xs.length) + 1)) (c := ((xs.length) + 1)) (i := i) (j := (i : Int)) us105 sz36 (T rfl rfl) (T rfl rfl) (by omega) (by omega)) ?_
       refine lw_e (oe_storeW (L := L) (i := i) (z := ((xs.getD i 0) + x + cy) % 18446744073709551616) sz36 (T rfl rfl) (T rfl rfl) H103 (by omega) ?_)
       intro w107 s108 H109
       have E110 := below_st E102 N65 s108
       refine lw_v (.int .u64 (((xs.getD i 0) + x + cy) / 18446744073709551616)) (dv_assign (T rfl rfl)) ?_
       refine lw_nil ?_
       refine rk_inBlock ?_
       refine rk_reg ?_
       refine lw_v (.int .i64 (((i : Int)) + 1)) (dv_add (a := (i : Int)) (b := 1) (z := ((i : Int)) + 1) (T rfl f95) C (wr_i64 (by omega) (by omega))) ?_
       refine lw_v (.int .i64 (((i : Int)) + 1)) (dv_move (T rfl rfl)) ?_
       refine lw_nil ?_
       exact ih69 (xs.length - ((i + 1))) _ _ (by rw [hd81]; omega) ⟨(i + 1), (L.set i (((xs.getD i 0) + x + cy) % 18446744073709551616)), (((xs.getD i 0) + x + cy) / 18446744073709551616), rfl, f87, f88, f89, f90, rfl, f94, rfl, E110, H109, (by omega), (by simp [hl]), (okW.set hok (by omega) (by omega) _), (by omega), (add_inv (by omega) hv (by omega))⟩
     · by_cases hb111 : ((i : Int)) < ((ys.length : Int))
       · refine rk_ct (T rfl (congrArg Value.bool (decide_eq_true hb111))) ?_
         refine rk_reg ?_
         refine lw_v (.slice D (ys.length) d) (dv_move (T rfl f73)) ?_
         refine lw_v (.int .i64 ((i : Int))) (dv_move (T rfl rfl)) ?_
         have h112 := (hy.ext E79)
         obtain ⟨g113, o114, rfl⟩ := Wd.at h112 (by omega)
         refine lw_v (.pointer (some ⟨g113, o114 + i, none⟩)) (dv_indexW (g := g113) (o := o114) (l := ys.length) (c := d) (i := i) (j := (i : Int)) us105 sz36 (T rfl rfl) (T rfl rfl) (by omega) (by omega)) ?_
         refine lw_v (.int .u64 (ys.getD i 0)) (dv_load agt36 (T rfl rfl) (Wd.cell h112 (by omega))) ?_
         refine lw_v (.int .u64 (ys.getD i 0)) (dv_assign (T rfl rfl)) ?_
         refine lw_nil ?_
         exact hj85 _ _ ⟨ys.getD i 0, f72, f73, f74, f75, f76, rfl, rfl, f77, f78, rfl, rfl, rfl, rfl, rfl, rfl, E79, H80, (by first | rfl | exact (getD_ge _ _ (by omega)).symm)⟩
       · refine rk_cf (T rfl (congrArg Value.bool (decide_eq_false hb111))) ?_
         refine rk_skip ?_
         exact hj85 _ _ ⟨0, f72, f73, f74, f75, f76, rfl, rfl, f77, f78, rfl, rfl, rfl, rfl, rfl, rfl, E79, H80, (by first | rfl | exact (getD_ge _ _ (by omega)).symm)⟩
   · refine rk_cf (T rfl (congrArg Value.bool (decide_eq_false hb82))) ?_
     refine rk_exit rfl ?_
     refine rk_seq ?_
     refine rk_reg ?_
     refine lw_v (.slice (some ⟨b62, 0, none⟩) (((xs.length) + 1)) (((xs.length) + 1))) (dv_move (T rfl f75)) ?_
     refine lw_v (.slice A (xs.length) c) (dv_move (T rfl f72)) ?_
     refine lw_v (.int .i64 ((xs.length : Int))) (dv_len (ad := A) (l := xs.length) (c := c) us105 (T rfl rfl)) ?_
     refine lw_v (.int .u64 cy) (dv_move (T rfl f76)) ?_
     refine lw_v (.pointer (some ⟨b62, xs.length, none⟩)) (dv_indexO (g := b62) (l := ((xs.length) + 1)) (c := ((xs.length) + 1)) (i := xs.length) (j := (xs.length : Int)) us105 sz36 (T rfl rfl) (T rfl rfl) (by omega) (by omega)) ?_
     refine lw_e (oe_storeW (L := L) (i := xs.length) (z := cy) sz36 (T rfl rfl) (T rfl rfl) H80 (by omega) ?_)
     intro w115 s116 H117
     have E118 := below_st E79 N65 s116
     refine lw_nil ?_
     refine rk_seq ?_
     refine rk_reg ?_
     refine lw_v (.slice (some ⟨b62, 0, none⟩) (((xs.length) + 1)) (((xs.length) + 1))) (dv_move (T rfl f75)) ?_
     refine lw_e (oe_callf (vs := [.slice (some ⟨b62, 0, none⟩) (((xs.length) + 1)) (((xs.length) + 1))]) co139 (ar1 (T rfl rfl)) (trim_okl (Wd.ownW H117) (by omega) (by omega) (by first | rfl | first | (simp; done) | (simp; omega) | omega)) ?_)
     rintro _ w119 ⟨rfl, e120⟩
     have E121 := below_ext E118 E118.size e120
     refine lw_v (.slice (some ⟨b62, 0, none⟩) ((trimL ((L.set xs.length cy))).length) (((xs.length) + 1))) (dv_assign (T rfl rfl)) ?_
     refine lw_nil ?_
     refine rk_ret Try.func118 (v := .slice (some ⟨b62, 0, none⟩) ((trimL ((L.set xs.length cy))).length) (((xs.length) + 1))) (res1 Try.results118 (rv_tmp rfl rfl)) ⟨_, rfl, ?_⟩
     exact ⟨_, _, _, rfl, E121, ⟨trimL ((L.set xs.length cy)), rfl, (by have := trimL_len ((L.set xs.length cy)); simp at this ⊢; omega), (Wd.trim ((Wd.ownW H117).ext e120)), trimL_ok (okW.set hok (by omega) (by omega) _), trimL_canon _, (by rw [trimL_val]; first | exact add_fin (by decide) hl hi (by omega) (by omega) hv | (rw [Int.add_comm]; exact add_fin (by decide) hl hi (by omega) (by omega) hv))⟩⟩
theorem addWords_ws {w : World} {A D : Option Addr} {l c l' d : Nat} {x y : Int} (h : Ws 64 36 .u64 w A l c x) (h' : Ws 64 36 .u64 w D l' d y) (hl : l ≤ 500000) (hl' : l' ≤ 500000) : Ct Try.prog 118 [.slice A l c, .slice D l' d] w fun v w1 =>
 ∃ A' n c', v = .slice A' n c' ∧ Ext w w1 ∧ Wc 64 36 .u64 w1 A' n c' (x + y) := by
 obtain ⟨xs, rfl, hc, hw, ho, hv⟩ := h
 obtain ⟨ys, rfl, hc', hw', ho', hv'⟩ := h'
 subst hv; subst hv'
 exact addWords_ok hw hw' hc hc' ho ho' hl hl'
set_option maxHeartbeats 1000000 in
theorem subWords_ok {w : World} {A D : Option Addr} {c d : Nat} {xs ys : List Int} (hx : Wd w 36 .u64 A xs) (hy : Wd w 36 .u64 D ys) (hc : xs.length ≤ c) (hd : ys.length ≤ d) (ox : okW (2 ^ 64) xs) (oy : okW (2 ^ 64) ys) (lx : xs.length ≤ 500000) (ly : ys.length ≤ 500000) (hyx : ys.length ≤ xs.length) (hle : valB (2 ^ 64) ys ≤ valB (2 ^ 64) xs) : Ct Try.prog 120 [.slice A (xs.length) c, .slice D (ys.length) d] w fun v w1 => ∃ A' n c', v = .slice A' n c' ∧ Ext w w1 ∧ Wc 64 36 .u64 w1 A' n c' (valB (2 ^ 64) xs - valB (2 ^ 64) ys) := by
 refine ct_run (n := 41) Try.func120 rfl Try.ntmps120 rfl ?_
 have E0 : Below w.heap.size w w := Below.refl _ _
 refine rk_seq ?_
 refine rk_reg ?_
 refine lw_v (.slice none 0 0) (dv_assign C) ?_
 refine lw_nil ?_
 refine rk_seq ?_
 refine rk_reg ?_
 refine lw_v (.slice A (xs.length) c) (dv_move (T rfl rfl)) ?_
 refine lw_v (.int .i64 ((xs.length : Int))) (dv_len (ad := A) (l := xs.length) (c := c) us105 (T rfl rfl)) ?_
 refine lw_e (oe_makeW (l := xs.length) (j := (xs.length : Int)) us105 in36 (T rfl rfl) (T rfl rfl) (by omega) (by omega) (by omega) ?_)
 intro b1 w2 n3
 have N4 : w.heap.size ≤ b1 := n3.eq ▸ E0.size
 have E5 := below_ext E0 E0.size n3.ext
 refine lw_v (.slice (some ⟨b1, 0, none⟩) (xs.length) (xs.length)) (dv_assign (T rfl rfl)) ?_
 refine lw_v (.int .u64 0) (dv_assign C) ?_
 refine lw_nil ?_
 refine rk_seq ?_
 refine rk_seq ?_
 refine rk_reg ?_
 refine lw_v (.slice A (xs.length) c) (dv_move (T rfl rfl)) ?_
 refine lw_v (.int .i64 ((xs.length : Int))) (dv_len (ad := A) (l := xs.length) (c := c) us105 (T rfl rfl)) ?_
 refine lw_v (.int .i64 0) (dv_move C) ?_
 refine lw_nil ?_
 refine rk_block ?_
 refine rk_loop (fun dm_ fr wl => ∃ (i : Nat) (L : List Int) (cy : Int), dm_ = xs.length - i ∧ fr 0 = .slice A (xs.length) c ∧ fr 1 = .slice D (ys.length) d ∧ fr 4 = .slice none 0 0 ∧ fr 5 = .slice (some ⟨b1, 0, none⟩) (xs.length) (xs.length) ∧ fr 6 = .int .u64 cy ∧ fr 13 = .int .i64 ((xs.length : Int)) ∧ fr 14 = .int .i64 ((i : Int)) ∧ Below w.heap.size w wl ∧ wl.heap[b1]? = some (.cells (L.map (Value.int .u64)).toArray 36) ∧ (i ≤ xs.length) ∧ (L.length = xs.length) ∧ (okW (2 ^ 64) L) ∧ (0 ≤ cy ∧ cy ≤ 1) ∧ (valB (2 ^ 64) (L.take i) - cy * (2 ^ 64) ^ i = valB (2 ^ 64) (xs.take i) - valB (2 ^ 64) (ys.take i))) (xs.length - 0) ⟨0, (List.replicate xs.length (0 : Int)), 0, rfl, rfl, rfl, rfl, rfl, rfl, rfl, rfl, E5, n3.blk, (Nat.zero_le _), (by simp), (okW.replicate (by decide) _), (by decide), (by simp [valB])⟩ ?_
 intro d10 fr9 w6 hI7 ih8
 obtain ⟨i, L, cy, hd20, f11, f12, f13, f14, f15, f16, f17, E18, H19, hi, hl, hok, hcy, hv⟩ := hI7
 have bxs := okW.getD ox (by decide) i
 have bys := okW.getD oy (by decide) i
 refine rk_seq ?_
 refine rk_reg ?_
 refine lw_v (.bool (decide (((i : Int)) < ((xs.length : Int))))) (dv_lss (a := (i : Int)) (b := (xs.length : Int)) (T rfl f17) (T rfl f16)) ?_
 refine lw_nil ?_
 refine rk_seq ?_
 by_cases hb21 : ((i : Int)) < ((xs.length : Int))
 · refine rk_ct (T rfl (congrArg Value.bool (decide_eq_true hb21))) ?_
   refine rk_skip ?_
   refine rk_seq ?_
   refine rk_block ?_
   refine rk_seq ?_
   refine rk_reg ?_
   refine lw_v (.int .i64 ((i : Int))) (dv_move (T rfl f17)) ?_
   refine lw_v (.int .i64 ((i : Int))) (dv_assign (T rfl rfl)) ?_
   refine lw_nil ?_
   refine rk_seq ?_
   refine rk_reg ?_
   refine lw_v (.int .u64 0) (dv_assign C) ?_
   refine lw_nil ?_
   refine rk_seq ?_
   refine rk_seq ?_
   refine rk_reg ?_
   refine lw_v (.int .i64 ((i : Int))) (dv_move (T rfl rfl)) ?_
   refine lw_v (.slice D (ys.length) d) (dv_move (T rfl f12)) ?_
   refine lw_v (.int .i64 ((ys.length : Int))) (dv_len (ad := D) (l := ys.length) (c := d) us105 (T rfl rfl)) ?_
   refine lw_v (.bool (decide (((i : Int)) < ((ys.length : Int))))) (dv_lss (a := (i : Int)) (b := (ys.length : Int)) (T rfl rfl) (T rfl rfl)) ?_
   refine lw_nil ?_
   refine rk_join (fun fr wl => ∃ (x : Int), fr 0 = .slice A (xs.length) c ∧ fr 1 = .slice D (ys.length) d ∧ fr 4 = .slice none 0 0 ∧ fr 5 = .slice (some ⟨b1, 0, none⟩) (xs.length) (xs.length) ∧ fr 6 = .int .u64 cy ∧ fr 7 = .int .i64 ((i : Int)) ∧ fr 8 = .int .u64 x ∧ fr 13 = .int .i64 ((xs.length : Int)) ∧ fr 14 = .int .i64 ((i : Int)) ∧ fr 15 = .bool (decide (((i : Int)) < ((xs.length : Int)))) ∧ fr 16 = .int .i64 ((i : Int)) ∧ fr 17 = .int .i64 ((i : Int)) ∧ fr 18 = .slice D (ys.length) d ∧ fr 19 = .int .i64 ((ys.length : Int)) ∧ fr 20 = .bool (decide (((i : Int)) < ((ys.length : Int)))) ∧ Below w.heap.size w wl ∧ wl.heap[b1]? = some (.cells (L.map (Value.int .u64)).toArray 36) ∧ (x = ys.getD i 0)) ?_ (fun hj24 => ?_)
   · intro fr25 w22 hI23
     obtain ⟨x, f26, f27, f28, f29, f30, f31, f32, f33, f34, f35, f36, f37, f38, f39, f40, E41, H42, hx0⟩ := hI23
     refine rk_reg ?_
     refine lw_v (.slice (some ⟨b1, 0, none⟩) (xs.length) (xs.length)) (dv_move (T rfl f29)) ?_
     refine lw_v (.int .i64 ((i : Int))) (dv_move (T rfl f31)) ?_
     refine lw_v (.slice A (xs.length) c) (dv_move (T rfl f26)) ?_
     refine lw_v (.int .i64 ((i : Int))) (dv_move (T rfl f31)) ?_
     have h43 := (hx.ext E41)
     obtain ⟨g44, o45, rfl⟩ := Wd.at h43 (by omega)
     refine lw_v (.pointer (some ⟨g44, o45 + i, none⟩)) (dv_indexW (g := g44) (o := o45) (l := xs.length) (c := c) (i := i) (j := (i : Int)) us105 sz36 (T rfl rfl) (T rfl rfl) (by omega) (by omega)) ?_
     refine lw_v (.int .u64 (xs.getD i 0)) (dv_load agt36 (T rfl rfl) (Wd.cell h43 (by omega))) ?_
     refine lw_v (.int .u64 x) (dv_move (T rfl f32)) ?_
     refine lw_v (.int .u64 cy) (dv_move (T rfl f30)) ?_
     refine lw_v (.tuple #[.int .u64 (((xs.getD i 0) - x - cy) % 18446744073709551616), .int .u64 (if (xs.getD i 0) < x + cy then 1 else 0)]) (dv_ext (e := subEntry) (vs := [.int .u64 (xs.getD i 0), .int .u64 x, .int .u64 cy]) Try.func140 rfl rfl (by kernel_rfl) (by kernel_rfl) (ar3 (T rfl rfl) (T rfl rfl) (T rfl rfl)) (run_subE (xs.getD i 0) x cy (by omega) (by omega) (by omega) (by omega))) ?_
     refine lw_v (.tuple #[.int .u64 (((xs.getD i 0) - x - cy) % 18446744073709551616), .int .u64 (if (xs.getD i 0) < x + cy then 1 else 0)]) (dv_move (T rfl rfl)) ?_
     refine lw_v (.int .u64 (((xs.getD i 0) - x - cy) % 18446744073709551616)) (dv_extract (vs := #[.int .u64 (((xs.getD i 0) - x - cy) % 18446744073709551616), .int .u64 (if (xs.getD i 0) < x + cy then 1 else 0)]) (T rfl rfl) rfl) ?_
     refine lw_v (.int .u64 (if (xs.getD i 0) < x + cy then 1 else 0)) (dv_extract (vs := #[.int .u64 (((xs.getD i 0) - x - cy) % 18446744073709551616), .int .u64 (if (xs.getD i 0) < x + cy then 1 else 0)]) (T rfl rfl) rfl) ?_
     refine lw_v (.pointer (some ⟨b1, i, none⟩)) (dv_indexO (g := b1) (l := xs.length) (c := xs.length) (i := i) (j := (i : Int)) us105 sz36 (T rfl rfl) (T rfl rfl) (by omega) (by omega)) ?_
     refine lw_e (oe_storeW (L := L) (i := i) (z := ((xs.getD i 0) - x - cy) % 18446744073709551616) sz36 (T rfl rfl) (T rfl rfl) H42 (by omega) ?_)
     intro w46 s47 H48
     have E49 := below_st E41 N4 s47
     refine lw_v (.int .u64 (if (xs.getD i 0) < x + cy then 1 else 0)) (dv_assign (T rfl rfl)) ?_
     refine lw_nil ?_
     refine rk_inBlock ?_
     refine rk_reg ?_
     refine lw_v (.int .i64 (((i : Int)) + 1)) (dv_add (a := (i : Int)) (b := 1) (z := ((i : Int)) + 1) (T rfl f34) C (wr_i64 (by omega) (by omega))) ?_
     refine lw_v (.int .i64 (((i : Int)) + 1)) (dv_move (T rfl rfl)) ?_
     refine lw_nil ?_
     exact ih8 (xs.length - ((i + 1))) _ _ (by rw [hd20]; omega) ⟨(i + 1), (L.set i (((xs.getD i 0) - x - cy) % 18446744073709551616)), (if (xs.getD i 0) < x + cy then 1 else 0), rfl, f26, f27, f28, f29, rfl, f33, rfl, E49, H48, (by omega), (by simp [hl]), (okW.set hok (by omega) (by omega) _), (by split <;> omega), (by subst hx0; exact sub_inv (by decide) (by omega) hv ox oy hcy)⟩
   · by_cases hb50 : ((i : Int)) < ((ys.length : Int))
     · refine rk_ct (T rfl (congrArg Value.bool (decide_eq_true hb50))) ?_
       refine rk_reg ?_
       refine lw_v (.slice D (ys.length) d) (dv_move (T rfl f12)) ?_
       refine lw_v (.int .i64 ((i : Int))) (dv_move (T rfl rfl)) ?_
       have h51 := (hy.ext E18)
       obtain ⟨g52, o53, rfl⟩ := Wd.at h51 (by omega)
       refine lw_v (.pointer (some ⟨g52, o53 + i, none⟩)) (dv_indexW (g := g52) (o := o53) (l := ys.length) (c := d) (i := i) (j := (i : Int)) us105 sz36 (T rfl rfl) (T rfl rfl) (by omega) (by omega)) ?_
       refine lw_v (.int .u64 (ys.getD i 0)) (dv_load agt36 (T rfl rfl) (Wd.cell h51 (by omega))) ?_
       refine lw_v (.int .u64 (ys.getD i 0)) (dv_assign (T rfl rfl)) ?_
       refine lw_nil ?_
       exact hj24 _ _ ⟨ys.getD i 0, f11, f12, f13, f14, f15, rfl, rfl, f16, f17, rfl, rfl, rfl, rfl, rfl, rfl, E18, H19, (by first | rfl | exact (getD_ge _ _ (by omega)).symm)⟩
     · refine rk_cf (T rfl (congrArg Value.bool (decide_eq_false hb50))) ?_
       refine rk_skip ?_
       exact hj24 _ _ ⟨0, f11, f12, f13, f14, f15, rfl, rfl, f16, f17, rfl, rfl, rfl, rfl, rfl, rfl, E18, H19, (by first | rfl | exact (getD_ge _ _ (by omega)).symm)⟩
 · refine rk_cf (T rfl (congrArg Value.bool (decide_eq_false hb21))) ?_
   refine rk_exit rfl ?_
   refine rk_seq ?_
   refine rk_reg ?_
   refine lw_v (.slice (some ⟨b1, 0, none⟩) (xs.length) (xs.length)) (dv_move (T rfl f14)) ?_
   refine lw_e (oe_callf (vs := [.slice (some ⟨b1, 0, none⟩) (xs.length) (xs.length)]) co139 (ar1 (T rfl rfl)) (trim_okl (Wd.ownW H19) (by omega) (by omega) (by first | rfl | first | (simp; done) | (simp; omega) | omega)) ?_)
   rintro _ w54 ⟨rfl, e55⟩
   have E56 := below_ext E18 E18.size e55
   refine lw_v (.slice (some ⟨b1, 0, none⟩) ((trimL L).length) (xs.length)) (dv_assign (T rfl rfl)) ?_
   refine lw_nil ?_
   refine rk_ret Try.func120 (v := .slice (some ⟨b1, 0, none⟩) ((trimL L).length) (xs.length)) (res1 Try.results120 (rv_tmp rfl rfl)) ⟨_, rfl, ?_⟩
   exact ⟨_, _, _, rfl, E56, ⟨trimL L, rfl, (by have := trimL_len L; omega), (Wd.trim ((Wd.ownW H19).ext e55)), trimL_ok hok, trimL_canon _, (by rw [trimL_val]; exact sub_fin (by decide) hl hi (by omega) (by omega) hok hcy hle hv)⟩⟩
theorem subWords_ws {w : World} {A D : Option Addr} {l c l' d : Nat} {x y : Int} (h : Wc 64 36 .u64 w A l c x) (h' : Wc 64 36 .u64 w D l' d y) (hl : l ≤ 500000) (hl' : l' ≤ 500000) (hle : y ≤ x) : Ct Try.prog 120 [.slice A l c, .slice D l' d] w fun v w1 =>
 ∃ A' n c', v = .slice A' n c' ∧ Ext w w1 ∧ Wc 64 36 .u64 w1 A' n c' (x - y) := by
 obtain ⟨xs, rfl, hc, hw, ho, hk, hv⟩ := h
 obtain ⟨ys, rfl, hc', hw', ho', hk', hv'⟩ := h'
 subst hv; subst hv'
 exact subWords_ok hw hw' hc hc' ho ho' hl hl' (len_le ho ho' hk' hle) hle
set_option maxHeartbeats 1000000 in
theorem whole_ok {w : World} {x : Int} (hx : -9223372036854775808 ≤ x ∧ x ≤ 9223372036854775807) : Ct Try.prog 70 [.int .i64 x] w fun v w1 => ∃ nr A' n c', v = .agg #[.bool nr, .slice A' n c'] ∧ Ext w w1 ∧ Num 64 36 .u64 w1 nr A' n c' (x) (64) := by
 refine ct_run (n := 14) Try.func70 rfl Try.ntmps70 rfl ?_
 have E0 : Below w.heap.size w w := Below.refl _ _
 refine rk_seq ?_
 refine rk_reg ?_
 refine lw_e (oe_alloc ze107 ?_)
 intro b1 w2 n3
 have N4 : w.heap.size ≤ b1 := n3.eq ▸ E0.size
 have E5 := below_ext E0 E0.size n3.ext
 refine lw_nil ?_
 refine rk_seq ?_
 refine rk_seq ?_
 refine rk_reg ?_
 refine lw_v (.int .i64 x) (dv_move (T rfl rfl)) ?_
 refine lw_v (.bool (decide (x < 0))) (dv_lss (a := x) (b := 0) (T rfl rfl) C) ?_
 refine lw_nil ?_
 by_cases hb6 : x < 0
 · refine rk_ct (T rfl (congrArg Value.bool (decide_eq_true hb6))) ?_
   refine rk_seq ?_
   refine rk_reg ?_
   refine lw_v (.int .i64 x) (dv_move (T rfl rfl)) ?_
   refine lw_v (.int .u64 ((x) % 18446744073709551616)) (dv_conv (a := x) (z := (x) % 18446744073709551616) ui2 ui36 (T rfl rfl) (wr_u64 _)) ?_
   refine lw_v (.int .u64 ((0 - ((x) % 18446744073709551616)) % 18446744073709551616)) (dv_neg (a := (x) % 18446744073709551616) (z := (0 - ((x) % 18446744073709551616)) % 18446744073709551616) (T rfl rfl) (wr_u64 _)) ?_
   refine lw_e (oe_buildSlice (pv := [(0, .int .u64 ((0 - ((x) % 18446744073709551616)) % 18446744073709551616))]) (init := [.int .u64 0]) (l := [.int .u64 ((0 - ((x) % 18446744073709551616)) % 18446744073709551616)]) us105 sz36 rfl rfl zc36 (by kernel_rfl) ⟨rfl, (T rfl rfl), trivial⟩ rfl ?_)
   intro b7 w8 n9
   have N10 : w.heap.size ≤ b7 := n9.eq ▸ E5.size
   have : b1 < b7 := n9.eq ▸ lt_of_blk n3.blk
   have E11 := below_ext E5 E5.size n9.ext
   refine lw_e (oe_callf (vs := [.bool true, .slice (some ⟨b7, 0, none⟩) 1 1]) co114 (ar2 C (T rfl rfl)) (made_num (s := 64) (neg := true) (⟨[(0 - ((x) % 18446744073709551616)) % 18446744073709551616], rfl, Nat.le_refl _, Wd.ownW n9.blk, (okW_lit (by simp <;> omega)), rfl⟩ : Ws _ _ _ _ _ _ _ _) (by first | omega | decide) (valB_sz (m := 64) (xs := [(0 - ((x) % 18446744073709551616)) % 18446744073709551616]) (n := 1) (okW_lit (by simp <;> omega)) rfl)) ?_)
   rintro _ w15 ⟨nb12, n13, rfl, e16, hn14⟩
   have E17 := below_ext E11 E11.size e16
   have lhn14 := Num.len (by decide) hn14
   have H18 := (e16.blk (n9.ext.blk n3.blk))
   refine lw_e (oe_store (v := .agg #[.bool nb12, .slice (some ⟨b7, 0, none⟩) n13 1]) (vs := [.bool nb12, .slice (some ⟨b7, 0, none⟩) n13 1]) (l := [.bool nb12, .slice (some ⟨b7, 0, none⟩) n13 1]) (T rfl rfl) (T rfl rfl) sz107 rfl rfl rfl H18 rfl ?_)
   intro w19 s20 H21
   have E22 := below_st E17 N4 s20
   refine lw_nil ?_
   refine rk_ret Try.func70 (v := .agg #[.bool nb12, .slice (some ⟨b7, 0, none⟩) n13 1]) (res1 Try.results70 (rv_cells (l := [.bool nb12, .slice (some ⟨b7, 0, none⟩) n13 1]) agt107 sz107 rfl rfl H21 rfl)) ⟨_, rfl, ?_⟩
   have h23 := (hn14.st s20 H18 (by decide))
   exact ⟨_, _, _, _, rfl, E22, h23.to (by simp only [sg, valB]; simp; omega) (Nat.le_refl _)⟩
 · refine rk_cf (T rfl (congrArg Value.bool (decide_eq_false hb6))) ?_
   refine rk_skip ?_
   refine rk_seq ?_
   refine rk_reg ?_
   refine lw_v (.int .i64 x) (dv_move (T rfl rfl)) ?_
   refine lw_v (.int .u64 ((x) % 18446744073709551616)) (dv_conv (a := x) (z := (x) % 18446744073709551616) ui2 ui36 (T rfl rfl) (wr_u64 _)) ?_
   refine lw_e (oe_buildSlice (pv := [(0, .int .u64 ((x) % 18446744073709551616))]) (init := [.int .u64 0]) (l := [.int .u64 ((x) % 18446744073709551616)]) us105 sz36 rfl rfl zc36 (by kernel_rfl) ⟨rfl, (T rfl rfl), trivial⟩ rfl ?_)
   intro b24 w25 n26
   have N27 : w.heap.size ≤ b24 := n26.eq ▸ E5.size
   have : b1 < b24 := n26.eq ▸ lt_of_blk n3.blk
   have E28 := below_ext E5 E5.size n26.ext
   refine lw_e (oe_callf (vs := [.bool false, .slice (some ⟨b24, 0, none⟩) 1 1]) co114 (ar2 C (T rfl rfl)) (made_num (s := 64) (neg := false) (⟨[(x) % 18446744073709551616], rfl, Nat.le_refl _, Wd.ownW n26.blk, (okW_lit (by simp <;> omega)), rfl⟩ : Ws _ _ _ _ _ _ _ _) (by first | omega | decide) (valB_sz (m := 64) (xs := [(x) % 18446744073709551616]) (n := 1) (okW_lit (by simp <;> omega)) rfl)) ?_)
   rintro _ w32 ⟨nb29, n30, rfl, e33, hn31⟩
   have E34 := below_ext E28 E28.size e33
   have lhn31 := Num.len (by decide) hn31
   have H35 := (e33.blk (n26.ext.blk n3.blk))
   refine lw_e (oe_store (v := .agg #[.bool nb29, .slice (some ⟨b24, 0, none⟩) n30 1]) (vs := [.bool nb29, .slice (some ⟨b24, 0, none⟩) n30 1]) (l := [.bool nb29, .slice (some ⟨b24, 0, none⟩) n30 1]) (T rfl rfl) (T rfl rfl) sz107 rfl rfl rfl H35 rfl ?_)
   intro w36 s37 H38
   have E39 := below_st E34 N4 s37
   refine lw_nil ?_
   refine rk_ret Try.func70 (v := .agg #[.bool nb29, .slice (some ⟨b24, 0, none⟩) n30 1]) (res1 Try.results70 (rv_cells (l := [.bool nb29, .slice (some ⟨b24, 0, none⟩) n30 1]) agt107 sz107 rfl rfl H38 rfl)) ⟨_, rfl, ?_⟩
   have h40 := (hn31.st s37 H35 (by decide))
   exact ⟨_, _, _, _, rfl, E39, h40.to (by simp only [sg, valB]; simp; omega) (Nat.le_refl _)⟩
set_option maxHeartbeats 1000000 in
theorem nsign_ok {w : World} {na : Bool} {Aa : Option Addr} {la ca : Nat} {x : Int} {sx : Nat} (ha : Num 64 36 .u64 w na Aa la ca x sx) : Ct Try.prog 103 [.agg #[.bool na, .slice Aa la ca]] w fun v w1 => v = .int .i64 (sgnI x) ∧ Ext w w1 := by
 refine ct_run (n := 11) Try.func103 rfl Try.ntmps103 rfl ?_
 have E0 : Below w.heap.size w w := Below.refl _ _
 refine rk_seq ?_
 refine rk_reg ?_
 refine lw_e (oe_box (v := .agg #[.bool na, .slice Aa la ca]) (cs := #[.bool na, .slice Aa la ca]) (T rfl rfl) rfl ?_)
 intro b1 w2 n3
 have N4 : w.heap.size ≤ b1 := n3.eq ▸ E0.size
 have E5 := below_ext E0 E0.size n3.ext
 refine lw_v (.int .i64 0) (dv_assign C) ?_
 refine lw_nil ?_
 refine rk_seq ?_
 refine rk_block ?_
 refine rk_seq ?_
 refine rk_reg ?_
 refine lw_v (.pointer (some ⟨b1, 0, none⟩)) (dv_fieldAddr (a := ⟨b1, 0, none⟩) (a' := ⟨b1, 0, none⟩) fo107_0 (T rfl rfl) rfl) ?_
 refine lw_v (.bool na) (dv_load1 (b := b1) (o := 0) agt4 (T rfl rfl) n3.blk rfl) ?_
 refine lw_v (.bool na) (dv_assign (T rfl rfl)) ?_
 refine lw_nil ?_
 rcases Bool.eq_false_or_eq_true (na) with hb6 | hb6
 · refine rk_ct (T rfl (congrArg Value.bool hb6)) ?_
   refine rk_seq ?_
   refine rk_reg ?_
   refine lw_v (.int .i64 (-1)) (dv_assign C) ?_
   refine lw_nil ?_
   refine rk_ret Try.func103 (v := .int .i64 (-1)) (res1 Try.results103 (rv_tmp rfl rfl)) ⟨_, rfl, ?_⟩
   exact ⟨vi (by have h1 := ha.neg_iff; have h2 := ha.pos_iff; unfold sgnI; simp [*] at *; omega), E5⟩
 · refine rk_cf (T rfl (congrArg Value.bool hb6)) ?_
   refine rk_seq ?_
   refine rk_reg ?_
   refine lw_v (.pointer (some ⟨b1, 1, none⟩)) (dv_fieldAddr (a := ⟨b1, 0, none⟩) (a' := ⟨b1, 1, none⟩) fo107_1 (T rfl rfl) rfl) ?_
   refine lw_v (.slice Aa la ca) (dv_load1 (b := b1) (o := 1) agt105 (T rfl rfl) n3.blk rfl) ?_
   refine lw_v (.int .i64 ((la : Int))) (dv_len (ad := Aa) (l := la) (c := ca) us105 (T rfl rfl)) ?_
   refine lw_v (.bool (decide (0 < ((la : Int))))) (dv_gtr (a := (la : Int)) (b := 0) (T rfl rfl) C) ?_
   refine lw_v (.bool (decide (0 < ((la : Int))))) (dv_assign (T rfl rfl)) ?_
   refine lw_nil ?_
   by_cases hb7 : 0 < ((la : Int))
   · refine rk_ct (T rfl (congrArg Value.bool (decide_eq_true hb7))) ?_
     refine rk_seq ?_
     refine rk_reg ?_
     refine lw_v (.int .i64 1) (dv_assign C) ?_
     refine lw_nil ?_
     refine rk_ret Try.func103 (v := .int .i64 1) (res1 Try.results103 (rv_tmp rfl rfl)) ⟨_, rfl, ?_⟩
     exact ⟨vi (by have h1 := ha.neg_iff; have h2 := ha.pos_iff; unfold sgnI; simp [*] at *; omega), E5⟩
   · refine rk_cf (T rfl (congrArg Value.bool (decide_eq_false hb7))) ?_
     refine rk_skip ?_
     refine rk_inBlock ?_
     refine rk_seq ?_
     refine rk_reg ?_
     refine lw_v (.int .i64 0) (dv_assign C) ?_
     refine lw_nil ?_
     refine rk_ret Try.func103 (v := .int .i64 0) (res1 Try.results103 (rv_tmp rfl rfl)) ⟨_, rfl, ?_⟩
     exact ⟨vi (by have h1 := ha.neg_iff; have h2 := ha.pos_iff; unfold sgnI; simp [*] at *; omega), E5⟩
set_option maxHeartbeats 1000000 in
theorem minus_ok {w : World} {na : Bool} {Aa : Option Addr} {la ca : Nat} {x : Int} {sx : Nat} (ha : Num 64 36 .u64 w na Aa la ca x sx) (hs : sx ≤ 500000) : Ct Try.prog 117 [.agg #[.bool na, .slice Aa la ca]] w fun v w1 => ∃ nr A' n c', v = .agg #[.bool nr, .slice A' n c'] ∧ Ext w w1 ∧ Num 64 36 .u64 w1 nr A' n c' (-x) (sx) := by
 refine ct_run (n := 9) Try.func117 rfl Try.ntmps117 rfl ?_
 have E0 : Below w.heap.size w w := Below.refl _ _
 have lha := Num.len (by decide) ha
 refine rk_seq ?_
 refine rk_reg ?_
 refine lw_e (oe_box (v := .agg #[.bool na, .slice Aa la ca]) (cs := #[.bool na, .slice Aa la ca]) (T rfl rfl) rfl ?_)
 intro b1 w2 n3
 have N4 : w.heap.size ≤ b1 := n3.eq ▸ E0.size
 have E5 := below_ext E0 E0.size n3.ext
 refine lw_e (oe_alloc ze107 ?_)
 intro b6 w7 n8
 have N9 : w.heap.size ≤ b6 := n8.eq ▸ E5.size
 have : b1 < b6 := n8.eq ▸ lt_of_blk n3.blk
 have E10 := below_ext E5 E5.size n8.ext
 refine lw_nil ?_
 refine rk_seq ?_
 refine rk_reg ?_
 refine lw_v (.pointer (some ⟨b1, 0, none⟩)) (dv_fieldAddr (a := ⟨b1, 0, none⟩) (a' := ⟨b1, 0, none⟩) fo107_0 (T rfl rfl) rfl) ?_
 have H11 := (n8.ext.blk n3.blk)
 refine lw_v (.bool na) (dv_load1 (b := b1) (o := 0) agt4 (T rfl rfl) H11 rfl) ?_
 refine lw_v (.bool (!na)) (dv_not (T rfl rfl)) ?_
 refine lw_v (.pointer (some ⟨b1, 1, none⟩)) (dv_fieldAddr (a := ⟨b1, 0, none⟩) (a' := ⟨b1, 1, none⟩) fo107_1 (T rfl rfl) rfl) ?_
 refine lw_v (.slice Aa la ca) (dv_load1 (b := b1) (o := 1) agt105 (T rfl rfl) H11 rfl) ?_
 have h12 := ((ha.ext n3.ext).ext n8.ext)
 refine lw_e (oe_callf (vs := [.bool (!na), .slice Aa la ca]) co114 (ar2 (T rfl rfl) (T rfl rfl)) (made_num (s := sx) (neg := !na) h12.wc.ws (by omega) h12.ltI) ?_)
 rintro _ w16 ⟨nb13, n14, rfl, e17, hn15⟩
 have E18 := below_ext E10 E10.size e17
 have lhn15 := Num.len (by decide) hn15
 have H19 := (e17.blk n8.blk)
 refine lw_e (oe_store (v := .agg #[.bool nb13, .slice Aa n14 ca]) (vs := [.bool nb13, .slice Aa n14 ca]) (l := [.bool nb13, .slice Aa n14 ca]) (T rfl rfl) (T rfl rfl) sz107 rfl rfl rfl H19 rfl ?_)
 intro w20 s21 H22
 have E23 := below_st E18 N9 s21
 refine lw_nil ?_
 refine rk_ret Try.func117 (v := .agg #[.bool nb13, .slice Aa n14 ca]) (res1 Try.results117 (rv_cells (l := [.bool nb13, .slice Aa n14 ca]) agt107 sz107 rfl rfl H22 rfl)) ⟨_, rfl, ?_⟩
 have h24 := (hn15.st s21 H19 (by decide))
 exact ⟨_, _, _, _, rfl, E23, h24.to (sg_not ha.neg_iff) (Nat.le_refl _)⟩
set_option maxHeartbeats 1000000 in
theorem nabs_ok {w : World} {na : Bool} {Aa : Option Addr} {la ca : Nat} {x : Int} {sx : Nat} (ha : Num 64 36 .u64 w na Aa la ca x sx) : Ct Try.prog 143 [.agg #[.bool na, .slice Aa la ca]] w fun v w1 => ∃ nr A' n c', v = .agg #[.bool nr, .slice A' n c'] ∧ Ext w w1 ∧ Num 64 36 .u64 w1 nr A' n c' ((x.natAbs : Int)) (sx) := by
 refine ct_run (n := 6) Try.func143 rfl Try.ntmps143 rfl ?_
 have E0 : Below w.heap.size w w := Below.refl _ _
 refine rk_seq ?_
 refine rk_reg ?_
 refine lw_e (oe_box (v := .agg #[.bool na, .slice Aa la ca]) (cs := #[.bool na, .slice Aa la ca]) (T rfl rfl) rfl ?_)
 intro b1 w2 n3
 have N4 : w.heap.size ≤ b1 := n3.eq ▸ E0.size
 have E5 := below_ext E0 E0.size n3.ext
 refine lw_e (oe_alloc ze107 ?_)
 intro b6 w7 n8
 have N9 : w.heap.size ≤ b6 := n8.eq ▸ E5.size
 have : b1 < b6 := n8.eq ▸ lt_of_blk n3.blk
 have E10 := below_ext E5 E5.size n8.ext
 refine lw_nil ?_
 refine rk_seq ?_
 refine rk_reg ?_
 refine lw_v (.pointer (some ⟨b1, 1, none⟩)) (dv_fieldAddr (a := ⟨b1, 0, none⟩) (a' := ⟨b1, 1, none⟩) fo107_1 (T rfl rfl) rfl) ?_
 have H11 := (n8.ext.blk n3.blk)
 refine lw_v (.slice Aa la ca) (dv_load1 (b := b1) (o := 1) agt105 (T rfl rfl) H11 rfl) ?_
 refine lw_v (.agg #[.bool false, .slice Aa la ca]) (dv_build (pv := [(0, .bool false), (1, .slice Aa la ca)]) (l := [.bool false, .slice Aa la ca]) zc107 pl107 ⟨rfl, C, ⟨rfl, (T rfl rfl), trivial⟩⟩ rfl) ?_
 refine lw_e (oe_store (v := .agg #[.bool false, .slice Aa la ca]) (vs := [.bool false, .slice Aa la ca]) (l := [.bool false, .slice Aa la ca]) (T rfl rfl) (T rfl rfl) sz107 rfl rfl rfl n8.blk rfl ?_)
 intro w12 s13 H14
 have E15 := below_st E10 N9 s13
 refine lw_nil ?_
 refine rk_ret Try.func143 (v := .agg #[.bool false, .slice Aa la ca]) (res1 Try.results143 (rv_cells (l := [.bool false, .slice Aa la ca]) agt107 sz107 rfl rfl H14 rfl)) ⟨_, rfl, ?_⟩
 have h16 := ha.ext E15
 exact ⟨_, _, _, _, rfl, E15, h16.wc.num (by simp) (by simp [sg]) ha.ltI⟩
set_option maxHeartbeats 1000000 in
theorem plus_ok {w : World} {na : Bool} {Aa : Option Addr} {la ca : Nat} {x : Int} {sx : Nat} (ha : Num 64 36 .u64 w na Aa la ca x sx) {nb : Bool} {Ab : Option Addr} {lb cb : Nat} {y : Int} {sy : Nat} (hb : Num 64 36 .u64 w nb Ab lb cb y sy) (hs : sx ≤ 400000) (hs2 : sy ≤ 400000) : Ct Try.prog 74 [.agg #[.bool na, .slice Aa la ca], .agg #[.bool nb, .slice Ab lb cb]] w fun v w1 => ∃ nr A' n c', v = .agg #[.bool nr, .slice A' n c'] ∧ Ext w w1 ∧ Num 64 36 .u64 w1 nr A' n c' (x + y) (max sx sy + 1) := by
 refine ct_run (n := 40) Try.func74 rfl Try.ntmps74 rfl ?_
 have E0 : Below w.heap.size w w := Below.refl _ _
 have lha := Num.len (by decide) ha
 have lhb := Num.len (by decide) hb
 refine rk_seq ?_
 refine rk_reg ?_
 refine lw_e (oe_box (v := .agg #[.bool na, .slice Aa la ca]) (cs := #[.bool na, .slice Aa la ca]) (T rfl rfl) rfl ?_)
 intro b1 w2 n3
 have N4 : w.heap.size ≤ b1 := n3.eq ▸ E0.size
 have E5 := below_ext E0 E0.size n3.ext
 refine lw_e (oe_box (v := .agg #[.bool nb, .slice Ab lb cb]) (cs := #[.bool nb, .slice Ab lb cb]) (T rfl rfl) rfl ?_)
 intro b6 w7 n8
 have N9 : w.heap.size ≤ b6 := n8.eq ▸ E5.size
 have : b1 < b6 := n8.eq ▸ lt_of_blk n3.blk
 have E10 := below_ext E5 E5.size n8.ext
 refine lw_e (oe_alloc ze107 ?_)
 intro b11 w12 n13
 have N14 : w.heap.size ≤ b11 := n13.eq ▸ E10.size
 have : b6 < b11 := n13.eq ▸ lt_of_blk n8.blk
 have E15 := below_ext E10 E10.size n13.ext
 refine lw_nil ?_
 refine rk_seq ?_
 refine rk_seq ?_
 refine rk_reg ?_
 refine lw_v (.pointer (some ⟨b1, 0, none⟩)) (dv_fieldAddr (a := ⟨b1, 0, none⟩) (a' := ⟨b1, 0, none⟩) fo107_0 (T rfl rfl) rfl) ?_
 have H16 := (n13.ext.blk (n8.ext.blk n3.blk))
 refine lw_v (.bool na) (dv_load1 (b := b1) (o := 0) agt4 (T rfl rfl) H16 rfl) ?_
 refine lw_v (.pointer (some ⟨b6, 0, none⟩)) (dv_fieldAddr (a := ⟨b6, 0, none⟩) (a' := ⟨b6, 0, none⟩) fo107_0 (T rfl rfl) rfl) ?_
 have H17 := (n13.ext.blk n8.blk)
 refine lw_v (.bool nb) (dv_load1 (b := b6) (o := 0) agt4 (T rfl rfl) H17 rfl) ?_
 refine lw_v (.bool (na == nb)) (dv_eqlb (a := na) (b := nb) ub4 (T rfl rfl) (T rfl rfl)) ?_
 refine lw_nil ?_
 rcases Bool.eq_false_or_eq_true (na == nb) with hb18 | hb18
 · refine rk_ct (T rfl (congrArg Value.bool hb18)) ?_
   refine rk_seq ?_
   refine rk_any (fun w => w.heap[b1]? = some (.cells #[.bool na, .slice Aa la ca] 107) ∧ w.heap[b6]? = some (.cells #[.bool nb, .slice Ab lb cb] 107)) [8] mo ?_
   intro w19 d20
   have E21 := below_ext E15 E15.size d20.ext
   have H22 := (d20.ext.blk H16)
   have H23 := (d20.ext.blk H17)
   refine aw_pure 0 (.pointer (some ⟨b1, 0, none⟩)) rfl (by kernel_rfl) .none ⟨H22, H23⟩ (fun _ => dv_fieldAddr (a := ⟨b1, 0, none⟩) (a' := ⟨b1, 0, none⟩) fo107_0 (T rfl rfl) rfl) ?_
   refine aw_load 1 (.bool na) rfl (by kernel_rfl) .none ⟨H22, H23⟩ (fun _ s => dv_load1 (b := b1) (o := 0) agt4 (T rfl rfl) s.1 rfl) ?_
   refine aw_pure 2 (.pointer (some ⟨b1, 1, none⟩)) rfl (by kernel_rfl) .none ⟨H22, H23⟩ (fun _ => dv_fieldAddr (a := ⟨b1, 0, none⟩) (a' := ⟨b1, 1, none⟩) fo107_1 (T rfl rfl) rfl) ?_
   refine aw_load 3 (.slice Aa la ca) rfl (by kernel_rfl) .none ⟨H22, H23⟩ (fun _ s => dv_load1 (b := b1) (o := 1) agt105 (T rfl rfl) s.1 rfl) ?_
   refine aw_pure 4 (.pointer (some ⟨b6, 1, none⟩)) rfl (by kernel_rfl) .none ⟨H22, H23⟩ (fun _ => dv_fieldAddr (a := ⟨b6, 0, none⟩) (a' := ⟨b6, 1, none⟩) fo107_1 (T rfl rfl) rfl) ?_
   refine aw_load 5 (.slice Ab lb cb) rfl (by kernel_rfl) .none ⟨H22, H23⟩ (fun _ s => dv_load1 (b := b6) (o := 1) agt105 (T rfl rfl) s.2 rfl) ?_
   have h24 := ((((ha.ext n3.ext).ext n8.ext).ext n13.ext).ext d20.ext)
   have h25 := ((((hb.ext n3.ext).ext n8.ext).ext n13.ext).ext d20.ext)
   refine aw_one 6 rfl (by kernel_rfl) .none (oe_callf (vs := [.slice Aa la ca, .slice Ab lb cb]) co118 (ar2 (T rfl rfl) (T rfl rfl)) (addWords_ws h24.wc.ws h25.wc.ws (by omega) (by omega)) ?_)
   rintro _ w30 ⟨A26, n27, c28, rfl, e31, h29⟩
   have E32 := below_ext E21 E21.size e31
   have lh29 := Wc.len (by decide) h29 (sz_add h24.ltI h25.ltI)
   have H33 := (e31.blk H22)
   have H34 := (e31.blk H23)
   refine ⟨.inr ⟨H33, H34⟩, ?_⟩
   refine aw_one 7 rfl (by kernel_rfl) .none (oe_callf (vs := [.bool na, .slice A26 n27 c28]) co114 (ar2 (T rfl rfl) (T rfl rfl)) (made_num (s := (max sx sy + 1)) (neg := na) h29.ws (by omega) (sz_add h24.ltI h25.ltI)) ?_)
   rintro _ w38 ⟨nb35, n36, rfl, e39, hn37⟩
   have E40 := below_ext E32 E32.size e39
   have lhn37 := Num.len (by decide) hn37
   have H41 := (e39.blk H33)
   have H42 := (e39.blk H34)
   refine ⟨.inr ⟨H41, H42⟩, ?_⟩
   have H43 := (e39.blk (e31.blk (d20.ext.blk n13.blk)))
   refine aw_one 8 rfl (by kernel_rfl) .none (oe_store (v := .agg #[.bool nb35, .slice A26 n36 c28]) (vs := [.bool nb35, .slice A26 n36 c28]) (l := [.bool nb35, .slice A26 n36 c28]) (T rfl rfl) (T rfl rfl) sz107 rfl rfl rfl H43 rfl ?_)
   intro w44 s45 H46
   have E47 := below_st E40 N14 s45
   refine ⟨.inl rfl, ?_⟩
   refine aw_done (by kernel_rfl) ?_
   refine rk_ret Try.func74 (v := .agg #[.bool nb35, .slice A26 n36 c28]) (res1 Try.results74 (rv_cells (l := [.bool nb35, .slice A26 n36 c28]) agt107 sz107 rfl rfl H46 rfl)) ⟨_, rfl, ?_⟩
   have h48 := (hn37.st s45 H43 (by decide))
   exact ⟨_, _, _, _, rfl, E47, h48.to (sg_add ha.neg_iff hb.neg_iff (by assumption)) (Nat.le_refl _)⟩
 · refine rk_cf (T rfl (congrArg Value.bool hb18)) ?_
   refine rk_skip ?_
   refine rk_seq ?_
   refine rk_seq ?_
   refine rk_reg ?_
   refine lw_v (.pointer (some ⟨b1, 1, none⟩)) (dv_fieldAddr (a := ⟨b1, 0, none⟩) (a' := ⟨b1, 1, none⟩) fo107_1 (T rfl rfl) rfl) ?_
   refine lw_v (.slice Aa la ca) (dv_load1 (b := b1) (o := 1) agt105 (T rfl rfl) H16 rfl) ?_
   refine lw_v (.pointer (some ⟨b6, 1, none⟩)) (dv_fieldAddr (a := ⟨b6, 0, none⟩) (a' := ⟨b6, 1, none⟩) fo107_1 (T rfl rfl) rfl) ?_
   refine lw_v (.slice Ab lb cb) (dv_load1 (b := b6) (o := 1) agt105 (T rfl rfl) H17 rfl) ?_
   have h49 := (((ha.ext n3.ext).ext n8.ext).ext n13.ext)
   have h50 := (((hb.ext n3.ext).ext n8.ext).ext n13.ext)
   refine lw_e (oe_callf (vs := [.slice Aa la ca, .slice Ab lb cb]) co119 (ar2 (T rfl rfl) (T rfl rfl)) (cmpWords_wc h49.wc h50.wc (by omega) (by omega)) ?_)
   rintro _ w53 ⟨r51, rfl, e54, hr52⟩
   have E55 := below_ext E15 E15.size e54
   have qhr52 := cmpR.ge hr52
   have phr52 := cmpR.eq hr52
   refine lw_v (.bool (decide (0 ≤ r51))) (dv_geq (a := r51) (b := 0) (T rfl rfl) C) ?_
   refine lw_nil ?_
   by_cases hb56 : 0 ≤ r51
   · refine rk_ct (T rfl (congrArg Value.bool (decide_eq_true hb56))) ?_
     refine rk_seq ?_
     refine rk_any (fun w => w.heap[b1]? = some (.cells #[.bool na, .slice Aa la ca] 107) ∧ w.heap[b6]? = some (.cells #[.bool nb, .slice Ab lb cb] 107)) [8] mo ?_
     intro w57 d58
     have E59 := below_ext E55 E55.size d58.ext
     have H60 := (d58.ext.blk (e54.blk H16))
     have H61 := (d58.ext.blk (e54.blk H17))
     refine aw_pure 0 (.pointer (some ⟨b1, 0, none⟩)) rfl (by kernel_rfl) .none ⟨H60, H61⟩ (fun _ => dv_fieldAddr (a := ⟨b1, 0, none⟩) (a' := ⟨b1, 0, none⟩) fo107_0 (T rfl rfl) rfl) ?_
     refine aw_load 1 (.bool na) rfl (by kernel_rfl) .none ⟨H60, H61⟩ (fun _ s => dv_load1 (b := b1) (o := 0) agt4 (T rfl rfl) s.1 rfl) ?_
     refine aw_pure 2 (.pointer (some ⟨b1, 1, none⟩)) rfl (by kernel_rfl) .none ⟨H60, H61⟩ (fun _ => dv_fieldAddr (a := ⟨b1, 0, none⟩) (a' := ⟨b1, 1, none⟩) fo107_1 (T rfl rfl) rfl) ?_
     refine aw_load 3 (.slice Aa la ca) rfl (by kernel_rfl) .none ⟨H60, H61⟩ (fun _ s => dv_load1 (b := b1) (o := 1) agt105 (T rfl rfl) s.1 rfl) ?_
     refine aw_pure 4 (.pointer (some ⟨b6, 1, none⟩)) rfl (by kernel_rfl) .none ⟨H60, H61⟩ (fun _ => dv_fieldAddr (a := ⟨b6, 0, none⟩) (a' := ⟨b6, 1, none⟩) fo107_1 (T rfl rfl) rfl) ?_
     refine aw_load 5 (.slice Ab lb cb) rfl (by kernel_rfl) .none ⟨H60, H61⟩ (fun _ s => dv_load1 (b := b6) (o := 1) agt105 (T rfl rfl) s.2 rfl) ?_
     have h62 := ((h49.ext e54).ext d58.ext)
     have h63 := ((h50.ext e54).ext d58.ext)
     refine aw_one 6 rfl (by kernel_rfl) .none (oe_callf (vs := [.slice Aa la ca, .slice Ab lb cb]) co120 (ar2 (T rfl rfl) (T rfl rfl)) (subWords_ws h62.wc h63.wc (by omega) (by omega) (by omega)) ?_)
     rintro _ w68 ⟨A64, n65, c66, rfl, e69, h67⟩
     have E70 := below_ext E59 E59.size e69
     have lh67 := Wc.len (by decide) h67 (sz_sub h62.ltI h63.wc.nonneg)
     have H71 := (e69.blk H60)
     have H72 := (e69.blk H61)
     refine ⟨.inr ⟨H71, H72⟩, ?_⟩
     refine aw_one 7 rfl (by kernel_rfl) .none (oe_callf (vs := [.bool na, .slice A64 n65 c66]) co114 (ar2 (T rfl rfl) (T rfl rfl)) (made_num (s := sx) (neg := na) h67.ws (by omega) (sz_sub h62.ltI h63.wc.nonneg)) ?_)
     rintro _ w76 ⟨nb73, n74, rfl, e77, hn75⟩
     have E78 := below_ext E70 E70.size e77
     have lhn75 := Num.len (by decide) hn75
     have H79 := (e77.blk H71)
     have H80 := (e77.blk H72)
     refine ⟨.inr ⟨H79, H80⟩, ?_⟩
     have H81 := (e77.blk (e69.blk (d58.ext.blk (e54.blk n13.blk))))
     refine aw_one 8 rfl (by kernel_rfl) .none (oe_store (v := .agg #[.bool nb73, .slice A64 n74 c66]) (vs := [.bool nb73, .slice A64 n74 c66]) (l := [.bool nb73, .slice A64 n74 c66]) (T rfl rfl) (T rfl rfl) sz107 rfl rfl rfl H81 rfl ?_)
     intro w82 s83 H84
     have E85 := below_st E78 N14 s83
     refine ⟨.inl rfl, ?_⟩
     refine aw_done (by kernel_rfl) ?_
     refine rk_ret Try.func74 (v := .agg #[.bool nb73, .slice A64 n74 c66]) (res1 Try.results74 (rv_cells (l := [.bool nb73, .slice A64 n74 c66]) agt107 sz107 rfl rfl H84 rfl)) ⟨_, rfl, ?_⟩
     have h86 := (hn75.st s83 H81 (by decide))
     exact ⟨_, _, _, _, rfl, E85, h86.to (sg_sub ha.neg_iff hb.neg_iff (by assumption)) (by omega)⟩
   · refine rk_cf (T rfl (congrArg Value.bool (decide_eq_false hb56))) ?_
     refine rk_skip ?_
     refine rk_seq ?_
     refine rk_any (fun w => w.heap[b6]? = some (.cells #[.bool nb, .slice Ab lb cb] 107) ∧ w.heap[b1]? = some (.cells #[.bool na, .slice Aa la ca] 107)) [8] mo ?_
     intro w87 d88
     have E89 := below_ext E55 E55.size d88.ext
     have H90 := (d88.ext.blk (e54.blk H17))
     have H91 := (d88.ext.blk (e54.blk H16))
     refine aw_pure 0 (.pointer (some ⟨b6, 0, none⟩)) rfl (by kernel_rfl) .none ⟨H90, H91⟩ (fun _ => dv_fieldAddr (a := ⟨b6, 0, none⟩) (a' := ⟨b6, 0, none⟩) fo107_0 (T rfl rfl) rfl) ?_
     refine aw_load 1 (.bool nb) rfl (by kernel_rfl) .none ⟨H90, H91⟩ (fun _ s => dv_load1 (b := b6) (o := 0) agt4 (T rfl rfl) s.1 rfl) ?_
     refine aw_pure 2 (.pointer (some ⟨b6, 1, none⟩)) rfl (by kernel_rfl) .none ⟨H90, H91⟩ (fun _ => dv_fieldAddr (a := ⟨b6, 0, none⟩) (a' := ⟨b6, 1, none⟩) fo107_1 (T rfl rfl) rfl) ?_
     refine aw_load 3 (.slice Ab lb cb) rfl (by kernel_rfl) .none ⟨H90, H91⟩ (fun _ s => dv_load1 (b := b6) (o := 1) agt105 (T rfl rfl) s.1 rfl) ?_
     refine aw_pure 4 (.pointer (some ⟨b1, 1, none⟩)) rfl (by kernel_rfl) .none ⟨H90, H91⟩ (fun _ => dv_fieldAddr (a := ⟨b1, 0, none⟩) (a' := ⟨b1, 1, none⟩) fo107_1 (T rfl rfl) rfl) ?_
     refine aw_load 5 (.slice Aa la ca) rfl (by kernel_rfl) .none ⟨H90, H91⟩ (fun _ s => dv_load1 (b := b1) (o := 1) agt105 (T rfl rfl) s.2 rfl) ?_
     have h92 := ((h50.ext e54).ext d88.ext)
     have h93 := ((h49.ext e54).ext d88.ext)
     refine aw_one 6 rfl (by kernel_rfl) .none (oe_callf (vs := [.slice Ab lb cb, .slice Aa la ca]) co120 (ar2 (T rfl rfl) (T rfl rfl)) (subWords_ws h92.wc h93.wc (by omega) (by omega) (by omega)) ?_)
     rintro _ w98 ⟨A94, n95, c96, rfl, e99, h97⟩
     have E100 := below_ext E89 E89.size e99
     have lh97 := Wc.len (by decide) h97 (sz_sub h92.ltI h93.wc.nonneg)
     have H101 := (e99.blk H90)
     have H102 := (e99.blk H91)
     refine ⟨.inr ⟨H101, H102⟩, ?_⟩
     refine aw_one 7 rfl (by kernel_rfl) .none (oe_callf (vs := [.bool nb, .slice A94 n95 c96]) co114 (ar2 (T rfl rfl) (T rfl rfl)) (made_num (s := sy) (neg := nb) h97.ws (by omega) (sz_sub h92.ltI h93.wc.nonneg)) ?_)
     rintro _ w106 ⟨nb103, n104, rfl, e107, hn105⟩
     have E108 := below_ext E100 E100.size e107
     have lhn105 := Num.len (by decide) hn105
     have H109 := (e107.blk H101)
     have H110 := (e107.blk H102)
     refine ⟨.inr ⟨H109, H110⟩, ?_⟩
     have H111 := (e107.blk (e99.blk (d88.ext.blk (e54.blk n13.blk))))
     refine aw_one 8 rfl (by kernel_rfl) .none (oe_store (v := .agg #[.bool nb103, .slice A94 n104 c96]) (vs := [.bool nb103, .slice A94 n104 c96]) (l := [.bool nb103, .slice A94 n104 c96]) (T rfl rfl) (T rfl rfl) sz107 rfl rfl rfl H111 rfl ?_)
     intro w112 s113 H114
     have E115 := below_st E108 N14 s113
     refine ⟨.inl rfl, ?_⟩
     refine aw_done (by kernel_rfl) ?_
     refine rk_ret Try.func74 (v := .agg #[.bool nb103, .slice A94 n104 c96]) (res1 Try.results74 (rv_cells (l := [.bool nb103, .slice A94 n104 c96]) agt107 sz107 rfl rfl H114 rfl)) ⟨_, rfl, ?_⟩
     have h116 := (hn105.st s113 H111 (by decide))
     exact ⟨_, _, _, _, rfl, E115, h116.to (sg_sub' ha.neg_iff hb.neg_iff (by assumption)) (by omega)⟩
set_option maxHeartbeats 1000000 in
theorem less_ok {w : World} {na : Bool} {Aa : Option Addr} {la ca : Nat} {x : Int} {sx : Nat} (ha : Num 64 36 .u64 w na Aa la ca x sx) {nb : Bool} {Ab : Option Addr} {lb cb : Nat} {y : Int} {sy : Nat} (hb : Num 64 36 .u64 w nb Ab lb cb y sy) (hs : sx ≤ 400000) (hs2 : sy ≤ 400000) : Ct Try.prog 73 [.agg #[.bool na, .slice Aa la ca], .agg #[.bool nb, .slice Ab lb cb]] w fun v w1 => ∃ nr A' n c', v = .agg #[.bool nr, .slice A' n c'] ∧ Ext w w1 ∧ Num 64 36 .u64 w1 nr A' n c' (x - y) (max sx sy + 1) := by
 refine ct_run (n := 9) Try.func73 rfl Try.ntmps73 rfl ?_
 have E0 : Below w.heap.size w w := Below.refl _ _
 refine rk_seq ?_
 refine rk_reg ?_
 refine lw_e (oe_box (v := .agg #[.bool na, .slice Aa la ca]) (cs := #[.bool na, .slice Aa la ca]) (T rfl rfl) rfl ?_)
 intro b1 w2 n3
 have N4 : w.heap.size ≤ b1 := n3.eq ▸ E0.size
 have E5 := below_ext E0 E0.size n3.ext
 refine lw_e (oe_box (v := .agg #[.bool nb, .slice Ab lb cb]) (cs := #[.bool nb, .slice Ab lb cb]) (T rfl rfl) rfl ?_)
 intro b6 w7 n8
 have N9 : w.heap.size ≤ b6 := n8.eq ▸ E5.size
 have : b1 < b6 := n8.eq ▸ lt_of_blk n3.blk
 have E10 := below_ext E5 E5.size n8.ext
 refine lw_e (oe_alloc ze107 ?_)
 intro b11 w12 n13
 have N14 : w.heap.size ≤ b11 := n13.eq ▸ E10.size
 have : b6 < b11 := n13.eq ▸ lt_of_blk n8.blk
 have E15 := below_ext E10 E10.size n13.ext
 refine lw_nil ?_
 refine rk_seq ?_
 refine rk_any (fun w => w.heap[b1]? = some (.cells #[.bool na, .slice Aa la ca] 107) ∧ w.heap[b6]? = some (.cells #[.bool nb, .slice Ab lb cb] 107)) [4] mo ?_
 intro w16 d17
 have E18 := below_ext E15 E15.size d17.ext
 have H19 := (d17.ext.blk (n13.ext.blk (n8.ext.blk n3.blk)))
 have H20 := (d17.ext.blk (n13.ext.blk n8.blk))
 refine aw_load 0 (.agg #[.bool na, .slice Aa la ca]) rfl (by kernel_rfl) .none ⟨H19, H20⟩ (fun _ s => dv_loads (l := [.bool na, .slice Aa la ca]) agt107 sz107 (T rfl rfl) s.1 rfl) ?_
 refine aw_load 1 (.agg #[.bool nb, .slice Ab lb cb]) rfl (by kernel_rfl) .none ⟨H19, H20⟩ (fun _ s => dv_loads (l := [.bool nb, .slice Ab lb cb]) agt107 sz107 (T rfl rfl) s.2 rfl) ?_
 have h21 := ((((hb.ext n3.ext).ext n8.ext).ext n13.ext).ext d17.ext)
 refine aw_one 2 rfl (by kernel_rfl) .none (oe_callf (vs := [.agg #[.bool nb, .slice Ab lb cb]]) co117 (ar1 (T rfl rfl)) (minus_ok h21 (by first | decide | omega)) ?_)
 rintro _ w27 ⟨nr22, A23, n24, c25, rfl, e28, h26⟩
 have E29 := below_ext E18 E18.size e28
 have lh26 := Num.len (by decide) h26
 have H30 := (e28.blk H19)
 have H31 := (e28.blk H20)
 refine ⟨.inr ⟨H30, H31⟩, ?_⟩
 have h32 := (((((ha.ext n3.ext).ext n8.ext).ext n13.ext).ext d17.ext).ext e28)
 refine aw_one 3 rfl (by kernel_rfl) .none (oe_callf (vs := [.agg #[.bool na, .slice Aa la ca], .agg #[.bool nr22, .slice A23 n24 c25]]) co74 (ar2 (T rfl rfl) (T rfl rfl)) (plus_ok h32 h26 (by first | decide | omega) (by first | decide | omega)) ?_)
 rintro _ w38 ⟨nr33, A34, n35, c36, rfl, e39, h37⟩
 have E40 := below_ext E29 E29.size e39
 have lh37 := Num.len (by decide) h37
 have H41 := (e39.blk H30)
 have H42 := (e39.blk H31)
 refine ⟨.inr ⟨H41, H42⟩, ?_⟩
 have H43 := (e39.blk (e28.blk (d17.ext.blk n13.blk)))
 refine aw_one 4 rfl (by kernel_rfl) .none (oe_store (v := .agg #[.bool nr33, .slice A34 n35 c36]) (vs := [.bool nr33, .slice A34 n35 c36]) (l := [.bool nr33, .slice A34 n35 c36]) (T rfl rfl) (T rfl rfl) sz107 rfl rfl rfl H43 rfl ?_)
 intro w44 s45 H46
 have E47 := below_st E40 N14 s45
 refine ⟨.inl rfl, ?_⟩
 refine aw_done (by kernel_rfl) ?_
 refine rk_ret Try.func73 (v := .agg #[.bool nr33, .slice A34 n35 c36]) (res1 Try.results73 (rv_cells (l := [.bool nr33, .slice A34 n35 c36]) agt107 sz107 rfl rfl H46 rfl)) ⟨_, rfl, ?_⟩
 have h48 := (h37.st s45 H43 (by decide))
 exact ⟨_, _, _, _, rfl, E47, h48.to (by omega) (by omega)⟩
end Go.Proofs.Ytmbpomcbdopgnaa.W
set_option linter.unusedVariables false
set_option linter.unusedSimpArgs false
namespace Go.Proofs.Ytmbpomcbdopgnaa.W
open Go Go.RowKit Go.Proofs.Ytmbpomcbdopgnaa.Fw
attribute [local irreducible] RunK LW AW DV OE Ct
theorem ui158 : Try.prog.underlying 158 = some (.int .u64) := by kernel_rfl
end Go.Proofs.Ytmbpomcbdopgnaa.W
namespace Go.Proofs
open Go.Shelf
def Try.lays134_ren : Go.Shelf.Ren := ⟨fun | 134 => 134 | 129 => 146 | n => n, fun | 53 => 36 | 3 => 3 | 4 => 4 | 46 => 158 | 5 => 5 | 9 => 9 | n => n, fun | n => n⟩
theorem Try.lays134 : Go.Proofs.Lays.n134 Try.prog Try.lays134_ren := {
 mixed := by kernel_rfl
 f129 := Try.func146.trans (congrArg some (by kernel_rfl))
 f134 := Try.func134.trans (congrArg some (by kernel_rfl))
 t3 := Try.underlying3
 a3 := Try.isAgg3
 z3 := Try.sizeOf3
 v3 := Try.zeroValue3
 t4 := Try.underlying4
 a4 := Try.isAgg4
 z4 := Try.sizeOf4
 v4 := Try.zeroValue4
 t5 := Try.underlying5
 a5 := Try.isAgg5
 z5 := Try.sizeOf5
 v5 := Try.zeroValue5
 t9 := Try.underlying9
 a9 := Try.isAgg9
 z9 := Try.sizeOf9
 v9 := Try.zeroValue9
 t46 := Try.underlying158
 a46 := Try.isAgg158
 z46 := Try.sizeOf158
 v46 := Try.zeroValue158
 t53 := Try.underlying36
 a53 := Try.isAgg36
 z53 := Try.sizeOf36
 v53 := Try.zeroValue36 }
theorem Try.bits_LeadingZeros64 (x : Int) (w : World) (h0 : 0 ≤ x) (h1 : x ≤ 18446744073709551615) :
 Calls Try.prog 134 #[.int .u64 x] w fun e w' => e = .returned (.int .i64 (64 - (Lib.bitLen x.toNat : Int))) ∧ w' = w := Any.bits_LeadingZeros64 Try.lays134 x w h0 h1
def Try.lays264_ren : Go.Shelf.Ren := ⟨fun | 264 => 115 | n => n, fun | 53 => 36 | 46 => 158 | n => n, fun | n => n⟩
theorem Try.lays264 : Go.Proofs.Lays.n264 Try.prog Try.lays264_ren := {
 mixed := by kernel_rfl
 f264 := Try.func115.trans (congrArg some (by kernel_rfl))
 t46 := Try.underlying158
 a46 := Try.isAgg158
 z46 := Try.sizeOf158
 v46 := Try.zeroValue158
 t53 := Try.underlying36
 a53 := Try.isAgg36
 z53 := Try.sizeOf36
 v53 := Try.zeroValue36 }
open Go.RowKit Go.Lib in
theorem Try.bits_Mul64 (x y : Nat) (hx : x < 18446744073709551616) (hy : y < 18446744073709551616) (w : World) :
 Calls Try.prog 115 #[.int .u64 x, .int .u64 y] w fun e w' => e = .returned (.tuple #[.int .u64 ((x * y / 18446744073709551616 : Nat) : Int), .int .u64 ((x * y % 18446744073709551616 : Nat) : Int)]) ∧ w' = w := Any.bits_Mul64 Try.lays264 x y hx hy w
open Go.RowKit Go.Lib in
def Try.laysSlE041_f136_ren : Go.Shelf.Ren := ⟨fun | 41 => 136 | n => n, fun | 22 => 105 | 23 => 36 | 4 => 4 | n => n, fun | n => n⟩
theorem Try.laysSlE041_f136 : Go.Proofs.SlLaysE0.n41 Try.prog Try.laysSlE041_f136_ren := {
 mixed := by kernel_rfl
 f41 := ⟨Try.f136.name, by decide, Try.func136.trans (congrArg some (by kernel_rfl))⟩
 t4 := Try.underlying4
 a4 := Try.isAgg4
 z4 := Try.sizeOf4
 v4 := Try.zeroValue4
 t22 := Try.underlying105
 a22 := Try.isAgg105
 z22 := Try.sizeOf105
 v22 := Try.zeroValue105 }
open Go.RowKit Go.Lib in
theorem Try.slices_Clone_f136 (i0 : TypeInfo) (z : Value) (size bytes : Nat) (hi : Try.prog.info? 36 = some i0) (hz0 : i0.zero = some z) (hz1 : i0.size = size) (hz2 : i0.bytes = bytes) (hzs : z.cells.size = size) (hsz : 0 < size) (z23 : ∀ w, (Go.sizeOf 36).run Try.prog w = .ok size w) (b off n c : Nat) (news : List Value) (w : World) (hl : news.length = n * size) (hn : n ≤ maxLen) (hbig : n * bytes ≤ 140737488355328) (hc : ∀ j u, news[j]? = some u → w.cell? ⟨b, off + j, none⟩ = some u) (h1 : ∀ u ∈ news, u.oneCell' = true) :
 Calls Try.prog 136 #[.slice (some ⟨b, off, none⟩) n c] w fun e w' => ∃ v', e = .returned v' ∧ w'.ownsRow w.heap.size 36 size v' n news ∧ v' ≠ .slice none 0 0 ∧ Below w.heap.size w w' := AnyE.slices_Clone Try.laysSlE041_f136 i0 z size bytes hi hz0 hz1 hz2 hzs hsz z23 b off n c news w hl hn hbig hc h1
open Go.RowKit Go.Lib in
open Go.RowKit Go.Lib in
theorem Try.slices_Clone_nil_f136 (n c : Nat) (w : World) :
 Calls Try.prog 136 #[.slice none n c] w fun e w' => e = .returned (.slice none 0 0) ∧ w' = w := AnyE.slices_Clone_nil Try.laysSlE041_f136 n c w
end Go.Proofs
set_option linter.unusedVariables false
set_option linter.unusedSimpArgs false
namespace Go.Proofs.Ytmbpomcbdopgnaa.W
open Go Go.RowKit Go.Proofs.Ytmbpomcbdopgnaa.Fw
attribute [local irreducible] RunK LW AW DV OE Ct
theorem co134 : callOk Try.prog 134 = true := by kernel_rfl
theorem lz_ok {w : World} {x : Int} (h : 0 ≤ x ∧ x < 18446744073709551616) : Ct Try.prog 134 [.int .u64 x] w fun v w1 => v = .int .i64 (64 - (nbits x.toNat : Int)) ∧ Ext w w1 := by
 unfold Ct
 exact Calls.mono (Try.bits_LeadingZeros64 x w h.1 (by omega)) fun e w' ⟨he, hw⟩ => ⟨_, he, by rw [nbits_bitLen (by omega)], by subst hw; exact Below.refl _ _⟩
set_option maxHeartbeats 1000000 in
theorem nsize_ok {w : World} {neg : Bool} {A : Option Addr} {c : Nat} {xs : List Int} (hx : Wd w 36 .u64 A xs) (hc : xs.length ≤ c) (ox : okW (2 ^ 64) xs) (cx : canon xs) (lx : xs.length ≤ 1000000) : Ct Try.prog 104 [.agg #[.bool neg, .slice A (xs.length) c]] w fun v w1 => v = .int .i64 (nbits (valB (2 ^ 64) xs).toNat : Int) ∧ Ext w w1 := by
 refine ct_run (n := 19) Try.func104 rfl Try.ntmps104 rfl ?_
 have E0 : Below w.heap.size w w := Below.refl _ _
 have bn := fun h => nbits_top ox h (canon_top ox cx h)
 have bg := okW.getD ox (by decide) (xs.length - 1)
 have bl := nbits_len ox
 have bm : nbits (xs.getD (xs.length - 1) 0).toNat ≤ 64 := nbits_le_iff.2 (by omega)
 refine rk_seq ?_
 refine rk_reg ?_
 refine lw_e (oe_box (v := .agg #[.bool neg, .slice A (xs.length) c]) (cs := #[.bool neg, .slice A (xs.length) c]) (T rfl rfl) rfl ?_)
 intro b1 w2 n3
 have N4 : w.heap.size ≤ b1 := n3.eq ▸ E0.size
 have E5 := below_ext E0 E0.size n3.ext
 refine lw_v (.int .i64 0) (dv_assign C) ?_
 refine lw_nil ?_
 refine rk_seq ?_
 refine rk_reg ?_
 refine lw_v (.pointer (some ⟨b1, 1, none⟩)) (dv_fieldAddr (a := ⟨b1, 0, none⟩) (a' := ⟨b1, 1, none⟩) fo107_1 (T rfl rfl) rfl) ?_
 refine lw_v (.slice A (xs.length) c) (dv_load1 (b := b1) (o := 1) agt105 (T rfl rfl) n3.blk rfl) ?_
 refine lw_v (.int .i64 ((xs.length : Int))) (dv_len (ad := A) (l := xs.length) (c := c) us105 (T rfl rfl)) ?_
 refine lw_v (.int .i64 ((xs.length : Int))) (dv_assign (T rfl rfl)) ?_
 refine lw_nil ?_
 refine rk_seq ?_
 refine rk_seq ?_
 refine rk_reg ?_
 refine lw_v (.int .i64 ((xs.length : Int))) (dv_move (T rfl rfl)) ?_
 refine lw_v (.bool (decide (((xs.length : Int)) = 0))) (dv_eql (a := (xs.length : Int)) (b := 0) (T rfl rfl) C) ?_
 refine lw_nil ?_
 by_cases hb6 : ((xs.length : Int)) = 0
 · refine rk_ct (T rfl (congrArg Value.bool (decide_eq_true hb6))) ?_
   refine rk_seq ?_
   refine rk_reg ?_
   refine lw_v (.int .i64 0) (dv_assign C) ?_
   refine lw_nil ?_
   refine rk_ret Try.func104 (v := .int .i64 0) (res1 Try.results104 (rv_tmp rfl rfl)) ⟨_, rfl, ?_⟩
   exact ⟨vi (by have h0 : xs = [] := List.eq_nil_of_length_eq_zero (by omega); simp [h0, valB, nbits]), E5⟩
 · refine rk_cf (T rfl (congrArg Value.bool (decide_eq_false hb6))) ?_
   refine rk_skip ?_
   refine rk_seq ?_
   refine rk_reg ?_
   refine lw_v (.int .i64 ((xs.length : Int))) (dv_move (T rfl rfl)) ?_
   refine lw_v (.int .i64 (64 * ((xs.length : Int)))) (dv_mul (a := 64) (b := (xs.length : Int)) (z := 64 * ((xs.length : Int))) C (T rfl rfl) (wr_i64 (by omega) (by omega))) ?_
   refine lw_v (.pointer (some ⟨b1, 1, none⟩)) (dv_fieldAddr (a := ⟨b1, 0, none⟩) (a' := ⟨b1, 1, none⟩) fo107_1 (T rfl rfl) rfl) ?_
   refine lw_v (.slice A (xs.length) c) (dv_load1 (b := b1) (o := 1) agt105 (T rfl rfl) n3.blk rfl) ?_
   refine lw_v (.int .i64 ((xs.length : Int))) (dv_move (T rfl rfl)) ?_
   refine lw_v (.int .i64 (((xs.length : Int)) - 1)) (dv_sub (a := (xs.length : Int)) (b := 1) (z := ((xs.length : Int)) - 1) (T rfl rfl) C (wr_i64 (by omega) (by omega))) ?_
   have h7 := (hx.ext n3.ext)
   obtain ⟨g8, o9, rfl⟩ := Wd.at h7 (by first | omega | (simp; done) | (simp; omega))
   refine lw_v (.pointer (some ⟨g8, o9 + ((xs.length) - 1), none⟩)) (dv_indexW (g := g8) (o := o9) (l := xs.length) (c := c) (i := ((xs.length) - 1)) (j := ((xs.length : Int)) - 1) us105 sz36 (T rfl rfl) (T rfl rfl) (by omega) (by first | omega | (simp; done) | (simp; omega))) ?_
   refine lw_v (.int .u64 (xs.getD (((xs.length) - 1)) 0)) (dv_load agt36 (T rfl rfl) (Wd.cell h7 (by first | omega | (simp; done) | (simp; omega)))) ?_
   refine lw_e (oe_callf (vs := [.int .u64 (xs.getD (((xs.length) - 1)) 0)]) co134 (ar1 (T rfl rfl)) (lz_ok (by omega)) ?_)
   rintro _ w10 ⟨rfl, e11⟩
   have E12 := below_ext E5 E5.size e11
   refine lw_v (.int .i64 ((64 * ((xs.length : Int))) - (64 - (nbits (xs.getD (((xs.length) - 1)) 0).toNat : Int)))) (dv_sub (a := 64 * ((xs.length : Int))) (b := 64 - (nbits (xs.getD (((xs.length) - 1)) 0).toNat : Int)) (z := (64 * ((xs.length : Int))) - (64 - (nbits (xs.getD (((xs.length) - 1)) 0).toNat : Int))) (T rfl rfl) (T rfl rfl) (wr_i64 (by omega) (by omega))) ?_
   refine lw_v (.int .i64 ((64 * ((xs.length : Int))) - (64 - (nbits (xs.getD (((xs.length) - 1)) 0).toNat : Int)))) (dv_assign (T rfl rfl)) ?_
   refine lw_nil ?_
   refine rk_ret Try.func104 (v := .int .i64 ((64 * ((xs.length : Int))) - (64 - (nbits (xs.getD (((xs.length) - 1)) 0).toNat : Int)))) (res1 Try.results104 (rv_tmp rfl rfl)) ⟨_, rfl, ?_⟩
   exact ⟨vi (by have := bn (by omega); omega), E12⟩
theorem nsize_num {w : World} {neg : Bool} {A : Option Addr} {l c s : Nat} {z : Int} (h : Num 64 36 .u64 w neg A l c z s) (hl : l ≤ 1000000) : Ct Try.prog 104 [.agg #[.bool neg, .slice A l c]] w fun v w1 => v = .int .i64 (nbits z.natAbs : Int) ∧ Ext w w1 := by
 have e : (valB (2 ^ 64) []).toNat = 0 := rfl
 obtain ⟨xs, rfl, hc, hw, ho, hk, hv⟩ := h.wc
 have := nsize_ok (neg := neg) hw hc ho hk hl
 rw [← hv, Int.toNat_natCast] at this
 exact this
end Go.Proofs.Ytmbpomcbdopgnaa.W
set_option linter.unusedVariables false
set_option linter.unusedSimpArgs false
namespace Go.Proofs.Ytmbpomcbdopgnaa.W
open Go Go.RowKit Go.Proofs.Ytmbpomcbdopgnaa.Fw
attribute [local irreducible] RunK LW AW DV OE Ct
theorem agt38 : aggB Try.prog 38 = some true := by kernel_rfl
theorem co104 : callOk Try.prog 104 = true := by kernel_rfl
theorem co136 : callOk Try.prog 136 = true := by kernel_rfl
theorem co70 : callOk Try.prog 70 = true := by kernel_rfl
theorem pl38 : placesB Try.prog 38 = some [(0, 1), (1, 1), (2, 1), (3, 1)] := by kernel_rfl
theorem sz38 : sizeB Try.prog 38 = some 4 := by kernel_rfl
theorem ui3 : Try.prog.underlying 3 = some (.int .i64) := by kernel_rfl
theorem zc38 : zcB Try.prog 38 = some [.int .u64 0, .int .u64 0, .int .u64 0, .int .u64 0] := by kernel_rfl
theorem ze38 : zeroB Try.prog 38 = some #[.int .u64 0, .int .u64 0, .int .u64 0, .int .u64 0] := by kernel_rfl
theorem clone_ok {w : World} {A : Option Addr} {l c : Nat} {xs : List Int} (hx : Wd w 36 .u64 A xs) (hl : xs.length = l) (hL : l ≤ 1000000) : Ct Try.prog 136 [.slice A l c] w fun v w1 => ∃ A' c', v = .slice A' xs.length c' ∧ Ext w w1 ∧ Ow w1 w.heap.size 36 .u64 A' c' xs := by
 unfold Ct
 rcases hx with ⟨rfl, rfl⟩ | ⟨g, o, cs, fz, rfl, hg, hc⟩
 · refine Calls.mono (Try.slices_Clone_nil_f136 l c w) fun e w' ⟨he, hw⟩ => ⟨_, he, none, 0, rfl, by subst hw; exact Below.refl _ _, ⟨⟨rfl, .inl ⟨rfl, rfl⟩⟩, by subst hw; exact Nat.le_refl _⟩⟩
 · obtain ⟨i0, hi0, hi⟩ : ∃ i0, Try.prog.info? 36 = some i0 ∧ (i0.zero, i0.size, i0.bytes) = (some (.int .u64 0), 1, 8) := by
    have h := in36
    cases hi : Try.prog.info? 36 with
    | none => rw [hi] at h; cases h
    | some i0 => rw [hi] at h; exact ⟨i0, rfl, by simpa using h⟩
   simp only [Prod.mk.injEq] at hi
   refine Calls.mono (Try.slices_Clone_f136 i0 _ 1 8 hi0 hi.1 hi.2.1 hi.2.2 rfl (by decide) (fun w => Fw.run_sizeOf sz36) g o l c (xs.map (Value.int .u64)) w (by simp [hl]) (by simp only [maxLen]; omega) (by omega) (fun j u hj => ?_) (ints_oneCell .u64 xs)) fun e w' ⟨v', he, ho, hne, hb⟩ => ?_
   · rw [List.getElem?_map] at hj
     cases hx : xs[j]? with
     | none => rw [hx] at hj; cases hj
     | some x =>
      rw [hx] at hj
      have := hc j x hx
      rw [cell_of_row w g (o + j) cs 36 fz hg, this]
      exact hj
   · subst hl
     obtain ⟨A', c', rfl⟩ := own_slice ho
     exact ⟨_, he, A', c', rfl, hb, ho, hb.size⟩
set_option maxHeartbeats 1000000 in
theorem nwide_ok {w : World} {na : Bool} {Aa : Option Addr} {la ca : Nat} {x : Int} {sx : Nat} (ha : Num 64 36 .u64 w na Aa la ca x sx) (hs : sx ≤ 400000) : Ct Try.prog 127 [.agg #[.bool na, .slice Aa la ca]] w fun v w1 => v = .tuple #[.agg #[.int .u64 (wv3 x), .int .u64 (wv2 x), .int .u64 (wv1 x), .int .u64 (wv0 x)], .bool (decide (fits x))] ∧ Ext w w1 := by
 refine ct_run (n := 50) Try.func127 rfl Try.ntmps127 rfl ?_
 have E0 : Below w.heap.size w w := Below.refl _ _
 have lha := Num.len (by decide) ha
 refine rk_seq ?_
 refine rk_reg ?_
 refine lw_e (oe_box (v := .agg #[.bool na, .slice Aa la ca]) (cs := #[.bool na, .slice Aa la ca]) (T rfl rfl) rfl ?_)
 intro b1 w2 n3
 have N4 : w.heap.size ≤ b1 := n3.eq ▸ E0.size
 have E5 := below_ext E0 E0.size n3.ext
 refine lw_e (oe_alloc ze38 ?_)
 intro b6 w7 n8
 have N9 : w.heap.size ≤ b6 := n8.eq ▸ E5.size
 have : b1 < b6 := n8.eq ▸ lt_of_blk n3.blk
 have E10 := below_ext E5 E5.size n8.ext
 refine lw_v (.bool false) (dv_assign C) ?_
 refine lw_nil ?_
 refine rk_seq ?_
 refine rk_reg ?_
 have H11 := (n8.ext.blk n3.blk)
 refine lw_v (.agg #[.bool na, .slice Aa la ca]) (dv_loads (l := [.bool na, .slice Aa la ca]) agt107 sz107 (T rfl rfl) H11 rfl) ?_
 refine lw_e (oe_alloc ze107 ?_)
 intro b12 w13 n14
 have N15 : w.heap.size ≤ b12 := n14.eq ▸ E10.size
 have : b6 < b12 := n14.eq ▸ lt_of_blk n8.blk
 have E16 := below_ext E10 E10.size n14.ext
 refine lw_e (oe_store (v := .agg #[.bool na, .slice Aa la ca]) (vs := [.bool na, .slice Aa la ca]) (l := [.bool na, .slice Aa la ca]) (T rfl rfl) (T rfl rfl) sz107 rfl rfl rfl n14.blk rfl ?_)
 intro w17 s18 H19
 have E20 := below_st E16 N15 s18
 refine lw_nil ?_
 refine rk_seq ?_
 refine rk_seq ?_
 refine rk_reg ?_
 refine lw_v (.pointer (some ⟨b1, 0, none⟩)) (dv_fieldAddr (a := ⟨b1, 0, none⟩) (a' := ⟨b1, 0, none⟩) fo107_0 (T rfl rfl) rfl) ?_
 have H21 := (s18.blk (n14.ext.blk H11) (by omega))
 refine lw_v (.bool na) (dv_load1 (b := b1) (o := 0) agt4 (T rfl rfl) H21 rfl) ?_
 refine lw_nil ?_
 rcases Bool.eq_false_or_eq_true (na) with hb22 | hb22
 · refine rk_ct (T rfl (congrArg Value.bool hb22)) ?_
   refine rk_any (fun w => w.heap[b1]? = some (.cells #[.bool na, .slice Aa la ca] 107)) [3] mo ?_
   intro w23 d24
   have E25 := below_ext E20 E20.size d24.ext
   have H26 := (d24.ext.blk H21)
   refine aw_load 0 (.agg #[.bool na, .slice Aa la ca]) rfl (by kernel_rfl) .none H26 (fun _ s => dv_loads (l := [.bool na, .slice Aa la ca]) agt107 sz107 (T rfl rfl) s rfl) ?_
   refine aw_one 1 rfl (by kernel_rfl) .none (oe_callf (vs := [.int .i64 1]) co70 (ar1 C) (whole_ok  (by omega)) ?_)
   rintro _ w32 ⟨nr27, A28, n29, c30, rfl, e33, h31⟩
   have E34 := below_ext E25 E25.size e33
   have lh31 := Num.len (by decide) h31
   have H35 := (e33.blk H26)
   refine ⟨.inr H35, ?_⟩
   have h36 := ha.ext E34
   refine aw_one 2 rfl (by kernel_rfl) .none (oe_callf (vs := [.agg #[.bool na, .slice Aa la ca], .agg #[.bool nr27, .slice A28 n29 c30]]) co74 (ar2 (T rfl rfl) (T rfl rfl)) (plus_ok h36 h31 (by first | decide | omega) (by first | decide | omega)) ?_)
   rintro _ w42 ⟨nr37, A38, n39, c40, rfl, e43, h41⟩
   have E44 := below_ext E34 E34.size e43
   have lh41 := Num.len (by decide) h41
   have H45 := (e43.blk H35)
   refine ⟨.inr H45, ?_⟩
   have H46 := (e43.blk (e33.blk (d24.ext.blk H19)))
   refine aw_one 3 rfl (by kernel_rfl) .none (oe_store (v := .agg #[.bool nr37, .slice A38 n39 c40]) (vs := [.bool nr37, .slice A38 n39 c40]) (l := [.bool nr37, .slice A38 n39 c40]) (T rfl rfl) (T rfl rfl) sz107 rfl rfl rfl H46 rfl ?_)
   intro w47 s48 H49
   have E50 := below_st E44 N15 s48
   refine ⟨.inl rfl, ?_⟩
   refine aw_done (by kernel_rfl) ?_
   refine rk_seq ?_
   refine rk_seq ?_
   refine rk_reg ?_
   refine lw_v (.agg #[.bool nr37, .slice A38 n39 c40]) (dv_loads (l := [.bool nr37, .slice A38 n39 c40]) agt107 sz107 (T rfl rfl) H49 rfl) ?_
   have h51 := (h41.st s48 H46 (by decide))
   refine lw_e (oe_callf (vs := [.agg #[.bool nr37, .slice A38 n39 c40]]) co104 (ar1 (T rfl rfl)) (nsize_num h51 (by first | omega | (simp; done) | (simp; omega))) ?_)
   rintro _ w52 ⟨rfl, e53⟩
   have E54 := below_ext E50 E50.size e53
   refine lw_v (.bool (decide (255 < ((nbits (x + 1).natAbs : Int))))) (dv_gtr (a := (nbits (x + 1).natAbs : Int)) (b := 255) (T rfl rfl) C) ?_
   refine lw_nil ?_
   by_cases hb55 : 255 < ((nbits (x + 1).natAbs : Int))
   · refine rk_ct (T rfl (congrArg Value.bool (decide_eq_true hb55))) ?_
     refine rk_seq ?_
     refine rk_reg ?_
     refine lw_v (.agg #[.int .u64 0, .int .u64 0, .int .u64 0, .int .u64 0]) (dv_build (pv := []) (l := [.int .u64 0, .int .u64 0, .int .u64 0, .int .u64 0]) zc38 pl38 trivial rfl) ?_
     have H56 := (e53.blk (s48.blk (e43.blk (e33.blk (d24.ext.blk (s18.blk (n14.ext.blk n8.blk) (by omega))))) (by omega)))
     refine lw_e (oe_store (v := .agg #[.int .u64 0, .int .u64 0, .int .u64 0, .int .u64 0]) (vs := [.int .u64 0, .int .u64 0, .int .u64 0, .int .u64 0]) (l := [.int .u64 0, .int .u64 0, .int .u64 0, .int .u64 0]) (T rfl rfl) (T rfl rfl) sz38 rfl rfl rfl H56 rfl ?_)
     intro w57 s58 H59
     have E60 := below_st E54 N9 s58
     refine lw_v (.bool false) (dv_assign C) ?_
     refine lw_nil ?_
     refine rk_ret Try.func127 (v := .tuple #[.agg #[.int .u64 0, .int .u64 0, .int .u64 0, .int .u64 0], .bool false]) (res2 Try.results127 (rv_cells (l := [.int .u64 0, .int .u64 0, .int .u64 0, .int .u64 0]) agt38 sz38 rfl rfl H59 rfl) (rv_tmp rfl rfl)) ⟨_, rfl, ?_⟩
     have hno := wide_no (x := x) (by have := ha.neg_iff; first | (left; refine ⟨by simp_all, ?_⟩; omega) | (right; refine ⟨by by_cases hz : x < 0 <;> simp_all <;> omega, ?_⟩; omega))
     exact ⟨tu2 (ag4 (vi hno.2.1.symm) (vi hno.2.2.1.symm) (vi hno.2.2.2.1.symm) (vi hno.2.2.2.2.symm)) (vf hno.1), E60⟩
   · refine rk_cf (T rfl (congrArg Value.bool (decide_eq_false hb55))) ?_
     refine rk_skip ?_
     refine rk_seq ?_
     refine rk_reg ?_
     refine lw_v (.pointer (some ⟨b12, 1, none⟩)) (dv_fieldAddr (a := ⟨b12, 0, none⟩) (a' := ⟨b12, 1, none⟩) fo107_1 (T rfl rfl) rfl) ?_
     have H61 := (e53.blk H49)
     refine lw_v (.slice A38 n39 c40) (dv_load1 (b := b12) (o := 1) agt105 (T rfl rfl) H61 rfl) ?_
     have h62 := (h51.ext e53)
     obtain ⟨xs63, hl64, hc65, hw66, ho67, hk68, hv69⟩ := h62.wc
     have H70 := (e53.blk (s48.blk H45 (by omega)))
     have : b1 < w52.heap.size := lt_of_blk H70
     have H71 := (e53.blk (s48.blk (e43.blk (e33.blk (d24.ext.blk (s18.blk (n14.ext.blk n8.blk) (by omega))))) (by omega)))
     have : b6 < w52.heap.size := lt_of_blk H71
     have : b12 < w52.heap.size := lt_of_blk H61
     have N72 : w.heap.size ≤ w52.heap.size := E54.size
     refine lw_e (oe_callf (vs := [.slice A38 n39 c40]) co136 (ar1 (T rfl rfl)) (clone_ok hw66 hl64 (by first | omega | (simp; done) | (simp; omega))) ?_)
     rintro _ w76 ⟨Ad73, c74, rfl, e77, hO75⟩
     have E78 := below_ext E54 E54.size e77
     refine lw_e (oe_append0 (base := w52.heap.size) (L := xs63) (m := 4) (j := 4) us105 ui3 in36 (T rfl rfl) C rfl (by decide) (by decide) hO75 (by first | omega | (simp; done) | (simp; omega)) ?_)
     intro Ad79 c80 w81 hO82 x83
     have E84 := below_bl E78 N72 x83
     refine lw_v (.slice Ad79 ((xs63 ++ List.replicate 4 (0 : Int)).length) c80) (dv_assign (T rfl rfl)) ?_
     refine lw_nil ?_
     refine rk_seq ?_
     refine rk_seq ?_
     refine rk_reg ?_
     refine lw_v (.pointer (some ⟨b1, 0, none⟩)) (dv_fieldAddr (a := ⟨b1, 0, none⟩) (a' := ⟨b1, 0, none⟩) fo107_0 (T rfl rfl) rfl) ?_
     have H85 := (bl_blk x83 (e77.blk H70) (by omega))
     refine lw_v (.bool na) (dv_load1 (b := b1) (o := 0) agt4 (T rfl rfl) H85 rfl) ?_
     refine lw_nil ?_
     refine rk_ct (T rfl (congrArg Value.bool hb22)) ?_
     refine rk_seq ?_
     refine rk_reg ?_
     refine lw_v (.slice Ad79 ((xs63 ++ List.replicate 4 (0 : Int)).length) c80) (dv_move (T rfl rfl)) ?_
     refine lw_v (.int .i64 (((xs63 ++ List.replicate 4 (0 : Int)).length : Int))) (dv_len (ad := Ad79) (l := (xs63 ++ List.replicate 4 (0 : Int)).length) (c := c80) us105 (T rfl rfl)) ?_
     refine lw_v (.int .i64 0) (dv_move C) ?_
     refine lw_nil ?_
     refine rk_block ?_
     have H86 := (bl_blk x83 (e77.blk H71) (by omega))
     have H87 := (bl_blk x83 (e77.blk H61) (by omega))
     refine rk_loop (fun dm_ fr wl => ∃ (i : Nat) (L : List Int), dm_ = (xs63 ++ List.replicate 4 (0 : Int)).length - i ∧ fr 2 = .pointer (some ⟨b6, 0, none⟩) ∧ fr 3 = .bool false ∧ fr 5 = .slice Ad79 ((xs63 ++ List.replicate 4 (0 : Int)).length) c80 ∧ fr 24 = .int .i64 (((xs63 ++ List.replicate 4 (0 : Int)).length : Int)) ∧ fr 25 = .int .i64 ((i : Int)) ∧ Below w.heap.size w wl ∧ wl.heap[b1]? = some (.cells #[.bool na, .slice Aa la ca] 107) ∧ wl.heap[b6]? = some (.cells #[.int .u64 0, .int .u64 0, .int .u64 0, .int .u64 0] 38) ∧ wl.heap[b12]? = some (.cells #[.bool nr37, .slice A38 n39 c40] 107) ∧ Ow wl w52.heap.size 36 .u64 Ad79 c80 L ∧ (i ≤ (xs63 ++ List.replicate 4 (0 : Int)).length) ∧ (L.length = (xs63 ++ List.replicate 4 (0 : Int)).length) ∧ (∀ j, j < (xs63 ++ List.replicate 4 (0 : Int)).length → L.getD j 0 = if j < i then 18446744073709551615 - (xs63 ++ List.replicate 4 (0 : Int)).getD j 0 else (xs63 ++ List.replicate 4 (0 : Int)).getD j 0)) ((xs63 ++ List.replicate 4 (0 : Int)).length - 0) ⟨0, (xs63 ++ List.replicate 4 (0 : Int)), rfl, rfl, rfl, rfl, rfl, rfl, E84, H85, H86, H87, hO82, (Nat.zero_le _), rfl, (fun j hj => by rw [if_neg (by omega)])⟩ ?_
     intro d92 fr91 w88 hI89 ih90
     obtain ⟨i, L, hd103, f93, f94, f95, f96, f97, E98, H99, H100, H101, h102, hi, hln, hpt⟩ := hI89
     have bz : (xs63 ++ List.replicate 4 (0 : Int)).length = xs63.length + 4 := by simp
     have bh := hpt i
     have bo := okW.getD (okW.append ho67 (okW.replicate (by decide) 4)) (by decide) i
     have be : i < (xs63 ++ List.replicate 4 (0 : Int)).length → L.getD i 0 = (xs63 ++ List.replicate 4 (0 : Int)).getD i 0 := fun h => by rw [bh h, if_neg (by omega)]
     refine rk_seq ?_
     refine rk_reg ?_
     refine lw_v (.bool (decide (((i : Int)) < (((xs63 ++ List.replicate 4 (0 : Int)).length : Int))))) (dv_lss (a := (i : Int)) (b := ((xs63 ++ List.replicate 4 (0 : Int)).length : Int)) (T rfl f97) (T rfl f96)) ?_
     refine lw_nil ?_
     refine rk_seq ?_
     by_cases hb104 : ((i : Int)) < (((xs63 ++ List.replicate 4 (0 : Int)).length : Int))
     · refine rk_ct (T rfl (congrArg Value.bool (decide_eq_true hb104))) ?_
       refine rk_skip ?_
       refine rk_seq ?_
       refine rk_block ?_
       refine rk_seq ?_
       refine rk_reg ?_
       refine lw_v (.int .i64 ((i : Int))) (dv_move (T rfl f97)) ?_
       refine lw_v (.int .i64 ((i : Int))) (dv_assign (T rfl rfl)) ?_
       refine lw_nil ?_
       refine rk_reg ?_
       refine lw_v (.slice Ad79 ((xs63 ++ List.replicate 4 (0 : Int)).length) c80) (dv_move (T rfl f95)) ?_
       refine lw_v (.int .i64 ((i : Int))) (dv_move (T rfl rfl)) ?_
       refine lw_v (.slice Ad79 ((xs63 ++ List.replicate 4 (0 : Int)).length) c80) (dv_move (T rfl f95)) ?_
       refine lw_v (.int .i64 ((i : Int))) (dv_move (T rfl rfl)) ?_
       obtain ⟨g105, o106, rfl⟩ := Wd.at h102.wd (by first | omega | (simp; done) | (simp; omega))
       refine lw_v (.pointer (some ⟨g105, o106 + i, none⟩)) (dv_indexW (g := g105) (o := o106) (l := (xs63 ++ List.replicate 4 (0 : Int)).length) (c := c80) (i := i) (j := (i : Int)) us105 sz36 (T rfl rfl) (T rfl rfl) (by omega) (by first | omega | (simp; done) | (simp; omega))) ?_
       refine lw_v (.int .u64 (L.getD i 0)) (dv_load agt36 (T rfl rfl) (Wd.cell h102.wd (by first | omega | (simp; done) | (simp; omega)))) ?_
       refine lw_v (.int .u64 (18446744073709551615 - (L.getD i 0))) (dv_xor (a := L.getD i 0) (z := 18446744073709551615 - (L.getD i 0)) (T rfl rfl) (xor_u64 (by omega) (by omega))) ?_
       refine lw_v (.pointer (some ⟨g105, o106 + i, none⟩)) (dv_indexW (g := g105) (o := o106) (l := (xs63 ++ List.replicate 4 (0 : Int)).length) (c := c80) (i := i) (j := (i : Int)) us105 sz36 (T rfl rfl) (T rfl rfl) (by omega) (by first | omega | (simp; done) | (simp; omega))) ?_
       refine lw_e (oe_storeOw (base := w52.heap.size) (L := L) (g := g105) (o := o106) (i := i) (z := 18446744073709551615 - (L.getD i 0)) sz36 (T rfl rfl) (T rfl rfl) h102 (by first | omega | (simp; done) | (simp; omega)) ?_)
       intro w107 hO108 x109
       have E110 := below_bl E98 N72 x109
       refine lw_nil ?_
       refine rk_inBlock ?_
       refine rk_reg ?_
       refine lw_v (.int .i64 (((i : Int)) + 1)) (dv_add (a := (i : Int)) (b := 1) (z := ((i : Int)) + 1) (T rfl f97) C (wr_i64 (by omega) (by omega))) ?_
       refine lw_v (.int .i64 (((i : Int)) + 1)) (dv_move (T rfl rfl)) ?_
       refine lw_nil ?_
       have H111 := (bl_blk x109 H99 (by omega))
       have H112 := (bl_blk x109 H100 (by omega))
       have H113 := (bl_blk x109 H101 (by omega))
       exact ih90 ((xs63 ++ List.replicate 4 (0 : Int)).length - ((i + 1))) _ _ (by rw [hd103]; omega) ⟨(i + 1), (L.set i (18446744073709551615 - (L.getD i 0))), rfl, f93, f94, f95, f96, rfl, E110, H111, H112, H113, hO108, (by omega), (by simp [hln]), (comp_step (by omega) hln hpt)⟩
     · refine rk_cf (T rfl (congrArg Value.bool (decide_eq_false hb104))) ?_
       refine rk_exit rfl ?_
       refine rk_seq ?_
       refine rk_any (fun w => Wd w 36 .u64 Ad79 L) [14] mo ?_
       intro w114 d115
       have E116 := below_ext E98 E98.size d115.ext
       have h117 := (h102.ext d115.ext)
       refine aw_pure 0 (.slice Ad79 ((xs63 ++ List.replicate 4 (0 : Int)).length) c80) rfl (by kernel_rfl) .none h117.wd (fun _ => dv_move (T rfl f95)) ?_
       obtain ⟨g118, o119, rfl⟩ := Wd.at h117.wd (by first | omega | (simp; done) | (simp; omega))
       refine aw_pure 1 (.pointer (some ⟨g118, o119 + 3, none⟩)) rfl (by kernel_rfl) .none h117.wd (fun _ => dv_indexW (g := g118) (o := o119) (l := (xs63 ++ List.replicate 4 (0 : Int)).length) (c := c80) (i := 3) (j := 3) us105 sz36 (T rfl rfl) C (by omega) (by first | omega | (simp; done) | (simp; omega))) ?_
       refine aw_load 2 (.int .u64 (L.getD 3 0)) rfl (by kernel_rfl) .none h117.wd (fun _ s => dv_load agt36 (T rfl rfl) (Wd.cell s (by first | omega | (simp; done) | (simp; omega)))) ?_
       refine aw_pure 3 (.slice (some ⟨g118, o119, none⟩) ((xs63 ++ List.replicate 4 (0 : Int)).length) c80) rfl (by kernel_rfl) .none h117.wd (fun _ => dv_move (T rfl f95)) ?_
       refine aw_pure 4 (.pointer (some ⟨g118, o119 + 2, none⟩)) rfl (by kernel_rfl) .none h117.wd (fun _ => dv_indexW (g := g118) (o := o119) (l := (xs63 ++ List.replicate 4 (0 : Int)).length) (c := c80) (i := 2) (j := 2) us105 sz36 (T rfl rfl) C (by omega) (by first | omega | (simp; done) | (simp; omega))) ?_
       refine aw_load 5 (.int .u64 (L.getD 2 0)) rfl (by kernel_rfl) .none h117.wd (fun _ s => dv_load agt36 (T rfl rfl) (Wd.cell s (by first | omega | (simp; done) | (simp; omega)))) ?_
       refine aw_pure 6 (.slice (some ⟨g118, o119, none⟩) ((xs63 ++ List.replicate 4 (0 : Int)).length) c80) rfl (by kernel_rfl) .none h117.wd (fun _ => dv_move (T rfl f95)) ?_
       refine aw_pure 7 (.pointer (some ⟨g118, o119 + 1, none⟩)) rfl (by kernel_rfl) .none h117.wd (fun _ => dv_indexW (g := g118) (o := o119) (l := (xs63 ++ List.replicate 4 (0 : Int)).length) (c := c80) (i := 1) (j := 1) us105 sz36 (T rfl rfl) C (by omega) (by first | omega | (simp; done) | (simp; omega))) ?_
       refine aw_load 8 (.int .u64 (L.getD 1 0)) rfl (by kernel_rfl) .none h117.wd (fun _ s => dv_load agt36 (T rfl rfl) (Wd.cell s (by first | omega | (simp; done) | (simp; omega)))) ?_
       refine aw_pure 9 (.slice (some ⟨g118, o119, none⟩) ((xs63 ++ List.replicate 4 (0 : Int)).length) c80) rfl (by kernel_rfl) .none h117.wd (fun _ => dv_move (T rfl f95)) ?_
       refine aw_pure 10 (.pointer (some ⟨g118, o119 + 0, none⟩)) rfl (by kernel_rfl) .none h117.wd (fun _ => dv_indexW (g := g118) (o := o119) (l := (xs63 ++ List.replicate 4 (0 : Int)).length) (c := c80) (i := 0) (j := 0) us105 sz36 (T rfl rfl) C (by omega) (by first | omega | (simp; done) | (simp; omega))) ?_
       refine aw_load 11 (.int .u64 (L.getD 0 0)) rfl (by kernel_rfl) .none h117.wd (fun _ s => dv_load agt36 (T rfl rfl) (Wd.cell s (by first | omega | (simp; done) | (simp; omega)))) ?_
       refine aw_pure 12 (.agg #[.int .u64 (L.getD 3 0), .int .u64 (L.getD 2 0), .int .u64 (L.getD 1 0), .int .u64 (L.getD 0 0)]) rfl (by kernel_rfl) .none h117.wd (fun _ => dv_build (pv := [(0, .int .u64 (L.getD 3 0)), (1, .int .u64 (L.getD 2 0)), (2, .int .u64 (L.getD 1 0)), (3, .int .u64 (L.getD 0 0))]) (l := [.int .u64 (L.getD 3 0), .int .u64 (L.getD 2 0), .int .u64 (L.getD 1 0), .int .u64 (L.getD 0 0)]) zc38 pl38 ⟨rfl, (T rfl rfl), ⟨rfl, (T rfl rfl), ⟨rfl, (T rfl rfl), ⟨rfl, (T rfl rfl), trivial⟩⟩⟩⟩ rfl) ?_
       have H120 := (d115.ext.blk H100)
       refine aw_one 13 rfl (by kernel_rfl) .none (oe_store (v := .agg #[.int .u64 (L.getD 3 0), .int .u64 (L.getD 2 0), .int .u64 (L.getD 1 0), .int .u64 (L.getD 0 0)]) (vs := [.int .u64 (L.getD 3 0), .int .u64 (L.getD 2 0), .int .u64 (L.getD 1 0), .int .u64 (L.getD 0 0)]) (l := [.int .u64 (L.getD 3 0), .int .u64 (L.getD 2 0), .int .u64 (L.getD 1 0), .int .u64 (L.getD 0 0)]) (T rfl f93) (T rfl rfl) sz38 rfl rfl rfl H120 rfl ?_)
       intro w121 s122 H123
       have E124 := below_st E116 N9 s122
       have h125 := (h117.st s122 H120 (by decide))
       refine ⟨.inr h125.wd, ?_⟩
       refine aw_last 14 (.bool true) rfl (by kernel_rfl) .none (fun _ => dv_assign C) ?_
       refine aw_done (by kernel_rfl) ?_
       refine rk_ret Try.func127 (v := .tuple #[.agg #[.int .u64 (L.getD 3 0), .int .u64 (L.getD 2 0), .int .u64 (L.getD 1 0), .int .u64 (L.getD 0 0)], .bool true]) (res2 Try.results127 (rv_cells (l := [.int .u64 (L.getD 3 0), .int .u64 (L.getD 2 0), .int .u64 (L.getD 1 0), .int .u64 (L.getD 0 0)]) agt38 sz38 rfl f93 H123 rfl) (rv_tmp rfl rfl)) ⟨_, rfl, ?_⟩
       have hd := dig64 (okW.append ho67 (okW.replicate (by decide) 4))
       rw [valB_pad] at hd
       have hws := wide_neg (x := x) (q := valB (2 ^ 64) xs63) (by have := ha.neg_iff; simp_all) hv69 (by omega)
       have hc := comp_end (by omega) hpt
       exact ⟨tu2 (ag4 (vi (by rw [hc 3 (by omega), hd.2.2.2]; exact hws.2.1.symm)) (vi (by rw [hc 2 (by omega), hd.2.2.1]; exact hws.2.2.1.symm)) (vi (by rw [hc 1 (by omega), hd.2.1]; exact hws.2.2.2.1.symm)) (vi (by rw [hc 0 (by omega), hd.1]; exact hws.2.2.2.2.symm))) (vt hws.1), E124⟩
 · refine rk_cf (T rfl (congrArg Value.bool hb22)) ?_
   refine rk_skip ?_
   refine rk_seq ?_
   refine rk_seq ?_
   refine rk_reg ?_
   refine lw_v (.agg #[.bool na, .slice Aa la ca]) (dv_loads (l := [.bool na, .slice Aa la ca]) agt107 sz107 (T rfl rfl) H19 rfl) ?_
   have h126 := ha.ext E20
   refine lw_e (oe_callf (vs := [.agg #[.bool na, .slice Aa la ca]]) co104 (ar1 (T rfl rfl)) (nsize_num h126 (by first | omega | (simp; done) | (simp; omega))) ?_)
   rintro _ w127 ⟨rfl, e128⟩
   have E129 := below_ext E20 E20.size e128
   refine lw_v (.bool (decide (255 < ((nbits (x).natAbs : Int))))) (dv_gtr (a := (nbits (x).natAbs : Int)) (b := 255) (T rfl rfl) C) ?_
   refine lw_nil ?_
   by_cases hb130 : 255 < ((nbits (x).natAbs : Int))
   · refine rk_ct (T rfl (congrArg Value.bool (decide_eq_true hb130))) ?_
     refine rk_seq ?_
     refine rk_reg ?_
     refine lw_v (.agg #[.int .u64 0, .int .u64 0, .int .u64 0, .int .u64 0]) (dv_build (pv := []) (l := [.int .u64 0, .int .u64 0, .int .u64 0, .int .u64 0]) zc38 pl38 trivial rfl) ?_
     have H131 := (e128.blk (s18.blk (n14.ext.blk n8.blk) (by omega)))
     refine lw_e (oe_store (v := .agg #[.int .u64 0, .int .u64 0, .int .u64 0, .int .u64 0]) (vs := [.int .u64 0, .int .u64 0, .int .u64 0, .int .u64 0]) (l := [.int .u64 0, .int .u64 0, .int .u64 0, .int .u64 0]) (T rfl rfl) (T rfl rfl) sz38 rfl rfl rfl H131 rfl ?_)
     intro w132 s133 H134
     have E135 := below_st E129 N9 s133
     refine lw_v (.bool false) (dv_assign C) ?_
     refine lw_nil ?_
     refine rk_ret Try.func127 (v := .tuple #[.agg #[.int .u64 0, .int .u64 0, .int .u64 0, .int .u64 0], .bool false]) (res2 Try.results127 (rv_cells (l := [.int .u64 0, .int .u64 0, .int .u64 0, .int .u64 0]) agt38 sz38 rfl rfl H134 rfl) (rv_tmp rfl rfl)) ⟨_, rfl, ?_⟩
     have hno := wide_no (x := x) (by have := ha.neg_iff; first | (left; refine ⟨by simp_all, ?_⟩; omega) | (right; refine ⟨by by_cases hz : x < 0 <;> simp_all <;> omega, ?_⟩; omega))
     exact ⟨tu2 (ag4 (vi hno.2.1.symm) (vi hno.2.2.1.symm) (vi hno.2.2.2.1.symm) (vi hno.2.2.2.2.symm)) (vf hno.1), E135⟩
   · refine rk_cf (T rfl (congrArg Value.bool (decide_eq_false hb130))) ?_
     refine rk_skip ?_
     refine rk_seq ?_
     refine rk_reg ?_
     refine lw_v (.pointer (some ⟨b12, 1, none⟩)) (dv_fieldAddr (a := ⟨b12, 0, none⟩) (a' := ⟨b12, 1, none⟩) fo107_1 (T rfl rfl) rfl) ?_
     have H136 := (e128.blk H19)
     refine lw_v (.slice Aa la ca) (dv_load1 (b := b12) (o := 1) agt105 (T rfl rfl) H136 rfl) ?_
     have h137 := (h126.ext e128)
     obtain ⟨xs138, hl139, hc140, hw141, ho142, hk143, hv144⟩ := h137.wc
     have H145 := (e128.blk H21)
     have : b1 < w127.heap.size := lt_of_blk H145
     have H146 := (e128.blk (s18.blk (n14.ext.blk n8.blk) (by omega)))
     have : b6 < w127.heap.size := lt_of_blk H146
     have : b12 < w127.heap.size := lt_of_blk H136
     have N147 : w.heap.size ≤ w127.heap.size := E129.size
     refine lw_e (oe_callf (vs := [.slice Aa la ca]) co136 (ar1 (T rfl rfl)) (clone_ok hw141 hl139 (by first | omega | (simp; done) | (simp; omega))) ?_)
     rintro _ w151 ⟨Ad148, c149, rfl, e152, hO150⟩
     have E153 := below_ext E129 E129.size e152
     refine lw_e (oe_append0 (base := w127.heap.size) (L := xs138) (m := 4) (j := 4) us105 ui3 in36 (T rfl rfl) C rfl (by decide) (by decide) hO150 (by first | omega | (simp; done) | (simp; omega)) ?_)
     intro Ad154 c155 w156 hO157 x158
     have E159 := below_bl E153 N147 x158
     refine lw_v (.slice Ad154 ((xs138 ++ List.replicate 4 (0 : Int)).length) c155) (dv_assign (T rfl rfl)) ?_
     refine lw_nil ?_
     refine rk_seq ?_
     refine rk_seq ?_
     refine rk_reg ?_
     refine lw_v (.pointer (some ⟨b1, 0, none⟩)) (dv_fieldAddr (a := ⟨b1, 0, none⟩) (a' := ⟨b1, 0, none⟩) fo107_0 (T rfl rfl) rfl) ?_
     have H160 := (bl_blk x158 (e152.blk H145) (by omega))
     refine lw_v (.bool na) (dv_load1 (b := b1) (o := 0) agt4 (T rfl rfl) H160 rfl) ?_
     refine lw_nil ?_
     refine rk_cf (T rfl (congrArg Value.bool hb22)) ?_
     refine rk_skip ?_
     refine rk_seq ?_
     refine rk_any (fun w => Wd w 36 .u64 Ad154 ((xs138 ++ List.replicate 4 (0 : Int)))) [14] mo ?_
     intro w161 d162
     have E163 := below_ext E159 E159.size d162.ext
     have h164 := (hO157.ext d162.ext)
     refine aw_pure 0 (.slice Ad154 ((xs138 ++ List.replicate 4 (0 : Int)).length) c155) rfl (by kernel_rfl) .none h164.wd (fun _ => dv_move (T rfl rfl)) ?_
     obtain ⟨g165, o166, rfl⟩ := Wd.at h164.wd (by first | omega | (simp; done) | (simp; omega))
     refine aw_pure 1 (.pointer (some ⟨g165, o166 + 3, none⟩)) rfl (by kernel_rfl) .none h164.wd (fun _ => dv_indexW (g := g165) (o := o166) (l := (xs138 ++ List.replicate 4 (0 : Int)).length) (c := c155) (i := 3) (j := 3) us105 sz36 (T rfl rfl) C (by omega) (by first | omega | (simp; done) | (simp; omega))) ?_
     refine aw_load 2 (.int .u64 (((xs138 ++ List.replicate 4 (0 : Int))).getD 3 0)) rfl (by kernel_rfl) .none h164.wd (fun _ s => dv_load agt36 (T rfl rfl) (Wd.cell s (by first | omega | (simp; done) | (simp; omega)))) ?_
     refine aw_pure 3 (.slice (some ⟨g165, o166, none⟩) ((xs138 ++ List.replicate 4 (0 : Int)).length) c155) rfl (by kernel_rfl) .none h164.wd (fun _ => dv_move (T rfl rfl)) ?_
     refine aw_pure 4 (.pointer (some ⟨g165, o166 + 2, none⟩)) rfl (by kernel_rfl) .none h164.wd (fun _ => dv_indexW (g := g165) (o := o166) (l := (xs138 ++ List.replicate 4 (0 : Int)).length) (c := c155) (i := 2) (j := 2) us105 sz36 (T rfl rfl) C (by omega) (by first | omega | (simp; done) | (simp; omega))) ?_
     refine aw_load 5 (.int .u64 (((xs138 ++ List.replicate 4 (0 : Int))).getD 2 0)) rfl (by kernel_rfl) .none h164.wd (fun _ s => dv_load agt36 (T rfl rfl) (Wd.cell s (by first | omega | (simp; done) | (simp; omega)))) ?_
     refine aw_pure 6 (.slice (some ⟨g165, o166, none⟩) ((xs138 ++ List.replicate 4 (0 : Int)).length) c155) rfl (by kernel_rfl) .none h164.wd (fun _ => dv_move (T rfl rfl)) ?_
     refine aw_pure 7 (.pointer (some ⟨g165, o166 + 1, none⟩)) rfl (by kernel_rfl) .none h164.wd (fun _ => dv_indexW (g := g165) (o := o166) (l := (xs138 ++ List.replicate 4 (0 : Int)).length) (c := c155) (i := 1) (j := 1) us105 sz36 (T rfl rfl) C (by omega) (by first | omega | (simp; done) | (simp; omega))) ?_
     refine aw_load 8 (.int .u64 (((xs138 ++ List.replicate 4 (0 : Int))).getD 1 0)) rfl (by kernel_rfl) .none h164.wd (fun _ s => dv_load agt36 (T rfl rfl) (Wd.cell s (by first | omega | (simp; done) | (simp; omega)))) ?_
     refine aw_pure 9 (.slice (some ⟨g165, o166, none⟩) ((xs138 ++ List.replicate 4 (0 : Int)).length) c155) rfl (by kernel_rfl) .none h164.wd (fun _ => dv_move (T rfl rfl)) ?_
     refine aw_pure 10 (.pointer (some ⟨g165, o166 + 0, none⟩)) rfl (by kernel_rfl) .none h164.wd (fun _ => dv_indexW (g := g165) (o := o166) (l := (xs138 ++ List.replicate 4 (0 : Int)).length) (c := c155) (i := 0) (j := 0) us105 sz36 (T rfl rfl) C (by omega) (by first | omega | (simp; done) | (simp; omega))) ?_
     refine aw_load 11 (.int .u64 (((xs138 ++ List.replicate 4 (0 : Int))).getD 0 0)) rfl (by kernel_rfl) .none h164.wd (fun _ s => dv_load agt36 (T rfl rfl) (Wd.cell s (by first | omega | (simp; done) | (simp; omega)))) ?_
     refine aw_pure 12 (.agg #[.int .u64 (((xs138 ++ List.replicate 4 (0 : Int))).getD 3 0), .int .u64 (((xs138 ++ List.replicate 4 (0 : Int))).getD 2 0), .int .u64 (((xs138 ++ List.replicate 4 (0 : Int))).getD 1 0), .int .u64 (((xs138 ++ List.replicate 4 (0 : Int))).getD 0 0)]) rfl (by kernel_rfl) .none h164.wd (fun _ => dv_build (pv := [(0, .int .u64 (((xs138 ++ List.replicate 4 (0 : Int))).getD 3 0)), (1, .int .u64 (((xs138 ++ List.replicate 4 (0 : Int))).getD 2 0)), (2, .int .u64 (((xs138 ++ List.replicate 4 (0 : Int))).getD 1 0)), (3, .int .u64 (((xs138 ++ List.replicate 4 (0 : Int))).getD 0 0))]) (l := [.int .u64 (((xs138 ++ List.replicate 4 (0 : Int))).getD 3 0), .int .u64 (((xs138 ++ List.replicate 4 (0 : Int))).getD 2 0), .int .u64 (((xs138 ++ List.replicate 4 (0 : Int))).getD 1 0), .int .u64 (((xs138 ++ List.replicate 4 (0 : Int))).getD 0 0)]) zc38 pl38 ⟨rfl, (T rfl rfl), ⟨rfl, (T rfl rfl), ⟨rfl, (T rfl rfl), ⟨rfl, (T rfl rfl), trivial⟩⟩⟩⟩ rfl) ?_
     have H167 := (d162.ext.blk (bl_blk x158 (e152.blk H146) (by omega)))
     refine aw_one 13 rfl (by kernel_rfl) .none (oe_store (v := .agg #[.int .u64 (((xs138 ++ List.replicate 4 (0 : Int))).getD 3 0), .int .u64 (((xs138 ++ List.replicate 4 (0 : Int))).getD 2 0), .int .u64 (((xs138 ++ List.replicate 4 (0 : Int))).getD 1 0), .int .u64 (((xs138 ++ List.replicate 4 (0 : Int))).getD 0 0)]) (vs := [.int .u64 (((xs138 ++ List.replicate 4 (0 : Int))).getD 3 0), .int .u64 (((xs138 ++ List.replicate 4 (0 : Int))).getD 2 0), .int .u64 (((xs138 ++ List.replicate 4 (0 : Int))).getD 1 0), .int .u64 (((xs138 ++ List.replicate 4 (0 : Int))).getD 0 0)]) (l := [.int .u64 (((xs138 ++ List.replicate 4 (0 : Int))).getD 3 0), .int .u64 (((xs138 ++ List.replicate 4 (0 : Int))).getD 2 0), .int .u64 (((xs138 ++ List.replicate 4 (0 : Int))).getD 1 0), .int .u64 (((xs138 ++ List.replicate 4 (0 : Int))).getD 0 0)]) (T rfl rfl) (T rfl rfl) sz38 rfl rfl rfl H167 rfl ?_)
     intro w168 s169 H170
     have E171 := below_st E163 N9 s169
     have h172 := (h164.st s169 H167 (by decide))
     refine ⟨.inr h172.wd, ?_⟩
     refine aw_last 14 (.bool true) rfl (by kernel_rfl) .none (fun _ => dv_assign C) ?_
     refine aw_done (by kernel_rfl) ?_
     refine rk_ret Try.func127 (v := .tuple #[.agg #[.int .u64 (((xs138 ++ List.replicate 4 (0 : Int))).getD 3 0), .int .u64 (((xs138 ++ List.replicate 4 (0 : Int))).getD 2 0), .int .u64 (((xs138 ++ List.replicate 4 (0 : Int))).getD 1 0), .int .u64 (((xs138 ++ List.replicate 4 (0 : Int))).getD 0 0)], .bool true]) (res2 Try.results127 (rv_cells (l := [.int .u64 (((xs138 ++ List.replicate 4 (0 : Int))).getD 3 0), .int .u64 (((xs138 ++ List.replicate 4 (0 : Int))).getD 2 0), .int .u64 (((xs138 ++ List.replicate 4 (0 : Int))).getD 1 0), .int .u64 (((xs138 ++ List.replicate 4 (0 : Int))).getD 0 0)]) agt38 sz38 rfl rfl H170 rfl) (rv_tmp rfl rfl)) ⟨_, rfl, ?_⟩
     have hd := dig64 (okW.append ho142 (okW.replicate (by decide) 4))
     rw [valB_pad] at hd
     have hws := wide_pos (x := x) (q := valB (2 ^ 64) xs138) (by have := ha.neg_iff; by_cases hz : x < 0 <;> simp_all <;> omega) hv144 (by omega)
     exact ⟨tu2 (ag4 (vi (by rw [hd.2.2.2]; exact hws.2.1.symm)) (vi (by rw [hd.2.2.1]; exact hws.2.2.1.symm)) (vi (by rw [hd.2.1]; exact hws.2.2.2.1.symm)) (vi (by rw [hd.1]; exact hws.2.2.2.2.symm))) (vt hws.1), E171⟩
end Go.Proofs.Ytmbpomcbdopgnaa.W
set_option linter.unusedVariables false
set_option linter.unusedSimpArgs false
namespace Go.Proofs.Ytmbpomcbdopgnaa.W
open Go Go.RowKit Go.Proofs.Ytmbpomcbdopgnaa.Fw
attribute [local irreducible] RunK LW AW DV OE Ct
theorem co115 : callOk Try.prog 115 = true := by kernel_rfl
theorem mul64_ok {w : World} {x y : Int} (hx : 0 ≤ x ∧ x < 18446744073709551616) (hy : 0 ≤ y ∧ y < 18446744073709551616) : Ct Try.prog 115 [.int .u64 x, .int .u64 y] w fun v w1 => v = .tuple #[.int .u64 (x * y / 18446744073709551616), .int .u64 (x * y % 18446744073709551616)] ∧ Ext w w1 := by
 unfold Ct
 obtain ⟨X, rfl⟩ := Int.eq_ofNat_of_zero_le hx.1
 obtain ⟨Y, rfl⟩ := Int.eq_ofNat_of_zero_le hy.1
 exact Calls.mono (Try.bits_Mul64 X Y (by omega) (by omega) w) fun e w' ⟨he, hw⟩ => ⟨_, he, rfl, by subst hw; exact Below.refl _ _⟩
set_option maxHeartbeats 1000000 in
theorem nby_ok {w : World} {na : Bool} {Aa : Option Addr} {la ca : Nat} {x : Int} {sx : Nat} (ha : Num 64 36 .u64 w na Aa la ca x sx) {nb : Bool} {Ab : Option Addr} {lb cb : Nat} {y : Int} {sy : Nat} (hb : Num 64 36 .u64 w nb Ab lb cb y sy) (hs : sx ≤ 200000) (hs2 : sy ≤ 200000) : Ct Try.prog 71 [.agg #[.bool na, .slice Aa la ca], .agg #[.bool nb, .slice Ab lb cb]] w fun v w1 => ∃ nr A' n c', v = .agg #[.bool nr, .slice A' n c'] ∧ Ext w w1 ∧ Num 64 36 .u64 w1 nr A' n c' (x * y) (sx + sy) := by
 refine ct_run (n := 100) Try.func71 rfl Try.ntmps71 rfl ?_
 have E0 : Below w.heap.size w w := Below.refl _ _
 have lha := Num.len (by decide) ha
 have lhb := Num.len (by decide) hb
 obtain ⟨xs, hxl, hxc, hxw, ox, hxk, hxv⟩ := ha.wc
 obtain ⟨ys, hyl, hyc, hyw, oy, hyk, hyv⟩ := hb.wc
 refine rk_seq ?_
 refine rk_reg ?_
 refine lw_e (oe_box (v := .agg #[.bool na, .slice Aa la ca]) (cs := #[.bool na, .slice Aa la ca]) (T rfl rfl) rfl ?_)
 intro b1 w2 n3
 have N4 : w.heap.size ≤ b1 := n3.eq ▸ E0.size
 have E5 := below_ext E0 E0.size n3.ext
 refine lw_e (oe_box (v := .agg #[.bool nb, .slice Ab lb cb]) (cs := #[.bool nb, .slice Ab lb cb]) (T rfl rfl) rfl ?_)
 intro b6 w7 n8
 have N9 : w.heap.size ≤ b6 := n8.eq ▸ E5.size
 have : b1 < b6 := n8.eq ▸ lt_of_blk n3.blk
 have E10 := below_ext E5 E5.size n8.ext
 refine lw_e (oe_alloc ze107 ?_)
 intro b11 w12 n13
 have N14 : w.heap.size ≤ b11 := n13.eq ▸ E10.size
 have : b6 < b11 := n13.eq ▸ lt_of_blk n8.blk
 have E15 := below_ext E10 E10.size n13.ext
 refine lw_nil ?_
 refine rk_seq ?_
 refine rk_seq ?_
 refine rk_reg ?_
 refine lw_v (.pointer (some ⟨b1, 1, none⟩)) (dv_fieldAddr (a := ⟨b1, 0, none⟩) (a' := ⟨b1, 1, none⟩) fo107_1 (T rfl rfl) rfl) ?_
 have H16 := (n13.ext.blk (n8.ext.blk n3.blk))
 refine lw_v (.slice Aa la ca) (dv_load1 (b := b1) (o := 1) agt105 (T rfl rfl) H16 rfl) ?_
 refine lw_v (.int .i64 ((la : Int))) (dv_len (ad := Aa) (l := la) (c := ca) us105 (T rfl rfl)) ?_
 refine lw_v (.bool (decide (((la : Int)) = 0))) (dv_eql (a := (la : Int)) (b := 0) (T rfl rfl) C) ?_
 refine lw_v (.bool (decide (((la : Int)) = 0))) (dv_move (T rfl rfl)) ?_
 by_cases hb17 : ((la : Int)) = 0
 · refine lw_no (d := 18) rfl rfl (congrArg Value.bool (decide_eq_true hb17)) ?_
   refine lw_no (d := 18) rfl rfl (congrArg Value.bool (decide_eq_true hb17)) ?_
   refine lw_no (d := 18) rfl rfl (congrArg Value.bool (decide_eq_true hb17)) ?_
   refine lw_no (d := 18) rfl rfl (congrArg Value.bool (decide_eq_true hb17)) ?_
   refine lw_v (.bool true) (dv_pick_t (T rfl (congrArg Value.bool (decide_eq_true hb17))) C) ?_
   refine lw_nil ?_
   refine rk_ct (T rfl rfl) ?_
   refine rk_seq ?_
   refine rk_reg ?_
   refine lw_v (.agg #[.bool false, .slice none 0 0]) (dv_build (pv := []) (l := [.bool false, .slice none 0 0]) zc107 pl107 trivial rfl) ?_
   refine lw_e (oe_store (v := .agg #[.bool false, .slice none 0 0]) (vs := [.bool false, .slice none 0 0]) (l := [.bool false, .slice none 0 0]) (T rfl rfl) (T rfl rfl) sz107 rfl rfl rfl n13.blk rfl ?_)
   intro w18 s19 H20
   have E21 := below_st E15 N14 s19
   refine lw_nil ?_
   refine rk_ret Try.func71 (v := .agg #[.bool false, .slice none 0 0]) (res1 Try.results71 (rv_cells (l := [.bool false, .slice none 0 0]) agt107 sz107 rfl rfl H20 rfl)) ⟨_, rfl, ?_⟩
   exact ⟨_, _, _, _, rfl, E21, (Num.zero (s := 0)).tight (by have h1 := ha.pos_iff; have h2 := hb.pos_iff; exact (mul_zero_of (by omega)).symm) (by rw [Int.natAbs_mul]; exact nat_mul_sz ha.lt hb.lt)⟩
 · refine lw_vy (.pointer (some ⟨b6, 1, none⟩)) (d := 18) rfl rfl (congrArg Value.bool (decide_eq_false hb17)) (dv_fieldAddr (a := ⟨b6, 0, none⟩) (a' := ⟨b6, 1, none⟩) fo107_1 (T rfl rfl) rfl) ?_
   have H22 := (n13.ext.blk n8.blk)
   refine lw_vy (.slice Ab lb cb) (d := 18) rfl rfl (congrArg Value.bool (decide_eq_false hb17)) (dv_load1 (b := b6) (o := 1) agt105 (T rfl rfl) H22 rfl) ?_
   refine lw_vy (.int .i64 ((lb : Int))) (d := 18) rfl rfl (congrArg Value.bool (decide_eq_false hb17)) (dv_len (ad := Ab) (l := lb) (c := cb) us105 (T rfl rfl)) ?_
   refine lw_vy (.bool (decide (((lb : Int)) = 0))) (d := 18) rfl rfl (congrArg Value.bool (decide_eq_false hb17)) (dv_eql (a := (lb : Int)) (b := 0) (T rfl rfl) C) ?_
   refine lw_v (.bool (decide (((lb : Int)) = 0))) (dv_pick_f (T rfl (congrArg Value.bool (decide_eq_false hb17))) (T rfl rfl)) ?_
   refine lw_nil ?_
   by_cases hb23 : ((lb : Int)) = 0
   · refine rk_ct (T rfl (congrArg Value.bool (decide_eq_true hb23))) ?_
     refine rk_seq ?_
     refine rk_reg ?_
     refine lw_v (.agg #[.bool false, .slice none 0 0]) (dv_build (pv := []) (l := [.bool false, .slice none 0 0]) zc107 pl107 trivial rfl) ?_
     refine lw_e (oe_store (v := .agg #[.bool false, .slice none 0 0]) (vs := [.bool false, .slice none 0 0]) (l := [.bool false, .slice none 0 0]) (T rfl rfl) (T rfl rfl) sz107 rfl rfl rfl n13.blk rfl ?_)
     intro w24 s25 H26
     have E27 := below_st E15 N14 s25
     refine lw_nil ?_
     refine rk_ret Try.func71 (v := .agg #[.bool false, .slice none 0 0]) (res1 Try.results71 (rv_cells (l := [.bool false, .slice none 0 0]) agt107 sz107 rfl rfl H26 rfl)) ⟨_, rfl, ?_⟩
     exact ⟨_, _, _, _, rfl, E27, (Num.zero (s := 0)).tight (by have h1 := ha.pos_iff; have h2 := hb.pos_iff; exact (mul_zero_of (by omega)).symm) (by rw [Int.natAbs_mul]; exact nat_mul_sz ha.lt hb.lt)⟩
   · refine rk_cf (T rfl (congrArg Value.bool (decide_eq_false hb23))) ?_
     refine rk_skip ?_
     refine rk_seq ?_
     refine rk_reg ?_
     refine lw_v (.pointer (some ⟨b1, 1, none⟩)) (dv_fieldAddr (a := ⟨b1, 0, none⟩) (a' := ⟨b1, 1, none⟩) fo107_1 (T rfl rfl) rfl) ?_
     refine lw_v (.slice Aa la ca) (dv_load1 (b := b1) (o := 1) agt105 (T rfl rfl) H16 rfl) ?_
     refine lw_v (.int .i64 ((la : Int))) (dv_len (ad := Aa) (l := la) (c := ca) us105 (T rfl rfl)) ?_
     refine lw_v (.pointer (some ⟨b6, 1, none⟩)) (dv_fieldAddr (a := ⟨b6, 0, none⟩) (a' := ⟨b6, 1, none⟩) fo107_1 (T rfl rfl) rfl) ?_
     refine lw_v (.slice Ab lb cb) (dv_load1 (b := b6) (o := 1) agt105 (T rfl rfl) H22 rfl) ?_
     refine lw_v (.int .i64 ((lb : Int))) (dv_len (ad := Ab) (l := lb) (c := cb) us105 (T rfl rfl)) ?_
     refine lw_v (.int .i64 (((la : Int)) + ((lb : Int)))) (dv_add (a := (la : Int)) (b := (lb : Int)) (z := ((la : Int)) + ((lb : Int))) (T rfl rfl) (T rfl rfl) (wr_i64 (by omega) (by omega))) ?_
     refine lw_e (oe_makeW (l := ((la) + (lb))) (j := ((la : Int)) + ((lb : Int))) us105 in36 (T rfl rfl) (T rfl rfl) (by omega) (by first | omega | (simp; done) | (simp; omega)) (by first | omega | (simp; done) | (simp; omega)) ?_)
     intro b28 w29 n30
     have N31 : w.heap.size ≤ b28 := n30.eq ▸ E15.size
     have : b11 < b28 := n30.eq ▸ lt_of_blk n13.blk
     have E32 := below_ext E15 E15.size n30.ext
     refine lw_v (.slice (some ⟨b28, 0, none⟩) (((la) + (lb))) (((la) + (lb)))) (dv_assign (T rfl rfl)) ?_
     refine lw_nil ?_
     refine rk_seq ?_
     refine rk_seq ?_
     refine rk_reg ?_
     refine lw_v (.pointer (some ⟨b1, 1, none⟩)) (dv_fieldAddr (a := ⟨b1, 0, none⟩) (a' := ⟨b1, 1, none⟩) fo107_1 (T rfl rfl) rfl) ?_
     have H33 := (n30.ext.blk H16)
     refine lw_v (.slice Aa la ca) (dv_load1 (b := b1) (o := 1) agt105 (T rfl rfl) H33 rfl) ?_
     refine lw_v (.int .i64 ((la : Int))) (dv_len (ad := Aa) (l := la) (c := ca) us105 (T rfl rfl)) ?_
     refine lw_v (.int .i64 0) (dv_move C) ?_
     refine lw_nil ?_
     refine rk_block ?_
     have H34 := (n30.ext.blk H22)
     have H35 := (n30.ext.blk n13.blk)
     refine rk_loop (fun dm_ fr wl => ∃ (i : Nat) (L : List Int), dm_ = xs.length - i ∧ fr 2 = .pointer (some ⟨b1, 0, none⟩) ∧ fr 3 = .pointer (some ⟨b6, 0, none⟩) ∧ fr 4 = .pointer (some ⟨b11, 0, none⟩) ∧ fr 5 = .slice (some ⟨b28, 0, none⟩) (((la) + (lb))) (((la) + (lb))) ∧ fr 34 = .slice Aa la ca ∧ fr 35 = .int .i64 ((la : Int)) ∧ fr 36 = .int .i64 ((i : Int)) ∧ Below w.heap.size w wl ∧ wl.heap[b1]? = some (.cells #[.bool na, .slice Aa la ca] 107) ∧ wl.heap[b6]? = some (.cells #[.bool nb, .slice Ab lb cb] 107) ∧ wl.heap[b11]? = some (.cells #[.bool false, .slice none 0 0] 107) ∧ wl.heap[b28]? = some (.cells (L.map (Value.int .u64)).toArray 36) ∧ (i ≤ xs.length) ∧ (L.length = xs.length + ys.length) ∧ (okW (2 ^ 64) L) ∧ (valB (2 ^ 64) L = valB (2 ^ 64) (xs.take i) * valB (2 ^ 64) ys) ∧ (∀ q, i + ys.length ≤ q → L.getD q 0 = 0)) (xs.length - 0) ⟨0, (List.replicate (((la) + (lb))) (0 : Int)), rfl, rfl, rfl, rfl, rfl, rfl, rfl, (vi (by omega)), E32, H33, H34, H35, n30.blk, (Nat.zero_le _), (by simp; omega), (okW.replicate (by decide) _), (by rw [valB_zeros, List.take_zero]; simp [valB]), (fun q _ => rep_zero _ q)⟩ ?_
     intro d40 fr39 w36 hI37 ih38
     obtain ⟨i, L, hd53, f41, f42, f43, f44, f45, f46, f47, E48, H49, H50, H51, H52, hi, hl, hok, hv, hL0⟩ := hI37
     have bxs := okW.getD ox (by decide) i
     refine rk_seq ?_
     refine rk_reg ?_
     refine lw_v (.bool (decide (((i : Int)) < ((la : Int))))) (dv_lss (a := (i : Int)) (b := (la : Int)) (T rfl f47) (T rfl f46)) ?_
     refine lw_nil ?_
     refine rk_seq ?_
     by_cases hb54 : ((i : Int)) < ((la : Int))
     · refine rk_ct (T rfl (congrArg Value.bool (decide_eq_true hb54))) ?_
       refine rk_skip ?_
       refine rk_seq ?_
       refine rk_block ?_
       refine rk_seq ?_
       refine rk_reg ?_
       refine lw_v (.int .i64 ((i : Int))) (dv_move (T rfl f47)) ?_
       have h55 := (hxw.ext E48)
       obtain ⟨g56, o57, rfl⟩ := Wd.at h55 (by first | omega | (simp; done) | (simp; omega))
       refine lw_v (.pointer (some ⟨g56, o57 + i, none⟩)) (dv_indexW (g := g56) (o := o57) (l := la) (c := ca) (i := i) (j := (i : Int)) us105 sz36 (T rfl f45) (T rfl f47) (by omega) (by first | omega | (simp; done) | (simp; omega))) ?_
       refine lw_v (.int .u64 (xs.getD i 0)) (dv_load agt36 (T rfl rfl) (Wd.cell h55 (by first | omega | (simp; done) | (simp; omega)))) ?_
       refine lw_v (.int .i64 ((i : Int))) (dv_assign (T rfl rfl)) ?_
       refine lw_v (.int .u64 (xs.getD i 0)) (dv_assign (T rfl rfl)) ?_
       refine lw_nil ?_
       refine rk_seq ?_
       refine rk_reg ?_
       refine lw_v (.int .u64 0) (dv_assign C) ?_
       refine lw_nil ?_
       refine rk_seq ?_
       refine rk_seq ?_
       refine rk_reg ?_
       refine lw_v (.pointer (some ⟨b6, 1, none⟩)) (dv_fieldAddr (a := ⟨b6, 0, none⟩) (a' := ⟨b6, 1, none⟩) fo107_1 (T rfl f42) rfl) ?_
       refine lw_v (.slice Ab lb cb) (dv_load1 (b := b6) (o := 1) agt105 (T rfl rfl) H50 rfl) ?_
       refine lw_v (.int .i64 ((lb : Int))) (dv_len (ad := Ab) (l := lb) (c := cb) us105 (T rfl rfl)) ?_
       refine lw_v (.int .i64 0) (dv_move C) ?_
       refine lw_nil ?_
       refine rk_block ?_
       refine rk_loop (fun dm_ fr wl => ∃ (k : Nat) (M : List Int) (cy : Int), dm_ = ys.length - k ∧ fr 2 = .pointer (some ⟨b1, 0, none⟩) ∧ fr 3 = .pointer (some ⟨b6, 0, none⟩) ∧ fr 4 = .pointer (some ⟨b11, 0, none⟩) ∧ fr 5 = .slice (some ⟨b28, 0, none⟩) (((la) + (lb))) (((la) + (lb))) ∧ fr 6 = .int .i64 ((i : Int)) ∧ fr 7 = .int .u64 (xs.getD i 0) ∧ fr 8 = .int .u64 cy ∧ fr 34 = .slice (some ⟨g56, o57, none⟩) la ca ∧ fr 35 = .int .i64 ((la : Int)) ∧ fr 36 = .int .i64 ((i : Int)) ∧ fr 37 = .bool (decide (((i : Int)) < ((la : Int)))) ∧ fr 38 = .int .i64 ((i : Int)) ∧ fr 39 = .pointer (some ⟨g56, o57 + i, none⟩) ∧ fr 40 = .int .u64 (xs.getD i 0) ∧ fr 41 = .pointer (some ⟨b6, 1, none⟩) ∧ fr 42 = .slice Ab lb cb ∧ fr 43 = .int .i64 ((lb : Int)) ∧ fr 44 = .int .i64 ((k : Int)) ∧ Below w.heap.size w wl ∧ wl.heap[b1]? = some (.cells #[.bool na, .slice (some ⟨g56, o57, none⟩) la ca] 107) ∧ wl.heap[b6]? = some (.cells #[.bool nb, .slice Ab lb cb] 107) ∧ wl.heap[b11]? = some (.cells #[.bool false, .slice none 0 0] 107) ∧ wl.heap[b28]? = some (.cells (M.map (Value.int .u64)).toArray 36) ∧ (k ≤ ys.length) ∧ (M.length = xs.length + ys.length) ∧ (okW (2 ^ 64) M) ∧ (0 ≤ cy ∧ cy < 18446744073709551616) ∧ (valB (2 ^ 64) M + cy * (2 ^ 64) ^ (i + k) = valB (2 ^ 64) (xs.take i) * valB (2 ^ 64) ys + xs.getD i 0 * valB (2 ^ 64) (ys.take k) * (2 ^ 64) ^ i) ∧ (∀ q, i + ys.length ≤ q → M.getD q 0 = 0)) (ys.length - 0) ⟨0, L, 0, rfl, f41, f42, f43, f44, rfl, rfl, rfl, f45, f46, f47, rfl, rfl, rfl, rfl, rfl, rfl, rfl, (vi (by omega)), E48, H49, H50, H51, H52, (Nat.zero_le _), hl, hok, (by decide), (mul_start hv), hL0⟩ ?_
       intro d62 fr61 w58 hI59 ih60
       obtain ⟨k, M, cy, hd86, f63, f64, f65, f66, f67, f68, f69, f70, f71, f72, f73, f74, f75, f76, f77, f78, f79, f80, E81, H82, H83, H84, H85, hk, hMl, hok2, hcy, hM, hM0⟩ := hI59
       have bys := okW.getD oy (by decide) k
       have bMk := okW.getD hok2 (by decide) (i + k)
       refine rk_seq ?_
       refine rk_reg ?_
       refine lw_v (.bool (decide (((k : Int)) < ((lb : Int))))) (dv_lss (a := (k : Int)) (b := (lb : Int)) (T rfl f80) (T rfl f79)) ?_
       refine lw_nil ?_
       refine rk_seq ?_
       by_cases hb87 : ((k : Int)) < ((lb : Int))
       · refine rk_ct (T rfl (congrArg Value.bool (decide_eq_true hb87))) ?_
         refine rk_skip ?_
         refine rk_seq ?_
         refine rk_block ?_
         refine rk_seq ?_
         refine rk_reg ?_
         refine lw_v (.int .i64 ((k : Int))) (dv_move (T rfl f80)) ?_
         have h88 := (hyw.ext E81)
         obtain ⟨g89, o90, rfl⟩ := Wd.at h88 (by first | omega | (simp; done) | (simp; omega))
         refine lw_v (.pointer (some ⟨g89, o90 + k, none⟩)) (dv_indexW (g := g89) (o := o90) (l := lb) (c := cb) (i := k) (j := (k : Int)) us105 sz36 (T rfl f78) (T rfl f80) (by omega) (by first | omega | (simp; done) | (simp; omega))) ?_
         refine lw_v (.int .u64 (ys.getD k 0)) (dv_load agt36 (T rfl rfl) (Wd.cell h88 (by first | omega | (simp; done) | (simp; omega)))) ?_
         refine lw_v (.int .i64 ((k : Int))) (dv_assign (T rfl rfl)) ?_
         refine lw_v (.int .u64 (ys.getD k 0)) (dv_assign (T rfl rfl)) ?_
         refine lw_nil ?_
         refine rk_seq ?_
         refine rk_reg ?_
         refine lw_v (.int .u64 (xs.getD i 0)) (dv_move (T rfl f68)) ?_
         refine lw_v (.int .u64 (ys.getD k 0)) (dv_move (T rfl rfl)) ?_
         have hm91 := mul_pos_bd (A := 18446744073709551615) (show 0 ≤ xs.getD i 0 by omega) (by omega) (show 0 ≤ ys.getD k 0 by omega) (by omega)
         refine lw_e (oe_callf (vs := [.int .u64 (xs.getD i 0), .int .u64 (ys.getD k 0)]) co115 (ar2 (T rfl rfl) (T rfl rfl)) (mul64_ok (by omega) (by omega)) ?_)
         rintro _ w92 ⟨rfl, e93⟩
         have E94 := below_ext E81 E81.size e93
         refine lw_v (.tuple #[.int .u64 ((xs.getD i 0) * (ys.getD k 0) / 18446744073709551616), .int .u64 ((xs.getD i 0) * (ys.getD k 0) % 18446744073709551616)]) (dv_move (T rfl rfl)) ?_
         refine lw_v (.int .u64 ((xs.getD i 0) * (ys.getD k 0) / 18446744073709551616)) (dv_extract (vs := #[.int .u64 ((xs.getD i 0) * (ys.getD k 0) / 18446744073709551616), .int .u64 ((xs.getD i 0) * (ys.getD k 0) % 18446744073709551616)]) (T rfl rfl) rfl) ?_
         refine lw_v (.int .u64 ((xs.getD i 0) * (ys.getD k 0) % 18446744073709551616)) (dv_extract (vs := #[.int .u64 ((xs.getD i 0) * (ys.getD k 0) / 18446744073709551616), .int .u64 ((xs.getD i 0) * (ys.getD k 0) % 18446744073709551616)]) (T rfl rfl) rfl) ?_
         refine lw_v (.int .u64 ((xs.getD i 0) * (ys.getD k 0) / 18446744073709551616)) (dv_assign (T rfl rfl)) ?_
         refine lw_v (.int .u64 ((xs.getD i 0) * (ys.getD k 0) % 18446744073709551616)) (dv_assign (T rfl rfl)) ?_
         refine lw_nil ?_
         refine rk_seq ?_
         refine rk_reg ?_
         refine lw_v (.int .u64 0) (dv_assign C) ?_
         refine lw_nil ?_
         refine rk_seq ?_
         refine rk_reg ?_
         refine lw_v (.int .u64 ((xs.getD i 0) * (ys.getD k 0) % 18446744073709551616)) (dv_move (T rfl rfl)) ?_
         refine lw_v (.int .u64 cy) (dv_move (T rfl f69)) ?_
         refine lw_v (.tuple #[.int .u64 ((((xs.getD i 0) * (ys.getD k 0) % 18446744073709551616) + cy + 0) % 18446744073709551616), .int .u64 ((((xs.getD i 0) * (ys.getD k 0) % 18446744073709551616) + cy + 0) / 18446744073709551616)]) (dv_ext (e := add64Entry) (vs := [.int .u64 ((xs.getD i 0) * (ys.getD k 0) % 18446744073709551616), .int .u64 cy, .int .u64 0]) Try.func116 rfl rfl (by kernel_rfl) (by kernel_rfl) (ar3 (T rfl rfl) (T rfl rfl) C) (run_addE ((xs.getD i 0) * (ys.getD k 0) % 18446744073709551616) cy 0 (by omega) (by omega) (by omega))) ?_
         refine lw_v (.tuple #[.int .u64 ((((xs.getD i 0) * (ys.getD k 0) % 18446744073709551616) + cy + 0) % 18446744073709551616), .int .u64 ((((xs.getD i 0) * (ys.getD k 0) % 18446744073709551616) + cy + 0) / 18446744073709551616)]) (dv_move (T rfl rfl)) ?_
         refine lw_v (.int .u64 ((((xs.getD i 0) * (ys.getD k 0) % 18446744073709551616) + cy + 0) % 18446744073709551616)) (dv_extract (vs := #[.int .u64 ((((xs.getD i 0) * (ys.getD k 0) % 18446744073709551616) + cy + 0) % 18446744073709551616), .int .u64 ((((xs.getD i 0) * (ys.getD k 0) % 18446744073709551616) + cy + 0) / 18446744073709551616)]) (T rfl rfl) rfl) ?_
         refine lw_v (.int .u64 ((((xs.getD i 0) * (ys.getD k 0) % 18446744073709551616) + cy + 0) / 18446744073709551616)) (dv_extract (vs := #[.int .u64 ((((xs.getD i 0) * (ys.getD k 0) % 18446744073709551616) + cy + 0) % 18446744073709551616), .int .u64 ((((xs.getD i 0) * (ys.getD k 0) % 18446744073709551616) + cy + 0) / 18446744073709551616)]) (T rfl rfl) rfl) ?_
         refine lw_v (.int .u64 ((((xs.getD i 0) * (ys.getD k 0) % 18446744073709551616) + cy + 0) % 18446744073709551616)) (dv_assign (T rfl rfl)) ?_
         refine lw_v (.int .u64 ((((xs.getD i 0) * (ys.getD k 0) % 18446744073709551616) + cy + 0) / 18446744073709551616)) (dv_assign (T rfl rfl)) ?_
         refine lw_nil ?_
         refine rk_seq ?_
         refine rk_reg ?_
         refine lw_v (.int .u64 ((xs.getD i 0) * (ys.getD k 0) / 18446744073709551616)) (dv_move (T rfl rfl)) ?_
         refine lw_v (.int .u64 ((((xs.getD i 0) * (ys.getD k 0) % 18446744073709551616) + cy + 0) / 18446744073709551616)) (dv_move (T rfl rfl)) ?_
         refine lw_v (.int .u64 (((xs.getD i 0) * (ys.getD k 0) / 18446744073709551616) + ((((xs.getD i 0) * (ys.getD k 0) % 18446744073709551616) + cy + 0) / 18446744073709551616))) (dv_add (a := (xs.getD i 0) * (ys.getD k 0) / 18446744073709551616) (b := (((xs.getD i 0) * (ys.getD k 0) % 18446744073709551616) + cy + 0) / 18446744073709551616) (z := ((xs.getD i 0) * (ys.getD k 0) / 18446744073709551616) + ((((xs.getD i 0) * (ys.getD k 0) % 18446744073709551616) + cy + 0) / 18446744073709551616)) (T rfl rfl) (T rfl rfl) (wn_u64 (by omega) (by omega))) ?_
         refine lw_v (.int .u64 (((xs.getD i 0) * (ys.getD k 0) / 18446744073709551616) + ((((xs.getD i 0) * (ys.getD k 0) % 18446744073709551616) + cy + 0) / 18446744073709551616))) (dv_assign (T rfl rfl)) ?_
         refine lw_nil ?_
         refine rk_seq ?_
         refine rk_reg ?_
         refine lw_v (.slice (some ⟨b28, 0, none⟩) (((la) + (lb))) (((la) + (lb)))) (dv_move (T rfl f66)) ?_
         refine lw_v (.int .i64 ((i : Int))) (dv_move (T rfl f67)) ?_
         refine lw_v (.int .i64 ((k : Int))) (dv_move (T rfl rfl)) ?_
         refine lw_v (.int .i64 (((i : Int)) + ((k : Int)))) (dv_add (a := (i : Int)) (b := (k : Int)) (z := ((i : Int)) + ((k : Int))) (T rfl rfl) (T rfl rfl) (wr_i64 (by omega) (by omega))) ?_
         refine lw_v (.slice (some ⟨b28, 0, none⟩) (((la) + (lb))) (((la) + (lb)))) (dv_move (T rfl f66)) ?_
         refine lw_v (.int .i64 ((i : Int))) (dv_move (T rfl f67)) ?_
         refine lw_v (.int .i64 ((k : Int))) (dv_move (T rfl rfl)) ?_
         refine lw_v (.int .i64 (((i : Int)) + ((k : Int)))) (dv_add (a := (i : Int)) (b := (k : Int)) (z := ((i : Int)) + ((k : Int))) (T rfl rfl) (T rfl rfl) (wr_i64 (by omega) (by omega))) ?_
         refine lw_v (.pointer (some ⟨b28, (((i) + (k))), none⟩)) (dv_indexO (g := b28) (l := ((la) + (lb))) (c := ((la) + (lb))) (i := ((i) + (k))) (j := ((i : Int)) + ((k : Int))) us105 sz36 (T rfl rfl) (T rfl rfl) (by omega) (by first | omega | (simp; done) | (simp; omega))) ?_
         have H95 := (e93.blk H85)
         refine lw_v (.int .u64 (M.getD (((i) + (k))) 0)) (dv_loadW (L := M) (v := M.getD (((i) + (k))) 0) agt36 (T rfl rfl) H95 (by first | omega | (simp; done) | (simp; omega)) rfl) ?_
         refine lw_v (.int .u64 ((((xs.getD i 0) * (ys.getD k 0) % 18446744073709551616) + cy + 0) % 18446744073709551616)) (dv_move (T rfl rfl)) ?_
         refine lw_v (.tuple #[.int .u64 (((M.getD (((i) + (k))) 0) + ((((xs.getD i 0) * (ys.getD k 0) % 18446744073709551616) + cy + 0) % 18446744073709551616) + 0) % 18446744073709551616), .int .u64 (((M.getD (((i) + (k))) 0) + ((((xs.getD i 0) * (ys.getD k 0) % 18446744073709551616) + cy + 0) % 18446744073709551616) + 0) / 18446744073709551616)]) (dv_ext (e := add64Entry) (vs := [.int .u64 (M.getD (((i) + (k))) 0), .int .u64 ((((xs.getD i 0) * (ys.getD k 0) % 18446744073709551616) + cy + 0) % 18446744073709551616), .int .u64 0]) Try.func116 rfl rfl (by kernel_rfl) (by kernel_rfl) (ar3 (T rfl rfl) (T rfl rfl) C) (run_addE (M.getD (((i) + (k))) 0) ((((xs.getD i 0) * (ys.getD k 0) % 18446744073709551616) + cy + 0) % 18446744073709551616) 0 (by omega) (by omega) (by omega))) ?_
         refine lw_v (.tuple #[.int .u64 (((M.getD (((i) + (k))) 0) + ((((xs.getD i 0) * (ys.getD k 0) % 18446744073709551616) + cy + 0) % 18446744073709551616) + 0) % 18446744073709551616), .int .u64 (((M.getD (((i) + (k))) 0) + ((((xs.getD i 0) * (ys.getD k 0) % 18446744073709551616) + cy + 0) % 18446744073709551616) + 0) / 18446744073709551616)]) (dv_move (T rfl rfl)) ?_
         refine lw_v (.int .u64 (((M.getD (((i) + (k))) 0) + ((((xs.getD i 0) * (ys.getD k 0) % 18446744073709551616) + cy + 0) % 18446744073709551616) + 0) % 18446744073709551616)) (dv_extract (vs := #[.int .u64 (((M.getD (((i) + (k))) 0) + ((((xs.getD i 0) * (ys.getD k 0) % 18446744073709551616) + cy + 0) % 18446744073709551616) + 0) % 18446744073709551616), .int .u64 (((M.getD (((i) + (k))) 0) + ((((xs.getD i 0) * (ys.getD k 0) % 18446744073709551616) + cy + 0) % 18446744073709551616) + 0) / 18446744073709551616)]) (T rfl rfl) rfl) ?_
         refine lw_v (.int .u64 (((M.getD (((i) + (k))) 0) + ((((xs.getD i 0) * (ys.getD k 0) % 18446744073709551616) + cy + 0) % 18446744073709551616) + 0) / 18446744073709551616)) (dv_extract (vs := #[.int .u64 (((M.getD (((i) + (k))) 0) + ((((xs.getD i 0) * (ys.getD k 0) % 18446744073709551616) + cy + 0) % 18446744073709551616) + 0) % 18446744073709551616), .int .u64 (((M.getD (((i) + (k))) 0) + ((((xs.getD i 0) * (ys.getD k 0) % 18446744073709551616) + cy + 0) % 18446744073709551616) + 0) / 18446744073709551616)]) (T rfl rfl) rfl) ?_
         refine lw_v (.pointer (some ⟨b28, (((i) + (k))), none⟩)) (dv_indexO (g := b28) (l := ((la) + (lb))) (c := ((la) + (lb))) (i := ((i) + (k))) (j := ((i : Int)) + ((k : Int))) us105 sz36 (T rfl rfl) (T rfl rfl) (by omega) (by first | omega | (simp; done) | (simp; omega))) ?_
         refine lw_e (oe_storeW (L := M) (i := ((i) + (k))) (z := ((M.getD (((i) + (k))) 0) + ((((xs.getD i 0) * (ys.getD k 0) % 18446744073709551616) + cy + 0) % 18446744073709551616) + 0) % 18446744073709551616) sz36 (T rfl rfl) (T rfl rfl) H95 (by first | omega | (simp; done) | (simp; omega)) ?_)
         intro w96 s97 H98
         have E99 := below_st E94 N31 s97
         refine lw_v (.int .u64 (((M.getD (((i) + (k))) 0) + ((((xs.getD i 0) * (ys.getD k 0) % 18446744073709551616) + cy + 0) % 18446744073709551616) + 0) / 18446744073709551616)) (dv_assign (T rfl rfl)) ?_
         refine lw_nil ?_
         refine rk_reg ?_
         refine lw_v (.int .u64 (((xs.getD i 0) * (ys.getD k 0) / 18446744073709551616) + ((((xs.getD i 0) * (ys.getD k 0) % 18446744073709551616) + cy + 0) / 18446744073709551616))) (dv_move (T rfl rfl)) ?_
         refine lw_v (.int .u64 (((M.getD (((i) + (k))) 0) + ((((xs.getD i 0) * (ys.getD k 0) % 18446744073709551616) + cy + 0) % 18446744073709551616) + 0) / 18446744073709551616)) (dv_move (T rfl rfl)) ?_
         refine lw_v (.int .u64 ((((xs.getD i 0) * (ys.getD k 0) / 18446744073709551616) + ((((xs.getD i 0) * (ys.getD k 0) % 18446744073709551616) + cy + 0) / 18446744073709551616)) + (((M.getD (((i) + (k))) 0) + ((((xs.getD i 0) * (ys.getD k 0) % 18446744073709551616) + cy + 0) % 18446744073709551616) + 0) / 18446744073709551616))) (dv_add (a := ((xs.getD i 0) * (ys.getD k 0) / 18446744073709551616) + ((((xs.getD i 0) * (ys.getD k 0) % 18446744073709551616) + cy + 0) / 18446744073709551616)) (b := ((M.getD (((i) + (k))) 0) + ((((xs.getD i 0) * (ys.getD k 0) % 18446744073709551616) + cy + 0) % 18446744073709551616) + 0) / 18446744073709551616) (z := (((xs.getD i 0) * (ys.getD k 0) / 18446744073709551616) + ((((xs.getD i 0) * (ys.getD k 0) % 18446744073709551616) + cy + 0) / 18446744073709551616)) + (((M.getD (((i) + (k))) 0) + ((((xs.getD i 0) * (ys.getD k 0) % 18446744073709551616) + cy + 0) % 18446744073709551616) + 0) / 18446744073709551616)) (T rfl rfl) (T rfl rfl) (wn_u64 (by omega) (by omega))) ?_
         refine lw_v (.int .u64 ((((xs.getD i 0) * (ys.getD k 0) / 18446744073709551616) + ((((xs.getD i 0) * (ys.getD k 0) % 18446744073709551616) + cy + 0) / 18446744073709551616)) + (((M.getD (((i) + (k))) 0) + ((((xs.getD i 0) * (ys.getD k 0) % 18446744073709551616) + cy + 0) % 18446744073709551616) + 0) / 18446744073709551616))) (dv_assign (T rfl rfl)) ?_
         refine lw_nil ?_
         refine rk_inBlock ?_
         refine rk_reg ?_
         refine lw_v (.int .i64 (((k : Int)) + 1)) (dv_add (a := (k : Int)) (b := 1) (z := ((k : Int)) + 1) (T rfl f80) C (wr_i64 (by omega) (by omega))) ?_
         refine lw_v (.int .i64 (((k : Int)) + 1)) (dv_move (T rfl rfl)) ?_
         refine lw_nil ?_
         have H100 := (s97.blk (e93.blk H82) (by omega))
         have H101 := (s97.blk (e93.blk H83) (by omega))
         have H102 := (s97.blk (e93.blk H84) (by omega))
         exact ih60 (ys.length - ((k + 1))) _ _ (by rw [hd86]; omega) ⟨(k + 1), (M.set (((i) + (k))) (((M.getD (((i) + (k))) 0) + ((((xs.getD i 0) * (ys.getD k 0) % 18446744073709551616) + cy + 0) % 18446744073709551616) + 0) % 18446744073709551616)), ((((xs.getD i 0) * (ys.getD k 0) / 18446744073709551616) + ((((xs.getD i 0) * (ys.getD k 0) % 18446744073709551616) + cy + 0) / 18446744073709551616)) + (((M.getD (((i) + (k))) 0) + ((((xs.getD i 0) * (ys.getD k 0) % 18446744073709551616) + cy + 0) % 18446744073709551616) + 0) / 18446744073709551616)), rfl, f63, f64, f65, f66, f67, f68, rfl, f70, f71, f72, f73, f74, f75, f76, f77, f78, f79, (vi (by omega)), E99, H100, H101, H102, H98, (by omega), (by simp; omega), (okW.set hok2 (by omega) (by omega) _), (by omega), (mul_step (by omega) hM rfl rfl (by omega)), (zero_set hM0 (by omega))⟩
       · refine rk_cf (T rfl (congrArg Value.bool (decide_eq_false hb87))) ?_
         refine rk_exit rfl ?_
         refine rk_reg ?_
         refine lw_v (.slice (some ⟨b28, 0, none⟩) (((la) + (lb))) (((la) + (lb)))) (dv_move (T rfl f66)) ?_
         refine lw_v (.int .i64 ((i : Int))) (dv_move (T rfl f67)) ?_
         refine lw_v (.pointer (some ⟨b6, 1, none⟩)) (dv_fieldAddr (a := ⟨b6, 0, none⟩) (a' := ⟨b6, 1, none⟩) fo107_1 (T rfl f64) rfl) ?_
         refine lw_v (.slice Ab lb cb) (dv_load1 (b := b6) (o := 1) agt105 (T rfl rfl) H83 rfl) ?_
         refine lw_v (.int .i64 ((lb : Int))) (dv_len (ad := Ab) (l := lb) (c := cb) us105 (T rfl rfl)) ?_
         refine lw_v (.int .i64 (((i : Int)) + ((lb : Int)))) (dv_add (a := (i : Int)) (b := (lb : Int)) (z := ((i : Int)) + ((lb : Int))) (T rfl rfl) (T rfl rfl) (wr_i64 (by omega) (by omega))) ?_
         refine lw_v (.int .u64 cy) (dv_move (T rfl f69)) ?_
         refine lw_v (.pointer (some ⟨b28, (((i) + (lb))), none⟩)) (dv_indexO (g := b28) (l := ((la) + (lb))) (c := ((la) + (lb))) (i := ((i) + (lb))) (j := ((i : Int)) + ((lb : Int))) us105 sz36 (T rfl rfl) (T rfl rfl) (by omega) (by first | omega | (simp; done) | (simp; omega))) ?_
         refine lw_e (oe_storeW (L := M) (i := ((i) + (lb))) (z := cy) sz36 (T rfl rfl) (T rfl rfl) H85 (by first | omega | (simp; done) | (simp; omega)) ?_)
         intro w103 s104 H105
         have E106 := below_st E81 N31 s104
         refine lw_nil ?_
         refine rk_inBlock ?_
         refine rk_reg ?_
         refine lw_v (.int .i64 (((i : Int)) + 1)) (dv_add (a := (i : Int)) (b := 1) (z := ((i : Int)) + 1) (T rfl f72) C (wr_i64 (by omega) (by omega))) ?_
         refine lw_v (.int .i64 (((i : Int)) + 1)) (dv_move (T rfl rfl)) ?_
         refine lw_nil ?_
         have H107 := (s104.blk H82 (by omega))
         have H108 := (s104.blk H83 (by omega))
         have H109 := (s104.blk H84 (by omega))
         exact ih38 (xs.length - ((i + 1))) _ _ (by rw [hd53]; omega) ⟨(i + 1), (M.set (((i) + (lb))) cy), rfl, f63, f64, f65, f66, f70, f71, (vi (by omega)), E106, H107, H108, H109, H105, (by omega), (by simp; omega), (okW.set hok2 (by omega) (by omega) _), (by have hk : k = ys.length := (by omega); subst hk; rw [← hyl]; exact mul_last (by omega) (hM0 _ (by omega)) hM), (by rw [← hyl]; intro q hq; exact zero_set1 hM0 q (by omega))⟩
     · refine rk_cf (T rfl (congrArg Value.bool (decide_eq_false hb54))) ?_
       refine rk_exit rfl ?_
       refine rk_seq ?_
       refine rk_reg ?_
       refine lw_v (.pointer (some ⟨b1, 0, none⟩)) (dv_fieldAddr (a := ⟨b1, 0, none⟩) (a' := ⟨b1, 0, none⟩) fo107_0 (T rfl f41) rfl) ?_
       refine lw_v (.bool na) (dv_load1 (b := b1) (o := 0) agt4 (T rfl rfl) H49 rfl) ?_
       refine lw_v (.pointer (some ⟨b6, 0, none⟩)) (dv_fieldAddr (a := ⟨b6, 0, none⟩) (a' := ⟨b6, 0, none⟩) fo107_0 (T rfl f42) rfl) ?_
       refine lw_v (.bool nb) (dv_load1 (b := b6) (o := 0) agt4 (T rfl rfl) H50 rfl) ?_
       refine lw_v (.bool (na != nb)) (dv_neqb (a := na) (b := nb) ub4 (T rfl rfl) (T rfl rfl)) ?_
       refine lw_v (.slice (some ⟨b28, 0, none⟩) (((la) + (lb))) (((la) + (lb)))) (dv_move (T rfl f44)) ?_
       refine lw_e (oe_callf (vs := [.bool (na != nb), .slice (some ⟨b28, 0, none⟩) (((la) + (lb))) (((la) + (lb)))]) co114 (ar2 (T rfl rfl) (T rfl rfl)) (made_num (s := (64 * (((la) + (lb))))) (neg := na != nb) (⟨L, (by first | (simp; done) | (simp; omega) | omega), (by first | (simp; done) | (simp; omega) | omega), Wd.ownW H52, hok, rfl⟩ : Ws _ _ _ _ _ _ _ _) (by first | omega | (simp; done) | (simp; omega)) (valB_sz hok (by first | (simp; done) | (simp; omega) | omega))) ?_)
       rintro _ w113 ⟨nb110, n111, rfl, e114, hn112⟩
       have E115 := below_ext E48 E48.size e114
       have lhn112 := Num.len (by decide) hn112
       have H116 := (e114.blk H51)
       refine lw_e (oe_store (v := .agg #[.bool nb110, .slice (some ⟨b28, 0, none⟩) n111 (((la) + (lb)))]) (vs := [.bool nb110, .slice (some ⟨b28, 0, none⟩) n111 (((la) + (lb)))]) (l := [.bool nb110, .slice (some ⟨b28, 0, none⟩) n111 (((la) + (lb)))]) (T rfl f43) (T rfl rfl) sz107 rfl rfl rfl H116 rfl ?_)
       intro w117 s118 H119
       have E120 := below_st E115 N14 s118
       refine lw_nil ?_
       refine rk_ret Try.func71 (v := .agg #[.bool nb110, .slice (some ⟨b28, 0, none⟩) n111 (((la) + (lb)))]) (res1 Try.results71 (rv_cells (l := [.bool nb110, .slice (some ⟨b28, 0, none⟩) n111 (((la) + (lb)))]) agt107 sz107 rfl f43 H119 rfl)) ⟨_, rfl, ?_⟩
       have h121 := (hn112.st s118 H116 (by decide))
       exact ⟨_, _, _, _, rfl, E120, h121.tight (by rw [hv, List.take_of_length_le (by omega), ← hxv, ← hyv]; exact sg_mul ha.neg_iff hb.neg_iff) (by rw [Int.natAbs_mul]; exact nat_mul_sz ha.lt hb.lt)⟩
end Go.Proofs.Ytmbpomcbdopgnaa.W
set_option linter.unusedVariables false
set_option linter.unusedSimpArgs false
namespace Go.Proofs.Ytmbpomcbdopgnaa.W
open Go Go.RowKit Go.Proofs.Ytmbpomcbdopgnaa.Fw
attribute [local irreducible] RunK LW AW DV OE Ct
theorem lzS_ok {w : World} {x : Int} (h0 : 0 < x) (h1 : x < 18446744073709551616) : Ct Try.prog 134 [.int .u64 x] w fun v w1 => ∃ S : Nat, v = .int .i64 (S : Int) ∧ Ext w w1 ∧ S ≤ 63 ∧ 9223372036854775808 ≤ x * 2 ^ S ∧ x * 2 ^ S < 18446744073709551616 := by
 obtain ⟨S, hS, h2, h3, h4⟩ := norm_word h0 h1
 exact (lz_ok (w := w) ⟨by omega, h1⟩).mono fun v w1 ⟨hv, he⟩ => ⟨S, by rw [hv, hS], he, h2, h3, h4⟩
set_option maxHeartbeats 1000000 in
theorem div64_ok {w : World} {hi lo y : Int} (hhi : 0 ≤ hi) (hlt : hi < y) (hyl : y < 18446744073709551616) (hlo : 0 ≤ lo ∧ lo < 18446744073709551616) : Ct Try.prog 147 [.int .u64 hi, .int .u64 lo, .int .u64 y] w fun v w1 => v = .tuple #[.int .u64 ((hi * 18446744073709551616 + lo) / y), .int .u64 ((hi * 18446744073709551616 + lo) % y)] ∧ Ext w w1 := by
 refine ct_run (n := 135) Try.func147 rfl Try.ntmps147 rfl ?_
 have E0 : Below w.heap.size w w := Below.refl _ _
 refine rk_seq ?_
 refine rk_reg ?_
 refine lw_v (.int .u64 0) (dv_assign C) ?_
 refine lw_v (.int .u64 0) (dv_assign C) ?_
 refine lw_nil ?_
 refine rk_seq ?_
 refine rk_seq ?_
 refine rk_reg ?_
 refine lw_v (.int .u64 y) (dv_move (T rfl rfl)) ?_
 refine lw_v (.bool (decide (y = 0))) (dv_eql (a := y) (b := 0) (T rfl rfl) C) ?_
 refine lw_nil ?_
 by_cases hb1 : y = 0
 · exfalso; omega
 · refine rk_cf (T rfl (congrArg Value.bool (decide_eq_false hb1))) ?_
   refine rk_skip ?_
   refine rk_seq ?_
   refine rk_seq ?_
   refine rk_reg ?_
   refine lw_v (.int .u64 y) (dv_move (T rfl rfl)) ?_
   refine lw_v (.int .u64 hi) (dv_move (T rfl rfl)) ?_
   refine lw_v (.bool (decide (y ≤ hi))) (dv_leq (a := y) (b := hi) (T rfl rfl) (T rfl rfl)) ?_
   refine lw_nil ?_
   by_cases hb2 : y ≤ hi
   · exfalso; omega
   · refine rk_cf (T rfl (congrArg Value.bool (decide_eq_false hb2))) ?_
     refine rk_skip ?_
     refine rk_seq ?_
     refine rk_seq ?_
     refine rk_reg ?_
     refine lw_v (.int .u64 hi) (dv_move (T rfl rfl)) ?_
     refine lw_v (.bool (decide (hi = 0))) (dv_eql (a := hi) (b := 0) (T rfl rfl) C) ?_
     refine lw_nil ?_
     by_cases hb3 : hi = 0
     · refine rk_ct (T rfl (congrArg Value.bool (decide_eq_true hb3))) ?_
       refine rk_seq ?_
       refine rk_any (fun _ => True) [7] mo ?_
       intro w4 d5
       have E6 := below_ext E0 E0.size d5.ext
       refine aw_pure 0 (.int .u64 lo) rfl (by kernel_rfl) .none trivial (fun _ => dv_move (T rfl rfl)) ?_
       refine aw_pure 1 (.int .u64 y) rfl (by kernel_rfl) .none trivial (fun _ => dv_move (T rfl rfl)) ?_
       have hq7 := ediv_rg (a := lo) (b := y) (by omega) (by omega)
       refine aw_pure 2 (.int .u64 (lo / y)) rfl (by kernel_rfl) .none trivial (fun _ => dv_quo (a := lo) (b := y) (z := lo / y) (T rfl rfl) (T rfl rfl) (by omega) (quo_c (by omega) (by omega) (wn_u64 (by omega) (by omega)))) ?_
       refine aw_pure 3 (.int .u64 lo) rfl (by kernel_rfl) .none trivial (fun _ => dv_move (T rfl rfl)) ?_
       refine aw_pure 4 (.int .u64 y) rfl (by kernel_rfl) .none trivial (fun _ => dv_move (T rfl rfl)) ?_
       refine aw_pure 5 (.int .u64 (lo % y)) rfl (by kernel_rfl) .none trivial (fun _ => dv_rem (a := lo) (b := y) (z := lo % y) (T rfl rfl) (T rfl rfl) (by omega) (rem_c (by omega) rfl)) ?_
       refine aw_pure 6 (.int .u64 (lo / y)) rfl (by kernel_rfl) .none trivial (fun _ => dv_assign (T rfl rfl)) ?_
       refine aw_last 7 (.int .u64 (lo % y)) rfl (by kernel_rfl) .none (fun _ => dv_assign (T rfl rfl)) ?_
       refine aw_done (by kernel_rfl) ?_
       refine rk_ret Try.func147 (v := .tuple #[.int .u64 (lo / y), .int .u64 (lo % y)]) (res2 Try.results147 (rv_tmp rfl rfl) (rv_tmp rfl rfl)) ⟨_, rfl, ?_⟩
       have h0 : hi = 0 := by omega
       subst h0
       exact ⟨tu2 (vi (by rw [Int.zero_mul, Int.zero_add])) (vi (by rw [Int.zero_mul, Int.zero_add])), E6⟩
     · refine rk_cf (T rfl (congrArg Value.bool (decide_eq_false hb3))) ?_
       refine rk_skip ?_
       refine rk_seq ?_
       refine rk_reg ?_
       refine lw_v (.int .u64 y) (dv_move (T rfl rfl)) ?_
       refine lw_e (oe_callf (vs := [.int .u64 y]) co134 (ar1 (T rfl rfl)) (lzS_ok (by omega) (by omega)) ?_)
       rintro _ w12 ⟨S8, rfl, e13, hs9, hs10, hs11⟩
       have E14 := below_ext E0 E0.size e13
       refine lw_v (.int .u64 ((S8 : Int))) (dv_conv (a := (S8 : Int)) (z := (S8 : Int)) ui3 ui158 (T rfl rfl) (wn_u64 (by omega) (by omega))) ?_
       refine lw_v (.int .u64 ((S8 : Int))) (dv_assign (T rfl rfl)) ?_
       refine lw_nil ?_
       refine rk_seq ?_
       refine rk_reg ?_
       refine lw_v (.int .u64 y) (dv_move (T rfl rfl)) ?_
       refine lw_v (.int .u64 ((S8 : Int))) (dv_move (T rfl rfl)) ?_
       refine lw_v (.int .u64 (y * 2 ^ S8)) (dv_shl (a := y) (b := (S8 : Int)) (z := y * 2 ^ S8) (T rfl rfl) (T rfl rfl) (by omega) (shl_w (K := S8) (by omega) (show _ ≤ 64 by omega) (wn_u64 (by omega) (by omega)))) ?_
       refine lw_v (.int .u64 (y * 2 ^ S8)) (dv_assign (T rfl rfl)) ?_
       refine lw_nil ?_
       refine rk_seq ?_
       obtain ⟨Y, ha15⟩ : ∃ q_ : Int, q_ = y * 2 ^ S8 := ⟨_, rfl⟩
       have hY : 9223372036854775808 ≤ Y ∧ Y < 18446744073709551616 := by rw [ha15]; exact ⟨hs10, hs11⟩
       have htop := shl_top (hi := hi) (y := y) (lo := lo) hs9 hhi hlt hs11 hlo.1 hlo.2
       refine rk_reg ?_
       refine lw_v (.int .u64 Y) (dv_move (T rfl (vi (ha15.symm)))) ?_
       refine lw_v (.int .u64 (Y / 4294967296)) (dv_shr (a := Y) (b := 32) (z := Y / 4294967296) (T rfl rfl) C (by decide) (shr_c (n := 32) (by omega) (by decide))) ?_
       refine lw_v (.int .u64 (Y / 4294967296)) (dv_assign (T rfl rfl)) ?_
       refine lw_nil ?_
       refine rk_seq ?_
       refine rk_reg ?_
       refine lw_v (.int .u64 Y) (dv_move (T rfl (vi (ha15.symm)))) ?_
       refine lw_v (.int .u64 (Y % 4294967296)) (dv_and (a := Y) (b := 4294967295) (z := Y % 4294967296) (T rfl rfl) C (and_mask (n := 32) (by omega) (by omega) (by decide))) ?_
       refine lw_v (.int .u64 (Y % 4294967296)) (dv_assign (T rfl rfl)) ?_
       refine lw_nil ?_
       refine rk_seq ?_
       refine rk_reg ?_
       refine lw_v (.int .u64 hi) (dv_move (T rfl rfl)) ?_
       refine lw_v (.int .u64 ((S8 : Int))) (dv_move (T rfl rfl)) ?_
       refine lw_v (.int .u64 (hi * 2 ^ S8)) (dv_shl (a := hi) (b := (S8 : Int)) (z := hi * 2 ^ S8) (T rfl rfl) (T rfl rfl) (by omega) (shl_w (K := S8) (by omega) (show _ ≤ 64 by omega) (wn_u64 (by omega) (by omega)))) ?_
       refine lw_v (.int .u64 lo) (dv_move (T rfl rfl)) ?_
       refine lw_v (.int .u64 ((S8 : Int))) (dv_move (T rfl rfl)) ?_
       refine lw_v (.int .u64 (64 - ((S8 : Int)))) (dv_sub (a := 64) (b := (S8 : Int)) (z := 64 - ((S8 : Int))) C (T rfl rfl) (wn_u64 (by omega) (by omega))) ?_
       refine lw_v (.int .u64 (lo / 2 ^ ((64 - (S8))))) (dv_shr (a := lo) (b := 64 - ((S8 : Int))) (z := lo / 2 ^ ((64 - (S8)))) (T rfl rfl) (T rfl rfl) (by omega) (shr_v (K := (64 - (S8))) (by omega) (show _ ≤ 64 by omega))) ?_
       refine lw_v (.int .u64 ((hi * 2 ^ S8) + (lo / 2 ^ ((64 - (S8)))))) (dv_or (a := hi * 2 ^ S8) (b := lo / 2 ^ ((64 - (S8)))) (z := (hi * 2 ^ S8) + (lo / 2 ^ ((64 - (S8))))) (T rfl rfl) (T rfl rfl) ((or_add (k := .u64) (a := lo / 2 ^ (64 - S8)) (b := hi * 2 ^ S8) (i := S8) rfl htop.1 htop.2.1 htop.2.2.1 (Int.mul_emod_left _ _) (lt64 (by omega)) (lt64 (by omega))).2.trans (Int.add_comm _ _))) ?_
       refine lw_v (.int .u64 ((hi * 2 ^ S8) + (lo / 2 ^ ((64 - (S8)))))) (dv_assign (T rfl rfl)) ?_
       refine lw_nil ?_
       refine rk_seq ?_
       obtain ⟨Uu, ha16⟩ : ∃ q_ : Int, q_ = hi * 2 ^ S8 + lo / 2 ^ (64 - S8) := ⟨_, rfl⟩
       have hUr : 0 ≤ Uu ∧ Uu < Y := by rw [ha16, ha15]; omega
       refine rk_reg ?_
       refine lw_v (.int .u64 lo) (dv_move (T rfl rfl)) ?_
       refine lw_v (.int .u64 ((S8 : Int))) (dv_move (T rfl rfl)) ?_
       refine lw_v (.int .u64 ((lo * 2 ^ S8) % 18446744073709551616)) (dv_shl (a := lo) (b := (S8 : Int)) (z := (lo * 2 ^ S8) % 18446744073709551616) (T rfl rfl) (T rfl rfl) (by omega) (shl_w (K := S8) (by omega) (show _ ≤ 64 by omega) (wr_u64 _))) ?_
       refine lw_v (.int .u64 ((lo * 2 ^ S8) % 18446744073709551616)) (dv_assign (T rfl rfl)) ?_
       refine lw_nil ?_
       refine rk_seq ?_
       obtain ⟨un, ha17⟩ : ∃ q_ : Int, q_ = lo * 2 ^ S8 % 18446744073709551616 := ⟨_, rfl⟩
       have hun : 0 ≤ un ∧ un < 18446744073709551616 := by rw [ha17]; exact ⟨Int.emod_nonneg _ (by decide), Int.emod_lt_of_pos _ (by decide)⟩
       have hN : (Uu * 4294967296 + un / 4294967296) * 4294967296 + un % 4294967296 = (hi * 18446744073709551616 + lo) * 2 ^ S8 := by
        have h1 := shl_split (x := lo) (S := S8) (by omega)
        rw [← ha17] at h1
        have h2 : (hi * 18446744073709551616 + lo) * 2 ^ S8 = (hi * 2 ^ S8) * 18446744073709551616 + lo * 2 ^ S8 := by grind
        rw [h2, ← h1, ha16]; omega
       have hg := half_guess (U := Uu) (u := un / 4294967296) (Y := Y) hY.1 hY.2 hUr.1 hUr.2 (by omega) (by omega)
       refine rk_reg ?_
       refine lw_v (.int .u64 un) (dv_move (T rfl (vi (ha17.symm)))) ?_
       refine lw_v (.int .u64 (un / 4294967296)) (dv_shr (a := un) (b := 32) (z := un / 4294967296) (T rfl rfl) C (by decide) (shr_c (n := 32) (by omega) (by decide))) ?_
       refine lw_v (.int .u64 (un / 4294967296)) (dv_assign (T rfl rfl)) ?_
       refine lw_nil ?_
       refine rk_seq ?_
       refine rk_reg ?_
       refine lw_v (.int .u64 un) (dv_move (T rfl (vi (ha17.symm)))) ?_
       refine lw_v (.int .u64 (un % 4294967296)) (dv_and (a := un) (b := 4294967295) (z := un % 4294967296) (T rfl rfl) C (and_mask (n := 32) (by omega) (by omega) (by decide))) ?_
       refine lw_v (.int .u64 (un % 4294967296)) (dv_assign (T rfl rfl)) ?_
       refine lw_nil ?_
       refine rk_seq ?_
       refine rk_reg ?_
       refine lw_v (.int .u64 Uu) (dv_move (T rfl (vi (ha16.symm)))) ?_
       refine lw_v (.int .u64 (Y / 4294967296)) (dv_move (T rfl rfl)) ?_
       have hq18 := ediv_rg (a := Uu) (b := Y / 4294967296) (by omega) (by omega)
       refine lw_v (.int .u64 (Uu / (Y / 4294967296))) (dv_quo (a := Uu) (b := Y / 4294967296) (z := Uu / (Y / 4294967296)) (T rfl rfl) (T rfl rfl) (by omega) (quo_c (by omega) (by omega) (wn_u64 (by omega) (by omega)))) ?_
       refine lw_v (.int .u64 (Uu / (Y / 4294967296))) (dv_assign (T rfl rfl)) ?_
       refine lw_nil ?_
       refine rk_seq ?_
       refine rk_reg ?_
       refine lw_v (.int .u64 Uu) (dv_move (T rfl (vi (ha16.symm)))) ?_
       refine lw_v (.int .u64 (Uu / (Y / 4294967296))) (dv_move (T rfl rfl)) ?_
       refine lw_v (.int .u64 (Y / 4294967296)) (dv_move (T rfl rfl)) ?_
       refine lw_v (.int .u64 ((Uu / (Y / 4294967296)) * (Y / 4294967296))) (dv_mul (a := Uu / (Y / 4294967296)) (b := Y / 4294967296) (z := (Uu / (Y / 4294967296)) * (Y / 4294967296)) (T rfl rfl) (T rfl rfl) (wn_u64 (by omega) (by omega))) ?_
       refine lw_v (.int .u64 (Uu - ((Uu / (Y / 4294967296)) * (Y / 4294967296)))) (dv_sub (a := Uu) (b := (Uu / (Y / 4294967296)) * (Y / 4294967296)) (z := Uu - ((Uu / (Y / 4294967296)) * (Y / 4294967296))) (T rfl rfl) (T rfl rfl) (wn_u64 (by omega) (by omega))) ?_
       refine lw_v (.int .u64 (Uu - ((Uu / (Y / 4294967296)) * (Y / 4294967296)))) (dv_assign (T rfl rfl)) ?_
       refine lw_nil ?_
       refine rk_seq ?_
       refine rk_join (fun fr wl => ∃ (qa : Int), fr 2 = .int .u64 Y ∧ fr 6 = .int .u64 0 ∧ fr 7 = .int .u64 0 ∧ fr 8 = .int .u64 ((S8 : Int)) ∧ fr 9 = .int .u64 (Y / 4294967296) ∧ fr 10 = .int .u64 (Y % 4294967296) ∧ fr 11 = .int .u64 Uu ∧ fr 13 = .int .u64 (un / 4294967296) ∧ fr 14 = .int .u64 (un % 4294967296) ∧ fr 15 = .int .u64 qa ∧ Below w.heap.size w wl ∧ (qa * Y ≤ Uu * 4294967296 + un / 4294967296) ∧ (Uu * 4294967296 + un / 4294967296 < (qa + 1) * Y) ∧ (0 ≤ qa)) ?_ (fun hj21 => ?_)
       · intro fr22 w19 hI20
         obtain ⟨qa, f23, f24, f25, f26, f27, f28, f29, f30, f31, f32, E33, haqa, hbqa, h0qa⟩ := hI20
         refine rk_seq ?_
         have hlt1 := half_lt haqa hUr.2 (by omega) (by omega)
         have heq1 : (qa + 1) * Y = qa * Y + Y := by grind
         refine rk_reg ?_
         refine lw_v (.int .u64 Uu) (dv_move (T rfl f29)) ?_
         refine lw_v (.int .u64 ((Uu * 4294967296) % 18446744073709551616)) (dv_mul (a := Uu) (b := 4294967296) (z := (Uu * 4294967296) % 18446744073709551616) (T rfl rfl) C (wr_u64 _)) ?_
         refine lw_v (.int .u64 (un / 4294967296)) (dv_move (T rfl f30)) ?_
         refine lw_v (.int .u64 ((((Uu * 4294967296) % 18446744073709551616) + (un / 4294967296)) % 18446744073709551616)) (dv_add (a := (Uu * 4294967296) % 18446744073709551616) (b := un / 4294967296) (z := (((Uu * 4294967296) % 18446744073709551616) + (un / 4294967296)) % 18446744073709551616) (T rfl rfl) (T rfl rfl) (wr_u64 _)) ?_
         refine lw_v (.int .u64 qa) (dv_move (T rfl f32)) ?_
         refine lw_v (.int .u64 Y) (dv_move (T rfl f23)) ?_
         refine lw_v (.int .u64 ((qa * Y) % 18446744073709551616)) (dv_mul (a := qa) (b := Y) (z := (qa * Y) % 18446744073709551616) (T rfl rfl) (T rfl rfl) (wr_u64 _)) ?_
         refine lw_v (.int .u64 ((((((Uu * 4294967296) % 18446744073709551616) + (un / 4294967296)) % 18446744073709551616) - ((qa * Y) % 18446744073709551616)) % 18446744073709551616)) (dv_sub (a := (((Uu * 4294967296) % 18446744073709551616) + (un / 4294967296)) % 18446744073709551616) (b := (qa * Y) % 18446744073709551616) (z := (((((Uu * 4294967296) % 18446744073709551616) + (un / 4294967296)) % 18446744073709551616) - ((qa * Y) % 18446744073709551616)) % 18446744073709551616) (T rfl rfl) (T rfl rfl) (wr_u64 _)) ?_
         refine lw_v (.int .u64 ((((((Uu * 4294967296) % 18446744073709551616) + (un / 4294967296)) % 18446744073709551616) - ((qa * Y) % 18446744073709551616)) % 18446744073709551616)) (dv_assign (T rfl rfl)) ?_
         refine lw_nil ?_
         refine rk_seq ?_
         have hVe : (((((Uu * 4294967296) % 18446744073709551616) + (un / 4294967296)) % 18446744073709551616) - ((qa * Y) % 18446744073709551616)) % 18446744073709551616 = Uu * 4294967296 + un / 4294967296 - qa * Y := by omega
         obtain ⟨V, ha34⟩ : ∃ q_ : Int, q_ = Uu * 4294967296 + un / 4294967296 - qa * Y := ⟨_, rfl⟩
         have hVr : 0 ≤ V ∧ V < Y := by omega
         have hg0 := half_guess (U := V) (u := un % 4294967296) (Y := Y) hY.1 hY.2 hVr.1 hVr.2 (by omega) (by omega)
         refine rk_reg ?_
         refine lw_v (.int .u64 V) (dv_move (T rfl (vi ((hVe).trans ha34.symm)))) ?_
         refine lw_v (.int .u64 (Y / 4294967296)) (dv_move (T rfl f27)) ?_
         have hq35 := ediv_rg (a := V) (b := Y / 4294967296) (by omega) (by omega)
         refine lw_v (.int .u64 (V / (Y / 4294967296))) (dv_quo (a := V) (b := Y / 4294967296) (z := V / (Y / 4294967296)) (T rfl rfl) (T rfl rfl) (by omega) (quo_c (by omega) (by omega) (wn_u64 (by omega) (by omega)))) ?_
         refine lw_v (.int .u64 (V / (Y / 4294967296))) (dv_assign (T rfl rfl)) ?_
         refine lw_nil ?_
         refine rk_seq ?_
         refine rk_reg ?_
         refine lw_v (.int .u64 V) (dv_move (T rfl (vi ((hVe).trans ha34.symm)))) ?_
         refine lw_v (.int .u64 (V / (Y / 4294967296))) (dv_move (T rfl rfl)) ?_
         refine lw_v (.int .u64 (Y / 4294967296)) (dv_move (T rfl f27)) ?_
         refine lw_v (.int .u64 ((V / (Y / 4294967296)) * (Y / 4294967296))) (dv_mul (a := V / (Y / 4294967296)) (b := Y / 4294967296) (z := (V / (Y / 4294967296)) * (Y / 4294967296)) (T rfl rfl) (T rfl rfl) (wn_u64 (by omega) (by omega))) ?_
         refine lw_v (.int .u64 (V - ((V / (Y / 4294967296)) * (Y / 4294967296)))) (dv_sub (a := V) (b := (V / (Y / 4294967296)) * (Y / 4294967296)) (z := V - ((V / (Y / 4294967296)) * (Y / 4294967296))) (T rfl rfl) (T rfl rfl) (wn_u64 (by omega) (by omega))) ?_
         refine lw_v (.int .u64 (V - ((V / (Y / 4294967296)) * (Y / 4294967296)))) (dv_assign (T rfl rfl)) ?_
         refine lw_nil ?_
         refine rk_seq ?_
         refine rk_join (fun fr wl => ∃ (qb : Int), fr 2 = .int .u64 Y ∧ fr 6 = .int .u64 0 ∧ fr 7 = .int .u64 0 ∧ fr 8 = .int .u64 ((S8 : Int)) ∧ fr 14 = .int .u64 (un % 4294967296) ∧ fr 15 = .int .u64 qa ∧ fr 17 = .int .u64 V ∧ fr 18 = .int .u64 qb ∧ Below w.heap.size w wl ∧ (qb * Y ≤ V * 4294967296 + un % 4294967296) ∧ (V * 4294967296 + un % 4294967296 < (qb + 1) * Y) ∧ (0 ≤ qb)) ?_ (fun hj38 => ?_)
         · intro fr39 w36 hI37
           obtain ⟨qb, f40, f41, f42, f43, f44, f45, f46, f47, E48, haqb, hbqb, h0qb⟩ := hI37
           refine rk_seq ?_
           have hlt2 := half_lt haqb hVr.2 (by omega) (by omega)
           have heq2 : (qb + 1) * Y = qb * Y + Y := by grind
           have ht := two_halves (hi := hi) (lo := lo) (y := y) (p := 2 ^ S8) (N := 0) (U := Uu) (u1 := un / 4294967296) (u0 := un % 4294967296) (q1 := qa) (q0 := qb) (two_pos S8) (by omega) hN (by rw [← ha15]; exact haqa) (by rw [← ha15]; exact hbqa) (by rw [← ha15, ← ha34]; exact haqb) (by rw [← ha15, ← ha34]; exact hbqb) rfl
           rw [← ha15, ← ha34] at ht
           refine rk_reg ?_
           refine lw_v (.int .u64 qa) (dv_move (T rfl f45)) ?_
           refine lw_v (.int .u64 ((qa * 4294967296) % 18446744073709551616)) (dv_mul (a := qa) (b := 4294967296) (z := (qa * 4294967296) % 18446744073709551616) (T rfl rfl) C (wr_u64 _)) ?_
           refine lw_v (.int .u64 qb) (dv_move (T rfl f47)) ?_
           refine lw_v (.int .u64 ((((qa * 4294967296) % 18446744073709551616) + qb) % 18446744073709551616)) (dv_add (a := (qa * 4294967296) % 18446744073709551616) (b := qb) (z := (((qa * 4294967296) % 18446744073709551616) + qb) % 18446744073709551616) (T rfl rfl) (T rfl rfl) (wr_u64 _)) ?_
           refine lw_v (.int .u64 V) (dv_move (T rfl f46)) ?_
           refine lw_v (.int .u64 ((V * 4294967296) % 18446744073709551616)) (dv_mul (a := V) (b := 4294967296) (z := (V * 4294967296) % 18446744073709551616) (T rfl rfl) C (wr_u64 _)) ?_
           refine lw_v (.int .u64 (un % 4294967296)) (dv_move (T rfl f44)) ?_
           refine lw_v (.int .u64 ((((V * 4294967296) % 18446744073709551616) + (un % 4294967296)) % 18446744073709551616)) (dv_add (a := (V * 4294967296) % 18446744073709551616) (b := un % 4294967296) (z := (((V * 4294967296) % 18446744073709551616) + (un % 4294967296)) % 18446744073709551616) (T rfl rfl) (T rfl rfl) (wr_u64 _)) ?_
           refine lw_v (.int .u64 qb) (dv_move (T rfl f47)) ?_
           refine lw_v (.int .u64 Y) (dv_move (T rfl f40)) ?_
           refine lw_v (.int .u64 ((qb * Y) % 18446744073709551616)) (dv_mul (a := qb) (b := Y) (z := (qb * Y) % 18446744073709551616) (T rfl rfl) (T rfl rfl) (wr_u64 _)) ?_
           refine lw_v (.int .u64 ((((((V * 4294967296) % 18446744073709551616) + (un % 4294967296)) % 18446744073709551616) - ((qb * Y) % 18446744073709551616)) % 18446744073709551616)) (dv_sub (a := (((V * 4294967296) % 18446744073709551616) + (un % 4294967296)) % 18446744073709551616) (b := (qb * Y) % 18446744073709551616) (z := (((((V * 4294967296) % 18446744073709551616) + (un % 4294967296)) % 18446744073709551616) - ((qb * Y) % 18446744073709551616)) % 18446744073709551616) (T rfl rfl) (T rfl rfl) (wr_u64 _)) ?_
           refine lw_v (.int .u64 ((S8 : Int))) (dv_move (T rfl f43)) ?_
           refine lw_v (.int .u64 (((((((V * 4294967296) % 18446744073709551616) + (un % 4294967296)) % 18446744073709551616) - ((qb * Y) % 18446744073709551616)) % 18446744073709551616) / 2 ^ S8)) (dv_shr (a := (((((V * 4294967296) % 18446744073709551616) + (un % 4294967296)) % 18446744073709551616) - ((qb * Y) % 18446744073709551616)) % 18446744073709551616) (b := (S8 : Int)) (z := ((((((V * 4294967296) % 18446744073709551616) + (un % 4294967296)) % 18446744073709551616) - ((qb * Y) % 18446744073709551616)) % 18446744073709551616) / 2 ^ S8) (T rfl rfl) (T rfl rfl) (by omega) (shr_v (K := S8) (by omega) (show _ ≤ 64 by omega))) ?_
           refine lw_v (.int .u64 ((((qa * 4294967296) % 18446744073709551616) + qb) % 18446744073709551616)) (dv_assign (T rfl rfl)) ?_
           refine lw_v (.int .u64 (((((((V * 4294967296) % 18446744073709551616) + (un % 4294967296)) % 18446744073709551616) - ((qb * Y) % 18446744073709551616)) % 18446744073709551616) / 2 ^ S8)) (dv_assign (T rfl rfl)) ?_
           refine lw_nil ?_
           refine rk_ret Try.func147 (v := .tuple #[.int .u64 ((((qa * 4294967296) % 18446744073709551616) + qb) % 18446744073709551616), .int .u64 (((((((V * 4294967296) % 18446744073709551616) + (un % 4294967296)) % 18446744073709551616) - ((qb * Y) % 18446744073709551616)) % 18446744073709551616) / 2 ^ S8)]) (res2 Try.results147 (rv_tmp rfl rfl) (rv_tmp rfl rfl)) ⟨_, rfl, ?_⟩
           have hR : (((((V * 4294967296) % 18446744073709551616) + (un % 4294967296)) % 18446744073709551616) - ((qb * Y) % 18446744073709551616)) % 18446744073709551616 = V * 4294967296 + un % 4294967296 - qb * Y := by omega
           exact ⟨tu2 (vi (by rw [← ht.1]; omega)) (vi (by rw [hR]; exact ht.2)), E48⟩
         · refine rk_block ?_
           refine rk_loop (fun dm_ fr wl => ∃ (q r : Int), dm_ = q.toNat ∧ fr 2 = .int .u64 Y ∧ fr 6 = .int .u64 0 ∧ fr 7 = .int .u64 0 ∧ fr 8 = .int .u64 ((S8 : Int)) ∧ fr 9 = .int .u64 (Y / 4294967296) ∧ fr 10 = .int .u64 (Y % 4294967296) ∧ fr 14 = .int .u64 (un % 4294967296) ∧ fr 15 = .int .u64 qa ∧ fr 16 = .int .u64 r ∧ fr 17 = .int .u64 V ∧ fr 18 = .int .u64 q ∧ Below w.heap.size w wl ∧ (q * (Y / 4294967296) + r = V) ∧ (0 ≤ q ∧ q ≤ 4294967297) ∧ (0 ≤ r ∧ r < 4294967296) ∧ (V * 4294967296 + un % 4294967296 < (q + 1) * Y)) ((V / (Y / 4294967296)).toNat) ⟨V / (Y / 4294967296), V - ((V / (Y / 4294967296)) * (Y / 4294967296)), rfl, f23, f24, f25, f26, f27, f28, f31, f32, rfl, (vi ((hVe).trans ha34.symm)), rfl, E33, (by omega), ⟨by omega, by omega⟩, ⟨by omega, by omega⟩, hg0.2.2.2.2⟩ ?_
           intro d53 fr52 w49 hI50 ih51
           obtain ⟨q, r, hd66, f54, f55, f56, f57, f58, f59, f60, f61, f62, f63, f64, E65, hq, hq0, hr, hNq⟩ := hI50
           have hql : 4294967296 ≤ q ∨ r * 4294967296 + un % 4294967296 < q * (Y % 4294967296) → 1 ≤ q := fun h => by
            rcases h with h | h
            · omega
            · exact pos_of_mul hq0.1 (by omega) (by omega) h
           refine rk_seq ?_
           refine rk_seq ?_
           refine rk_reg ?_
           refine lw_v (.int .u64 q) (dv_move (T rfl f64)) ?_
           refine lw_v (.bool (decide (4294967296 ≤ q))) (dv_geq (a := q) (b := 4294967296) (T rfl rfl) C) ?_
           refine lw_v (.bool (decide (4294967296 ≤ q))) (dv_move (T rfl rfl)) ?_
           by_cases hb67 : 4294967296 ≤ q
           · refine lw_no (d := 104) rfl rfl (congrArg Value.bool (decide_eq_true hb67)) ?_
             refine lw_no (d := 104) rfl rfl (congrArg Value.bool (decide_eq_true hb67)) ?_
             refine lw_no (d := 104) rfl rfl (congrArg Value.bool (decide_eq_true hb67)) ?_
             refine lw_no (d := 104) rfl rfl (congrArg Value.bool (decide_eq_true hb67)) ?_
             refine lw_no (d := 104) rfl rfl (congrArg Value.bool (decide_eq_true hb67)) ?_
             refine lw_no (d := 104) rfl rfl (congrArg Value.bool (decide_eq_true hb67)) ?_
             refine lw_no (d := 104) rfl rfl (congrArg Value.bool (decide_eq_true hb67)) ?_
             refine lw_no (d := 104) rfl rfl (congrArg Value.bool (decide_eq_true hb67)) ?_
             refine lw_v (.bool true) (dv_pick_t (T rfl (congrArg Value.bool (decide_eq_true hb67))) C) ?_
             refine lw_nil ?_
             refine rk_ct (T rfl rfl) ?_
             refine rk_skip ?_
             refine rk_block ?_
             refine rk_seq ?_
             refine rk_reg ?_
             refine lw_v (.int .u64 q) (dv_move (T rfl f64)) ?_
             refine lw_v (.int .u64 (q - 1)) (dv_sub (a := q) (b := 1) (z := q - 1) (T rfl rfl) C (wn_u64 (by omega) (by omega))) ?_
             refine lw_v (.int .u64 (q - 1)) (dv_assign (T rfl rfl)) ?_
             refine lw_nil ?_
             refine rk_seq ?_
             refine rk_reg ?_
             refine lw_v (.int .u64 r) (dv_move (T rfl f62)) ?_
             refine lw_v (.int .u64 (Y / 4294967296)) (dv_move (T rfl f58)) ?_
             refine lw_v (.int .u64 (r + (Y / 4294967296))) (dv_add (a := r) (b := Y / 4294967296) (z := r + (Y / 4294967296)) (T rfl rfl) (T rfl rfl) (wn_u64 (by omega) (by omega))) ?_
             refine lw_v (.int .u64 (r + (Y / 4294967296))) (dv_assign (T rfl rfl)) ?_
             refine lw_nil ?_
             refine rk_seq ?_
             refine rk_reg ?_
             refine lw_v (.int .u64 (r + (Y / 4294967296))) (dv_move (T rfl rfl)) ?_
             refine lw_v (.bool (decide (4294967296 ≤ (r + (Y / 4294967296))))) (dv_geq (a := r + (Y / 4294967296)) (b := 4294967296) (T rfl rfl) C) ?_
             refine lw_nil ?_
             by_cases hb68 : 4294967296 ≤ (r + (Y / 4294967296))
             · refine rk_ct (T rfl (congrArg Value.bool (decide_eq_true hb68))) ?_
               refine rk_exit rfl ?_
               exact hj38 _ _ ⟨q - 1, f54, f55, f56, f57, f60, f61, f63, rfl, E65, (half_ok2 (r := r + (Y / 4294967296)) (by rw [Int.sub_mul, Int.one_mul]; omega) (by omega) (by omega) (by omega) (by omega)), (half_less hq (by omega) hVr.2 (by omega) (by omega)), (by omega)⟩
             · refine rk_cf (T rfl (congrArg Value.bool (decide_eq_false hb68))) ?_
               refine rk_skip ?_
               refine rk_inBlock ?_
               exact ih51 ((q - 1).toNat) _ _ (by rw [hd66]; omega) ⟨q - 1, r + (Y / 4294967296), rfl, f54, f55, f56, f57, f58, f59, f60, f61, rfl, f63, rfl, E65, (by rw [Int.sub_mul, Int.one_mul]; omega), ⟨by omega, by omega⟩, ⟨by omega, by omega⟩, (half_less hq (by omega) hVr.2 (by omega) (by omega))⟩
           · refine lw_vy (.int .u64 q) (d := 104) rfl rfl (congrArg Value.bool (decide_eq_false hb67)) (dv_move (T rfl f64)) ?_
             refine lw_vy (.int .u64 (Y % 4294967296)) (d := 104) rfl rfl (congrArg Value.bool (decide_eq_false hb67)) (dv_move (T rfl f59)) ?_
             have hm69 := mul_pos_bd (A := 4294967295) (show 0 ≤ q by omega) (by omega) (show 0 ≤ (Y % 4294967296) by omega) (by omega)
             refine lw_vy (.int .u64 (q * (Y % 4294967296))) (d := 104) rfl rfl (congrArg Value.bool (decide_eq_false hb67)) (dv_mul (a := q) (b := Y % 4294967296) (z := q * (Y % 4294967296)) (T rfl rfl) (T rfl rfl) (wn_u64 (by omega) (by omega))) ?_
             refine lw_vy (.int .u64 r) (d := 104) rfl rfl (congrArg Value.bool (decide_eq_false hb67)) (dv_move (T rfl f62)) ?_
             refine lw_vy (.int .u64 (4294967296 * r)) (d := 104) rfl rfl (congrArg Value.bool (decide_eq_false hb67)) (dv_mul (a := 4294967296) (b := r) (z := 4294967296 * r) C (T rfl rfl) (wn_u64 (by omega) (by omega))) ?_
             refine lw_vy (.int .u64 (un % 4294967296)) (d := 104) rfl rfl (congrArg Value.bool (decide_eq_false hb67)) (dv_move (T rfl f60)) ?_
             refine lw_vy (.int .u64 ((4294967296 * r) + (un % 4294967296))) (d := 104) rfl rfl (congrArg Value.bool (decide_eq_false hb67)) (dv_add (a := 4294967296 * r) (b := un % 4294967296) (z := (4294967296 * r) + (un % 4294967296)) (T rfl rfl) (T rfl rfl) (wn_u64 (by omega) (by omega))) ?_
             refine lw_vy (.bool (decide (((4294967296 * r) + (un % 4294967296)) < (q * (Y % 4294967296))))) (d := 104) rfl rfl (congrArg Value.bool (decide_eq_false hb67)) (dv_gtr (a := q * (Y % 4294967296)) (b := (4294967296 * r) + (un % 4294967296)) (T rfl rfl) (T rfl rfl)) ?_
             refine lw_v (.bool (decide (((4294967296 * r) + (un % 4294967296)) < (q * (Y % 4294967296))))) (dv_pick_f (T rfl (congrArg Value.bool (decide_eq_false hb67))) (T rfl rfl)) ?_
             refine lw_nil ?_
             by_cases hb70 : ((4294967296 * r) + (un % 4294967296)) < (q * (Y % 4294967296))
             · refine rk_ct (T rfl (congrArg Value.bool (decide_eq_true hb70))) ?_
               refine rk_skip ?_
               refine rk_block ?_
               refine rk_seq ?_
               refine rk_reg ?_
               refine lw_v (.int .u64 q) (dv_move (T rfl f64)) ?_
               refine lw_v (.int .u64 (q - 1)) (dv_sub (a := q) (b := 1) (z := q - 1) (T rfl rfl) C (wn_u64 (by omega) (by omega))) ?_
               refine lw_v (.int .u64 (q - 1)) (dv_assign (T rfl rfl)) ?_
               refine lw_nil ?_
               refine rk_seq ?_
               refine rk_reg ?_
               refine lw_v (.int .u64 r) (dv_move (T rfl f62)) ?_
               refine lw_v (.int .u64 (Y / 4294967296)) (dv_move (T rfl f58)) ?_
               refine lw_v (.int .u64 (r + (Y / 4294967296))) (dv_add (a := r) (b := Y / 4294967296) (z := r + (Y / 4294967296)) (T rfl rfl) (T rfl rfl) (wn_u64 (by omega) (by omega))) ?_
               refine lw_v (.int .u64 (r + (Y / 4294967296))) (dv_assign (T rfl rfl)) ?_
               refine lw_nil ?_
               refine rk_seq ?_
               refine rk_reg ?_
               refine lw_v (.int .u64 (r + (Y / 4294967296))) (dv_move (T rfl rfl)) ?_
               refine lw_v (.bool (decide (4294967296 ≤ (r + (Y / 4294967296))))) (dv_geq (a := r + (Y / 4294967296)) (b := 4294967296) (T rfl rfl) C) ?_
               refine lw_nil ?_
               by_cases hb71 : 4294967296 ≤ (r + (Y / 4294967296))
               · refine rk_ct (T rfl (congrArg Value.bool (decide_eq_true hb71))) ?_
                 refine rk_exit rfl ?_
                 exact hj38 _ _ ⟨q - 1, f54, f55, f56, f57, f60, f61, f63, rfl, E65, (half_ok2 (r := r + (Y / 4294967296)) (by rw [Int.sub_mul, Int.one_mul]; omega) (by omega) (by omega) (by omega) (by omega)), (half_less hq (by omega) hVr.2 (by omega) (by omega)), (by omega)⟩
               · refine rk_cf (T rfl (congrArg Value.bool (decide_eq_false hb71))) ?_
                 refine rk_skip ?_
                 refine rk_inBlock ?_
                 exact ih51 ((q - 1).toNat) _ _ (by rw [hd66]; omega) ⟨q - 1, r + (Y / 4294967296), rfl, f54, f55, f56, f57, f58, f59, f60, f61, rfl, f63, rfl, E65, (by rw [Int.sub_mul, Int.one_mul]; omega), ⟨by omega, by omega⟩, ⟨by omega, by omega⟩, (half_less hq (by omega) hVr.2 (by omega) (by omega))⟩
             · refine rk_cf (T rfl (congrArg Value.bool (decide_eq_false hb70))) ?_
               refine rk_exit rfl ?_
               exact hj38 _ _ ⟨q, f54, f55, f56, f57, f60, f61, f63, f64, E65, (half_ok hq (by omega)), hNq, hq0.1⟩
       · refine rk_block ?_
         refine rk_loop (fun dm_ fr wl => ∃ (q r : Int), dm_ = q.toNat ∧ fr 2 = .int .u64 Y ∧ fr 6 = .int .u64 0 ∧ fr 7 = .int .u64 0 ∧ fr 8 = .int .u64 ((S8 : Int)) ∧ fr 9 = .int .u64 (Y / 4294967296) ∧ fr 10 = .int .u64 (Y % 4294967296) ∧ fr 11 = .int .u64 Uu ∧ fr 13 = .int .u64 (un / 4294967296) ∧ fr 14 = .int .u64 (un % 4294967296) ∧ fr 15 = .int .u64 q ∧ fr 16 = .int .u64 r ∧ Below w.heap.size w wl ∧ (q * (Y / 4294967296) + r = Uu) ∧ (0 ≤ q ∧ q ≤ 4294967297) ∧ (0 ≤ r ∧ r < 4294967296) ∧ (Uu * 4294967296 + un / 4294967296 < (q + 1) * Y)) ((Uu / (Y / 4294967296)).toNat) ⟨Uu / (Y / 4294967296), Uu - ((Uu / (Y / 4294967296)) * (Y / 4294967296)), rfl, (vi (ha15.symm)), rfl, rfl, rfl, rfl, rfl, (vi (ha16.symm)), rfl, rfl, rfl, rfl, E14, (by omega), ⟨by omega, by omega⟩, ⟨by omega, by omega⟩, hg.2.2.2.2⟩ ?_
         intro d76 fr75 w72 hI73 ih74
         obtain ⟨q, r, hd89, f77, f78, f79, f80, f81, f82, f83, f84, f85, f86, f87, E88, hq, hq0, hr, hNq⟩ := hI73
         have hql : 4294967296 ≤ q ∨ r * 4294967296 + un / 4294967296 < q * (Y % 4294967296) → 1 ≤ q := fun h => by
          rcases h with h | h
          · omega
          · exact pos_of_mul hq0.1 (by omega) (by omega) h
         refine rk_seq ?_
         refine rk_seq ?_
         refine rk_reg ?_
         refine lw_v (.int .u64 q) (dv_move (T rfl f86)) ?_
         refine lw_v (.bool (decide (4294967296 ≤ q))) (dv_geq (a := q) (b := 4294967296) (T rfl rfl) C) ?_
         refine lw_v (.bool (decide (4294967296 ≤ q))) (dv_move (T rfl rfl)) ?_
         by_cases hb90 : 4294967296 ≤ q
         · refine lw_no (d := 69) rfl rfl (congrArg Value.bool (decide_eq_true hb90)) ?_
           refine lw_no (d := 69) rfl rfl (congrArg Value.bool (decide_eq_true hb90)) ?_
           refine lw_no (d := 69) rfl rfl (congrArg Value.bool (decide_eq_true hb90)) ?_
           refine lw_no (d := 69) rfl rfl (congrArg Value.bool (decide_eq_true hb90)) ?_
           refine lw_no (d := 69) rfl rfl (congrArg Value.bool (decide_eq_true hb90)) ?_
           refine lw_no (d := 69) rfl rfl (congrArg Value.bool (decide_eq_true hb90)) ?_
           refine lw_no (d := 69) rfl rfl (congrArg Value.bool (decide_eq_true hb90)) ?_
           refine lw_no (d := 69) rfl rfl (congrArg Value.bool (decide_eq_true hb90)) ?_
           refine lw_v (.bool true) (dv_pick_t (T rfl (congrArg Value.bool (decide_eq_true hb90))) C) ?_
           refine lw_nil ?_
           refine rk_ct (T rfl rfl) ?_
           refine rk_skip ?_
           refine rk_block ?_
           refine rk_seq ?_
           refine rk_reg ?_
           refine lw_v (.int .u64 q) (dv_move (T rfl f86)) ?_
           refine lw_v (.int .u64 (q - 1)) (dv_sub (a := q) (b := 1) (z := q - 1) (T rfl rfl) C (wn_u64 (by omega) (by omega))) ?_
           refine lw_v (.int .u64 (q - 1)) (dv_assign (T rfl rfl)) ?_
           refine lw_nil ?_
           refine rk_seq ?_
           refine rk_reg ?_
           refine lw_v (.int .u64 r) (dv_move (T rfl f87)) ?_
           refine lw_v (.int .u64 (Y / 4294967296)) (dv_move (T rfl f81)) ?_
           refine lw_v (.int .u64 (r + (Y / 4294967296))) (dv_add (a := r) (b := Y / 4294967296) (z := r + (Y / 4294967296)) (T rfl rfl) (T rfl rfl) (wn_u64 (by omega) (by omega))) ?_
           refine lw_v (.int .u64 (r + (Y / 4294967296))) (dv_assign (T rfl rfl)) ?_
           refine lw_nil ?_
           refine rk_seq ?_
           refine rk_reg ?_
           refine lw_v (.int .u64 (r + (Y / 4294967296))) (dv_move (T rfl rfl)) ?_
           refine lw_v (.bool (decide (4294967296 ≤ (r + (Y / 4294967296))))) (dv_geq (a := r + (Y / 4294967296)) (b := 4294967296) (T rfl rfl) C) ?_
           refine lw_nil ?_
           by_cases hb91 : 4294967296 ≤ (r + (Y / 4294967296))
           · refine rk_ct (T rfl (congrArg Value.bool (decide_eq_true hb91))) ?_
             refine rk_exit rfl ?_
             exact hj21 _ _ ⟨q - 1, f77, f78, f79, f80, f81, f82, f83, f84, f85, rfl, E88, (half_ok2 (r := r + (Y / 4294967296)) (by rw [Int.sub_mul, Int.one_mul]; omega) (by omega) (by omega) (by omega) (by omega)), (half_less hq (by omega) hUr.2 (by omega) (by omega)), (by omega)⟩
           · refine rk_cf (T rfl (congrArg Value.bool (decide_eq_false hb91))) ?_
             refine rk_skip ?_
             refine rk_inBlock ?_
             exact ih74 ((q - 1).toNat) _ _ (by rw [hd89]; omega) ⟨q - 1, r + (Y / 4294967296), rfl, f77, f78, f79, f80, f81, f82, f83, f84, f85, rfl, rfl, E88, (by rw [Int.sub_mul, Int.one_mul]; omega), ⟨by omega, by omega⟩, ⟨by omega, by omega⟩, (half_less hq (by omega) hUr.2 (by omega) (by omega))⟩
         · refine lw_vy (.int .u64 q) (d := 69) rfl rfl (congrArg Value.bool (decide_eq_false hb90)) (dv_move (T rfl f86)) ?_
           refine lw_vy (.int .u64 (Y % 4294967296)) (d := 69) rfl rfl (congrArg Value.bool (decide_eq_false hb90)) (dv_move (T rfl f82)) ?_
           have hm92 := mul_pos_bd (A := 4294967295) (show 0 ≤ q by omega) (by omega) (show 0 ≤ (Y % 4294967296) by omega) (by omega)
           refine lw_vy (.int .u64 (q * (Y % 4294967296))) (d := 69) rfl rfl (congrArg Value.bool (decide_eq_false hb90)) (dv_mul (a := q) (b := Y % 4294967296) (z := q * (Y % 4294967296)) (T rfl rfl) (T rfl rfl) (wn_u64 (by omega) (by omega))) ?_
           refine lw_vy (.int .u64 r) (d := 69) rfl rfl (congrArg Value.bool (decide_eq_false hb90)) (dv_move (T rfl f87)) ?_
           refine lw_vy (.int .u64 (4294967296 * r)) (d := 69) rfl rfl (congrArg Value.bool (decide_eq_false hb90)) (dv_mul (a := 4294967296) (b := r) (z := 4294967296 * r) C (T rfl rfl) (wn_u64 (by omega) (by omega))) ?_
           refine lw_vy (.int .u64 (un / 4294967296)) (d := 69) rfl rfl (congrArg Value.bool (decide_eq_false hb90)) (dv_move (T rfl f84)) ?_
           refine lw_vy (.int .u64 ((4294967296 * r) + (un / 4294967296))) (d := 69) rfl rfl (congrArg Value.bool (decide_eq_false hb90)) (dv_add (a := 4294967296 * r) (b := un / 4294967296) (z := (4294967296 * r) + (un / 4294967296)) (T rfl rfl) (T rfl rfl) (wn_u64 (by omega) (by omega))) ?_
           refine lw_vy (.bool (decide (((4294967296 * r) + (un / 4294967296)) < (q * (Y % 4294967296))))) (d := 69) rfl rfl (congrArg Value.bool (decide_eq_false hb90)) (dv_gtr (a := q * (Y % 4294967296)) (b := (4294967296 * r) + (un / 4294967296)) (T rfl rfl) (T rfl rfl)) ?_
           refine lw_v (.bool (decide (((4294967296 * r) + (un / 4294967296)) < (q * (Y % 4294967296))))) (dv_pick_f (T rfl (congrArg Value.bool (decide_eq_false hb90))) (T rfl rfl)) ?_
           refine lw_nil ?_
           by_cases hb93 : ((4294967296 * r) + (un / 4294967296)) < (q * (Y % 4294967296))
           · refine rk_ct (T rfl (congrArg Value.bool (decide_eq_true hb93))) ?_
             refine rk_skip ?_
             refine rk_block ?_
             refine rk_seq ?_
             refine rk_reg ?_
             refine lw_v (.int .u64 q) (dv_move (T rfl f86)) ?_
             refine lw_v (.int .u64 (q - 1)) (dv_sub (a := q) (b := 1) (z := q - 1) (T rfl rfl) C (wn_u64 (by omega) (by omega))) ?_
             refine lw_v (.int .u64 (q - 1)) (dv_assign (T rfl rfl)) ?_
             refine lw_nil ?_
             refine rk_seq ?_
             refine rk_reg ?_
             refine lw_v (.int .u64 r) (dv_move (T rfl f87)) ?_
             refine lw_v (.int .u64 (Y / 4294967296)) (dv_move (T rfl f81)) ?_
             refine lw_v (.int .u64 (r + (Y / 4294967296))) (dv_add (a := r) (b := Y / 4294967296) (z := r + (Y / 4294967296)) (T rfl rfl) (T rfl rfl) (wn_u64 (by omega) (by omega))) ?_
             refine lw_v (.int .u64 (r + (Y / 4294967296))) (dv_assign (T rfl rfl)) ?_
             refine lw_nil ?_
             refine rk_seq ?_
             refine rk_reg ?_
             refine lw_v (.int .u64 (r + (Y / 4294967296))) (dv_move (T rfl rfl)) ?_
             refine lw_v (.bool (decide (4294967296 ≤ (r + (Y / 4294967296))))) (dv_geq (a := r + (Y / 4294967296)) (b := 4294967296) (T rfl rfl) C) ?_
             refine lw_nil ?_
             by_cases hb94 : 4294967296 ≤ (r + (Y / 4294967296))
             · refine rk_ct (T rfl (congrArg Value.bool (decide_eq_true hb94))) ?_
               refine rk_exit rfl ?_
               exact hj21 _ _ ⟨q - 1, f77, f78, f79, f80, f81, f82, f83, f84, f85, rfl, E88, (half_ok2 (r := r + (Y / 4294967296)) (by rw [Int.sub_mul, Int.one_mul]; omega) (by omega) (by omega) (by omega) (by omega)), (half_less hq (by omega) hUr.2 (by omega) (by omega)), (by omega)⟩
             · refine rk_cf (T rfl (congrArg Value.bool (decide_eq_false hb94))) ?_
               refine rk_skip ?_
               refine rk_inBlock ?_
               exact ih74 ((q - 1).toNat) _ _ (by rw [hd89]; omega) ⟨q - 1, r + (Y / 4294967296), rfl, f77, f78, f79, f80, f81, f82, f83, f84, f85, rfl, rfl, E88, (by rw [Int.sub_mul, Int.one_mul]; omega), ⟨by omega, by omega⟩, ⟨by omega, by omega⟩, (half_less hq (by omega) hUr.2 (by omega) (by omega))⟩
           · refine rk_cf (T rfl (congrArg Value.bool (decide_eq_false hb93))) ?_
             refine rk_exit rfl ?_
             exact hj21 _ _ ⟨q, f77, f78, f79, f80, f81, f82, f83, f84, f85, f86, E88, (half_ok hq (by omega)), hNq, hq0.1⟩
theorem div64_q {w : World} {hi lo y : Int} (hhi : 0 ≤ hi) (hlt : hi < y) (hyl : y < 18446744073709551616) (hlo : 0 ≤ lo ∧ lo < 18446744073709551616) : Ct Try.prog 147 [.int .u64 hi, .int .u64 lo, .int .u64 y] w fun v w1 =>
 ∃ q r : Int, v = .tuple #[.int .u64 q, .int .u64 r] ∧ Ext w w1 ∧ q * y + r = hi * 18446744073709551616 + lo ∧ (0 ≤ r ∧ r < y) ∧ (0 ≤ q ∧ q < 18446744073709551616) ∧ (q = (hi * 18446744073709551616 + lo) / y ∧ r = (hi * 18446744073709551616 + lo) % y) :=
 (div64_ok hhi hlt hyl hlo).mono fun v w1 ⟨h1, h2⟩ => by
  have e := Int.mul_ediv_add_emod (hi * 18446744073709551616 + lo) y
  have r0 := Int.emod_nonneg (hi * 18446744073709551616 + lo) (show y ≠ 0 by omega)
  have r1 := Int.emod_lt_of_pos (hi * 18446744073709551616 + lo) (show 0 < y by omega)
  have q0 : 0 ≤ (hi * 18446744073709551616 + lo) / y := Int.ediv_nonneg (by omega) (by omega)
  have q1 : (hi * 18446744073709551616 + lo) / y < 18446744073709551616 := by
   refine Int.ediv_lt_of_lt_mul (by omega) ?_
   have : (hi + 1) * 18446744073709551616 ≤ y * 18446744073709551616 := Int.mul_le_mul_of_nonneg_right (by omega) (by decide)
   omega
  exact ⟨_, _, h1, h2, by rw [Int.mul_comm _ y]; exact e, ⟨r0, r1⟩, ⟨q0, q1⟩, rfl, rfl⟩
end Go.Proofs.Ytmbpomcbdopgnaa.W
set_option linter.unusedVariables false
set_option linter.unusedSimpArgs false
namespace Go.Proofs.Ytmbpomcbdopgnaa.W
open Go Go.RowKit Go.Proofs.Ytmbpomcbdopgnaa.Fw
attribute [local irreducible] RunK LW AW DV OE Ct
set_option maxHeartbeats 1000000 in
theorem shifted_ok {w : World} {A : Option Addr} {c S : Nat} {xs : List Int} (hx : Wd w 36 .u64 A xs) (hS : S ≤ 63) (ox : okW (2 ^ 64) xs) (lx : xs.length ≤ 500000) : Ct Try.prog 148 [.slice A (xs.length) c, .int .i64 ((S : Int))] w fun v w1 => ∃ b L, v = .slice (some ⟨b, 0, none⟩) (xs.length + 1) (xs.length + 1) ∧ Ext w w1 ∧ w1.heap[b]? = some (.cells (L.map (Value.int .u64)).toArray 36) ∧ w.heap.size ≤ b ∧ L.length = xs.length + 1 ∧ okW (2 ^ 64) L ∧ valB (2 ^ 64) L = 2 ^ S * valB (2 ^ 64) xs := by
 refine ct_run (n := 40) Try.func148 rfl Try.ntmps148 rfl ?_
 have E0 : Below w.heap.size w w := Below.refl _ _
 refine rk_seq ?_
 refine rk_reg ?_
 refine lw_v (.slice none 0 0) (dv_assign C) ?_
 refine lw_nil ?_
 refine rk_seq ?_
 refine rk_reg ?_
 refine lw_v (.slice A (xs.length) c) (dv_move (T rfl rfl)) ?_
 refine lw_v (.int .i64 ((xs.length : Int))) (dv_len (ad := A) (l := xs.length) (c := c) us105 (T rfl rfl)) ?_
 refine lw_v (.int .i64 (((xs.length : Int)) + 1)) (dv_add (a := (xs.length : Int)) (b := 1) (z := ((xs.length : Int)) + 1) (T rfl rfl) C (wr_i64 (by omega) (by omega))) ?_
 refine lw_e (oe_makeW (l := ((xs.length) + 1)) (j := ((xs.length : Int)) + 1) us105 in36 (T rfl rfl) (T rfl rfl) (by omega) (by first | omega | (simp; done) | (simp; omega)) (by first | omega | (simp; done) | (simp; omega)) ?_)
 intro b1 w2 n3
 have N4 : w.heap.size ≤ b1 := n3.eq ▸ E0.size
 have E5 := below_ext E0 E0.size n3.ext
 refine lw_v (.slice (some ⟨b1, 0, none⟩) (((xs.length) + 1)) (((xs.length) + 1))) (dv_assign (T rfl rfl)) ?_
 refine lw_nil ?_
 refine rk_seq ?_
 refine rk_seq ?_
 refine rk_reg ?_
 refine lw_v (.slice A (xs.length) c) (dv_move (T rfl rfl)) ?_
 refine lw_v (.int .i64 ((xs.length : Int))) (dv_len (ad := A) (l := xs.length) (c := c) us105 (T rfl rfl)) ?_
 refine lw_v (.int .i64 0) (dv_move C) ?_
 refine lw_nil ?_
 refine rk_block ?_
 refine rk_loop (fun dm_ fr wl => ∃ (i : Nat) (L : List Int), dm_ = xs.length - i ∧ fr 1 = .int .i64 ((S : Int)) ∧ fr 4 = .slice none 0 0 ∧ fr 5 = .slice (some ⟨b1, 0, none⟩) (((xs.length) + 1)) (((xs.length) + 1)) ∧ fr 12 = .slice A (xs.length) c ∧ fr 13 = .int .i64 ((xs.length : Int)) ∧ fr 14 = .int .i64 ((i : Int)) ∧ Below w.heap.size w wl ∧ wl.heap[b1]? = some (.cells (L.map (Value.int .u64)).toArray 36) ∧ (i ≤ xs.length) ∧ (L.length = xs.length + 1) ∧ (okW (2 ^ 64) L) ∧ (valB (2 ^ 64) L = 2 ^ S * valB (2 ^ 64) (xs.take i)) ∧ (∀ q, i < q → L.getD q 0 = 0) ∧ (L.getD i 0 < 2 ^ S)) (xs.length - 0) ⟨0, (List.replicate (((xs.length) + 1)) (0 : Int)), rfl, rfl, rfl, rfl, rfl, rfl, (vi (by omega)), E5, n3.blk, (Nat.zero_le _), (by simp), (okW.replicate (by decide) _), (by rw [valB_zeros, List.take_zero]; simp [valB]), (fun q _ => rep_zero _ q), (by rw [rep_zero]; exact two_pos S)⟩ ?_
 intro d10 fr9 w6 hI7 ih8
 obtain ⟨i, L, hd19, f11, f12, f13, f14, f15, f16, E17, H18, hi, hl, hok, hv, hz, hb⟩ := hI7
 have bx := okW.getD ox (by decide) i
 have bL := okW.getD hok (by decide) i
 have bp : (2 : Int) ^ S ≤ 2 ^ 63 := pow_le_of (by decide) hS
 have bm := shl_mod (x := xs.getD i 0) (S := S) (by omega)
 have e63 : (2 : Int) ^ 63 = 9223372036854775808 := by decide
 refine rk_seq ?_
 refine rk_reg ?_
 refine lw_v (.bool (decide (((i : Int)) < ((xs.length : Int))))) (dv_lss (a := (i : Int)) (b := (xs.length : Int)) (T rfl f16) (T rfl f15)) ?_
 refine lw_nil ?_
 refine rk_seq ?_
 by_cases hb20 : ((i : Int)) < ((xs.length : Int))
 · refine rk_ct (T rfl (congrArg Value.bool (decide_eq_true hb20))) ?_
   refine rk_skip ?_
   refine rk_seq ?_
   refine rk_block ?_
   refine rk_seq ?_
   refine rk_reg ?_
   refine lw_v (.int .i64 ((i : Int))) (dv_move (T rfl f16)) ?_
   have h21 := (hx.ext E17)
   obtain ⟨g22, o23, rfl⟩ := Wd.at h21 (by first | omega | (simp; done) | (simp; omega))
   refine lw_v (.pointer (some ⟨g22, o23 + i, none⟩)) (dv_indexW (g := g22) (o := o23) (l := xs.length) (c := c) (i := i) (j := (i : Int)) us105 sz36 (T rfl f14) (T rfl f16) (by omega) (by first | omega | (simp; done) | (simp; omega))) ?_
   refine lw_v (.int .u64 (xs.getD i 0)) (dv_load agt36 (T rfl rfl) (Wd.cell h21 (by first | omega | (simp; done) | (simp; omega)))) ?_
   refine lw_v (.int .i64 ((i : Int))) (dv_assign (T rfl rfl)) ?_
   refine lw_v (.int .u64 (xs.getD i 0)) (dv_assign (T rfl rfl)) ?_
   refine lw_nil ?_
   refine rk_seq ?_
   refine rk_any (fun w => w.heap[b1]? = some (.cells (L.map (Value.int .u64)).toArray 36)) [9] mo ?_
   intro w24 d25
   have E26 := below_ext E17 E17.size d25.ext
   have H27 := (d25.ext.blk H18)
   refine aw_pure 0 (.slice (some ⟨b1, 0, none⟩) (((xs.length) + 1)) (((xs.length) + 1))) rfl (by kernel_rfl) .none H27 (fun _ => dv_move (T rfl f13)) ?_
   refine aw_pure 1 (.int .i64 ((i : Int))) rfl (by kernel_rfl) .none H27 (fun _ => dv_move (T rfl rfl)) ?_
   refine aw_pure 2 (.pointer (some ⟨b1, i, none⟩)) rfl (by kernel_rfl) .none H27 (fun _ => dv_indexO (g := b1) (l := ((xs.length) + 1)) (c := ((xs.length) + 1)) (i := i) (j := (i : Int)) us105 sz36 (T rfl rfl) (T rfl rfl) (by omega) (by first | omega | (simp; done) | (simp; omega))) ?_
   refine aw_load 3 (.int .u64 (L.getD i 0)) rfl (by kernel_rfl) .none H27 (fun _ s => dv_loadW (L := L) (v := L.getD i 0) agt36 (T rfl rfl) s (by first | omega | (simp; done) | (simp; omega)) rfl) ?_
   refine aw_pure 4 (.int .u64 (xs.getD i 0)) rfl (by kernel_rfl) .none H27 (fun _ => dv_move (T rfl rfl)) ?_
   refine aw_pure 5 (.int .i64 ((S : Int))) rfl (by kernel_rfl) .none H27 (fun _ => dv_move (T rfl f11)) ?_
   refine aw_pure 6 (.int .u64 (((xs.getD i 0) * 2 ^ S) % 18446744073709551616)) rfl (by kernel_rfl) .none H27 (fun _ => dv_shl (a := xs.getD i 0) (b := (S : Int)) (z := ((xs.getD i 0) * 2 ^ S) % 18446744073709551616) (T rfl rfl) (T rfl rfl) (by omega) (shl_w (K := S) (by omega) (show _ ≤ 64 by omega) (wr_u64 _))) ?_
   refine aw_pure 7 (.int .u64 ((L.getD i 0) + (((xs.getD i 0) * 2 ^ S) % 18446744073709551616))) rfl (by kernel_rfl) .none H27 (fun _ => dv_or (a := L.getD i 0) (b := ((xs.getD i 0) * 2 ^ S) % 18446744073709551616) (z := (L.getD i 0) + (((xs.getD i 0) * 2 ^ S) % 18446744073709551616)) (T rfl rfl) (T rfl rfl) ((or_add (k := .u64) (a := L.getD i 0) (b := ((xs.getD i 0) * 2 ^ S) % 18446744073709551616) (i := S) rfl bL.1 hb (by omega) bm (lt64 (by omega)) (lt64 (by omega))).1)) ?_
   refine aw_pure 8 (.pointer (some ⟨b1, i, none⟩)) rfl (by kernel_rfl) .none H27 (fun _ => dv_indexO (g := b1) (l := ((xs.length) + 1)) (c := ((xs.length) + 1)) (i := i) (j := (i : Int)) us105 sz36 (T rfl rfl) (T rfl rfl) (by omega) (by first | omega | (simp; done) | (simp; omega))) ?_
   refine aw_one 9 rfl (by kernel_rfl) .none (oe_storeW (L := L) (i := i) (z := (L.getD i 0) + (((xs.getD i 0) * 2 ^ S) % 18446744073709551616)) sz36 (T rfl rfl) (T rfl rfl) H27 (by first | omega | (simp; done) | (simp; omega)) ?_)
   intro w28 s29 H30
   have E31 := below_st E26 N4 s29
   refine ⟨.inl rfl, ?_⟩
   refine aw_done (by kernel_rfl) ?_
   refine rk_seq ?_
   refine rk_reg ?_
   refine lw_v (.int .i64 ((S : Int))) (dv_move (T rfl f11)) ?_
   refine lw_v (.bool (decide (0 < ((S : Int))))) (dv_gtr (a := (S : Int)) (b := 0) (T rfl rfl) C) ?_
   refine lw_nil ?_
   by_cases hb32 : 0 < ((S : Int))
   · refine rk_ct (T rfl (congrArg Value.bool (decide_eq_true hb32))) ?_
     refine rk_reg ?_
     refine lw_v (.slice (some ⟨b1, 0, none⟩) (((xs.length) + 1)) (((xs.length) + 1))) (dv_move (T rfl f13)) ?_
     refine lw_v (.int .i64 ((i : Int))) (dv_move (T rfl rfl)) ?_
     refine lw_v (.int .i64 (((i : Int)) + 1)) (dv_add (a := (i : Int)) (b := 1) (z := ((i : Int)) + 1) (T rfl rfl) C (wr_i64 (by omega) (by omega))) ?_
     refine lw_v (.int .u64 (xs.getD i 0)) (dv_move (T rfl rfl)) ?_
     refine lw_v (.int .i64 ((S : Int))) (dv_move (T rfl f11)) ?_
     refine lw_v (.int .i64 (64 - ((S : Int)))) (dv_sub (a := 64) (b := (S : Int)) (z := 64 - ((S : Int))) C (T rfl rfl) (wr_i64 (by omega) (by omega))) ?_
     refine lw_v (.int .u64 ((xs.getD i 0) / 2 ^ ((64 - (S))))) (dv_shr (a := xs.getD i 0) (b := 64 - ((S : Int))) (z := (xs.getD i 0) / 2 ^ ((64 - (S)))) (T rfl rfl) (T rfl rfl) (by omega) (shr_v (K := (64 - (S))) (by omega) (show _ ≤ 64 by omega))) ?_
     refine lw_v (.pointer (some ⟨b1, (((i) + 1)), none⟩)) (dv_indexO (g := b1) (l := ((xs.length) + 1)) (c := ((xs.length) + 1)) (i := ((i) + 1)) (j := ((i : Int)) + 1) us105 sz36 (T rfl rfl) (T rfl rfl) (by omega) (by first | omega | (simp; done) | (simp; omega))) ?_
     refine lw_e (oe_storeW (L := (L.set i ((L.getD i 0) + (((xs.getD i 0) * 2 ^ S) % 18446744073709551616)))) (i := ((i) + 1)) (z := (xs.getD i 0) / 2 ^ ((64 - (S)))) sz36 (T rfl rfl) (T rfl rfl) H30 (by first | omega | (simp; done) | (simp; omega)) ?_)
     intro w33 s34 H35
     have E36 := below_st E31 N4 s34
     refine lw_nil ?_
     refine rk_inBlock ?_
     refine rk_reg ?_
     refine lw_v (.int .i64 (((i : Int)) + 1)) (dv_add (a := (i : Int)) (b := 1) (z := ((i : Int)) + 1) (T rfl f16) C (wr_i64 (by omega) (by omega))) ?_
     refine lw_v (.int .i64 (((i : Int)) + 1)) (dv_move (T rfl rfl)) ?_
     refine lw_nil ?_
     exact ih8 (xs.length - ((i + 1))) _ _ (by rw [hd19]; omega) ⟨(i + 1), (((L.set i ((L.getD i 0) + (((xs.getD i 0) * 2 ^ S) % 18446744073709551616)))).set (((i) + 1)) ((xs.getD i 0) / 2 ^ ((64 - (S))))), rfl, f11, f12, f13, f14, f15, (vi (by omega)), E36, H35, (by omega), (shf_T hS (by omega) hl hok hv hz hb rfl bx.1 bx.2 rfl rfl).1, (shf_T hS (by omega) hl hok hv hz hb rfl bx.1 bx.2 rfl rfl).2.1, (shf_T hS (by omega) hl hok hv hz hb rfl bx.1 bx.2 rfl rfl).2.2.1, (shf_T hS (by omega) hl hok hv hz hb rfl bx.1 bx.2 rfl rfl).2.2.2.1, (shf_T hS (by omega) hl hok hv hz hb rfl bx.1 bx.2 rfl rfl).2.2.2.2⟩
   · refine rk_cf (T rfl (congrArg Value.bool (decide_eq_false hb32))) ?_
     refine rk_skip ?_
     refine rk_inBlock ?_
     refine rk_reg ?_
     refine lw_v (.int .i64 (((i : Int)) + 1)) (dv_add (a := (i : Int)) (b := 1) (z := ((i : Int)) + 1) (T rfl f16) C (wr_i64 (by omega) (by omega))) ?_
     refine lw_v (.int .i64 (((i : Int)) + 1)) (dv_move (T rfl rfl)) ?_
     refine lw_nil ?_
     exact ih8 (xs.length - ((i + 1))) _ _ (by rw [hd19]; omega) ⟨(i + 1), (L.set i ((L.getD i 0) + (((xs.getD i 0) * 2 ^ S) % 18446744073709551616))), rfl, f11, f12, f13, f14, f15, (vi (by omega)), E31, H30, (by omega), (shf_F (by omega) (by omega) hl hok hv hz hb rfl bx.1 bx.2 rfl).1, (shf_F (by omega) (by omega) hl hok hv hz hb rfl bx.1 bx.2 rfl).2.1, (shf_F (by omega) (by omega) hl hok hv hz hb rfl bx.1 bx.2 rfl).2.2.1, (shf_F (by omega) (by omega) hl hok hv hz hb rfl bx.1 bx.2 rfl).2.2.2.1, (shf_F (by omega) (by omega) hl hok hv hz hb rfl bx.1 bx.2 rfl).2.2.2.2⟩
 · refine rk_cf (T rfl (congrArg Value.bool (decide_eq_false hb20))) ?_
   refine rk_exit rfl ?_
   refine rk_seq ?_
   refine rk_reg ?_
   refine lw_v (.slice (some ⟨b1, 0, none⟩) (((xs.length) + 1)) (((xs.length) + 1))) (dv_move (T rfl f13)) ?_
   refine lw_v (.slice (some ⟨b1, 0, none⟩) (((xs.length) + 1)) (((xs.length) + 1))) (dv_assign (T rfl rfl)) ?_
   refine lw_nil ?_
   refine rk_ret Try.func148 (v := .slice (some ⟨b1, 0, none⟩) (((xs.length) + 1)) (((xs.length) + 1))) (res1 Try.results148 (rv_tmp rfl rfl)) ⟨_, rfl, ?_⟩
   exact ⟨_, _, rfl, E17, H18, N4, hl, hok, by rw [hv, List.take_of_length_le (by omega)]⟩
theorem shifted_okl {w : World} {A : Option Addr} {l c S : Nat} {xs : List Int} (hx : Wd w 36 .u64 A xs) (hS : S ≤ 63) (ox : okW (2 ^ 64) xs) (lx : xs.length ≤ 500000) (hl : xs.length = l) : Ct Try.prog 148 [.slice A l c, .int .i64 (S : Int)] w fun v w1 =>
 ∃ b L, v = .slice (some ⟨b, 0, none⟩) (xs.length + 1) (xs.length + 1) ∧ Ext w w1 ∧ w1.heap[b]? = some (.cells (L.map (Value.int .u64)).toArray 36) ∧ w.heap.size ≤ b ∧ L.length = xs.length + 1 ∧ okW (2 ^ 64) L ∧ valB (2 ^ 64) L = 2 ^ S * valB (2 ^ 64) xs := by
 subst hl
 exact shifted_ok hx hS ox lx
end Go.Proofs.Ytmbpomcbdopgnaa.W
