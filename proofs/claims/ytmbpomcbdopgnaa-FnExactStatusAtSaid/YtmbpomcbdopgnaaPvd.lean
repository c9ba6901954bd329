/- Walks and plain mathematics, packed by a program of this session: declarations that the rows reach. -/
import Derived.Test.YtmbpomcbdopgnaaRows
import Derived.Test.YtmbpomcbdopgnaaPvc
set_option linter.unusedVariables false
set_option linter.unusedSimpArgs false
namespace Go.Proofs.Ytmbpomcbdopgnaa.W
open Go Go.RowKit Go.Proofs.Ytmbpomcbdopgnaa.Fw
attribute [local irreducible] RunK LW AW DV OE Ct
theorem agt105 : aggB Try.prog 105 = some false := by kernel_rfl
theorem agt107 : aggB Try.prog 107 = some true := by kernel_rfl
theorem agt36 : aggB Try.prog 36 = some false := by kernel_rfl
theorem agt4 : aggB Try.prog 4 = some false := by kernel_rfl
theorem co103 : callOk Try.prog 103 = true := by kernel_rfl
theorem co114 : callOk Try.prog 114 = true := by kernel_rfl
theorem co117 : callOk Try.prog 117 = true := by kernel_rfl
theorem co118 : callOk Try.prog 118 = true := by kernel_rfl
theorem co119 : callOk Try.prog 119 = true := by kernel_rfl
theorem co120 : callOk Try.prog 120 = true := by kernel_rfl
theorem co139 : callOk Try.prog 139 = true := by kernel_rfl
theorem co73 : callOk Try.prog 73 = true := by kernel_rfl
theorem co74 : callOk Try.prog 74 = true := by kernel_rfl
theorem fo107_0 : fieldOffB Try.prog 107 0 = some 0 := by kernel_rfl
theorem fo107_1 : fieldOffB Try.prog 107 1 = some 1 := by kernel_rfl
theorem in36 : (Try.prog.info? 36).map (fun i => (i.zero, i.size, i.bytes)) = some (some (.int .u64 0), 1, 8) := by kernel_rfl
theorem mo : Try.prog.follows .mixedOrders = true := by kernel_rfl
theorem pl107 : placesB Try.prog 107 = some [(0, 1), (1, 1)] := by kernel_rfl
theorem sz107 : sizeB Try.prog 107 = some 2 := by kernel_rfl
theorem sz36 : sizeB Try.prog 36 = some 1 := by kernel_rfl
theorem ub4 : Try.prog.underlying 4 = some .bool := by kernel_rfl
theorem ui2 : Try.prog.underlying 2 = some (.int .i64) := by kernel_rfl
theorem ui36 : Try.prog.underlying 36 = some (.int .u64) := by kernel_rfl
theorem us105 : Try.prog.underlying 105 = some (.slice 36) := by kernel_rfl
theorem zc107 : zcB Try.prog 107 = some [.bool false, .slice none 0 0] := by kernel_rfl
theorem zc36 : zcB Try.prog 36 = some [.int .u64 0] := by kernel_rfl
theorem ze107 : zeroB Try.prog 107 = some #[.bool false, .slice none 0 0] := by kernel_rfl
set_option maxHeartbeats 1000000 in
theorem trim_ok {w : World} {A : Option Addr} {c : Nat} {xs : List Int} (hx : Wd w 36 .u64 A xs) (hc : xs.length ≤ c) (hL : xs.length ≤ 1000000) : Ct Try.prog 139 [.slice A (xs.length) c] w fun v w1 => v = .slice A (trimL xs).length c ∧ Ext w w1 := by
 refine ct_run (n := 21) Try.func139 rfl Try.ntmps139 rfl ?_
 have E0 : Below w.heap.size w w := Below.refl _ _
 refine rk_seq <| rk_reg <| lw_v (.slice none 0 0) (dv_assign C) <| lw_nil <| rk_seq <| rk_block <| rk_loop (fun dm_ fr wl => ∃ (n : Nat), dm_ = n ∧ fr 0 = .slice A n c ∧ fr 2 = .slice none 0 0 ∧ Below w.heap.size w wl ∧ (n ≤ xs.length) ∧ (trimL (xs.take n) = trimL xs)) (xs.length) ⟨xs.length, rfl, rfl, rfl, E0, (Nat.le_refl _), (by rw [List.take_of_length_le (Nat.le_refl _)])⟩ ?_
 intro d5 fr4 w1 hI2 ih3
 obtain ⟨n, hd9, f6, f7, E8, hn, ht⟩ := hI2
 refine rk_seq <| rk_seq <| rk_reg <| qm (.slice A n c) rfl f6 <| lw_v (qi (n : Int)) (dv_len (ad := A) (l := n) (c := c) us105 (Z rfl)) <| lw_v _ (dv_gtr (a := (n : Int)) (b := 0) (Z rfl) C) <| qm (qd (0 < (n : Int))) rfl rfl ?_
 by_cases hb10 : 0 < ((n : Int))
 · refine lw_vy (.slice A n c) (d := 6) rfl rfl (qT hb10) (dv_move (T rfl f6)) <| lw_vy (.slice A n c) (d := 6) rfl rfl (qT hb10) (dv_move (T rfl f6)) <| lw_vy (qi (n : Int)) (d := 6) rfl rfl (qT hb10) (dv_len (ad := A) (l := n) (c := c) us105 (Z rfl)) <| lw_vy (qi ((n : Int) - 1)) (d := 6) rfl rfl (qT hb10) (dv_sub (a := (n : Int)) (b := 1) (z := (n : Int) - 1) (Z rfl) C (wr_i64 (by omega) (by omega))) ?_
   have h11 := ((hx.take n).ext E8)
   obtain ⟨g12, o13, rfl⟩ := Wd.at h11 (by first | omega | simp <;> omega)
   refine lw_vy (.pointer (some ⟨g12, o13 + ((n) - 1), none⟩)) (d := 6) rfl rfl (qT hb10) (dv_indexW (g := g12) (o := o13) (l := n) (c := c) (i := ((n) - 1)) (j := (n : Int) - 1) us105 sz36 (Z rfl) (Z rfl) (by omega) (by first | omega | simp <;> omega)) <| lw_vy (qu ((xs.take n).getD (((n) - 1)) 0)) (d := 6) rfl rfl (qT hb10) (dv_load agt36 (Z rfl) (Wd.cell h11 (by first | omega | simp <;> omega))) <| lw_vy (qd (((xs.take n).getD (((n) - 1)) 0) = 0)) (d := 6) rfl rfl (qT hb10) (dv_eql (a := (xs.take n).getD (((n) - 1)) 0) (b := 0) (Z rfl) C) <| lw_v (qd (((xs.take n).getD (((n) - 1)) 0) = 0)) (dv_pick_t (T rfl (qT hb10)) (Z rfl)) <| lw_nil ?_
   by_cases hb14 : (((xs.take n)).getD (((n) - 1)) 0) = 0
   · refine rk_ct (T rfl (qT hb14)) <| rk_skip <| rk_block <| rk_reg <| qm (.slice (some ⟨g12, o13, none⟩) n c) rfl f6 <| qm (.slice (some ⟨g12, o13, none⟩) n c) rfl f6 <| lw_v (qi (n : Int)) (dv_len (ad := (some ⟨g12, o13, none⟩)) (l := n) (c := c) us105 (Z rfl)) <| lw_v _ (dv_sub (a := (n : Int)) (b := 1) (z := (n : Int) - 1) (Z rfl) C (wr_i64 (by omega) (by omega))) <| lw_v (.slice (some ⟨g12, o13, none⟩) (((n) - 1)) c) (dv_sliceH (ad := (some ⟨g12, o13, none⟩)) (l := n) (c := c) (i := ((n) - 1)) (j := (n : Int) - 1) us105 sz36 (Z rfl) (Z rfl) (by omega) (by first | omega | simp <;> omega)) <| qs (.slice (some ⟨g12, o13, none⟩) (((n) - 1)) c) rfl rfl <| lw_nil <| rk_inBlock <| ih3 (n - 1) _ _ (by rw [hd9]; omega) ⟨(n - 1), rfl, rfl, f7, E8, (by omega), (by rw [← ht, trim_less xs n (by omega) hn (by first | assumption | simpa using ‹_›)])⟩
   refine rk_cf (T rfl (qF hb14)) <| rk_exit rfl <| rk_seq <| rk_reg <| qm (.slice (some ⟨g12, o13, none⟩) n c) rfl f6 <| qs (.slice (some ⟨g12, o13, none⟩) n c) rfl rfl <| lw_nil <| rk_ret Try.func139 (v := .slice (some ⟨g12, o13, none⟩) n c) (res1 Try.results139 (rv_tmp rfl rfl)) ⟨_, rfl, ?_⟩
   exact ⟨by rw [trim_done xs n hn ht (by first | (left; omega) | (right; assumption))], E8⟩
 refine lw_no (d := 6) rfl rfl (qF hb10) <| lw_no (d := 6) rfl rfl (qF hb10) <| lw_no (d := 6) rfl rfl (qF hb10) <| lw_no (d := 6) rfl rfl (qF hb10) <| lw_no (d := 6) rfl rfl (qF hb10) <| lw_no (d := 6) rfl rfl (qF hb10) <| lw_no (d := 6) rfl rfl (qF hb10) <| lw_v (.bool false) (dv_pick_f (T rfl (qF hb10)) C) <| lw_nil <| rk_cf (Z rfl) <| rk_exit rfl <| rk_seq <| rk_reg <| qm (.slice A n c) rfl f6 <| qs (.slice A n c) rfl rfl <| lw_nil <| rk_ret Try.func139 (v := .slice A n c) (res1 Try.results139 (rv_tmp rfl rfl)) ⟨_, rfl, ?_⟩
 exact ⟨by rw [trim_done xs n hn ht (by first | (left; omega) | (right; assumption))], E8⟩
theorem trim_okl {w : World} {A : Option Addr} {l c : Nat} {xs : List Int} (hx : Wd w 36 .u64 A xs) (hc : l ≤ c) (hL : l ≤ 1000000) (hl : xs.length = l) : Ct Try.prog 139 [.slice A l c] w fun v w1 =>
 v = .slice A (trimL xs).length c ∧ Ext w w1 := by
 subst hl
 exact trim_ok hx hc hL
set_option maxHeartbeats 1000000 in
theorem cmpWords_ok {w : World} {A D : Option Addr} {c d : Nat} {xs ys : List Int} (hx : Wd w 36 .u64 A xs) (hy : Wd w 36 .u64 D ys) (ox : okW (2 ^ 64) xs) (oy : okW (2 ^ 64) ys) (cx : canon xs) (cy : canon ys) (lx : xs.length ≤ 1000000) (ly : ys.length ≤ 1000000) : Ct Try.prog 119 [.slice A (xs.length) c, .slice D (ys.length) d] w fun v w1 => ∃ r : Int, v = .int .i64 r ∧ Ext w w1 ∧ cmpR r (valB (2 ^ 64) xs) (valB (2 ^ 64) ys) := by
 refine ct_run (n := 41) Try.func119 rfl Try.ntmps119 rfl ?_
 have E0 : Below w.heap.size w w := Below.refl _ _
 refine rk_seq <| rk_reg <| lw_v (qi 0) (dv_assign C) <| lw_nil <| rk_seq <| rk_seq <| rk_reg <| qm (.slice A (xs.length) c) rfl rfl <| lw_v (qi (xs.length : Int)) (dv_len (ad := A) (l := xs.length) (c := c) us105 (Z rfl)) <| qm (.slice D (ys.length) d) rfl rfl <| lw_v (qi (ys.length : Int)) (dv_len (ad := D) (l := ys.length) (c := d) us105 (Z rfl)) <| lw_v _ (dv_neq (a := (xs.length : Int)) (b := (ys.length : Int)) (Z rfl) (Z rfl)) <| lw_nil ?_
 by_cases hb1 : ((xs.length : Int)) ≠ ((ys.length : Int))
 · refine rk_ct (T rfl (qT hb1)) <| rk_seq <| rk_reg <| qm (.slice A (xs.length) c) rfl rfl <| lw_v (qi (xs.length : Int)) (dv_len (ad := A) (l := xs.length) (c := c) us105 (Z rfl)) <| qm (.slice D (ys.length) d) rfl rfl <| lw_v (qi (ys.length : Int)) (dv_len (ad := D) (l := ys.length) (c := d) us105 (Z rfl)) <| lw_v _ (dv_sub (a := (xs.length : Int)) (b := (ys.length : Int)) (z := (xs.length : Int) - (ys.length : Int)) (Z rfl) (Z rfl) (wr_i64 (by omega) (by omega))) <| qs (qi ((xs.length : Int) - (ys.length : Int))) rfl rfl <| lw_nil <| rk_ret Try.func119 (v := qi ((xs.length : Int) - (ys.length : Int))) (res1 Try.results119 (rv_tmp rfl rfl)) ⟨_, rfl, ?_⟩
   exact ⟨_, rfl, E0, cmp_len (by decide) ox oy cx cy (by omega)⟩
 refine rk_cf (T rfl (qF hb1)) <| rk_skip <| rk_seq <| rk_seq <| rk_reg <| qm (.slice A (xs.length) c) rfl rfl <| lw_v (qi (xs.length : Int)) (dv_len (ad := A) (l := xs.length) (c := c) us105 (Z rfl)) <| lw_v _ (dv_sub (a := (xs.length : Int)) (b := 1) (z := (xs.length : Int) - 1) (Z rfl) C (wr_i64 (by omega) (by omega))) <| qs (qi ((xs.length : Int) - 1)) rfl rfl <| lw_nil <| rk_block <| rk_loop (fun dm_ fr wl => ∃ (n : Nat), dm_ = n ∧ fr 0 = .slice A (xs.length) c ∧ fr 1 = .slice D (ys.length) d ∧ fr 5 = qi ((n : Int) - 1) ∧ Below w.heap.size w wl ∧ (n ≤ xs.length) ∧ (xs.drop n = ys.drop n)) (xs.length) ⟨xs.length, rfl, rfl, rfl, (vi (by omega)), E0, (Nat.le_refl _), (by rw [List.drop_of_length_le (Nat.le_refl _), List.drop_of_length_le (by omega)])⟩ ?_
 intro d6 fr5 w2 hI3 ih4
 obtain ⟨n, hd11, f7, f8, f9, E10, hn, hd⟩ := hI3
 refine rk_seq <| rk_seq <| rk_reg <| qm (qi ((n : Int) - 1)) rfl f9 <| lw_v _ (dv_geq (a := (n : Int) - 1) (b := 0) (Z rfl) C) <| lw_nil ?_
 by_cases hb12 : 0 ≤ ((n : Int) - 1)
 · refine rk_ct (T rfl (qT hb12)) <| rk_skip <| rk_seq <| rk_block <| rk_seq ?_
   have h13 := (hx.ext E10)
   have h14 := (hy.ext E10)
   refine rk_any (fun w => Wd w 36 .u64 A xs ∧ Wd w 36 .u64 D ys) [] mo ?_
   intro w15 d16
   have E17 := qe E10 d16.ext
   have h18 := (h13.ext d16.ext)
   have h19 := (h14.ext d16.ext)
   refine aw_pure 0 (.slice A (xs.length) c) rfl (by kernel_rfl) .none ⟨h18, h19⟩ (fun _ => dv_move (T rfl f7)) <| aw_pure 1 (qi ((n : Int) - 1)) rfl (by kernel_rfl) .none ⟨h18, h19⟩ (fun _ => dv_move (T rfl f9)) ?_
   obtain ⟨g20, o21, rfl⟩ := Wd.at h18 (by omega)
   refine aw_pure 2 (.pointer (some ⟨g20, o21 + (n - 1), none⟩)) rfl (by kernel_rfl) .none ⟨h18, h19⟩ (fun _ => dv_indexW (g := g20) (o := o21) (l := xs.length) (c := c) (i := (n - 1)) (j := (n : Int) - 1) us105 sz36 (Z rfl) (Z rfl) (by omega) (by omega)) <| aw_load 3 (qu (xs.getD (n - 1) 0)) rfl (by kernel_rfl) .none ⟨h18, h19⟩ (fun _ s => dv_load agt36 (Z rfl) (Wd.cell s.1 (by omega))) <| aw_pure 4 (.slice D (ys.length) d) rfl (by kernel_rfl) .none ⟨h18, h19⟩ (fun _ => dv_move (T rfl f8)) <| aw_pure 5 (qi ((n : Int) - 1)) rfl (by kernel_rfl) .none ⟨h18, h19⟩ (fun _ => dv_move (T rfl f9)) ?_
   obtain ⟨g22, o23, rfl⟩ := Wd.at h19 (by omega)
   refine aw_pure 6 (.pointer (some ⟨g22, o23 + (n - 1), none⟩)) rfl (by kernel_rfl) .none ⟨h18, h19⟩ (fun _ => dv_indexW (g := g22) (o := o23) (l := ys.length) (c := d) (i := (n - 1)) (j := (n : Int) - 1) us105 sz36 (Z rfl) (Z rfl) (by omega) (by omega)) <| aw_load 7 (qu (ys.getD (n - 1) 0)) rfl (by kernel_rfl) .none ⟨h18, h19⟩ (fun _ s => dv_load agt36 (Z rfl) (Wd.cell s.2 (by omega))) <| aw_pure 8 (qd ((xs.getD (n - 1) 0) ≠ (ys.getD (n - 1) 0))) rfl (by kernel_rfl) .none ⟨h18, h19⟩ (fun _ => dv_neq (a := xs.getD (n - 1) 0) (b := ys.getD (n - 1) 0) (Z rfl) (Z rfl)) <| aw_done (by kernel_rfl) ?_
   by_cases hb24 : (xs.getD ((n - 1)) 0) ≠ (ys.getD ((n - 1)) 0)
   · refine rk_ct (T rfl (qT hb24)) <| rk_seq <| rk_seq <| rk_any (fun w => Wd w 36 .u64 (some ⟨g20, o21, none⟩) xs ∧ Wd w 36 .u64 (some ⟨g22, o23, none⟩) ys) [] mo ?_
     intro w25 d26
     have E27 := qe E17 d26.ext
     have h28 := (h18.ext d26.ext)
     have h29 := (h19.ext d26.ext)
     refine aw_pure 0 (.slice (some ⟨g20, o21, none⟩) (xs.length) c) rfl (by kernel_rfl) .none ⟨h28, h29⟩ (fun _ => dv_move (T rfl f7)) <| aw_pure 1 (qi ((n : Int) - 1)) rfl (by kernel_rfl) .none ⟨h28, h29⟩ (fun _ => dv_move (T rfl f9)) <| aw_pure 2 (.pointer (some ⟨g20, o21 + (n - 1), none⟩)) rfl (by kernel_rfl) .none ⟨h28, h29⟩ (fun _ => dv_indexW (g := g20) (o := o21) (l := xs.length) (c := c) (i := (n - 1)) (j := (n : Int) - 1) us105 sz36 (Z rfl) (Z rfl) (by omega) (by omega)) <| aw_load 3 (qu (xs.getD (n - 1) 0)) rfl (by kernel_rfl) .none ⟨h28, h29⟩ (fun _ s => dv_load agt36 (Z rfl) (Wd.cell s.1 (by omega))) <| aw_pure 4 (.slice (some ⟨g22, o23, none⟩) (ys.length) d) rfl (by kernel_rfl) .none ⟨h28, h29⟩ (fun _ => dv_move (T rfl f8)) <| aw_pure 5 (qi ((n : Int) - 1)) rfl (by kernel_rfl) .none ⟨h28, h29⟩ (fun _ => dv_move (T rfl f9)) <| aw_pure 6 (.pointer (some ⟨g22, o23 + (n - 1), none⟩)) rfl (by kernel_rfl) .none ⟨h28, h29⟩ (fun _ => dv_indexW (g := g22) (o := o23) (l := ys.length) (c := d) (i := (n - 1)) (j := (n : Int) - 1) us105 sz36 (Z rfl) (Z rfl) (by omega) (by omega)) <| aw_load 7 (qu (ys.getD (n - 1) 0)) rfl (by kernel_rfl) .none ⟨h28, h29⟩ (fun _ s => dv_load agt36 (Z rfl) (Wd.cell s.2 (by omega))) <| aw_pure 8 (qd ((xs.getD (n - 1) 0) < (ys.getD (n - 1) 0))) rfl (by kernel_rfl) .none ⟨h28, h29⟩ (fun _ => dv_lss (a := xs.getD (n - 1) 0) (b := ys.getD (n - 1) 0) (Z rfl) (Z rfl)) <| aw_done (by kernel_rfl) ?_
     by_cases hb30 : (xs.getD ((n - 1)) 0) < (ys.getD ((n - 1)) 0)
     · refine rk_ct (T rfl (qT hb30)) <| rk_seq <| rk_reg <| lw_v (qi (-1)) (dv_assign C) <| lw_nil <| rk_ret Try.func119 (v := qi (-1)) (res1 Try.results119 (rv_tmp rfl rfl)) ⟨_, rfl, ?_⟩
       exact ⟨_, rfl, E27, ⟨by have := cmp_word (by decide) ox oy n (by omega) (by omega) (by omega) hd (by assumption); omega, by have := cmp_word (by decide) ox oy n (by omega) (by omega) (by omega) hd (by assumption); omega⟩⟩
     refine rk_cf (T rfl (qF hb30)) <| rk_skip <| rk_seq <| rk_reg <| lw_v (qi 1) (dv_assign C) <| lw_nil <| rk_ret Try.func119 (v := qi 1) (res1 Try.results119 (rv_tmp rfl rfl)) ⟨_, rfl, ?_⟩
     exact ⟨_, rfl, E27, ⟨by have := cmp_word (by decide) oy ox n (by omega) (by omega) (by omega) hd.symm (by omega); omega, by have := cmp_word (by decide) oy ox n (by omega) (by omega) (by omega) hd.symm (by omega); omega⟩⟩
   refine rk_cf (T rfl (qF hb24)) <| rk_skip <| rk_inBlock <| rk_reg <| qm (qi ((n : Int) - 1)) rfl f9 <| lw_v _ (dv_sub (a := (n : Int) - 1) (b := 1) (z := ((n : Int) - 1) - 1) (Z rfl) C (wr_i64 (by omega) (by omega))) <| qs (qi (((n : Int) - 1) - 1)) rfl rfl <| lw_nil <| ih4 (n - 1) _ _ (by rw [hd11]; omega) ⟨(n - 1), rfl, f7, f8, (vi (by omega)), E17, (by omega), (drop_step xs ys n (by omega) (by omega) (by omega) hd (by omega))⟩
 refine rk_cf (T rfl (qF hb12)) <| rk_exit rfl <| rk_seq <| rk_reg <| lw_v (qi 0) (dv_assign C) <| lw_nil <| rk_ret Try.func119 (v := qi 0) (res1 Try.results119 (rv_tmp rfl rfl)) ⟨_, rfl, ?_⟩
 exact ⟨_, rfl, E10, (cmp_same (by have hn0 : n = 0 := (by omega); subst hn0; simpa using hd))⟩
theorem cmpWords_wc {w : World} {A D : Option Addr} {l c l' d : Nat} {x y : Int} (h : Wc 64 36 .u64 w A l c x) (h' : Wc 64 36 .u64 w D l' d y) (hl : l ≤ 1000000) (hl' : l' ≤ 1000000) : Ct Try.prog 119 [.slice A l c, .slice D l' d] w fun v w1 =>
 ∃ r : Int, v = .int .i64 r ∧ Ext w w1 ∧ cmpR r x y := by
 obtain ⟨xs, rfl, hc, hw, ho, hk, rfl⟩ := h
 obtain ⟨ys, rfl, hc', hw', ho', hk', rfl⟩ := h'
 exact cmpWords_ok hw hw' ho ho' hk hk' hl hl'
set_option maxHeartbeats 1000000 in
theorem made_ok {w : World} {neg : Bool} {A : Option Addr} {c : Nat} {xs : List Int} (hx : Wd w 36 .u64 A xs) (hc : xs.length ≤ c) (hL : xs.length ≤ 1000000)  : Ct Try.prog 114 [.bool neg, .slice A (xs.length) c] w fun v w1 => v = .agg #[.bool (neg && decide (0 < ((trimL xs).length : Int))), .slice A ((trimL xs).length) c] ∧ Ext w w1 := by
 refine ct_run (n := 15) Try.func114 rfl Try.ntmps114 rfl ?_
 have E0 : Below w.heap.size w w := Below.refl _ _
 refine rk_seq <| rk_reg <| lw_e (oe_alloc ze107 ?_)
 intro b1 w2 n3
 have N4 : w.heap.size ≤ b1 := n3.eq ▸ E0.size
 have E5 := qe E0 n3.ext
 refine qN <| qm (.slice A (xs.length) c) rfl rfl ?_
 have h6 := (hx.ext n3.ext)
 refine lw_e (oe_callf (vs := [.slice A (xs.length) c]) co139 (ar1 (Z rfl)) (trim_okl h6 (by omega) (by omega) (by first | rfl | first | (simp; done) | (simp; omega) | omega)) ?_)
 rintro _ w7 ⟨rfl, e8⟩
 have E9 := qe E5 e8
 refine qs (.slice A ((trimL xs).length) c) rfl rfl <| qN <| qm (.bool neg) rfl rfl <| qm (.bool neg) rfl rfl ?_
 rcases Bool.eq_false_or_eq_true (neg) with hb10 | hb10
 · refine lw_vy (.slice A ((trimL xs).length) c) (d := 8) rfl rfl (congrArg Value.bool hb10) (dv_move (Z rfl)) <| lw_vy (qi (((trimL xs).length : Int))) (d := 8) rfl rfl (congrArg Value.bool hb10) (dv_len (ad := A) (l := (trimL xs).length) (c := c) us105 (Z rfl)) <| lw_vy (qd (0 < (((trimL xs).length : Int)))) (d := 8) rfl rfl (congrArg Value.bool hb10) (dv_gtr (a := ((trimL xs).length : Int)) (b := 0) (Z rfl) C) <| lw_v (qd (0 < (((trimL xs).length : Int)))) (dv_pick_t (T rfl (congrArg Value.bool hb10)) (Z rfl)) <| qm (.slice A ((trimL xs).length) c) rfl rfl <| lw_v (.agg #[qd (0 < (((trimL xs).length : Int))), .slice A ((trimL xs).length) c]) (dv_build (pv := [(0, qd (0 < (((trimL xs).length : Int)))), (1, .slice A ((trimL xs).length) c)]) (l := [qd (0 < (((trimL xs).length : Int))), .slice A ((trimL xs).length) c]) zc107 pl107 ⟨rfl, (Z rfl), ⟨rfl, (Z rfl), trivial⟩⟩ rfl) ?_
   have H11 := (e8.blk n3.blk)
   refine lw_e (oe_store (v := .agg #[qd (0 < (((trimL xs).length : Int))), .slice A ((trimL xs).length) c]) (vs := [qd (0 < (((trimL xs).length : Int))), .slice A ((trimL xs).length) c]) (l := [qd (0 < (((trimL xs).length : Int))), .slice A ((trimL xs).length) c]) (Z rfl) (Z rfl) sz107 rfl rfl rfl H11 rfl ?_)
   intro w12 s13 H14
   have E15 := below_st E9 N4 s13
   refine lw_nil <| rk_ret Try.func114 (v := .agg #[qd (0 < (((trimL xs).length : Int))), .slice A ((trimL xs).length) c]) (res1 Try.results114 (rv_cells (l := [qd (0 < (((trimL xs).length : Int))), .slice A ((trimL xs).length) c]) agt107 sz107 rfl rfl H14 rfl)) ⟨_, rfl, ?_⟩
   exact ⟨(ag2 (congrArg Value.bool (by simp [*])) rfl), E15⟩
 refine lw_no (d := 8) rfl rfl (congrArg Value.bool hb10) <| lw_no (d := 8) rfl rfl (congrArg Value.bool hb10) <| lw_no (d := 8) rfl rfl (congrArg Value.bool hb10) <| lw_v (.bool false) (dv_pick_f (T rfl (congrArg Value.bool hb10)) C) <| qm (.slice A ((trimL xs).length) c) rfl rfl <| lw_v (.agg #[.bool false, .slice A ((trimL xs).length) c]) (dv_build (pv := [(0, .bool false), (1, .slice A ((trimL xs).length) c)]) (l := [.bool false, .slice A ((trimL xs).length) c]) zc107 pl107 ⟨rfl, (Z rfl), ⟨rfl, (Z rfl), trivial⟩⟩ rfl) ?_
 have H16 := (e8.blk n3.blk)
 refine lw_e (oe_store (v := .agg #[.bool false, .slice A ((trimL xs).length) c]) (vs := [.bool false, .slice A ((trimL xs).length) c]) (l := [.bool false, .slice A ((trimL xs).length) c]) (Z rfl) (Z rfl) sz107 rfl rfl rfl H16 rfl ?_)
 intro w17 s18 H19
 have E20 := below_st E9 N4 s18
 refine lw_nil <| rk_ret Try.func114 (v := .agg #[.bool false, .slice A ((trimL xs).length) c]) (res1 Try.results114 (rv_cells (l := [.bool false, .slice A ((trimL xs).length) c]) agt107 sz107 rfl rfl H19 rfl)) ⟨_, rfl, ?_⟩
 exact ⟨(ag2 (congrArg Value.bool (by simp [*])) rfl), E20⟩
theorem made_num {w : World} {neg : Bool} {A : Option Addr} {l c s : Nat} {x : Int} (h : Ws 64 36 .u64 w A l c x) (hl : l ≤ 1000000) (hs : x < 2 ^ s) : Ct Try.prog 114 [.bool neg, .slice A l c] w fun v w1 =>
 ∃ nb n, v = .agg #[.bool nb, .slice A n c] ∧ Ext w w1 ∧ Num 64 36 .u64 w1 nb A n c (sg neg x) s := by
 obtain ⟨xs, rfl, hc, hw, ho, hv⟩ := h
 refine (made_ok (neg := neg) hw hc hl).mono fun v w1 ⟨h1, h2⟩ => ⟨_, _, h1, h2, ?_⟩
 have hc' := trimL_canon xs
 have hcp := canon_pos (B := 2 ^ 64) (by decide) (trimL_ok ho) hc'
 rw [trimL_val, ← hv] at hcp
 refine Wc.num ⟨trimL xs, rfl, Nat.le_trans (trimL_len xs) hc, (hw.ext h2).trim, trimL_ok ho, hc', by rw [hv, trimL_val]⟩ (fun hn => ?_) ?_ hs
 · simp only [Bool.and_eq_true, decide_eq_true_eq] at hn
   omega
 by_cases hz : 0 < (trimL xs).length
 · simp [hz]
 have hx0 : x = 0 := by
  have := valB_nonneg (B := 2 ^ 64) (by decide) ho
  omega
 subst hx0
 cases neg <;> simp [sg, hz]
set_option maxHeartbeats 1000000 in
theorem addWords_ok {w : World} {A D : Option Addr} {c d : Nat} {xs ys : List Int} (hx : Wd w 36 .u64 A xs) (hy : Wd w 36 .u64 D ys) (hc : xs.length ≤ c) (hd : ys.length ≤ d) (ox : okW (2 ^ 64) xs) (oy : okW (2 ^ 64) ys) (lx : xs.length ≤ 500000) (ly : ys.length ≤ 500000) : Ct Try.prog 118 [.slice A (xs.length) c, .slice D (ys.length) d] w fun v w1 => ∃ A' n c', v = .slice A' n c' ∧ Ext w w1 ∧ Wc 64 36 .u64 w1 A' n c' (valB (2 ^ 64) xs + valB (2 ^ 64) ys) := by
 refine ct_run (n := 54) Try.func118 rfl Try.ntmps118 rfl ?_
 have E0 : Below w.heap.size w w := Below.refl _ _
 refine rk_seq <| rk_reg <| lw_v (.slice none 0 0) (dv_assign C) <| lw_nil <| rk_seq <| rk_seq <| rk_reg <| qm (.slice A (xs.length) c) rfl rfl <| lw_v (qi (xs.length : Int)) (dv_len (ad := A) (l := xs.length) (c := c) us105 (Z rfl)) <| qm (.slice D (ys.length) d) rfl rfl <| lw_v (qi (ys.length : Int)) (dv_len (ad := D) (l := ys.length) (c := d) us105 (Z rfl)) <| lw_v _ (dv_lss (a := (xs.length : Int)) (b := (ys.length : Int)) (Z rfl) (Z rfl)) <| lw_nil ?_
 by_cases hb1 : ((xs.length : Int)) < ((ys.length : Int))
 · refine rk_ct (T rfl (qT hb1)) <| rk_reg <| qm (.slice D (ys.length) d) rfl rfl <| qm (.slice A (xs.length) c) rfl rfl <| qs (.slice D (ys.length) d) rfl rfl <| qs (.slice A (xs.length) c) rfl rfl <| qN <| qm (.slice D (ys.length) d) rfl rfl <| lw_v (qi (ys.length : Int)) (dv_len (ad := D) (l := ys.length) (c := d) us105 (Z rfl)) <| lw_v _ (dv_add (a := (ys.length : Int)) (b := 1) (z := (ys.length : Int) + 1) (Z rfl) C (wr_i64 (by omega) (by omega))) <| lw_e (oe_makeW (l := ((ys.length) + 1)) (j := (ys.length : Int) + 1) us105 in36 (Z rfl) (Z rfl) (by omega) (by omega) (by omega) ?_)
   intro b2 w3 n4
   have N5 : w.heap.size ≤ b2 := n4.eq ▸ E0.size
   have E6 := qe E0 n4.ext
   refine qs (.slice (some ⟨b2, 0, none⟩) (((ys.length) + 1)) (((ys.length) + 1))) rfl rfl <| lw_v (qu 0) (dv_assign C) <| lw_nil <| rk_seq <| rk_seq <| rk_reg <| qm (.slice D (ys.length) d) rfl rfl <| lw_v (qi (ys.length : Int)) (dv_len (ad := D) (l := ys.length) (c := d) us105 (Z rfl)) <| lw_v (qi 0) (dv_move C) <| lw_nil <| rk_block <| rk_loop (fun dm_ fr wl => ∃ (i : Nat) (L : List Int) (cy : Int), dm_ = ys.length - i ∧ fr 0 = .slice D (ys.length) d ∧ fr 1 = .slice A (xs.length) c ∧ fr 4 = .slice none 0 0 ∧ fr 5 = .slice (some ⟨b2, 0, none⟩) (((ys.length) + 1)) (((ys.length) + 1)) ∧ fr 6 = qu cy ∧ fr 21 = qi (ys.length : Int) ∧ fr 22 = qi (i : Int) ∧ Below w.heap.size w wl ∧ wl.heap[b2]? = some (.cells (L.map (Value.int .u64)).toArray 36) ∧ (i ≤ ys.length) ∧ (L.length = ys.length + 1) ∧ (okW (2 ^ 64) L) ∧ (0 ≤ cy ∧ cy ≤ 1) ∧ (valB (2 ^ 64) (L.take i) + cy * (2 ^ 64) ^ i = valB (2 ^ 64) (ys.take i) + valB (2 ^ 64) (xs.take i))) (ys.length - 0) ⟨0, (List.replicate (((ys.length) + 1)) (0 : Int)), 0, rfl, rfl, rfl, rfl, rfl, rfl, rfl, rfl, E6, n4.blk, (Nat.zero_le _), (by simp), (okW.replicate (by decide) _), (by decide), (by simp [valB])⟩ ?_
   intro d11 fr10 w7 hI8 ih9
   obtain ⟨i, L, cy, hd21, f12, f13, f14, f15, f16, f17, f18, E19, H20, hi, hl, hok, hcy, hv⟩ := hI8
   have bys := okW.getD oy (by decide) i
   have bxs := okW.getD ox (by decide) i
   refine rk_seq <| rk_reg <| lw_v _ (dv_lss (a := (i : Int)) (b := (ys.length : Int)) (T rfl f18) (T rfl f17)) <| lw_nil <| rk_seq ?_
   by_cases hb22 : ((i : Int)) < ((ys.length : Int))
   · refine rk_ct (T rfl (qT hb22)) <| rk_skip <| rk_seq <| rk_block <| rk_seq <| rk_reg <| qm (qi (i : Int)) rfl f18 <| qs (qi (i : Int)) rfl rfl <| qN <| lw_v (qu 0) (dv_assign C) <| lw_nil <| rk_seq <| rk_seq <| rk_reg <| qm (qi (i : Int)) rfl rfl <| qm (.slice A (xs.length) c) rfl f13 <| lw_v (qi (xs.length : Int)) (dv_len (ad := A) (l := xs.length) (c := c) us105 (Z rfl)) <| lw_v _ (dv_lss (a := (i : Int)) (b := (xs.length : Int)) (Z rfl) (Z rfl)) <| lw_nil <| rk_join (fun fr wl => ∃ (x : Int), fr 0 = .slice D (ys.length) d ∧ fr 1 = .slice A (xs.length) c ∧ fr 4 = .slice none 0 0 ∧ fr 5 = .slice (some ⟨b2, 0, none⟩) (((ys.length) + 1)) (((ys.length) + 1)) ∧ fr 6 = qu cy ∧ fr 7 = qi (i : Int) ∧ fr 8 = qu x ∧ fr 21 = qi (ys.length : Int) ∧ fr 22 = qi (i : Int) ∧ fr 23 = qd ((i : Int) < (ys.length : Int)) ∧ fr 24 = qi (i : Int) ∧ fr 25 = qi (i : Int) ∧ fr 26 = .slice A (xs.length) c ∧ fr 27 = qi (xs.length : Int) ∧ fr 28 = qd ((i : Int) < (xs.length : Int)) ∧ Below w.heap.size w wl ∧ wl.heap[b2]? = some (.cells (L.map (Value.int .u64)).toArray 36) ∧ (x = xs.getD i 0)) ?_ (fun hj25 => ?_)
     · intro fr26 w23 hI24
       obtain ⟨x, f27, f28, f29, f30, f31, f32, f33, f34, f35, f36, f37, f38, f39, f40, f41, E42, H43, hx0⟩ := hI24
       refine rk_reg <| qm (.slice (some ⟨b2, 0, none⟩) (((ys.length) + 1)) (((ys.length) + 1))) rfl f30 <| qm (qi (i : Int)) rfl f32 <| qm (.slice D (ys.length) d) rfl f27 <| qm (qi (i : Int)) rfl f32 ?_
       have h44 := (hy.ext E42)
       obtain ⟨g45, o46, rfl⟩ := Wd.at h44 (by omega)
       refine lw_v (.pointer (some ⟨g45, o46 + i, none⟩)) (dv_indexW (g := g45) (o := o46) (l := ys.length) (c := d) (i := i) (j := (i : Int)) us105 sz36 (Z rfl) (Z rfl) (by omega) (by omega)) <| lw_v (qu (ys.getD i 0)) (dv_load agt36 (Z rfl) (Wd.cell h44 (by omega))) <| qm (qu x) rfl f33 <| qm (qu cy) rfl f31 <| lw_v (.tuple #[qu (((ys.getD i 0) + x + cy) % 18446744073709551616), qu (((ys.getD i 0) + x + cy) / 18446744073709551616)]) (dv_ext (e := add64Entry) (vs := [qu (ys.getD i 0), qu x, qu cy]) Try.func116 rfl rfl (by kernel_rfl) (by kernel_rfl) (ar3 (Z rfl) (Z rfl) (Z rfl)) (run_addE (ys.getD i 0) x cy (by omega) (by omega) (by omega))) <| qm (.tuple #[qu (((ys.getD i 0) + x + cy) % 18446744073709551616), qu (((ys.getD i 0) + x + cy) / 18446744073709551616)]) rfl rfl <| lw_v (qu (((ys.getD i 0) + x + cy) % 18446744073709551616)) (dv_extract (vs := #[qu (((ys.getD i 0) + x + cy) % 18446744073709551616), qu (((ys.getD i 0) + x + cy) / 18446744073709551616)]) (Z rfl) rfl) <| lw_v (qu (((ys.getD i 0) + x + cy) / 18446744073709551616)) (dv_extract (vs := #[qu (((ys.getD i 0) + x + cy) % 18446744073709551616), qu (((ys.getD i 0) + x + cy) / 18446744073709551616)]) (Z rfl) rfl) <| lw_v (.pointer (some ⟨b2, i, none⟩)) (dv_indexO (g := b2) (l := ((ys.length) + 1)) (c := ((ys.length) + 1)) (i := i) (j := (i : Int)) us105 sz36 (Z rfl) (Z rfl) (by omega) (by omega)) <| lw_e (oe_storeW (L := L) (i := i) (z := ((ys.getD i 0) + x + cy) % 18446744073709551616) sz36 (Z rfl) (Z rfl) H43 (by omega) ?_)
       intro w47 s48 H49
       have E50 := below_st E42 N5 s48
       refine qs (qu (((ys.getD i 0) + x + cy) / 18446744073709551616)) rfl rfl <| lw_nil <| rk_inBlock <| rk_reg <| lw_v _ (dv_add (a := (i : Int)) (b := 1) (z := (i : Int) + 1) (T rfl f35) C (wr_i64 (by omega) (by omega))) <| qm (qi ((i : Int) + 1)) rfl rfl <| lw_nil <| ih9 (ys.length - (i + 1)) _ _ (by rw [hd21]; omega) ⟨(i + 1), (L.set i (((ys.getD i 0) + x + cy) % 18446744073709551616)), (((ys.getD i 0) + x + cy) / 18446744073709551616), rfl, f27, f28, f29, f30, rfl, f34, rfl, E50, H49, (by omega), (by simp [hl]), (okW.set hok (by omega) (by omega) _), (by omega), (add_inv (by omega) hv (by omega))⟩
     by_cases hb51 : ((i : Int)) < ((xs.length : Int))
     · refine rk_ct (T rfl (qT hb51)) <| rk_reg <| qm (.slice A (xs.length) c) rfl f13 <| qm (qi (i : Int)) rfl rfl ?_
       have h52 := (hx.ext E19)
       obtain ⟨g53, o54, rfl⟩ := Wd.at h52 (by omega)
       refine lw_v (.pointer (some ⟨g53, o54 + i, none⟩)) (dv_indexW (g := g53) (o := o54) (l := xs.length) (c := c) (i := i) (j := (i : Int)) us105 sz36 (Z rfl) (Z rfl) (by omega) (by omega)) <| lw_v (qu (xs.getD i 0)) (dv_load agt36 (Z rfl) (Wd.cell h52 (by omega))) <| qs (qu (xs.getD i 0)) rfl rfl <| lw_nil <| hj25 _ _ ⟨xs.getD i 0, f12, f13, f14, f15, f16, rfl, rfl, f17, f18, rfl, rfl, rfl, rfl, rfl, rfl, E19, H20, (by first | rfl | exact (getD_ge _ _ (by omega)).symm)⟩
     refine rk_cf (T rfl (qF hb51)) <| rk_skip <| hj25 _ _ ⟨0, f12, f13, f14, f15, f16, rfl, rfl, f17, f18, rfl, rfl, rfl, rfl, rfl, rfl, E19, H20, (by first | rfl | exact (getD_ge _ _ (by omega)).symm)⟩
   refine rk_cf (T rfl (qF hb22)) <| rk_exit rfl <| rk_seq <| rk_reg <| qm (.slice (some ⟨b2, 0, none⟩) (((ys.length) + 1)) (((ys.length) + 1))) rfl f15 <| qm (.slice D (ys.length) d) rfl f12 <| lw_v (qi (ys.length : Int)) (dv_len (ad := D) (l := ys.length) (c := d) us105 (Z rfl)) <| qm (qu cy) rfl f16 <| lw_v (.pointer (some ⟨b2, ys.length, none⟩)) (dv_indexO (g := b2) (l := ((ys.length) + 1)) (c := ((ys.length) + 1)) (i := ys.length) (j := (ys.length : Int)) us105 sz36 (Z rfl) (Z rfl) (by omega) (by omega)) <| lw_e (oe_storeW (L := L) (i := ys.length) (z := cy) sz36 (Z rfl) (Z rfl) H20 (by omega) ?_)
   intro w55 s56 H57
   have E58 := below_st E19 N5 s56
   refine qN <| qm (.slice (some ⟨b2, 0, none⟩) (((ys.length) + 1)) (((ys.length) + 1))) rfl f15 <| lw_e (oe_callf (vs := [.slice (some ⟨b2, 0, none⟩) (((ys.length) + 1)) (((ys.length) + 1))]) co139 (ar1 (Z rfl)) (trim_okl (Wd.ownW H57) (by omega) (by omega) (by first | rfl | first | (simp; done) | (simp; omega) | omega)) ?_)
   rintro _ w59 ⟨rfl, e60⟩
   have E61 := qe E58 e60
   refine qs (.slice (some ⟨b2, 0, none⟩) ((trimL (L.set ys.length cy)).length) (((ys.length) + 1))) rfl rfl <| lw_nil <| rk_ret Try.func118 (v := .slice (some ⟨b2, 0, none⟩) ((trimL (L.set ys.length cy)).length) (((ys.length) + 1))) (res1 Try.results118 (rv_tmp rfl rfl)) ⟨_, rfl, ?_⟩
   exact ⟨_, _, _, rfl, E61, ⟨trimL ((L.set ys.length cy)), rfl, (by have := trimL_len ((L.set ys.length cy)); simp at this ⊢; omega), (Wd.trim ((Wd.ownW H57).ext e60)), trimL_ok (okW.set hok (by omega) (by omega) _), trimL_canon _, (by rw [trimL_val]; first | exact add_fin (by decide) hl hi (by omega) (by omega) hv | (rw [Int.add_comm]; exact add_fin (by decide) hl hi (by omega) (by omega) hv))⟩⟩
 refine rk_cf (T rfl (qF hb1)) <| rk_skip <| rk_seq <| rk_reg <| qm (.slice A (xs.length) c) rfl rfl <| lw_v (qi (xs.length : Int)) (dv_len (ad := A) (l := xs.length) (c := c) us105 (Z rfl)) <| lw_v _ (dv_add (a := (xs.length : Int)) (b := 1) (z := (xs.length : Int) + 1) (Z rfl) C (wr_i64 (by omega) (by omega))) <| lw_e (oe_makeW (l := ((xs.length) + 1)) (j := (xs.length : Int) + 1) us105 in36 (Z rfl) (Z rfl) (by omega) (by omega) (by omega) ?_)
 intro b62 w63 n64
 have N65 : w.heap.size ≤ b62 := n64.eq ▸ E0.size
 have E66 := qe E0 n64.ext
 refine qs (.slice (some ⟨b62, 0, none⟩) (((xs.length) + 1)) (((xs.length) + 1))) rfl rfl <| lw_v (qu 0) (dv_assign C) <| lw_nil <| rk_seq <| rk_seq <| rk_reg <| qm (.slice A (xs.length) c) rfl rfl <| lw_v (qi (xs.length : Int)) (dv_len (ad := A) (l := xs.length) (c := c) us105 (Z rfl)) <| lw_v (qi 0) (dv_move C) <| lw_nil <| rk_block <| rk_loop (fun dm_ fr wl => ∃ (i : Nat) (L : List Int) (cy : Int), dm_ = xs.length - i ∧ fr 0 = .slice A (xs.length) c ∧ fr 1 = .slice D (ys.length) d ∧ fr 4 = .slice none 0 0 ∧ fr 5 = .slice (some ⟨b62, 0, none⟩) (((xs.length) + 1)) (((xs.length) + 1)) ∧ fr 6 = qu cy ∧ fr 21 = qi (xs.length : Int) ∧ fr 22 = qi (i : Int) ∧ Below w.heap.size w wl ∧ wl.heap[b62]? = some (.cells (L.map (Value.int .u64)).toArray 36) ∧ (i ≤ xs.length) ∧ (L.length = xs.length + 1) ∧ (okW (2 ^ 64) L) ∧ (0 ≤ cy ∧ cy ≤ 1) ∧ (valB (2 ^ 64) (L.take i) + cy * (2 ^ 64) ^ i = valB (2 ^ 64) (xs.take i) + valB (2 ^ 64) (ys.take i))) (xs.length - 0) ⟨0, (List.replicate (((xs.length) + 1)) (0 : Int)), 0, rfl, rfl, rfl, rfl, rfl, rfl, rfl, rfl, E66, n64.blk, (Nat.zero_le _), (by simp), (okW.replicate (by decide) _), (by decide), (by simp [valB])⟩ ?_
 intro d71 fr70 w67 hI68 ih69
 obtain ⟨i, L, cy, hd81, f72, f73, f74, f75, f76, f77, f78, E79, H80, hi, hl, hok, hcy, hv⟩ := hI68
 have bxs := okW.getD ox (by decide) i
 have bys := okW.getD oy (by decide) i
 refine rk_seq <| rk_reg <| lw_v _ (dv_lss (a := (i : Int)) (b := (xs.length : Int)) (T rfl f78) (T rfl f77)) <| lw_nil <| rk_seq ?_
 by_cases hb82 : ((i : Int)) < ((xs.length : Int))
 · refine rk_ct (T rfl (qT hb82)) <| rk_skip <| rk_seq <| rk_block <| rk_seq <| rk_reg <| qm (qi (i : Int)) rfl f78 <| qs (qi (i : Int)) rfl rfl <| qN <| lw_v (qu 0) (dv_assign C) <| lw_nil <| rk_seq <| rk_seq <| rk_reg <| qm (qi (i : Int)) rfl rfl <| qm (.slice D (ys.length) d) rfl f73 <| lw_v (qi (ys.length : Int)) (dv_len (ad := D) (l := ys.length) (c := d) us105 (Z rfl)) <| lw_v _ (dv_lss (a := (i : Int)) (b := (ys.length : Int)) (Z rfl) (Z rfl)) <| lw_nil <| rk_join (fun fr wl => ∃ (x : Int), fr 0 = .slice A (xs.length) c ∧ fr 1 = .slice D (ys.length) d ∧ fr 4 = .slice none 0 0 ∧ fr 5 = .slice (some ⟨b62, 0, none⟩) (((xs.length) + 1)) (((xs.length) + 1)) ∧ fr 6 = qu cy ∧ fr 7 = qi (i : Int) ∧ fr 8 = qu x ∧ fr 21 = qi (xs.length : Int) ∧ fr 22 = qi (i : Int) ∧ fr 23 = qd ((i : Int) < (xs.length : Int)) ∧ fr 24 = qi (i : Int) ∧ fr 25 = qi (i : Int) ∧ fr 26 = .slice D (ys.length) d ∧ fr 27 = qi (ys.length : Int) ∧ fr 28 = qd ((i : Int) < (ys.length : Int)) ∧ Below w.heap.size w wl ∧ wl.heap[b62]? = some (.cells (L.map (Value.int .u64)).toArray 36) ∧ (x = ys.getD i 0)) ?_ (fun hj85 => ?_)
   · intro fr86 w83 hI84
     obtain ⟨x, f87, f88, f89, f90, f91, f92, f93, f94, f95, f96, f97, f98, f99, f100, f101, E102, H103, hx0⟩ := hI84
     refine rk_reg <| qm (.slice (some ⟨b62, 0, none⟩) (((xs.length) + 1)) (((xs.length) + 1))) rfl f90 <| qm (qi (i : Int)) rfl f92 <| qm (.slice A (xs.length) c) rfl f87 <| qm (qi (i : Int)) rfl f92 ?_
     have h104 := (hx.ext E102)
     obtain ⟨g105, o106, rfl⟩ := Wd.at h104 (by omega)
     refine lw_v (.pointer (some ⟨g105, o106 + i, none⟩)) (dv_indexW (g := g105) (o := o106) (l := xs.length) (c := c) (i := i) (j := (i : Int)) us105 sz36 (Z rfl) (Z rfl) (by omega) (by omega)) <| lw_v (qu (xs.getD i 0)) (dv_load agt36 (Z rfl) (Wd.cell h104 (by omega))) <| qm (qu x) rfl f93 <| qm (qu cy) rfl f91 <| lw_v (.tuple #[qu (((xs.getD i 0) + x + cy) % 18446744073709551616), qu (((xs.getD i 0) + x + cy) / 18446744073709551616)]) (dv_ext (e := add64Entry) (vs := [qu (xs.getD i 0), qu x, qu cy]) Try.func116 rfl rfl (by kernel_rfl) (by kernel_rfl) (ar3 (Z rfl) (Z rfl) (Z rfl)) (run_addE (xs.getD i 0) x cy (by omega) (by omega) (by omega))) <| qm (.tuple #[qu (((xs.getD i 0) + x + cy) % 18446744073709551616), qu (((xs.getD i 0) + x + cy) / 18446744073709551616)]) rfl rfl <| lw_v (qu (((xs.getD i 0) + x + cy) % 18446744073709551616)) (dv_extract (vs := #[qu (((xs.getD i 0) + x + cy) % 18446744073709551616), qu (((xs.getD i 0) + x + cy) / 18446744073709551616)]) (Z rfl) rfl) <| lw_v (qu (((xs.getD i 0) + x + cy) / 18446744073709551616)) (dv_extract (vs := #[qu (((xs.getD i 0) + x + cy) % 18446744073709551616), qu (((xs.getD i 0) + x + cy) / 18446744073709551616)]) (Z rfl) rfl) <| lw_v (.pointer (some ⟨b62, i, none⟩)) (dv_indexO (g := b62) (l := ((xs.length) + 1)) (c := ((xs.length) + 1)) (i := i) (j := (i : Int)) us105 sz36 (Z rfl) (Z rfl) (by omega) (by omega)) <| lw_e (oe_storeW (L := L) (i := i) (z := ((xs.getD i 0) + x + cy) % 18446744073709551616) sz36 (Z rfl) (Z rfl) H103 (by omega) ?_)
     intro w107 s108 H109
     have E110 := below_st E102 N65 s108
     refine qs (qu (((xs.getD i 0) + x + cy) / 18446744073709551616)) rfl rfl <| lw_nil <| rk_inBlock <| rk_reg <| lw_v _ (dv_add (a := (i : Int)) (b := 1) (z := (i : Int) + 1) (T rfl f95) C (wr_i64 (by omega) (by omega))) <| qm (qi ((i : Int) + 1)) rfl rfl <| lw_nil <| ih69 (xs.length - (i + 1)) _ _ (by rw [hd81]; omega) ⟨(i + 1), (L.set i (((xs.getD i 0) + x + cy) % 18446744073709551616)), (((xs.getD i 0) + x + cy) / 18446744073709551616), rfl, f87, f88, f89, f90, rfl, f94, rfl, E110, H109, (by omega), (by simp [hl]), (okW.set hok (by omega) (by omega) _), (by omega), (add_inv (by omega) hv (by omega))⟩
   by_cases hb111 : ((i : Int)) < ((ys.length : Int))
   · refine rk_ct (T rfl (qT hb111)) <| rk_reg <| qm (.slice D (ys.length) d) rfl f73 <| qm (qi (i : Int)) rfl rfl ?_
     have h112 := (hy.ext E79)
     obtain ⟨g113, o114, rfl⟩ := Wd.at h112 (by omega)
     refine lw_v (.pointer (some ⟨g113, o114 + i, none⟩)) (dv_indexW (g := g113) (o := o114) (l := ys.length) (c := d) (i := i) (j := (i : Int)) us105 sz36 (Z rfl) (Z rfl) (by omega) (by omega)) <| lw_v (qu (ys.getD i 0)) (dv_load agt36 (Z rfl) (Wd.cell h112 (by omega))) <| qs (qu (ys.getD i 0)) rfl rfl <| lw_nil <| hj85 _ _ ⟨ys.getD i 0, f72, f73, f74, f75, f76, rfl, rfl, f77, f78, rfl, rfl, rfl, rfl, rfl, rfl, E79, H80, (by first | rfl | exact (getD_ge _ _ (by omega)).symm)⟩
   refine rk_cf (T rfl (qF hb111)) <| rk_skip <| hj85 _ _ ⟨0, f72, f73, f74, f75, f76, rfl, rfl, f77, f78, rfl, rfl, rfl, rfl, rfl, rfl, E79, H80, (by first | rfl | exact (getD_ge _ _ (by omega)).symm)⟩
 refine rk_cf (T rfl (qF hb82)) <| rk_exit rfl <| rk_seq <| rk_reg <| qm (.slice (some ⟨b62, 0, none⟩) (((xs.length) + 1)) (((xs.length) + 1))) rfl f75 <| qm (.slice A (xs.length) c) rfl f72 <| lw_v (qi (xs.length : Int)) (dv_len (ad := A) (l := xs.length) (c := c) us105 (Z rfl)) <| qm (qu cy) rfl f76 <| lw_v (.pointer (some ⟨b62, xs.length, none⟩)) (dv_indexO (g := b62) (l := ((xs.length) + 1)) (c := ((xs.length) + 1)) (i := xs.length) (j := (xs.length : Int)) us105 sz36 (Z rfl) (Z rfl) (by omega) (by omega)) <| lw_e (oe_storeW (L := L) (i := xs.length) (z := cy) sz36 (Z rfl) (Z rfl) H80 (by omega) ?_)
 intro w115 s116 H117
 have E118 := below_st E79 N65 s116
 refine qN <| qm (.slice (some ⟨b62, 0, none⟩) (((xs.length) + 1)) (((xs.length) + 1))) rfl f75 <| lw_e (oe_callf (vs := [.slice (some ⟨b62, 0, none⟩) (((xs.length) + 1)) (((xs.length) + 1))]) co139 (ar1 (Z rfl)) (trim_okl (Wd.ownW H117) (by omega) (by omega) (by first | rfl | first | (simp; done) | (simp; omega) | omega)) ?_)
 rintro _ w119 ⟨rfl, e120⟩
 have E121 := qe E118 e120
 refine qs (.slice (some ⟨b62, 0, none⟩) ((trimL (L.set xs.length cy)).length) (((xs.length) + 1))) rfl rfl <| lw_nil <| rk_ret Try.func118 (v := .slice (some ⟨b62, 0, none⟩) ((trimL (L.set xs.length cy)).length) (((xs.length) + 1))) (res1 Try.results118 (rv_tmp rfl rfl)) ⟨_, rfl, ?_⟩
 exact ⟨_, _, _, rfl, E121, ⟨trimL ((L.set xs.length cy)), rfl, (by have := trimL_len ((L.set xs.length cy)); simp at this ⊢; omega), (Wd.trim ((Wd.ownW H117).ext e120)), trimL_ok (okW.set hok (by omega) (by omega) _), trimL_canon _, (by rw [trimL_val]; first | exact add_fin (by decide) hl hi (by omega) (by omega) hv | (rw [Int.add_comm]; exact add_fin (by decide) hl hi (by omega) (by omega) hv))⟩⟩
theorem addWords_ws {w : World} {A D : Option Addr} {l c l' d : Nat} {x y : Int} (h : Ws 64 36 .u64 w A l c x) (h' : Ws 64 36 .u64 w D l' d y) (hl : l ≤ 500000) (hl' : l' ≤ 500000) : Ct Try.prog 118 [.slice A l c, .slice D l' d] w fun v w1 =>
 ∃ A' n c', v = .slice A' n c' ∧ Ext w w1 ∧ Wc 64 36 .u64 w1 A' n c' (x + y) := by
 obtain ⟨xs, rfl, hc, hw, ho, hv⟩ := h
 obtain ⟨ys, rfl, hc', hw', ho', hv'⟩ := h'
 subst hv; subst hv'
 exact addWords_ok hw hw' hc hc' ho ho' hl hl'
set_option maxHeartbeats 1000000 in
theorem subWords_ok {w : World} {A D : Option Addr} {c d : Nat} {xs ys : List Int} (hx : Wd w 36 .u64 A xs) (hy : Wd w 36 .u64 D ys) (hc : xs.length ≤ c) (hd : ys.length ≤ d) (ox : okW (2 ^ 64) xs) (oy : okW (2 ^ 64) ys) (lx : xs.length ≤ 500000) (ly : ys.length ≤ 500000) (hyx : ys.length ≤ xs.length) (hle : valB (2 ^ 64) ys ≤ valB (2 ^ 64) xs) : Ct Try.prog 120 [.slice A (xs.length) c, .slice D (ys.length) d] w fun v w1 => ∃ A' n c', v = .slice A' n c' ∧ Ext w w1 ∧ Wc 64 36 .u64 w1 A' n c' (valB (2 ^ 64) xs - valB (2 ^ 64) ys) := by
 refine ct_run (n := 41) Try.func120 rfl Try.ntmps120 rfl ?_
 have E0 : Below w.heap.size w w := Below.refl _ _
 refine rk_seq <| rk_reg <| lw_v (.slice none 0 0) (dv_assign C) <| qN <| qm (.slice A (xs.length) c) rfl rfl <| lw_v (qi (xs.length : Int)) (dv_len (ad := A) (l := xs.length) (c := c) us105 (Z rfl)) <| lw_e (oe_makeW (l := xs.length) (j := (xs.length : Int)) us105 in36 (Z rfl) (Z rfl) (by omega) (by omega) (by omega) ?_)
 intro b1 w2 n3
 have N4 : w.heap.size ≤ b1 := n3.eq ▸ E0.size
 have E5 := qe E0 n3.ext
 refine qs (.slice (some ⟨b1, 0, none⟩) (xs.length) (xs.length)) rfl rfl <| lw_v (qu 0) (dv_assign C) <| lw_nil <| rk_seq <| rk_seq <| rk_reg <| qm (.slice A (xs.length) c) rfl rfl <| lw_v (qi (xs.length : Int)) (dv_len (ad := A) (l := xs.length) (c := c) us105 (Z rfl)) <| lw_v (qi 0) (dv_move C) <| lw_nil <| rk_block <| rk_loop (fun dm_ fr wl => ∃ (i : Nat) (L : List Int) (cy : Int), dm_ = xs.length - i ∧ fr 0 = .slice A (xs.length) c ∧ fr 1 = .slice D (ys.length) d ∧ fr 4 = .slice none 0 0 ∧ fr 5 = .slice (some ⟨b1, 0, none⟩) (xs.length) (xs.length) ∧ fr 6 = qu cy ∧ fr 13 = qi (xs.length : Int) ∧ fr 14 = qi (i : Int) ∧ Below w.heap.size w wl ∧ wl.heap[b1]? = some (.cells (L.map (Value.int .u64)).toArray 36) ∧ (i ≤ xs.length) ∧ (L.length = xs.length) ∧ (okW (2 ^ 64) L) ∧ (0 ≤ cy ∧ cy ≤ 1) ∧ (valB (2 ^ 64) (L.take i) - cy * (2 ^ 64) ^ i = valB (2 ^ 64) (xs.take i) - valB (2 ^ 64) (ys.take i))) (xs.length - 0) ⟨0, (List.replicate xs.length (0 : Int)), 0, rfl, rfl, rfl, rfl, rfl, rfl, rfl, rfl, E5, n3.blk, (Nat.zero_le _), (by simp), (okW.replicate (by decide) _), (by decide), (by simp [valB])⟩ ?_
 intro d10 fr9 w6 hI7 ih8
 obtain ⟨i, L, cy, hd20, f11, f12, f13, f14, f15, f16, f17, E18, H19, hi, hl, hok, hcy, hv⟩ := hI7
 have bxs := okW.getD ox (by decide) i
 have bys := okW.getD oy (by decide) i
 refine rk_seq <| rk_reg <| lw_v _ (dv_lss (a := (i : Int)) (b := (xs.length : Int)) (T rfl f17) (T rfl f16)) <| lw_nil <| rk_seq ?_
 by_cases hb21 : ((i : Int)) < ((xs.length : Int))
 · refine rk_ct (T rfl (qT hb21)) <| rk_skip <| rk_seq <| rk_block <| rk_seq <| rk_reg <| qm (qi (i : Int)) rfl f17 <| qs (qi (i : Int)) rfl rfl <| qN <| lw_v (qu 0) (dv_assign C) <| lw_nil <| rk_seq <| rk_seq <| rk_reg <| qm (qi (i : Int)) rfl rfl <| qm (.slice D (ys.length) d) rfl f12 <| lw_v (qi (ys.length : Int)) (dv_len (ad := D) (l := ys.length) (c := d) us105 (Z rfl)) <| lw_v _ (dv_lss (a := (i : Int)) (b := (ys.length : Int)) (Z rfl) (Z rfl)) <| lw_nil <| rk_join (fun fr wl => ∃ (x : Int), fr 0 = .slice A (xs.length) c ∧ fr 1 = .slice D (ys.length) d ∧ fr 4 = .slice none 0 0 ∧ fr 5 = .slice (some ⟨b1, 0, none⟩) (xs.length) (xs.length) ∧ fr 6 = qu cy ∧ fr 7 = qi (i : Int) ∧ fr 8 = qu x ∧ fr 13 = qi (xs.length : Int) ∧ fr 14 = qi (i : Int) ∧ fr 15 = qd ((i : Int) < (xs.length : Int)) ∧ fr 16 = qi (i : Int) ∧ fr 17 = qi (i : Int) ∧ fr 18 = .slice D (ys.length) d ∧ fr 19 = qi (ys.length : Int) ∧ fr 20 = qd ((i : Int) < (ys.length : Int)) ∧ Below w.heap.size w wl ∧ wl.heap[b1]? = some (.cells (L.map (Value.int .u64)).toArray 36) ∧ (x = ys.getD i 0)) ?_ (fun hj24 => ?_)
   · intro fr25 w22 hI23
     obtain ⟨x, f26, f27, f28, f29, f30, f31, f32, f33, f34, f35, f36, f37, f38, f39, f40, E41, H42, hx0⟩ := hI23
     refine rk_reg <| qm (.slice (some ⟨b1, 0, none⟩) (xs.length) (xs.length)) rfl f29 <| qm (qi (i : Int)) rfl f31 <| qm (.slice A (xs.length) c) rfl f26 <| qm (qi (i : Int)) rfl f31 ?_
     have h43 := (hx.ext E41)
     obtain ⟨g44, o45, rfl⟩ := Wd.at h43 (by omega)
     refine lw_v (.pointer (some ⟨g44, o45 + i, none⟩)) (dv_indexW (g := g44) (o := o45) (l := xs.length) (c := c) (i := i) (j := (i : Int)) us105 sz36 (Z rfl) (Z rfl) (by omega) (by omega)) <| lw_v (qu (xs.getD i 0)) (dv_load agt36 (Z rfl) (Wd.cell h43 (by omega))) <| qm (qu x) rfl f32 <| qm (qu cy) rfl f30 <| lw_v (.tuple #[qu (((xs.getD i 0) - x - cy) % 18446744073709551616), qu (if (xs.getD i 0) < x + cy then 1 else 0)]) (dv_ext (e := subEntry) (vs := [qu (xs.getD i 0), qu x, qu cy]) Try.func140 rfl rfl (by kernel_rfl) (by kernel_rfl) (ar3 (Z rfl) (Z rfl) (Z rfl)) (run_subE (xs.getD i 0) x cy (by omega) (by omega) (by omega) (by omega))) <| qm (.tuple #[qu (((xs.getD i 0) - x - cy) % 18446744073709551616), qu (if (xs.getD i 0) < x + cy then 1 else 0)]) rfl rfl <| lw_v (qu (((xs.getD i 0) - x - cy) % 18446744073709551616)) (dv_extract (vs := #[qu (((xs.getD i 0) - x - cy) % 18446744073709551616), qu (if (xs.getD i 0) < x + cy then 1 else 0)]) (Z rfl) rfl) <| lw_v (qu (if (xs.getD i 0) < x + cy then 1 else 0)) (dv_extract (vs := #[qu (((xs.getD i 0) - x - cy) % 18446744073709551616), qu (if (xs.getD i 0) < x + cy then 1 else 0)]) (Z rfl) rfl) <| lw_v (.pointer (some ⟨b1, i, none⟩)) (dv_indexO (g := b1) (l := xs.length) (c := xs.length) (i := i) (j := (i : Int)) us105 sz36 (Z rfl) (Z rfl) (by omega) (by omega)) <| lw_e (oe_storeW (L := L) (i := i) (z := ((xs.getD i 0) - x - cy) % 18446744073709551616) sz36 (Z rfl) (Z rfl) H42 (by omega) ?_)
     intro w46 s47 H48
     have E49 := below_st E41 N4 s47
     refine qs (qu (if (xs.getD i 0) < x + cy then 1 else 0)) rfl rfl <| lw_nil <| rk_inBlock <| rk_reg <| lw_v _ (dv_add (a := (i : Int)) (b := 1) (z := (i : Int) + 1) (T rfl f34) C (wr_i64 (by omega) (by omega))) <| qm (qi ((i : Int) + 1)) rfl rfl <| lw_nil <| ih8 (xs.length - (i + 1)) _ _ (by rw [hd20]; omega) ⟨(i + 1), (L.set i (((xs.getD i 0) - x - cy) % 18446744073709551616)), (if (xs.getD i 0) < x + cy then 1 else 0), rfl, f26, f27, f28, f29, rfl, f33, rfl, E49, H48, (by omega), (by simp [hl]), (okW.set hok (by omega) (by omega) _), (by split <;> omega), (by subst hx0; exact sub_inv (by decide) (by omega) hv ox oy hcy)⟩
   by_cases hb50 : ((i : Int)) < ((ys.length : Int))
   · refine rk_ct (T rfl (qT hb50)) <| rk_reg <| qm (.slice D (ys.length) d) rfl f12 <| qm (qi (i : Int)) rfl rfl ?_
     have h51 := (hy.ext E18)
     obtain ⟨g52, o53, rfl⟩ := Wd.at h51 (by omega)
     refine lw_v (.pointer (some ⟨g52, o53 + i, none⟩)) (dv_indexW (g := g52) (o := o53) (l := ys.length) (c := d) (i := i) (j := (i : Int)) us105 sz36 (Z rfl) (Z rfl) (by omega) (by omega)) <| lw_v (qu (ys.getD i 0)) (dv_load agt36 (Z rfl) (Wd.cell h51 (by omega))) <| qs (qu (ys.getD i 0)) rfl rfl <| lw_nil <| hj24 _ _ ⟨ys.getD i 0, f11, f12, f13, f14, f15, rfl, rfl, f16, f17, rfl, rfl, rfl, rfl, rfl, rfl, E18, H19, (by first | rfl | exact (getD_ge _ _ (by omega)).symm)⟩
   refine rk_cf (T rfl (qF hb50)) <| rk_skip <| hj24 _ _ ⟨0, f11, f12, f13, f14, f15, rfl, rfl, f16, f17, rfl, rfl, rfl, rfl, rfl, rfl, E18, H19, (by first | rfl | exact (getD_ge _ _ (by omega)).symm)⟩
 refine rk_cf (T rfl (qF hb21)) <| rk_exit rfl <| rk_seq <| rk_reg <| qm (.slice (some ⟨b1, 0, none⟩) (xs.length) (xs.length)) rfl f14 <| lw_e (oe_callf (vs := [.slice (some ⟨b1, 0, none⟩) (xs.length) (xs.length)]) co139 (ar1 (Z rfl)) (trim_okl (Wd.ownW H19) (by omega) (by omega) (by first | rfl | first | (simp; done) | (simp; omega) | omega)) ?_)
 rintro _ w54 ⟨rfl, e55⟩
 have E56 := qe E18 e55
 refine qs (.slice (some ⟨b1, 0, none⟩) ((trimL L).length) (xs.length)) rfl rfl <| lw_nil <| rk_ret Try.func120 (v := .slice (some ⟨b1, 0, none⟩) ((trimL L).length) (xs.length)) (res1 Try.results120 (rv_tmp rfl rfl)) ⟨_, rfl, ?_⟩
 exact ⟨_, _, _, rfl, E56, ⟨trimL L, rfl, (by have := trimL_len L; omega), (Wd.trim ((Wd.ownW H19).ext e55)), trimL_ok hok, trimL_canon _, (by rw [trimL_val]; exact sub_fin (by decide) hl hi (by omega) (by omega) hok hcy hle hv)⟩⟩
theorem subWords_ws {w : World} {A D : Option Addr} {l c l' d : Nat} {x y : Int} (h : Wc 64 36 .u64 w A l c x) (h' : Wc 64 36 .u64 w D l' d y) (hl : l ≤ 500000) (hl' : l' ≤ 500000) (hle : y ≤ x) : Ct Try.prog 120 [.slice A l c, .slice D l' d] w fun v w1 =>
 ∃ A' n c', v = .slice A' n c' ∧ Ext w w1 ∧ Wc 64 36 .u64 w1 A' n c' (x - y) := by
 obtain ⟨xs, rfl, hc, hw, ho, hk, hv⟩ := h
 obtain ⟨ys, rfl, hc', hw', ho', hk', hv'⟩ := h'
 subst hv; subst hv'
 exact subWords_ok hw hw' hc hc' ho ho' hl hl' (len_le ho ho' hk' hle) hle
set_option maxHeartbeats 1000000 in
theorem whole_ok {w : World} {x : Int} (hx : -9223372036854775808 ≤ x ∧ x ≤ 9223372036854775807) : Ct Try.prog 70 [.int .i64 x] w fun v w1 => ∃ nr A' n c', v = .agg #[.bool nr, .slice A' n c'] ∧ Ext w w1 ∧ Num 64 36 .u64 w1 nr A' n c' (x) (64) := by
 refine ct_run (n := 14) Try.func70 rfl Try.ntmps70 rfl ?_
 have E0 : Below w.heap.size w w := Below.refl _ _
 refine rk_seq <| rk_reg <| lw_e (oe_alloc ze107 ?_)
 intro b1 w2 n3
 have N4 : w.heap.size ≤ b1 := n3.eq ▸ E0.size
 have E5 := qe E0 n3.ext
 refine lw_nil <| rk_seq <| rk_seq <| rk_reg <| qm (qi x) rfl rfl <| lw_v _ (dv_lss (a := x) (b := 0) (Z rfl) C) <| lw_nil ?_
 by_cases hb6 : x < 0
 · refine rk_ct (T rfl (qT hb6)) <| rk_seq <| rk_reg <| qm (qi x) rfl rfl <| lw_v (qu ((x) % 18446744073709551616)) (dv_conv (a := x) (z := (x) % 18446744073709551616) ui2 ui36 (Z rfl) (wr_u64 _)) <| lw_v (qu ((0 - ((x) % 18446744073709551616)) % 18446744073709551616)) (dv_neg (a := (x) % 18446744073709551616) (z := (0 - ((x) % 18446744073709551616)) % 18446744073709551616) (Z rfl) (wr_u64 _)) <| lw_e (oe_buildSlice (pv := [(0, qu ((0 - ((x) % 18446744073709551616)) % 18446744073709551616))]) (init := [qu 0]) (l := [qu ((0 - ((x) % 18446744073709551616)) % 18446744073709551616)]) us105 sz36 rfl rfl zc36 (by kernel_rfl) ⟨rfl, (Z rfl), trivial⟩ rfl ?_)
   intro b7 w8 n9
   have N10 : w.heap.size ≤ b7 := n9.eq ▸ E5.size
   have : b1 < b7 := n9.eq ▸ lt_of_blk n3.blk
   have E11 := qe E5 n9.ext
   refine lw_e (oe_callf (vs := [.bool true, .slice (some ⟨b7, 0, none⟩) 1 1]) co114 (ar2 C (Z rfl)) (made_num (s := 64) (neg := true) (⟨[(0 - ((x) % 18446744073709551616)) % 18446744073709551616], rfl, Nat.le_refl _, Wd.ownW n9.blk, (okW_lit (by simp <;> omega)), rfl⟩ : Ws _ _ _ _ _ _ _ _) (by first | omega | decide) (valB_sz (m := 64) (xs := [(0 - ((x) % 18446744073709551616)) % 18446744073709551616]) (n := 1) (okW_lit (by simp <;> omega)) rfl)) ?_)
   rintro _ w15 ⟨nb12, n13, rfl, e16, hn14⟩
   have E17 := qe E11 e16
   have lhn14 := ql hn14
   have H18 := (e16.blk (n9.ext.blk n3.blk))
   refine lw_e (oe_store (v := .agg #[.bool nb12, .slice (some ⟨b7, 0, none⟩) n13 1]) (vs := [.bool nb12, .slice (some ⟨b7, 0, none⟩) n13 1]) (l := [.bool nb12, .slice (some ⟨b7, 0, none⟩) n13 1]) (Z rfl) (Z rfl) sz107 rfl rfl rfl H18 rfl ?_)
   intro w19 s20 H21
   have E22 := below_st E17 N4 s20
   refine lw_nil <| rk_ret Try.func70 (v := .agg #[.bool nb12, .slice (some ⟨b7, 0, none⟩) n13 1]) (res1 Try.results70 (rv_cells (l := [.bool nb12, .slice (some ⟨b7, 0, none⟩) n13 1]) agt107 sz107 rfl rfl H21 rfl)) ⟨_, rfl, ?_⟩
   have h23 := (hn14.st s20 H18 (by decide))
   exact ⟨_, _, _, _, rfl, E22, h23.to (by simp only [sg, valB]; simp; omega) (Nat.le_refl _)⟩
 refine rk_cf (T rfl (qF hb6)) <| rk_skip <| rk_seq <| rk_reg <| qm (qi x) rfl rfl <| lw_v (qu ((x) % 18446744073709551616)) (dv_conv (a := x) (z := (x) % 18446744073709551616) ui2 ui36 (Z rfl) (wr_u64 _)) <| lw_e (oe_buildSlice (pv := [(0, qu ((x) % 18446744073709551616))]) (init := [qu 0]) (l := [qu ((x) % 18446744073709551616)]) us105 sz36 rfl rfl zc36 (by kernel_rfl) ⟨rfl, (Z rfl), trivial⟩ rfl ?_)
 intro b24 w25 n26
 have N27 : w.heap.size ≤ b24 := n26.eq ▸ E5.size
 have : b1 < b24 := n26.eq ▸ lt_of_blk n3.blk
 have E28 := qe E5 n26.ext
 refine lw_e (oe_callf (vs := [.bool false, .slice (some ⟨b24, 0, none⟩) 1 1]) co114 (ar2 C (Z rfl)) (made_num (s := 64) (neg := false) (⟨[(x) % 18446744073709551616], rfl, Nat.le_refl _, Wd.ownW n26.blk, (okW_lit (by simp <;> omega)), rfl⟩ : Ws _ _ _ _ _ _ _ _) (by first | omega | decide) (valB_sz (m := 64) (xs := [(x) % 18446744073709551616]) (n := 1) (okW_lit (by simp <;> omega)) rfl)) ?_)
 rintro _ w32 ⟨nb29, n30, rfl, e33, hn31⟩
 have E34 := qe E28 e33
 have lhn31 := ql hn31
 have H35 := (e33.blk (n26.ext.blk n3.blk))
 refine lw_e (oe_store (v := .agg #[.bool nb29, .slice (some ⟨b24, 0, none⟩) n30 1]) (vs := [.bool nb29, .slice (some ⟨b24, 0, none⟩) n30 1]) (l := [.bool nb29, .slice (some ⟨b24, 0, none⟩) n30 1]) (Z rfl) (Z rfl) sz107 rfl rfl rfl H35 rfl ?_)
 intro w36 s37 H38
 have E39 := below_st E34 N4 s37
 refine lw_nil <| rk_ret Try.func70 (v := .agg #[.bool nb29, .slice (some ⟨b24, 0, none⟩) n30 1]) (res1 Try.results70 (rv_cells (l := [.bool nb29, .slice (some ⟨b24, 0, none⟩) n30 1]) agt107 sz107 rfl rfl H38 rfl)) ⟨_, rfl, ?_⟩
 have h40 := (hn31.st s37 H35 (by decide))
 exact ⟨_, _, _, _, rfl, E39, h40.to (by simp only [sg, valB]; simp; omega) (Nat.le_refl _)⟩
set_option maxHeartbeats 1000000 in
theorem nsign_ok {w : World} {na : Bool} {Aa : Option Addr} {la ca : Nat} {x : Int} {sx : Nat} (ha : Num 64 36 .u64 w na Aa la ca x sx) : Ct Try.prog 103 [.agg #[.bool na, .slice Aa la ca]] w fun v w1 => v = .int .i64 (sgnI x) ∧ Ext w w1 := by
 refine ct_run (n := 11) Try.func103 rfl Try.ntmps103 rfl ?_
 have E0 : Below w.heap.size w w := Below.refl _ _
 refine rk_seq <| rk_reg <| lw_e (oe_box (v := .agg #[.bool na, .slice Aa la ca]) (cs := #[.bool na, .slice Aa la ca]) (Z rfl) rfl ?_)
 intro b1 w2 n3
 have N4 : w.heap.size ≤ b1 := n3.eq ▸ E0.size
 have E5 := qe E0 n3.ext
 refine lw_v (qi 0) (dv_assign C) <| lw_nil <| rk_seq <| rk_block <| rk_seq <| rk_reg <| lw_v (.pointer (some ⟨b1, 0, none⟩)) (dv_fieldAddr (a := ⟨b1, 0, none⟩) (a' := ⟨b1, 0, none⟩) fo107_0 (Z rfl) rfl) <| lw_v (.bool na) (dv_load1 (b := b1) (o := 0) agt4 (Z rfl) n3.blk rfl) <| qs (.bool na) rfl rfl <| lw_nil ?_
 rcases Bool.eq_false_or_eq_true (na) with hb6 | hb6
 · refine rk_ct (T rfl (congrArg Value.bool hb6)) <| rk_seq <| rk_reg <| lw_v (qi (-1)) (dv_assign C) <| lw_nil <| rk_ret Try.func103 (v := qi (-1)) (res1 Try.results103 (rv_tmp rfl rfl)) ⟨_, rfl, ?_⟩
   exact ⟨vi (by have h1 := ha.neg_iff; have h2 := ha.pos_iff; unfold sgnI; simp [*] at *; omega), E5⟩
 refine rk_cf (T rfl (congrArg Value.bool hb6)) <| rk_seq <| rk_reg <| lw_v (.pointer (some ⟨b1, 1, none⟩)) (dv_fieldAddr (a := ⟨b1, 0, none⟩) (a' := ⟨b1, 1, none⟩) fo107_1 (Z rfl) rfl) <| lw_v (.slice Aa la ca) (dv_load1 (b := b1) (o := 1) agt105 (Z rfl) n3.blk rfl) <| lw_v (qi (la : Int)) (dv_len (ad := Aa) (l := la) (c := ca) us105 (Z rfl)) <| lw_v _ (dv_gtr (a := (la : Int)) (b := 0) (Z rfl) C) <| qs (qd (0 < (la : Int))) rfl rfl <| lw_nil ?_
 by_cases hb7 : 0 < ((la : Int))
 · refine rk_ct (T rfl (qT hb7)) <| rk_seq <| rk_reg <| lw_v (qi 1) (dv_assign C) <| lw_nil <| rk_ret Try.func103 (v := qi 1) (res1 Try.results103 (rv_tmp rfl rfl)) ⟨_, rfl, ?_⟩
   exact ⟨vi (by have h1 := ha.neg_iff; have h2 := ha.pos_iff; unfold sgnI; simp [*] at *; omega), E5⟩
 refine rk_cf (T rfl (qF hb7)) <| rk_skip <| rk_inBlock <| rk_seq <| rk_reg <| lw_v (qi 0) (dv_assign C) <| lw_nil <| rk_ret Try.func103 (v := qi 0) (res1 Try.results103 (rv_tmp rfl rfl)) ⟨_, rfl, ?_⟩
 exact ⟨vi (by have h1 := ha.neg_iff; have h2 := ha.pos_iff; unfold sgnI; simp [*] at *; omega), E5⟩
set_option maxHeartbeats 1000000 in
theorem minus_ok {w : World} {na : Bool} {Aa : Option Addr} {la ca : Nat} {x : Int} {sx : Nat} (ha : Num 64 36 .u64 w na Aa la ca x sx) (hs : sx ≤ 500000) : Ct Try.prog 117 [.agg #[.bool na, .slice Aa la ca]] w fun v w1 => ∃ nr A' n c', v = .agg #[.bool nr, .slice A' n c'] ∧ Ext w w1 ∧ Num 64 36 .u64 w1 nr A' n c' (-x) (sx) := by
 refine ct_run (n := 9) Try.func117 rfl Try.ntmps117 rfl ?_
 have E0 : Below w.heap.size w w := Below.refl _ _
 have lha := ql ha
 refine rk_seq <| rk_reg <| lw_e (oe_box (v := .agg #[.bool na, .slice Aa la ca]) (cs := #[.bool na, .slice Aa la ca]) (Z rfl) rfl ?_)
 intro b1 w2 n3
 have N4 : w.heap.size ≤ b1 := n3.eq ▸ E0.size
 have E5 := qe E0 n3.ext
 refine lw_e (oe_alloc ze107 ?_)
 intro b6 w7 n8
 have N9 : w.heap.size ≤ b6 := n8.eq ▸ E5.size
 have : b1 < b6 := n8.eq ▸ lt_of_blk n3.blk
 have E10 := qe E5 n8.ext
 refine qN <| lw_v (.pointer (some ⟨b1, 0, none⟩)) (dv_fieldAddr (a := ⟨b1, 0, none⟩) (a' := ⟨b1, 0, none⟩) fo107_0 (Z rfl) rfl) ?_
 have H11 := (n8.ext.blk n3.blk)
 refine lw_v (.bool na) (dv_load1 (b := b1) (o := 0) agt4 (Z rfl) H11 rfl) <| lw_v (.bool (!na)) (dv_not (Z rfl)) <| lw_v (.pointer (some ⟨b1, 1, none⟩)) (dv_fieldAddr (a := ⟨b1, 0, none⟩) (a' := ⟨b1, 1, none⟩) fo107_1 (Z rfl) rfl) <| lw_v (.slice Aa la ca) (dv_load1 (b := b1) (o := 1) agt105 (Z rfl) H11 rfl) ?_
 have h12 := ((ha.ext n3.ext).ext n8.ext)
 refine lw_e (oe_callf (vs := [.bool (!na), .slice Aa la ca]) co114 (ar2 (Z rfl) (Z rfl)) (made_num (s := sx) (neg := !na) h12.wc.ws (by omega) h12.ltI) ?_)
 rintro _ w16 ⟨nb13, n14, rfl, e17, hn15⟩
 have E18 := qe E10 e17
 have lhn15 := ql hn15
 have H19 := (e17.blk n8.blk)
 refine lw_e (oe_store (v := .agg #[.bool nb13, .slice Aa n14 ca]) (vs := [.bool nb13, .slice Aa n14 ca]) (l := [.bool nb13, .slice Aa n14 ca]) (Z rfl) (Z rfl) sz107 rfl rfl rfl H19 rfl ?_)
 intro w20 s21 H22
 have E23 := below_st E18 N9 s21
 refine lw_nil <| rk_ret Try.func117 (v := .agg #[.bool nb13, .slice Aa n14 ca]) (res1 Try.results117 (rv_cells (l := [.bool nb13, .slice Aa n14 ca]) agt107 sz107 rfl rfl H22 rfl)) ⟨_, rfl, ?_⟩
 have h24 := (hn15.st s21 H19 (by decide))
 exact ⟨_, _, _, _, rfl, E23, h24.to (sg_not ha.neg_iff) (Nat.le_refl _)⟩
set_option maxHeartbeats 1000000 in
theorem plus_ok {w : World} {na : Bool} {Aa : Option Addr} {la ca : Nat} {x : Int} {sx : Nat} (ha : Num 64 36 .u64 w na Aa la ca x sx) {nb : Bool} {Ab : Option Addr} {lb cb : Nat} {y : Int} {sy : Nat} (hb : Num 64 36 .u64 w nb Ab lb cb y sy) (hs : sx ≤ 400000) (hs2 : sy ≤ 400000) : Ct Try.prog 74 [.agg #[.bool na, .slice Aa la ca], .agg #[.bool nb, .slice Ab lb cb]] w fun v w1 => ∃ nr A' n c', v = .agg #[.bool nr, .slice A' n c'] ∧ Ext w w1 ∧ Num 64 36 .u64 w1 nr A' n c' (x + y) (max sx sy + 1) := by
 refine ct_run (n := 40) Try.func74 rfl Try.ntmps74 rfl ?_
 have E0 : Below w.heap.size w w := Below.refl _ _
 have lha := ql ha
 have lhb := ql hb
 refine rk_seq <| rk_reg <| lw_e (oe_box (v := .agg #[.bool na, .slice Aa la ca]) (cs := #[.bool na, .slice Aa la ca]) (Z rfl) rfl ?_)
 intro b1 w2 n3
 have N4 : w.heap.size ≤ b1 := n3.eq ▸ E0.size
 have E5 := qe E0 n3.ext
 refine lw_e (oe_box (v := .agg #[.bool nb, .slice Ab lb cb]) (cs := #[.bool nb, .slice Ab lb cb]) (Z rfl) rfl ?_)
 intro b6 w7 n8
 have N9 : w.heap.size ≤ b6 := n8.eq ▸ E5.size
 have : b1 < b6 := n8.eq ▸ lt_of_blk n3.blk
 have E10 := qe E5 n8.ext
 refine lw_e (oe_alloc ze107 ?_)
 intro b11 w12 n13
 have N14 : w.heap.size ≤ b11 := n13.eq ▸ E10.size
 have : b6 < b11 := n13.eq ▸ lt_of_blk n8.blk
 have E15 := qe E10 n13.ext
 refine lw_nil <| rk_seq <| rk_seq <| rk_reg <| lw_v (.pointer (some ⟨b1, 0, none⟩)) (dv_fieldAddr (a := ⟨b1, 0, none⟩) (a' := ⟨b1, 0, none⟩) fo107_0 (Z rfl) rfl) ?_
 have H16 := (n13.ext.blk (n8.ext.blk n3.blk))
 refine lw_v (.bool na) (dv_load1 (b := b1) (o := 0) agt4 (Z rfl) H16 rfl) <| lw_v (.pointer (some ⟨b6, 0, none⟩)) (dv_fieldAddr (a := ⟨b6, 0, none⟩) (a' := ⟨b6, 0, none⟩) fo107_0 (Z rfl) rfl) ?_
 have H17 := (n13.ext.blk n8.blk)
 refine lw_v (.bool nb) (dv_load1 (b := b6) (o := 0) agt4 (Z rfl) H17 rfl) <| lw_v (.bool (na == nb)) (dv_eqlb (a := na) (b := nb) ub4 (Z rfl) (Z rfl)) <| lw_nil ?_
 rcases Bool.eq_false_or_eq_true (na == nb) with hb18 | hb18
 · refine rk_ct (T rfl (congrArg Value.bool hb18)) <| rk_seq <| rk_any (fun w => w.heap[b1]? = some (.cells #[.bool na, .slice Aa la ca] 107) ∧ w.heap[b6]? = some (.cells #[.bool nb, .slice Ab lb cb] 107)) [8] mo ?_
   intro w19 d20
   have E21 := qe E15 d20.ext
   have H22 := (d20.ext.blk H16)
   have H23 := (d20.ext.blk H17)
   refine aw_pure 0 (.pointer (some ⟨b1, 0, none⟩)) rfl (by kernel_rfl) .none ⟨H22, H23⟩ (fun _ => dv_fieldAddr (a := ⟨b1, 0, none⟩) (a' := ⟨b1, 0, none⟩) fo107_0 (Z rfl) rfl) <| aw_load 1 (.bool na) rfl (by kernel_rfl) .none ⟨H22, H23⟩ (fun _ s => dv_load1 (b := b1) (o := 0) agt4 (Z rfl) s.1 rfl) <| aw_pure 2 (.pointer (some ⟨b1, 1, none⟩)) rfl (by kernel_rfl) .none ⟨H22, H23⟩ (fun _ => dv_fieldAddr (a := ⟨b1, 0, none⟩) (a' := ⟨b1, 1, none⟩) fo107_1 (Z rfl) rfl) <| aw_load 3 (.slice Aa la ca) rfl (by kernel_rfl) .none ⟨H22, H23⟩ (fun _ s => dv_load1 (b := b1) (o := 1) agt105 (Z rfl) s.1 rfl) <| aw_pure 4 (.pointer (some ⟨b6, 1, none⟩)) rfl (by kernel_rfl) .none ⟨H22, H23⟩ (fun _ => dv_fieldAddr (a := ⟨b6, 0, none⟩) (a' := ⟨b6, 1, none⟩) fo107_1 (Z rfl) rfl) <| aw_load 5 (.slice Ab lb cb) rfl (by kernel_rfl) .none ⟨H22, H23⟩ (fun _ s => dv_load1 (b := b6) (o := 1) agt105 (Z rfl) s.2 rfl) ?_
   have h24 := ((((ha.ext n3.ext).ext n8.ext).ext n13.ext).ext d20.ext)
   have h25 := ((((hb.ext n3.ext).ext n8.ext).ext n13.ext).ext d20.ext)
   refine aw_one 6 rfl (by kernel_rfl) .none (oe_callf (vs := [.slice Aa la ca, .slice Ab lb cb]) co118 (ar2 (Z rfl) (Z rfl)) (addWords_ws h24.wc.ws h25.wc.ws (by omega) (by omega)) ?_)
   rintro _ w30 ⟨A26, n27, c28, rfl, e31, h29⟩
   have E32 := qe E21 e31
   have lh29 := Wc.len (by decide) h29 (sz_add h24.ltI h25.ltI)
   have H33 := (e31.blk H22)
   have H34 := (e31.blk H23)
   refine ⟨.inr ⟨H33, H34⟩, ?_⟩
   refine aw_one 7 rfl (by kernel_rfl) .none (oe_callf (vs := [.bool na, .slice A26 n27 c28]) co114 (ar2 (Z rfl) (Z rfl)) (made_num (s := (max sx sy + 1)) (neg := na) h29.ws (by omega) (sz_add h24.ltI h25.ltI)) ?_)
   rintro _ w38 ⟨nb35, n36, rfl, e39, hn37⟩
   have E40 := qe E32 e39
   have lhn37 := ql hn37
   have H41 := (e39.blk H33)
   have H42 := (e39.blk H34)
   refine ⟨.inr ⟨H41, H42⟩, ?_⟩
   have H43 := (e39.blk (e31.blk (d20.ext.blk n13.blk)))
   refine aw_one 8 rfl (by kernel_rfl) .none (oe_store (v := .agg #[.bool nb35, .slice A26 n36 c28]) (vs := [.bool nb35, .slice A26 n36 c28]) (l := [.bool nb35, .slice A26 n36 c28]) (Z rfl) (Z rfl) sz107 rfl rfl rfl H43 rfl ?_)
   intro w44 s45 H46
   have E47 := below_st E40 N14 s45
   refine ⟨.inl rfl, ?_⟩
   refine aw_done (by kernel_rfl) <| rk_ret Try.func74 (v := .agg #[.bool nb35, .slice A26 n36 c28]) (res1 Try.results74 (rv_cells (l := [.bool nb35, .slice A26 n36 c28]) agt107 sz107 rfl rfl H46 rfl)) ⟨_, rfl, ?_⟩
   have h48 := (hn37.st s45 H43 (by decide))
   exact ⟨_, _, _, _, rfl, E47, h48.to (sg_add ha.neg_iff hb.neg_iff (by assumption)) (Nat.le_refl _)⟩
 refine rk_cf (T rfl (congrArg Value.bool hb18)) <| rk_skip <| rk_seq <| rk_seq <| rk_reg <| lw_v (.pointer (some ⟨b1, 1, none⟩)) (dv_fieldAddr (a := ⟨b1, 0, none⟩) (a' := ⟨b1, 1, none⟩) fo107_1 (Z rfl) rfl) <| lw_v (.slice Aa la ca) (dv_load1 (b := b1) (o := 1) agt105 (Z rfl) H16 rfl) <| lw_v (.pointer (some ⟨b6, 1, none⟩)) (dv_fieldAddr (a := ⟨b6, 0, none⟩) (a' := ⟨b6, 1, none⟩) fo107_1 (Z rfl) rfl) <| lw_v (.slice Ab lb cb) (dv_load1 (b := b6) (o := 1) agt105 (Z rfl) H17 rfl) ?_
 have h49 := (((ha.ext n3.ext).ext n8.ext).ext n13.ext)
 have h50 := (((hb.ext n3.ext).ext n8.ext).ext n13.ext)
 refine lw_e (oe_callf (vs := [.slice Aa la ca, .slice Ab lb cb]) co119 (ar2 (Z rfl) (Z rfl)) (cmpWords_wc h49.wc h50.wc (by omega) (by omega)) ?_)
 rintro _ w53 ⟨r51, rfl, e54, hr52⟩
 have E55 := qe E15 e54
 have qhr52 := cmpR.ge hr52
 have phr52 := cmpR.eq hr52
 refine lw_v _ (dv_geq (a := r51) (b := 0) (Z rfl) C) <| lw_nil ?_
 by_cases hb56 : 0 ≤ r51
 · refine rk_ct (T rfl (qT hb56)) <| rk_seq <| rk_any (fun w => w.heap[b1]? = some (.cells #[.bool na, .slice Aa la ca] 107) ∧ w.heap[b6]? = some (.cells #[.bool nb, .slice Ab lb cb] 107)) [8] mo ?_
   intro w57 d58
   have E59 := qe E55 d58.ext
   have H60 := (d58.ext.blk (e54.blk H16))
   have H61 := (d58.ext.blk (e54.blk H17))
   refine aw_pure 0 (.pointer (some ⟨b1, 0, none⟩)) rfl (by kernel_rfl) .none ⟨H60, H61⟩ (fun _ => dv_fieldAddr (a := ⟨b1, 0, none⟩) (a' := ⟨b1, 0, none⟩) fo107_0 (Z rfl) rfl) <| aw_load 1 (.bool na) rfl (by kernel_rfl) .none ⟨H60, H61⟩ (fun _ s => dv_load1 (b := b1) (o := 0) agt4 (Z rfl) s.1 rfl) <| aw_pure 2 (.pointer (some ⟨b1, 1, none⟩)) rfl (by kernel_rfl) .none ⟨H60, H61⟩ (fun _ => dv_fieldAddr (a := ⟨b1, 0, none⟩) (a' := ⟨b1, 1, none⟩) fo107_1 (Z rfl) rfl) <| aw_load 3 (.slice Aa la ca) rfl (by kernel_rfl) .none ⟨H60, H61⟩ (fun _ s => dv_load1 (b := b1) (o := 1) agt105 (Z rfl) s.1 rfl) <| aw_pure 4 (.pointer (some ⟨b6, 1, none⟩)) rfl (by kernel_rfl) .none ⟨H60, H61⟩ (fun _ => dv_fieldAddr (a := ⟨b6, 0, none⟩) (a' := ⟨b6, 1, none⟩) fo107_1 (Z rfl) rfl) <| aw_load 5 (.slice Ab lb cb) rfl (by kernel_rfl) .none ⟨H60, H61⟩ (fun _ s => dv_load1 (b := b6) (o := 1) agt105 (Z rfl) s.2 rfl) ?_
   have h62 := ((h49.ext e54).ext d58.ext)
   have h63 := ((h50.ext e54).ext d58.ext)
   refine aw_one 6 rfl (by kernel_rfl) .none (oe_callf (vs := [.slice Aa la ca, .slice Ab lb cb]) co120 (ar2 (Z rfl) (Z rfl)) (subWords_ws h62.wc h63.wc (by omega) (by omega) (by omega)) ?_)
   rintro _ w68 ⟨A64, n65, c66, rfl, e69, h67⟩
   have E70 := qe E59 e69
   have lh67 := Wc.len (by decide) h67 (sz_sub h62.ltI h63.wc.nonneg)
   have H71 := (e69.blk H60)
   have H72 := (e69.blk H61)
   refine ⟨.inr ⟨H71, H72⟩, ?_⟩
   refine aw_one 7 rfl (by kernel_rfl) .none (oe_callf (vs := [.bool na, .slice A64 n65 c66]) co114 (ar2 (Z rfl) (Z rfl)) (made_num (s := sx) (neg := na) h67.ws (by omega) (sz_sub h62.ltI h63.wc.nonneg)) ?_)
   rintro _ w76 ⟨nb73, n74, rfl, e77, hn75⟩
   have E78 := qe E70 e77
   have lhn75 := ql hn75
   have H79 := (e77.blk H71)
   have H80 := (e77.blk H72)
   refine ⟨.inr ⟨H79, H80⟩, ?_⟩
   have H81 := (e77.blk (e69.blk (d58.ext.blk (e54.blk n13.blk))))
   refine aw_one 8 rfl (by kernel_rfl) .none (oe_store (v := .agg #[.bool nb73, .slice A64 n74 c66]) (vs := [.bool nb73, .slice A64 n74 c66]) (l := [.bool nb73, .slice A64 n74 c66]) (Z rfl) (Z rfl) sz107 rfl rfl rfl H81 rfl ?_)
   intro w82 s83 H84
   have E85 := below_st E78 N14 s83
   refine ⟨.inl rfl, ?_⟩
   refine aw_done (by kernel_rfl) <| rk_ret Try.func74 (v := .agg #[.bool nb73, .slice A64 n74 c66]) (res1 Try.results74 (rv_cells (l := [.bool nb73, .slice A64 n74 c66]) agt107 sz107 rfl rfl H84 rfl)) ⟨_, rfl, ?_⟩
   have h86 := (hn75.st s83 H81 (by decide))
   exact ⟨_, _, _, _, rfl, E85, h86.to (sg_sub ha.neg_iff hb.neg_iff (by assumption)) (by omega)⟩
 refine rk_cf (T rfl (qF hb56)) <| rk_skip <| rk_seq <| rk_any (fun w => w.heap[b6]? = some (.cells #[.bool nb, .slice Ab lb cb] 107) ∧ w.heap[b1]? = some (.cells #[.bool na, .slice Aa la ca] 107)) [8] mo ?_
 intro w87 d88
 have E89 := qe E55 d88.ext
 have H90 := (d88.ext.blk (e54.blk H17))
 have H91 := (d88.ext.blk (e54.blk H16))
 refine aw_pure 0 (.pointer (some ⟨b6, 0, none⟩)) rfl (by kernel_rfl) .none ⟨H90, H91⟩ (fun _ => dv_fieldAddr (a := ⟨b6, 0, none⟩) (a' := ⟨b6, 0, none⟩) fo107_0 (Z rfl) rfl) <| aw_load 1 (.bool nb) rfl (by kernel_rfl) .none ⟨H90, H91⟩ (fun _ s => dv_load1 (b := b6) (o := 0) agt4 (Z rfl) s.1 rfl) <| aw_pure 2 (.pointer (some ⟨b6, 1, none⟩)) rfl (by kernel_rfl) .none ⟨H90, H91⟩ (fun _ => dv_fieldAddr (a := ⟨b6, 0, none⟩) (a' := ⟨b6, 1, none⟩) fo107_1 (Z rfl) rfl) <| aw_load 3 (.slice Ab lb cb) rfl (by kernel_rfl) .none ⟨H90, H91⟩ (fun _ s => dv_load1 (b := b6) (o := 1) agt105 (Z rfl) s.1 rfl) <| aw_pure 4 (.pointer (some ⟨b1, 1, none⟩)) rfl (by kernel_rfl) .none ⟨H90, H91⟩ (fun _ => dv_fieldAddr (a := ⟨b1, 0, none⟩) (a' := ⟨b1, 1, none⟩) fo107_1 (Z rfl) rfl) <| aw_load 5 (.slice Aa la ca) rfl (by kernel_rfl) .none ⟨H90, H91⟩ (fun _ s => dv_load1 (b := b1) (o := 1) agt105 (Z rfl) s.2 rfl) ?_
 have h92 := ((h50.ext e54).ext d88.ext)
 have h93 := ((h49.ext e54).ext d88.ext)
 refine aw_one 6 rfl (by kernel_rfl) .none (oe_callf (vs := [.slice Ab lb cb, .slice Aa la ca]) co120 (ar2 (Z rfl) (Z rfl)) (subWords_ws h92.wc h93.wc (by omega) (by omega) (by omega)) ?_)
 rintro _ w98 ⟨A94, n95, c96, rfl, e99, h97⟩
 have E100 := qe E89 e99
 have lh97 := Wc.len (by decide) h97 (sz_sub h92.ltI h93.wc.nonneg)
 have H101 := (e99.blk H90)
 have H102 := (e99.blk H91)
 refine ⟨.inr ⟨H101, H102⟩, ?_⟩
 refine aw_one 7 rfl (by kernel_rfl) .none (oe_callf (vs := [.bool nb, .slice A94 n95 c96]) co114 (ar2 (Z rfl) (Z rfl)) (made_num (s := sy) (neg := nb) h97.ws (by omega) (sz_sub h92.ltI h93.wc.nonneg)) ?_)
 rintro _ w106 ⟨nb103, n104, rfl, e107, hn105⟩
 have E108 := qe E100 e107
 have lhn105 := ql hn105
 have H109 := (e107.blk H101)
 have H110 := (e107.blk H102)
 refine ⟨.inr ⟨H109, H110⟩, ?_⟩
 have H111 := (e107.blk (e99.blk (d88.ext.blk (e54.blk n13.blk))))
 refine aw_one 8 rfl (by kernel_rfl) .none (oe_store (v := .agg #[.bool nb103, .slice A94 n104 c96]) (vs := [.bool nb103, .slice A94 n104 c96]) (l := [.bool nb103, .slice A94 n104 c96]) (Z rfl) (Z rfl) sz107 rfl rfl rfl H111 rfl ?_)
 intro w112 s113 H114
 have E115 := below_st E108 N14 s113
 refine ⟨.inl rfl, ?_⟩
 refine aw_done (by kernel_rfl) <| rk_ret Try.func74 (v := .agg #[.bool nb103, .slice A94 n104 c96]) (res1 Try.results74 (rv_cells (l := [.bool nb103, .slice A94 n104 c96]) agt107 sz107 rfl rfl H114 rfl)) ⟨_, rfl, ?_⟩
 have h116 := (hn105.st s113 H111 (by decide))
 exact ⟨_, _, _, _, rfl, E115, h116.to (sg_sub' ha.neg_iff hb.neg_iff (by assumption)) (by omega)⟩
set_option maxHeartbeats 1000000 in
theorem less_ok {w : World} {na : Bool} {Aa : Option Addr} {la ca : Nat} {x : Int} {sx : Nat} (ha : Num 64 36 .u64 w na Aa la ca x sx) {nb : Bool} {Ab : Option Addr} {lb cb : Nat} {y : Int} {sy : Nat} (hb : Num 64 36 .u64 w nb Ab lb cb y sy) (hs : sx ≤ 400000) (hs2 : sy ≤ 400000) : Ct Try.prog 73 [.agg #[.bool na, .slice Aa la ca], .agg #[.bool nb, .slice Ab lb cb]] w fun v w1 => ∃ nr A' n c', v = .agg #[.bool nr, .slice A' n c'] ∧ Ext w w1 ∧ Num 64 36 .u64 w1 nr A' n c' (x - y) (max sx sy + 1) := by
 refine ct_run (n := 9) Try.func73 rfl Try.ntmps73 rfl ?_
 have E0 : Below w.heap.size w w := Below.refl _ _
 refine rk_seq <| rk_reg <| lw_e (oe_box (v := .agg #[.bool na, .slice Aa la ca]) (cs := #[.bool na, .slice Aa la ca]) (Z rfl) rfl ?_)
 intro b1 w2 n3
 have N4 : w.heap.size ≤ b1 := n3.eq ▸ E0.size
 have E5 := qe E0 n3.ext
 refine lw_e (oe_box (v := .agg #[.bool nb, .slice Ab lb cb]) (cs := #[.bool nb, .slice Ab lb cb]) (Z rfl) rfl ?_)
 intro b6 w7 n8
 have N9 : w.heap.size ≤ b6 := n8.eq ▸ E5.size
 have : b1 < b6 := n8.eq ▸ lt_of_blk n3.blk
 have E10 := qe E5 n8.ext
 refine lw_e (oe_alloc ze107 ?_)
 intro b11 w12 n13
 have N14 : w.heap.size ≤ b11 := n13.eq ▸ E10.size
 have : b6 < b11 := n13.eq ▸ lt_of_blk n8.blk
 have E15 := qe E10 n13.ext
 refine lw_nil <| rk_seq <| rk_any (fun w => w.heap[b1]? = some (.cells #[.bool na, .slice Aa la ca] 107) ∧ w.heap[b6]? = some (.cells #[.bool nb, .slice Ab lb cb] 107)) [4] mo ?_
 intro w16 d17
 have E18 := qe E15 d17.ext
 have H19 := (d17.ext.blk (n13.ext.blk (n8.ext.blk n3.blk)))
 have H20 := (d17.ext.blk (n13.ext.blk n8.blk))
 refine aw_load 0 (.agg #[.bool na, .slice Aa la ca]) rfl (by kernel_rfl) .none ⟨H19, H20⟩ (fun _ s => dv_loads (l := [.bool na, .slice Aa la ca]) agt107 sz107 (Z rfl) s.1 rfl) <| aw_load 1 (.agg #[.bool nb, .slice Ab lb cb]) rfl (by kernel_rfl) .none ⟨H19, H20⟩ (fun _ s => dv_loads (l := [.bool nb, .slice Ab lb cb]) agt107 sz107 (Z rfl) s.2 rfl) ?_
 have h21 := ((((hb.ext n3.ext).ext n8.ext).ext n13.ext).ext d17.ext)
 refine aw_one 2 rfl (by kernel_rfl) .none (oe_callf (vs := [.agg #[.bool nb, .slice Ab lb cb]]) co117 (ar1 (Z rfl)) (minus_ok h21 (by first | decide | omega)) ?_)
 rintro _ w27 ⟨nr22, A23, n24, c25, rfl, e28, h26⟩
 have E29 := qe E18 e28
 have lh26 := ql h26
 have H30 := (e28.blk H19)
 have H31 := (e28.blk H20)
 refine ⟨.inr ⟨H30, H31⟩, ?_⟩
 have h32 := (((((ha.ext n3.ext).ext n8.ext).ext n13.ext).ext d17.ext).ext e28)
 refine aw_one 3 rfl (by kernel_rfl) .none (oe_callf (vs := [.agg #[.bool na, .slice Aa la ca], .agg #[.bool nr22, .slice A23 n24 c25]]) co74 (ar2 (Z rfl) (Z rfl)) (plus_ok h32 h26 (by first | decide | omega) (by first | decide | omega)) ?_)
 rintro _ w38 ⟨nr33, A34, n35, c36, rfl, e39, h37⟩
 have E40 := qe E29 e39
 have lh37 := ql h37
 have H41 := (e39.blk H30)
 have H42 := (e39.blk H31)
 refine ⟨.inr ⟨H41, H42⟩, ?_⟩
 have H43 := (e39.blk (e28.blk (d17.ext.blk n13.blk)))
 refine aw_one 4 rfl (by kernel_rfl) .none (oe_store (v := .agg #[.bool nr33, .slice A34 n35 c36]) (vs := [.bool nr33, .slice A34 n35 c36]) (l := [.bool nr33, .slice A34 n35 c36]) (Z rfl) (Z rfl) sz107 rfl rfl rfl H43 rfl ?_)
 intro w44 s45 H46
 have E47 := below_st E40 N14 s45
 refine ⟨.inl rfl, ?_⟩
 refine aw_done (by kernel_rfl) <| rk_ret Try.func73 (v := .agg #[.bool nr33, .slice A34 n35 c36]) (res1 Try.results73 (rv_cells (l := [.bool nr33, .slice A34 n35 c36]) agt107 sz107 rfl rfl H46 rfl)) ⟨_, rfl, ?_⟩
 have h48 := (h37.st s45 H43 (by decide))
 exact ⟨_, _, _, _, rfl, E47, h48.to (by omega) (by omega)⟩
set_option maxHeartbeats 1000000 in
theorem ncmp_ok {w : World} {na : Bool} {Aa : Option Addr} {la ca : Nat} {x : Int} {sx : Nat} (ha : Num 64 36 .u64 w na Aa la ca x sx) {nb : Bool} {Ab : Option Addr} {lb cb : Nat} {y : Int} {sy : Nat} (hb : Num 64 36 .u64 w nb Ab lb cb y sy) (hs : sx ≤ 400000) (hs2 : sy ≤ 400000) : Ct Try.prog 69 [.agg #[.bool na, .slice Aa la ca], .agg #[.bool nb, .slice Ab lb cb]] w fun v w1 => v = .int .i64 (sgnI (x - y)) ∧ Ext w w1 := by
 refine ct_run (n := 9) Try.func69 rfl Try.ntmps69 rfl ?_
 have E0 : Below w.heap.size w w := Below.refl _ _
 refine rk_seq <| rk_reg <| lw_e (oe_box (v := .agg #[.bool na, .slice Aa la ca]) (cs := #[.bool na, .slice Aa la ca]) (Z rfl) rfl ?_)
 intro b1 w2 n3
 have N4 : w.heap.size ≤ b1 := n3.eq ▸ E0.size
 have E5 := qe E0 n3.ext
 refine lw_e (oe_box (v := .agg #[.bool nb, .slice Ab lb cb]) (cs := #[.bool nb, .slice Ab lb cb]) (Z rfl) rfl ?_)
 intro b6 w7 n8
 have N9 : w.heap.size ≤ b6 := n8.eq ▸ E5.size
 have : b1 < b6 := n8.eq ▸ lt_of_blk n3.blk
 have E10 := qe E5 n8.ext
 refine lw_v (qi 0) (dv_assign C) <| qN ?_
 have H11 := (n8.ext.blk n3.blk)
 refine lw_v (.agg #[.bool na, .slice Aa la ca]) (dv_loads (l := [.bool na, .slice Aa la ca]) agt107 sz107 (Z rfl) H11 rfl) <| lw_v (.agg #[.bool nb, .slice Ab lb cb]) (dv_loads (l := [.bool nb, .slice Ab lb cb]) agt107 sz107 (Z rfl) n8.blk rfl) ?_
 have h12 := ((ha.ext n3.ext).ext n8.ext)
 have h13 := ((hb.ext n3.ext).ext n8.ext)
 refine lw_e (oe_callf (vs := [.agg #[.bool na, .slice Aa la ca], .agg #[.bool nb, .slice Ab lb cb]]) co73 (ar2 (Z rfl) (Z rfl)) (less_ok h12 h13 (by first | decide | omega) (by first | decide | omega)) ?_)
 rintro _ w19 ⟨nr14, A15, n16, c17, rfl, e20, h18⟩
 have E21 := qe E10 e20
 have lh18 := ql h18
 refine lw_e (oe_callf (vs := [.agg #[.bool nr14, .slice A15 n16 c17]]) co103 (ar1 (Z rfl)) (nsign_ok h18 ) ?_)
 rintro _ w22 ⟨rfl, e23⟩
 have E24 := qe E21 e23
 refine qs (qi (sgnI (x - y))) rfl rfl <| lw_nil <| rk_ret Try.func69 (v := qi (sgnI (x - y))) (res1 Try.results69 (rv_tmp rfl rfl)) ⟨_, rfl, ?_⟩
 exact ⟨rfl, E24⟩
theorem fo38_0 : fieldOffB Try.prog 38 0 = some 0 := by kernel_rfl
theorem fo38_1 : fieldOffB Try.prog 38 1 = some 1 := by kernel_rfl
theorem fo38_2 : fieldOffB Try.prog 38 2 = some 2 := by kernel_rfl
theorem fo38_3 : fieldOffB Try.prog 38 3 = some 3 := by kernel_rfl
set_option maxHeartbeats 1000000 in
theorem wnum_ok {w : World} {a3 a2 a1 a0 : Int} (h3 : 0 ≤ a3 ∧ a3 < 18446744073709551616) (h2 : 0 ≤ a2 ∧ a2 < 18446744073709551616) (h1 : 0 ≤ a1 ∧ a1 < 18446744073709551616) (h0 : 0 ≤ a0 ∧ a0 < 18446744073709551616) : Ct Try.prog 113 [.agg #[.int .u64 a3, .int .u64 a2, .int .u64 a1, .int .u64 a0]] w fun v w1 => ∃ nr A' n c', v = .agg #[.bool nr, .slice A' n c'] ∧ Ext w w1 ∧ Num 64 36 .u64 w1 nr A' n c' (wz a3 a2 a1 a0) (256) := by
 refine ct_run (n := 39) Try.func113 rfl Try.ntmps113 rfl ?_
 have E0 : Below w.heap.size w w := Below.refl _ _
 refine rk_seq <| rk_reg <| lw_e (oe_box (v := .agg #[qu a3, qu a2, qu a1, qu a0]) (cs := #[qu a3, qu a2, qu a1, qu a0]) (Z rfl) rfl ?_)
 intro b1 w2 n3
 have N4 : w.heap.size ≤ b1 := n3.eq ▸ E0.size
 have E5 := qe E0 n3.ext
 refine lw_e (oe_alloc ze107 ?_)
 intro b6 w7 n8
 have N9 : w.heap.size ≤ b6 := n8.eq ▸ E5.size
 have : b1 < b6 := n8.eq ▸ lt_of_blk n3.blk
 have E10 := qe E5 n8.ext
 refine qN <| lw_v (.pointer (some ⟨b1, 3, none⟩)) (dv_fieldAddr (a := ⟨b1, 0, none⟩) (a' := ⟨b1, 3, none⟩) fo38_3 (Z rfl) rfl) ?_
 have H11 := (n8.ext.blk n3.blk)
 refine lw_v (qu a0) (dv_load1 (b := b1) (o := 3) agt36 (Z rfl) H11 rfl) <| lw_v (.pointer (some ⟨b1, 2, none⟩)) (dv_fieldAddr (a := ⟨b1, 0, none⟩) (a' := ⟨b1, 2, none⟩) fo38_2 (Z rfl) rfl) <| lw_v (qu a1) (dv_load1 (b := b1) (o := 2) agt36 (Z rfl) H11 rfl) <| lw_v (.pointer (some ⟨b1, 1, none⟩)) (dv_fieldAddr (a := ⟨b1, 0, none⟩) (a' := ⟨b1, 1, none⟩) fo38_1 (Z rfl) rfl) <| lw_v (qu a2) (dv_load1 (b := b1) (o := 1) agt36 (Z rfl) H11 rfl) <| lw_v (.pointer (some ⟨b1, 0, none⟩)) (dv_fieldAddr (a := ⟨b1, 0, none⟩) (a' := ⟨b1, 0, none⟩) fo38_0 (Z rfl) rfl) <| lw_v (qu a3) (dv_load1 (b := b1) (o := 0) agt36 (Z rfl) H11 rfl) <| lw_e (oe_buildSlice (pv := [(0, qu a0), (1, qu a1), (2, qu a2), (3, qu a3)]) (init := [qu 0, qu 0, qu 0, qu 0]) (l := [qu a0, qu a1, qu a2, qu a3]) us105 sz36 rfl rfl zc36 (by kernel_rfl) ⟨rfl, (Z rfl), ⟨rfl, (Z rfl), ⟨rfl, (Z rfl), ⟨rfl, (Z rfl), trivial⟩⟩⟩⟩ rfl ?_)
 intro b12 w13 n14
 have N15 : w.heap.size ≤ b12 := n14.eq ▸ E10.size
 have : b6 < b12 := n14.eq ▸ lt_of_blk n8.blk
 have E16 := qe E10 n14.ext
 refine qs (.slice (some ⟨b12, 0, none⟩) 4 4) rfl rfl <| lw_nil <| rk_seq <| rk_seq <| rk_reg <| lw_v (.pointer (some ⟨b1, 0, none⟩)) (dv_fieldAddr (a := ⟨b1, 0, none⟩) (a' := ⟨b1, 0, none⟩) fo38_0 (Z rfl) rfl) ?_
 have H17 := (n14.ext.blk H11)
 refine lw_v (qu a3) (dv_load1 (b := b1) (o := 0) agt36 (Z rfl) H17 rfl) <| lw_v (qu (a3 / 9223372036854775808)) (dv_shr (a := a3) (b := 63) (z := a3 / 9223372036854775808) (Z rfl) C (by decide) (shr_c (n := 63) (by omega) (by decide))) <| lw_v _ (dv_eql (a := a3 / 9223372036854775808) (b := 0) (Z rfl) C) <| lw_nil ?_
 by_cases hb18 : (a3 / 9223372036854775808) = 0
 · refine rk_ct (T rfl (qT hb18)) <| rk_seq <| rk_reg <| qm (.slice (some ⟨b12, 0, none⟩) 4 4) rfl rfl <| lw_e (oe_callf (vs := [.bool false, .slice (some ⟨b12, 0, none⟩) 4 4]) co114 (ar2 C (Z rfl)) (made_num (s := 256) (neg := false) (⟨[a0, a1, a2, a3], rfl, Nat.le_refl _, Wd.ownW n14.blk, (okW_lit (by simp <;> omega)), rfl⟩ : Ws _ _ _ _ _ _ _ _) (by omega) (valB_sz (m := 64) (xs := [a0, a1, a2, a3]) (n := 4) (okW_lit (by simp <;> omega)) rfl)) ?_)
   rintro _ w22 ⟨nb19, n20, rfl, e23, hn21⟩
   have E24 := qe E16 e23
   have lhn21 := ql hn21
   have H25 := (e23.blk (n14.ext.blk n8.blk))
   refine lw_e (oe_store (v := .agg #[.bool nb19, .slice (some ⟨b12, 0, none⟩) n20 4]) (vs := [.bool nb19, .slice (some ⟨b12, 0, none⟩) n20 4]) (l := [.bool nb19, .slice (some ⟨b12, 0, none⟩) n20 4]) (Z rfl) (Z rfl) sz107 rfl rfl rfl H25 rfl ?_)
   intro w26 s27 H28
   have E29 := below_st E24 N9 s27
   refine lw_nil <| rk_ret Try.func113 (v := .agg #[.bool nb19, .slice (some ⟨b12, 0, none⟩) n20 4]) (res1 Try.results113 (rv_cells (l := [.bool nb19, .slice (some ⟨b12, 0, none⟩) n20 4]) agt107 sz107 rfl rfl H28 rfl)) ⟨_, rfl, ?_⟩
   have h30 := (hn21.st s27 H25 (by decide))
   exact ⟨_, _, _, _, rfl, E29, h30.tight (wz_lo (by assumption)) (wz_lt h3 h2 h1 h0)⟩
 refine rk_cf (T rfl (qF hb18)) <| rk_skip <| rk_seq <| rk_seq <| rk_reg <| qm (.slice (some ⟨b12, 0, none⟩) 4 4) rfl rfl <| lw_v (qi 4) (dv_len (ad := some ⟨b12, 0, none⟩) (l := 4) (c := 4) us105 (Z rfl)) <| lw_v (qi 0) (dv_move C) <| lw_nil <| rk_block <| rk_unroll <| rk_seq <| rk_reg <| lw_v _ (dv_lss (a := 0) (b := 4) (Z rfl) (Z rfl)) <| lw_nil <| rk_seq <| rk_ct (T rfl (rfl)) <| rk_skip <| rk_seq <| rk_block <| rk_seq <| rk_reg <| qm (qi 0) rfl rfl <| qs (qi 0) rfl rfl <| lw_nil <| rk_reg <| qm (.slice (some ⟨b12, 0, none⟩) 4 4) rfl rfl <| qm (qi 0) rfl rfl <| qm (.slice (some ⟨b12, 0, none⟩) 4 4) rfl rfl <| qm (qi 0) rfl rfl <| lw_v (.pointer (some ⟨b12, 0, none⟩)) (dv_indexAddr (a := ⟨b12, 0, none⟩) (a' := ⟨b12, 0, none⟩) (l := 4) (c := 4) (j := 0) us105 sz36 (Z rfl) (Z rfl) (by decide) (by decide) rfl) <| lw_v (qu a0) (dv_load1 (b := b12) (o := 0) agt36 (Z rfl) n14.blk rfl) <| lw_v (qu (18446744073709551615 - a0)) (dv_xor (a := a0) (z := 18446744073709551615 - a0) (Z rfl) (xor_u64 (by omega) (by omega))) <| lw_v (.pointer (some ⟨b12, 0, none⟩)) (dv_indexAddr (a := ⟨b12, 0, none⟩) (a' := ⟨b12, 0, none⟩) (l := 4) (c := 4) (j := 0) us105 sz36 (Z rfl) (Z rfl) (by decide) (by decide) rfl) <| lw_e (oe_store (v := qu (18446744073709551615 - a0)) (vs := [qu (18446744073709551615 - a0)]) (l := [qu (18446744073709551615 - a0), qu a1, qu a2, qu a3]) (Z rfl) (Z rfl) sz36 rfl rfl rfl n14.blk rfl ?_)
 intro w31 s32 H33
 have E34 := below_st E16 N15 s32
 refine lw_nil <| rk_inBlock <| rk_reg <| lw_v _ (dv_add (a := 0) (b := 1) (z := 1) (Z rfl) C (by decide)) <| qm (qi 1) rfl rfl <| lw_nil <| rk_inLoop <| rk_seq <| rk_reg <| lw_v _ (dv_lss (a := 1) (b := 4) (Z rfl) (Z rfl)) <| lw_nil <| rk_seq <| rk_ct (T rfl (rfl)) <| rk_skip <| rk_seq <| rk_block <| rk_seq <| rk_reg <| qm (qi 1) rfl rfl <| qs (qi 1) rfl rfl <| lw_nil <| rk_reg <| qm (.slice (some ⟨b12, 0, none⟩) 4 4) rfl rfl <| qm (qi 1) rfl rfl <| qm (.slice (some ⟨b12, 0, none⟩) 4 4) rfl rfl <| qm (qi 1) rfl rfl <| lw_v (.pointer (some ⟨b12, 1, none⟩)) (dv_indexAddr (a := ⟨b12, 0, none⟩) (a' := ⟨b12, 1, none⟩) (l := 4) (c := 4) (j := 1) us105 sz36 (Z rfl) (Z rfl) (by decide) (by decide) rfl) <| lw_v (qu a1) (dv_load1 (b := b12) (o := 1) agt36 (Z rfl) H33 rfl) <| lw_v (qu (18446744073709551615 - a1)) (dv_xor (a := a1) (z := 18446744073709551615 - a1) (Z rfl) (xor_u64 (by omega) (by omega))) <| lw_v (.pointer (some ⟨b12, 1, none⟩)) (dv_indexAddr (a := ⟨b12, 0, none⟩) (a' := ⟨b12, 1, none⟩) (l := 4) (c := 4) (j := 1) us105 sz36 (Z rfl) (Z rfl) (by decide) (by decide) rfl) <| lw_e (oe_store (v := qu (18446744073709551615 - a1)) (vs := [qu (18446744073709551615 - a1)]) (l := [qu (18446744073709551615 - a0), qu (18446744073709551615 - a1), qu a2, qu a3]) (Z rfl) (Z rfl) sz36 rfl rfl rfl H33 rfl ?_)
 intro w35 s36 H37
 have E38 := below_st E34 N15 s36
 refine lw_nil <| rk_inBlock <| rk_reg <| lw_v _ (dv_add (a := 1) (b := 1) (z := 2) (Z rfl) C (by decide)) <| qm (qi 2) rfl rfl <| lw_nil <| rk_inLoop <| rk_seq <| rk_reg <| lw_v _ (dv_lss (a := 2) (b := 4) (Z rfl) (Z rfl)) <| lw_nil <| rk_seq <| rk_ct (T rfl (rfl)) <| rk_skip <| rk_seq <| rk_block <| rk_seq <| rk_reg <| qm (qi 2) rfl rfl <| qs (qi 2) rfl rfl <| lw_nil <| rk_reg <| qm (.slice (some ⟨b12, 0, none⟩) 4 4) rfl rfl <| qm (qi 2) rfl rfl <| qm (.slice (some ⟨b12, 0, none⟩) 4 4) rfl rfl <| qm (qi 2) rfl rfl <| lw_v (.pointer (some ⟨b12, 2, none⟩)) (dv_indexAddr (a := ⟨b12, 0, none⟩) (a' := ⟨b12, 2, none⟩) (l := 4) (c := 4) (j := 2) us105 sz36 (Z rfl) (Z rfl) (by decide) (by decide) rfl) <| lw_v (qu a2) (dv_load1 (b := b12) (o := 2) agt36 (Z rfl) H37 rfl) <| lw_v (qu (18446744073709551615 - a2)) (dv_xor (a := a2) (z := 18446744073709551615 - a2) (Z rfl) (xor_u64 (by omega) (by omega))) <| lw_v (.pointer (some ⟨b12, 2, none⟩)) (dv_indexAddr (a := ⟨b12, 0, none⟩) (a' := ⟨b12, 2, none⟩) (l := 4) (c := 4) (j := 2) us105 sz36 (Z rfl) (Z rfl) (by decide) (by decide) rfl) <| lw_e (oe_store (v := qu (18446744073709551615 - a2)) (vs := [qu (18446744073709551615 - a2)]) (l := [qu (18446744073709551615 - a0), qu (18446744073709551615 - a1), qu (18446744073709551615 - a2), qu a3]) (Z rfl) (Z rfl) sz36 rfl rfl rfl H37 rfl ?_)
 intro w39 s40 H41
 have E42 := below_st E38 N15 s40
 refine lw_nil <| rk_inBlock <| rk_reg <| lw_v _ (dv_add (a := 2) (b := 1) (z := 3) (Z rfl) C (by decide)) <| qm (qi 3) rfl rfl <| lw_nil <| rk_inLoop <| rk_seq <| rk_reg <| lw_v _ (dv_lss (a := 3) (b := 4) (Z rfl) (Z rfl)) <| lw_nil <| rk_seq <| rk_ct (T rfl (rfl)) <| rk_skip <| rk_seq <| rk_block <| rk_seq <| rk_reg <| qm (qi 3) rfl rfl <| qs (qi 3) rfl rfl <| lw_nil <| rk_reg <| qm (.slice (some ⟨b12, 0, none⟩) 4 4) rfl rfl <| qm (qi 3) rfl rfl <| qm (.slice (some ⟨b12, 0, none⟩) 4 4) rfl rfl <| qm (qi 3) rfl rfl <| lw_v (.pointer (some ⟨b12, 3, none⟩)) (dv_indexAddr (a := ⟨b12, 0, none⟩) (a' := ⟨b12, 3, none⟩) (l := 4) (c := 4) (j := 3) us105 sz36 (Z rfl) (Z rfl) (by decide) (by decide) rfl) <| lw_v (qu a3) (dv_load1 (b := b12) (o := 3) agt36 (Z rfl) H41 rfl) <| lw_v (qu (18446744073709551615 - a3)) (dv_xor (a := a3) (z := 18446744073709551615 - a3) (Z rfl) (xor_u64 (by omega) (by omega))) <| lw_v (.pointer (some ⟨b12, 3, none⟩)) (dv_indexAddr (a := ⟨b12, 0, none⟩) (a' := ⟨b12, 3, none⟩) (l := 4) (c := 4) (j := 3) us105 sz36 (Z rfl) (Z rfl) (by decide) (by decide) rfl) <| lw_e (oe_store (v := qu (18446744073709551615 - a3)) (vs := [qu (18446744073709551615 - a3)]) (l := [qu (18446744073709551615 - a0), qu (18446744073709551615 - a1), qu (18446744073709551615 - a2), qu (18446744073709551615 - a3)]) (Z rfl) (Z rfl) sz36 rfl rfl rfl H41 rfl ?_)
 intro w43 s44 H45
 have E46 := below_st E42 N15 s44
 refine lw_nil <| rk_inBlock <| rk_reg <| lw_v _ (dv_add (a := 3) (b := 1) (z := 4) (Z rfl) C (by decide)) <| qm (qi 4) rfl rfl <| lw_nil <| rk_inLoop <| rk_seq <| rk_reg <| lw_v _ (dv_lss (a := 4) (b := 4) (Z rfl) (Z rfl)) <| lw_nil <| rk_seq <| rk_cf (T rfl (rfl)) <| rk_exit rfl <| rk_seq <| rk_reg <| qm (.slice (some ⟨b12, 0, none⟩) 4 4) rfl rfl <| lw_e (oe_callf (vs := [.slice (some ⟨b12, 0, none⟩) 4 4]) co139 (ar1 (Z rfl)) (trim_okl (Wd.ownW (xs := [18446744073709551615 - a0, 18446744073709551615 - a1, 18446744073709551615 - a2, 18446744073709551615 - a3]) H45) (by omega) (by omega) (by first | rfl | first | (simp; done) | (simp; omega) | omega)) ?_)
 rintro _ w47 ⟨rfl, e48⟩
 have E49 := qe E46 e48
 have := trimL_len ([18446744073709551615 - a0, 18446744073709551615 - a1, 18446744073709551615 - a2, 18446744073709551615 - a3])
 simp only [List.length_cons, List.length_nil] at this
 refine lw_e (oe_buildSlice (pv := [(0, qu 1)]) (init := [qu 0]) (l := [qu 1]) us105 sz36 rfl rfl zc36 (by kernel_rfl) ⟨rfl, C, trivial⟩ rfl ?_)
 intro b50 w51 n52
 have N53 : w.heap.size ≤ b50 := n52.eq ▸ E49.size
 have H54 := (e48.blk H45)
 have : b12 < b50 := n52.eq ▸ lt_of_blk H54
 have E55 := qe E49 n52.ext
 have h56 := ((Wd.trim ((Wd.ownW (xs := [18446744073709551615 - a0, 18446744073709551615 - a1, 18446744073709551615 - a2, 18446744073709551615 - a3]) H45).ext e48)).ext n52.ext)
 refine lw_e (oe_callf (vs := [.slice (some ⟨b12, 0, none⟩) ((trimL ([18446744073709551615 - a0, 18446744073709551615 - a1, 18446744073709551615 - a2, 18446744073709551615 - a3])).length) 4, .slice (some ⟨b50, 0, none⟩) 1 1]) co118 (ar2 (Z rfl) (Z rfl)) (addWords_ws (⟨(trimL ([18446744073709551615 - a0, 18446744073709551615 - a1, 18446744073709551615 - a2, 18446744073709551615 - a3])), rfl, (Nat.le_trans (trimL_len _) (by simp)), h56, (trimL_ok (okW_lit (by simp <;> omega))), rfl⟩ : Ws _ _ _ _ _ _ _ _) (⟨[1], rfl, Nat.le_refl _, Wd.ownW n52.blk, (okW_lit (by simp <;> omega)), rfl⟩ : Ws _ _ _ _ _ _ _ _) (by omega) (by omega)) ?_)
 rintro _ w61 ⟨A57, n58, c59, rfl, e62, h60⟩
 have E63 := qe E55 e62
 have lh60 := Wc.len (by decide) h60 (sz_add (trimL_sz (m := 64) (s := 256) (okW_lit (by simp <;> omega)) (by simp)) (valB_sz (m := 64) (xs := [1]) (n := 1) (okW_lit (by simp <;> omega)) rfl))
 refine lw_e (oe_callf (vs := [.bool true, .slice A57 n58 c59]) co114 (ar2 C (Z rfl)) (made_num (s := (max 256 64 + 1)) (neg := true) h60.ws (by omega) (sz_add (trimL_sz (m := 64) (s := 256) (okW_lit (by simp <;> omega)) (by simp)) (valB_sz (m := 64) (xs := [1]) (n := 1) (okW_lit (by simp <;> omega)) rfl))) ?_)
 rintro _ w67 ⟨nb64, n65, rfl, e68, hn66⟩
 have E69 := qe E63 e68
 have lhn66 := ql hn66
 have H70 := (e68.blk (e62.blk (n52.ext.blk (e48.blk (s44.blk (s40.blk (s36.blk (s32.blk (n14.ext.blk n8.blk) (by omega)) (by omega)) (by omega)) (by omega))))))
 refine lw_e (oe_store (v := .agg #[.bool nb64, .slice A57 n65 c59]) (vs := [.bool nb64, .slice A57 n65 c59]) (l := [.bool nb64, .slice A57 n65 c59]) (Z rfl) (Z rfl) sz107 rfl rfl rfl H70 rfl ?_)
 intro w71 s72 H73
 have E74 := below_st E69 N9 s72
 refine lw_nil <| rk_ret Try.func113 (v := .agg #[.bool nb64, .slice A57 n65 c59]) (res1 Try.results113 (rv_cells (l := [.bool nb64, .slice A57 n65 c59]) agt107 sz107 rfl rfl H73 rfl)) ⟨_, rfl, ?_⟩
 have h75 := (hn66.st s72 H70 (by decide))
 exact ⟨_, _, _, _, rfl, E74, h75.tight (wz_hi (by assumption)) (wz_lt h3 h2 h1 h0)⟩
theorem wnumz_ok {w : World} {z : Int} (hz : fits z) : Ct Try.prog 113 [.agg #[.int .u64 (wv3 z), .int .u64 (wv2 z), .int .u64 (wv1 z), .int .u64 (wv0 z)]] w fun v w1 => ∃ nr A' n c', v = .agg #[.bool nr, .slice A' n c'] ∧ Ext w w1 ∧ Num 64 36 .u64 w1 nr A' n c' z 256 := by
 have h := wnum_ok (w := w) (w_rg z).1 (w_rg z).2.1 (w_rg z).2.2.1 (w_rg z).2.2.2
 rw [wz_w hz] at h
 exact h
theorem agt168 : aggB Try.prog 168 = some false := by kernel_rfl
theorem agt86 : aggB Try.prog 86 = some false := by kernel_rfl
theorem agt88 : aggB Try.prog 88 = some true := by kernel_rfl
theorem co131 : callOk Try.prog 131 = true := by kernel_rfl
theorem co132 : callOk Try.prog 132 = true := by kernel_rfl
theorem co133 : callOk Try.prog 133 = true := by kernel_rfl
theorem fb88_1 : fieldB Try.prog 88 1 = some (1, 86) := by kernel_rfl
theorem fo88_0 : fieldOffB Try.prog 88 0 = some 0 := by kernel_rfl
theorem fo88_1 : fieldOffB Try.prog 88 1 = some 1 := by kernel_rfl
theorem in168 : (Try.prog.info? 168).map (fun i => (i.zero, i.size, i.bytes)) = some (some (.int .u32 0), 1, 4) := by kernel_rfl
theorem pl88 : placesB Try.prog 88 = some [(0, 1), (1, 1)] := by kernel_rfl
theorem sz168 : sizeB Try.prog 168 = some 1 := by kernel_rfl
theorem sz88 : sizeB Try.prog 88 = some 2 := by kernel_rfl
theorem ui158 : Try.prog.underlying 158 = some (.int .u64) := by kernel_rfl
theorem ui168 : Try.prog.underlying 168 = some (.int .u32) := by kernel_rfl
theorem us86 : Try.prog.underlying 86 = some (.slice 168) := by kernel_rfl
theorem zc168 : zcB Try.prog 168 = some [.int .u32 0] := by kernel_rfl
theorem zc88 : zcB Try.prog 88 = some [.bool false, .slice none 0 0] := by kernel_rfl
theorem ze88 : zeroB Try.prog 88 = some #[.bool false, .slice none 0 0] := by kernel_rfl
set_option maxHeartbeats 1000000 in
theorem l1Trim_ok {w : World} {neg : Bool} {A : Option Addr} {c : Nat} {xs : List Int} (hx : Wd w 168 .u32 A xs) (hc : xs.length ≤ c) (hL : xs.length ≤ 1000000) : Ct Try.prog 131 [.bool neg, .slice A (xs.length) c] w fun v w1 => v = (if (trimL xs).length = 0 then .agg #[.bool false, .slice none 0 0] else .agg #[.bool neg, .slice A (trimL xs).length c]) ∧ Ext w w1 := by
 refine ct_run (n := 28) Try.func131 rfl Try.ntmps131 rfl ?_
 have E0 : Below w.heap.size w w := Below.refl _ _
 refine rk_seq <| rk_reg <| lw_e (oe_alloc ze88 ?_)
 intro b1 w2 n3
 have N4 : w.heap.size ≤ b1 := n3.eq ▸ E0.size
 have E5 := qe E0 n3.ext
 refine qN <| qm (.slice A (xs.length) c) rfl rfl <| lw_v (qi (xs.length : Int)) (dv_len (ad := A) (l := xs.length) (c := c) us86 (Z rfl)) <| qs (qi (xs.length : Int)) rfl rfl <| lw_nil <| rk_seq <| rk_block <| rk_loop (fun dm_ fr wl => ∃ (n : Nat), dm_ = n ∧ fr 0 = .bool neg ∧ fr 1 = .slice A (xs.length) c ∧ fr 4 = .pointer (some ⟨b1, 0, none⟩) ∧ fr 5 = qi (n : Int) ∧ Below w.heap.size w wl ∧ wl.heap[b1]? = some (.cells #[.bool false, .slice none 0 0] 88) ∧ (n ≤ xs.length) ∧ (trimL (xs.take n) = trimL xs)) (xs.length) ⟨xs.length, rfl, rfl, rfl, rfl, (vi (by omega)), E5, n3.blk, (Nat.le_refl _), (by rw [List.take_of_length_le (Nat.le_refl _)])⟩ ?_
 intro d10 fr9 w6 hI7 ih8
 obtain ⟨n, hd17, f11, f12, f13, f14, E15, H16, hn, ht⟩ := hI7
 refine rk_seq <| rk_seq <| rk_reg <| qm (qi (n : Int)) rfl f14 <| lw_v _ (dv_gtr (a := (n : Int)) (b := 0) (Z rfl) C) <| qm (qd (0 < (n : Int))) rfl rfl ?_
 by_cases hb18 : 0 < ((n : Int))
 · refine lw_vy (.slice A (xs.length) c) (d := 10) rfl rfl (qT hb18) (dv_move (T rfl f12)) <| lw_vy (qi (n : Int)) (d := 10) rfl rfl (qT hb18) (dv_move (T rfl f14)) <| lw_vy (qi ((n : Int) - 1)) (d := 10) rfl rfl (qT hb18) (dv_sub (a := (n : Int)) (b := 1) (z := (n : Int) - 1) (Z rfl) C (wr_i64 (by omega) (by omega))) ?_
   have h19 := (hx.ext E15)
   obtain ⟨g20, o21, rfl⟩ := Wd.at h19 (by first | omega | simp <;> omega)
   refine lw_vy (.pointer (some ⟨g20, o21 + ((n) - 1), none⟩)) (d := 10) rfl rfl (qT hb18) (dv_indexW (g := g20) (o := o21) (l := xs.length) (c := c) (i := ((n) - 1)) (j := (n : Int) - 1) us86 sz168 (Z rfl) (Z rfl) (by omega) (by first | omega | simp <;> omega)) <| lw_vy (.int .u32 (xs.getD (((n) - 1)) 0)) (d := 10) rfl rfl (qT hb18) (dv_load agt168 (Z rfl) (Wd.cell h19 (by first | omega | simp <;> omega))) <| lw_vy (qd ((xs.getD (((n) - 1)) 0) = 0)) (d := 10) rfl rfl (qT hb18) (dv_eql (a := xs.getD (((n) - 1)) 0) (b := 0) (Z rfl) C) <| lw_v (qd ((xs.getD (((n) - 1)) 0) = 0)) (dv_pick_t (T rfl (qT hb18)) (Z rfl)) <| lw_nil ?_
   by_cases hb22 : (xs.getD (((n) - 1)) 0) = 0
   · refine rk_ct (T rfl (qT hb22)) <| rk_skip <| rk_block <| rk_reg <| qm (qi (n : Int)) rfl f14 <| lw_v _ (dv_sub (a := (n : Int)) (b := 1) (z := (n : Int) - 1) (Z rfl) C (wr_i64 (by omega) (by omega))) <| qs (qi ((n : Int) - 1)) rfl rfl <| lw_nil <| rk_inBlock <| ih8 (n - 1) _ _ (by rw [hd17]; omega) ⟨(n - 1), rfl, f11, f12, f13, (vi (by omega)), E15, H16, (by omega), (by rw [← ht, trim_less xs n (by omega) hn (by rw [getD_take _ _ _ (by omega)]; first | assumption | simpa using ‹_›)])⟩
   refine rk_cf (T rfl (qF hb22)) <| rk_exit rfl <| rk_seq <| rk_seq <| rk_reg <| qm (qi (n : Int)) rfl f14 <| lw_v _ (dv_eql (a := (n : Int)) (b := 0) (Z rfl) C) <| lw_nil ?_
   by_cases hb23 : ((n : Int)) = 0
   · refine rk_ct (T rfl (qT hb23)) <| rk_seq <| rk_reg <| lw_v (.agg #[.bool false, .slice none 0 0]) (dv_build (pv := []) (l := [.bool false, .slice none 0 0]) zc88 pl88 trivial rfl) <| lw_e (oe_store (v := .agg #[.bool false, .slice none 0 0]) (vs := [.bool false, .slice none 0 0]) (l := [.bool false, .slice none 0 0]) (T rfl f13) (Z rfl) sz88 rfl rfl rfl H16 rfl ?_)
     intro w24 s25 H26
     have E27 := below_st E15 N4 s25
     refine lw_nil <| rk_ret Try.func131 (v := .agg #[.bool false, .slice none 0 0]) (res1 Try.results131 (rv_cells (l := [.bool false, .slice none 0 0]) agt88 sz88 rfl f13 H26 rfl)) ⟨_, rfl, ?_⟩
     have hl := trim_done xs n hn ht (by rw [getD_take_or]; omega)
     exact ⟨by rw [hl]; rw [if_pos (by omega)], E27⟩
   refine rk_cf (T rfl (qF hb23)) <| rk_skip <| rk_seq <| rk_reg <| qm (.bool neg) rfl f11 <| qm (.slice (some ⟨g20, o21, none⟩) (xs.length) c) rfl f12 <| qm (qi (n : Int)) rfl f14 <| lw_v (.slice (some ⟨g20, o21, none⟩) n c) (dv_sliceH (ad := (some ⟨g20, o21, none⟩)) (l := xs.length) (c := c) (i := n) (j := (n : Int)) us86 sz168 (Z rfl) (Z rfl) (by omega) (by first | omega | simp <;> omega)) <| lw_v (.agg #[.bool neg, .slice (some ⟨g20, o21, none⟩) n c]) (dv_build (pv := [(0, .bool neg), (1, .slice (some ⟨g20, o21, none⟩) n c)]) (l := [.bool neg, .slice (some ⟨g20, o21, none⟩) n c]) zc88 pl88 ⟨rfl, (Z rfl), ⟨rfl, (Z rfl), trivial⟩⟩ rfl) <| lw_e (oe_store (v := .agg #[.bool neg, .slice (some ⟨g20, o21, none⟩) n c]) (vs := [.bool neg, .slice (some ⟨g20, o21, none⟩) n c]) (l := [.bool neg, .slice (some ⟨g20, o21, none⟩) n c]) (T rfl f13) (Z rfl) sz88 rfl rfl rfl H16 rfl ?_)
   intro w28 s29 H30
   have E31 := below_st E15 N4 s29
   refine lw_nil <| rk_ret Try.func131 (v := .agg #[.bool neg, .slice (some ⟨g20, o21, none⟩) n c]) (res1 Try.results131 (rv_cells (l := [.bool neg, .slice (some ⟨g20, o21, none⟩) n c]) agt88 sz88 rfl f13 H30 rfl)) ⟨_, rfl, ?_⟩
   have hl := trim_done xs n hn ht (by rw [getD_take_or]; omega)
   exact ⟨by rw [hl]; rw [if_neg (by omega)], E31⟩
 refine lw_no (d := 10) rfl rfl (qF hb18) <| lw_no (d := 10) rfl rfl (qF hb18) <| lw_no (d := 10) rfl rfl (qF hb18) <| lw_no (d := 10) rfl rfl (qF hb18) <| lw_no (d := 10) rfl rfl (qF hb18) <| lw_no (d := 10) rfl rfl (qF hb18) <| lw_v (.bool false) (dv_pick_f (T rfl (qF hb18)) C) <| lw_nil <| rk_cf (Z rfl) <| rk_exit rfl <| rk_seq <| rk_seq <| rk_reg <| qm (qi (n : Int)) rfl f14 <| lw_v _ (dv_eql (a := (n : Int)) (b := 0) (Z rfl) C) <| lw_nil ?_
 by_cases hb32 : ((n : Int)) = 0
 · refine rk_ct (T rfl (qT hb32)) <| rk_seq <| rk_reg <| lw_v (.agg #[.bool false, .slice none 0 0]) (dv_build (pv := []) (l := [.bool false, .slice none 0 0]) zc88 pl88 trivial rfl) <| lw_e (oe_store (v := .agg #[.bool false, .slice none 0 0]) (vs := [.bool false, .slice none 0 0]) (l := [.bool false, .slice none 0 0]) (T rfl f13) (Z rfl) sz88 rfl rfl rfl H16 rfl ?_)
   intro w33 s34 H35
   have E36 := below_st E15 N4 s34
   refine lw_nil <| rk_ret Try.func131 (v := .agg #[.bool false, .slice none 0 0]) (res1 Try.results131 (rv_cells (l := [.bool false, .slice none 0 0]) agt88 sz88 rfl f13 H35 rfl)) ⟨_, rfl, ?_⟩
   have hl := trim_done xs n hn ht (by rw [getD_take_or]; omega)
   exact ⟨by rw [hl]; rw [if_pos (by omega)], E36⟩
 refine rk_cf (T rfl (qF hb32)) <| rk_skip <| rk_seq <| rk_reg <| qm (.bool neg) rfl f11 <| qm (.slice A (xs.length) c) rfl f12 <| qm (qi (n : Int)) rfl f14 <| lw_v (.slice A n c) (dv_sliceH (ad := A) (l := xs.length) (c := c) (i := n) (j := (n : Int)) us86 sz168 (Z rfl) (Z rfl) (by omega) (by first | omega | simp <;> omega)) <| lw_v (.agg #[.bool neg, .slice A n c]) (dv_build (pv := [(0, .bool neg), (1, .slice A n c)]) (l := [.bool neg, .slice A n c]) zc88 pl88 ⟨rfl, (Z rfl), ⟨rfl, (Z rfl), trivial⟩⟩ rfl) <| lw_e (oe_store (v := .agg #[.bool neg, .slice A n c]) (vs := [.bool neg, .slice A n c]) (l := [.bool neg, .slice A n c]) (T rfl f13) (Z rfl) sz88 rfl rfl rfl H16 rfl ?_)
 intro w37 s38 H39
 have E40 := below_st E15 N4 s38
 refine lw_nil <| rk_ret Try.func131 (v := .agg #[.bool neg, .slice A n c]) (res1 Try.results131 (rv_cells (l := [.bool neg, .slice A n c]) agt88 sz88 rfl f13 H39 rfl)) ⟨_, rfl, ?_⟩
 have hl := trim_done xs n hn ht (by rw [getD_take_or]; omega)
 exact ⟨by rw [hl]; rw [if_neg (by omega)], E40⟩
theorem l1Trim_num {w : World} {neg : Bool} {A : Option Addr} {l c s : Nat} {x : Int} (h : Ws 32 168 .u32 w A l c x) (hl : l ≤ 1000000) (hs : x < 2 ^ s) : Ct Try.prog 131 [.bool neg, .slice A l c] w fun v w1 =>
 ∃ nb A' n c', v = .agg #[.bool nb, .slice A' n c'] ∧ Ext w w1 ∧ Num 32 168 .u32 w1 nb A' n c' (sg neg x) s := by
 obtain ⟨xs, rfl, hc, hw, ho, hv⟩ := h
 refine (l1Trim_ok (neg := neg) hw hc hl).mono fun v w1 ⟨h1, h2⟩ => ?_
 have hc' := trimL_canon xs
 have hcp := canon_pos (B := 2 ^ 32) (by decide) (trimL_ok ho) hc'
 rw [trimL_val, ← hv] at hcp
 have h0 := valB_nonneg (B := 2 ^ 32) (by decide) ho
 by_cases hz : (trimL xs).length = 0
 · rw [if_pos hz] at h1
   have hx0 : x = 0 := by omega
   subst hx0
   exact ⟨_, _, _, _, h1, h2, Num.zero.to (by cases neg <;> simp [sg]) (Nat.le_refl _)⟩
 rw [if_neg hz] at h1
 exact ⟨_, _, _, _, h1, h2, Wc.num ⟨trimL xs, rfl, Nat.le_trans (trimL_len xs) hc, (hw.ext h2).trim, trimL_ok ho, hc', by rw [hv, trimL_val]⟩ (fun hn => by omega) rfl hs⟩
set_option maxHeartbeats 1000000 in
theorem l1SubAbs_ok {w : World} {A D : Option Addr} {c d : Nat} {xs ys : List Int} (hx : Wd w 168 .u32 A xs) (hy : Wd w 168 .u32 D ys) (hc : xs.length ≤ c) (hd : ys.length ≤ d) (ox : okW (2 ^ 32) xs) (oy : okW (2 ^ 32) ys) (lx : xs.length ≤ 500000) (ly : ys.length ≤ 500000) (hyx : ys.length ≤ xs.length) (hle : valB (2 ^ 32) ys ≤ valB (2 ^ 32) xs) : Ct Try.prog 132 [.slice A (xs.length) c, .slice D (ys.length) d] w fun v w1 => ∃ A' n c', v = .slice A' n c' ∧ Ext w w1 ∧ Ws 32 168 .u32 w1 A' n c' (valB (2 ^ 32) xs - valB (2 ^ 32) ys) ∧ n = xs.length ∧ ∀ g o, A' = some ⟨g, o, none⟩ → w.heap.size ≤ g := by
 refine ct_run (n := 49) Try.func132 rfl Try.ntmps132 rfl ?_
 have E0 : Below w.heap.size w w := Below.refl _ _
 refine rk_seq <| rk_reg <| lw_v (.slice none 0 0) (dv_assign C) <| qN <| qm (.slice A (xs.length) c) rfl rfl <| lw_v (qi (xs.length : Int)) (dv_len (ad := A) (l := xs.length) (c := c) us86 (Z rfl)) <| lw_e (oe_makeCapW (c := xs.length) (j := (xs.length : Int)) us86 in168 C (Z rfl) (by omega) (by first | omega | simp <;> omega) (by first | omega | simp <;> omega) ?_)
 intro b1 w2 n3 hO4
 have N5 : w.heap.size ≤ b1 := n3.eq ▸ E0.size
 have E6 := qe E0 n3.ext
 refine qs (.slice (some ⟨b1, 0, none⟩) (([] : List Int).length) (xs.length)) rfl rfl <| qN <| lw_v (qu 0) (dv_assign C) <| lw_nil <| rk_seq <| rk_seq <| rk_reg <| lw_v (qi 0) (dv_assign C) <| lw_nil <| rk_block <| rk_loop (fun dm_ fr wl => ∃ (i : Nat) (L : List Int) (Ad : Option Addr) (cp : Nat) (cy : Int), dm_ = xs.length - i ∧ fr 0 = .slice A (xs.length) c ∧ fr 1 = .slice D (ys.length) d ∧ fr 4 = .slice none 0 0 ∧ fr 5 = .slice Ad (L.length) cp ∧ fr 6 = qu cy ∧ fr 7 = qi (i : Int) ∧ Below w.heap.size w wl ∧ Ow wl b1 168 .u32 Ad cp L ∧ (i ≤ xs.length) ∧ (L.length = i) ∧ (okW (2 ^ 32) L) ∧ (0 ≤ cy ∧ cy ≤ 1) ∧ (valB (2 ^ 32) L - cy * (2 ^ 32) ^ i = valB (2 ^ 32) (xs.take i) - valB (2 ^ 32) (ys.take i))) (xs.length - 0) ⟨0, ([] : List Int), (some ⟨b1, 0, none⟩), xs.length, 0, rfl, rfl, rfl, rfl, rfl, rfl, (vi (by omega)), E6, hO4, (Nat.zero_le _), rfl, okW.nil, (by decide), (by simp [valB])⟩ ?_
 intro d11 fr10 w7 hI8 ih9
 obtain ⟨i, L, Ad, cp, cy, hd20, f12, f13, f14, f15, f16, f17, E18, h19, hi, hl, hok, hcy, hv⟩ := hI8
 have bxs := okW.getD ox (by decide) i
 have gxs := getD_ge xs i
 have bys := okW.getD oy (by decide) i
 have gys := getD_ge ys i
 refine rk_seq <| rk_seq <| rk_reg <| qm (qi (i : Int)) rfl f17 <| qm (.slice A (xs.length) c) rfl f12 <| lw_v (qi (xs.length : Int)) (dv_len (ad := A) (l := xs.length) (c := c) us86 (Z rfl)) <| lw_v _ (dv_lss (a := (i : Int)) (b := (xs.length : Int)) (Z rfl) (Z rfl)) <| lw_nil ?_
 by_cases hb21 : ((i : Int)) < ((xs.length : Int))
 · refine rk_ct (T rfl (qT hb21)) <| rk_skip <| rk_seq <| rk_block <| rk_seq <| rk_reg <| qm (.slice A (xs.length) c) rfl f12 <| qm (qi (i : Int)) rfl f17 ?_
   have h22 := (hx.ext E18)
   obtain ⟨g23, o24, rfl⟩ := Wd.at h22 (by first | omega | simp <;> omega)
   refine lw_v (.pointer (some ⟨g23, o24 + i, none⟩)) (dv_indexW (g := g23) (o := o24) (l := xs.length) (c := c) (i := i) (j := (i : Int)) us86 sz168 (Z rfl) (Z rfl) (by omega) (by first | omega | simp <;> omega)) <| lw_v (.int .u32 (xs.getD i 0)) (dv_load agt168 (Z rfl) (Wd.cell h22 (by first | omega | simp <;> omega))) <| lw_v (qu (xs.getD i 0)) (dv_conv (a := xs.getD i 0) (z := xs.getD i 0) ui168 ui36 (Z rfl) (wn_u64 (by omega) (by omega))) <| qs (qu (xs.getD i 0)) rfl rfl <| qN <| qm (qu cy) rfl f16 <| qs (qu cy) rfl rfl <| lw_nil <| rk_seq <| rk_seq <| rk_reg <| qm (qi (i : Int)) rfl f17 <| qm (.slice D (ys.length) d) rfl f13 <| lw_v (qi (ys.length : Int)) (dv_len (ad := D) (l := ys.length) (c := d) us86 (Z rfl)) <| lw_v _ (dv_lss (a := (i : Int)) (b := (ys.length : Int)) (Z rfl) (Z rfl)) <| lw_nil ?_
   by_cases hb25 : ((i : Int)) < ((ys.length : Int))
   · refine rk_ct (T rfl (qT hb25)) <| rk_reg <| qm (qu cy) rfl rfl <| qm (.slice D (ys.length) d) rfl f13 <| qm (qi (i : Int)) rfl f17 ?_
     have h26 := (hy.ext E18)
     obtain ⟨g27, o28, rfl⟩ := Wd.at h26 (by first | omega | simp <;> omega)
     refine lw_v (.pointer (some ⟨g27, o28 + i, none⟩)) (dv_indexW (g := g27) (o := o28) (l := ys.length) (c := d) (i := i) (j := (i : Int)) us86 sz168 (Z rfl) (Z rfl) (by omega) (by first | omega | simp <;> omega)) <| lw_v (.int .u32 (ys.getD i 0)) (dv_load agt168 (Z rfl) (Wd.cell h26 (by first | omega | simp <;> omega))) <| lw_v (qu (ys.getD i 0)) (dv_conv (a := ys.getD i 0) (z := ys.getD i 0) ui168 ui36 (Z rfl) (wn_u64 (by omega) (by omega))) <| lw_v _ (dv_add (a := cy) (b := ys.getD i 0) (z := cy + (ys.getD i 0)) (Z rfl) (Z rfl) (wn_u64 (by omega) (by omega))) <| qs (qu (cy + (ys.getD i 0))) rfl rfl <| qN <| lw_v (qu 0) (dv_assign C) <| lw_nil <| rk_seq <| rk_seq <| rk_reg <| qm (qu (xs.getD i 0)) rfl rfl <| qm (qu (cy + (ys.getD i 0))) rfl rfl <| lw_v _ (dv_lss (a := xs.getD i 0) (b := cy + (ys.getD i 0)) (Z rfl) (Z rfl)) <| lw_nil ?_
     by_cases hb29 : (xs.getD i 0) < (cy + (ys.getD i 0))
     · refine rk_ct (T rfl (qT hb29)) <| rk_seq <| rk_reg <| qm (qu (xs.getD i 0)) rfl rfl <| lw_v _ (dv_add (a := xs.getD i 0) (b := 4294967296) (z := (xs.getD i 0) + 4294967296) (Z rfl) C (wn_u64 (by omega) (by omega))) <| qs (qu ((xs.getD i 0) + 4294967296)) rfl rfl <| lw_nil <| rk_reg <| lw_v (qu 1) (dv_assign C) <| lw_nil <| rk_reg <| qm (.slice Ad (L.length) cp) rfl f15 <| qm (qu ((xs.getD i 0) + 4294967296)) rfl rfl <| qm (qu (cy + (ys.getD i 0))) rfl rfl <| lw_v _ (dv_sub (a := (xs.getD i 0) + 4294967296) (b := cy + (ys.getD i 0)) (z := ((xs.getD i 0) + 4294967296) - (cy + (ys.getD i 0))) (Z rfl) (Z rfl) (wn_u64 (by omega) (by omega))) <| lw_v (.int .u32 ((((xs.getD i 0) + 4294967296) - (cy + (ys.getD i 0))) % 4294967296)) (dv_conv (a := ((xs.getD i 0) + 4294967296) - (cy + (ys.getD i 0))) (z := (((xs.getD i 0) + 4294967296) - (cy + (ys.getD i 0))) % 4294967296) ui36 ui168 (Z rfl) (wr_u32 _)) <| lw_e (oe_buildSlice (pv := [(0, .int .u32 ((((xs.getD i 0) + 4294967296) - (cy + (ys.getD i 0))) % 4294967296))]) (init := [.int .u32 0]) (l := [.int .u32 ((((xs.getD i 0) + 4294967296) - (cy + (ys.getD i 0))) % 4294967296)]) us86 sz168 rfl rfl zc168 (by kernel_rfl) ⟨rfl, (Z rfl), trivial⟩ rfl ?_)
       intro b30 w31 n32
       have N33 : w.heap.size ≤ b30 := n32.eq ▸ E18.size
       have E34 := qe E18 n32.ext
       have h35 := (h19.ext n32.ext)
       refine lw_e (oe_appendW (base := b1) (L := L) (M := [(((xs.getD i 0) + 4294967296) - (cy + (ys.getD i 0))) % 4294967296]) (m := 1) us86 in168 (Z rfl) (Z rfl) h35 (Wd.ownW (xs := [(((xs.getD i 0) + 4294967296) - (cy + (ys.getD i 0))) % 4294967296]) n32.blk) rfl (by first | omega | simp <;> omega) (by first | omega | simp <;> omega) ?_)
       intro Ad36 c37 w38 hO39 x40
       have E41 := below_bl E34 N5 x40
       refine qs (.slice Ad36 ((L ++ [(((xs.getD i 0) + 4294967296) - (cy + (ys.getD i 0))) % 4294967296]).length) c37) rfl rfl <| lw_nil <| rk_inBlock <| rk_reg <| qm (qi (i : Int)) rfl f17 <| lw_v _ (dv_add (a := (i : Int)) (b := 1) (z := (i : Int) + 1) (Z rfl) C (wr_i64 (by omega) (by omega))) <| qs (qi ((i : Int) + 1)) rfl rfl <| lw_nil <| ih9 (xs.length - (i + 1)) _ _ (by rw [hd20]; omega) ⟨(i + 1), (L ++ [(((xs.getD i 0) + 4294967296) - (cy + (ys.getD i 0))) % 4294967296]), Ad36, c37, 1, rfl, f12, f13, f14, rfl, rfl, (vi (by omega)), E41, hO39, (by omega), (by simp [hl]), (okW.snoc hok (by omega) (by omega)), (by omega), (sub_app hl hv (by omega))⟩
     refine rk_cf (T rfl (qF hb29)) <| rk_skip <| rk_reg <| qm (.slice Ad (L.length) cp) rfl f15 <| qm (qu (xs.getD i 0)) rfl rfl <| qm (qu (cy + (ys.getD i 0))) rfl rfl <| lw_v _ (dv_sub (a := xs.getD i 0) (b := cy + (ys.getD i 0)) (z := (xs.getD i 0) - (cy + (ys.getD i 0))) (Z rfl) (Z rfl) (wn_u64 (by omega) (by omega))) <| lw_v (.int .u32 (((xs.getD i 0) - (cy + (ys.getD i 0))) % 4294967296)) (dv_conv (a := (xs.getD i 0) - (cy + (ys.getD i 0))) (z := ((xs.getD i 0) - (cy + (ys.getD i 0))) % 4294967296) ui36 ui168 (Z rfl) (wr_u32 _)) <| lw_e (oe_buildSlice (pv := [(0, .int .u32 (((xs.getD i 0) - (cy + (ys.getD i 0))) % 4294967296))]) (init := [.int .u32 0]) (l := [.int .u32 (((xs.getD i 0) - (cy + (ys.getD i 0))) % 4294967296)]) us86 sz168 rfl rfl zc168 (by kernel_rfl) ⟨rfl, (Z rfl), trivial⟩ rfl ?_)
     intro b42 w43 n44
     have N45 : w.heap.size ≤ b42 := n44.eq ▸ E18.size
     have E46 := qe E18 n44.ext
     have h47 := (h19.ext n44.ext)
     refine lw_e (oe_appendW (base := b1) (L := L) (M := [((xs.getD i 0) - (cy + (ys.getD i 0))) % 4294967296]) (m := 1) us86 in168 (Z rfl) (Z rfl) h47 (Wd.ownW (xs := [((xs.getD i 0) - (cy + (ys.getD i 0))) % 4294967296]) n44.blk) rfl (by first | omega | simp <;> omega) (by first | omega | simp <;> omega) ?_)
     intro Ad48 c49 w50 hO51 x52
     have E53 := below_bl E46 N5 x52
     refine qs (.slice Ad48 ((L ++ [((xs.getD i 0) - (cy + (ys.getD i 0))) % 4294967296]).length) c49) rfl rfl <| lw_nil <| rk_inBlock <| rk_reg <| qm (qi (i : Int)) rfl f17 <| lw_v _ (dv_add (a := (i : Int)) (b := 1) (z := (i : Int) + 1) (Z rfl) C (wr_i64 (by omega) (by omega))) <| qs (qi ((i : Int) + 1)) rfl rfl <| lw_nil <| ih9 (xs.length - (i + 1)) _ _ (by rw [hd20]; omega) ⟨(i + 1), (L ++ [((xs.getD i 0) - (cy + (ys.getD i 0))) % 4294967296]), Ad48, c49, 0, rfl, f12, f13, f14, rfl, rfl, (vi (by omega)), E53, hO51, (by omega), (by simp [hl]), (okW.snoc hok (by omega) (by omega)), (by omega), (sub_app hl hv (by omega))⟩
   refine rk_cf (T rfl (qF hb25)) <| rk_skip <| rk_seq <| rk_reg <| lw_v (qu 0) (dv_assign C) <| lw_nil <| rk_seq <| rk_seq <| rk_reg <| qm (qu (xs.getD i 0)) rfl rfl <| qm (qu cy) rfl rfl <| lw_v _ (dv_lss (a := xs.getD i 0) (b := cy) (Z rfl) (Z rfl)) <| lw_nil ?_
   by_cases hb54 : (xs.getD i 0) < cy
   · refine rk_ct (T rfl (qT hb54)) <| rk_seq <| rk_reg <| qm (qu (xs.getD i 0)) rfl rfl <| lw_v _ (dv_add (a := xs.getD i 0) (b := 4294967296) (z := (xs.getD i 0) + 4294967296) (Z rfl) C (wn_u64 (by omega) (by omega))) <| qs (qu ((xs.getD i 0) + 4294967296)) rfl rfl <| lw_nil <| rk_reg <| lw_v (qu 1) (dv_assign C) <| lw_nil <| rk_reg <| qm (.slice Ad (L.length) cp) rfl f15 <| qm (qu ((xs.getD i 0) + 4294967296)) rfl rfl <| qm (qu cy) rfl rfl <| lw_v _ (dv_sub (a := (xs.getD i 0) + 4294967296) (b := cy) (z := ((xs.getD i 0) + 4294967296) - cy) (Z rfl) (Z rfl) (wn_u64 (by omega) (by omega))) <| lw_v (.int .u32 ((((xs.getD i 0) + 4294967296) - cy) % 4294967296)) (dv_conv (a := ((xs.getD i 0) + 4294967296) - cy) (z := (((xs.getD i 0) + 4294967296) - cy) % 4294967296) ui36 ui168 (Z rfl) (wr_u32 _)) <| lw_e (oe_buildSlice (pv := [(0, .int .u32 ((((xs.getD i 0) + 4294967296) - cy) % 4294967296))]) (init := [.int .u32 0]) (l := [.int .u32 ((((xs.getD i 0) + 4294967296) - cy) % 4294967296)]) us86 sz168 rfl rfl zc168 (by kernel_rfl) ⟨rfl, (Z rfl), trivial⟩ rfl ?_)
     intro b55 w56 n57
     have N58 : w.heap.size ≤ b55 := n57.eq ▸ E18.size
     have E59 := qe E18 n57.ext
     have h60 := (h19.ext n57.ext)
     refine lw_e (oe_appendW (base := b1) (L := L) (M := [(((xs.getD i 0) + 4294967296) - cy) % 4294967296]) (m := 1) us86 in168 (Z rfl) (Z rfl) h60 (Wd.ownW (xs := [(((xs.getD i 0) + 4294967296) - cy) % 4294967296]) n57.blk) rfl (by first | omega | simp <;> omega) (by first | omega | simp <;> omega) ?_)
     intro Ad61 c62 w63 hO64 x65
     have E66 := below_bl E59 N5 x65
     refine qs (.slice Ad61 ((L ++ [(((xs.getD i 0) + 4294967296) - cy) % 4294967296]).length) c62) rfl rfl <| lw_nil <| rk_inBlock <| rk_reg <| qm (qi (i : Int)) rfl f17 <| lw_v _ (dv_add (a := (i : Int)) (b := 1) (z := (i : Int) + 1) (Z rfl) C (wr_i64 (by omega) (by omega))) <| qs (qi ((i : Int) + 1)) rfl rfl <| lw_nil <| ih9 (xs.length - (i + 1)) _ _ (by rw [hd20]; omega) ⟨(i + 1), (L ++ [(((xs.getD i 0) + 4294967296) - cy) % 4294967296]), Ad61, c62, 1, rfl, f12, f13, f14, rfl, rfl, (vi (by omega)), E66, hO64, (by omega), (by simp [hl]), (okW.snoc hok (by omega) (by omega)), (by omega), (sub_app hl hv (by omega))⟩
   refine rk_cf (T rfl (qF hb54)) <| rk_skip <| rk_reg <| qm (.slice Ad (L.length) cp) rfl f15 <| qm (qu (xs.getD i 0)) rfl rfl <| qm (qu cy) rfl rfl <| lw_v _ (dv_sub (a := xs.getD i 0) (b := cy) (z := (xs.getD i 0) - cy) (Z rfl) (Z rfl) (wn_u64 (by omega) (by omega))) <| lw_v (.int .u32 (((xs.getD i 0) - cy) % 4294967296)) (dv_conv (a := (xs.getD i 0) - cy) (z := ((xs.getD i 0) - cy) % 4294967296) ui36 ui168 (Z rfl) (wr_u32 _)) <| lw_e (oe_buildSlice (pv := [(0, .int .u32 (((xs.getD i 0) - cy) % 4294967296))]) (init := [.int .u32 0]) (l := [.int .u32 (((xs.getD i 0) - cy) % 4294967296)]) us86 sz168 rfl rfl zc168 (by kernel_rfl) ⟨rfl, (Z rfl), trivial⟩ rfl ?_)
   intro b67 w68 n69
   have N70 : w.heap.size ≤ b67 := n69.eq ▸ E18.size
   have E71 := qe E18 n69.ext
   have h72 := (h19.ext n69.ext)
   refine lw_e (oe_appendW (base := b1) (L := L) (M := [((xs.getD i 0) - cy) % 4294967296]) (m := 1) us86 in168 (Z rfl) (Z rfl) h72 (Wd.ownW (xs := [((xs.getD i 0) - cy) % 4294967296]) n69.blk) rfl (by first | omega | simp <;> omega) (by first | omega | simp <;> omega) ?_)
   intro Ad73 c74 w75 hO76 x77
   have E78 := below_bl E71 N5 x77
   refine qs (.slice Ad73 ((L ++ [((xs.getD i 0) - cy) % 4294967296]).length) c74) rfl rfl <| lw_nil <| rk_inBlock <| rk_reg <| qm (qi (i : Int)) rfl f17 <| lw_v _ (dv_add (a := (i : Int)) (b := 1) (z := (i : Int) + 1) (Z rfl) C (wr_i64 (by omega) (by omega))) <| qs (qi ((i : Int) + 1)) rfl rfl <| lw_nil <| ih9 (xs.length - (i + 1)) _ _ (by rw [hd20]; omega) ⟨(i + 1), (L ++ [((xs.getD i 0) - cy) % 4294967296]), Ad73, c74, 0, rfl, f12, f13, f14, rfl, rfl, (vi (by omega)), E78, hO76, (by omega), (by simp [hl]), (okW.snoc hok (by omega) (by omega)), (by omega), (sub_app hl hv (by omega))⟩
 refine rk_cf (T rfl (qF hb21)) <| rk_exit rfl <| rk_seq <| rk_reg <| qm (.slice Ad (L.length) cp) rfl f15 <| qs (.slice Ad (L.length) cp) rfl rfl <| lw_nil <| rk_ret Try.func132 (v := .slice Ad (L.length) cp) (res1 Try.results132 (rv_tmp rfl rfl)) ⟨_, rfl, ?_⟩
 exact ⟨_, _, _, rfl, E18, ⟨L, rfl, h19.cap, h19.wd, hok, (sub_app_fin (by decide) hl (by omega) (by omega) hok hcy hle hv).symm⟩, by omega, fun q o hq => Nat.le_trans N5 (Ow.ge h19 hq)⟩
theorem l1SubAbs_ws {w : World} {A D : Option Addr} {l c l' d : Nat} {x y : Int} (h : Ws 32 168 .u32 w A l c x) (h' : Ws 32 168 .u32 w D l' d y) (hl : l ≤ 500000) (hl' : l' ≤ 500000) (hyx : l' ≤ l) (hle : y ≤ x) : Ct Try.prog 132 [.slice A l c, .slice D l' d] w fun v w1 =>
 ∃ A' n c', v = .slice A' n c' ∧ Ext w w1 ∧ Ws 32 168 .u32 w1 A' n c' (x - y) ∧ n = l ∧ ∀ g o, A' = some ⟨g, o, none⟩ → w.heap.size ≤ g := by
 obtain ⟨xs, rfl, hc, hw, ho, hv⟩ := h
 obtain ⟨ys, rfl, hc', hw', ho', hv'⟩ := h'
 subst hv; subst hv'
 exact l1SubAbs_ok hw hw' hc hc' ho ho' hl hl' hyx hle
set_option maxHeartbeats 1000000 in
theorem l1Left_ok {w : World} {A : Option Addr} {c N sx : Nat} {xs : List Int} (hx : Wd w 168 .u32 A xs) (hc : xs.length ≤ c) (ox : okW (2 ^ 32) xs) (lx : xs.length ≤ 400000) (ln : N ≤ 400000) (hsx : valB (2 ^ 32) xs < 2 ^ sx) : Ct Try.prog 133 [.slice A (xs.length) c, .int .i64 ((N : Int))] w fun v w1 => ∃ A' n c', v = .slice A' n c' ∧ Ext w w1 ∧ Wc 32 168 .u32 w1 A' n c' (2 ^ N * valB (2 ^ 32) xs) := by
 refine ct_run (n := 47) Try.func133 rfl Try.ntmps133 rfl ?_
 have E0 : Below w.heap.size w w := Below.refl _ _
 refine rk_seq <| rk_reg <| lw_v (.slice none 0 0) (dv_assign C) <| qN <| qm (qi (N : Int)) rfl rfl <| lw_v (qi ((N : Int) / 32)) (dv_quo (a := (N : Int)) (b := 32) (z := (N : Int) / 32) (Z rfl) C (by decide) (quo_c (by omega) (by decide) (wr_i64 (by omega) (by omega)))) <| lw_e (oe_makeW (l := ((N) / 32)) (j := (N : Int) / 32) us86 in168 (Z rfl) (Z rfl) (by omega) (by first | omega | simp <;> omega) (by first | omega | simp <;> omega) ?_)
 intro b1 w2 n3
 have N4 : w.heap.size ≤ b1 := n3.eq ▸ E0.size
 have E5 := qe E0 n3.ext
 refine qs (.slice (some ⟨b1, 0, none⟩) (((N) / 32)) (((N) / 32))) rfl rfl <| qN <| qm (qi (N : Int)) rfl rfl <| lw_v (qi ((N : Int) % 32)) (dv_rem (a := (N : Int)) (b := 32) (z := (N : Int) % 32) (Z rfl) C (by decide) (rem_c (by omega) rfl)) <| lw_v (qu ((N : Int) % 32)) (dv_conv (a := (N : Int) % 32) (z := (N : Int) % 32) ui2 ui158 (Z rfl) (wn_u64 (by omega) (by omega))) <| qs (qu ((N : Int) % 32)) rfl rfl <| qN <| lw_v (qu 0) (dv_assign C) <| lw_nil <| rk_seq <| rk_seq <| rk_reg <| lw_v (qi 0) (dv_assign C) <| lw_nil <| rk_block <| rk_loop (fun dm_ fr wl => ∃ (i : Nat) (L : List Int) (Ad : Option Addr) (cp : Nat) (cy : Int), dm_ = xs.length - i ∧ fr 0 = .slice A (xs.length) c ∧ fr 4 = .slice none 0 0 ∧ fr 5 = .slice Ad (L.length) cp ∧ fr 6 = qu ((N : Int) % 32) ∧ fr 7 = qu cy ∧ fr 8 = qi (i : Int) ∧ Below w.heap.size w wl ∧ Ow wl b1 168 .u32 Ad cp L ∧ (i ≤ xs.length) ∧ (L.length = N / 32 + i) ∧ (okW (2 ^ 32) L) ∧ (0 ≤ cy ∧ cy < 2 ^ (N % 32)) ∧ (valB (2 ^ 32) L + (2 ^ 32) ^ L.length * cy = 2 ^ N * valB (2 ^ 32) (xs.take i))) (xs.length - 0) ⟨0, (List.replicate (N / 32) 0), (some ⟨b1, 0, none⟩), (N / 32), 0, rfl, rfl, rfl, (by first | rfl | exact vsl List.length_replicate), rfl, rfl, (vi (by omega)), E5, (Ow.rep n3.blk (by omega)), (Nat.zero_le _), (by simp), (okW.replicate (by decide) _), ⟨by decide, two_pos _⟩, (by simp [valB, valB_zeros])⟩ ?_
 intro d10 fr9 w6 hI7 ih8
 obtain ⟨i, L, Ad, cp, cy, hd19, f11, f12, f13, f14, f15, f16, E17, h18, hi, hl, hok, hcy, hv⟩ := hI7
 have bxs := okW.getD ox (by decide) i
 have bp : (0 : Int) < 2 ^ (N % 32) := two_pos _
 have bq : (2 : Int) ^ (N % 32) ≤ 4294967296 := left_p N
 have bl := left_cy bp hcy.1 hcy.2 bxs.1 (by omega)
 have bm : 0 ≤ xs.getD i 0 * 2 ^ (N % 32) := Int.mul_nonneg bxs.1 (Int.le_of_lt bp)
 refine rk_seq <| rk_seq <| rk_reg <| qm (qi (i : Int)) rfl f16 <| qm (.slice A (xs.length) c) rfl f11 <| lw_v (qi (xs.length : Int)) (dv_len (ad := A) (l := xs.length) (c := c) us86 (Z rfl)) <| lw_v _ (dv_lss (a := (i : Int)) (b := (xs.length : Int)) (Z rfl) (Z rfl)) <| lw_nil ?_
 by_cases hb20 : ((i : Int)) < ((xs.length : Int))
 · refine rk_ct (T rfl (qT hb20)) <| rk_skip <| rk_seq <| rk_block <| rk_seq <| rk_reg <| qm (qu cy) rfl f15 <| qm (.slice A (xs.length) c) rfl f11 <| qm (qi (i : Int)) rfl f16 ?_
   have h21 := (hx.ext E17)
   obtain ⟨g22, o23, rfl⟩ := Wd.at h21 (by first | omega | simp <;> omega)
   refine lw_v (.pointer (some ⟨g22, o23 + i, none⟩)) (dv_indexW (g := g22) (o := o23) (l := xs.length) (c := c) (i := i) (j := (i : Int)) us86 sz168 (Z rfl) (Z rfl) (by omega) (by first | omega | simp <;> omega)) <| lw_v (.int .u32 (xs.getD i 0)) (dv_load agt168 (Z rfl) (Wd.cell h21 (by first | omega | simp <;> omega))) <| lw_v (qu (xs.getD i 0)) (dv_conv (a := xs.getD i 0) (z := xs.getD i 0) ui168 ui36 (Z rfl) (wn_u64 (by omega) (by omega))) <| qm (qu ((N : Int) % 32)) rfl f14 <| lw_v (qu ((xs.getD i 0) * 2 ^ (N % 32))) (dv_shl (a := xs.getD i 0) (b := (N : Int) % 32) (z := (xs.getD i 0) * 2 ^ (N % 32)) (Z rfl) (Z rfl) (by omega) (shl_v (K := N % 32) (by omega) (by omega) (by omega) (by omega))) <| lw_v (qu (cy + ((xs.getD i 0) * 2 ^ (N % 32)))) (dv_or (a := cy) (b := (xs.getD i 0) * 2 ^ (N % 32)) (z := cy + ((xs.getD i 0) * 2 ^ (N % 32))) (Z rfl) (Z rfl) (or_add (k := .u64) (a := cy) (b := xs.getD i 0 * 2 ^ (N % 32)) (i := N % 32) rfl hcy.1 hcy.2 bm (Int.mul_emod_left _ _) (lt64 (by omega)) (lt64 (by omega))).1) <| qs (qu (cy + ((xs.getD i 0) * 2 ^ (N % 32)))) rfl rfl <| qN <| qm (.slice Ad (L.length) cp) rfl f13 <| qm (qu (cy + ((xs.getD i 0) * 2 ^ (N % 32)))) rfl rfl <| lw_v (.int .u32 ((cy + ((xs.getD i 0) * 2 ^ (N % 32))) % 4294967296)) (dv_conv (a := cy + ((xs.getD i 0) * 2 ^ (N % 32))) (z := (cy + ((xs.getD i 0) * 2 ^ (N % 32))) % 4294967296) ui36 ui168 (Z rfl) (wr_u32 _)) <| lw_e (oe_buildSlice (pv := [(0, .int .u32 ((cy + ((xs.getD i 0) * 2 ^ (N % 32))) % 4294967296))]) (init := [.int .u32 0]) (l := [.int .u32 ((cy + ((xs.getD i 0) * 2 ^ (N % 32))) % 4294967296)]) us86 sz168 rfl rfl zc168 (by kernel_rfl) ⟨rfl, (Z rfl), trivial⟩ rfl ?_)
   intro b24 w25 n26
   have N27 : w.heap.size ≤ b24 := n26.eq ▸ E17.size
   have E28 := qe E17 n26.ext
   have h29 := (h18.ext n26.ext)
   refine lw_e (oe_appendW (base := b1) (L := L) (M := [(cy + ((xs.getD i 0) * 2 ^ (N % 32))) % 4294967296]) (m := 1) us86 in168 (Z rfl) (Z rfl) h29 (Wd.ownW (xs := [(cy + ((xs.getD i 0) * 2 ^ (N % 32))) % 4294967296]) n26.blk) rfl (by first | omega | simp <;> omega) (by first | omega | simp <;> omega) ?_)
   intro Ad30 c31 w32 hO33 x34
   have E35 := below_bl E28 N4 x34
   refine qs (.slice Ad30 ((L ++ [(cy + ((xs.getD i 0) * 2 ^ (N % 32))) % 4294967296]).length) c31) rfl rfl <| lw_nil <| rk_reg <| qm (qu (cy + ((xs.getD i 0) * 2 ^ (N % 32)))) rfl rfl <| lw_v (qu ((cy + ((xs.getD i 0) * 2 ^ (N % 32))) / 4294967296)) (dv_shr (a := cy + ((xs.getD i 0) * 2 ^ (N % 32))) (b := 32) (z := (cy + ((xs.getD i 0) * 2 ^ (N % 32))) / 4294967296) (Z rfl) C (by decide) (shr_c (n := 32) (by omega) (by decide))) <| qs (qu ((cy + ((xs.getD i 0) * 2 ^ (N % 32))) / 4294967296)) rfl rfl <| lw_nil <| rk_inBlock <| rk_reg <| qm (qi (i : Int)) rfl f16 <| lw_v _ (dv_add (a := (i : Int)) (b := 1) (z := (i : Int) + 1) (Z rfl) C (wr_i64 (by omega) (by omega))) <| qs (qi ((i : Int) + 1)) rfl rfl <| lw_nil <| ih8 (xs.length - (i + 1)) _ _ (by rw [hd19]; omega) ⟨(i + 1), (L ++ [(cy + ((xs.getD i 0) * 2 ^ (N % 32))) % 4294967296]), Ad30, c31, ((cy + ((xs.getD i 0) * 2 ^ (N % 32))) / 4294967296), rfl, f11, f12, (by first | rfl | exact vsl List.length_replicate), f14, rfl, (vi (by omega)), E35, hO33, (by omega), (by simp [hl]; omega), (okW.snoc hok (by omega) (by omega)), ⟨by omega, left_c2 bl⟩, (left_inv hl hv rfl (by omega))⟩
 refine rk_cf (T rfl (qF hb20)) <| rk_exit rfl <| rk_seq <| rk_seq <| rk_reg <| qm (qu cy) rfl f15 <| lw_v _ (dv_gtr (a := cy) (b := 0) (Z rfl) C) <| lw_nil <| rk_join (fun fr wl => ∃ (M : List Int) (Ae : Option Addr) (cq : Nat), fr 4 = .slice none 0 0 ∧ fr 5 = .slice Ae (M.length) cq ∧ Below w.heap.size w wl ∧ Ow wl b1 168 .u32 Ae cq M ∧ (valB (2 ^ 32) M = 2 ^ N * valB (2 ^ 32) xs) ∧ (okW (2 ^ 32) M) ∧ (M.length ≤ 900000)) ?_ (fun hj38 => ?_)
 · intro fr39 w36 hI37
   obtain ⟨M, Ae, cq, f40, f41, E42, h43, hvm, hmo, hml⟩ := hI37
   refine rk_seq <| rk_reg <| qm (.slice Ae (M.length) cq) rfl f41 <| lw_e (oe_callf (vs := [.bool false, .slice Ae (M.length) cq]) co131 (ar2 C (Z rfl)) (l1Trim_num (s := (sx + N)) (neg := false) (⟨M, rfl, h43.cap, h43.wd, hmo, rfl⟩ : Ws _ _ _ _ _ _ _ _) (by first | omega | simp <;> omega) (left_sz hvm hsx)) ?_)
   rintro _ w49 ⟨nb44, A45, n46, c47, rfl, e50, hn48⟩
   have E51 := qe E42 e50
   have lhn48 := ql hn48
   refine lw_v (.slice A45 n46 c47) (dv_field (v := .slice A45 n46 c47) fb88_1 agt86 (Z rfl) rfl) <| qs (.slice A45 n46 c47) rfl rfl <| lw_nil <| rk_ret Try.func133 (v := .slice A45 n46 c47) (res1 Try.results133 (rv_tmp rfl rfl)) ⟨_, rfl, ?_⟩
   exact ⟨_, _, _, rfl, E51, Wc.eq hn48.wc (by rw [sg_natAbs (by rw [hvm]; exact Int.mul_nonneg (Int.le_of_lt (two_pos N)) (valB_nonneg (by decide) ox)), hvm])⟩
 by_cases hb52 : 0 < cy
 · refine rk_ct (T rfl (qT hb52)) <| rk_reg <| qm (.slice Ad (L.length) cp) rfl f13 <| qm (qu cy) rfl f15 <| lw_v (.int .u32 ((cy) % 4294967296)) (dv_conv (a := cy) (z := (cy) % 4294967296) ui36 ui168 (Z rfl) (wr_u32 _)) <| lw_e (oe_buildSlice (pv := [(0, .int .u32 ((cy) % 4294967296))]) (init := [.int .u32 0]) (l := [.int .u32 ((cy) % 4294967296)]) us86 sz168 rfl rfl zc168 (by kernel_rfl) ⟨rfl, (Z rfl), trivial⟩ rfl ?_)
   intro b53 w54 n55
   have N56 : w.heap.size ≤ b53 := n55.eq ▸ E17.size
   have E57 := qe E17 n55.ext
   have h58 := (h18.ext n55.ext)
   refine lw_e (oe_appendW (base := b1) (L := L) (M := [(cy) % 4294967296]) (m := 1) us86 in168 (Z rfl) (Z rfl) h58 (Wd.ownW (xs := [(cy) % 4294967296]) n55.blk) rfl (by first | omega | simp <;> omega) (by first | omega | simp <;> omega) ?_)
   intro Ad59 c60 w61 hO62 x63
   have E64 := below_bl E57 N4 x63
   refine qs (.slice Ad59 ((L ++ [(cy) % 4294967296]).length) c60) rfl rfl <| lw_nil <| hj38 _ _ ⟨(L ++ [(cy) % 4294967296]), Ad59, c60, f12, rfl, E64, hO62, (by first | (rw [Int.emod_eq_of_lt hcy.1 (by omega)]; exact left_fin hv (by omega)) | exact left_fin0 hv (by omega) (by omega)), (by first | exact hok | exact okW.snoc hok (by omega) (by omega)), (by first | (simp; omega) | omega)⟩
 refine rk_cf (T rfl (qF hb52)) <| rk_skip <| hj38 _ _ ⟨L, Ad, cp, f12, f13, E17, h18, (by first | (rw [Int.emod_eq_of_lt hcy.1 (by omega)]; exact left_fin hv (by omega)) | exact left_fin0 hv (by omega) (by omega)), (by first | exact hok | exact okW.snoc hok (by omega) (by omega)), (by first | (simp; omega) | omega)⟩
theorem l1Left_ws {w : World} {A : Option Addr} {l c N s : Nat} {x j : Int} (h : Ws 32 168 .u32 w A l c x) (hl : l ≤ 400000) (ln : N ≤ 400000) (hs : x < 2 ^ s) (hj : j = (N : Nat)) : Ct Try.prog 133 [.slice A l c, .int .i64 j] w fun v w1 =>
 ∃ A' n c', v = .slice A' n c' ∧ Ext w w1 ∧ Wc 32 168 .u32 w1 A' n c' (2 ^ N * x) := by
 subst hj
 obtain ⟨xs, rfl, hc, hw, ho, hv⟩ := h
 subst hv
 exact l1Left_ok hw hc ho hl ln hs
set_option maxHeartbeats 1000000 in
theorem l1Sign_ok {w : World} {na : Bool} {Aa : Option Addr} {la ca : Nat} {x : Int} {sx : Nat} (ha : Num 32 168 .u32 w na Aa la ca x sx) : Ct Try.prog 95 [.agg #[.bool na, .slice Aa la ca]] w fun v w1 => v = .int .i64 (sgnI x) ∧ Ext w w1 := by
 refine ct_run (n := 9) Try.func95 rfl Try.ntmps95 rfl ?_
 have E0 : Below w.heap.size w w := Below.refl _ _
 refine rk_seq <| rk_reg <| lw_e (oe_box (v := .agg #[.bool na, .slice Aa la ca]) (cs := #[.bool na, .slice Aa la ca]) (Z rfl) rfl ?_)
 intro b1 w2 n3
 have N4 : w.heap.size ≤ b1 := n3.eq ▸ E0.size
 have E5 := qe E0 n3.ext
 refine lw_v (qi 0) (dv_assign C) <| lw_nil <| rk_seq <| rk_seq <| rk_reg <| lw_v (.pointer (some ⟨b1, 1, none⟩)) (dv_fieldAddr (a := ⟨b1, 0, none⟩) (a' := ⟨b1, 1, none⟩) fo88_1 (Z rfl) rfl) <| lw_v (.slice Aa la ca) (dv_load1 (b := b1) (o := 1) agt86 (Z rfl) n3.blk rfl) <| lw_v (qi (la : Int)) (dv_len (ad := Aa) (l := la) (c := ca) us86 (Z rfl)) <| lw_v _ (dv_eql (a := (la : Int)) (b := 0) (Z rfl) C) <| lw_nil ?_
 by_cases hb6 : ((la : Int)) = 0
 · refine rk_ct (T rfl (qT hb6)) <| rk_seq <| rk_reg <| lw_v (qi 0) (dv_assign C) <| lw_nil <| rk_ret Try.func95 (v := qi 0) (res1 Try.results95 (rv_tmp rfl rfl)) ⟨_, rfl, ?_⟩
   exact ⟨vi (by have h1 := ha.neg_iff; have h2 := ha.pos_iff; grind [sgnI]), E5⟩
 refine rk_cf (T rfl (qF hb6)) <| rk_skip <| rk_seq <| rk_seq <| rk_reg <| lw_v (.pointer (some ⟨b1, 0, none⟩)) (dv_fieldAddr (a := ⟨b1, 0, none⟩) (a' := ⟨b1, 0, none⟩) fo88_0 (Z rfl) rfl) <| lw_v (.bool na) (dv_load1 (b := b1) (o := 0) agt4 (Z rfl) n3.blk rfl) <| lw_nil ?_
 rcases Bool.eq_false_or_eq_true (na) with hb7 | hb7
 · refine rk_ct (T rfl (congrArg Value.bool hb7)) <| rk_seq <| rk_reg <| lw_v (qi (-1)) (dv_assign C) <| lw_nil <| rk_ret Try.func95 (v := qi (-1)) (res1 Try.results95 (rv_tmp rfl rfl)) ⟨_, rfl, ?_⟩
   exact ⟨vi (by have h1 := ha.neg_iff; have h2 := ha.pos_iff; grind [sgnI]), E5⟩
 refine rk_cf (T rfl (congrArg Value.bool hb7)) <| rk_skip <| rk_seq <| rk_reg <| lw_v (qi 1) (dv_assign C) <| lw_nil <| rk_ret Try.func95 (v := qi 1) (res1 Try.results95 (rv_tmp rfl rfl)) ⟨_, rfl, ?_⟩
 exact ⟨vi (by have h1 := ha.neg_iff; have h2 := ha.pos_iff; grind [sgnI]), E5⟩
set_option maxHeartbeats 1000000 in
theorem l1From_ok {w : World} {a3 a2 a1 a0 : Int} (h3 : 0 ≤ a3 ∧ a3 < 18446744073709551616) (h2 : 0 ≤ a2 ∧ a2 < 18446744073709551616) (h1 : 0 ≤ a1 ∧ a1 < 18446744073709551616) (h0 : 0 ≤ a0 ∧ a0 < 18446744073709551616) : Ct Try.prog 101 [.agg #[.int .u64 a3, .int .u64 a2, .int .u64 a1, .int .u64 a0]] w fun v w1 => ∃ nr A' n c', v = .agg #[.bool nr, .slice A' n c'] ∧ Ext w w1 ∧ Num 32 168 .u32 w1 nr A' n c' (wz a3 a2 a1 a0) (256) := by
 refine ct_run (n := 47) Try.func101 rfl Try.ntmps101 rfl ?_
 have E0 : Below w.heap.size w w := Below.refl _ _
 refine rk_seq <| rk_reg <| lw_e (oe_box (v := .agg #[qu a3, qu a2, qu a1, qu a0]) (cs := #[qu a3, qu a2, qu a1, qu a0]) (Z rfl) rfl ?_)
 intro b1 w2 n3
 have N4 : w.heap.size ≤ b1 := n3.eq ▸ E0.size
 have E5 := qe E0 n3.ext
 refine lw_e (oe_alloc ze88 ?_)
 intro b6 w7 n8
 have N9 : w.heap.size ≤ b6 := n8.eq ▸ E5.size
 have : b1 < b6 := n8.eq ▸ lt_of_blk n3.blk
 have E10 := qe E5 n8.ext
 refine qN <| lw_v (.pointer (some ⟨b1, 0, none⟩)) (dv_fieldAddr (a := ⟨b1, 0, none⟩) (a' := ⟨b1, 0, none⟩) fo38_0 (Z rfl) rfl) ?_
 have H11 := (n8.ext.blk n3.blk)
 refine lw_v (qu a3) (dv_load1 (b := b1) (o := 0) agt36 (Z rfl) H11 rfl) <| lw_v (qu (a3 / 9223372036854775808)) (dv_shr (a := a3) (b := 63) (z := a3 / 9223372036854775808) (Z rfl) C (by decide) (shr_c (n := 63) (by omega) (by decide))) <| lw_v _ (dv_eql (a := a3 / 9223372036854775808) (b := 1) (Z rfl) C) <| qs (qd ((a3 / 9223372036854775808) = 1)) rfl rfl <| qN <| lw_v (.pointer (some ⟨b1, 3, none⟩)) (dv_fieldAddr (a := ⟨b1, 0, none⟩) (a' := ⟨b1, 3, none⟩) fo38_3 (Z rfl) rfl) <| lw_v (qu a0) (dv_load1 (b := b1) (o := 3) agt36 (Z rfl) H11 rfl) <| lw_v (.int .u32 ((a0) % 4294967296)) (dv_conv (a := a0) (z := (a0) % 4294967296) ui36 ui168 (Z rfl) (wr_u32 _)) <| lw_v (.pointer (some ⟨b1, 3, none⟩)) (dv_fieldAddr (a := ⟨b1, 0, none⟩) (a' := ⟨b1, 3, none⟩) fo38_3 (Z rfl) rfl) <| lw_v (qu a0) (dv_load1 (b := b1) (o := 3) agt36 (Z rfl) H11 rfl) <| lw_v (qu (a0 / 4294967296)) (dv_shr (a := a0) (b := 32) (z := a0 / 4294967296) (Z rfl) C (by decide) (shr_c (n := 32) (by omega) (by decide))) <| lw_v (.int .u32 ((a0 / 4294967296) % 4294967296)) (dv_conv (a := a0 / 4294967296) (z := (a0 / 4294967296) % 4294967296) ui36 ui168 (Z rfl) (wr_u32 _)) <| lw_v (.pointer (some ⟨b1, 2, none⟩)) (dv_fieldAddr (a := ⟨b1, 0, none⟩) (a' := ⟨b1, 2, none⟩) fo38_2 (Z rfl) rfl) <| lw_v (qu a1) (dv_load1 (b := b1) (o := 2) agt36 (Z rfl) H11 rfl) <| lw_v (.int .u32 ((a1) % 4294967296)) (dv_conv (a := a1) (z := (a1) % 4294967296) ui36 ui168 (Z rfl) (wr_u32 _)) <| lw_v (.pointer (some ⟨b1, 2, none⟩)) (dv_fieldAddr (a := ⟨b1, 0, none⟩) (a' := ⟨b1, 2, none⟩) fo38_2 (Z rfl) rfl) <| lw_v (qu a1) (dv_load1 (b := b1) (o := 2) agt36 (Z rfl) H11 rfl) <| lw_v (qu (a1 / 4294967296)) (dv_shr (a := a1) (b := 32) (z := a1 / 4294967296) (Z rfl) C (by decide) (shr_c (n := 32) (by omega) (by decide))) <| lw_v (.int .u32 ((a1 / 4294967296) % 4294967296)) (dv_conv (a := a1 / 4294967296) (z := (a1 / 4294967296) % 4294967296) ui36 ui168 (Z rfl) (wr_u32 _)) <| lw_v (.pointer (some ⟨b1, 1, none⟩)) (dv_fieldAddr (a := ⟨b1, 0, none⟩) (a' := ⟨b1, 1, none⟩) fo38_1 (Z rfl) rfl) <| lw_v (qu a2) (dv_load1 (b := b1) (o := 1) agt36 (Z rfl) H11 rfl) <| lw_v (.int .u32 ((a2) % 4294967296)) (dv_conv (a := a2) (z := (a2) % 4294967296) ui36 ui168 (Z rfl) (wr_u32 _)) <| lw_v (.pointer (some ⟨b1, 1, none⟩)) (dv_fieldAddr (a := ⟨b1, 0, none⟩) (a' := ⟨b1, 1, none⟩) fo38_1 (Z rfl) rfl) <| lw_v (qu a2) (dv_load1 (b := b1) (o := 1) agt36 (Z rfl) H11 rfl) <| lw_v (qu (a2 / 4294967296)) (dv_shr (a := a2) (b := 32) (z := a2 / 4294967296) (Z rfl) C (by decide) (shr_c (n := 32) (by omega) (by decide))) <| lw_v (.int .u32 ((a2 / 4294967296) % 4294967296)) (dv_conv (a := a2 / 4294967296) (z := (a2 / 4294967296) % 4294967296) ui36 ui168 (Z rfl) (wr_u32 _)) <| lw_v (.pointer (some ⟨b1, 0, none⟩)) (dv_fieldAddr (a := ⟨b1, 0, none⟩) (a' := ⟨b1, 0, none⟩) fo38_0 (Z rfl) rfl) <| lw_v (qu a3) (dv_load1 (b := b1) (o := 0) agt36 (Z rfl) H11 rfl) <| lw_v (.int .u32 ((a3) % 4294967296)) (dv_conv (a := a3) (z := (a3) % 4294967296) ui36 ui168 (Z rfl) (wr_u32 _)) <| lw_v (.pointer (some ⟨b1, 0, none⟩)) (dv_fieldAddr (a := ⟨b1, 0, none⟩) (a' := ⟨b1, 0, none⟩) fo38_0 (Z rfl) rfl) <| lw_v (qu a3) (dv_load1 (b := b1) (o := 0) agt36 (Z rfl) H11 rfl) <| lw_v (qu (a3 / 4294967296)) (dv_shr (a := a3) (b := 32) (z := a3 / 4294967296) (Z rfl) C (by decide) (shr_c (n := 32) (by omega) (by decide))) <| lw_v (.int .u32 ((a3 / 4294967296) % 4294967296)) (dv_conv (a := a3 / 4294967296) (z := (a3 / 4294967296) % 4294967296) ui36 ui168 (Z rfl) (wr_u32 _)) <| lw_e (oe_buildSlice (pv := [(0, .int .u32 ((a0) % 4294967296)), (1, .int .u32 ((a0 / 4294967296) % 4294967296)), (2, .int .u32 ((a1) % 4294967296)), (3, .int .u32 ((a1 / 4294967296) % 4294967296)), (4, .int .u32 ((a2) % 4294967296)), (5, .int .u32 ((a2 / 4294967296) % 4294967296)), (6, .int .u32 ((a3) % 4294967296)), (7, .int .u32 ((a3 / 4294967296) % 4294967296))]) (init := [.int .u32 0, .int .u32 0, .int .u32 0, .int .u32 0, .int .u32 0, .int .u32 0, .int .u32 0, .int .u32 0]) (l := [.int .u32 ((a0) % 4294967296), .int .u32 ((a0 / 4294967296) % 4294967296), .int .u32 ((a1) % 4294967296), .int .u32 ((a1 / 4294967296) % 4294967296), .int .u32 ((a2) % 4294967296), .int .u32 ((a2 / 4294967296) % 4294967296), .int .u32 ((a3) % 4294967296), .int .u32 ((a3 / 4294967296) % 4294967296)]) us86 sz168 rfl rfl zc168 (by kernel_rfl) ⟨rfl, (Z rfl), ⟨rfl, (Z rfl), ⟨rfl, (Z rfl), ⟨rfl, (Z rfl), ⟨rfl, (Z rfl), ⟨rfl, (Z rfl), ⟨rfl, (Z rfl), ⟨rfl, (Z rfl), trivial⟩⟩⟩⟩⟩⟩⟩⟩ rfl ?_)
 intro b12 w13 n14
 have N15 : w.heap.size ≤ b12 := n14.eq ▸ E10.size
 have : b6 < b12 := n14.eq ▸ lt_of_blk n8.blk
 have E16 := qe E10 n14.ext
 refine qs (.slice (some ⟨b12, 0, none⟩) 8 8) rfl rfl <| lw_nil <| rk_seq <| rk_seq <| rk_reg <| qm (qd ((a3 / 9223372036854775808) = 1)) rfl rfl <| lw_v (qd (¬ ((a3 / 9223372036854775808) = 1))) (dv_notd (p := (a3 / 9223372036854775808) = 1) (Z rfl)) <| lw_nil ?_
 by_cases hb17 : (a3 / 9223372036854775808) = 1
 · refine rk_cf (T rfl (congrArg Value.bool (decide_eq_false (not_not_intro hb17)))) <| rk_skip <| rk_seq <| rk_reg <| lw_e (oe_buildSlice (pv := [(0, .int .u32 1)]) (init := [.int .u32 0]) (l := [.int .u32 1]) us86 sz168 rfl rfl zc168 (by kernel_rfl) ⟨rfl, C, trivial⟩ rfl ?_)
   intro b18 w19 n20
   have N21 : w.heap.size ≤ b18 := n20.eq ▸ E16.size
   have : b12 < b18 := n20.eq ▸ lt_of_blk n14.blk
   have E22 := qe E16 n20.ext
   refine lw_e (oe_callf (vs := [.slice (some ⟨b18, 0, none⟩) 1 1, qi 256]) co133 (ar2 (Z rfl) C) (l1Left_ws (N := 256) (j := 256) (⟨[1], rfl, Nat.le_refl _, Wd.ownW n20.blk, (okW_lit (by simp <;> omega)), rfl⟩ : Ws _ _ _ _ _ _ _ _) (by first | omega | simp <;> omega) (by first | omega | simp <;> omega) (valB_sz (m := 32) (xs := [1]) (n := 1) (okW_lit (by simp <;> omega)) rfl) (by omega)) ?_)
   rintro _ w27 ⟨A23, n24, c25, rfl, e28, h26⟩
   have E29 := qe E22 e28
   have lh26 := Wc.len (by decide) h26 (left_sz (m := 256) (s := 32) rfl (valB_sz (m := 32) (xs := [1]) (n := 1) (okW_lit (by simp <;> omega)) rfl))
   refine qm (.slice (some ⟨b12, 0, none⟩) 8 8) rfl rfl ?_
   have H30 := (e28.blk (n20.ext.blk n14.blk))
   refine lw_e (oe_callf (vs := [.slice A23 n24 c25, .slice (some ⟨b12, 0, none⟩) 8 8]) co132 (ar2 (Z rfl) (Z rfl)) (l1SubAbs_ws h26.ws (⟨[(a0) % 4294967296, (a0 / 4294967296) % 4294967296, (a1) % 4294967296, (a1 / 4294967296) % 4294967296, (a2) % 4294967296, (a2 / 4294967296) % 4294967296, (a3) % 4294967296, (a3 / 4294967296) % 4294967296], rfl, Nat.le_refl _, Wd.ownW H30, (okW_lit (by simp <;> omega)), rfl⟩ : Ws _ _ _ _ _ _ _ _) (by first | omega | simp <;> omega) (by first | omega | simp <;> omega) (by have q := Ws.lo (s := 256) h26.ws (by simp [valB]); omega) (by have q := (valB_sz (m := 32) (xs := [(a0) % 4294967296, (a0 / 4294967296) % 4294967296, (a1) % 4294967296, (a1 / 4294967296) % 4294967296, (a2) % 4294967296, (a2 / 4294967296) % 4294967296, (a3) % 4294967296, (a3 / 4294967296) % 4294967296]) (n := 8) (okW_lit (by simp <;> omega)) rfl); have e : (2 : Int) ^ 256 * valB (2 ^ 32) [1] = 2 ^ 256 := (by simp [valB]); omega)) ?_)
   rintro _ w35 ⟨A31, n32, c33, rfl, e36, h34, hnh34⟩
   have E37 := qe E29 e36
   refine lw_e (oe_callf (vs := [.bool true, .slice A31 n32 c33]) co131 (ar2 C (Z rfl)) (l1Trim_num (s := 288) (neg := true) h34 (by first | omega | simp <;> omega) (sz_sub (left_sz (m := 256) (s := 32) rfl (valB_sz (m := 32) (xs := [1]) (n := 1) (okW_lit (by simp <;> omega)) rfl)) (Ws.nonneg (⟨[(a0) % 4294967296, (a0 / 4294967296) % 4294967296, (a1) % 4294967296, (a1 / 4294967296) % 4294967296, (a2) % 4294967296, (a2 / 4294967296) % 4294967296, (a3) % 4294967296, (a3 / 4294967296) % 4294967296], rfl, Nat.le_refl _, Wd.ownW H30, (okW_lit (by simp <;> omega)), rfl⟩ : Ws _ _ _ _ _ _ _ _)))) ?_)
   rintro _ w43 ⟨nb38, A39, n40, c41, rfl, e44, hn42⟩
   have E45 := qe E37 e44
   have lhn42 := ql hn42
   have H46 := (e44.blk (e36.blk (e28.blk (n20.ext.blk (n14.ext.blk n8.blk)))))
   refine lw_e (oe_store (v := .agg #[.bool nb38, .slice A39 n40 c41]) (vs := [.bool nb38, .slice A39 n40 c41]) (l := [.bool nb38, .slice A39 n40 c41]) (Z rfl) (Z rfl) sz88 rfl rfl rfl H46 rfl ?_)
   intro w47 s48 H49
   have E50 := below_st E45 N9 s48
   refine lw_nil <| rk_ret Try.func101 (v := .agg #[.bool nb38, .slice A39 n40 c41]) (res1 Try.results101 (rv_cells (l := [.bool nb38, .slice A39 n40 c41]) agt88 sz88 rfl rfl H49 rfl)) ⟨_, rfl, ?_⟩
   have h51 := (hn42.st s48 H46 (by decide))
   exact ⟨_, _, _, _, rfl, E50, h51.tight (wz_hi32 h3 h2 h1 h0 (by omega)) (wz_lt h3 h2 h1 h0)⟩
 refine rk_ct (T rfl (qT hb17)) <| rk_seq <| rk_reg <| qm (.slice (some ⟨b12, 0, none⟩) 8 8) rfl rfl <| lw_e (oe_callf (vs := [.bool false, .slice (some ⟨b12, 0, none⟩) 8 8]) co131 (ar2 C (Z rfl)) (l1Trim_num (s := 256) (neg := false) (⟨[(a0) % 4294967296, (a0 / 4294967296) % 4294967296, (a1) % 4294967296, (a1 / 4294967296) % 4294967296, (a2) % 4294967296, (a2 / 4294967296) % 4294967296, (a3) % 4294967296, (a3 / 4294967296) % 4294967296], rfl, Nat.le_refl _, Wd.ownW n14.blk, (okW_lit (by simp <;> omega)), rfl⟩ : Ws _ _ _ _ _ _ _ _) (by first | omega | simp <;> omega) (valB_sz (m := 32) (xs := [(a0) % 4294967296, (a0 / 4294967296) % 4294967296, (a1) % 4294967296, (a1 / 4294967296) % 4294967296, (a2) % 4294967296, (a2 / 4294967296) % 4294967296, (a3) % 4294967296, (a3 / 4294967296) % 4294967296]) (n := 8) (okW_lit (by simp <;> omega)) rfl)) ?_)
 rintro _ w57 ⟨nb52, A53, n54, c55, rfl, e58, hn56⟩
 have E59 := qe E16 e58
 have lhn56 := ql hn56
 have H60 := (e58.blk (n14.ext.blk n8.blk))
 refine lw_e (oe_store (v := .agg #[.bool nb52, .slice A53 n54 c55]) (vs := [.bool nb52, .slice A53 n54 c55]) (l := [.bool nb52, .slice A53 n54 c55]) (Z rfl) (Z rfl) sz88 rfl rfl rfl H60 rfl ?_)
 intro w61 s62 H63
 have E64 := below_st E59 N9 s62
 refine lw_nil <| rk_ret Try.func101 (v := .agg #[.bool nb52, .slice A53 n54 c55]) (res1 Try.results101 (rv_cells (l := [.bool nb52, .slice A53 n54 c55]) agt88 sz88 rfl rfl H63 rfl)) ⟨_, rfl, ?_⟩
 have h65 := (hn56.st s62 H60 (by decide))
 exact ⟨_, _, _, _, rfl, E64, h65.tight (wz_lo32 h3 h2 h1 h0 (by omega)) (wz_lt h3 h2 h1 h0)⟩
theorem l1Fromz_ok {w : World} {z : Int} (hz : fits z) : Ct Try.prog 101 [.agg #[.int .u64 (wv3 z), .int .u64 (wv2 z), .int .u64 (wv1 z), .int .u64 (wv0 z)]] w fun v w1 => ∃ nr A' n c', v = .agg #[.bool nr, .slice A' n c'] ∧ Ext w w1 ∧ Num 32 168 .u32 w1 nr A' n c' z 256 := by
 have h := l1From_ok (w := w) (w_rg z).1 (w_rg z).2.1 (w_rg z).2.2.1 (w_rg z).2.2.2
 rw [wz_w hz] at h
 exact h
end Go.Proofs.Ytmbpomcbdopgnaa.W
