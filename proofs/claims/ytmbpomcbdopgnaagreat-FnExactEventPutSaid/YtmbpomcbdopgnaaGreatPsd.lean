/- Walks and plain mathematics, packed by a program of this session: declarations that the rows reach. -/
import Derived.Test.YtmbpomcbdopgnaaGreatRows
import Derived.Test.YtmbpomcbdopgnaaGreatPsc
set_option linter.unusedVariables false
set_option linter.unusedSimpArgs false
namespace Go.Proofs.YtmbpomcbdopgnaaGreat.W
open Go Go.RowKit Go.Proofs.YtmbpomcbdopgnaaGreat.Fw
attribute [local irreducible] RunK LW AW DV OE Ct
theorem agt23 : aggB Tryz.prog 23 = some false := by kernel_rfl
theorem agt4 : aggB Tryz.prog 4 = some false := by kernel_rfl
theorem agt75 : aggB Tryz.prog 75 = some false := by kernel_rfl
theorem agt77 : aggB Tryz.prog 77 = some true := by kernel_rfl
theorem co106 : callOk Tryz.prog 106 = true := by kernel_rfl
theorem co45 : callOk Tryz.prog 45 = true := by kernel_rfl
theorem co70 : callOk Tryz.prog 70 = true := by kernel_rfl
theorem co71 : callOk Tryz.prog 71 = true := by kernel_rfl
theorem co90 : callOk Tryz.prog 90 = true := by kernel_rfl
theorem co91 : callOk Tryz.prog 91 = true := by kernel_rfl
theorem co92 : callOk Tryz.prog 92 = true := by kernel_rfl
theorem co96 : callOk Tryz.prog 96 = true := by kernel_rfl
theorem co97 : callOk Tryz.prog 97 = true := by kernel_rfl
theorem fo77_0 : fieldOffB Tryz.prog 77 0 = some 0 := by kernel_rfl
theorem fo77_1 : fieldOffB Tryz.prog 77 1 = some 1 := by kernel_rfl
theorem in23 : (Tryz.prog.info? 23).map (fun i => (i.zero, i.size, i.bytes)) = some (some (.int .u64 0), 1, 8) := by kernel_rfl
theorem mo : Tryz.prog.follows .mixedOrders = true := by kernel_rfl
theorem pl77 : placesB Tryz.prog 77 = some [(0, 1), (1, 1)] := by kernel_rfl
theorem sz23 : sizeB Tryz.prog 23 = some 1 := by kernel_rfl
theorem sz77 : sizeB Tryz.prog 77 = some 2 := by kernel_rfl
theorem ub4 : Tryz.prog.underlying 4 = some .bool := by kernel_rfl
theorem ui2 : Tryz.prog.underlying 2 = some (.int .i64) := by kernel_rfl
theorem ui23 : Tryz.prog.underlying 23 = some (.int .u64) := by kernel_rfl
theorem us75 : Tryz.prog.underlying 75 = some (.slice 23) := by kernel_rfl
theorem zc23 : zcB Tryz.prog 23 = some [.int .u64 0] := by kernel_rfl
theorem zc77 : zcB Tryz.prog 77 = some [.bool false, .slice none 0 0] := by kernel_rfl
theorem ze77 : zeroB Tryz.prog 77 = some #[.bool false, .slice none 0 0] := by kernel_rfl
set_option maxHeartbeats 1000000 in
theorem trim_ok {w : World} {A : Option Addr} {c : Nat} {xs : List Int} (hx : Wd w 23 .u64 A xs) (hc : xs.length ≤ c) (hL : xs.length ≤ 1000000) : Ct Tryz.prog 91 [.slice A (xs.length) c] w fun v w1 => v = .slice A (trimL xs).length c ∧ Ext w w1 := by
 refine ct_run (n := 21) Tryz.func91 rfl Tryz.ntmps91 rfl ?_
 have E0 : Below w.heap.size w w := Below.refl _ _
 refine rk_seq <| rk_reg <| lw_v (.slice none 0 0) (dv_assign C) <| lw_nil <| rk_seq <| rk_block <| rk_loop (fun dm_ fr wl => ∃ (n : Nat), dm_ = n ∧ fr 0 = .slice A n c ∧ fr 2 = .slice none 0 0 ∧ Below w.heap.size w wl ∧ (n ≤ xs.length) ∧ (trimL (xs.take n) = trimL xs)) (xs.length) ⟨xs.length, rfl, rfl, rfl, E0, (Nat.le_refl _), (by rw [List.take_of_length_le (Nat.le_refl _)])⟩ ?_
 intro d5 fr4 w1 hI2 ih3
 obtain ⟨n, hd9, f6, f7, E8, hn, ht⟩ := hI2
 refine rk_seq <| rk_seq <| rk_reg <| lw_v (.slice A n c) (dv_move (T rfl f6)) <| lw_v (qi (n : Int)) (dv_len (ad := A) (l := n) (c := c) us75 (T rfl rfl)) <| lw_v (qd (0 < (n : Int))) (dv_gtr (a := (n : Int)) (b := 0) (T rfl rfl) C) <| lw_v (qd (0 < (n : Int))) (dv_move (T rfl rfl)) ?_
 by_cases hb10 : 0 < ((n : Int))
 · refine lw_vy (.slice A n c) (d := 6) rfl rfl (qT hb10) (dv_move (T rfl f6)) <| lw_vy (.slice A n c) (d := 6) rfl rfl (qT hb10) (dv_move (T rfl f6)) <| lw_vy (qi (n : Int)) (d := 6) rfl rfl (qT hb10) (dv_len (ad := A) (l := n) (c := c) us75 (T rfl rfl)) <| lw_vy (qi ((n : Int) - 1)) (d := 6) rfl rfl (qT hb10) (dv_sub (a := (n : Int)) (b := 1) (z := (n : Int) - 1) (T rfl rfl) C (wr_i64 (by omega) (by omega))) ?_
   have h11 := ((hx.take n).ext E8)
   obtain ⟨g12, o13, rfl⟩ := Wd.at h11 (by first | omega | (simp; done) | (simp; omega))
   refine lw_vy (.pointer (some ⟨g12, o13 + ((n) - 1), none⟩)) (d := 6) rfl rfl (qT hb10) (dv_indexW (g := g12) (o := o13) (l := n) (c := c) (i := ((n) - 1)) (j := (n : Int) - 1) us75 sz23 (T rfl rfl) (T rfl rfl) (by omega) (by first | omega | (simp; done) | (simp; omega))) <| lw_vy (qu ((xs.take n).getD (((n) - 1)) 0)) (d := 6) rfl rfl (qT hb10) (dv_load agt23 (T rfl rfl) (Wd.cell h11 (by first | omega | (simp; done) | (simp; omega)))) <| lw_vy (qd (((xs.take n).getD (((n) - 1)) 0) = 0)) (d := 6) rfl rfl (qT hb10) (dv_eql (a := (xs.take n).getD (((n) - 1)) 0) (b := 0) (T rfl rfl) C) <| lw_v (qd (((xs.take n).getD (((n) - 1)) 0) = 0)) (dv_pick_t (T rfl (qT hb10)) (T rfl rfl)) <| lw_nil ?_
   by_cases hb14 : (((xs.take n)).getD (((n) - 1)) 0) = 0
   · refine rk_ct (T rfl (qT hb14)) <| rk_skip <| rk_block <| rk_reg <| lw_v (.slice (some ⟨g12, o13, none⟩) n c) (dv_move (T rfl f6)) <| lw_v (.slice (some ⟨g12, o13, none⟩) n c) (dv_move (T rfl f6)) <| lw_v (qi (n : Int)) (dv_len (ad := (some ⟨g12, o13, none⟩)) (l := n) (c := c) us75 (T rfl rfl)) <| lw_v (qi ((n : Int) - 1)) (dv_sub (a := (n : Int)) (b := 1) (z := (n : Int) - 1) (T rfl rfl) C (wr_i64 (by omega) (by omega))) <| lw_v (.slice (some ⟨g12, o13, none⟩) (((n) - 1)) c) (dv_sliceH (ad := (some ⟨g12, o13, none⟩)) (l := n) (c := c) (i := ((n) - 1)) (j := (n : Int) - 1) us75 sz23 (T rfl rfl) (T rfl rfl) (by omega) (by first | omega | (simp; done) | (simp; omega))) <| lw_v (.slice (some ⟨g12, o13, none⟩) (((n) - 1)) c) (dv_assign (T rfl rfl)) <| lw_nil ?_
     refine rk_inBlock ?_
     exact ih3 (n - 1) _ _ (by rw [hd9]; omega) ⟨(n - 1), rfl, rfl, f7, E8, (by omega), (by rw [← ht, trim_less xs n (by omega) hn (by first | assumption | simpa using ‹_›)])⟩
   · refine rk_cf (T rfl (qF hb14)) <| rk_exit rfl <| rk_seq <| rk_reg <| lw_v (.slice (some ⟨g12, o13, none⟩) n c) (dv_move (T rfl f6)) <| lw_v (.slice (some ⟨g12, o13, none⟩) n c) (dv_assign (T rfl rfl)) <| lw_nil <| rk_ret Tryz.func91 (v := .slice (some ⟨g12, o13, none⟩) n c) (res1 Tryz.results91 (rv_tmp rfl rfl)) ⟨_, rfl, ?_⟩
     exact ⟨by rw [trim_done xs n hn ht (by first | (left; omega) | (right; assumption))], E8⟩
 · refine lw_no (d := 6) rfl rfl (qF hb10) <| lw_no (d := 6) rfl rfl (qF hb10) <| lw_no (d := 6) rfl rfl (qF hb10) <| lw_no (d := 6) rfl rfl (qF hb10) <| lw_no (d := 6) rfl rfl (qF hb10) <| lw_no (d := 6) rfl rfl (qF hb10) <| lw_no (d := 6) rfl rfl (qF hb10) <| lw_v (.bool false) (dv_pick_f (T rfl (qF hb10)) C) <| lw_nil <| rk_cf (T rfl rfl) <| rk_exit rfl ?_
   refine rk_seq <| rk_reg <| lw_v (.slice A n c) (dv_move (T rfl f6)) <| lw_v (.slice A n c) (dv_assign (T rfl rfl)) <| lw_nil <| rk_ret Tryz.func91 (v := .slice A n c) (res1 Tryz.results91 (rv_tmp rfl rfl)) ⟨_, rfl, ?_⟩
   exact ⟨by rw [trim_done xs n hn ht (by first | (left; omega) | (right; assumption))], E8⟩
theorem trim_okl {w : World} {A : Option Addr} {l c : Nat} {xs : List Int} (hx : Wd w 23 .u64 A xs) (hc : l ≤ c) (hL : l ≤ 1000000) (hl : xs.length = l) : Ct Tryz.prog 91 [.slice A l c] w fun v w1 =>
 v = .slice A (trimL xs).length c ∧ Ext w w1 := by
 subst hl
 exact trim_ok hx hc hL
set_option maxHeartbeats 1000000 in
theorem cmpWords_ok {w : World} {A D : Option Addr} {c d : Nat} {xs ys : List Int} (hx : Wd w 23 .u64 A xs) (hy : Wd w 23 .u64 D ys) (ox : okW (2 ^ 64) xs) (oy : okW (2 ^ 64) ys) (cx : canon xs) (cy : canon ys) (lx : xs.length ≤ 1000000) (ly : ys.length ≤ 1000000) : Ct Tryz.prog 92 [.slice A (xs.length) c, .slice D (ys.length) d] w fun v w1 => ∃ r : Int, v = .int .i64 r ∧ Ext w w1 ∧ cmpR r (valB (2 ^ 64) xs) (valB (2 ^ 64) ys) := by
 refine ct_run (n := 41) Tryz.func92 rfl Tryz.ntmps92 rfl ?_
 have E0 : Below w.heap.size w w := Below.refl _ _
 refine rk_seq <| rk_reg <| lw_v (qi 0) (dv_assign C) <| lw_nil <| rk_seq <| rk_seq <| rk_reg <| lw_v (.slice A (xs.length) c) (dv_move (T rfl rfl)) <| lw_v (qi (xs.length : Int)) (dv_len (ad := A) (l := xs.length) (c := c) us75 (T rfl rfl)) <| lw_v (.slice D (ys.length) d) (dv_move (T rfl rfl)) <| lw_v (qi (ys.length : Int)) (dv_len (ad := D) (l := ys.length) (c := d) us75 (T rfl rfl)) ?_
 refine lw_v (qd ((xs.length : Int) ≠ (ys.length : Int))) (dv_neq (a := (xs.length : Int)) (b := (ys.length : Int)) (T rfl rfl) (T rfl rfl)) <| lw_nil ?_
 by_cases hb1 : ((xs.length : Int)) ≠ ((ys.length : Int))
 · refine rk_ct (T rfl (qT hb1)) <| rk_seq <| rk_reg <| lw_v (.slice A (xs.length) c) (dv_move (T rfl rfl)) <| lw_v (qi (xs.length : Int)) (dv_len (ad := A) (l := xs.length) (c := c) us75 (T rfl rfl)) <| lw_v (.slice D (ys.length) d) (dv_move (T rfl rfl)) <| lw_v (qi (ys.length : Int)) (dv_len (ad := D) (l := ys.length) (c := d) us75 (T rfl rfl)) <| lw_v (qi ((xs.length : Int) - (ys.length : Int))) (dv_sub (a := (xs.length : Int)) (b := (ys.length : Int)) (z := (xs.length : Int) - (ys.length : Int)) (T rfl rfl) (T rfl rfl) (wr_i64 (by omega) (by omega))) <| lw_v (qi ((xs.length : Int) - (ys.length : Int))) (dv_assign (T rfl rfl)) <| lw_nil <| rk_ret Tryz.func92 (v := qi ((xs.length : Int) - (ys.length : Int))) (res1 Tryz.results92 (rv_tmp rfl rfl)) ⟨_, rfl, ?_⟩
   exact ⟨_, rfl, E0, cmp_len (by decide) ox oy cx cy (by omega)⟩
 · refine rk_cf (T rfl (qF hb1)) <| rk_skip <| rk_seq <| rk_seq <| rk_reg <| lw_v (.slice A (xs.length) c) (dv_move (T rfl rfl)) <| lw_v (qi (xs.length : Int)) (dv_len (ad := A) (l := xs.length) (c := c) us75 (T rfl rfl)) <| lw_v (qi ((xs.length : Int) - 1)) (dv_sub (a := (xs.length : Int)) (b := 1) (z := (xs.length : Int) - 1) (T rfl rfl) C (wr_i64 (by omega) (by omega))) <| lw_v (qi ((xs.length : Int) - 1)) (dv_assign (T rfl rfl)) <| lw_nil <| rk_block ?_
   refine rk_loop (fun dm_ fr wl => ∃ (n : Nat), dm_ = n ∧ fr 0 = .slice A (xs.length) c ∧ fr 1 = .slice D (ys.length) d ∧ fr 5 = qi ((n : Int) - 1) ∧ Below w.heap.size w wl ∧ (n ≤ xs.length) ∧ (xs.drop n = ys.drop n)) (xs.length) ⟨xs.length, rfl, rfl, rfl, (vi (by omega)), E0, (Nat.le_refl _), (by rw [List.drop_of_length_le (Nat.le_refl _), List.drop_of_length_le (by omega)])⟩ ?_
   intro d6 fr5 w2 hI3 ih4
   obtain ⟨n, hd11, f7, f8, f9, E10, hn, hd⟩ := hI3
   refine rk_seq <| rk_seq <| rk_reg <| lw_v (qi ((n : Int) - 1)) (dv_move (T rfl f9)) <| lw_v (qd (0 ≤ ((n : Int) - 1))) (dv_geq (a := (n : Int) - 1) (b := 0) (T rfl rfl) C) <| lw_nil ?_
   by_cases hb12 : 0 ≤ ((n : Int) - 1)
   · refine rk_ct (T rfl (qT hb12)) <| rk_skip <| rk_seq <| rk_block <| rk_seq ?_
     have h13 := (hx.ext E10)
     have h14 := (hy.ext E10)
     refine rk_any (fun w => Wd w 23 .u64 A xs ∧ Wd w 23 .u64 D ys) [] mo ?_
     intro w15 d16
     have E17 := below_ext E10 E10.size d16.ext
     have h18 := (h13.ext d16.ext)
     have h19 := (h14.ext d16.ext)
     refine aw_pure 0 (.slice A (xs.length) c) rfl (by kernel_rfl) .none ⟨h18, h19⟩ (fun _ => dv_move (T rfl f7)) <| aw_pure 1 (qi ((n : Int) - 1)) rfl (by kernel_rfl) .none ⟨h18, h19⟩ (fun _ => dv_move (T rfl f9)) ?_
     obtain ⟨g20, o21, rfl⟩ := Wd.at h18 (by omega)
     refine aw_pure 2 (.pointer (some ⟨g20, o21 + (n - 1), none⟩)) rfl (by kernel_rfl) .none ⟨h18, h19⟩ (fun _ => dv_indexW (g := g20) (o := o21) (l := xs.length) (c := c) (i := (n - 1)) (j := (n : Int) - 1) us75 sz23 (T rfl rfl) (T rfl rfl) (by omega) (by omega)) <| aw_load 3 (qu (xs.getD (n - 1) 0)) rfl (by kernel_rfl) .none ⟨h18, h19⟩ (fun _ s => dv_load agt23 (T rfl rfl) (Wd.cell s.1 (by omega))) <| aw_pure 4 (.slice D (ys.length) d) rfl (by kernel_rfl) .none ⟨h18, h19⟩ (fun _ => dv_move (T rfl f8)) <| aw_pure 5 (qi ((n : Int) - 1)) rfl (by kernel_rfl) .none ⟨h18, h19⟩ (fun _ => dv_move (T rfl f9)) ?_
     obtain ⟨g22, o23, rfl⟩ := Wd.at h19 (by omega)
     refine aw_pure 6 (.pointer (some ⟨g22, o23 + (n - 1), none⟩)) rfl (by kernel_rfl) .none ⟨h18, h19⟩ (fun _ => dv_indexW (g := g22) (o := o23) (l := ys.length) (c := d) (i := (n - 1)) (j := (n : Int) - 1) us75 sz23 (T rfl rfl) (T rfl rfl) (by omega) (by omega)) <| aw_load 7 (qu (ys.getD (n - 1) 0)) rfl (by kernel_rfl) .none ⟨h18, h19⟩ (fun _ s => dv_load agt23 (T rfl rfl) (Wd.cell s.2 (by omega))) <| aw_pure 8 (qd ((xs.getD (n - 1) 0) ≠ (ys.getD (n - 1) 0))) rfl (by kernel_rfl) .none ⟨h18, h19⟩ (fun _ => dv_neq (a := xs.getD (n - 1) 0) (b := ys.getD (n - 1) 0) (T rfl rfl) (T rfl rfl)) <| aw_done (by kernel_rfl) ?_
     by_cases hb24 : (xs.getD ((n - 1)) 0) ≠ (ys.getD ((n - 1)) 0)
     · refine rk_ct (T rfl (qT hb24)) <| rk_seq <| rk_seq <| rk_any (fun w => Wd w 23 .u64 (some ⟨g20, o21, none⟩) xs ∧ Wd w 23 .u64 (some ⟨g22, o23, none⟩) ys) [] mo ?_
       intro w25 d26
       have E27 := below_ext E17 E17.size d26.ext
       have h28 := (h18.ext d26.ext)
       have h29 := (h19.ext d26.ext)
       refine aw_pure 0 (.slice (some ⟨g20, o21, none⟩) (xs.length) c) rfl (by kernel_rfl) .none ⟨h28, h29⟩ (fun _ => dv_move (T rfl f7)) <| aw_pure 1 (qi ((n : Int) - 1)) rfl (by kernel_rfl) .none ⟨h28, h29⟩ (fun _ => dv_move (T rfl f9)) <| aw_pure 2 (.pointer (some ⟨g20, o21 + (n - 1), none⟩)) rfl (by kernel_rfl) .none ⟨h28, h29⟩ (fun _ => dv_indexW (g := g20) (o := o21) (l := xs.length) (c := c) (i := (n - 1)) (j := (n : Int) - 1) us75 sz23 (T rfl rfl) (T rfl rfl) (by omega) (by omega)) <| aw_load 3 (qu (xs.getD (n - 1) 0)) rfl (by kernel_rfl) .none ⟨h28, h29⟩ (fun _ s => dv_load agt23 (T rfl rfl) (Wd.cell s.1 (by omega))) <| aw_pure 4 (.slice (some ⟨g22, o23, none⟩) (ys.length) d) rfl (by kernel_rfl) .none ⟨h28, h29⟩ (fun _ => dv_move (T rfl f8)) <| aw_pure 5 (qi ((n : Int) - 1)) rfl (by kernel_rfl) .none ⟨h28, h29⟩ (fun _ => dv_move (T rfl f9)) <| aw_pure 6 (.pointer (some ⟨g22, o23 + (n - 1), none⟩)) rfl (by kernel_rfl) .none ⟨h28, h29⟩ (fun _ => dv_indexW (g := g22) (o := o23) (l := ys.length) (c := d) (i := (n - 1)) (j := (n : Int) - 1) us75 sz23 (T rfl rfl) (T rfl rfl) (by omega) (by omega)) <| aw_load 7 (qu (ys.getD (n - 1) 0)) rfl (by kernel_rfl) .none ⟨h28, h29⟩ (fun _ s => dv_load agt23 (T rfl rfl) (Wd.cell s.2 (by omega))) <| aw_pure 8 (qd ((xs.getD (n - 1) 0) < (ys.getD (n - 1) 0))) rfl (by kernel_rfl) .none ⟨h28, h29⟩ (fun _ => dv_lss (a := xs.getD (n - 1) 0) (b := ys.getD (n - 1) 0) (T rfl rfl) (T rfl rfl)) <| aw_done (by kernel_rfl) ?_
       by_cases hb30 : (xs.getD ((n - 1)) 0) < (ys.getD ((n - 1)) 0)
       · refine rk_ct (T rfl (qT hb30)) <| rk_seq <| rk_reg <| lw_v (qi (-1)) (dv_assign C) <| lw_nil <| rk_ret Tryz.func92 (v := qi (-1)) (res1 Tryz.results92 (rv_tmp rfl rfl)) ⟨_, rfl, ?_⟩
         exact ⟨_, rfl, E27, ⟨by have := cmp_word (by decide) ox oy n (by omega) (by omega) (by omega) hd (by assumption); omega, by have := cmp_word (by decide) ox oy n (by omega) (by omega) (by omega) hd (by assumption); omega⟩⟩
       · refine rk_cf (T rfl (qF hb30)) <| rk_skip <| rk_seq <| rk_reg <| lw_v (qi 1) (dv_assign C) <| lw_nil <| rk_ret Tryz.func92 (v := qi 1) (res1 Tryz.results92 (rv_tmp rfl rfl)) ⟨_, rfl, ?_⟩
         exact ⟨_, rfl, E27, ⟨by have := cmp_word (by decide) oy ox n (by omega) (by omega) (by omega) hd.symm (by omega); omega, by have := cmp_word (by decide) oy ox n (by omega) (by omega) (by omega) hd.symm (by omega); omega⟩⟩
     · refine rk_cf (T rfl (qF hb24)) <| rk_skip <| rk_inBlock <| rk_reg <| lw_v (qi ((n : Int) - 1)) (dv_move (T rfl f9)) <| lw_v (qi (((n : Int) - 1) - 1)) (dv_sub (a := (n : Int) - 1) (b := 1) (z := ((n : Int) - 1) - 1) (T rfl rfl) C (wr_i64 (by omega) (by omega))) <| lw_v (qi (((n : Int) - 1) - 1)) (dv_assign (T rfl rfl)) <| lw_nil ?_
       exact ih4 (n - 1) _ _ (by rw [hd11]; omega) ⟨(n - 1), rfl, f7, f8, (vi (by omega)), E17, (by omega), (drop_step xs ys n (by omega) (by omega) (by omega) hd (by omega))⟩
   · refine rk_cf (T rfl (qF hb12)) <| rk_exit rfl <| rk_seq <| rk_reg <| lw_v (qi 0) (dv_assign C) <| lw_nil <| rk_ret Tryz.func92 (v := qi 0) (res1 Tryz.results92 (rv_tmp rfl rfl)) ⟨_, rfl, ?_⟩
     exact ⟨_, rfl, E10, (cmp_same (by have hn0 : n = 0 := (by omega); subst hn0; simpa using hd))⟩
theorem cmpWords_wc {w : World} {A D : Option Addr} {l c l' d : Nat} {x y : Int} (h : Wc 64 23 .u64 w A l c x) (h' : Wc 64 23 .u64 w D l' d y) (hl : l ≤ 1000000) (hl' : l' ≤ 1000000) : Ct Tryz.prog 92 [.slice A l c, .slice D l' d] w fun v w1 =>
 ∃ r : Int, v = .int .i64 r ∧ Ext w w1 ∧ cmpR r x y := by
 obtain ⟨xs, rfl, hc, hw, ho, hk, rfl⟩ := h
 obtain ⟨ys, rfl, hc', hw', ho', hk', rfl⟩ := h'
 exact cmpWords_ok hw hw' ho ho' hk hk' hl hl'
set_option maxHeartbeats 1000000 in
theorem made_ok {w : World} {neg : Bool} {A : Option Addr} {c : Nat} {xs : List Int} (hx : Wd w 23 .u64 A xs) (hc : xs.length ≤ c) (hL : xs.length ≤ 1000000)  : Ct Tryz.prog 71 [.bool neg, .slice A (xs.length) c] w fun v w1 => v = .agg #[.bool (neg && decide (0 < ((trimL xs).length : Int))), .slice A ((trimL xs).length) c] ∧ Ext w w1 := by
 refine ct_run (n := 15) Tryz.func71 rfl Tryz.ntmps71 rfl ?_
 have E0 : Below w.heap.size w w := Below.refl _ _
 refine rk_seq <| rk_reg <| lw_e (oe_alloc ze77 ?_)
 intro b1 w2 n3
 have N4 : w.heap.size ≤ b1 := n3.eq ▸ E0.size
 have E5 := below_ext E0 E0.size n3.ext
 refine qN <| lw_v (.slice A (xs.length) c) (dv_move (T rfl rfl)) ?_
 have h6 := (hx.ext n3.ext)
 refine lw_e (oe_callf (vs := [.slice A (xs.length) c]) co91 (ar1 (T rfl rfl)) (trim_okl h6 (by omega) (by omega) (by first | rfl | first | (simp; done) | (simp; omega) | omega)) ?_)
 rintro _ w7 ⟨rfl, e8⟩
 have E9 := below_ext E5 E5.size e8
 refine lw_v (.slice A ((trimL xs).length) c) (dv_assign (T rfl rfl)) <| qN <| lw_v (.bool neg) (dv_move (T rfl rfl)) <| lw_v (.bool neg) (dv_move (T rfl rfl)) ?_
 rcases Bool.eq_false_or_eq_true (neg) with hb10 | hb10
 · refine lw_vy (.slice A ((trimL xs).length) c) (d := 8) rfl rfl (congrArg Value.bool hb10) (dv_move (T rfl rfl)) <| lw_vy (qi (((trimL xs).length : Int))) (d := 8) rfl rfl (congrArg Value.bool hb10) (dv_len (ad := A) (l := (trimL xs).length) (c := c) us75 (T rfl rfl)) <| lw_vy (qd (0 < (((trimL xs).length : Int)))) (d := 8) rfl rfl (congrArg Value.bool hb10) (dv_gtr (a := ((trimL xs).length : Int)) (b := 0) (T rfl rfl) C) <| lw_v (qd (0 < (((trimL xs).length : Int)))) (dv_pick_t (T rfl (congrArg Value.bool hb10)) (T rfl rfl)) <| lw_v (.slice A ((trimL xs).length) c) (dv_move (T rfl rfl)) <| lw_v (.agg #[qd (0 < (((trimL xs).length : Int))), .slice A ((trimL xs).length) c]) (dv_build (pv := [(0, qd (0 < (((trimL xs).length : Int)))), (1, .slice A ((trimL xs).length) c)]) (l := [qd (0 < (((trimL xs).length : Int))), .slice A ((trimL xs).length) c]) zc77 pl77 ⟨rfl, (T rfl rfl), ⟨rfl, (T rfl rfl), trivial⟩⟩ rfl) ?_
   have H11 := (e8.blk n3.blk)
   refine lw_e (oe_store (v := .agg #[qd (0 < (((trimL xs).length : Int))), .slice A ((trimL xs).length) c]) (vs := [qd (0 < (((trimL xs).length : Int))), .slice A ((trimL xs).length) c]) (l := [qd (0 < (((trimL xs).length : Int))), .slice A ((trimL xs).length) c]) (T rfl rfl) (T rfl rfl) sz77 rfl rfl rfl H11 rfl ?_)
   intro w12 s13 H14
   have E15 := below_st E9 N4 s13
   refine lw_nil <| rk_ret Tryz.func71 (v := .agg #[qd (0 < (((trimL xs).length : Int))), .slice A ((trimL xs).length) c]) (res1 Tryz.results71 (rv_cells (l := [qd (0 < (((trimL xs).length : Int))), .slice A ((trimL xs).length) c]) agt77 sz77 rfl rfl H14 rfl)) ⟨_, rfl, ?_⟩
   exact ⟨(ag2 (congrArg Value.bool (by simp [*])) rfl), E15⟩
 · refine lw_no (d := 8) rfl rfl (congrArg Value.bool hb10) <| lw_no (d := 8) rfl rfl (congrArg Value.bool hb10) <| lw_no (d := 8) rfl rfl (congrArg Value.bool hb10) <| lw_v (.bool false) (dv_pick_f (T rfl (congrArg Value.bool hb10)) C) <| lw_v (.slice A ((trimL xs).length) c) (dv_move (T rfl rfl)) <| lw_v (.agg #[.bool false, .slice A ((trimL xs).length) c]) (dv_build (pv := [(0, .bool false), (1, .slice A ((trimL xs).length) c)]) (l := [.bool false, .slice A ((trimL xs).length) c]) zc77 pl77 ⟨rfl, (T rfl rfl), ⟨rfl, (T rfl rfl), trivial⟩⟩ rfl) ?_
   have H16 := (e8.blk n3.blk)
   refine lw_e (oe_store (v := .agg #[.bool false, .slice A ((trimL xs).length) c]) (vs := [.bool false, .slice A ((trimL xs).length) c]) (l := [.bool false, .slice A ((trimL xs).length) c]) (T rfl rfl) (T rfl rfl) sz77 rfl rfl rfl H16 rfl ?_)
   intro w17 s18 H19
   have E20 := below_st E9 N4 s18
   refine lw_nil <| rk_ret Tryz.func71 (v := .agg #[.bool false, .slice A ((trimL xs).length) c]) (res1 Tryz.results71 (rv_cells (l := [.bool false, .slice A ((trimL xs).length) c]) agt77 sz77 rfl rfl H19 rfl)) ⟨_, rfl, ?_⟩
   exact ⟨(ag2 (congrArg Value.bool (by simp [*])) rfl), E20⟩
theorem made_num {w : World} {neg : Bool} {A : Option Addr} {l c s : Nat} {x : Int} (h : Ws 64 23 .u64 w A l c x) (hl : l ≤ 1000000) (hs : x < 2 ^ s) : Ct Tryz.prog 71 [.bool neg, .slice A l c] w fun v w1 =>
 ∃ nb n, v = .agg #[.bool nb, .slice A n c] ∧ Ext w w1 ∧ Num 64 23 .u64 w1 nb A n c (sg neg x) s := by
 obtain ⟨xs, rfl, hc, hw, ho, hv⟩ := h
 refine (made_ok (neg := neg) hw hc hl).mono fun v w1 ⟨h1, h2⟩ => ⟨_, _, h1, h2, ?_⟩
 have hc' := trimL_canon xs
 have hcp := canon_pos (B := 2 ^ 64) (by decide) (trimL_ok ho) hc'
 rw [trimL_val, ← hv] at hcp
 refine Wc.num ⟨trimL xs, rfl, Nat.le_trans (trimL_len xs) hc, (hw.ext h2).trim, trimL_ok ho, hc', by rw [hv, trimL_val]⟩ (fun hn => ?_) ?_ hs
 · simp only [Bool.and_eq_true, decide_eq_true_eq] at hn
   omega
 · by_cases hz : 0 < (trimL xs).length
   · simp [hz]
   · have hx0 : x = 0 := by
      have := valB_nonneg (B := 2 ^ 64) (by decide) ho
      omega
     subst hx0
     cases neg <;> simp [sg, hz]
set_option maxHeartbeats 1000000 in
theorem addWords_ok {w : World} {A D : Option Addr} {c d : Nat} {xs ys : List Int} (hx : Wd w 23 .u64 A xs) (hy : Wd w 23 .u64 D ys) (hc : xs.length ≤ c) (hd : ys.length ≤ d) (ox : okW (2 ^ 64) xs) (oy : okW (2 ^ 64) ys) (lx : xs.length ≤ 500000) (ly : ys.length ≤ 500000) : Ct Tryz.prog 90 [.slice A (xs.length) c, .slice D (ys.length) d] w fun v w1 => ∃ A' n c', v = .slice A' n c' ∧ Ext w w1 ∧ Wc 64 23 .u64 w1 A' n c' (valB (2 ^ 64) xs + valB (2 ^ 64) ys) := by
 refine ct_run (n := 54) Tryz.func90 rfl Tryz.ntmps90 rfl ?_
 have E0 : Below w.heap.size w w := Below.refl _ _
 refine rk_seq <| rk_reg <| lw_v (.slice none 0 0) (dv_assign C) <| lw_nil <| rk_seq <| rk_seq <| rk_reg <| lw_v (.slice A (xs.length) c) (dv_move (T rfl rfl)) <| lw_v (qi (xs.length : Int)) (dv_len (ad := A) (l := xs.length) (c := c) us75 (T rfl rfl)) <| lw_v (.slice D (ys.length) d) (dv_move (T rfl rfl)) <| lw_v (qi (ys.length : Int)) (dv_len (ad := D) (l := ys.length) (c := d) us75 (T rfl rfl)) ?_
 refine lw_v (qd ((xs.length : Int) < (ys.length : Int))) (dv_lss (a := (xs.length : Int)) (b := (ys.length : Int)) (T rfl rfl) (T rfl rfl)) <| lw_nil ?_
 by_cases hb1 : ((xs.length : Int)) < ((ys.length : Int))
 · refine rk_ct (T rfl (qT hb1)) <| rk_reg <| lw_v (.slice D (ys.length) d) (dv_move (T rfl rfl)) <| lw_v (.slice A (xs.length) c) (dv_move (T rfl rfl)) <| lw_v (.slice D (ys.length) d) (dv_assign (T rfl rfl)) <| lw_v (.slice A (xs.length) c) (dv_assign (T rfl rfl)) <| qN <| lw_v (.slice D (ys.length) d) (dv_move (T rfl rfl)) <| lw_v (qi (ys.length : Int)) (dv_len (ad := D) (l := ys.length) (c := d) us75 (T rfl rfl)) ?_
   refine lw_v (qi ((ys.length : Int) + 1)) (dv_add (a := (ys.length : Int)) (b := 1) (z := (ys.length : Int) + 1) (T rfl rfl) C (wr_i64 (by omega) (by omega))) <| lw_e (oe_makeW (l := ((ys.length) + 1)) (j := (ys.length : Int) + 1) us75 in23 (T rfl rfl) (T rfl rfl) (by omega) (by omega) (by omega) ?_)
   intro b2 w3 n4
   have N5 : w.heap.size ≤ b2 := n4.eq ▸ E0.size
   have E6 := below_ext E0 E0.size n4.ext
   refine lw_v (.slice (some ⟨b2, 0, none⟩) (((ys.length) + 1)) (((ys.length) + 1))) (dv_assign (T rfl rfl)) <| lw_v (qu 0) (dv_assign C) <| lw_nil <| rk_seq <| rk_seq <| rk_reg <| lw_v (.slice D (ys.length) d) (dv_move (T rfl rfl)) <| lw_v (qi (ys.length : Int)) (dv_len (ad := D) (l := ys.length) (c := d) us75 (T rfl rfl)) <| lw_v (qi 0) (dv_move C) <| lw_nil <| rk_block ?_
   refine rk_loop (fun dm_ fr wl => ∃ (i : Nat) (L : List Int) (cy : Int), dm_ = ys.length - i ∧ fr 0 = .slice D (ys.length) d ∧ fr 1 = .slice A (xs.length) c ∧ fr 4 = .slice none 0 0 ∧ fr 5 = .slice (some ⟨b2, 0, none⟩) (((ys.length) + 1)) (((ys.length) + 1)) ∧ fr 6 = qu cy ∧ fr 21 = qi (ys.length : Int) ∧ fr 22 = qi (i : Int) ∧ Below w.heap.size w wl ∧ wl.heap[b2]? = some (.cells (L.map (Value.int .u64)).toArray 23) ∧ (i ≤ ys.length) ∧ (L.length = ys.length + 1) ∧ (okW (2 ^ 64) L) ∧ (0 ≤ cy ∧ cy ≤ 1) ∧ (valB (2 ^ 64) (L.take i) + cy * (2 ^ 64) ^ i = valB (2 ^ 64) (ys.take i) + valB (2 ^ 64) (xs.take i))) (ys.length - 0) ⟨0, (List.replicate (((ys.length) + 1)) (0 : Int)), 0, rfl, rfl, rfl, rfl, rfl, rfl, rfl, rfl, E6, n4.blk, (Nat.zero_le _), (by simp), (okW.replicate (by decide) _), (by decide), (by simp [valB])⟩ ?_
   intro d11 fr10 w7 hI8 ih9
   obtain ⟨i, L, cy, hd21, f12, f13, f14, f15, f16, f17, f18, E19, H20, hi, hl, hok, hcy, hv⟩ := hI8
   have bys := okW.getD oy (by decide) i
   have bxs := okW.getD ox (by decide) i
   refine rk_seq <| rk_reg <| lw_v (qd ((i : Int) < (ys.length : Int))) (dv_lss (a := (i : Int)) (b := (ys.length : Int)) (T rfl f18) (T rfl f17)) <| lw_nil <| rk_seq ?_
   by_cases hb22 : ((i : Int)) < ((ys.length : Int))
   · refine rk_ct (T rfl (qT hb22)) <| rk_skip <| rk_seq <| rk_block <| rk_seq <| rk_reg <| lw_v (qi (i : Int)) (dv_move (T rfl f18)) <| lw_v (qi (i : Int)) (dv_assign (T rfl rfl)) <| qN ?_
     refine lw_v (qu 0) (dv_assign C) <| lw_nil <| rk_seq <| rk_seq <| rk_reg <| lw_v (qi (i : Int)) (dv_move (T rfl rfl)) <| lw_v (.slice A (xs.length) c) (dv_move (T rfl f13)) <| lw_v (qi (xs.length : Int)) (dv_len (ad := A) (l := xs.length) (c := c) us75 (T rfl rfl)) <| lw_v (qd ((i : Int) < (xs.length : Int))) (dv_lss (a := (i : Int)) (b := (xs.length : Int)) (T rfl rfl) (T rfl rfl)) <| lw_nil <| rk_join (fun fr wl => ∃ (x : Int), fr 0 = .slice D (ys.length) d ∧ fr 1 = .slice A (xs.length) c ∧ fr 4 = .slice none 0 0 ∧ fr 5 = .slice (some ⟨b2, 0, none⟩) (((ys.length) + 1)) (((ys.length) + 1)) ∧ fr 6 = qu cy ∧ fr 7 = qi (i : Int) ∧ fr 8 = qu x ∧ fr 21 = qi (ys.length : Int) ∧ fr 22 = qi (i : Int) ∧ fr 23 = qd ((i : Int) < (ys.length : Int)) ∧ fr 24 = qi (i : Int) ∧ fr 25 = qi (i : Int) ∧ fr 26 = .slice A (xs.length) c ∧ fr 27 = qi (xs.length : Int) ∧ fr 28 = qd ((i : Int) < (xs.length : Int)) ∧ Below w.heap.size w wl ∧ wl.heap[b2]? = some (.cells (L.map (Value.int .u64)).toArray 23) ∧ (x = xs.getD i 0)) ?_ (fun hj25 => ?_)
     · intro fr26 w23 hI24
       obtain ⟨x, f27, f28, f29, f30, f31, f32, f33, f34, f35, f36, f37, f38, f39, f40, f41, E42, H43, hx0⟩ := hI24
       refine rk_reg <| lw_v (.slice (some ⟨b2, 0, none⟩) (((ys.length) + 1)) (((ys.length) + 1))) (dv_move (T rfl f30)) <| lw_v (qi (i : Int)) (dv_move (T rfl f32)) <| lw_v (.slice D (ys.length) d) (dv_move (T rfl f27)) <| lw_v (qi (i : Int)) (dv_move (T rfl f32)) ?_
       have h44 := (hy.ext E42)
       obtain ⟨g45, o46, rfl⟩ := Wd.at h44 (by omega)
       refine lw_v (.pointer (some ⟨g45, o46 + i, none⟩)) (dv_indexW (g := g45) (o := o46) (l := ys.length) (c := d) (i := i) (j := (i : Int)) us75 sz23 (T rfl rfl) (T rfl rfl) (by omega) (by omega)) <| lw_v (qu (ys.getD i 0)) (dv_load agt23 (T rfl rfl) (Wd.cell h44 (by omega))) <| lw_v (qu x) (dv_move (T rfl f33)) <| lw_v (qu cy) (dv_move (T rfl f31)) <| lw_v (.tuple #[qu (((ys.getD i 0) + x + cy) % 18446744073709551616), qu (((ys.getD i 0) + x + cy) / 18446744073709551616)]) (dv_ext (e := add64Entry) (vs := [qu (ys.getD i 0), qu x, qu cy]) Tryz.func73 rfl rfl (by kernel_rfl) (by kernel_rfl) (ar3 (T rfl rfl) (T rfl rfl) (T rfl rfl)) (run_addE (ys.getD i 0) x cy (by omega) (by omega) (by omega))) <| lw_v (.tuple #[qu (((ys.getD i 0) + x + cy) % 18446744073709551616), qu (((ys.getD i 0) + x + cy) / 18446744073709551616)]) (dv_move (T rfl rfl)) <| lw_v (qu (((ys.getD i 0) + x + cy) % 18446744073709551616)) (dv_extract (vs := #[qu (((ys.getD i 0) + x + cy) % 18446744073709551616), qu (((ys.getD i 0) + x + cy) / 18446744073709551616)]) (T rfl rfl) rfl) <| lw_v (qu (((ys.getD i 0) + x + cy) / 18446744073709551616)) (dv_extract (vs := #[qu (((ys.getD i 0) + x + cy) % 18446744073709551616), qu (((ys.getD i 0) + x + cy) / 18446744073709551616)]) (T rfl rfl) rfl) <| lw_v (.pointer (some ⟨b2, i, none⟩)) (dv_indexO (g := b2) (l := ((ys.length) + 1)) (c := ((ys.length) + 1)) (i := i) (j := (i : Int)) us75 sz23 (T rfl rfl) (T rfl rfl) (by omega) (by omega)) <| lw_e (oe_storeW (L := L) (i := i) (z := ((ys.getD i 0) + x + cy) % 18446744073709551616) sz23 (T rfl rfl) (T rfl rfl) H43 (by omega) ?_)
       intro w47 s48 H49
       have E50 := below_st E42 N5 s48
       refine lw_v (qu (((ys.getD i 0) + x + cy) / 18446744073709551616)) (dv_assign (T rfl rfl)) <| lw_nil <| rk_inBlock <| rk_reg <| lw_v (qi ((i : Int) + 1)) (dv_add (a := (i : Int)) (b := 1) (z := (i : Int) + 1) (T rfl f35) C (wr_i64 (by omega) (by omega))) <| lw_v (qi ((i : Int) + 1)) (dv_move (T rfl rfl)) <| lw_nil ?_
       exact ih9 (ys.length - (i + 1)) _ _ (by rw [hd21]; omega) ⟨(i + 1), (L.set i (((ys.getD i 0) + x + cy) % 18446744073709551616)), (((ys.getD i 0) + x + cy) / 18446744073709551616), rfl, f27, f28, f29, f30, rfl, f34, rfl, E50, H49, (by omega), (by simp [hl]), (okW.set hok (by omega) (by omega) _), (by omega), (add_inv (by omega) hv (by omega))⟩
     · by_cases hb51 : ((i : Int)) < ((xs.length : Int))
       · refine rk_ct (T rfl (qT hb51)) <| rk_reg <| lw_v (.slice A (xs.length) c) (dv_move (T rfl f13)) <| lw_v (qi (i : Int)) (dv_move (T rfl rfl)) ?_
         have h52 := (hx.ext E19)
         obtain ⟨g53, o54, rfl⟩ := Wd.at h52 (by omega)
         refine lw_v (.pointer (some ⟨g53, o54 + i, none⟩)) (dv_indexW (g := g53) (o := o54) (l := xs.length) (c := c) (i := i) (j := (i : Int)) us75 sz23 (T rfl rfl) (T rfl rfl) (by omega) (by omega)) <| lw_v (qu (xs.getD i 0)) (dv_load agt23 (T rfl rfl) (Wd.cell h52 (by omega))) <| lw_v (qu (xs.getD i 0)) (dv_assign (T rfl rfl)) <| lw_nil ?_
         exact hj25 _ _ ⟨xs.getD i 0, f12, f13, f14, f15, f16, rfl, rfl, f17, f18, rfl, rfl, rfl, rfl, rfl, rfl, E19, H20, (by first | rfl | exact (getD_ge _ _ (by omega)).symm)⟩
       · refine rk_cf (T rfl (qF hb51)) <| rk_skip ?_
         exact hj25 _ _ ⟨0, f12, f13, f14, f15, f16, rfl, rfl, f17, f18, rfl, rfl, rfl, rfl, rfl, rfl, E19, H20, (by first | rfl | exact (getD_ge _ _ (by omega)).symm)⟩
   · refine rk_cf (T rfl (qF hb22)) <| rk_exit rfl <| rk_seq <| rk_reg <| lw_v (.slice (some ⟨b2, 0, none⟩) (((ys.length) + 1)) (((ys.length) + 1))) (dv_move (T rfl f15)) <| lw_v (.slice D (ys.length) d) (dv_move (T rfl f12)) <| lw_v (qi (ys.length : Int)) (dv_len (ad := D) (l := ys.length) (c := d) us75 (T rfl rfl)) <| lw_v (qu cy) (dv_move (T rfl f16)) <| lw_v (.pointer (some ⟨b2, ys.length, none⟩)) (dv_indexO (g := b2) (l := ((ys.length) + 1)) (c := ((ys.length) + 1)) (i := ys.length) (j := (ys.length : Int)) us75 sz23 (T rfl rfl) (T rfl rfl) (by omega) (by omega)) <| lw_e (oe_storeW (L := L) (i := ys.length) (z := cy) sz23 (T rfl rfl) (T rfl rfl) H20 (by omega) ?_)
     intro w55 s56 H57
     have E58 := below_st E19 N5 s56
     refine qN <| lw_v (.slice (some ⟨b2, 0, none⟩) (((ys.length) + 1)) (((ys.length) + 1))) (dv_move (T rfl f15)) <| lw_e (oe_callf (vs := [.slice (some ⟨b2, 0, none⟩) (((ys.length) + 1)) (((ys.length) + 1))]) co91 (ar1 (T rfl rfl)) (trim_okl (Wd.ownW H57) (by omega) (by omega) (by first | rfl | first | (simp; done) | (simp; omega) | omega)) ?_)
     rintro _ w59 ⟨rfl, e60⟩
     have E61 := below_ext E58 E58.size e60
     refine lw_v (.slice (some ⟨b2, 0, none⟩) ((trimL (L.set ys.length cy)).length) (((ys.length) + 1))) (dv_assign (T rfl rfl)) <| lw_nil <| rk_ret Tryz.func90 (v := .slice (some ⟨b2, 0, none⟩) ((trimL (L.set ys.length cy)).length) (((ys.length) + 1))) (res1 Tryz.results90 (rv_tmp rfl rfl)) ⟨_, rfl, ?_⟩
     exact ⟨_, _, _, rfl, E61, ⟨trimL ((L.set ys.length cy)), rfl, (by have := trimL_len ((L.set ys.length cy)); simp at this ⊢; omega), (Wd.trim ((Wd.ownW H57).ext e60)), trimL_ok (okW.set hok (by omega) (by omega) _), trimL_canon _, (by rw [trimL_val]; first | exact add_fin (by decide) hl hi (by omega) (by omega) hv | (rw [Int.add_comm]; exact add_fin (by decide) hl hi (by omega) (by omega) hv))⟩⟩
 · refine rk_cf (T rfl (qF hb1)) <| rk_skip <| rk_seq <| rk_reg <| lw_v (.slice A (xs.length) c) (dv_move (T rfl rfl)) <| lw_v (qi (xs.length : Int)) (dv_len (ad := A) (l := xs.length) (c := c) us75 (T rfl rfl)) <| lw_v (qi ((xs.length : Int) + 1)) (dv_add (a := (xs.length : Int)) (b := 1) (z := (xs.length : Int) + 1) (T rfl rfl) C (wr_i64 (by omega) (by omega))) <| lw_e (oe_makeW (l := ((xs.length) + 1)) (j := (xs.length : Int) + 1) us75 in23 (T rfl rfl) (T rfl rfl) (by omega) (by omega) (by omega) ?_)
   intro b62 w63 n64
   have N65 : w.heap.size ≤ b62 := n64.eq ▸ E0.size
   have E66 := below_ext E0 E0.size n64.ext
   refine lw_v (.slice (some ⟨b62, 0, none⟩) (((xs.length) + 1)) (((xs.length) + 1))) (dv_assign (T rfl rfl)) <| lw_v (qu 0) (dv_assign C) <| lw_nil <| rk_seq <| rk_seq <| rk_reg <| lw_v (.slice A (xs.length) c) (dv_move (T rfl rfl)) <| lw_v (qi (xs.length : Int)) (dv_len (ad := A) (l := xs.length) (c := c) us75 (T rfl rfl)) <| lw_v (qi 0) (dv_move C) <| lw_nil <| rk_block ?_
   refine rk_loop (fun dm_ fr wl => ∃ (i : Nat) (L : List Int) (cy : Int), dm_ = xs.length - i ∧ fr 0 = .slice A (xs.length) c ∧ fr 1 = .slice D (ys.length) d ∧ fr 4 = .slice none 0 0 ∧ fr 5 = .slice (some ⟨b62, 0, none⟩) (((xs.length) + 1)) (((xs.length) + 1)) ∧ fr 6 = qu cy ∧ fr 21 = qi (xs.length : Int) ∧ fr 22 = qi (i : Int) ∧ Below w.heap.size w wl ∧ wl.heap[b62]? = some (.cells (L.map (Value.int .u64)).toArray 23) ∧ (i ≤ xs.length) ∧ (L.length = xs.length + 1) ∧ (okW (2 ^ 64) L) ∧ (0 ≤ cy ∧ cy ≤ 1) ∧ (valB (2 ^ 64) (L.take i) + cy * (2 ^ 64) ^ i = valB (2 ^ 64) (xs.take i) + valB (2 ^ 64) (ys.take i))) (xs.length - 0) ⟨0, (List.replicate (((xs.length) + 1)) (0 : Int)), 0, rfl, rfl, rfl, rfl, rfl, rfl, rfl, rfl, E66, n64.blk, (Nat.zero_le _), (by simp), (okW.replicate (by decide) _), (by decide), (by simp [valB])⟩ ?_
   intro d71 fr70 w67 hI68 ih69
   obtain ⟨i, L, cy, hd81, f72, f73, f74, f75, f76, f77, f78, E79, H80, hi, hl, hok, hcy, hv⟩ := hI68
   have bxs := okW.getD ox (by decide) i
   have bys := okW.getD oy (by decide) i
   refine rk_seq <| rk_reg <| lw_v (qd ((i : Int) < (xs.length : Int))) (dv_lss (a := (i : Int)) (b := (xs.length : Int)) (T rfl f78) (T rfl f77)) <| lw_nil <| rk_seq ?_
   by_cases hb82 : ((i : Int)) < ((xs.length : Int))
   · refine rk_ct (T rfl (qT hb82)) <| rk_skip <| rk_seq <| rk_block <| rk_seq <| rk_reg <| lw_v (qi (i : Int)) (dv_move (T rfl f78)) <| lw_v (qi (i : Int)) (dv_assign (T rfl rfl)) <| qN ?_
     refine lw_v (qu 0) (dv_assign C) <| lw_nil <| rk_seq <| rk_seq <| rk_reg <| lw_v (qi (i : Int)) (dv_move (T rfl rfl)) <| lw_v (.slice D (ys.length) d) (dv_move (T rfl f73)) <| lw_v (qi (ys.length : Int)) (dv_len (ad := D) (l := ys.length) (c := d) us75 (T rfl rfl)) <| lw_v (qd ((i : Int) < (ys.length : Int))) (dv_lss (a := (i : Int)) (b := (ys.length : Int)) (T rfl rfl) (T rfl rfl)) <| lw_nil <| rk_join (fun fr wl => ∃ (x : Int), fr 0 = .slice A (xs.length) c ∧ fr 1 = .slice D (ys.length) d ∧ fr 4 = .slice none 0 0 ∧ fr 5 = .slice (some ⟨b62, 0, none⟩) (((xs.length) + 1)) (((xs.length) + 1)) ∧ fr 6 = qu cy ∧ fr 7 = qi (i : Int) ∧ fr 8 = qu x ∧ fr 21 = qi (xs.length : Int) ∧ fr 22 = qi (i : Int) ∧ fr 23 = qd ((i : Int) < (xs.length : Int)) ∧ fr 24 = qi (i : Int) ∧ fr 25 = qi (i : Int) ∧ fr 26 = .slice D (ys.length) d ∧ fr 27 = qi (ys.length : Int) ∧ fr 28 = qd ((i : Int) < (ys.length : Int)) ∧ Below w.heap.size w wl ∧ wl.heap[b62]? = some (.cells (L.map (Value.int .u64)).toArray 23) ∧ (x = ys.getD i 0)) ?_ (fun hj85 => ?_)
     · intro fr86 w83 hI84
       obtain ⟨x, f87, f88, f89, f90, f91, f92, f93, f94, f95, f96, f97, f98, f99, f100, f101, E102, H103, hx0⟩ := hI84
       refine rk_reg <| lw_v (.slice (some ⟨b62, 0, none⟩) (((xs.length) + 1)) (((xs.length) + 1))) (dv_move (T rfl f90)) <| lw_v (qi (i : Int)) (dv_move (T rfl f92)) <| lw_v (.slice A (xs.length) c) (dv_move (T rfl f87)) <| lw_v (qi (i : Int)) (dv_move (T rfl f92)) ?_
       have h104 := (hx.ext E102)
       obtain ⟨g105, o106, rfl⟩ := Wd.at h104 (by omega)
       refine lw_v (.pointer (some ⟨g105, o106 + i, none⟩)) (dv_indexW (g := g105) (o := o106) (l := xs.length) (c := c) (i := i) (j := (i : Int)) us75 sz23 (T rfl rfl) (T rfl rfl) (by omega) (by omega)) <| lw_v (qu (xs.getD i 0)) (dv_load agt23 (T rfl rfl) (Wd.cell h104 (by omega))) <| lw_v (qu x) (dv_move (T rfl f93)) <| lw_v (qu cy) (dv_move (T rfl f91)) <| lw_v (.tuple #[qu (((xs.getD i 0) + x + cy) % 18446744073709551616), qu (((xs.getD i 0) + x + cy) / 18446744073709551616)]) (dv_ext (e := add64Entry) (vs := [qu (xs.getD i 0), qu x, qu cy]) Tryz.func73 rfl rfl (by kernel_rfl) (by kernel_rfl) (ar3 (T rfl rfl) (T rfl rfl) (T rfl rfl)) (run_addE (xs.getD i 0) x cy (by omega) (by omega) (by omega))) <| lw_v (.tuple #[qu (((xs.getD i 0) + x + cy) % 18446744073709551616), qu (((xs.getD i 0) + x + cy) / 18446744073709551616)]) (dv_move (T rfl rfl)) <| lw_v (qu (((xs.getD i 0) + x + cy) % 18446744073709551616)) (dv_extract (vs := #[qu (((xs.getD i 0) + x + cy) % 18446744073709551616), qu (((xs.getD i 0) + x + cy) / 18446744073709551616)]) (T rfl rfl) rfl) <| lw_v (qu (((xs.getD i 0) + x + cy) / 18446744073709551616)) (dv_extract (vs := #[qu (((xs.getD i 0) + x + cy) % 18446744073709551616), qu (((xs.getD i 0) + x + cy) / 18446744073709551616)]) (T rfl rfl) rfl) <| lw_v (.pointer (some ⟨b62, i, none⟩)) (dv_indexO (g := b62) (l := ((xs.length) + 1)) (c := ((xs.length) + 1)) (i := i) (j := (i : Int)) us75 sz23 (T rfl rfl) (T rfl rfl) (by omega) (by omega)) <| lw_e (oe_storeW (L := L) (i := i) (z := ((xs.getD i 0) + x + cy) % 18446744073709551616) sz23 (T rfl rfl) (T rfl rfl) H103 (by omega) ?_)
       intro w107 s108 H109
       have E110 := below_st E102 N65 s108
       refine lw_v (qu (((xs.getD i 0) + x + cy) / 18446744073709551616)) (dv_assign (T rfl rfl)) <| lw_nil <| rk_inBlock <| rk_reg <| lw_v (qi ((i : Int) + 1)) (dv_add (a := (i : Int)) (b := 1) (z := (i : Int) + 1) (T rfl f95) C (wr_i64 (by omega) (by omega))) <| lw_v (qi ((i : Int) + 1)) (dv_move (T rfl rfl)) <| lw_nil ?_
       exact ih69 (xs.length - (i + 1)) _ _ (by rw [hd81]; omega) ⟨(i + 1), (L.set i (((xs.getD i 0) + x + cy) % 18446744073709551616)), (((xs.getD i 0) + x + cy) / 18446744073709551616), rfl, f87, f88, f89, f90, rfl, f94, rfl, E110, H109, (by omega), (by simp [hl]), (okW.set hok (by omega) (by omega) _), (by omega), (add_inv (by omega) hv (by omega))⟩
     · by_cases hb111 : ((i : Int)) < ((ys.length : Int))
       · refine rk_ct (T rfl (qT hb111)) <| rk_reg <| lw_v (.slice D (ys.length) d) (dv_move (T rfl f73)) <| lw_v (qi (i : Int)) (dv_move (T rfl rfl)) ?_
         have h112 := (hy.ext E79)
         obtain ⟨g113, o114, rfl⟩ := Wd.at h112 (by omega)
         refine lw_v (.pointer (some ⟨g113, o114 + i, none⟩)) (dv_indexW (g := g113) (o := o114) (l := ys.length) (c := d) (i := i) (j := (i : Int)) us75 sz23 (T rfl rfl) (T rfl rfl) (by omega) (by omega)) <| lw_v (qu (ys.getD i 0)) (dv_load agt23 (T rfl rfl) (Wd.cell h112 (by omega))) <| lw_v (qu (ys.getD i 0)) (dv_assign (T rfl rfl)) <| lw_nil ?_
         exact hj85 _ _ ⟨ys.getD i 0, f72, f73, f74, f75, f76, rfl, rfl, f77, f78, rfl, rfl, rfl, rfl, rfl, rfl, E79, H80, (by first | rfl | exact (getD_ge _ _ (by omega)).symm)⟩
       · refine rk_cf (T rfl (qF hb111)) <| rk_skip ?_
         exact hj85 _ _ ⟨0, f72, f73, f74, f75, f76, rfl, rfl, f77, f78, rfl, rfl, rfl, rfl, rfl, rfl, E79, H80, (by first | rfl | exact (getD_ge _ _ (by omega)).symm)⟩
   · refine rk_cf (T rfl (qF hb82)) <| rk_exit rfl <| rk_seq <| rk_reg <| lw_v (.slice (some ⟨b62, 0, none⟩) (((xs.length) + 1)) (((xs.length) + 1))) (dv_move (T rfl f75)) <| lw_v (.slice A (xs.length) c) (dv_move (T rfl f72)) <| lw_v (qi (xs.length : Int)) (dv_len (ad := A) (l := xs.length) (c := c) us75 (T rfl rfl)) <| lw_v (qu cy) (dv_move (T rfl f76)) <| lw_v (.pointer (some ⟨b62, xs.length, none⟩)) (dv_indexO (g := b62) (l := ((xs.length) + 1)) (c := ((xs.length) + 1)) (i := xs.length) (j := (xs.length : Int)) us75 sz23 (T rfl rfl) (T rfl rfl) (by omega) (by omega)) <| lw_e (oe_storeW (L := L) (i := xs.length) (z := cy) sz23 (T rfl rfl) (T rfl rfl) H80 (by omega) ?_)
     intro w115 s116 H117
     have E118 := below_st E79 N65 s116
     refine qN <| lw_v (.slice (some ⟨b62, 0, none⟩) (((xs.length) + 1)) (((xs.length) + 1))) (dv_move (T rfl f75)) <| lw_e (oe_callf (vs := [.slice (some ⟨b62, 0, none⟩) (((xs.length) + 1)) (((xs.length) + 1))]) co91 (ar1 (T rfl rfl)) (trim_okl (Wd.ownW H117) (by omega) (by omega) (by first | rfl | first | (simp; done) | (simp; omega) | omega)) ?_)
     rintro _ w119 ⟨rfl, e120⟩
     have E121 := below_ext E118 E118.size e120
     refine lw_v (.slice (some ⟨b62, 0, none⟩) ((trimL (L.set xs.length cy)).length) (((xs.length) + 1))) (dv_assign (T rfl rfl)) <| lw_nil <| rk_ret Tryz.func90 (v := .slice (some ⟨b62, 0, none⟩) ((trimL (L.set xs.length cy)).length) (((xs.length) + 1))) (res1 Tryz.results90 (rv_tmp rfl rfl)) ⟨_, rfl, ?_⟩
     exact ⟨_, _, _, rfl, E121, ⟨trimL ((L.set xs.length cy)), rfl, (by have := trimL_len ((L.set xs.length cy)); simp at this ⊢; omega), (Wd.trim ((Wd.ownW H117).ext e120)), trimL_ok (okW.set hok (by omega) (by omega) _), trimL_canon _, (by rw [trimL_val]; first | exact add_fin (by decide) hl hi (by omega) (by omega) hv | (rw [Int.add_comm]; exact add_fin (by decide) hl hi (by omega) (by omega) hv))⟩⟩
theorem addWords_ws {w : World} {A D : Option Addr} {l c l' d : Nat} {x y : Int} (h : Ws 64 23 .u64 w A l c x) (h' : Ws 64 23 .u64 w D l' d y) (hl : l ≤ 500000) (hl' : l' ≤ 500000) : Ct Tryz.prog 90 [.slice A l c, .slice D l' d] w fun v w1 =>
 ∃ A' n c', v = .slice A' n c' ∧ Ext w w1 ∧ Wc 64 23 .u64 w1 A' n c' (x + y) := by
 obtain ⟨xs, rfl, hc, hw, ho, hv⟩ := h
 obtain ⟨ys, rfl, hc', hw', ho', hv'⟩ := h'
 subst hv; subst hv'
 exact addWords_ok hw hw' hc hc' ho ho' hl hl'
set_option maxHeartbeats 1000000 in
theorem subWords_ok {w : World} {A D : Option Addr} {c d : Nat} {xs ys : List Int} (hx : Wd w 23 .u64 A xs) (hy : Wd w 23 .u64 D ys) (hc : xs.length ≤ c) (hd : ys.length ≤ d) (ox : okW (2 ^ 64) xs) (oy : okW (2 ^ 64) ys) (lx : xs.length ≤ 500000) (ly : ys.length ≤ 500000) (hyx : ys.length ≤ xs.length) (hle : valB (2 ^ 64) ys ≤ valB (2 ^ 64) xs) : Ct Tryz.prog 106 [.slice A (xs.length) c, .slice D (ys.length) d] w fun v w1 => ∃ A' n c', v = .slice A' n c' ∧ Ext w w1 ∧ Wc 64 23 .u64 w1 A' n c' (valB (2 ^ 64) xs - valB (2 ^ 64) ys) := by
 refine ct_run (n := 41) Tryz.func106 rfl Tryz.ntmps106 rfl ?_
 have E0 : Below w.heap.size w w := Below.refl _ _
 refine rk_seq <| rk_reg <| lw_v (.slice none 0 0) (dv_assign C) <| qN <| lw_v (.slice A (xs.length) c) (dv_move (T rfl rfl)) <| lw_v (qi (xs.length : Int)) (dv_len (ad := A) (l := xs.length) (c := c) us75 (T rfl rfl)) <| lw_e (oe_makeW (l := xs.length) (j := (xs.length : Int)) us75 in23 (T rfl rfl) (T rfl rfl) (by omega) (by omega) (by omega) ?_)
 intro b1 w2 n3
 have N4 : w.heap.size ≤ b1 := n3.eq ▸ E0.size
 have E5 := below_ext E0 E0.size n3.ext
 refine lw_v (.slice (some ⟨b1, 0, none⟩) (xs.length) (xs.length)) (dv_assign (T rfl rfl)) <| lw_v (qu 0) (dv_assign C) <| lw_nil <| rk_seq <| rk_seq <| rk_reg <| lw_v (.slice A (xs.length) c) (dv_move (T rfl rfl)) <| lw_v (qi (xs.length : Int)) (dv_len (ad := A) (l := xs.length) (c := c) us75 (T rfl rfl)) <| lw_v (qi 0) (dv_move C) <| lw_nil <| rk_block ?_
 refine rk_loop (fun dm_ fr wl => ∃ (i : Nat) (L : List Int) (cy : Int), dm_ = xs.length - i ∧ fr 0 = .slice A (xs.length) c ∧ fr 1 = .slice D (ys.length) d ∧ fr 4 = .slice none 0 0 ∧ fr 5 = .slice (some ⟨b1, 0, none⟩) (xs.length) (xs.length) ∧ fr 6 = qu cy ∧ fr 13 = qi (xs.length : Int) ∧ fr 14 = qi (i : Int) ∧ Below w.heap.size w wl ∧ wl.heap[b1]? = some (.cells (L.map (Value.int .u64)).toArray 23) ∧ (i ≤ xs.length) ∧ (L.length = xs.length) ∧ (okW (2 ^ 64) L) ∧ (0 ≤ cy ∧ cy ≤ 1) ∧ (valB (2 ^ 64) (L.take i) - cy * (2 ^ 64) ^ i = valB (2 ^ 64) (xs.take i) - valB (2 ^ 64) (ys.take i))) (xs.length - 0) ⟨0, (List.replicate xs.length (0 : Int)), 0, rfl, rfl, rfl, rfl, rfl, rfl, rfl, rfl, E5, n3.blk, (Nat.zero_le _), (by simp), (okW.replicate (by decide) _), (by decide), (by simp [valB])⟩ ?_
 intro d10 fr9 w6 hI7 ih8
 obtain ⟨i, L, cy, hd20, f11, f12, f13, f14, f15, f16, f17, E18, H19, hi, hl, hok, hcy, hv⟩ := hI7
 have bxs := okW.getD ox (by decide) i
 have bys := okW.getD oy (by decide) i
 refine rk_seq <| rk_reg <| lw_v (qd ((i : Int) < (xs.length : Int))) (dv_lss (a := (i : Int)) (b := (xs.length : Int)) (T rfl f17) (T rfl f16)) <| lw_nil <| rk_seq ?_
 by_cases hb21 : ((i : Int)) < ((xs.length : Int))
 · refine rk_ct (T rfl (qT hb21)) <| rk_skip <| rk_seq <| rk_block <| rk_seq <| rk_reg <| lw_v (qi (i : Int)) (dv_move (T rfl f17)) <| lw_v (qi (i : Int)) (dv_assign (T rfl rfl)) <| qN ?_
   refine lw_v (qu 0) (dv_assign C) <| lw_nil <| rk_seq <| rk_seq <| rk_reg <| lw_v (qi (i : Int)) (dv_move (T rfl rfl)) <| lw_v (.slice D (ys.length) d) (dv_move (T rfl f12)) <| lw_v (qi (ys.length : Int)) (dv_len (ad := D) (l := ys.length) (c := d) us75 (T rfl rfl)) <| lw_v (qd ((i : Int) < (ys.length : Int))) (dv_lss (a := (i : Int)) (b := (ys.length : Int)) (T rfl rfl) (T rfl rfl)) <| lw_nil <| rk_join (fun fr wl => ∃ (x : Int), fr 0 = .slice A (xs.length) c ∧ fr 1 = .slice D (ys.length) d ∧ fr 4 = .slice none 0 0 ∧ fr 5 = .slice (some ⟨b1, 0, none⟩) (xs.length) (xs.length) ∧ fr 6 = qu cy ∧ fr 7 = qi (i : Int) ∧ fr 8 = qu x ∧ fr 13 = qi (xs.length : Int) ∧ fr 14 = qi (i : Int) ∧ fr 15 = qd ((i : Int) < (xs.length : Int)) ∧ fr 16 = qi (i : Int) ∧ fr 17 = qi (i : Int) ∧ fr 18 = .slice D (ys.length) d ∧ fr 19 = qi (ys.length : Int) ∧ fr 20 = qd ((i : Int) < (ys.length : Int)) ∧ Below w.heap.size w wl ∧ wl.heap[b1]? = some (.cells (L.map (Value.int .u64)).toArray 23) ∧ (x = ys.getD i 0)) ?_ (fun hj24 => ?_)
   · intro fr25 w22 hI23
     obtain ⟨x, f26, f27, f28, f29, f30, f31, f32, f33, f34, f35, f36, f37, f38, f39, f40, E41, H42, hx0⟩ := hI23
     refine rk_reg <| lw_v (.slice (some ⟨b1, 0, none⟩) (xs.length) (xs.length)) (dv_move (T rfl f29)) <| lw_v (qi (i : Int)) (dv_move (T rfl f31)) <| lw_v (.slice A (xs.length) c) (dv_move (T rfl f26)) <| lw_v (qi (i : Int)) (dv_move (T rfl f31)) ?_
     have h43 := (hx.ext E41)
     obtain ⟨g44, o45, rfl⟩ := Wd.at h43 (by omega)
     refine lw_v (.pointer (some ⟨g44, o45 + i, none⟩)) (dv_indexW (g := g44) (o := o45) (l := xs.length) (c := c) (i := i) (j := (i : Int)) us75 sz23 (T rfl rfl) (T rfl rfl) (by omega) (by omega)) <| lw_v (qu (xs.getD i 0)) (dv_load agt23 (T rfl rfl) (Wd.cell h43 (by omega))) <| lw_v (qu x) (dv_move (T rfl f32)) <| lw_v (qu cy) (dv_move (T rfl f30)) <| lw_v (.tuple #[qu (((xs.getD i 0) - x - cy) % 18446744073709551616), qu (if (xs.getD i 0) < x + cy then 1 else 0)]) (dv_ext (e := subEntry) (vs := [qu (xs.getD i 0), qu x, qu cy]) Tryz.func95 rfl rfl (by kernel_rfl) (by kernel_rfl) (ar3 (T rfl rfl) (T rfl rfl) (T rfl rfl)) (run_subE (xs.getD i 0) x cy (by omega) (by omega) (by omega) (by omega))) <| lw_v (.tuple #[qu (((xs.getD i 0) - x - cy) % 18446744073709551616), qu (if (xs.getD i 0) < x + cy then 1 else 0)]) (dv_move (T rfl rfl)) <| lw_v (qu (((xs.getD i 0) - x - cy) % 18446744073709551616)) (dv_extract (vs := #[qu (((xs.getD i 0) - x - cy) % 18446744073709551616), qu (if (xs.getD i 0) < x + cy then 1 else 0)]) (T rfl rfl) rfl) <| lw_v (qu (if (xs.getD i 0) < x + cy then 1 else 0)) (dv_extract (vs := #[qu (((xs.getD i 0) - x - cy) % 18446744073709551616), qu (if (xs.getD i 0) < x + cy then 1 else 0)]) (T rfl rfl) rfl) <| lw_v (.pointer (some ⟨b1, i, none⟩)) (dv_indexO (g := b1) (l := xs.length) (c := xs.length) (i := i) (j := (i : Int)) us75 sz23 (T rfl rfl) (T rfl rfl) (by omega) (by omega)) <| lw_e (oe_storeW (L := L) (i := i) (z := ((xs.getD i 0) - x - cy) % 18446744073709551616) sz23 (T rfl rfl) (T rfl rfl) H42 (by omega) ?_)
     intro w46 s47 H48
     have E49 := below_st E41 N4 s47
     refine lw_v (qu (if (xs.getD i 0) < x + cy then 1 else 0)) (dv_assign (T rfl rfl)) <| lw_nil <| rk_inBlock <| rk_reg <| lw_v (qi ((i : Int) + 1)) (dv_add (a := (i : Int)) (b := 1) (z := (i : Int) + 1) (T rfl f34) C (wr_i64 (by omega) (by omega))) <| lw_v (qi ((i : Int) + 1)) (dv_move (T rfl rfl)) <| lw_nil ?_
     exact ih8 (xs.length - (i + 1)) _ _ (by rw [hd20]; omega) ⟨(i + 1), (L.set i (((xs.getD i 0) - x - cy) % 18446744073709551616)), (if (xs.getD i 0) < x + cy then 1 else 0), rfl, f26, f27, f28, f29, rfl, f33, rfl, E49, H48, (by omega), (by simp [hl]), (okW.set hok (by omega) (by omega) _), (by split <;> omega), (by subst hx0; exact sub_inv (by decide) (by omega) hv ox oy hcy)⟩
   · by_cases hb50 : ((i : Int)) < ((ys.length : Int))
     · refine rk_ct (T rfl (qT hb50)) <| rk_reg <| lw_v (.slice D (ys.length) d) (dv_move (T rfl f12)) <| lw_v (qi (i : Int)) (dv_move (T rfl rfl)) ?_
       have h51 := (hy.ext E18)
       obtain ⟨g52, o53, rfl⟩ := Wd.at h51 (by omega)
       refine lw_v (.pointer (some ⟨g52, o53 + i, none⟩)) (dv_indexW (g := g52) (o := o53) (l := ys.length) (c := d) (i := i) (j := (i : Int)) us75 sz23 (T rfl rfl) (T rfl rfl) (by omega) (by omega)) <| lw_v (qu (ys.getD i 0)) (dv_load agt23 (T rfl rfl) (Wd.cell h51 (by omega))) <| lw_v (qu (ys.getD i 0)) (dv_assign (T rfl rfl)) <| lw_nil ?_
       exact hj24 _ _ ⟨ys.getD i 0, f11, f12, f13, f14, f15, rfl, rfl, f16, f17, rfl, rfl, rfl, rfl, rfl, rfl, E18, H19, (by first | rfl | exact (getD_ge _ _ (by omega)).symm)⟩
     · refine rk_cf (T rfl (qF hb50)) <| rk_skip ?_
       exact hj24 _ _ ⟨0, f11, f12, f13, f14, f15, rfl, rfl, f16, f17, rfl, rfl, rfl, rfl, rfl, rfl, E18, H19, (by first | rfl | exact (getD_ge _ _ (by omega)).symm)⟩
 · refine rk_cf (T rfl (qF hb21)) <| rk_exit rfl <| rk_seq <| rk_reg <| lw_v (.slice (some ⟨b1, 0, none⟩) (xs.length) (xs.length)) (dv_move (T rfl f14)) <| lw_e (oe_callf (vs := [.slice (some ⟨b1, 0, none⟩) (xs.length) (xs.length)]) co91 (ar1 (T rfl rfl)) (trim_okl (Wd.ownW H19) (by omega) (by omega) (by first | rfl | first | (simp; done) | (simp; omega) | omega)) ?_)
   rintro _ w54 ⟨rfl, e55⟩
   have E56 := below_ext E18 E18.size e55
   refine lw_v (.slice (some ⟨b1, 0, none⟩) ((trimL L).length) (xs.length)) (dv_assign (T rfl rfl)) <| lw_nil <| rk_ret Tryz.func106 (v := .slice (some ⟨b1, 0, none⟩) ((trimL L).length) (xs.length)) (res1 Tryz.results106 (rv_tmp rfl rfl)) ⟨_, rfl, ?_⟩
   exact ⟨_, _, _, rfl, E56, ⟨trimL L, rfl, (by have := trimL_len L; omega), (Wd.trim ((Wd.ownW H19).ext e55)), trimL_ok hok, trimL_canon _, (by rw [trimL_val]; exact sub_fin (by decide) hl hi (by omega) (by omega) hok hcy hle hv)⟩⟩
theorem subWords_ws {w : World} {A D : Option Addr} {l c l' d : Nat} {x y : Int} (h : Wc 64 23 .u64 w A l c x) (h' : Wc 64 23 .u64 w D l' d y) (hl : l ≤ 500000) (hl' : l' ≤ 500000) (hle : y ≤ x) : Ct Tryz.prog 106 [.slice A l c, .slice D l' d] w fun v w1 =>
 ∃ A' n c', v = .slice A' n c' ∧ Ext w w1 ∧ Wc 64 23 .u64 w1 A' n c' (x - y) := by
 obtain ⟨xs, rfl, hc, hw, ho, hk, hv⟩ := h
 obtain ⟨ys, rfl, hc', hw', ho', hk', hv'⟩ := h'
 subst hv; subst hv'
 exact subWords_ok hw hw' hc hc' ho ho' hl hl' (len_le ho ho' hk' hle) hle
set_option maxHeartbeats 1000000 in
theorem whole_ok {w : World} {x : Int} (hx : -9223372036854775808 ≤ x ∧ x ≤ 9223372036854775807) : Ct Tryz.prog 49 [.int .i64 x] w fun v w1 => ∃ nr A' n c', v = .agg #[.bool nr, .slice A' n c'] ∧ Ext w w1 ∧ Num 64 23 .u64 w1 nr A' n c' (x) (64) := by
 refine ct_run (n := 14) Tryz.func49 rfl Tryz.ntmps49 rfl ?_
 have E0 : Below w.heap.size w w := Below.refl _ _
 refine rk_seq <| rk_reg <| lw_e (oe_alloc ze77 ?_)
 intro b1 w2 n3
 have N4 : w.heap.size ≤ b1 := n3.eq ▸ E0.size
 have E5 := below_ext E0 E0.size n3.ext
 refine lw_nil <| rk_seq <| rk_seq <| rk_reg <| lw_v (qi x) (dv_move (T rfl rfl)) <| lw_v (qd (x < 0)) (dv_lss (a := x) (b := 0) (T rfl rfl) C) <| lw_nil ?_
 by_cases hb6 : x < 0
 · refine rk_ct (T rfl (qT hb6)) <| rk_seq <| rk_reg <| lw_v (qi x) (dv_move (T rfl rfl)) <| lw_v (qu ((x) % 18446744073709551616)) (dv_conv (a := x) (z := (x) % 18446744073709551616) ui2 ui23 (T rfl rfl) (wr_u64 _)) <| lw_v (qu ((0 - ((x) % 18446744073709551616)) % 18446744073709551616)) (dv_neg (a := (x) % 18446744073709551616) (z := (0 - ((x) % 18446744073709551616)) % 18446744073709551616) (T rfl rfl) (wr_u64 _)) <| lw_e (oe_buildSlice (pv := [(0, qu ((0 - ((x) % 18446744073709551616)) % 18446744073709551616))]) (init := [qu 0]) (l := [qu ((0 - ((x) % 18446744073709551616)) % 18446744073709551616)]) us75 sz23 rfl rfl zc23 (by kernel_rfl) ⟨rfl, (T rfl rfl), trivial⟩ rfl ?_)
   intro b7 w8 n9
   have N10 : w.heap.size ≤ b7 := n9.eq ▸ E5.size
   have : b1 < b7 := n9.eq ▸ lt_of_blk n3.blk
   have E11 := below_ext E5 E5.size n9.ext
   refine lw_e (oe_callf (vs := [.bool true, .slice (some ⟨b7, 0, none⟩) 1 1]) co71 (ar2 C (T rfl rfl)) (made_num (s := 64) (neg := true) (⟨[(0 - ((x) % 18446744073709551616)) % 18446744073709551616], rfl, Nat.le_refl _, Wd.ownW n9.blk, (okW_lit (by simp <;> omega)), rfl⟩ : Ws _ _ _ _ _ _ _ _) (by first | omega | decide) (valB_sz (m := 64) (xs := [(0 - ((x) % 18446744073709551616)) % 18446744073709551616]) (n := 1) (okW_lit (by simp <;> omega)) rfl)) ?_)
   rintro _ w15 ⟨nb12, n13, rfl, e16, hn14⟩
   have E17 := below_ext E11 E11.size e16
   have lhn14 := Num.len (by decide) hn14
   have H18 := (e16.blk (n9.ext.blk n3.blk))
   refine lw_e (oe_store (v := .agg #[.bool nb12, .slice (some ⟨b7, 0, none⟩) n13 1]) (vs := [.bool nb12, .slice (some ⟨b7, 0, none⟩) n13 1]) (l := [.bool nb12, .slice (some ⟨b7, 0, none⟩) n13 1]) (T rfl rfl) (T rfl rfl) sz77 rfl rfl rfl H18 rfl ?_)
   intro w19 s20 H21
   have E22 := below_st E17 N4 s20
   refine lw_nil <| rk_ret Tryz.func49 (v := .agg #[.bool nb12, .slice (some ⟨b7, 0, none⟩) n13 1]) (res1 Tryz.results49 (rv_cells (l := [.bool nb12, .slice (some ⟨b7, 0, none⟩) n13 1]) agt77 sz77 rfl rfl H21 rfl)) ⟨_, rfl, ?_⟩
   have h23 := (hn14.st s20 H18 (by decide))
   exact ⟨_, _, _, _, rfl, E22, h23.to (by simp only [sg, valB]; simp; omega) (Nat.le_refl _)⟩
 · refine rk_cf (T rfl (qF hb6)) <| rk_skip <| rk_seq <| rk_reg <| lw_v (qi x) (dv_move (T rfl rfl)) <| lw_v (qu ((x) % 18446744073709551616)) (dv_conv (a := x) (z := (x) % 18446744073709551616) ui2 ui23 (T rfl rfl) (wr_u64 _)) <| lw_e (oe_buildSlice (pv := [(0, qu ((x) % 18446744073709551616))]) (init := [qu 0]) (l := [qu ((x) % 18446744073709551616)]) us75 sz23 rfl rfl zc23 (by kernel_rfl) ⟨rfl, (T rfl rfl), trivial⟩ rfl ?_)
   intro b24 w25 n26
   have N27 : w.heap.size ≤ b24 := n26.eq ▸ E5.size
   have : b1 < b24 := n26.eq ▸ lt_of_blk n3.blk
   have E28 := below_ext E5 E5.size n26.ext
   refine lw_e (oe_callf (vs := [.bool false, .slice (some ⟨b24, 0, none⟩) 1 1]) co71 (ar2 C (T rfl rfl)) (made_num (s := 64) (neg := false) (⟨[(x) % 18446744073709551616], rfl, Nat.le_refl _, Wd.ownW n26.blk, (okW_lit (by simp <;> omega)), rfl⟩ : Ws _ _ _ _ _ _ _ _) (by first | omega | decide) (valB_sz (m := 64) (xs := [(x) % 18446744073709551616]) (n := 1) (okW_lit (by simp <;> omega)) rfl)) ?_)
   rintro _ w32 ⟨nb29, n30, rfl, e33, hn31⟩
   have E34 := below_ext E28 E28.size e33
   have lhn31 := Num.len (by decide) hn31
   have H35 := (e33.blk (n26.ext.blk n3.blk))
   refine lw_e (oe_store (v := .agg #[.bool nb29, .slice (some ⟨b24, 0, none⟩) n30 1]) (vs := [.bool nb29, .slice (some ⟨b24, 0, none⟩) n30 1]) (l := [.bool nb29, .slice (some ⟨b24, 0, none⟩) n30 1]) (T rfl rfl) (T rfl rfl) sz77 rfl rfl rfl H35 rfl ?_)
   intro w36 s37 H38
   have E39 := below_st E34 N4 s37
   refine lw_nil <| rk_ret Tryz.func49 (v := .agg #[.bool nb29, .slice (some ⟨b24, 0, none⟩) n30 1]) (res1 Tryz.results49 (rv_cells (l := [.bool nb29, .slice (some ⟨b24, 0, none⟩) n30 1]) agt77 sz77 rfl rfl H38 rfl)) ⟨_, rfl, ?_⟩
   have h40 := (hn31.st s37 H35 (by decide))
   exact ⟨_, _, _, _, rfl, E39, h40.to (by simp only [sg, valB]; simp; omega) (Nat.le_refl _)⟩
set_option maxHeartbeats 1000000 in
theorem nsign_ok {w : World} {na : Bool} {Aa : Option Addr} {la ca : Nat} {x : Int} {sx : Nat} (ha : Num 64 23 .u64 w na Aa la ca x sx) : Ct Tryz.prog 45 [.agg #[.bool na, .slice Aa la ca]] w fun v w1 => v = .int .i64 (sgnI x) ∧ Ext w w1 := by
 refine ct_run (n := 11) Tryz.func45 rfl Tryz.ntmps45 rfl ?_
 have E0 : Below w.heap.size w w := Below.refl _ _
 refine rk_seq <| rk_reg <| lw_e (oe_box (v := .agg #[.bool na, .slice Aa la ca]) (cs := #[.bool na, .slice Aa la ca]) (T rfl rfl) rfl ?_)
 intro b1 w2 n3
 have N4 : w.heap.size ≤ b1 := n3.eq ▸ E0.size
 have E5 := below_ext E0 E0.size n3.ext
 refine lw_v (qi 0) (dv_assign C) <| lw_nil <| rk_seq <| rk_block <| rk_seq <| rk_reg <| lw_v (.pointer (some ⟨b1, 0, none⟩)) (dv_fieldAddr (a := ⟨b1, 0, none⟩) (a' := ⟨b1, 0, none⟩) fo77_0 (T rfl rfl) rfl) <| lw_v (.bool na) (dv_load1 (b := b1) (o := 0) agt4 (T rfl rfl) n3.blk rfl) <| lw_v (.bool na) (dv_assign (T rfl rfl)) <| lw_nil ?_
 rcases Bool.eq_false_or_eq_true (na) with hb6 | hb6
 · refine rk_ct (T rfl (congrArg Value.bool hb6)) <| rk_seq <| rk_reg <| lw_v (qi (-1)) (dv_assign C) <| lw_nil <| rk_ret Tryz.func45 (v := qi (-1)) (res1 Tryz.results45 (rv_tmp rfl rfl)) ⟨_, rfl, ?_⟩
   exact ⟨vi (by have h1 := ha.neg_iff; have h2 := ha.pos_iff; unfold sgnI; simp [*] at *; omega), E5⟩
 · refine rk_cf (T rfl (congrArg Value.bool hb6)) <| rk_seq <| rk_reg <| lw_v (.pointer (some ⟨b1, 1, none⟩)) (dv_fieldAddr (a := ⟨b1, 0, none⟩) (a' := ⟨b1, 1, none⟩) fo77_1 (T rfl rfl) rfl) <| lw_v (.slice Aa la ca) (dv_load1 (b := b1) (o := 1) agt75 (T rfl rfl) n3.blk rfl) <| lw_v (qi (la : Int)) (dv_len (ad := Aa) (l := la) (c := ca) us75 (T rfl rfl)) <| lw_v (qd (0 < (la : Int))) (dv_gtr (a := (la : Int)) (b := 0) (T rfl rfl) C) <| lw_v (qd (0 < (la : Int))) (dv_assign (T rfl rfl)) <| lw_nil ?_
   by_cases hb7 : 0 < ((la : Int))
   · refine rk_ct (T rfl (qT hb7)) <| rk_seq <| rk_reg <| lw_v (qi 1) (dv_assign C) <| lw_nil <| rk_ret Tryz.func45 (v := qi 1) (res1 Tryz.results45 (rv_tmp rfl rfl)) ⟨_, rfl, ?_⟩
     exact ⟨vi (by have h1 := ha.neg_iff; have h2 := ha.pos_iff; unfold sgnI; simp [*] at *; omega), E5⟩
   · refine rk_cf (T rfl (qF hb7)) <| rk_skip <| rk_inBlock <| rk_seq <| rk_reg <| lw_v (qi 0) (dv_assign C) <| lw_nil <| rk_ret Tryz.func45 (v := qi 0) (res1 Tryz.results45 (rv_tmp rfl rfl)) ⟨_, rfl, ?_⟩
     exact ⟨vi (by have h1 := ha.neg_iff; have h2 := ha.pos_iff; unfold sgnI; simp [*] at *; omega), E5⟩
set_option maxHeartbeats 1000000 in
theorem minus_ok {w : World} {na : Bool} {Aa : Option Addr} {la ca : Nat} {x : Int} {sx : Nat} (ha : Num 64 23 .u64 w na Aa la ca x sx) (hs : sx ≤ 500000) : Ct Tryz.prog 97 [.agg #[.bool na, .slice Aa la ca]] w fun v w1 => ∃ nr A' n c', v = .agg #[.bool nr, .slice A' n c'] ∧ Ext w w1 ∧ Num 64 23 .u64 w1 nr A' n c' (-x) (sx) := by
 refine ct_run (n := 9) Tryz.func97 rfl Tryz.ntmps97 rfl ?_
 have E0 : Below w.heap.size w w := Below.refl _ _
 have lha := Num.len (by decide) ha
 refine rk_seq <| rk_reg <| lw_e (oe_box (v := .agg #[.bool na, .slice Aa la ca]) (cs := #[.bool na, .slice Aa la ca]) (T rfl rfl) rfl ?_)
 intro b1 w2 n3
 have N4 : w.heap.size ≤ b1 := n3.eq ▸ E0.size
 have E5 := below_ext E0 E0.size n3.ext
 refine lw_e (oe_alloc ze77 ?_)
 intro b6 w7 n8
 have N9 : w.heap.size ≤ b6 := n8.eq ▸ E5.size
 have : b1 < b6 := n8.eq ▸ lt_of_blk n3.blk
 have E10 := below_ext E5 E5.size n8.ext
 refine qN <| lw_v (.pointer (some ⟨b1, 0, none⟩)) (dv_fieldAddr (a := ⟨b1, 0, none⟩) (a' := ⟨b1, 0, none⟩) fo77_0 (T rfl rfl) rfl) ?_
 have H11 := (n8.ext.blk n3.blk)
 refine lw_v (.bool na) (dv_load1 (b := b1) (o := 0) agt4 (T rfl rfl) H11 rfl) <| lw_v (.bool (!na)) (dv_not (T rfl rfl)) <| lw_v (.pointer (some ⟨b1, 1, none⟩)) (dv_fieldAddr (a := ⟨b1, 0, none⟩) (a' := ⟨b1, 1, none⟩) fo77_1 (T rfl rfl) rfl) <| lw_v (.slice Aa la ca) (dv_load1 (b := b1) (o := 1) agt75 (T rfl rfl) H11 rfl) ?_
 have h12 := ((ha.ext n3.ext).ext n8.ext)
 refine lw_e (oe_callf (vs := [.bool (!na), .slice Aa la ca]) co71 (ar2 (T rfl rfl) (T rfl rfl)) (made_num (s := sx) (neg := !na) h12.wc.ws (by omega) h12.ltI) ?_)
 rintro _ w16 ⟨nb13, n14, rfl, e17, hn15⟩
 have E18 := below_ext E10 E10.size e17
 have lhn15 := Num.len (by decide) hn15
 have H19 := (e17.blk n8.blk)
 refine lw_e (oe_store (v := .agg #[.bool nb13, .slice Aa n14 ca]) (vs := [.bool nb13, .slice Aa n14 ca]) (l := [.bool nb13, .slice Aa n14 ca]) (T rfl rfl) (T rfl rfl) sz77 rfl rfl rfl H19 rfl ?_)
 intro w20 s21 H22
 have E23 := below_st E18 N9 s21
 refine lw_nil <| rk_ret Tryz.func97 (v := .agg #[.bool nb13, .slice Aa n14 ca]) (res1 Tryz.results97 (rv_cells (l := [.bool nb13, .slice Aa n14 ca]) agt77 sz77 rfl rfl H22 rfl)) ⟨_, rfl, ?_⟩
 have h24 := (hn15.st s21 H19 (by decide))
 exact ⟨_, _, _, _, rfl, E23, h24.to (sg_not ha.neg_iff) (Nat.le_refl _)⟩
set_option maxHeartbeats 1000000 in
theorem plus_ok {w : World} {na : Bool} {Aa : Option Addr} {la ca : Nat} {x : Int} {sx : Nat} (ha : Num 64 23 .u64 w na Aa la ca x sx) {nb : Bool} {Ab : Option Addr} {lb cb : Nat} {y : Int} {sy : Nat} (hb : Num 64 23 .u64 w nb Ab lb cb y sy) (hs : sx ≤ 400000) (hs2 : sy ≤ 400000) : Ct Tryz.prog 96 [.agg #[.bool na, .slice Aa la ca], .agg #[.bool nb, .slice Ab lb cb]] w fun v w1 => ∃ nr A' n c', v = .agg #[.bool nr, .slice A' n c'] ∧ Ext w w1 ∧ Num 64 23 .u64 w1 nr A' n c' (x + y) (max sx sy + 1) := by
 refine ct_run (n := 40) Tryz.func96 rfl Tryz.ntmps96 rfl ?_
 have E0 : Below w.heap.size w w := Below.refl _ _
 have lha := Num.len (by decide) ha
 have lhb := Num.len (by decide) hb
 refine rk_seq <| rk_reg <| lw_e (oe_box (v := .agg #[.bool na, .slice Aa la ca]) (cs := #[.bool na, .slice Aa la ca]) (T rfl rfl) rfl ?_)
 intro b1 w2 n3
 have N4 : w.heap.size ≤ b1 := n3.eq ▸ E0.size
 have E5 := below_ext E0 E0.size n3.ext
 refine lw_e (oe_box (v := .agg #[.bool nb, .slice Ab lb cb]) (cs := #[.bool nb, .slice Ab lb cb]) (T rfl rfl) rfl ?_)
 intro b6 w7 n8
 have N9 : w.heap.size ≤ b6 := n8.eq ▸ E5.size
 have : b1 < b6 := n8.eq ▸ lt_of_blk n3.blk
 have E10 := below_ext E5 E5.size n8.ext
 refine lw_e (oe_alloc ze77 ?_)
 intro b11 w12 n13
 have N14 : w.heap.size ≤ b11 := n13.eq ▸ E10.size
 have : b6 < b11 := n13.eq ▸ lt_of_blk n8.blk
 have E15 := below_ext E10 E10.size n13.ext
 refine lw_nil <| rk_seq <| rk_seq <| rk_reg <| lw_v (.pointer (some ⟨b1, 0, none⟩)) (dv_fieldAddr (a := ⟨b1, 0, none⟩) (a' := ⟨b1, 0, none⟩) fo77_0 (T rfl rfl) rfl) ?_
 have H16 := (n13.ext.blk (n8.ext.blk n3.blk))
 refine lw_v (.bool na) (dv_load1 (b := b1) (o := 0) agt4 (T rfl rfl) H16 rfl) <| lw_v (.pointer (some ⟨b6, 0, none⟩)) (dv_fieldAddr (a := ⟨b6, 0, none⟩) (a' := ⟨b6, 0, none⟩) fo77_0 (T rfl rfl) rfl) ?_
 have H17 := (n13.ext.blk n8.blk)
 refine lw_v (.bool nb) (dv_load1 (b := b6) (o := 0) agt4 (T rfl rfl) H17 rfl) <| lw_v (.bool (na == nb)) (dv_eqlb (a := na) (b := nb) ub4 (T rfl rfl) (T rfl rfl)) <| lw_nil ?_
 rcases Bool.eq_false_or_eq_true (na == nb) with hb18 | hb18
 · refine rk_ct (T rfl (congrArg Value.bool hb18)) <| rk_seq <| rk_any (fun w => w.heap[b1]? = some (.cells #[.bool na, .slice Aa la ca] 77) ∧ w.heap[b6]? = some (.cells #[.bool nb, .slice Ab lb cb] 77)) [8] mo ?_
   intro w19 d20
   have E21 := below_ext E15 E15.size d20.ext
   have H22 := (d20.ext.blk H16)
   have H23 := (d20.ext.blk H17)
   refine aw_pure 0 (.pointer (some ⟨b1, 0, none⟩)) rfl (by kernel_rfl) .none ⟨H22, H23⟩ (fun _ => dv_fieldAddr (a := ⟨b1, 0, none⟩) (a' := ⟨b1, 0, none⟩) fo77_0 (T rfl rfl) rfl) <| aw_load 1 (.bool na) rfl (by kernel_rfl) .none ⟨H22, H23⟩ (fun _ s => dv_load1 (b := b1) (o := 0) agt4 (T rfl rfl) s.1 rfl) <| aw_pure 2 (.pointer (some ⟨b1, 1, none⟩)) rfl (by kernel_rfl) .none ⟨H22, H23⟩ (fun _ => dv_fieldAddr (a := ⟨b1, 0, none⟩) (a' := ⟨b1, 1, none⟩) fo77_1 (T rfl rfl) rfl) <| aw_load 3 (.slice Aa la ca) rfl (by kernel_rfl) .none ⟨H22, H23⟩ (fun _ s => dv_load1 (b := b1) (o := 1) agt75 (T rfl rfl) s.1 rfl) <| aw_pure 4 (.pointer (some ⟨b6, 1, none⟩)) rfl (by kernel_rfl) .none ⟨H22, H23⟩ (fun _ => dv_fieldAddr (a := ⟨b6, 0, none⟩) (a' := ⟨b6, 1, none⟩) fo77_1 (T rfl rfl) rfl) <| aw_load 5 (.slice Ab lb cb) rfl (by kernel_rfl) .none ⟨H22, H23⟩ (fun _ s => dv_load1 (b := b6) (o := 1) agt75 (T rfl rfl) s.2 rfl) ?_
   have h24 := ((((ha.ext n3.ext).ext n8.ext).ext n13.ext).ext d20.ext)
   have h25 := ((((hb.ext n3.ext).ext n8.ext).ext n13.ext).ext d20.ext)
   refine aw_one 6 rfl (by kernel_rfl) .none (oe_callf (vs := [.slice Aa la ca, .slice Ab lb cb]) co90 (ar2 (T rfl rfl) (T rfl rfl)) (addWords_ws h24.wc.ws h25.wc.ws (by omega) (by omega)) ?_)
   rintro _ w30 ⟨A26, n27, c28, rfl, e31, h29⟩
   have E32 := below_ext E21 E21.size e31
   have lh29 := Wc.len (by decide) h29 (sz_add h24.ltI h25.ltI)
   have H33 := (e31.blk H22)
   have H34 := (e31.blk H23)
   refine ⟨.inr ⟨H33, H34⟩, ?_⟩
   refine aw_one 7 rfl (by kernel_rfl) .none (oe_callf (vs := [.bool na, .slice A26 n27 c28]) co71 (ar2 (T rfl rfl) (T rfl rfl)) (made_num (s := (max sx sy + 1)) (neg := na) h29.ws (by omega) (sz_add h24.ltI h25.ltI)) ?_)
   rintro _ w38 ⟨nb35, n36, rfl, e39, hn37⟩
   have E40 := below_ext E32 E32.size e39
   have lhn37 := Num.len (by decide) hn37
   have H41 := (e39.blk H33)
   have H42 := (e39.blk H34)
   refine ⟨.inr ⟨H41, H42⟩, ?_⟩
   have H43 := (e39.blk (e31.blk (d20.ext.blk n13.blk)))
   refine aw_one 8 rfl (by kernel_rfl) .none (oe_store (v := .agg #[.bool nb35, .slice A26 n36 c28]) (vs := [.bool nb35, .slice A26 n36 c28]) (l := [.bool nb35, .slice A26 n36 c28]) (T rfl rfl) (T rfl rfl) sz77 rfl rfl rfl H43 rfl ?_)
   intro w44 s45 H46
   have E47 := below_st E40 N14 s45
   refine ⟨.inl rfl, ?_⟩
   refine aw_done (by kernel_rfl) <| rk_ret Tryz.func96 (v := .agg #[.bool nb35, .slice A26 n36 c28]) (res1 Tryz.results96 (rv_cells (l := [.bool nb35, .slice A26 n36 c28]) agt77 sz77 rfl rfl H46 rfl)) ⟨_, rfl, ?_⟩
   have h48 := (hn37.st s45 H43 (by decide))
   exact ⟨_, _, _, _, rfl, E47, h48.to (sg_add ha.neg_iff hb.neg_iff (by assumption)) (Nat.le_refl _)⟩
 · refine rk_cf (T rfl (congrArg Value.bool hb18)) <| rk_skip <| rk_seq <| rk_seq <| rk_reg <| lw_v (.pointer (some ⟨b1, 1, none⟩)) (dv_fieldAddr (a := ⟨b1, 0, none⟩) (a' := ⟨b1, 1, none⟩) fo77_1 (T rfl rfl) rfl) <| lw_v (.slice Aa la ca) (dv_load1 (b := b1) (o := 1) agt75 (T rfl rfl) H16 rfl) <| lw_v (.pointer (some ⟨b6, 1, none⟩)) (dv_fieldAddr (a := ⟨b6, 0, none⟩) (a' := ⟨b6, 1, none⟩) fo77_1 (T rfl rfl) rfl) <| lw_v (.slice Ab lb cb) (dv_load1 (b := b6) (o := 1) agt75 (T rfl rfl) H17 rfl) ?_
   have h49 := (((ha.ext n3.ext).ext n8.ext).ext n13.ext)
   have h50 := (((hb.ext n3.ext).ext n8.ext).ext n13.ext)
   refine lw_e (oe_callf (vs := [.slice Aa la ca, .slice Ab lb cb]) co92 (ar2 (T rfl rfl) (T rfl rfl)) (cmpWords_wc h49.wc h50.wc (by omega) (by omega)) ?_)
   rintro _ w53 ⟨r51, rfl, e54, hr52⟩
   have E55 := below_ext E15 E15.size e54
   have qhr52 := cmpR.ge hr52
   have phr52 := cmpR.eq hr52
   refine lw_v (qd (0 ≤ r51)) (dv_geq (a := r51) (b := 0) (T rfl rfl) C) <| lw_nil ?_
   by_cases hb56 : 0 ≤ r51
   · refine rk_ct (T rfl (qT hb56)) <| rk_seq <| rk_any (fun w => w.heap[b1]? = some (.cells #[.bool na, .slice Aa la ca] 77) ∧ w.heap[b6]? = some (.cells #[.bool nb, .slice Ab lb cb] 77)) [8] mo ?_
     intro w57 d58
     have E59 := below_ext E55 E55.size d58.ext
     have H60 := (d58.ext.blk (e54.blk H16))
     have H61 := (d58.ext.blk (e54.blk H17))
     refine aw_pure 0 (.pointer (some ⟨b1, 0, none⟩)) rfl (by kernel_rfl) .none ⟨H60, H61⟩ (fun _ => dv_fieldAddr (a := ⟨b1, 0, none⟩) (a' := ⟨b1, 0, none⟩) fo77_0 (T rfl rfl) rfl) <| aw_load 1 (.bool na) rfl (by kernel_rfl) .none ⟨H60, H61⟩ (fun _ s => dv_load1 (b := b1) (o := 0) agt4 (T rfl rfl) s.1 rfl) <| aw_pure 2 (.pointer (some ⟨b1, 1, none⟩)) rfl (by kernel_rfl) .none ⟨H60, H61⟩ (fun _ => dv_fieldAddr (a := ⟨b1, 0, none⟩) (a' := ⟨b1, 1, none⟩) fo77_1 (T rfl rfl) rfl) <| aw_load 3 (.slice Aa la ca) rfl (by kernel_rfl) .none ⟨H60, H61⟩ (fun _ s => dv_load1 (b := b1) (o := 1) agt75 (T rfl rfl) s.1 rfl) <| aw_pure 4 (.pointer (some ⟨b6, 1, none⟩)) rfl (by kernel_rfl) .none ⟨H60, H61⟩ (fun _ => dv_fieldAddr (a := ⟨b6, 0, none⟩) (a' := ⟨b6, 1, none⟩) fo77_1 (T rfl rfl) rfl) <| aw_load 5 (.slice Ab lb cb) rfl (by kernel_rfl) .none ⟨H60, H61⟩ (fun _ s => dv_load1 (b := b6) (o := 1) agt75 (T rfl rfl) s.2 rfl) ?_
     have h62 := ((h49.ext e54).ext d58.ext)
     have h63 := ((h50.ext e54).ext d58.ext)
     refine aw_one 6 rfl (by kernel_rfl) .none (oe_callf (vs := [.slice Aa la ca, .slice Ab lb cb]) co106 (ar2 (T rfl rfl) (T rfl rfl)) (subWords_ws h62.wc h63.wc (by omega) (by omega) (by omega)) ?_)
     rintro _ w68 ⟨A64, n65, c66, rfl, e69, h67⟩
     have E70 := below_ext E59 E59.size e69
     have lh67 := Wc.len (by decide) h67 (sz_sub h62.ltI h63.wc.nonneg)
     have H71 := (e69.blk H60)
     have H72 := (e69.blk H61)
     refine ⟨.inr ⟨H71, H72⟩, ?_⟩
     refine aw_one 7 rfl (by kernel_rfl) .none (oe_callf (vs := [.bool na, .slice A64 n65 c66]) co71 (ar2 (T rfl rfl) (T rfl rfl)) (made_num (s := sx) (neg := na) h67.ws (by omega) (sz_sub h62.ltI h63.wc.nonneg)) ?_)
     rintro _ w76 ⟨nb73, n74, rfl, e77, hn75⟩
     have E78 := below_ext E70 E70.size e77
     have lhn75 := Num.len (by decide) hn75
     have H79 := (e77.blk H71)
     have H80 := (e77.blk H72)
     refine ⟨.inr ⟨H79, H80⟩, ?_⟩
     have H81 := (e77.blk (e69.blk (d58.ext.blk (e54.blk n13.blk))))
     refine aw_one 8 rfl (by kernel_rfl) .none (oe_store (v := .agg #[.bool nb73, .slice A64 n74 c66]) (vs := [.bool nb73, .slice A64 n74 c66]) (l := [.bool nb73, .slice A64 n74 c66]) (T rfl rfl) (T rfl rfl) sz77 rfl rfl rfl H81 rfl ?_)
     intro w82 s83 H84
     have E85 := below_st E78 N14 s83
     refine ⟨.inl rfl, ?_⟩
     refine aw_done (by kernel_rfl) <| rk_ret Tryz.func96 (v := .agg #[.bool nb73, .slice A64 n74 c66]) (res1 Tryz.results96 (rv_cells (l := [.bool nb73, .slice A64 n74 c66]) agt77 sz77 rfl rfl H84 rfl)) ⟨_, rfl, ?_⟩
     have h86 := (hn75.st s83 H81 (by decide))
     exact ⟨_, _, _, _, rfl, E85, h86.to (sg_sub ha.neg_iff hb.neg_iff (by assumption)) (by omega)⟩
   · refine rk_cf (T rfl (qF hb56)) <| rk_skip <| rk_seq <| rk_any (fun w => w.heap[b6]? = some (.cells #[.bool nb, .slice Ab lb cb] 77) ∧ w.heap[b1]? = some (.cells #[.bool na, .slice Aa la ca] 77)) [8] mo ?_
     intro w87 d88
     have E89 := below_ext E55 E55.size d88.ext
     have H90 := (d88.ext.blk (e54.blk H17))
     have H91 := (d88.ext.blk (e54.blk H16))
     refine aw_pure 0 (.pointer (some ⟨b6, 0, none⟩)) rfl (by kernel_rfl) .none ⟨H90, H91⟩ (fun _ => dv_fieldAddr (a := ⟨b6, 0, none⟩) (a' := ⟨b6, 0, none⟩) fo77_0 (T rfl rfl) rfl) <| aw_load 1 (.bool nb) rfl (by kernel_rfl) .none ⟨H90, H91⟩ (fun _ s => dv_load1 (b := b6) (o := 0) agt4 (T rfl rfl) s.1 rfl) <| aw_pure 2 (.pointer (some ⟨b6, 1, none⟩)) rfl (by kernel_rfl) .none ⟨H90, H91⟩ (fun _ => dv_fieldAddr (a := ⟨b6, 0, none⟩) (a' := ⟨b6, 1, none⟩) fo77_1 (T rfl rfl) rfl) <| aw_load 3 (.slice Ab lb cb) rfl (by kernel_rfl) .none ⟨H90, H91⟩ (fun _ s => dv_load1 (b := b6) (o := 1) agt75 (T rfl rfl) s.1 rfl) <| aw_pure 4 (.pointer (some ⟨b1, 1, none⟩)) rfl (by kernel_rfl) .none ⟨H90, H91⟩ (fun _ => dv_fieldAddr (a := ⟨b1, 0, none⟩) (a' := ⟨b1, 1, none⟩) fo77_1 (T rfl rfl) rfl) <| aw_load 5 (.slice Aa la ca) rfl (by kernel_rfl) .none ⟨H90, H91⟩ (fun _ s => dv_load1 (b := b1) (o := 1) agt75 (T rfl rfl) s.2 rfl) ?_
     have h92 := ((h50.ext e54).ext d88.ext)
     have h93 := ((h49.ext e54).ext d88.ext)
     refine aw_one 6 rfl (by kernel_rfl) .none (oe_callf (vs := [.slice Ab lb cb, .slice Aa la ca]) co106 (ar2 (T rfl rfl) (T rfl rfl)) (subWords_ws h92.wc h93.wc (by omega) (by omega) (by omega)) ?_)
     rintro _ w98 ⟨A94, n95, c96, rfl, e99, h97⟩
     have E100 := below_ext E89 E89.size e99
     have lh97 := Wc.len (by decide) h97 (sz_sub h92.ltI h93.wc.nonneg)
     have H101 := (e99.blk H90)
     have H102 := (e99.blk H91)
     refine ⟨.inr ⟨H101, H102⟩, ?_⟩
     refine aw_one 7 rfl (by kernel_rfl) .none (oe_callf (vs := [.bool nb, .slice A94 n95 c96]) co71 (ar2 (T rfl rfl) (T rfl rfl)) (made_num (s := sy) (neg := nb) h97.ws (by omega) (sz_sub h92.ltI h93.wc.nonneg)) ?_)
     rintro _ w106 ⟨nb103, n104, rfl, e107, hn105⟩
     have E108 := below_ext E100 E100.size e107
     have lhn105 := Num.len (by decide) hn105
     have H109 := (e107.blk H101)
     have H110 := (e107.blk H102)
     refine ⟨.inr ⟨H109, H110⟩, ?_⟩
     have H111 := (e107.blk (e99.blk (d88.ext.blk (e54.blk n13.blk))))
     refine aw_one 8 rfl (by kernel_rfl) .none (oe_store (v := .agg #[.bool nb103, .slice A94 n104 c96]) (vs := [.bool nb103, .slice A94 n104 c96]) (l := [.bool nb103, .slice A94 n104 c96]) (T rfl rfl) (T rfl rfl) sz77 rfl rfl rfl H111 rfl ?_)
     intro w112 s113 H114
     have E115 := below_st E108 N14 s113
     refine ⟨.inl rfl, ?_⟩
     refine aw_done (by kernel_rfl) <| rk_ret Tryz.func96 (v := .agg #[.bool nb103, .slice A94 n104 c96]) (res1 Tryz.results96 (rv_cells (l := [.bool nb103, .slice A94 n104 c96]) agt77 sz77 rfl rfl H114 rfl)) ⟨_, rfl, ?_⟩
     have h116 := (hn105.st s113 H111 (by decide))
     exact ⟨_, _, _, _, rfl, E115, h116.to (sg_sub' ha.neg_iff hb.neg_iff (by assumption)) (by omega)⟩
set_option maxHeartbeats 1000000 in
theorem less_ok {w : World} {na : Bool} {Aa : Option Addr} {la ca : Nat} {x : Int} {sx : Nat} (ha : Num 64 23 .u64 w na Aa la ca x sx) {nb : Bool} {Ab : Option Addr} {lb cb : Nat} {y : Int} {sy : Nat} (hb : Num 64 23 .u64 w nb Ab lb cb y sy) (hs : sx ≤ 400000) (hs2 : sy ≤ 400000) : Ct Tryz.prog 70 [.agg #[.bool na, .slice Aa la ca], .agg #[.bool nb, .slice Ab lb cb]] w fun v w1 => ∃ nr A' n c', v = .agg #[.bool nr, .slice A' n c'] ∧ Ext w w1 ∧ Num 64 23 .u64 w1 nr A' n c' (x - y) (max sx sy + 1) := by
 refine ct_run (n := 9) Tryz.func70 rfl Tryz.ntmps70 rfl ?_
 have E0 : Below w.heap.size w w := Below.refl _ _
 refine rk_seq <| rk_reg <| lw_e (oe_box (v := .agg #[.bool na, .slice Aa la ca]) (cs := #[.bool na, .slice Aa la ca]) (T rfl rfl) rfl ?_)
 intro b1 w2 n3
 have N4 : w.heap.size ≤ b1 := n3.eq ▸ E0.size
 have E5 := below_ext E0 E0.size n3.ext
 refine lw_e (oe_box (v := .agg #[.bool nb, .slice Ab lb cb]) (cs := #[.bool nb, .slice Ab lb cb]) (T rfl rfl) rfl ?_)
 intro b6 w7 n8
 have N9 : w.heap.size ≤ b6 := n8.eq ▸ E5.size
 have : b1 < b6 := n8.eq ▸ lt_of_blk n3.blk
 have E10 := below_ext E5 E5.size n8.ext
 refine lw_e (oe_alloc ze77 ?_)
 intro b11 w12 n13
 have N14 : w.heap.size ≤ b11 := n13.eq ▸ E10.size
 have : b6 < b11 := n13.eq ▸ lt_of_blk n8.blk
 have E15 := below_ext E10 E10.size n13.ext
 refine lw_nil <| rk_seq <| rk_any (fun w => w.heap[b1]? = some (.cells #[.bool na, .slice Aa la ca] 77) ∧ w.heap[b6]? = some (.cells #[.bool nb, .slice Ab lb cb] 77)) [4] mo ?_
 intro w16 d17
 have E18 := below_ext E15 E15.size d17.ext
 have H19 := (d17.ext.blk (n13.ext.blk (n8.ext.blk n3.blk)))
 have H20 := (d17.ext.blk (n13.ext.blk n8.blk))
 refine aw_load 0 (.agg #[.bool na, .slice Aa la ca]) rfl (by kernel_rfl) .none ⟨H19, H20⟩ (fun _ s => dv_loads (l := [.bool na, .slice Aa la ca]) agt77 sz77 (T rfl rfl) s.1 rfl) <| aw_load 1 (.agg #[.bool nb, .slice Ab lb cb]) rfl (by kernel_rfl) .none ⟨H19, H20⟩ (fun _ s => dv_loads (l := [.bool nb, .slice Ab lb cb]) agt77 sz77 (T rfl rfl) s.2 rfl) ?_
 have h21 := ((((hb.ext n3.ext).ext n8.ext).ext n13.ext).ext d17.ext)
 refine aw_one 2 rfl (by kernel_rfl) .none (oe_callf (vs := [.agg #[.bool nb, .slice Ab lb cb]]) co97 (ar1 (T rfl rfl)) (minus_ok h21 (by first | decide | omega)) ?_)
 rintro _ w27 ⟨nr22, A23, n24, c25, rfl, e28, h26⟩
 have E29 := below_ext E18 E18.size e28
 have lh26 := Num.len (by decide) h26
 have H30 := (e28.blk H19)
 have H31 := (e28.blk H20)
 refine ⟨.inr ⟨H30, H31⟩, ?_⟩
 have h32 := (((((ha.ext n3.ext).ext n8.ext).ext n13.ext).ext d17.ext).ext e28)
 refine aw_one 3 rfl (by kernel_rfl) .none (oe_callf (vs := [.agg #[.bool na, .slice Aa la ca], .agg #[.bool nr22, .slice A23 n24 c25]]) co96 (ar2 (T rfl rfl) (T rfl rfl)) (plus_ok h32 h26 (by first | decide | omega) (by first | decide | omega)) ?_)
 rintro _ w38 ⟨nr33, A34, n35, c36, rfl, e39, h37⟩
 have E40 := below_ext E29 E29.size e39
 have lh37 := Num.len (by decide) h37
 have H41 := (e39.blk H30)
 have H42 := (e39.blk H31)
 refine ⟨.inr ⟨H41, H42⟩, ?_⟩
 have H43 := (e39.blk (e28.blk (d17.ext.blk n13.blk)))
 refine aw_one 4 rfl (by kernel_rfl) .none (oe_store (v := .agg #[.bool nr33, .slice A34 n35 c36]) (vs := [.bool nr33, .slice A34 n35 c36]) (l := [.bool nr33, .slice A34 n35 c36]) (T rfl rfl) (T rfl rfl) sz77 rfl rfl rfl H43 rfl ?_)
 intro w44 s45 H46
 have E47 := below_st E40 N14 s45
 refine ⟨.inl rfl, ?_⟩
 refine aw_done (by kernel_rfl) <| rk_ret Tryz.func70 (v := .agg #[.bool nr33, .slice A34 n35 c36]) (res1 Tryz.results70 (rv_cells (l := [.bool nr33, .slice A34 n35 c36]) agt77 sz77 rfl rfl H46 rfl)) ⟨_, rfl, ?_⟩
 have h48 := (h37.st s45 H43 (by decide))
 exact ⟨_, _, _, _, rfl, E47, h48.to (by omega) (by omega)⟩
set_option maxHeartbeats 1000000 in
theorem ncmp_ok {w : World} {na : Bool} {Aa : Option Addr} {la ca : Nat} {x : Int} {sx : Nat} (ha : Num 64 23 .u64 w na Aa la ca x sx) {nb : Bool} {Ab : Option Addr} {lb cb : Nat} {y : Int} {sy : Nat} (hb : Num 64 23 .u64 w nb Ab lb cb y sy) (hs : sx ≤ 400000) (hs2 : sy ≤ 400000) : Ct Tryz.prog 48 [.agg #[.bool na, .slice Aa la ca], .agg #[.bool nb, .slice Ab lb cb]] w fun v w1 => v = .int .i64 (sgnI (x - y)) ∧ Ext w w1 := by
 refine ct_run (n := 9) Tryz.func48 rfl Tryz.ntmps48 rfl ?_
 have E0 : Below w.heap.size w w := Below.refl _ _
 refine rk_seq <| rk_reg <| lw_e (oe_box (v := .agg #[.bool na, .slice Aa la ca]) (cs := #[.bool na, .slice Aa la ca]) (T rfl rfl) rfl ?_)
 intro b1 w2 n3
 have N4 : w.heap.size ≤ b1 := n3.eq ▸ E0.size
 have E5 := below_ext E0 E0.size n3.ext
 refine lw_e (oe_box (v := .agg #[.bool nb, .slice Ab lb cb]) (cs := #[.bool nb, .slice Ab lb cb]) (T rfl rfl) rfl ?_)
 intro b6 w7 n8
 have N9 : w.heap.size ≤ b6 := n8.eq ▸ E5.size
 have : b1 < b6 := n8.eq ▸ lt_of_blk n3.blk
 have E10 := below_ext E5 E5.size n8.ext
 refine lw_v (qi 0) (dv_assign C) <| qN ?_
 have H11 := (n8.ext.blk n3.blk)
 refine lw_v (.agg #[.bool na, .slice Aa la ca]) (dv_loads (l := [.bool na, .slice Aa la ca]) agt77 sz77 (T rfl rfl) H11 rfl) <| lw_v (.agg #[.bool nb, .slice Ab lb cb]) (dv_loads (l := [.bool nb, .slice Ab lb cb]) agt77 sz77 (T rfl rfl) n8.blk rfl) ?_
 have h12 := ((ha.ext n3.ext).ext n8.ext)
 have h13 := ((hb.ext n3.ext).ext n8.ext)
 refine lw_e (oe_callf (vs := [.agg #[.bool na, .slice Aa la ca], .agg #[.bool nb, .slice Ab lb cb]]) co70 (ar2 (T rfl rfl) (T rfl rfl)) (less_ok h12 h13 (by first | decide | omega) (by first | decide | omega)) ?_)
 rintro _ w19 ⟨nr14, A15, n16, c17, rfl, e20, h18⟩
 have E21 := below_ext E10 E10.size e20
 have lh18 := Num.len (by decide) h18
 refine lw_e (oe_callf (vs := [.agg #[.bool nr14, .slice A15 n16 c17]]) co45 (ar1 (T rfl rfl)) (nsign_ok h18 ) ?_)
 rintro _ w22 ⟨rfl, e23⟩
 have E24 := below_ext E21 E21.size e23
 refine lw_v (qi (sgnI (x - y))) (dv_assign (T rfl rfl)) <| lw_nil <| rk_ret Tryz.func48 (v := qi (sgnI (x - y))) (res1 Tryz.results48 (rv_tmp rfl rfl)) ⟨_, rfl, ?_⟩
 exact ⟨rfl, E24⟩
end Go.Proofs.YtmbpomcbdopgnaaGreat.W
set_option linter.unusedVariables false
set_option linter.unusedSimpArgs false
namespace Go.Proofs.YtmbpomcbdopgnaaGreat.W
open Go Go.RowKit Go.Proofs.YtmbpomcbdopgnaaGreat.Fw
attribute [local irreducible] RunK LW AW DV OE Ct
theorem fo33_0 : fieldOffB Tryz.prog 33 0 = some 0 := by kernel_rfl
theorem fo33_1 : fieldOffB Tryz.prog 33 1 = some 1 := by kernel_rfl
theorem fo33_2 : fieldOffB Tryz.prog 33 2 = some 2 := by kernel_rfl
theorem fo33_3 : fieldOffB Tryz.prog 33 3 = some 3 := by kernel_rfl
set_option maxHeartbeats 1000000 in
theorem wnum_ok {w : World} {a3 a2 a1 a0 : Int} (h3 : 0 ≤ a3 ∧ a3 < 18446744073709551616) (h2 : 0 ≤ a2 ∧ a2 < 18446744073709551616) (h1 : 0 ≤ a1 ∧ a1 < 18446744073709551616) (h0 : 0 ≤ a0 ∧ a0 < 18446744073709551616) : Ct Tryz.prog 66 [.agg #[.int .u64 a3, .int .u64 a2, .int .u64 a1, .int .u64 a0]] w fun v w1 => ∃ nr A' n c', v = .agg #[.bool nr, .slice A' n c'] ∧ Ext w w1 ∧ Num 64 23 .u64 w1 nr A' n c' (wz a3 a2 a1 a0) (256) := by
 refine ct_run (n := 39) Tryz.func66 rfl Tryz.ntmps66 rfl ?_
 have E0 : Below w.heap.size w w := Below.refl _ _
 refine rk_seq <| rk_reg <| lw_e (oe_box (v := .agg #[qu a3, qu a2, qu a1, qu a0]) (cs := #[qu a3, qu a2, qu a1, qu a0]) (T rfl rfl) rfl ?_)
 intro b1 w2 n3
 have N4 : w.heap.size ≤ b1 := n3.eq ▸ E0.size
 have E5 := below_ext E0 E0.size n3.ext
 refine lw_e (oe_alloc ze77 ?_)
 intro b6 w7 n8
 have N9 : w.heap.size ≤ b6 := n8.eq ▸ E5.size
 have : b1 < b6 := n8.eq ▸ lt_of_blk n3.blk
 have E10 := below_ext E5 E5.size n8.ext
 refine qN <| lw_v (.pointer (some ⟨b1, 3, none⟩)) (dv_fieldAddr (a := ⟨b1, 0, none⟩) (a' := ⟨b1, 3, none⟩) fo33_3 (T rfl rfl) rfl) ?_
 have H11 := (n8.ext.blk n3.blk)
 refine lw_v (qu a0) (dv_load1 (b := b1) (o := 3) agt23 (T rfl rfl) H11 rfl) <| lw_v (.pointer (some ⟨b1, 2, none⟩)) (dv_fieldAddr (a := ⟨b1, 0, none⟩) (a' := ⟨b1, 2, none⟩) fo33_2 (T rfl rfl) rfl) <| lw_v (qu a1) (dv_load1 (b := b1) (o := 2) agt23 (T rfl rfl) H11 rfl) <| lw_v (.pointer (some ⟨b1, 1, none⟩)) (dv_fieldAddr (a := ⟨b1, 0, none⟩) (a' := ⟨b1, 1, none⟩) fo33_1 (T rfl rfl) rfl) <| lw_v (qu a2) (dv_load1 (b := b1) (o := 1) agt23 (T rfl rfl) H11 rfl) <| lw_v (.pointer (some ⟨b1, 0, none⟩)) (dv_fieldAddr (a := ⟨b1, 0, none⟩) (a' := ⟨b1, 0, none⟩) fo33_0 (T rfl rfl) rfl) <| lw_v (qu a3) (dv_load1 (b := b1) (o := 0) agt23 (T rfl rfl) H11 rfl) <| lw_e (oe_buildSlice (pv := [(0, qu a0), (1, qu a1), (2, qu a2), (3, qu a3)]) (init := [qu 0, qu 0, qu 0, qu 0]) (l := [qu a0, qu a1, qu a2, qu a3]) us75 sz23 rfl rfl zc23 (by kernel_rfl) ⟨rfl, (T rfl rfl), ⟨rfl, (T rfl rfl), ⟨rfl, (T rfl rfl), ⟨rfl, (T rfl rfl), trivial⟩⟩⟩⟩ rfl ?_)
 intro b12 w13 n14
 have N15 : w.heap.size ≤ b12 := n14.eq ▸ E10.size
 have : b6 < b12 := n14.eq ▸ lt_of_blk n8.blk
 have E16 := below_ext E10 E10.size n14.ext
 refine lw_v (.slice (some ⟨b12, 0, none⟩) 4 4) (dv_assign (T rfl rfl)) <| lw_nil <| rk_seq <| rk_seq <| rk_reg <| lw_v (.pointer (some ⟨b1, 0, none⟩)) (dv_fieldAddr (a := ⟨b1, 0, none⟩) (a' := ⟨b1, 0, none⟩) fo33_0 (T rfl rfl) rfl) ?_
 have H17 := (n14.ext.blk H11)
 refine lw_v (qu a3) (dv_load1 (b := b1) (o := 0) agt23 (T rfl rfl) H17 rfl) <| lw_v (qu (a3 / 9223372036854775808)) (dv_shr (a := a3) (b := 63) (z := a3 / 9223372036854775808) (T rfl rfl) C (by decide) (shr_c (n := 63) (by omega) (by decide))) <| lw_v (qd ((a3 / 9223372036854775808) = 0)) (dv_eql (a := a3 / 9223372036854775808) (b := 0) (T rfl rfl) C) <| lw_nil ?_
 by_cases hb18 : (a3 / 9223372036854775808) = 0
 · refine rk_ct (T rfl (qT hb18)) <| rk_seq <| rk_reg <| lw_v (.slice (some ⟨b12, 0, none⟩) 4 4) (dv_move (T rfl rfl)) <| lw_e (oe_callf (vs := [.bool false, .slice (some ⟨b12, 0, none⟩) 4 4]) co71 (ar2 C (T rfl rfl)) (made_num (s := 256) (neg := false) (⟨[a0, a1, a2, a3], rfl, Nat.le_refl _, Wd.ownW n14.blk, (okW_lit (by simp <;> omega)), rfl⟩ : Ws _ _ _ _ _ _ _ _) (by omega) (valB_sz (m := 64) (xs := [a0, a1, a2, a3]) (n := 4) (okW_lit (by simp <;> omega)) rfl)) ?_)
   rintro _ w22 ⟨nb19, n20, rfl, e23, hn21⟩
   have E24 := below_ext E16 E16.size e23
   have lhn21 := Num.len (by decide) hn21
   have H25 := (e23.blk (n14.ext.blk n8.blk))
   refine lw_e (oe_store (v := .agg #[.bool nb19, .slice (some ⟨b12, 0, none⟩) n20 4]) (vs := [.bool nb19, .slice (some ⟨b12, 0, none⟩) n20 4]) (l := [.bool nb19, .slice (some ⟨b12, 0, none⟩) n20 4]) (T rfl rfl) (T rfl rfl) sz77 rfl rfl rfl H25 rfl ?_)
   intro w26 s27 H28
   have E29 := below_st E24 N9 s27
   refine lw_nil <| rk_ret Tryz.func66 (v := .agg #[.bool nb19, .slice (some ⟨b12, 0, none⟩) n20 4]) (res1 Tryz.results66 (rv_cells (l := [.bool nb19, .slice (some ⟨b12, 0, none⟩) n20 4]) agt77 sz77 rfl rfl H28 rfl)) ⟨_, rfl, ?_⟩
   have h30 := (hn21.st s27 H25 (by decide))
   exact ⟨_, _, _, _, rfl, E29, h30.tight (wz_lo (by assumption)) (wz_lt h3 h2 h1 h0)⟩
 · refine rk_cf (T rfl (qF hb18)) <| rk_skip <| rk_seq <| rk_seq <| rk_reg <| lw_v (.slice (some ⟨b12, 0, none⟩) 4 4) (dv_move (T rfl rfl)) <| lw_v (qi 4) (dv_len (ad := some ⟨b12, 0, none⟩) (l := 4) (c := 4) us75 (T rfl rfl)) <| lw_v (qi 0) (dv_move C) <| lw_nil <| rk_block <| rk_unroll ?_
   refine rk_seq <| rk_reg <| lw_v (qd (((0 : Int) < 4 : Prop))) (dv_lss (a := 0) (b := 4) (T rfl rfl) (T rfl rfl)) <| lw_nil <| rk_seq <| rk_ct (T rfl (rfl)) <| rk_skip <| rk_seq <| rk_block <| rk_seq <| rk_reg ?_
   refine lw_v (qi 0) (dv_move (T rfl rfl)) <| lw_v (qi 0) (dv_assign (T rfl rfl)) <| lw_nil <| rk_reg <| lw_v (.slice (some ⟨b12, 0, none⟩) 4 4) (dv_move (T rfl rfl)) <| lw_v (qi 0) (dv_move (T rfl rfl)) <| lw_v (.slice (some ⟨b12, 0, none⟩) 4 4) (dv_move (T rfl rfl)) <| lw_v (qi 0) (dv_move (T rfl rfl)) <| lw_v (.pointer (some ⟨b12, 0, none⟩)) (dv_indexAddr (a := ⟨b12, 0, none⟩) (a' := ⟨b12, 0, none⟩) (l := 4) (c := 4) (j := 0) us75 sz23 (T rfl rfl) (T rfl rfl) (by decide) (by decide) rfl) <| lw_v (qu a0) (dv_load1 (b := b12) (o := 0) agt23 (T rfl rfl) n14.blk rfl) <| lw_v (qu (18446744073709551615 - a0)) (dv_xor (a := a0) (z := 18446744073709551615 - a0) (T rfl rfl) (xor_u64 (by omega) (by omega))) ?_
   refine lw_v (.pointer (some ⟨b12, 0, none⟩)) (dv_indexAddr (a := ⟨b12, 0, none⟩) (a' := ⟨b12, 0, none⟩) (l := 4) (c := 4) (j := 0) us75 sz23 (T rfl rfl) (T rfl rfl) (by decide) (by decide) rfl) <| lw_e (oe_store (v := qu (18446744073709551615 - a0)) (vs := [qu (18446744073709551615 - a0)]) (l := [qu (18446744073709551615 - a0), qu a1, qu a2, qu a3]) (T rfl rfl) (T rfl rfl) sz23 rfl rfl rfl n14.blk rfl ?_)
   intro w31 s32 H33
   have E34 := below_st E16 N15 s32
   refine lw_nil <| rk_inBlock <| rk_reg <| lw_v (qi 1) (dv_add (a := 0) (b := 1) (z := 1) (T rfl rfl) C (by decide)) <| lw_v (qi 1) (dv_move (T rfl rfl)) <| lw_nil <| rk_inLoop <| rk_seq <| rk_reg <| lw_v (qd (((1 : Int) < 4 : Prop))) (dv_lss (a := 1) (b := 4) (T rfl rfl) (T rfl rfl)) <| lw_nil ?_
   refine rk_seq <| rk_ct (T rfl (rfl)) <| rk_skip <| rk_seq <| rk_block <| rk_seq <| rk_reg <| lw_v (qi 1) (dv_move (T rfl rfl)) <| lw_v (qi 1) (dv_assign (T rfl rfl)) <| lw_nil <| rk_reg ?_
   refine lw_v (.slice (some ⟨b12, 0, none⟩) 4 4) (dv_move (T rfl rfl)) <| lw_v (qi 1) (dv_move (T rfl rfl)) <| lw_v (.slice (some ⟨b12, 0, none⟩) 4 4) (dv_move (T rfl rfl)) <| lw_v (qi 1) (dv_move (T rfl rfl)) <| lw_v (.pointer (some ⟨b12, 1, none⟩)) (dv_indexAddr (a := ⟨b12, 0, none⟩) (a' := ⟨b12, 1, none⟩) (l := 4) (c := 4) (j := 1) us75 sz23 (T rfl rfl) (T rfl rfl) (by decide) (by decide) rfl) <| lw_v (qu a1) (dv_load1 (b := b12) (o := 1) agt23 (T rfl rfl) H33 rfl) <| lw_v (qu (18446744073709551615 - a1)) (dv_xor (a := a1) (z := 18446744073709551615 - a1) (T rfl rfl) (xor_u64 (by omega) (by omega))) <| lw_v (.pointer (some ⟨b12, 1, none⟩)) (dv_indexAddr (a := ⟨b12, 0, none⟩) (a' := ⟨b12, 1, none⟩) (l := 4) (c := 4) (j := 1) us75 sz23 (T rfl rfl) (T rfl rfl) (by decide) (by decide) rfl) <| lw_e (oe_store (v := qu (18446744073709551615 - a1)) (vs := [qu (18446744073709551615 - a1)]) (l := [qu (18446744073709551615 - a0), qu (18446744073709551615 - a1), qu a2, qu a3]) (T rfl rfl) (T rfl rfl) sz23 rfl rfl rfl H33 rfl ?_)
   intro w35 s36 H37
   have E38 := below_st E34 N15 s36
   refine lw_nil <| rk_inBlock <| rk_reg <| lw_v (qi 2) (dv_add (a := 1) (b := 1) (z := 2) (T rfl rfl) C (by decide)) <| lw_v (qi 2) (dv_move (T rfl rfl)) <| lw_nil <| rk_inLoop <| rk_seq <| rk_reg <| lw_v (qd (((2 : Int) < 4 : Prop))) (dv_lss (a := 2) (b := 4) (T rfl rfl) (T rfl rfl)) <| lw_nil ?_
   refine rk_seq <| rk_ct (T rfl (rfl)) <| rk_skip <| rk_seq <| rk_block <| rk_seq <| rk_reg <| lw_v (qi 2) (dv_move (T rfl rfl)) <| lw_v (qi 2) (dv_assign (T rfl rfl)) <| lw_nil <| rk_reg ?_
   refine lw_v (.slice (some ⟨b12, 0, none⟩) 4 4) (dv_move (T rfl rfl)) <| lw_v (qi 2) (dv_move (T rfl rfl)) <| lw_v (.slice (some ⟨b12, 0, none⟩) 4 4) (dv_move (T rfl rfl)) <| lw_v (qi 2) (dv_move (T rfl rfl)) <| lw_v (.pointer (some ⟨b12, 2, none⟩)) (dv_indexAddr (a := ⟨b12, 0, none⟩) (a' := ⟨b12, 2, none⟩) (l := 4) (c := 4) (j := 2) us75 sz23 (T rfl rfl) (T rfl rfl) (by decide) (by decide) rfl) <| lw_v (qu a2) (dv_load1 (b := b12) (o := 2) agt23 (T rfl rfl) H37 rfl) <| lw_v (qu (18446744073709551615 - a2)) (dv_xor (a := a2) (z := 18446744073709551615 - a2) (T rfl rfl) (xor_u64 (by omega) (by omega))) <| lw_v (.pointer (some ⟨b12, 2, none⟩)) (dv_indexAddr (a := ⟨b12, 0, none⟩) (a' := ⟨b12, 2, none⟩) (l := 4) (c := 4) (j := 2) us75 sz23 (T rfl rfl) (T rfl rfl) (by decide) (by decide) rfl) <| lw_e (oe_store (v := qu (18446744073709551615 - a2)) (vs := [qu (18446744073709551615 - a2)]) (l := [qu (18446744073709551615 - a0), qu (18446744073709551615 - a1), qu (18446744073709551615 - a2), qu a3]) (T rfl rfl) (T rfl rfl) sz23 rfl rfl rfl H37 rfl ?_)
   intro w39 s40 H41
   have E42 := below_st E38 N15 s40
   refine lw_nil <| rk_inBlock <| rk_reg <| lw_v (qi 3) (dv_add (a := 2) (b := 1) (z := 3) (T rfl rfl) C (by decide)) <| lw_v (qi 3) (dv_move (T rfl rfl)) <| lw_nil <| rk_inLoop <| rk_seq <| rk_reg <| lw_v (qd (((3 : Int) < 4 : Prop))) (dv_lss (a := 3) (b := 4) (T rfl rfl) (T rfl rfl)) <| lw_nil ?_
   refine rk_seq <| rk_ct (T rfl (rfl)) <| rk_skip <| rk_seq <| rk_block <| rk_seq <| rk_reg <| lw_v (qi 3) (dv_move (T rfl rfl)) <| lw_v (qi 3) (dv_assign (T rfl rfl)) <| lw_nil <| rk_reg ?_
   refine lw_v (.slice (some ⟨b12, 0, none⟩) 4 4) (dv_move (T rfl rfl)) <| lw_v (qi 3) (dv_move (T rfl rfl)) <| lw_v (.slice (some ⟨b12, 0, none⟩) 4 4) (dv_move (T rfl rfl)) <| lw_v (qi 3) (dv_move (T rfl rfl)) <| lw_v (.pointer (some ⟨b12, 3, none⟩)) (dv_indexAddr (a := ⟨b12, 0, none⟩) (a' := ⟨b12, 3, none⟩) (l := 4) (c := 4) (j := 3) us75 sz23 (T rfl rfl) (T rfl rfl) (by decide) (by decide) rfl) <| lw_v (qu a3) (dv_load1 (b := b12) (o := 3) agt23 (T rfl rfl) H41 rfl) <| lw_v (qu (18446744073709551615 - a3)) (dv_xor (a := a3) (z := 18446744073709551615 - a3) (T rfl rfl) (xor_u64 (by omega) (by omega))) <| lw_v (.pointer (some ⟨b12, 3, none⟩)) (dv_indexAddr (a := ⟨b12, 0, none⟩) (a' := ⟨b12, 3, none⟩) (l := 4) (c := 4) (j := 3) us75 sz23 (T rfl rfl) (T rfl rfl) (by decide) (by decide) rfl) <| lw_e (oe_store (v := qu (18446744073709551615 - a3)) (vs := [qu (18446744073709551615 - a3)]) (l := [qu (18446744073709551615 - a0), qu (18446744073709551615 - a1), qu (18446744073709551615 - a2), qu (18446744073709551615 - a3)]) (T rfl rfl) (T rfl rfl) sz23 rfl rfl rfl H41 rfl ?_)
   intro w43 s44 H45
   have E46 := below_st E42 N15 s44
   refine lw_nil <| rk_inBlock <| rk_reg <| lw_v (qi 4) (dv_add (a := 3) (b := 1) (z := 4) (T rfl rfl) C (by decide)) <| lw_v (qi 4) (dv_move (T rfl rfl)) <| lw_nil <| rk_inLoop <| rk_seq <| rk_reg <| lw_v (qd (((4 : Int) < 4 : Prop))) (dv_lss (a := 4) (b := 4) (T rfl rfl) (T rfl rfl)) <| lw_nil ?_
   refine rk_seq <| rk_cf (T rfl (rfl)) <| rk_exit rfl <| rk_seq <| rk_reg <| lw_v (.slice (some ⟨b12, 0, none⟩) 4 4) (dv_move (T rfl rfl)) <| lw_e (oe_callf (vs := [.slice (some ⟨b12, 0, none⟩) 4 4]) co91 (ar1 (T rfl rfl)) (trim_okl (Wd.ownW (xs := [18446744073709551615 - a0, 18446744073709551615 - a1, 18446744073709551615 - a2, 18446744073709551615 - a3]) H45) (by omega) (by omega) (by first | rfl | first | (simp; done) | (simp; omega) | omega)) ?_)
   rintro _ w47 ⟨rfl, e48⟩
   have E49 := below_ext E46 E46.size e48
   have := trimL_len ([18446744073709551615 - a0, 18446744073709551615 - a1, 18446744073709551615 - a2, 18446744073709551615 - a3])
   simp only [List.length_cons, List.length_nil] at this
   refine lw_e (oe_buildSlice (pv := [(0, qu 1)]) (init := [qu 0]) (l := [qu 1]) us75 sz23 rfl rfl zc23 (by kernel_rfl) ⟨rfl, C, trivial⟩ rfl ?_)
   intro b50 w51 n52
   have N53 : w.heap.size ≤ b50 := n52.eq ▸ E49.size
   have H54 := (e48.blk H45)
   have : b12 < b50 := n52.eq ▸ lt_of_blk H54
   have E55 := below_ext E49 E49.size n52.ext
   have h56 := ((Wd.trim ((Wd.ownW (xs := [18446744073709551615 - a0, 18446744073709551615 - a1, 18446744073709551615 - a2, 18446744073709551615 - a3]) H45).ext e48)).ext n52.ext)
   refine lw_e (oe_callf (vs := [.slice (some ⟨b12, 0, none⟩) ((trimL ([18446744073709551615 - a0, 18446744073709551615 - a1, 18446744073709551615 - a2, 18446744073709551615 - a3])).length) 4, .slice (some ⟨b50, 0, none⟩) 1 1]) co90 (ar2 (T rfl rfl) (T rfl rfl)) (addWords_ws (⟨(trimL ([18446744073709551615 - a0, 18446744073709551615 - a1, 18446744073709551615 - a2, 18446744073709551615 - a3])), rfl, (Nat.le_trans (trimL_len _) (by simp)), h56, (trimL_ok (okW_lit (by simp <;> omega))), rfl⟩ : Ws _ _ _ _ _ _ _ _) (⟨[1], rfl, Nat.le_refl _, Wd.ownW n52.blk, (okW_lit (by simp <;> omega)), rfl⟩ : Ws _ _ _ _ _ _ _ _) (by omega) (by omega)) ?_)
   rintro _ w61 ⟨A57, n58, c59, rfl, e62, h60⟩
   have E63 := below_ext E55 E55.size e62
   have lh60 := Wc.len (by decide) h60 (sz_add (trimL_sz (m := 64) (s := 256) (okW_lit (by simp <;> omega)) (by simp)) (valB_sz (m := 64) (xs := [1]) (n := 1) (okW_lit (by simp <;> omega)) rfl))
   refine lw_e (oe_callf (vs := [.bool true, .slice A57 n58 c59]) co71 (ar2 C (T rfl rfl)) (made_num (s := (max 256 64 + 1)) (neg := true) h60.ws (by omega) (sz_add (trimL_sz (m := 64) (s := 256) (okW_lit (by simp <;> omega)) (by simp)) (valB_sz (m := 64) (xs := [1]) (n := 1) (okW_lit (by simp <;> omega)) rfl))) ?_)
   rintro _ w67 ⟨nb64, n65, rfl, e68, hn66⟩
   have E69 := below_ext E63 E63.size e68
   have lhn66 := Num.len (by decide) hn66
   have H70 := (e68.blk (e62.blk (n52.ext.blk (e48.blk (s44.blk (s40.blk (s36.blk (s32.blk (n14.ext.blk n8.blk) (by omega)) (by omega)) (by omega)) (by omega))))))
   refine lw_e (oe_store (v := .agg #[.bool nb64, .slice A57 n65 c59]) (vs := [.bool nb64, .slice A57 n65 c59]) (l := [.bool nb64, .slice A57 n65 c59]) (T rfl rfl) (T rfl rfl) sz77 rfl rfl rfl H70 rfl ?_)
   intro w71 s72 H73
   have E74 := below_st E69 N9 s72
   refine lw_nil <| rk_ret Tryz.func66 (v := .agg #[.bool nb64, .slice A57 n65 c59]) (res1 Tryz.results66 (rv_cells (l := [.bool nb64, .slice A57 n65 c59]) agt77 sz77 rfl rfl H73 rfl)) ⟨_, rfl, ?_⟩
   have h75 := (hn66.st s72 H70 (by decide))
   exact ⟨_, _, _, _, rfl, E74, h75.tight (wz_hi (by assumption)) (wz_lt h3 h2 h1 h0)⟩
theorem wnumz_ok {w : World} {z : Int} (hz : fits z) : Ct Tryz.prog 66 [.agg #[.int .u64 (wv3 z), .int .u64 (wv2 z), .int .u64 (wv1 z), .int .u64 (wv0 z)]] w fun v w1 => ∃ nr A' n c', v = .agg #[.bool nr, .slice A' n c'] ∧ Ext w w1 ∧ Num 64 23 .u64 w1 nr A' n c' z 256 := by
 have h := wnum_ok (w := w) (w_rg z).1 (w_rg z).2.1 (w_rg z).2.2.1 (w_rg z).2.2.2
 rw [wz_w hz] at h
 exact h
end Go.Proofs.YtmbpomcbdopgnaaGreat.W
