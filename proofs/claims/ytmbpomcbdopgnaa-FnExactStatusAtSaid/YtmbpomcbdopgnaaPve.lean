/- Walks and plain mathematics, packed by a program of this session: declarations that the rows reach. -/
import Derived.Shelf.Small.Bits
import Derived.Shelf.Strconv.Itoa0
import Derived.Shelf.Bits.Mul64
import Derived.Ground.SlgnProg
import Derived.Shelf.SlicesE.Clone
import Derived.Test.YtmbpomcbdopgnaaProg
import Derived.Test.YtmbpomcbdopgnaaPvd
set_option linter.unusedVariables false
set_option linter.unusedSimpArgs false
namespace Go.Proofs.Ytmbpomcbdopgnaa.W
open Go Go.RowKit Go.Proofs.Ytmbpomcbdopgnaa.Fw
attribute [local irreducible] RunK LW AW DV OE Ct
theorem co129 : callOk Try.prog 129 = true := by kernel_rfl
theorem co137 : callOk Try.prog 137 = true := by kernel_rfl
theorem co144 : callOk Try.prog 144 = true := by kernel_rfl
theorem co145 : callOk Try.prog 145 = true := by kernel_rfl
theorem co149 : callOk Try.prog 149 = true := by kernel_rfl
theorem co95 : callOk Try.prog 95 = true := by kernel_rfl
set_option maxHeartbeats 1000000 in
theorem l1CmpAbs_ok {w : World} {A D : Option Addr} {c d : Nat} {xs ys : List Int} (hx : Wd w 168 .u32 A xs) (hy : Wd w 168 .u32 D ys) (ox : okW (2 ^ 32) xs) (oy : okW (2 ^ 32) ys) (cx : canon xs) (cy : canon ys) (lx : xs.length ≤ 1000000) (ly : ys.length ≤ 1000000) : Ct Try.prog 145 [.slice A (xs.length) c, .slice D (ys.length) d] w fun v w1 => ∃ r : Int, v = .int .i64 r ∧ Ext w w1 ∧ cmpR r (valB (2 ^ 32) xs) (valB (2 ^ 32) ys) := by
 refine ct_run (n := 41) Try.func145 rfl Try.ntmps145 rfl ?_
 have E0 : Below w.heap.size w w := Below.refl _ _
 refine rk_seq <| rk_reg <| lw_v (qi 0) (dv_assign C) <| lw_nil <| rk_seq <| rk_seq <| rk_reg <| qm (.slice A (xs.length) c) rfl rfl <| lw_v (qi (xs.length : Int)) (dv_len (ad := A) (l := xs.length) (c := c) us86 (Z rfl)) <| qm (.slice D (ys.length) d) rfl rfl <| lw_v (qi (ys.length : Int)) (dv_len (ad := D) (l := ys.length) (c := d) us86 (Z rfl)) <| lw_v _ (dv_neq (a := (xs.length : Int)) (b := (ys.length : Int)) (Z rfl) (Z rfl)) <| lw_nil ?_
 by_cases hb1 : ((xs.length : Int)) ≠ ((ys.length : Int))
 · refine rk_ct (T rfl (qT hb1)) <| rk_seq <| rk_seq <| rk_reg <| qm (.slice A (xs.length) c) rfl rfl <| lw_v (qi (xs.length : Int)) (dv_len (ad := A) (l := xs.length) (c := c) us86 (Z rfl)) <| qm (.slice D (ys.length) d) rfl rfl <| lw_v (qi (ys.length : Int)) (dv_len (ad := D) (l := ys.length) (c := d) us86 (Z rfl)) <| lw_v _ (dv_lss (a := (xs.length : Int)) (b := (ys.length : Int)) (Z rfl) (Z rfl)) <| lw_nil ?_
   by_cases hb2 : ((xs.length : Int)) < ((ys.length : Int))
   · refine rk_ct (T rfl (qT hb2)) <| rk_seq <| rk_reg <| lw_v (qi (-1)) (dv_assign C) <| lw_nil <| rk_ret Try.func145 (v := qi (-1)) (res1 Try.results145 (rv_tmp rfl rfl)) ⟨_, rfl, ?_⟩
     exact ⟨_, rfl, E0, cmp_len32 ox oy cx cy (by omega) (by omega)⟩
   refine rk_cf (T rfl (qF hb2)) <| rk_skip <| rk_seq <| rk_reg <| lw_v (qi 1) (dv_assign C) <| lw_nil <| rk_ret Try.func145 (v := qi 1) (res1 Try.results145 (rv_tmp rfl rfl)) ⟨_, rfl, ?_⟩
   exact ⟨_, rfl, E0, cmp_len32' ox oy cx cy (by omega)⟩
 refine rk_cf (T rfl (qF hb1)) <| rk_skip <| rk_seq <| rk_seq <| rk_reg <| qm (.slice A (xs.length) c) rfl rfl <| lw_v (qi (xs.length : Int)) (dv_len (ad := A) (l := xs.length) (c := c) us86 (Z rfl)) <| lw_v _ (dv_sub (a := (xs.length : Int)) (b := 1) (z := (xs.length : Int) - 1) (Z rfl) C (wr_i64 (by omega) (by omega))) <| qs (qi ((xs.length : Int) - 1)) rfl rfl <| lw_nil <| rk_block <| rk_loop (fun dm_ fr wl => ∃ (n : Nat), dm_ = n ∧ fr 0 = .slice A (xs.length) c ∧ fr 1 = .slice D (ys.length) d ∧ fr 5 = qi ((n : Int) - 1) ∧ Below w.heap.size w wl ∧ (n ≤ xs.length) ∧ (xs.drop n = ys.drop n)) (xs.length) ⟨xs.length, rfl, rfl, rfl, (vi (by omega)), E0, (Nat.le_refl _), (by rw [List.drop_of_length_le (Nat.le_refl _), List.drop_of_length_le (by omega)])⟩ ?_
 intro d7 fr6 w3 hI4 ih5
 obtain ⟨n, hd12, f8, f9, f10, E11, hn, hd⟩ := hI4
 refine rk_seq <| rk_seq <| rk_reg <| qm (qi ((n : Int) - 1)) rfl f10 <| lw_v _ (dv_geq (a := (n : Int) - 1) (b := 0) (Z rfl) C) <| lw_nil ?_
 by_cases hb13 : 0 ≤ ((n : Int) - 1)
 · refine rk_ct (T rfl (qT hb13)) <| rk_skip <| rk_seq <| rk_block <| rk_seq <| rk_seq ?_
   have h14 := (hx.ext E11)
   have h15 := (hy.ext E11)
   refine rk_any (fun w => Wd w 168 .u32 A xs ∧ Wd w 168 .u32 D ys) [] mo ?_
   intro w16 d17
   have E18 := qe E11 d17.ext
   have h19 := (h14.ext d17.ext)
   have h20 := (h15.ext d17.ext)
   refine aw_pure 0 (.slice A (xs.length) c) rfl (by kernel_rfl) .none ⟨h19, h20⟩ (fun _ => dv_move (T rfl f8)) <| aw_pure 1 (qi ((n : Int) - 1)) rfl (by kernel_rfl) .none ⟨h19, h20⟩ (fun _ => dv_move (T rfl f10)) ?_
   obtain ⟨g21, o22, rfl⟩ := Wd.at h19 (by omega)
   refine aw_pure 2 (.pointer (some ⟨g21, o22 + (n - 1), none⟩)) rfl (by kernel_rfl) .none ⟨h19, h20⟩ (fun _ => dv_indexW (g := g21) (o := o22) (l := xs.length) (c := c) (i := (n - 1)) (j := (n : Int) - 1) us86 sz168 (Z rfl) (Z rfl) (by omega) (by omega)) <| aw_load 3 (.int .u32 (xs.getD (n - 1) 0)) rfl (by kernel_rfl) .none ⟨h19, h20⟩ (fun _ s => dv_load agt168 (Z rfl) (Wd.cell s.1 (by omega))) <| aw_pure 4 (.slice D (ys.length) d) rfl (by kernel_rfl) .none ⟨h19, h20⟩ (fun _ => dv_move (T rfl f9)) <| aw_pure 5 (qi ((n : Int) - 1)) rfl (by kernel_rfl) .none ⟨h19, h20⟩ (fun _ => dv_move (T rfl f10)) ?_
   obtain ⟨g23, o24, rfl⟩ := Wd.at h20 (by omega)
   refine aw_pure 6 (.pointer (some ⟨g23, o24 + (n - 1), none⟩)) rfl (by kernel_rfl) .none ⟨h19, h20⟩ (fun _ => dv_indexW (g := g23) (o := o24) (l := ys.length) (c := d) (i := (n - 1)) (j := (n : Int) - 1) us86 sz168 (Z rfl) (Z rfl) (by omega) (by omega)) <| aw_load 7 (.int .u32 (ys.getD (n - 1) 0)) rfl (by kernel_rfl) .none ⟨h19, h20⟩ (fun _ s => dv_load agt168 (Z rfl) (Wd.cell s.2 (by omega))) <| aw_pure 8 (qd ((xs.getD (n - 1) 0) < (ys.getD (n - 1) 0))) rfl (by kernel_rfl) .none ⟨h19, h20⟩ (fun _ => dv_lss (a := xs.getD (n - 1) 0) (b := ys.getD (n - 1) 0) (Z rfl) (Z rfl)) <| aw_done (by kernel_rfl) ?_
   by_cases hb25 : (xs.getD ((n - 1)) 0) < (ys.getD ((n - 1)) 0)
   · refine rk_ct (T rfl (qT hb25)) <| rk_seq <| rk_reg <| lw_v (qi (-1)) (dv_assign C) <| lw_nil <| rk_ret Try.func145 (v := qi (-1)) (res1 Try.results145 (rv_tmp rfl rfl)) ⟨_, rfl, ?_⟩
     exact ⟨_, rfl, E18, cmp_lt (cmp_word (by decide) ox oy n (by omega) (by omega) (by omega) hd (by assumption))⟩
   refine rk_cf (T rfl (qF hb25)) <| rk_skip <| rk_seq <| rk_any (fun w => Wd w 168 .u32 (some ⟨g21, o22, none⟩) xs ∧ Wd w 168 .u32 (some ⟨g23, o24, none⟩) ys) [] mo ?_
   intro w26 d27
   have E28 := qe E18 d27.ext
   have h29 := (h19.ext d27.ext)
   have h30 := (h20.ext d27.ext)
   refine aw_pure 0 (.slice (some ⟨g21, o22, none⟩) (xs.length) c) rfl (by kernel_rfl) .none ⟨h29, h30⟩ (fun _ => dv_move (T rfl f8)) <| aw_pure 1 (qi ((n : Int) - 1)) rfl (by kernel_rfl) .none ⟨h29, h30⟩ (fun _ => dv_move (T rfl f10)) <| aw_pure 2 (.pointer (some ⟨g21, o22 + (n - 1), none⟩)) rfl (by kernel_rfl) .none ⟨h29, h30⟩ (fun _ => dv_indexW (g := g21) (o := o22) (l := xs.length) (c := c) (i := (n - 1)) (j := (n : Int) - 1) us86 sz168 (Z rfl) (Z rfl) (by omega) (by omega)) <| aw_load 3 (.int .u32 (xs.getD (n - 1) 0)) rfl (by kernel_rfl) .none ⟨h29, h30⟩ (fun _ s => dv_load agt168 (Z rfl) (Wd.cell s.1 (by omega))) <| aw_pure 4 (.slice (some ⟨g23, o24, none⟩) (ys.length) d) rfl (by kernel_rfl) .none ⟨h29, h30⟩ (fun _ => dv_move (T rfl f9)) <| aw_pure 5 (qi ((n : Int) - 1)) rfl (by kernel_rfl) .none ⟨h29, h30⟩ (fun _ => dv_move (T rfl f10)) <| aw_pure 6 (.pointer (some ⟨g23, o24 + (n - 1), none⟩)) rfl (by kernel_rfl) .none ⟨h29, h30⟩ (fun _ => dv_indexW (g := g23) (o := o24) (l := ys.length) (c := d) (i := (n - 1)) (j := (n : Int) - 1) us86 sz168 (Z rfl) (Z rfl) (by omega) (by omega)) <| aw_load 7 (.int .u32 (ys.getD (n - 1) 0)) rfl (by kernel_rfl) .none ⟨h29, h30⟩ (fun _ s => dv_load agt168 (Z rfl) (Wd.cell s.2 (by omega))) <| aw_pure 8 (qd ((ys.getD (n - 1) 0) < (xs.getD (n - 1) 0))) rfl (by kernel_rfl) .none ⟨h29, h30⟩ (fun _ => dv_gtr (a := xs.getD (n - 1) 0) (b := ys.getD (n - 1) 0) (Z rfl) (Z rfl)) <| aw_done (by kernel_rfl) ?_
   by_cases hb31 : (ys.getD ((n - 1)) 0) < (xs.getD ((n - 1)) 0)
   · refine rk_ct (T rfl (qT hb31)) <| rk_seq <| rk_reg <| lw_v (qi 1) (dv_assign C) <| lw_nil <| rk_ret Try.func145 (v := qi 1) (res1 Try.results145 (rv_tmp rfl rfl)) ⟨_, rfl, ?_⟩
     exact ⟨_, rfl, E28, cmp_gt (cmp_word (by decide) oy ox n (by omega) (by omega) (by omega) hd.symm (by assumption))⟩
   refine rk_cf (T rfl (qF hb31)) <| rk_skip <| rk_inBlock <| rk_reg <| qm (qi ((n : Int) - 1)) rfl f10 <| lw_v _ (dv_sub (a := (n : Int) - 1) (b := 1) (z := ((n : Int) - 1) - 1) (Z rfl) C (wr_i64 (by omega) (by omega))) <| qs (qi (((n : Int) - 1) - 1)) rfl rfl <| lw_nil <| ih5 (n - 1) _ _ (by rw [hd12]; omega) ⟨(n - 1), rfl, f8, f9, (vi (by omega)), E28, (by omega), (drop_step xs ys n (by omega) (by omega) (by omega) hd (by omega))⟩
 refine rk_cf (T rfl (qF hb13)) <| rk_exit rfl <| rk_seq <| rk_reg <| lw_v (qi 0) (dv_assign C) <| lw_nil <| rk_ret Try.func145 (v := qi 0) (res1 Try.results145 (rv_tmp rfl rfl)) ⟨_, rfl, ?_⟩
 exact ⟨_, rfl, E11, (cmp_same (by have hn0 : n = 0 := (by omega); subst hn0; simpa using hd))⟩
theorem l1CmpAbs_wc {w : World} {A D : Option Addr} {l c l' d : Nat} {x y : Int} (h : Wc 32 168 .u32 w A l c x) (h' : Wc 32 168 .u32 w D l' d y) (hl : l ≤ 1000000) (hl' : l' ≤ 1000000) : Ct Try.prog 145 [.slice A l c, .slice D l' d] w fun v w1 =>
 ∃ r : Int, v = .int .i64 r ∧ Ext w w1 ∧ cmpR r x y := by
 obtain ⟨xs, rfl, hc, hw, ho, hk, rfl⟩ := h
 obtain ⟨ys, rfl, hc', hw', ho', hk', rfl⟩ := h'
 exact l1CmpAbs_ok hw hw' ho ho' hk hk' hl hl'
set_option maxHeartbeats 1000000 in
theorem l1AddAbs_ok {w : World} {A D : Option Addr} {c d : Nat} {xs ys : List Int} (hx : Wd w 168 .u32 A xs) (hy : Wd w 168 .u32 D ys) (hc : xs.length ≤ c) (hd : ys.length ≤ d) (ox : okW (2 ^ 32) xs) (oy : okW (2 ^ 32) ys) (lx : xs.length ≤ 500000) (ly : ys.length ≤ 500000) : Ct Try.prog 149 [.slice A (xs.length) c, .slice D (ys.length) d] w fun v w1 => ∃ A' n c', v = .slice A' n c' ∧ Ext w w1 ∧ Ws 32 168 .u32 w1 A' n c' (valB (2 ^ 32) xs + valB (2 ^ 32) ys) ∧ n ≤ xs.length + ys.length + 1 := by
 refine ct_run (n := 58) Try.func149 rfl Try.ntmps149 rfl ?_
 have E0 : Below w.heap.size w w := Below.refl _ _
 refine rk_seq <| rk_reg <| lw_v (.slice none 0 0) (dv_assign C) <| lw_nil <| rk_seq <| rk_seq <| rk_reg <| qm (.slice A (xs.length) c) rfl rfl <| lw_v (qi (xs.length : Int)) (dv_len (ad := A) (l := xs.length) (c := c) us86 (Z rfl)) <| qm (.slice D (ys.length) d) rfl rfl <| lw_v (qi (ys.length : Int)) (dv_len (ad := D) (l := ys.length) (c := d) us86 (Z rfl)) <| lw_v _ (dv_lss (a := (xs.length : Int)) (b := (ys.length : Int)) (Z rfl) (Z rfl)) <| lw_nil ?_
 by_cases hb1 : ((xs.length : Int)) < ((ys.length : Int))
 · refine rk_ct (T rfl (qT hb1)) <| rk_reg <| qm (.slice D (ys.length) d) rfl rfl <| qm (.slice A (xs.length) c) rfl rfl <| qs (.slice D (ys.length) d) rfl rfl <| qs (.slice A (xs.length) c) rfl rfl <| qN <| qm (.slice D (ys.length) d) rfl rfl <| lw_v (qi (ys.length : Int)) (dv_len (ad := D) (l := ys.length) (c := d) us86 (Z rfl)) <| lw_v _ (dv_add (a := (ys.length : Int)) (b := 1) (z := (ys.length : Int) + 1) (Z rfl) C (wr_i64 (by omega) (by omega))) <| lw_e (oe_makeCapW (c := ((ys.length) + 1)) (j := (ys.length : Int) + 1) us86 in168 C (Z rfl) (by omega) (by first | omega | simp <;> omega) (by first | omega | simp <;> omega) ?_)
   intro b2 w3 n4 hO5
   have N6 : w.heap.size ≤ b2 := n4.eq ▸ E0.size
   have E7 := qe E0 n4.ext
   refine qs (.slice (some ⟨b2, 0, none⟩) (([] : List Int).length) (((ys.length) + 1))) rfl rfl <| qN <| lw_v (qu 0) (dv_assign C) <| lw_nil <| rk_seq <| rk_seq <| rk_reg <| lw_v (qi 0) (dv_assign C) <| lw_nil <| rk_block <| rk_loop (fun dm_ fr wl => ∃ (i : Nat) (L : List Int) (Ad : Option Addr) (cp : Nat) (cy : Int), dm_ = ys.length - i ∧ fr 0 = .slice D (ys.length) d ∧ fr 1 = .slice A (xs.length) c ∧ fr 4 = .slice none 0 0 ∧ fr 5 = .slice Ad (L.length) cp ∧ fr 6 = qu cy ∧ fr 7 = qi (i : Int) ∧ Below w.heap.size w wl ∧ Ow wl b2 168 .u32 Ad cp L ∧ (i ≤ ys.length) ∧ (L.length = i) ∧ (okW (2 ^ 32) L) ∧ (0 ≤ cy ∧ cy ≤ 1) ∧ (valB (2 ^ 32) L + cy * (2 ^ 32) ^ i = valB (2 ^ 32) (ys.take i) + valB (2 ^ 32) (xs.take i))) (ys.length - 0) ⟨0, ([] : List Int), (some ⟨b2, 0, none⟩), (((ys.length) + 1)), 0, rfl, rfl, rfl, rfl, rfl, rfl, (vi (by omega)), E7, hO5, (Nat.zero_le _), rfl, okW.nil, (by decide), (by simp [valB])⟩ ?_
   intro d12 fr11 w8 hI9 ih10
   obtain ⟨i, L, Ad, cp, cy, hd21, f13, f14, f15, f16, f17, f18, E19, h20, hi, hl, hok, hcy, hv⟩ := hI9
   have bxs := okW.getD ox (by decide) i
   have gxs := getD_ge xs i
   have bys := okW.getD oy (by decide) i
   have gys := getD_ge ys i
   refine rk_seq <| rk_seq <| rk_reg <| qm (qi (i : Int)) rfl f18 <| qm (.slice D (ys.length) d) rfl f13 <| lw_v (qi (ys.length : Int)) (dv_len (ad := D) (l := ys.length) (c := d) us86 (Z rfl)) <| lw_v _ (dv_lss (a := (i : Int)) (b := (ys.length : Int)) (Z rfl) (Z rfl)) <| lw_nil ?_
   by_cases hb22 : ((i : Int)) < ((ys.length : Int))
   · refine rk_ct (T rfl (qT hb22)) <| rk_skip <| rk_seq <| rk_block <| rk_seq <| rk_reg <| qm (qu cy) rfl f17 <| qm (.slice D (ys.length) d) rfl f13 <| qm (qi (i : Int)) rfl f18 ?_
     have h23 := (hy.ext E19)
     obtain ⟨g24, o25, rfl⟩ := Wd.at h23 (by first | omega | simp <;> omega)
     refine lw_v (.pointer (some ⟨g24, o25 + i, none⟩)) (dv_indexW (g := g24) (o := o25) (l := ys.length) (c := d) (i := i) (j := (i : Int)) us86 sz168 (Z rfl) (Z rfl) (by omega) (by first | omega | simp <;> omega)) <| lw_v (.int .u32 (ys.getD i 0)) (dv_load agt168 (Z rfl) (Wd.cell h23 (by first | omega | simp <;> omega))) <| lw_v (qu (ys.getD i 0)) (dv_conv (a := ys.getD i 0) (z := ys.getD i 0) ui168 ui36 (Z rfl) (wn_u64 (by omega) (by omega))) <| lw_v _ (dv_add (a := cy) (b := ys.getD i 0) (z := cy + (ys.getD i 0)) (Z rfl) (Z rfl) (wn_u64 (by omega) (by omega))) <| qs (qu (cy + (ys.getD i 0))) rfl rfl <| lw_nil <| rk_seq <| rk_seq <| rk_reg <| qm (qi (i : Int)) rfl f18 <| qm (.slice A (xs.length) c) rfl f14 <| lw_v (qi (xs.length : Int)) (dv_len (ad := A) (l := xs.length) (c := c) us86 (Z rfl)) <| lw_v _ (dv_lss (a := (i : Int)) (b := (xs.length : Int)) (Z rfl) (Z rfl)) <| lw_nil ?_
     by_cases hb26 : ((i : Int)) < ((xs.length : Int))
     · refine rk_ct (T rfl (qT hb26)) <| rk_reg <| qm (qu (cy + (ys.getD i 0))) rfl rfl <| qm (.slice A (xs.length) c) rfl f14 <| qm (qi (i : Int)) rfl f18 ?_
       have h27 := (hx.ext E19)
       obtain ⟨g28, o29, rfl⟩ := Wd.at h27 (by first | omega | simp <;> omega)
       refine lw_v (.pointer (some ⟨g28, o29 + i, none⟩)) (dv_indexW (g := g28) (o := o29) (l := xs.length) (c := c) (i := i) (j := (i : Int)) us86 sz168 (Z rfl) (Z rfl) (by omega) (by first | omega | simp <;> omega)) <| lw_v (.int .u32 (xs.getD i 0)) (dv_load agt168 (Z rfl) (Wd.cell h27 (by first | omega | simp <;> omega))) <| lw_v (qu (xs.getD i 0)) (dv_conv (a := xs.getD i 0) (z := xs.getD i 0) ui168 ui36 (Z rfl) (wn_u64 (by omega) (by omega))) <| lw_v _ (dv_add (a := cy + (ys.getD i 0)) (b := xs.getD i 0) (z := (cy + (ys.getD i 0)) + (xs.getD i 0)) (Z rfl) (Z rfl) (wn_u64 (by omega) (by omega))) <| qs (qu ((cy + (ys.getD i 0)) + (xs.getD i 0))) rfl rfl <| qN <| qm (.slice Ad (L.length) cp) rfl f16 <| qm (qu ((cy + (ys.getD i 0)) + (xs.getD i 0))) rfl rfl <| lw_v (.int .u32 (((cy + (ys.getD i 0)) + (xs.getD i 0)) % 4294967296)) (dv_conv (a := (cy + (ys.getD i 0)) + (xs.getD i 0)) (z := ((cy + (ys.getD i 0)) + (xs.getD i 0)) % 4294967296) ui36 ui168 (Z rfl) (wr_u32 _)) <| lw_e (oe_buildSlice (pv := [(0, .int .u32 (((cy + (ys.getD i 0)) + (xs.getD i 0)) % 4294967296))]) (init := [.int .u32 0]) (l := [.int .u32 (((cy + (ys.getD i 0)) + (xs.getD i 0)) % 4294967296)]) us86 sz168 rfl rfl zc168 (by kernel_rfl) ⟨rfl, (Z rfl), trivial⟩ rfl ?_)
       intro b30 w31 n32
       have N33 : w.heap.size ≤ b30 := n32.eq ▸ E19.size
       have E34 := qe E19 n32.ext
       have h35 := (h20.ext n32.ext)
       refine lw_e (oe_appendW (base := b2) (L := L) (M := [((cy + (ys.getD i 0)) + (xs.getD i 0)) % 4294967296]) (m := 1) us86 in168 (Z rfl) (Z rfl) h35 (Wd.ownW (xs := [((cy + (ys.getD i 0)) + (xs.getD i 0)) % 4294967296]) n32.blk) rfl (by first | omega | simp <;> omega) (by first | omega | simp <;> omega) ?_)
       intro Ad36 c37 w38 hO39 x40
       have E41 := below_bl E34 N6 x40
       refine qs (.slice Ad36 ((L ++ [((cy + (ys.getD i 0)) + (xs.getD i 0)) % 4294967296]).length) c37) rfl rfl <| lw_nil <| rk_reg <| qm (qu ((cy + (ys.getD i 0)) + (xs.getD i 0))) rfl rfl <| lw_v (qu (((cy + (ys.getD i 0)) + (xs.getD i 0)) / 4294967296)) (dv_shr (a := (cy + (ys.getD i 0)) + (xs.getD i 0)) (b := 32) (z := ((cy + (ys.getD i 0)) + (xs.getD i 0)) / 4294967296) (Z rfl) C (by decide) (shr_c (n := 32) (by omega) (by decide))) <| qs (qu (((cy + (ys.getD i 0)) + (xs.getD i 0)) / 4294967296)) rfl rfl <| lw_nil <| rk_inBlock <| rk_reg <| qm (qi (i : Int)) rfl f18 <| lw_v _ (dv_add (a := (i : Int)) (b := 1) (z := (i : Int) + 1) (Z rfl) C (wr_i64 (by omega) (by omega))) <| qs (qi ((i : Int) + 1)) rfl rfl <| lw_nil <| ih10 (ys.length - (i + 1)) _ _ (by rw [hd21]; omega) ⟨(i + 1), (L ++ [((cy + (ys.getD i 0)) + (xs.getD i 0)) % 4294967296]), Ad36, c37, (((cy + (ys.getD i 0)) + (xs.getD i 0)) / 4294967296), rfl, f13, f14, f15, rfl, rfl, (vi (by omega)), E41, hO39, (by omega), (by simp [hl]), (okW.snoc hok (by omega) (by omega)), (by omega), (add_app hl hv (by omega))⟩
     refine rk_cf (T rfl (qF hb26)) <| rk_skip <| rk_seq <| rk_reg <| qm (.slice Ad (L.length) cp) rfl f16 <| qm (qu (cy + (ys.getD i 0))) rfl rfl <| lw_v (.int .u32 ((cy + (ys.getD i 0)) % 4294967296)) (dv_conv (a := cy + (ys.getD i 0)) (z := (cy + (ys.getD i 0)) % 4294967296) ui36 ui168 (Z rfl) (wr_u32 _)) <| lw_e (oe_buildSlice (pv := [(0, .int .u32 ((cy + (ys.getD i 0)) % 4294967296))]) (init := [.int .u32 0]) (l := [.int .u32 ((cy + (ys.getD i 0)) % 4294967296)]) us86 sz168 rfl rfl zc168 (by kernel_rfl) ⟨rfl, (Z rfl), trivial⟩ rfl ?_)
     intro b42 w43 n44
     have N45 : w.heap.size ≤ b42 := n44.eq ▸ E19.size
     have E46 := qe E19 n44.ext
     have h47 := (h20.ext n44.ext)
     refine lw_e (oe_appendW (base := b2) (L := L) (M := [(cy + (ys.getD i 0)) % 4294967296]) (m := 1) us86 in168 (Z rfl) (Z rfl) h47 (Wd.ownW (xs := [(cy + (ys.getD i 0)) % 4294967296]) n44.blk) rfl (by first | omega | simp <;> omega) (by first | omega | simp <;> omega) ?_)
     intro Ad48 c49 w50 hO51 x52
     have E53 := below_bl E46 N6 x52
     refine qs (.slice Ad48 ((L ++ [(cy + (ys.getD i 0)) % 4294967296]).length) c49) rfl rfl <| lw_nil <| rk_reg <| qm (qu (cy + (ys.getD i 0))) rfl rfl <| lw_v (qu ((cy + (ys.getD i 0)) / 4294967296)) (dv_shr (a := cy + (ys.getD i 0)) (b := 32) (z := (cy + (ys.getD i 0)) / 4294967296) (Z rfl) C (by decide) (shr_c (n := 32) (by omega) (by decide))) <| qs (qu ((cy + (ys.getD i 0)) / 4294967296)) rfl rfl <| lw_nil <| rk_inBlock <| rk_reg <| qm (qi (i : Int)) rfl f18 <| lw_v _ (dv_add (a := (i : Int)) (b := 1) (z := (i : Int) + 1) (Z rfl) C (wr_i64 (by omega) (by omega))) <| qs (qi ((i : Int) + 1)) rfl rfl <| lw_nil <| ih10 (ys.length - (i + 1)) _ _ (by rw [hd21]; omega) ⟨(i + 1), (L ++ [(cy + (ys.getD i 0)) % 4294967296]), Ad48, c49, ((cy + (ys.getD i 0)) / 4294967296), rfl, f13, f14, f15, rfl, rfl, (vi (by omega)), E53, hO51, (by omega), (by simp [hl]), (okW.snoc hok (by omega) (by omega)), (by omega), (add_app hl hv (by omega))⟩
   refine rk_cf (T rfl (qF hb22)) <| rk_exit rfl <| rk_seq <| rk_seq <| rk_reg <| qm (qu cy) rfl f17 <| lw_v _ (dv_gtr (a := cy) (b := 0) (Z rfl) C) <| lw_nil ?_
   by_cases hb54 : 0 < cy
   · refine rk_ct (T rfl (qT hb54)) <| rk_reg <| qm (.slice Ad (L.length) cp) rfl f16 <| qm (qu cy) rfl f17 <| lw_v (.int .u32 ((cy) % 4294967296)) (dv_conv (a := cy) (z := (cy) % 4294967296) ui36 ui168 (Z rfl) (wr_u32 _)) <| lw_e (oe_buildSlice (pv := [(0, .int .u32 ((cy) % 4294967296))]) (init := [.int .u32 0]) (l := [.int .u32 ((cy) % 4294967296)]) us86 sz168 rfl rfl zc168 (by kernel_rfl) ⟨rfl, (Z rfl), trivial⟩ rfl ?_)
     intro b55 w56 n57
     have N58 : w.heap.size ≤ b55 := n57.eq ▸ E19.size
     have E59 := qe E19 n57.ext
     have h60 := (h20.ext n57.ext)
     refine lw_e (oe_appendW (base := b2) (L := L) (M := [(cy) % 4294967296]) (m := 1) us86 in168 (Z rfl) (Z rfl) h60 (Wd.ownW (xs := [(cy) % 4294967296]) n57.blk) rfl (by first | omega | simp <;> omega) (by first | omega | simp <;> omega) ?_)
     intro Ad61 c62 w63 hO64 x65
     have E66 := below_bl E59 N6 x65
     refine qs (.slice Ad61 ((L ++ [(cy) % 4294967296]).length) c62) rfl rfl <| qN <| qm (.slice Ad61 ((L ++ [(cy) % 4294967296]).length) c62) rfl rfl <| qs (.slice Ad61 ((L ++ [(cy) % 4294967296]).length) c62) rfl rfl <| lw_nil <| rk_ret Try.func149 (v := .slice Ad61 ((L ++ [(cy) % 4294967296]).length) c62) (res1 Try.results149 (rv_tmp rfl rfl)) ⟨_, rfl, ?_⟩
     exact ⟨_, _, _, rfl, E66, ⟨(L ++ [(cy) % 4294967296]), rfl, hO64.cap, hO64.wd, okW.snoc hok (by omega) (by omega), (by rw [show cy % 4294967296 = cy by omega]; first | exact (add_app_fin hl (by omega) (by omega) hv).1.symm | exact (Int.add_comm _ _).trans (add_app_fin hl (by omega) (by omega) hv).1.symm)⟩, by first | omega | (simp; omega)⟩
   refine rk_cf (T rfl (qF hb54)) <| rk_skip <| rk_seq <| rk_reg <| qm (.slice Ad (L.length) cp) rfl f16 <| qs (.slice Ad (L.length) cp) rfl rfl <| lw_nil <| rk_ret Try.func149 (v := .slice Ad (L.length) cp) (res1 Try.results149 (rv_tmp rfl rfl)) ⟨_, rfl, ?_⟩
   exact ⟨_, _, _, rfl, E19, ⟨L, rfl, h20.cap, h20.wd, hok, (by first | exact ((add_app_fin hl (by omega) (by omega) hv).2 (by omega)).symm | exact (Int.add_comm _ _).trans ((add_app_fin hl (by omega) (by omega) hv).2 (by omega)).symm)⟩, by first | omega | (simp; omega)⟩
 refine rk_cf (T rfl (qF hb1)) <| rk_skip <| rk_seq <| rk_reg <| qm (.slice A (xs.length) c) rfl rfl <| lw_v (qi (xs.length : Int)) (dv_len (ad := A) (l := xs.length) (c := c) us86 (Z rfl)) <| lw_v _ (dv_add (a := (xs.length : Int)) (b := 1) (z := (xs.length : Int) + 1) (Z rfl) C (wr_i64 (by omega) (by omega))) <| lw_e (oe_makeCapW (c := ((xs.length) + 1)) (j := (xs.length : Int) + 1) us86 in168 C (Z rfl) (by omega) (by first | omega | simp <;> omega) (by first | omega | simp <;> omega) ?_)
 intro b67 w68 n69 hO70
 have N71 : w.heap.size ≤ b67 := n69.eq ▸ E0.size
 have E72 := qe E0 n69.ext
 refine qs (.slice (some ⟨b67, 0, none⟩) (([] : List Int).length) (((xs.length) + 1))) rfl rfl <| qN <| lw_v (qu 0) (dv_assign C) <| lw_nil <| rk_seq <| rk_seq <| rk_reg <| lw_v (qi 0) (dv_assign C) <| lw_nil <| rk_block <| rk_loop (fun dm_ fr wl => ∃ (i : Nat) (L : List Int) (Ad : Option Addr) (cp : Nat) (cy : Int), dm_ = xs.length - i ∧ fr 0 = .slice A (xs.length) c ∧ fr 1 = .slice D (ys.length) d ∧ fr 4 = .slice none 0 0 ∧ fr 5 = .slice Ad (L.length) cp ∧ fr 6 = qu cy ∧ fr 7 = qi (i : Int) ∧ Below w.heap.size w wl ∧ Ow wl b67 168 .u32 Ad cp L ∧ (i ≤ xs.length) ∧ (L.length = i) ∧ (okW (2 ^ 32) L) ∧ (0 ≤ cy ∧ cy ≤ 1) ∧ (valB (2 ^ 32) L + cy * (2 ^ 32) ^ i = valB (2 ^ 32) (xs.take i) + valB (2 ^ 32) (ys.take i))) (xs.length - 0) ⟨0, ([] : List Int), (some ⟨b67, 0, none⟩), (((xs.length) + 1)), 0, rfl, rfl, rfl, rfl, rfl, rfl, (vi (by omega)), E72, hO70, (Nat.zero_le _), rfl, okW.nil, (by decide), (by simp [valB])⟩ ?_
 intro d77 fr76 w73 hI74 ih75
 obtain ⟨i, L, Ad, cp, cy, hd86, f78, f79, f80, f81, f82, f83, E84, h85, hi, hl, hok, hcy, hv⟩ := hI74
 have bxs := okW.getD ox (by decide) i
 have gxs := getD_ge xs i
 have bys := okW.getD oy (by decide) i
 have gys := getD_ge ys i
 refine rk_seq <| rk_seq <| rk_reg <| qm (qi (i : Int)) rfl f83 <| qm (.slice A (xs.length) c) rfl f78 <| lw_v (qi (xs.length : Int)) (dv_len (ad := A) (l := xs.length) (c := c) us86 (Z rfl)) <| lw_v _ (dv_lss (a := (i : Int)) (b := (xs.length : Int)) (Z rfl) (Z rfl)) <| lw_nil ?_
 by_cases hb87 : ((i : Int)) < ((xs.length : Int))
 · refine rk_ct (T rfl (qT hb87)) <| rk_skip <| rk_seq <| rk_block <| rk_seq <| rk_reg <| qm (qu cy) rfl f82 <| qm (.slice A (xs.length) c) rfl f78 <| qm (qi (i : Int)) rfl f83 ?_
   have h88 := (hx.ext E84)
   obtain ⟨g89, o90, rfl⟩ := Wd.at h88 (by first | omega | simp <;> omega)
   refine lw_v (.pointer (some ⟨g89, o90 + i, none⟩)) (dv_indexW (g := g89) (o := o90) (l := xs.length) (c := c) (i := i) (j := (i : Int)) us86 sz168 (Z rfl) (Z rfl) (by omega) (by first | omega | simp <;> omega)) <| lw_v (.int .u32 (xs.getD i 0)) (dv_load agt168 (Z rfl) (Wd.cell h88 (by first | omega | simp <;> omega))) <| lw_v (qu (xs.getD i 0)) (dv_conv (a := xs.getD i 0) (z := xs.getD i 0) ui168 ui36 (Z rfl) (wn_u64 (by omega) (by omega))) <| lw_v _ (dv_add (a := cy) (b := xs.getD i 0) (z := cy + (xs.getD i 0)) (Z rfl) (Z rfl) (wn_u64 (by omega) (by omega))) <| qs (qu (cy + (xs.getD i 0))) rfl rfl <| lw_nil <| rk_seq <| rk_seq <| rk_reg <| qm (qi (i : Int)) rfl f83 <| qm (.slice D (ys.length) d) rfl f79 <| lw_v (qi (ys.length : Int)) (dv_len (ad := D) (l := ys.length) (c := d) us86 (Z rfl)) <| lw_v _ (dv_lss (a := (i : Int)) (b := (ys.length : Int)) (Z rfl) (Z rfl)) <| lw_nil ?_
   by_cases hb91 : ((i : Int)) < ((ys.length : Int))
   · refine rk_ct (T rfl (qT hb91)) <| rk_reg <| qm (qu (cy + (xs.getD i 0))) rfl rfl <| qm (.slice D (ys.length) d) rfl f79 <| qm (qi (i : Int)) rfl f83 ?_
     have h92 := (hy.ext E84)
     obtain ⟨g93, o94, rfl⟩ := Wd.at h92 (by first | omega | simp <;> omega)
     refine lw_v (.pointer (some ⟨g93, o94 + i, none⟩)) (dv_indexW (g := g93) (o := o94) (l := ys.length) (c := d) (i := i) (j := (i : Int)) us86 sz168 (Z rfl) (Z rfl) (by omega) (by first | omega | simp <;> omega)) <| lw_v (.int .u32 (ys.getD i 0)) (dv_load agt168 (Z rfl) (Wd.cell h92 (by first | omega | simp <;> omega))) <| lw_v (qu (ys.getD i 0)) (dv_conv (a := ys.getD i 0) (z := ys.getD i 0) ui168 ui36 (Z rfl) (wn_u64 (by omega) (by omega))) <| lw_v _ (dv_add (a := cy + (xs.getD i 0)) (b := ys.getD i 0) (z := (cy + (xs.getD i 0)) + (ys.getD i 0)) (Z rfl) (Z rfl) (wn_u64 (by omega) (by omega))) <| qs (qu ((cy + (xs.getD i 0)) + (ys.getD i 0))) rfl rfl <| qN <| qm (.slice Ad (L.length) cp) rfl f81 <| qm (qu ((cy + (xs.getD i 0)) + (ys.getD i 0))) rfl rfl <| lw_v (.int .u32 (((cy + (xs.getD i 0)) + (ys.getD i 0)) % 4294967296)) (dv_conv (a := (cy + (xs.getD i 0)) + (ys.getD i 0)) (z := ((cy + (xs.getD i 0)) + (ys.getD i 0)) % 4294967296) ui36 ui168 (Z rfl) (wr_u32 _)) <| lw_e (oe_buildSlice (pv := [(0, .int .u32 (((cy + (xs.getD i 0)) + (ys.getD i 0)) % 4294967296))]) (init := [.int .u32 0]) (l := [.int .u32 (((cy + (xs.getD i 0)) + (ys.getD i 0)) % 4294967296)]) us86 sz168 rfl rfl zc168 (by kernel_rfl) ⟨rfl, (Z rfl), trivial⟩ rfl ?_)
     intro b95 w96 n97
     have N98 : w.heap.size ≤ b95 := n97.eq ▸ E84.size
     have E99 := qe E84 n97.ext
     have h100 := (h85.ext n97.ext)
     refine lw_e (oe_appendW (base := b67) (L := L) (M := [((cy + (xs.getD i 0)) + (ys.getD i 0)) % 4294967296]) (m := 1) us86 in168 (Z rfl) (Z rfl) h100 (Wd.ownW (xs := [((cy + (xs.getD i 0)) + (ys.getD i 0)) % 4294967296]) n97.blk) rfl (by first | omega | simp <;> omega) (by first | omega | simp <;> omega) ?_)
     intro Ad101 c102 w103 hO104 x105
     have E106 := below_bl E99 N71 x105
     refine qs (.slice Ad101 ((L ++ [((cy + (xs.getD i 0)) + (ys.getD i 0)) % 4294967296]).length) c102) rfl rfl <| lw_nil <| rk_reg <| qm (qu ((cy + (xs.getD i 0)) + (ys.getD i 0))) rfl rfl <| lw_v (qu (((cy + (xs.getD i 0)) + (ys.getD i 0)) / 4294967296)) (dv_shr (a := (cy + (xs.getD i 0)) + (ys.getD i 0)) (b := 32) (z := ((cy + (xs.getD i 0)) + (ys.getD i 0)) / 4294967296) (Z rfl) C (by decide) (shr_c (n := 32) (by omega) (by decide))) <| qs (qu (((cy + (xs.getD i 0)) + (ys.getD i 0)) / 4294967296)) rfl rfl <| lw_nil <| rk_inBlock <| rk_reg <| qm (qi (i : Int)) rfl f83 <| lw_v _ (dv_add (a := (i : Int)) (b := 1) (z := (i : Int) + 1) (Z rfl) C (wr_i64 (by omega) (by omega))) <| qs (qi ((i : Int) + 1)) rfl rfl <| lw_nil <| ih75 (xs.length - (i + 1)) _ _ (by rw [hd86]; omega) ⟨(i + 1), (L ++ [((cy + (xs.getD i 0)) + (ys.getD i 0)) % 4294967296]), Ad101, c102, (((cy + (xs.getD i 0)) + (ys.getD i 0)) / 4294967296), rfl, f78, f79, f80, rfl, rfl, (vi (by omega)), E106, hO104, (by omega), (by simp [hl]), (okW.snoc hok (by omega) (by omega)), (by omega), (add_app hl hv (by omega))⟩
   refine rk_cf (T rfl (qF hb91)) <| rk_skip <| rk_seq <| rk_reg <| qm (.slice Ad (L.length) cp) rfl f81 <| qm (qu (cy + (xs.getD i 0))) rfl rfl <| lw_v (.int .u32 ((cy + (xs.getD i 0)) % 4294967296)) (dv_conv (a := cy + (xs.getD i 0)) (z := (cy + (xs.getD i 0)) % 4294967296) ui36 ui168 (Z rfl) (wr_u32 _)) <| lw_e (oe_buildSlice (pv := [(0, .int .u32 ((cy + (xs.getD i 0)) % 4294967296))]) (init := [.int .u32 0]) (l := [.int .u32 ((cy + (xs.getD i 0)) % 4294967296)]) us86 sz168 rfl rfl zc168 (by kernel_rfl) ⟨rfl, (Z rfl), trivial⟩ rfl ?_)
   intro b107 w108 n109
   have N110 : w.heap.size ≤ b107 := n109.eq ▸ E84.size
   have E111 := qe E84 n109.ext
   have h112 := (h85.ext n109.ext)
   refine lw_e (oe_appendW (base := b67) (L := L) (M := [(cy + (xs.getD i 0)) % 4294967296]) (m := 1) us86 in168 (Z rfl) (Z rfl) h112 (Wd.ownW (xs := [(cy + (xs.getD i 0)) % 4294967296]) n109.blk) rfl (by first | omega | simp <;> omega) (by first | omega | simp <;> omega) ?_)
   intro Ad113 c114 w115 hO116 x117
   have E118 := below_bl E111 N71 x117
   refine qs (.slice Ad113 ((L ++ [(cy + (xs.getD i 0)) % 4294967296]).length) c114) rfl rfl <| lw_nil <| rk_reg <| qm (qu (cy + (xs.getD i 0))) rfl rfl <| lw_v (qu ((cy + (xs.getD i 0)) / 4294967296)) (dv_shr (a := cy + (xs.getD i 0)) (b := 32) (z := (cy + (xs.getD i 0)) / 4294967296) (Z rfl) C (by decide) (shr_c (n := 32) (by omega) (by decide))) <| qs (qu ((cy + (xs.getD i 0)) / 4294967296)) rfl rfl <| lw_nil <| rk_inBlock <| rk_reg <| qm (qi (i : Int)) rfl f83 <| lw_v _ (dv_add (a := (i : Int)) (b := 1) (z := (i : Int) + 1) (Z rfl) C (wr_i64 (by omega) (by omega))) <| qs (qi ((i : Int) + 1)) rfl rfl <| lw_nil <| ih75 (xs.length - (i + 1)) _ _ (by rw [hd86]; omega) ⟨(i + 1), (L ++ [(cy + (xs.getD i 0)) % 4294967296]), Ad113, c114, ((cy + (xs.getD i 0)) / 4294967296), rfl, f78, f79, f80, rfl, rfl, (vi (by omega)), E118, hO116, (by omega), (by simp [hl]), (okW.snoc hok (by omega) (by omega)), (by omega), (add_app hl hv (by omega))⟩
 refine rk_cf (T rfl (qF hb87)) <| rk_exit rfl <| rk_seq <| rk_seq <| rk_reg <| qm (qu cy) rfl f82 <| lw_v _ (dv_gtr (a := cy) (b := 0) (Z rfl) C) <| lw_nil ?_
 by_cases hb119 : 0 < cy
 · refine rk_ct (T rfl (qT hb119)) <| rk_reg <| qm (.slice Ad (L.length) cp) rfl f81 <| qm (qu cy) rfl f82 <| lw_v (.int .u32 ((cy) % 4294967296)) (dv_conv (a := cy) (z := (cy) % 4294967296) ui36 ui168 (Z rfl) (wr_u32 _)) <| lw_e (oe_buildSlice (pv := [(0, .int .u32 ((cy) % 4294967296))]) (init := [.int .u32 0]) (l := [.int .u32 ((cy) % 4294967296)]) us86 sz168 rfl rfl zc168 (by kernel_rfl) ⟨rfl, (Z rfl), trivial⟩ rfl ?_)
   intro b120 w121 n122
   have N123 : w.heap.size ≤ b120 := n122.eq ▸ E84.size
   have E124 := qe E84 n122.ext
   have h125 := (h85.ext n122.ext)
   refine lw_e (oe_appendW (base := b67) (L := L) (M := [(cy) % 4294967296]) (m := 1) us86 in168 (Z rfl) (Z rfl) h125 (Wd.ownW (xs := [(cy) % 4294967296]) n122.blk) rfl (by first | omega | simp <;> omega) (by first | omega | simp <;> omega) ?_)
   intro Ad126 c127 w128 hO129 x130
   have E131 := below_bl E124 N71 x130
   refine qs (.slice Ad126 ((L ++ [(cy) % 4294967296]).length) c127) rfl rfl <| qN <| qm (.slice Ad126 ((L ++ [(cy) % 4294967296]).length) c127) rfl rfl <| qs (.slice Ad126 ((L ++ [(cy) % 4294967296]).length) c127) rfl rfl <| lw_nil <| rk_ret Try.func149 (v := .slice Ad126 ((L ++ [(cy) % 4294967296]).length) c127) (res1 Try.results149 (rv_tmp rfl rfl)) ⟨_, rfl, ?_⟩
   exact ⟨_, _, _, rfl, E131, ⟨(L ++ [(cy) % 4294967296]), rfl, hO129.cap, hO129.wd, okW.snoc hok (by omega) (by omega), (by rw [show cy % 4294967296 = cy by omega]; first | exact (add_app_fin hl (by omega) (by omega) hv).1.symm | exact (Int.add_comm _ _).trans (add_app_fin hl (by omega) (by omega) hv).1.symm)⟩, by first | omega | (simp; omega)⟩
 refine rk_cf (T rfl (qF hb119)) <| rk_skip <| rk_seq <| rk_reg <| qm (.slice Ad (L.length) cp) rfl f81 <| qs (.slice Ad (L.length) cp) rfl rfl <| lw_nil <| rk_ret Try.func149 (v := .slice Ad (L.length) cp) (res1 Try.results149 (rv_tmp rfl rfl)) ⟨_, rfl, ?_⟩
 exact ⟨_, _, _, rfl, E84, ⟨L, rfl, h85.cap, h85.wd, hok, (by first | exact ((add_app_fin hl (by omega) (by omega) hv).2 (by omega)).symm | exact (Int.add_comm _ _).trans ((add_app_fin hl (by omega) (by omega) hv).2 (by omega)).symm)⟩, by first | omega | (simp; omega)⟩
theorem l1AddAbs_ws {w : World} {A D : Option Addr} {l c l' d : Nat} {x y : Int} (h : Ws 32 168 .u32 w A l c x) (h' : Ws 32 168 .u32 w D l' d y) (hl : l ≤ 500000) (hl' : l' ≤ 500000) : Ct Try.prog 149 [.slice A l c, .slice D l' d] w fun v w1 =>
 ∃ A' n c', v = .slice A' n c' ∧ Ext w w1 ∧ Ws 32 168 .u32 w1 A' n c' (x + y) ∧ n ≤ l + l' + 1 := by
 obtain ⟨xs, rfl, hc, hw, ho, hv⟩ := h
 obtain ⟨ys, rfl, hc', hw', ho', hv'⟩ := h'
 subst hv; subst hv'
 exact l1AddAbs_ok hw hw' hc hc' ho ho' hl hl'
set_option maxHeartbeats 1000000 in
theorem l1Neg_ok {w : World} {na : Bool} {Aa : Option Addr} {la ca : Nat} {x : Int} {sx : Nat} (ha : Num 32 168 .u32 w na Aa la ca x sx) : Ct Try.prog 144 [.agg #[.bool na, .slice Aa la ca]] w fun v w1 => ∃ nr A' n c', v = .agg #[.bool nr, .slice A' n c'] ∧ Ext w w1 ∧ Num 32 168 .u32 w1 nr A' n c' (-x) (sx) := by
 refine ct_run (n := 14) Try.func144 rfl Try.ntmps144 rfl ?_
 have E0 : Below w.heap.size w w := Below.refl _ _
 refine rk_seq <| rk_reg <| lw_e (oe_box (v := .agg #[.bool na, .slice Aa la ca]) (cs := #[.bool na, .slice Aa la ca]) (Z rfl) rfl ?_)
 intro b1 w2 n3
 have N4 : w.heap.size ≤ b1 := n3.eq ▸ E0.size
 have E5 := qe E0 n3.ext
 refine lw_e (oe_alloc ze88 ?_)
 intro b6 w7 n8
 have N9 : w.heap.size ≤ b6 := n8.eq ▸ E5.size
 have : b1 < b6 := n8.eq ▸ lt_of_blk n3.blk
 have E10 := qe E5 n8.ext
 refine lw_nil <| rk_seq <| rk_seq <| rk_reg <| lw_v (.pointer (some ⟨b1, 1, none⟩)) (dv_fieldAddr (a := ⟨b1, 0, none⟩) (a' := ⟨b1, 1, none⟩) fo88_1 (Z rfl) rfl) ?_
 have H11 := (n8.ext.blk n3.blk)
 refine lw_v (.slice Aa la ca) (dv_load1 (b := b1) (o := 1) agt86 (Z rfl) H11 rfl) <| lw_v (qi (la : Int)) (dv_len (ad := Aa) (l := la) (c := ca) us86 (Z rfl)) <| lw_v _ (dv_eql (a := (la : Int)) (b := 0) (Z rfl) C) <| lw_nil ?_
 by_cases hb12 : ((la : Int)) = 0
 · refine rk_ct (T rfl (qT hb12)) <| rk_seq <| rk_reg <| lw_v (.agg #[.bool na, .slice Aa la ca]) (dv_loads (l := [.bool na, .slice Aa la ca]) agt88 sz88 (Z rfl) H11 rfl) <| lw_e (oe_store (v := .agg #[.bool na, .slice Aa la ca]) (vs := [.bool na, .slice Aa la ca]) (l := [.bool na, .slice Aa la ca]) (Z rfl) (Z rfl) sz88 rfl rfl rfl n8.blk rfl ?_)
   intro w13 s14 H15
   have E16 := below_st E10 N9 s14
   refine lw_nil <| rk_ret Try.func144 (v := .agg #[.bool na, .slice Aa la ca]) (res1 Try.results144 (rv_cells (l := [.bool na, .slice Aa la ca]) agt88 sz88 rfl rfl H15 rfl)) ⟨_, rfl, ?_⟩
   have h17 := ha.ext E16
   exact ⟨_, _, _, _, rfl, E16, h17.to (by have := ha.pos_iff; omega) (Nat.le_refl _)⟩
 refine rk_cf (T rfl (qF hb12)) <| rk_skip <| rk_seq <| rk_reg <| lw_v (.pointer (some ⟨b1, 0, none⟩)) (dv_fieldAddr (a := ⟨b1, 0, none⟩) (a' := ⟨b1, 0, none⟩) fo88_0 (Z rfl) rfl) <| lw_v (.bool na) (dv_load1 (b := b1) (o := 0) agt4 (Z rfl) H11 rfl) <| lw_v (.bool (!na)) (dv_not (Z rfl)) <| lw_v (.pointer (some ⟨b1, 1, none⟩)) (dv_fieldAddr (a := ⟨b1, 0, none⟩) (a' := ⟨b1, 1, none⟩) fo88_1 (Z rfl) rfl) <| lw_v (.slice Aa la ca) (dv_load1 (b := b1) (o := 1) agt86 (Z rfl) H11 rfl) <| lw_v (.agg #[.bool (!na), .slice Aa la ca]) (dv_build (pv := [(0, .bool (!na)), (1, .slice Aa la ca)]) (l := [.bool (!na), .slice Aa la ca]) zc88 pl88 ⟨rfl, (Z rfl), ⟨rfl, (Z rfl), trivial⟩⟩ rfl) <| lw_e (oe_store (v := .agg #[.bool (!na), .slice Aa la ca]) (vs := [.bool (!na), .slice Aa la ca]) (l := [.bool (!na), .slice Aa la ca]) (Z rfl) (Z rfl) sz88 rfl rfl rfl n8.blk rfl ?_)
 intro w18 s19 H20
 have E21 := below_st E10 N9 s19
 refine lw_nil <| rk_ret Try.func144 (v := .agg #[.bool (!na), .slice Aa la ca]) (res1 Try.results144 (rv_cells (l := [.bool (!na), .slice Aa la ca]) agt88 sz88 rfl rfl H20 rfl)) ⟨_, rfl, ?_⟩
 have h22 := ha.ext E21
 exact ⟨_, _, _, _, rfl, E21, Wc.num h22.wc (fun _ => by have := ha.pos_iff; omega) (sg_not ha.neg_iff).symm ha.ltI⟩
set_option maxHeartbeats 1000000 in
theorem l1Add_ok {w : World} {na : Bool} {Aa : Option Addr} {la ca : Nat} {x : Int} {sx : Nat} (ha : Num 32 168 .u32 w na Aa la ca x sx) {nb : Bool} {Ab : Option Addr} {lb cb : Nat} {y : Int} {sy : Nat} (hb : Num 32 168 .u32 w nb Ab lb cb y sy) (hs : sx ≤ 400000) (hs2 : sy ≤ 400000) : Ct Try.prog 137 [.agg #[.bool na, .slice Aa la ca], .agg #[.bool nb, .slice Ab lb cb]] w fun v w1 => ∃ nr A' n c', v = .agg #[.bool nr, .slice A' n c'] ∧ Ext w w1 ∧ Num 32 168 .u32 w1 nr A' n c' (x + y) (max sx sy + 1) := by
 refine ct_run (n := 40) Try.func137 rfl Try.ntmps137 rfl ?_
 have E0 : Below w.heap.size w w := Below.refl _ _
 have lha := ql ha
 have lhb := ql hb
 refine rk_seq <| rk_reg <| lw_e (oe_box (v := .agg #[.bool na, .slice Aa la ca]) (cs := #[.bool na, .slice Aa la ca]) (Z rfl) rfl ?_)
 intro b1 w2 n3
 have N4 : w.heap.size ≤ b1 := n3.eq ▸ E0.size
 have E5 := qe E0 n3.ext
 refine lw_e (oe_box (v := .agg #[.bool nb, .slice Ab lb cb]) (cs := #[.bool nb, .slice Ab lb cb]) (Z rfl) rfl ?_)
 intro b6 w7 n8
 have N9 : w.heap.size ≤ b6 := n8.eq ▸ E5.size
 have : b1 < b6 := n8.eq ▸ lt_of_blk n3.blk
 have E10 := qe E5 n8.ext
 refine lw_e (oe_alloc ze88 ?_)
 intro b11 w12 n13
 have N14 : w.heap.size ≤ b11 := n13.eq ▸ E10.size
 have : b6 < b11 := n13.eq ▸ lt_of_blk n8.blk
 have E15 := qe E10 n13.ext
 refine lw_nil <| rk_seq <| rk_seq <| rk_reg <| lw_v (.pointer (some ⟨b1, 0, none⟩)) (dv_fieldAddr (a := ⟨b1, 0, none⟩) (a' := ⟨b1, 0, none⟩) fo88_0 (Z rfl) rfl) ?_
 have H16 := (n13.ext.blk (n8.ext.blk n3.blk))
 refine lw_v (.bool na) (dv_load1 (b := b1) (o := 0) agt4 (Z rfl) H16 rfl) <| lw_v (.pointer (some ⟨b6, 0, none⟩)) (dv_fieldAddr (a := ⟨b6, 0, none⟩) (a' := ⟨b6, 0, none⟩) fo88_0 (Z rfl) rfl) ?_
 have H17 := (n13.ext.blk n8.blk)
 refine lw_v (.bool nb) (dv_load1 (b := b6) (o := 0) agt4 (Z rfl) H17 rfl) <| lw_v (.bool (na == nb)) (dv_eqlb (a := na) (b := nb) ub4 (Z rfl) (Z rfl)) <| lw_nil ?_
 rcases Bool.eq_false_or_eq_true (na == nb) with hb18 | hb18
 · refine rk_ct (T rfl (congrArg Value.bool hb18)) <| rk_seq <| rk_any (fun w => w.heap[b1]? = some (.cells #[.bool na, .slice Aa la ca] 88) ∧ w.heap[b6]? = some (.cells #[.bool nb, .slice Ab lb cb] 88)) [8] mo ?_
   intro w19 d20
   have E21 := qe E15 d20.ext
   have H22 := (d20.ext.blk H16)
   have H23 := (d20.ext.blk H17)
   refine aw_pure 0 (.pointer (some ⟨b1, 0, none⟩)) rfl (by kernel_rfl) .none ⟨H22, H23⟩ (fun _ => dv_fieldAddr (a := ⟨b1, 0, none⟩) (a' := ⟨b1, 0, none⟩) fo88_0 (Z rfl) rfl) <| aw_load 1 (.bool na) rfl (by kernel_rfl) .none ⟨H22, H23⟩ (fun _ s => dv_load1 (b := b1) (o := 0) agt4 (Z rfl) s.1 rfl) <| aw_pure 2 (.pointer (some ⟨b1, 1, none⟩)) rfl (by kernel_rfl) .none ⟨H22, H23⟩ (fun _ => dv_fieldAddr (a := ⟨b1, 0, none⟩) (a' := ⟨b1, 1, none⟩) fo88_1 (Z rfl) rfl) <| aw_load 3 (.slice Aa la ca) rfl (by kernel_rfl) .none ⟨H22, H23⟩ (fun _ s => dv_load1 (b := b1) (o := 1) agt86 (Z rfl) s.1 rfl) <| aw_pure 4 (.pointer (some ⟨b6, 1, none⟩)) rfl (by kernel_rfl) .none ⟨H22, H23⟩ (fun _ => dv_fieldAddr (a := ⟨b6, 0, none⟩) (a' := ⟨b6, 1, none⟩) fo88_1 (Z rfl) rfl) <| aw_load 5 (.slice Ab lb cb) rfl (by kernel_rfl) .none ⟨H22, H23⟩ (fun _ s => dv_load1 (b := b6) (o := 1) agt86 (Z rfl) s.2 rfl) ?_
   have h24 := ((((ha.ext n3.ext).ext n8.ext).ext n13.ext).ext d20.ext)
   have h25 := ((((hb.ext n3.ext).ext n8.ext).ext n13.ext).ext d20.ext)
   refine aw_one 6 rfl (by kernel_rfl) .none (oe_callf (vs := [.slice Aa la ca, .slice Ab lb cb]) co149 (ar2 (Z rfl) (Z rfl)) (l1AddAbs_ws h24.wc.ws h25.wc.ws (by omega) (by omega)) ?_)
   rintro _ w30 ⟨A26, n27, c28, rfl, e31, h29, hnh29⟩
   have E32 := qe E21 e31
   have H33 := (e31.blk H22)
   have H34 := (e31.blk H23)
   refine ⟨.inr ⟨H33, H34⟩, ?_⟩
   refine aw_one 7 rfl (by kernel_rfl) .none (oe_callf (vs := [.bool na, .slice A26 n27 c28]) co131 (ar2 (Z rfl) (Z rfl)) (l1Trim_num (s := (max sx sy + 1)) (neg := na) h29 (by omega) (sz_add h24.ltI h25.ltI)) ?_)
   rintro _ w40 ⟨nb35, A36, n37, c38, rfl, e41, hn39⟩
   have E42 := qe E32 e41
   have lhn39 := ql hn39
   have H43 := (e41.blk H33)
   have H44 := (e41.blk H34)
   refine ⟨.inr ⟨H43, H44⟩, ?_⟩
   have H45 := (e41.blk (e31.blk (d20.ext.blk n13.blk)))
   refine aw_one 8 rfl (by kernel_rfl) .none (oe_store (v := .agg #[.bool nb35, .slice A36 n37 c38]) (vs := [.bool nb35, .slice A36 n37 c38]) (l := [.bool nb35, .slice A36 n37 c38]) (Z rfl) (Z rfl) sz88 rfl rfl rfl H45 rfl ?_)
   intro w46 s47 H48
   have E49 := below_st E42 N14 s47
   refine ⟨.inl rfl, ?_⟩
   refine aw_done (by kernel_rfl) <| rk_ret Try.func137 (v := .agg #[.bool nb35, .slice A36 n37 c38]) (res1 Try.results137 (rv_cells (l := [.bool nb35, .slice A36 n37 c38]) agt88 sz88 rfl rfl H48 rfl)) ⟨_, rfl, ?_⟩
   have h50 := (hn39.st s47 H45 (by decide))
   exact ⟨_, _, _, _, rfl, E49, h50.to (sg_add ha.neg_iff hb.neg_iff (by assumption)) (Nat.le_refl _)⟩
 refine rk_cf (T rfl (congrArg Value.bool hb18)) <| rk_skip <| rk_seq <| rk_seq <| rk_reg <| lw_v (.pointer (some ⟨b1, 1, none⟩)) (dv_fieldAddr (a := ⟨b1, 0, none⟩) (a' := ⟨b1, 1, none⟩) fo88_1 (Z rfl) rfl) <| lw_v (.slice Aa la ca) (dv_load1 (b := b1) (o := 1) agt86 (Z rfl) H16 rfl) <| lw_v (.pointer (some ⟨b6, 1, none⟩)) (dv_fieldAddr (a := ⟨b6, 0, none⟩) (a' := ⟨b6, 1, none⟩) fo88_1 (Z rfl) rfl) <| lw_v (.slice Ab lb cb) (dv_load1 (b := b6) (o := 1) agt86 (Z rfl) H17 rfl) ?_
 have h51 := (((ha.ext n3.ext).ext n8.ext).ext n13.ext)
 have h52 := (((hb.ext n3.ext).ext n8.ext).ext n13.ext)
 refine lw_e (oe_callf (vs := [.slice Aa la ca, .slice Ab lb cb]) co145 (ar2 (Z rfl) (Z rfl)) (l1CmpAbs_wc h51.wc h52.wc (by omega) (by omega)) ?_)
 rintro _ w55 ⟨r53, rfl, e56, hr54⟩
 have E57 := qe E15 e56
 have qhr54 := cmpR.ge hr54
 have phr54 := cmpR.eq hr54
 have ohr54 := cmpR.gt hr54
 refine lw_v _ (dv_geq (a := r53) (b := 0) (Z rfl) C) <| lw_nil ?_
 by_cases hb58 : 0 ≤ r53
 · refine rk_ct (T rfl (qT hb58)) <| rk_seq <| rk_any (fun w => w.heap[b1]? = some (.cells #[.bool na, .slice Aa la ca] 88) ∧ w.heap[b6]? = some (.cells #[.bool nb, .slice Ab lb cb] 88)) [8] mo ?_
   intro w59 d60
   have E61 := qe E57 d60.ext
   have H62 := (d60.ext.blk (e56.blk H16))
   have H63 := (d60.ext.blk (e56.blk H17))
   refine aw_pure 0 (.pointer (some ⟨b1, 0, none⟩)) rfl (by kernel_rfl) .none ⟨H62, H63⟩ (fun _ => dv_fieldAddr (a := ⟨b1, 0, none⟩) (a' := ⟨b1, 0, none⟩) fo88_0 (Z rfl) rfl) <| aw_load 1 (.bool na) rfl (by kernel_rfl) .none ⟨H62, H63⟩ (fun _ s => dv_load1 (b := b1) (o := 0) agt4 (Z rfl) s.1 rfl) <| aw_pure 2 (.pointer (some ⟨b1, 1, none⟩)) rfl (by kernel_rfl) .none ⟨H62, H63⟩ (fun _ => dv_fieldAddr (a := ⟨b1, 0, none⟩) (a' := ⟨b1, 1, none⟩) fo88_1 (Z rfl) rfl) <| aw_load 3 (.slice Aa la ca) rfl (by kernel_rfl) .none ⟨H62, H63⟩ (fun _ s => dv_load1 (b := b1) (o := 1) agt86 (Z rfl) s.1 rfl) <| aw_pure 4 (.pointer (some ⟨b6, 1, none⟩)) rfl (by kernel_rfl) .none ⟨H62, H63⟩ (fun _ => dv_fieldAddr (a := ⟨b6, 0, none⟩) (a' := ⟨b6, 1, none⟩) fo88_1 (Z rfl) rfl) <| aw_load 5 (.slice Ab lb cb) rfl (by kernel_rfl) .none ⟨H62, H63⟩ (fun _ s => dv_load1 (b := b6) (o := 1) agt86 (Z rfl) s.2 rfl) ?_
   have h64 := ((h51.ext e56).ext d60.ext)
   have h65 := ((h52.ext e56).ext d60.ext)
   refine aw_one 6 rfl (by kernel_rfl) .none (oe_callf (vs := [.slice Aa la ca, .slice Ab lb cb]) co132 (ar2 (Z rfl) (Z rfl)) (l1SubAbs_ws h64.wc.ws h65.wc.ws (by omega) (by omega) (by exact len_le32 h64.wc h65.wc (by omega)) (by omega)) ?_)
   rintro _ w70 ⟨A66, n67, c68, rfl, e71, h69, hnh69⟩
   have E72 := qe E61 e71
   have H73 := (e71.blk H62)
   have H74 := (e71.blk H63)
   refine ⟨.inr ⟨H73, H74⟩, ?_⟩
   refine aw_one 7 rfl (by kernel_rfl) .none (oe_callf (vs := [.bool na, .slice A66 n67 c68]) co131 (ar2 (Z rfl) (Z rfl)) (l1Trim_num (s := sx) (neg := na) h69 (by omega) (sz_sub h64.ltI (Wc.nonneg h65.wc))) ?_)
   rintro _ w80 ⟨nb75, A76, n77, c78, rfl, e81, hn79⟩
   have E82 := qe E72 e81
   have lhn79 := ql hn79
   have H83 := (e81.blk H73)
   have H84 := (e81.blk H74)
   refine ⟨.inr ⟨H83, H84⟩, ?_⟩
   have H85 := (e81.blk (e71.blk (d60.ext.blk (e56.blk n13.blk))))
   refine aw_one 8 rfl (by kernel_rfl) .none (oe_store (v := .agg #[.bool nb75, .slice A76 n77 c78]) (vs := [.bool nb75, .slice A76 n77 c78]) (l := [.bool nb75, .slice A76 n77 c78]) (Z rfl) (Z rfl) sz88 rfl rfl rfl H85 rfl ?_)
   intro w86 s87 H88
   have E89 := below_st E82 N14 s87
   refine ⟨.inl rfl, ?_⟩
   refine aw_done (by kernel_rfl) <| rk_ret Try.func137 (v := .agg #[.bool nb75, .slice A76 n77 c78]) (res1 Try.results137 (rv_cells (l := [.bool nb75, .slice A76 n77 c78]) agt88 sz88 rfl rfl H88 rfl)) ⟨_, rfl, ?_⟩
   have h90 := (hn79.st s87 H85 (by decide))
   exact ⟨_, _, _, _, rfl, E89, h90.to (sg_sub ha.neg_iff hb.neg_iff (by assumption)) (by omega)⟩
 refine rk_cf (T rfl (qF hb58)) <| rk_skip <| rk_seq <| rk_any (fun w => w.heap[b6]? = some (.cells #[.bool nb, .slice Ab lb cb] 88) ∧ w.heap[b1]? = some (.cells #[.bool na, .slice Aa la ca] 88)) [8] mo ?_
 intro w91 d92
 have E93 := qe E57 d92.ext
 have H94 := (d92.ext.blk (e56.blk H17))
 have H95 := (d92.ext.blk (e56.blk H16))
 refine aw_pure 0 (.pointer (some ⟨b6, 0, none⟩)) rfl (by kernel_rfl) .none ⟨H94, H95⟩ (fun _ => dv_fieldAddr (a := ⟨b6, 0, none⟩) (a' := ⟨b6, 0, none⟩) fo88_0 (Z rfl) rfl) <| aw_load 1 (.bool nb) rfl (by kernel_rfl) .none ⟨H94, H95⟩ (fun _ s => dv_load1 (b := b6) (o := 0) agt4 (Z rfl) s.1 rfl) <| aw_pure 2 (.pointer (some ⟨b6, 1, none⟩)) rfl (by kernel_rfl) .none ⟨H94, H95⟩ (fun _ => dv_fieldAddr (a := ⟨b6, 0, none⟩) (a' := ⟨b6, 1, none⟩) fo88_1 (Z rfl) rfl) <| aw_load 3 (.slice Ab lb cb) rfl (by kernel_rfl) .none ⟨H94, H95⟩ (fun _ s => dv_load1 (b := b6) (o := 1) agt86 (Z rfl) s.1 rfl) <| aw_pure 4 (.pointer (some ⟨b1, 1, none⟩)) rfl (by kernel_rfl) .none ⟨H94, H95⟩ (fun _ => dv_fieldAddr (a := ⟨b1, 0, none⟩) (a' := ⟨b1, 1, none⟩) fo88_1 (Z rfl) rfl) <| aw_load 5 (.slice Aa la ca) rfl (by kernel_rfl) .none ⟨H94, H95⟩ (fun _ s => dv_load1 (b := b1) (o := 1) agt86 (Z rfl) s.2 rfl) ?_
 have h96 := ((h52.ext e56).ext d92.ext)
 have h97 := ((h51.ext e56).ext d92.ext)
 refine aw_one 6 rfl (by kernel_rfl) .none (oe_callf (vs := [.slice Ab lb cb, .slice Aa la ca]) co132 (ar2 (Z rfl) (Z rfl)) (l1SubAbs_ws h96.wc.ws h97.wc.ws (by omega) (by omega) (by exact len_le32 h96.wc h97.wc (by omega)) (by omega)) ?_)
 rintro _ w102 ⟨A98, n99, c100, rfl, e103, h101, hnh101⟩
 have E104 := qe E93 e103
 have H105 := (e103.blk H94)
 have H106 := (e103.blk H95)
 refine ⟨.inr ⟨H105, H106⟩, ?_⟩
 refine aw_one 7 rfl (by kernel_rfl) .none (oe_callf (vs := [.bool nb, .slice A98 n99 c100]) co131 (ar2 (Z rfl) (Z rfl)) (l1Trim_num (s := sy) (neg := nb) h101 (by omega) (sz_sub h96.ltI (Wc.nonneg h97.wc))) ?_)
 rintro _ w112 ⟨nb107, A108, n109, c110, rfl, e113, hn111⟩
 have E114 := qe E104 e113
 have lhn111 := ql hn111
 have H115 := (e113.blk H105)
 have H116 := (e113.blk H106)
 refine ⟨.inr ⟨H115, H116⟩, ?_⟩
 have H117 := (e113.blk (e103.blk (d92.ext.blk (e56.blk n13.blk))))
 refine aw_one 8 rfl (by kernel_rfl) .none (oe_store (v := .agg #[.bool nb107, .slice A108 n109 c110]) (vs := [.bool nb107, .slice A108 n109 c110]) (l := [.bool nb107, .slice A108 n109 c110]) (Z rfl) (Z rfl) sz88 rfl rfl rfl H117 rfl ?_)
 intro w118 s119 H120
 have E121 := below_st E114 N14 s119
 refine ⟨.inl rfl, ?_⟩
 refine aw_done (by kernel_rfl) <| rk_ret Try.func137 (v := .agg #[.bool nb107, .slice A108 n109 c110]) (res1 Try.results137 (rv_cells (l := [.bool nb107, .slice A108 n109 c110]) agt88 sz88 rfl rfl H120 rfl)) ⟨_, rfl, ?_⟩
 have h122 := (hn111.st s119 H117 (by decide))
 exact ⟨_, _, _, _, rfl, E121, h122.to (sg_sub' ha.neg_iff hb.neg_iff (by assumption)) (by omega)⟩
set_option maxHeartbeats 1000000 in
theorem l1Sub_ok {w : World} {na : Bool} {Aa : Option Addr} {la ca : Nat} {x : Int} {sx : Nat} (ha : Num 32 168 .u32 w na Aa la ca x sx) {nb : Bool} {Ab : Option Addr} {lb cb : Nat} {y : Int} {sy : Nat} (hb : Num 32 168 .u32 w nb Ab lb cb y sy) (hs : sx ≤ 400000) (hs2 : sy ≤ 400000) : Ct Try.prog 129 [.agg #[.bool na, .slice Aa la ca], .agg #[.bool nb, .slice Ab lb cb]] w fun v w1 => ∃ nr A' n c', v = .agg #[.bool nr, .slice A' n c'] ∧ Ext w w1 ∧ Num 32 168 .u32 w1 nr A' n c' (x - y) (max sx sy + 1) := by
 refine ct_run (n := 9) Try.func129 rfl Try.ntmps129 rfl ?_
 have E0 : Below w.heap.size w w := Below.refl _ _
 refine rk_seq <| rk_reg <| lw_e (oe_box (v := .agg #[.bool na, .slice Aa la ca]) (cs := #[.bool na, .slice Aa la ca]) (Z rfl) rfl ?_)
 intro b1 w2 n3
 have N4 : w.heap.size ≤ b1 := n3.eq ▸ E0.size
 have E5 := qe E0 n3.ext
 refine lw_e (oe_box (v := .agg #[.bool nb, .slice Ab lb cb]) (cs := #[.bool nb, .slice Ab lb cb]) (Z rfl) rfl ?_)
 intro b6 w7 n8
 have N9 : w.heap.size ≤ b6 := n8.eq ▸ E5.size
 have : b1 < b6 := n8.eq ▸ lt_of_blk n3.blk
 have E10 := qe E5 n8.ext
 refine lw_e (oe_alloc ze88 ?_)
 intro b11 w12 n13
 have N14 : w.heap.size ≤ b11 := n13.eq ▸ E10.size
 have : b6 < b11 := n13.eq ▸ lt_of_blk n8.blk
 have E15 := qe E10 n13.ext
 refine lw_nil <| rk_seq <| rk_any (fun w => w.heap[b1]? = some (.cells #[.bool na, .slice Aa la ca] 88) ∧ w.heap[b6]? = some (.cells #[.bool nb, .slice Ab lb cb] 88)) [4] mo ?_
 intro w16 d17
 have E18 := qe E15 d17.ext
 have H19 := (d17.ext.blk (n13.ext.blk (n8.ext.blk n3.blk)))
 have H20 := (d17.ext.blk (n13.ext.blk n8.blk))
 refine aw_load 0 (.agg #[.bool na, .slice Aa la ca]) rfl (by kernel_rfl) .none ⟨H19, H20⟩ (fun _ s => dv_loads (l := [.bool na, .slice Aa la ca]) agt88 sz88 (Z rfl) s.1 rfl) <| aw_load 1 (.agg #[.bool nb, .slice Ab lb cb]) rfl (by kernel_rfl) .none ⟨H19, H20⟩ (fun _ s => dv_loads (l := [.bool nb, .slice Ab lb cb]) agt88 sz88 (Z rfl) s.2 rfl) ?_
 have h21 := ((((hb.ext n3.ext).ext n8.ext).ext n13.ext).ext d17.ext)
 refine aw_one 2 rfl (by kernel_rfl) .none (oe_callf (vs := [.agg #[.bool nb, .slice Ab lb cb]]) co144 (ar1 (Z rfl)) (l1Neg_ok h21 ) ?_)
 rintro _ w27 ⟨nr22, A23, n24, c25, rfl, e28, h26⟩
 have E29 := qe E18 e28
 have lh26 := ql h26
 have H30 := (e28.blk H19)
 have H31 := (e28.blk H20)
 refine ⟨.inr ⟨H30, H31⟩, ?_⟩
 have h32 := (((((ha.ext n3.ext).ext n8.ext).ext n13.ext).ext d17.ext).ext e28)
 refine aw_one 3 rfl (by kernel_rfl) .none (oe_callf (vs := [.agg #[.bool na, .slice Aa la ca], .agg #[.bool nr22, .slice A23 n24 c25]]) co137 (ar2 (Z rfl) (Z rfl)) (l1Add_ok h32 h26 (by first | decide | omega) (by first | decide | omega)) ?_)
 rintro _ w38 ⟨nr33, A34, n35, c36, rfl, e39, h37⟩
 have E40 := qe E29 e39
 have lh37 := ql h37
 have H41 := (e39.blk H30)
 have H42 := (e39.blk H31)
 refine ⟨.inr ⟨H41, H42⟩, ?_⟩
 have H43 := (e39.blk (e28.blk (d17.ext.blk n13.blk)))
 refine aw_one 4 rfl (by kernel_rfl) .none (oe_store (v := .agg #[.bool nr33, .slice A34 n35 c36]) (vs := [.bool nr33, .slice A34 n35 c36]) (l := [.bool nr33, .slice A34 n35 c36]) (Z rfl) (Z rfl) sz88 rfl rfl rfl H43 rfl ?_)
 intro w44 s45 H46
 have E47 := below_st E40 N14 s45
 refine ⟨.inl rfl, ?_⟩
 refine aw_done (by kernel_rfl) <| rk_ret Try.func129 (v := .agg #[.bool nr33, .slice A34 n35 c36]) (res1 Try.results129 (rv_cells (l := [.bool nr33, .slice A34 n35 c36]) agt88 sz88 rfl rfl H46 rfl)) ⟨_, rfl, ?_⟩
 have h48 := (h37.st s45 H43 (by decide))
 exact ⟨_, _, _, _, rfl, E47, h48.to (by omega) (by omega)⟩
set_option maxHeartbeats 1000000 in
theorem l1Cmp_ok {w : World} {na : Bool} {Aa : Option Addr} {la ca : Nat} {x : Int} {sx : Nat} (ha : Num 32 168 .u32 w na Aa la ca x sx) {nb : Bool} {Ab : Option Addr} {lb cb : Nat} {y : Int} {sy : Nat} (hb : Num 32 168 .u32 w nb Ab lb cb y sy) (hs : sx ≤ 400000) (hs2 : sy ≤ 400000) : Ct Try.prog 97 [.agg #[.bool na, .slice Aa la ca], .agg #[.bool nb, .slice Ab lb cb]] w fun v w1 => v = .int .i64 (sgnI (x - y)) ∧ Ext w w1 := by
 refine ct_run (n := 9) Try.func97 rfl Try.ntmps97 rfl ?_
 have E0 : Below w.heap.size w w := Below.refl _ _
 refine rk_seq <| rk_reg <| lw_e (oe_box (v := .agg #[.bool na, .slice Aa la ca]) (cs := #[.bool na, .slice Aa la ca]) (Z rfl) rfl ?_)
 intro b1 w2 n3
 have N4 : w.heap.size ≤ b1 := n3.eq ▸ E0.size
 have E5 := qe E0 n3.ext
 refine lw_e (oe_box (v := .agg #[.bool nb, .slice Ab lb cb]) (cs := #[.bool nb, .slice Ab lb cb]) (Z rfl) rfl ?_)
 intro b6 w7 n8
 have N9 : w.heap.size ≤ b6 := n8.eq ▸ E5.size
 have : b1 < b6 := n8.eq ▸ lt_of_blk n3.blk
 have E10 := qe E5 n8.ext
 refine lw_v (qi 0) (dv_assign C) <| qN ?_
 have H11 := (n8.ext.blk n3.blk)
 refine lw_v (.agg #[.bool na, .slice Aa la ca]) (dv_loads (l := [.bool na, .slice Aa la ca]) agt88 sz88 (Z rfl) H11 rfl) <| lw_v (.agg #[.bool nb, .slice Ab lb cb]) (dv_loads (l := [.bool nb, .slice Ab lb cb]) agt88 sz88 (Z rfl) n8.blk rfl) ?_
 have h12 := ((ha.ext n3.ext).ext n8.ext)
 have h13 := ((hb.ext n3.ext).ext n8.ext)
 refine lw_e (oe_callf (vs := [.agg #[.bool na, .slice Aa la ca], .agg #[.bool nb, .slice Ab lb cb]]) co129 (ar2 (Z rfl) (Z rfl)) (l1Sub_ok h12 h13 (by first | decide | omega) (by first | decide | omega)) ?_)
 rintro _ w19 ⟨nr14, A15, n16, c17, rfl, e20, h18⟩
 have E21 := qe E10 e20
 have lh18 := ql h18
 refine lw_e (oe_callf (vs := [.agg #[.bool nr14, .slice A15 n16 c17]]) co95 (ar1 (Z rfl)) (l1Sign_ok h18 ) ?_)
 rintro _ w22 ⟨rfl, e23⟩
 have E24 := qe E21 e23
 refine qs (qi (sgnI (x - y))) rfl rfl <| lw_nil <| rk_ret Try.func97 (v := qi (sgnI (x - y))) (res1 Try.results97 (rv_tmp rfl rfl)) ⟨_, rfl, ?_⟩
 exact ⟨rfl, E24⟩
set_option maxHeartbeats 1000000 in
theorem l1Bits_ok {w : World} {A : Option Addr} {c : Nat} {xs : List Int} (hx : Wd w 168 .u32 A xs) (hc : xs.length ≤ c) (ox : okW (2 ^ 32) xs) (cx : canon xs) (lx : xs.length ≤ 1000000) : Ct Try.prog 128 [.slice A (xs.length) c] w fun v w1 => v = .int .i64 (nbits (valB (2 ^ 32) xs).toNat : Int) ∧ Ext w w1 := by
 refine ct_run (n := 25) Try.func128 rfl Try.ntmps128 rfl ?_
 have E0 : Below w.heap.size w w := Below.refl _ _
 have bt := fun h => canon_top ox cx h
 have bn := fun h => nbits_top ox h (canon_top ox cx h)
 have bg := okW.getD ox (by decide) (xs.length - 1)
 have bv : valB (2 ^ 32) xs < 2 ^ (32 * xs.length) := valB_sz ox rfl
 have bl : nbits (valB (2 ^ 32) xs).toNat ≤ 32 * xs.length := nbits_len ox
 refine rk_seq <| rk_reg <| lw_v (qi 0) (dv_assign C) <| lw_nil <| rk_seq <| rk_seq <| rk_reg <| qm (.slice A (xs.length) c) rfl rfl <| lw_v (qi (xs.length : Int)) (dv_len (ad := A) (l := xs.length) (c := c) us86 (Z rfl)) <| lw_v _ (dv_eql (a := (xs.length : Int)) (b := 0) (Z rfl) C) <| lw_nil ?_
 by_cases hb1 : ((xs.length : Int)) = 0
 · refine rk_ct (T rfl (qT hb1)) <| rk_seq <| rk_reg <| lw_v (qi 0) (dv_assign C) <| lw_nil <| rk_ret Try.func128 (v := qi 0) (res1 Try.results128 (rv_tmp rfl rfl)) ⟨_, rfl, ?_⟩
   exact ⟨vi (by have h0 : xs = [] := List.eq_nil_of_length_eq_zero (by omega); simp [h0, valB, nbits]), E0⟩
 refine rk_cf (T rfl (qF hb1)) <| rk_skip <| rk_seq <| rk_reg <| qm (.slice A (xs.length) c) rfl rfl <| lw_v (qi (xs.length : Int)) (dv_len (ad := A) (l := xs.length) (c := c) us86 (Z rfl)) <| lw_v _ (dv_sub (a := (xs.length : Int)) (b := 1) (z := (xs.length : Int) - 1) (Z rfl) C (wr_i64 (by omega) (by omega))) <| lw_v _ (dv_mul (a := (xs.length : Int) - 1) (b := 32) (z := ((xs.length : Int) - 1) * 32) (Z rfl) C (wr_i64 (by omega) (by omega))) <| qs (qi (((xs.length : Int) - 1) * 32)) rfl rfl <| qN <| qm (.slice A (xs.length) c) rfl rfl <| qm (.slice A (xs.length) c) rfl rfl <| lw_v (qi (xs.length : Int)) (dv_len (ad := A) (l := xs.length) (c := c) us86 (Z rfl)) <| lw_v _ (dv_sub (a := (xs.length : Int)) (b := 1) (z := (xs.length : Int) - 1) (Z rfl) C (wr_i64 (by omega) (by omega))) ?_
 obtain ⟨g2, o3, rfl⟩ := Wd.at hx (by first | omega | simp <;> omega)
 refine lw_v (.pointer (some ⟨g2, o3 + ((xs.length) - 1), none⟩)) (dv_indexW (g := g2) (o := o3) (l := xs.length) (c := c) (i := ((xs.length) - 1)) (j := (xs.length : Int) - 1) us86 sz168 (Z rfl) (Z rfl) (by omega) (by first | omega | simp <;> omega)) <| lw_v (.int .u32 (xs.getD (((xs.length) - 1)) 0)) (dv_load agt168 (Z rfl) (Wd.cell hx (by first | omega | simp <;> omega))) <| qs (.int .u32 (xs.getD (((xs.length) - 1)) 0)) rfl rfl <| lw_nil <| rk_seq <| rk_block <| rk_loop (fun dm_ fr wl => ∃ (x q : Int), dm_ = x.toNat ∧ fr 2 = qi 0 ∧ fr 3 = qi q ∧ fr 4 = .int .u32 x ∧ Below w.heap.size w wl ∧ (0 ≤ x ∧ x < 4294967296) ∧ (0 ≤ q ∧ q + (nbits x.toNat : Int) = (nbits (valB (2 ^ 32) xs).toNat : Int)) ∧ (nbits x.toNat ≤ 32)) ((xs.getD (((xs.length) - 1)) 0).toNat) ⟨xs.getD (((xs.length) - 1)) 0, ((xs.length : Int) - 1) * 32, rfl, rfl, rfl, rfl, E0, (by omega), (by omega), (nbits_le_iff.2 (by omega))⟩ ?_
 intro d8 fr7 w4 hI5 ih6
 obtain ⟨x, q, hd13, f9, f10, f11, E12, hx0, hq, hnb⟩ := hI5
 have hh : 0 < x → nbits x.toNat = nbits (x / 2).toNat + 1 := fun h => by rw [nbits_half (by omega), show (x / 2).toNat = x.toNat / 2 by omega]
 refine rk_seq <| rk_seq <| rk_reg <| qm (.int .u32 x) rfl f11 <| lw_v _ (dv_gtr (a := x) (b := 0) (Z rfl) C) <| lw_nil ?_
 by_cases hb14 : 0 < x
 · refine rk_ct (T rfl (qT hb14)) <| rk_skip <| rk_block <| rk_seq <| rk_reg <| qm (qi q) rfl f10 <| lw_v _ (dv_add (a := q) (b := 1) (z := q + 1) (Z rfl) C (wr_i64 (by omega) (by omega))) <| qs (qi (q + 1)) rfl rfl <| lw_nil <| rk_reg <| qm (.int .u32 x) rfl f11 <| lw_v (.int .u32 (x / 2)) (dv_shr (a := x) (b := 1) (z := x / 2) (Z rfl) C (by decide) (shr_c (n := 1) (by omega) (by decide))) <| qs (.int .u32 (x / 2)) rfl rfl <| lw_nil <| rk_inBlock <| ih6 ((x / 2).toNat) _ _ (by rw [hd13]; omega) ⟨x / 2, q + 1, rfl, f9, rfl, rfl, E12, (by omega), (by omega), (by omega)⟩
 refine rk_cf (T rfl (qF hb14)) <| rk_exit rfl <| rk_seq <| rk_reg <| qm (qi q) rfl f10 <| qs (qi q) rfl rfl <| lw_nil <| rk_ret Try.func128 (v := qi q) (res1 Try.results128 (rv_tmp rfl rfl)) ⟨_, rfl, ?_⟩
 exact ⟨vi (by have h0 : nbits x.toNat = 0 := (congrArg nbits (show x.toNat = 0 by omega)).trans nbits_zero; omega), E12⟩
theorem l1Bits_wc {w : World} {A : Option Addr} {l c : Nat} {x : Int} (h : Wc 32 168 .u32 w A l c x) (hl : l ≤ 1000000) : Ct Try.prog 128 [.slice A l c] w fun v w1 => v = .int .i64 (nbits x.toNat : Int) ∧ Ext w w1 := by
 obtain ⟨xs, rfl, hc, hw, ho, hk, rfl⟩ := h
 exact l1Bits_ok hw hc ho hk hl
end Go.Proofs.Ytmbpomcbdopgnaa.W
namespace Go.Proofs
open Go.Shelf
def Try.lays134_ren : Go.Shelf.Ren := ⟨fun | 134 => 134 | 129 => 146 | n => n, fun | 53 => 36 | 3 => 3 | 4 => 4 | 46 => 158 | 5 => 5 | 9 => 9 | n => n, fun | n => n⟩
theorem Try.lays134 : Go.Proofs.Lays.n134 Try.prog Try.lays134_ren := {
 mixed := by kernel_rfl
 f129 := Try.func146.trans (congrArg some (by kernel_rfl))
 f134 := Try.func134.trans (congrArg some (by kernel_rfl))
 t3 := Try.underlying3
 a3 := Try.isAgg3
 z3 := Try.sizeOf3
 v3 := Try.zeroValue3
 t4 := Try.underlying4
 a4 := Try.isAgg4
 z4 := Try.sizeOf4
 v4 := Try.zeroValue4
 t5 := Try.underlying5
 a5 := Try.isAgg5
 z5 := Try.sizeOf5
 v5 := Try.zeroValue5
 t9 := Try.underlying9
 a9 := Try.isAgg9
 z9 := Try.sizeOf9
 v9 := Try.zeroValue9
 t46 := Try.underlying158
 a46 := Try.isAgg158
 z46 := Try.sizeOf158
 v46 := Try.zeroValue158
 t53 := Try.underlying36
 a53 := Try.isAgg36
 z53 := Try.sizeOf36
 v53 := Try.zeroValue36 }
theorem Try.bits_LeadingZeros64 (x : Int) (w : World) (h0 : 0 ≤ x) (h1 : x ≤ 18446744073709551615) :
 Calls Try.prog 134 #[.int .u64 x] w fun e w' => e = .returned (.int .i64 (64 - (Lib.bitLen x.toNat : Int))) ∧ w' = w := Any.bits_LeadingZeros64 Try.lays134 x w h0 h1
def Try.lays264_ren : Go.Shelf.Ren := ⟨fun | 264 => 115 | n => n, fun | 53 => 36 | 46 => 158 | n => n, fun | n => n⟩
theorem Try.lays264 : Go.Proofs.Lays.n264 Try.prog Try.lays264_ren := {
 mixed := by kernel_rfl
 f264 := Try.func115.trans (congrArg some (by kernel_rfl))
 t46 := Try.underlying158
 a46 := Try.isAgg158
 z46 := Try.sizeOf158
 v46 := Try.zeroValue158
 t53 := Try.underlying36
 a53 := Try.isAgg36
 z53 := Try.sizeOf36
 v53 := Try.zeroValue36 }
open Go.RowKit Go.Lib in
theorem Try.bits_Mul64 (x y : Nat) (hx : x < 18446744073709551616) (hy : y < 18446744073709551616) (w : World) :
 Calls Try.prog 115 #[.int .u64 x, .int .u64 y] w fun e w' => e = .returned (.tuple #[.int .u64 ((x * y / 18446744073709551616 : Nat) : Int), .int .u64 ((x * y % 18446744073709551616 : Nat) : Int)]) ∧ w' = w := Any.bits_Mul64 Try.lays264 x y hx hy w
def Try.laysSlE041_f136_ren : Go.Shelf.Ren := ⟨fun | 41 => 136 | n => n, fun | 22 => 105 | 23 => 36 | 4 => 4 | n => n, fun | n => n⟩
theorem Try.laysSlE041_f136 : Go.Proofs.SlLaysE0.n41 Try.prog Try.laysSlE041_f136_ren := {
 mixed := by kernel_rfl
 f41 := ⟨Try.f136.name, by decide, Try.func136.trans (congrArg some (by kernel_rfl))⟩
 t4 := Try.underlying4
 a4 := Try.isAgg4
 z4 := Try.sizeOf4
 v4 := Try.zeroValue4
 t22 := Try.underlying105
 a22 := Try.isAgg105
 z22 := Try.sizeOf105
 v22 := Try.zeroValue105 }
open Go.RowKit Go.Lib in
theorem Try.slices_Clone_f136 (i0 : TypeInfo) (z : Value) (size bytes : Nat) (hi : Try.prog.info? 36 = some i0) (hz0 : i0.zero = some z) (hz1 : i0.size = size) (hz2 : i0.bytes = bytes) (hzs : z.cells.size = size) (hsz : 0 < size) (z23 : ∀ w, (Go.sizeOf 36).run Try.prog w = .ok size w) (b off n c : Nat) (news : List Value) (w : World) (hl : news.length = n * size) (hn : n ≤ maxLen) (hbig : n * bytes ≤ 140737488355328) (hc : ∀ j u, news[j]? = some u → w.cell? ⟨b, off + j, none⟩ = some u) (h1 : ∀ u ∈ news, u.oneCell' = true) :
 Calls Try.prog 136 #[.slice (some ⟨b, off, none⟩) n c] w fun e w' => ∃ v', e = .returned v' ∧ w'.ownsRow w.heap.size 36 size v' n news ∧ v' ≠ .slice none 0 0 ∧ Below w.heap.size w w' := AnyE.slices_Clone Try.laysSlE041_f136 i0 z size bytes hi hz0 hz1 hz2 hzs hsz z23 b off n c news w hl hn hbig hc h1
open Go.RowKit Go.Lib in
theorem Try.slices_Clone_nil_f136 (n c : Nat) (w : World) :
 Calls Try.prog 136 #[.slice none n c] w fun e w' => e = .returned (.slice none 0 0) ∧ w' = w := AnyE.slices_Clone_nil Try.laysSlE041_f136 n c w
end Go.Proofs
namespace Go.Proofs.Ytmbpomcbdopgnaa.W
open Go Go.RowKit Go.Proofs.Ytmbpomcbdopgnaa.Fw
attribute [local irreducible] RunK LW AW DV OE Ct
theorem co134 : callOk Try.prog 134 = true := by kernel_rfl
theorem lz_ok {w : World} {x : Int} (h : 0 ≤ x ∧ x < 18446744073709551616) : Ct Try.prog 134 [.int .u64 x] w fun v w1 => v = .int .i64 (64 - (nbits x.toNat : Int)) ∧ Ext w w1 := by
 unfold Ct
 exact Calls.mono (Try.bits_LeadingZeros64 x w h.1 (by omega)) fun e w' ⟨he, hw⟩ => ⟨_, he, by rw [nbits_bitLen (by omega)], by subst hw; exact Below.refl _ _⟩
set_option maxHeartbeats 1000000 in
theorem nsize_ok {w : World} {neg : Bool} {A : Option Addr} {c : Nat} {xs : List Int} (hx : Wd w 36 .u64 A xs) (hc : xs.length ≤ c) (ox : okW (2 ^ 64) xs) (cx : canon xs) (lx : xs.length ≤ 1000000) : Ct Try.prog 104 [.agg #[.bool neg, .slice A (xs.length) c]] w fun v w1 => v = .int .i64 (nbits (valB (2 ^ 64) xs).toNat : Int) ∧ Ext w w1 := by
 refine ct_run (n := 19) Try.func104 rfl Try.ntmps104 rfl ?_
 have E0 : Below w.heap.size w w := Below.refl _ _
 have bn := fun h => nbits_top ox h (canon_top ox cx h)
 have bg := okW.getD ox (by decide) (xs.length - 1)
 have bl := nbits_len ox
 have bm : nbits (xs.getD (xs.length - 1) 0).toNat ≤ 64 := nbits_le_iff.2 (by omega)
 refine rk_seq <| rk_reg <| lw_e (oe_box (v := .agg #[.bool neg, .slice A (xs.length) c]) (cs := #[.bool neg, .slice A (xs.length) c]) (Z rfl) rfl ?_)
 intro b1 w2 n3
 have N4 : w.heap.size ≤ b1 := n3.eq ▸ E0.size
 have E5 := qe E0 n3.ext
 refine lw_v (qi 0) (dv_assign C) <| qN <| lw_v (.pointer (some ⟨b1, 1, none⟩)) (dv_fieldAddr (a := ⟨b1, 0, none⟩) (a' := ⟨b1, 1, none⟩) fo107_1 (Z rfl) rfl) <| lw_v (.slice A (xs.length) c) (dv_load1 (b := b1) (o := 1) agt105 (Z rfl) n3.blk rfl) <| lw_v (qi (xs.length : Int)) (dv_len (ad := A) (l := xs.length) (c := c) us105 (Z rfl)) <| qs (qi (xs.length : Int)) rfl rfl <| lw_nil <| rk_seq <| rk_seq <| rk_reg <| qm (qi (xs.length : Int)) rfl rfl <| lw_v _ (dv_eql (a := (xs.length : Int)) (b := 0) (Z rfl) C) <| lw_nil ?_
 by_cases hb6 : ((xs.length : Int)) = 0
 · refine rk_ct (T rfl (qT hb6)) <| rk_seq <| rk_reg <| lw_v (qi 0) (dv_assign C) <| lw_nil <| rk_ret Try.func104 (v := qi 0) (res1 Try.results104 (rv_tmp rfl rfl)) ⟨_, rfl, ?_⟩
   exact ⟨vi (by have h0 : xs = [] := List.eq_nil_of_length_eq_zero (by omega); simp [h0, valB, nbits]), E5⟩
 refine rk_cf (T rfl (qF hb6)) <| rk_skip <| rk_seq <| rk_reg <| qm (qi (xs.length : Int)) rfl rfl <| lw_v _ (dv_mul (a := 64) (b := (xs.length : Int)) (z := 64 * (xs.length : Int)) C (Z rfl) (wr_i64 (by omega) (by omega))) <| lw_v (.pointer (some ⟨b1, 1, none⟩)) (dv_fieldAddr (a := ⟨b1, 0, none⟩) (a' := ⟨b1, 1, none⟩) fo107_1 (Z rfl) rfl) <| lw_v (.slice A (xs.length) c) (dv_load1 (b := b1) (o := 1) agt105 (Z rfl) n3.blk rfl) <| qm (qi (xs.length : Int)) rfl rfl <| lw_v _ (dv_sub (a := (xs.length : Int)) (b := 1) (z := (xs.length : Int) - 1) (Z rfl) C (wr_i64 (by omega) (by omega))) ?_
 have h7 := (hx.ext n3.ext)
 obtain ⟨g8, o9, rfl⟩ := Wd.at h7 (by first | omega | simp <;> omega)
 refine lw_v (.pointer (some ⟨g8, o9 + ((xs.length) - 1), none⟩)) (dv_indexW (g := g8) (o := o9) (l := xs.length) (c := c) (i := ((xs.length) - 1)) (j := (xs.length : Int) - 1) us105 sz36 (Z rfl) (Z rfl) (by omega) (by first | omega | simp <;> omega)) <| lw_v (qu (xs.getD (((xs.length) - 1)) 0)) (dv_load agt36 (Z rfl) (Wd.cell h7 (by first | omega | simp <;> omega))) <| lw_e (oe_callf (vs := [qu (xs.getD (((xs.length) - 1)) 0)]) co134 (ar1 (Z rfl)) (lz_ok (by omega)) ?_)
 rintro _ w10 ⟨rfl, e11⟩
 have E12 := qe E5 e11
 refine lw_v _ (dv_sub (a := 64 * (xs.length : Int)) (b := 64 - (nbits (xs.getD (((xs.length) - 1)) 0).toNat : Int)) (z := (64 * (xs.length : Int)) - (64 - (nbits (xs.getD (((xs.length) - 1)) 0).toNat : Int))) (Z rfl) (Z rfl) (wr_i64 (by omega) (by omega))) <| qs (qi ((64 * (xs.length : Int)) - (64 - (nbits (xs.getD (((xs.length) - 1)) 0).toNat : Int)))) rfl rfl <| lw_nil <| rk_ret Try.func104 (v := qi ((64 * (xs.length : Int)) - (64 - (nbits (xs.getD (((xs.length) - 1)) 0).toNat : Int)))) (res1 Try.results104 (rv_tmp rfl rfl)) ⟨_, rfl, ?_⟩
 exact ⟨vi (by have := bn (by omega); omega), E12⟩
theorem nsize_num {w : World} {neg : Bool} {A : Option Addr} {l c s : Nat} {z : Int} (h : Num 64 36 .u64 w neg A l c z s) (hl : l ≤ 1000000) : Ct Try.prog 104 [.agg #[.bool neg, .slice A l c]] w fun v w1 => v = .int .i64 (nbits z.natAbs : Int) ∧ Ext w w1 := by
 have e : (valB (2 ^ 64) []).toNat = 0 := rfl
 obtain ⟨xs, rfl, hc, hw, ho, hk, hv⟩ := h.wc
 have := nsize_ok (neg := neg) hw hc ho hk hl
 rw [← hv, Int.toNat_natCast] at this
 exact this
theorem agt38 : aggB Try.prog 38 = some true := by kernel_rfl
theorem co104 : callOk Try.prog 104 = true := by kernel_rfl
theorem co136 : callOk Try.prog 136 = true := by kernel_rfl
theorem co70 : callOk Try.prog 70 = true := by kernel_rfl
theorem sz38 : sizeB Try.prog 38 = some 4 := by kernel_rfl
theorem ui3 : Try.prog.underlying 3 = some (.int .i64) := by kernel_rfl
theorem ze38 : zeroB Try.prog 38 = some #[.int .u64 0, .int .u64 0, .int .u64 0, .int .u64 0] := by kernel_rfl
theorem clone_ok {w : World} {A : Option Addr} {l c : Nat} {xs : List Int} (hx : Wd w 36 .u64 A xs) (hl : xs.length = l) (hL : l ≤ 1000000) : Ct Try.prog 136 [.slice A l c] w fun v w1 => ∃ A' c', v = .slice A' xs.length c' ∧ Ext w w1 ∧ Ow w1 w.heap.size 36 .u64 A' c' xs := by
 unfold Ct
 rcases hx with ⟨rfl, rfl⟩ | ⟨g, o, cs, fz, rfl, hg, hc⟩
 · refine Calls.mono (Try.slices_Clone_nil_f136 l c w) fun e w' ⟨he, hw⟩ => ⟨_, he, none, 0, rfl, by subst hw; exact Below.refl _ _, ⟨⟨rfl, .inl ⟨rfl, rfl⟩⟩, by subst hw; exact Nat.le_refl _⟩⟩
 obtain ⟨i0, hi0, hi⟩ : ∃ i0, Try.prog.info? 36 = some i0 ∧ (i0.zero, i0.size, i0.bytes) = (some (.int .u64 0), 1, 8) := by
  have h := in36
  cases hi : Try.prog.info? 36 with
  | none => rw [hi] at h; cases h
  | some i0 => rw [hi] at h; exact ⟨i0, rfl, by simpa using h⟩
 simp only [Prod.mk.injEq] at hi
 refine Calls.mono (Try.slices_Clone_f136 i0 _ 1 8 hi0 hi.1 hi.2.1 hi.2.2 rfl (by decide) (fun w => Fw.run_sizeOf sz36) g o l c (xs.map (Value.int .u64)) w (by simp [hl]) (by simp only [maxLen]; omega) (by omega) (fun j u hj => ?_) (ints_oneCell .u64 xs)) fun e w' ⟨v', he, ho, hne, hb⟩ => ?_
 · rw [List.getElem?_map] at hj
   cases hx : xs[j]? with
   | none => rw [hx] at hj; cases hj
   | some x =>
    rw [hx] at hj
    have := hc j x hx
    rw [cell_of_row w g (o + j) cs 36 fz hg, this]
    exact hj
 subst hl
 obtain ⟨A', c', rfl⟩ := own_slice ho
 exact ⟨_, he, A', c', rfl, hb, ho, hb.size⟩
set_option maxHeartbeats 1000000 in
theorem l1Int_ok {w : World} {x : Int} (hx : -9223372036854775808 ≤ x ∧ x ≤ 9223372036854775807) : Ct Try.prog 99 [.int .i64 x] w fun v w1 => ∃ nr A' n c', v = .agg #[.bool nr, .slice A' n c'] ∧ Ext w w1 ∧ Num 32 168 .u32 w1 nr A' n c' (x) (64) := by
 refine ct_run (n := 19) Try.func99 rfl Try.ntmps99 rfl ?_
 have E0 : Below w.heap.size w w := Below.refl _ _
 refine rk_seq <| rk_reg <| lw_e (oe_alloc ze88 ?_)
 intro b1 w2 n3
 have N4 : w.heap.size ≤ b1 := n3.eq ▸ E0.size
 have E5 := qe E0 n3.ext
 refine qN <| qm (qi x) rfl rfl <| lw_v (qu ((x) % 18446744073709551616)) (dv_conv (a := x) (z := (x) % 18446744073709551616) ui2 ui36 (Z rfl) (wr_u64 _)) <| qs (qu ((x) % 18446744073709551616)) rfl rfl <| lw_nil <| rk_seq <| rk_seq <| rk_reg <| qm (qi x) rfl rfl <| lw_v _ (dv_lss (a := x) (b := 0) (Z rfl) C) <| lw_nil ?_
 by_cases hb6 : x < 0
 · refine rk_ct (T rfl (qT hb6)) <| rk_reg <| qm (qu ((x) % 18446744073709551616)) rfl rfl <| lw_v _ (dv_sub (a := 0) (b := (x) % 18446744073709551616) (z := (0 - ((x) % 18446744073709551616)) % 18446744073709551616) C (Z rfl) (wr_u64 _)) <| qs (qu ((0 - ((x) % 18446744073709551616)) % 18446744073709551616)) rfl rfl <| qN <| qm (qi x) rfl rfl <| lw_v _ (dv_lss (a := x) (b := 0) (Z rfl) C) <| qm (qu ((0 - ((x) % 18446744073709551616)) % 18446744073709551616)) rfl rfl <| lw_v (.int .u32 (((0 - ((x) % 18446744073709551616)) % 18446744073709551616) % 4294967296)) (dv_conv (a := (0 - ((x) % 18446744073709551616)) % 18446744073709551616) (z := ((0 - ((x) % 18446744073709551616)) % 18446744073709551616) % 4294967296) ui36 ui168 (Z rfl) (wr_u32 _)) <| qm (qu ((0 - ((x) % 18446744073709551616)) % 18446744073709551616)) rfl rfl <| lw_v (qu (((0 - ((x) % 18446744073709551616)) % 18446744073709551616) / 4294967296)) (dv_shr (a := (0 - ((x) % 18446744073709551616)) % 18446744073709551616) (b := 32) (z := ((0 - ((x) % 18446744073709551616)) % 18446744073709551616) / 4294967296) (Z rfl) C (by decide) (shr_c (n := 32) (by omega) (by decide))) <| lw_v (.int .u32 ((((0 - ((x) % 18446744073709551616)) % 18446744073709551616) / 4294967296) % 4294967296)) (dv_conv (a := ((0 - ((x) % 18446744073709551616)) % 18446744073709551616) / 4294967296) (z := (((0 - ((x) % 18446744073709551616)) % 18446744073709551616) / 4294967296) % 4294967296) ui36 ui168 (Z rfl) (wr_u32 _)) <| lw_e (oe_buildSlice (pv := [(0, .int .u32 (((0 - ((x) % 18446744073709551616)) % 18446744073709551616) % 4294967296)), (1, .int .u32 ((((0 - ((x) % 18446744073709551616)) % 18446744073709551616) / 4294967296) % 4294967296))]) (init := [.int .u32 0, .int .u32 0]) (l := [.int .u32 (((0 - ((x) % 18446744073709551616)) % 18446744073709551616) % 4294967296), .int .u32 ((((0 - ((x) % 18446744073709551616)) % 18446744073709551616) / 4294967296) % 4294967296)]) us86 sz168 rfl rfl zc168 (by kernel_rfl) ⟨rfl, (Z rfl), ⟨rfl, (Z rfl), trivial⟩⟩ rfl ?_)
   intro b7 w8 n9
   have N10 : w.heap.size ≤ b7 := n9.eq ▸ E5.size
   have : b1 < b7 := n9.eq ▸ lt_of_blk n3.blk
   have E11 := qe E5 n9.ext
   refine lw_e (oe_callf (vs := [qd (x < 0), .slice (some ⟨b7, 0, none⟩) 2 2]) co131 (ar2 (Z rfl) (Z rfl)) (l1Trim_num (s := 64) (neg := decide (x < 0)) (⟨[((0 - ((x) % 18446744073709551616)) % 18446744073709551616) % 4294967296, (((0 - ((x) % 18446744073709551616)) % 18446744073709551616) / 4294967296) % 4294967296], rfl, Nat.le_refl _, Wd.ownW n9.blk, (okW_lit (by simp <;> omega)), rfl⟩ : Ws _ _ _ _ _ _ _ _) (by first | omega | decide) (valB_sz (m := 32) (xs := [((0 - ((x) % 18446744073709551616)) % 18446744073709551616) % 4294967296, (((0 - ((x) % 18446744073709551616)) % 18446744073709551616) / 4294967296) % 4294967296]) (n := 2) (okW_lit (by simp <;> omega)) rfl)) ?_)
   rintro _ w17 ⟨nb12, A13, n14, c15, rfl, e18, hn16⟩
   have E19 := qe E11 e18
   have lhn16 := ql hn16
   have H20 := (e18.blk (n9.ext.blk n3.blk))
   refine lw_e (oe_store (v := .agg #[.bool nb12, .slice A13 n14 c15]) (vs := [.bool nb12, .slice A13 n14 c15]) (l := [.bool nb12, .slice A13 n14 c15]) (Z rfl) (Z rfl) sz88 rfl rfl rfl H20 rfl ?_)
   intro w21 s22 H23
   have E24 := below_st E19 N4 s22
   refine lw_nil <| rk_ret Try.func99 (v := .agg #[.bool nb12, .slice A13 n14 c15]) (res1 Try.results99 (rv_cells (l := [.bool nb12, .slice A13 n14 c15]) agt88 sz88 rfl rfl H23 rfl)) ⟨_, rfl, ?_⟩
   have h25 := (hn16.st s22 H20 (by decide))
   exact ⟨_, _, _, _, rfl, E24, h25.tight (int_32 (by omega) (by omega)) (by have e : (2 : Nat) ^ 64 = 18446744073709551616 := (by decide); omega)⟩
 refine rk_cf (T rfl (qF hb6)) <| rk_skip <| rk_seq <| rk_reg <| qm (qi x) rfl rfl <| lw_v _ (dv_lss (a := x) (b := 0) (Z rfl) C) <| qm (qu ((x) % 18446744073709551616)) rfl rfl <| lw_v (.int .u32 (((x) % 18446744073709551616) % 4294967296)) (dv_conv (a := (x) % 18446744073709551616) (z := ((x) % 18446744073709551616) % 4294967296) ui36 ui168 (Z rfl) (wr_u32 _)) <| qm (qu ((x) % 18446744073709551616)) rfl rfl <| lw_v (qu (((x) % 18446744073709551616) / 4294967296)) (dv_shr (a := (x) % 18446744073709551616) (b := 32) (z := ((x) % 18446744073709551616) / 4294967296) (Z rfl) C (by decide) (shr_c (n := 32) (by omega) (by decide))) <| lw_v (.int .u32 ((((x) % 18446744073709551616) / 4294967296) % 4294967296)) (dv_conv (a := ((x) % 18446744073709551616) / 4294967296) (z := (((x) % 18446744073709551616) / 4294967296) % 4294967296) ui36 ui168 (Z rfl) (wr_u32 _)) <| lw_e (oe_buildSlice (pv := [(0, .int .u32 (((x) % 18446744073709551616) % 4294967296)), (1, .int .u32 ((((x) % 18446744073709551616) / 4294967296) % 4294967296))]) (init := [.int .u32 0, .int .u32 0]) (l := [.int .u32 (((x) % 18446744073709551616) % 4294967296), .int .u32 ((((x) % 18446744073709551616) / 4294967296) % 4294967296)]) us86 sz168 rfl rfl zc168 (by kernel_rfl) ⟨rfl, (Z rfl), ⟨rfl, (Z rfl), trivial⟩⟩ rfl ?_)
 intro b26 w27 n28
 have N29 : w.heap.size ≤ b26 := n28.eq ▸ E5.size
 have : b1 < b26 := n28.eq ▸ lt_of_blk n3.blk
 have E30 := qe E5 n28.ext
 refine lw_e (oe_callf (vs := [qd (x < 0), .slice (some ⟨b26, 0, none⟩) 2 2]) co131 (ar2 (Z rfl) (Z rfl)) (l1Trim_num (s := 64) (neg := decide (x < 0)) (⟨[((x) % 18446744073709551616) % 4294967296, (((x) % 18446744073709551616) / 4294967296) % 4294967296], rfl, Nat.le_refl _, Wd.ownW n28.blk, (okW_lit (by simp <;> omega)), rfl⟩ : Ws _ _ _ _ _ _ _ _) (by first | omega | decide) (valB_sz (m := 32) (xs := [((x) % 18446744073709551616) % 4294967296, (((x) % 18446744073709551616) / 4294967296) % 4294967296]) (n := 2) (okW_lit (by simp <;> omega)) rfl)) ?_)
 rintro _ w36 ⟨nb31, A32, n33, c34, rfl, e37, hn35⟩
 have E38 := qe E30 e37
 have lhn35 := ql hn35
 have H39 := (e37.blk (n28.ext.blk n3.blk))
 refine lw_e (oe_store (v := .agg #[.bool nb31, .slice A32 n33 c34]) (vs := [.bool nb31, .slice A32 n33 c34]) (l := [.bool nb31, .slice A32 n33 c34]) (Z rfl) (Z rfl) sz88 rfl rfl rfl H39 rfl ?_)
 intro w40 s41 H42
 have E43 := below_st E38 N4 s41
 refine lw_nil <| rk_ret Try.func99 (v := .agg #[.bool nb31, .slice A32 n33 c34]) (res1 Try.results99 (rv_cells (l := [.bool nb31, .slice A32 n33 c34]) agt88 sz88 rfl rfl H42 rfl)) ⟨_, rfl, ?_⟩
 have h44 := (hn35.st s41 H39 (by decide))
 exact ⟨_, _, _, _, rfl, E43, h44.tight (int_32 (by omega) (by omega)) (by have e : (2 : Nat) ^ 64 = 18446744073709551616 := (by decide); omega)⟩
theorem co115 : callOk Try.prog 115 = true := by kernel_rfl
theorem mul64_ok {w : World} {x y : Int} (hx : 0 ≤ x ∧ x < 18446744073709551616) (hy : 0 ≤ y ∧ y < 18446744073709551616) : Ct Try.prog 115 [.int .u64 x, .int .u64 y] w fun v w1 => v = .tuple #[.int .u64 (x * y / 18446744073709551616), .int .u64 (x * y % 18446744073709551616)] ∧ Ext w w1 := by
 unfold Ct
 obtain ⟨X, rfl⟩ := Int.eq_ofNat_of_zero_le hx.1
 obtain ⟨Y, rfl⟩ := Int.eq_ofNat_of_zero_le hy.1
 exact Calls.mono (Try.bits_Mul64 X Y (by omega) (by omega) w) fun e w' ⟨he, hw⟩ => ⟨_, he, rfl, by subst hw; exact Below.refl _ _⟩
set_option maxHeartbeats 1000000 in
theorem nby_ok {w : World} {na : Bool} {Aa : Option Addr} {la ca : Nat} {x : Int} {sx : Nat} (ha : Num 64 36 .u64 w na Aa la ca x sx) {nb : Bool} {Ab : Option Addr} {lb cb : Nat} {y : Int} {sy : Nat} (hb : Num 64 36 .u64 w nb Ab lb cb y sy) (hs : sx ≤ 200000) (hs2 : sy ≤ 200000) : Ct Try.prog 71 [.agg #[.bool na, .slice Aa la ca], .agg #[.bool nb, .slice Ab lb cb]] w fun v w1 => ∃ nr A' n c', v = .agg #[.bool nr, .slice A' n c'] ∧ Ext w w1 ∧ Num 64 36 .u64 w1 nr A' n c' (x * y) (sx + sy) := by
 refine ct_run (n := 100) Try.func71 rfl Try.ntmps71 rfl ?_
 have E0 : Below w.heap.size w w := Below.refl _ _
 have lha := ql ha
 have lhb := ql hb
 obtain ⟨xs, hxl, hxc, hxw, ox, hxk, hxv⟩ := ha.wc
 obtain ⟨ys, hyl, hyc, hyw, oy, hyk, hyv⟩ := hb.wc
 refine rk_seq <| rk_reg <| lw_e (oe_box (v := .agg #[.bool na, .slice Aa la ca]) (cs := #[.bool na, .slice Aa la ca]) (Z rfl) rfl ?_)
 intro b1 w2 n3
 have N4 : w.heap.size ≤ b1 := n3.eq ▸ E0.size
 have E5 := qe E0 n3.ext
 refine lw_e (oe_box (v := .agg #[.bool nb, .slice Ab lb cb]) (cs := #[.bool nb, .slice Ab lb cb]) (Z rfl) rfl ?_)
 intro b6 w7 n8
 have N9 : w.heap.size ≤ b6 := n8.eq ▸ E5.size
 have : b1 < b6 := n8.eq ▸ lt_of_blk n3.blk
 have E10 := qe E5 n8.ext
 refine lw_e (oe_alloc ze107 ?_)
 intro b11 w12 n13
 have N14 : w.heap.size ≤ b11 := n13.eq ▸ E10.size
 have : b6 < b11 := n13.eq ▸ lt_of_blk n8.blk
 have E15 := qe E10 n13.ext
 refine lw_nil <| rk_seq <| rk_seq <| rk_reg <| lw_v (.pointer (some ⟨b1, 1, none⟩)) (dv_fieldAddr (a := ⟨b1, 0, none⟩) (a' := ⟨b1, 1, none⟩) fo107_1 (Z rfl) rfl) ?_
 have H16 := (n13.ext.blk (n8.ext.blk n3.blk))
 refine lw_v (.slice Aa la ca) (dv_load1 (b := b1) (o := 1) agt105 (Z rfl) H16 rfl) <| lw_v (qi (la : Int)) (dv_len (ad := Aa) (l := la) (c := ca) us105 (Z rfl)) <| lw_v _ (dv_eql (a := (la : Int)) (b := 0) (Z rfl) C) <| qm (qd ((la : Int) = 0)) rfl rfl ?_
 by_cases hb17 : ((la : Int)) = 0
 · refine lw_no (d := 18) rfl rfl (qT hb17) <| lw_no (d := 18) rfl rfl (qT hb17) <| lw_no (d := 18) rfl rfl (qT hb17) <| lw_no (d := 18) rfl rfl (qT hb17) <| lw_v (.bool true) (dv_pick_t (T rfl (qT hb17)) C) <| lw_nil <| rk_ct (Z rfl) <| rk_seq <| rk_reg <| lw_v (.agg #[.bool false, .slice none 0 0]) (dv_build (pv := []) (l := [.bool false, .slice none 0 0]) zc107 pl107 trivial rfl) <| lw_e (oe_store (v := .agg #[.bool false, .slice none 0 0]) (vs := [.bool false, .slice none 0 0]) (l := [.bool false, .slice none 0 0]) (Z rfl) (Z rfl) sz107 rfl rfl rfl n13.blk rfl ?_)
   intro w18 s19 H20
   have E21 := below_st E15 N14 s19
   refine lw_nil <| rk_ret Try.func71 (v := .agg #[.bool false, .slice none 0 0]) (res1 Try.results71 (rv_cells (l := [.bool false, .slice none 0 0]) agt107 sz107 rfl rfl H20 rfl)) ⟨_, rfl, ?_⟩
   exact ⟨_, _, _, _, rfl, E21, (Num.zero (s := 0)).tight (by have h1 := ha.pos_iff; have h2 := hb.pos_iff; exact (mul_zero_of (by omega)).symm) (by rw [Int.natAbs_mul]; exact nat_mul_sz ha.lt hb.lt)⟩
 refine lw_vy (.pointer (some ⟨b6, 1, none⟩)) (d := 18) rfl rfl (qF hb17) (dv_fieldAddr (a := ⟨b6, 0, none⟩) (a' := ⟨b6, 1, none⟩) fo107_1 (Z rfl) rfl) ?_
 have H22 := (n13.ext.blk n8.blk)
 refine lw_vy (.slice Ab lb cb) (d := 18) rfl rfl (qF hb17) (dv_load1 (b := b6) (o := 1) agt105 (Z rfl) H22 rfl) <| lw_vy (qi (lb : Int)) (d := 18) rfl rfl (qF hb17) (dv_len (ad := Ab) (l := lb) (c := cb) us105 (Z rfl)) <| lw_vy (qd ((lb : Int) = 0)) (d := 18) rfl rfl (qF hb17) (dv_eql (a := (lb : Int)) (b := 0) (Z rfl) C) <| lw_v (qd ((lb : Int) = 0)) (dv_pick_f (T rfl (qF hb17)) (Z rfl)) <| lw_nil ?_
 by_cases hb23 : ((lb : Int)) = 0
 · refine rk_ct (T rfl (qT hb23)) <| rk_seq <| rk_reg <| lw_v (.agg #[.bool false, .slice none 0 0]) (dv_build (pv := []) (l := [.bool false, .slice none 0 0]) zc107 pl107 trivial rfl) <| lw_e (oe_store (v := .agg #[.bool false, .slice none 0 0]) (vs := [.bool false, .slice none 0 0]) (l := [.bool false, .slice none 0 0]) (Z rfl) (Z rfl) sz107 rfl rfl rfl n13.blk rfl ?_)
   intro w24 s25 H26
   have E27 := below_st E15 N14 s25
   refine lw_nil <| rk_ret Try.func71 (v := .agg #[.bool false, .slice none 0 0]) (res1 Try.results71 (rv_cells (l := [.bool false, .slice none 0 0]) agt107 sz107 rfl rfl H26 rfl)) ⟨_, rfl, ?_⟩
   exact ⟨_, _, _, _, rfl, E27, (Num.zero (s := 0)).tight (by have h1 := ha.pos_iff; have h2 := hb.pos_iff; exact (mul_zero_of (by omega)).symm) (by rw [Int.natAbs_mul]; exact nat_mul_sz ha.lt hb.lt)⟩
 refine rk_cf (T rfl (qF hb23)) <| rk_skip <| rk_seq <| rk_reg <| lw_v (.pointer (some ⟨b1, 1, none⟩)) (dv_fieldAddr (a := ⟨b1, 0, none⟩) (a' := ⟨b1, 1, none⟩) fo107_1 (Z rfl) rfl) <| lw_v (.slice Aa la ca) (dv_load1 (b := b1) (o := 1) agt105 (Z rfl) H16 rfl) <| lw_v (qi (la : Int)) (dv_len (ad := Aa) (l := la) (c := ca) us105 (Z rfl)) <| lw_v (.pointer (some ⟨b6, 1, none⟩)) (dv_fieldAddr (a := ⟨b6, 0, none⟩) (a' := ⟨b6, 1, none⟩) fo107_1 (Z rfl) rfl) <| lw_v (.slice Ab lb cb) (dv_load1 (b := b6) (o := 1) agt105 (Z rfl) H22 rfl) <| lw_v (qi (lb : Int)) (dv_len (ad := Ab) (l := lb) (c := cb) us105 (Z rfl)) <| lw_v _ (dv_add (a := (la : Int)) (b := (lb : Int)) (z := (la : Int) + (lb : Int)) (Z rfl) (Z rfl) (wr_i64 (by omega) (by omega))) <| lw_e (oe_makeW (l := ((la) + (lb))) (j := (la : Int) + (lb : Int)) us105 in36 (Z rfl) (Z rfl) (by omega) (by first | omega | simp <;> omega) (by first | omega | simp <;> omega) ?_)
 intro b28 w29 n30
 have N31 : w.heap.size ≤ b28 := n30.eq ▸ E15.size
 have : b11 < b28 := n30.eq ▸ lt_of_blk n13.blk
 have E32 := qe E15 n30.ext
 refine qs (.slice (some ⟨b28, 0, none⟩) (((la) + (lb))) (((la) + (lb)))) rfl rfl <| lw_nil <| rk_seq <| rk_seq <| rk_reg <| lw_v (.pointer (some ⟨b1, 1, none⟩)) (dv_fieldAddr (a := ⟨b1, 0, none⟩) (a' := ⟨b1, 1, none⟩) fo107_1 (Z rfl) rfl) ?_
 have H33 := (n30.ext.blk H16)
 refine lw_v (.slice Aa la ca) (dv_load1 (b := b1) (o := 1) agt105 (Z rfl) H33 rfl) <| lw_v (qi (la : Int)) (dv_len (ad := Aa) (l := la) (c := ca) us105 (Z rfl)) <| lw_v (qi 0) (dv_move C) <| lw_nil <| rk_block ?_
 have H34 := (n30.ext.blk H22)
 have H35 := (n30.ext.blk n13.blk)
 refine rk_loop (fun dm_ fr wl => ∃ (i : Nat) (L : List Int), dm_ = xs.length - i ∧ fr 2 = .pointer (some ⟨b1, 0, none⟩) ∧ fr 3 = .pointer (some ⟨b6, 0, none⟩) ∧ fr 4 = .pointer (some ⟨b11, 0, none⟩) ∧ fr 5 = .slice (some ⟨b28, 0, none⟩) (((la) + (lb))) (((la) + (lb))) ∧ fr 34 = .slice Aa la ca ∧ fr 35 = qi (la : Int) ∧ fr 36 = qi (i : Int) ∧ Below w.heap.size w wl ∧ wl.heap[b1]? = some (.cells #[.bool na, .slice Aa la ca] 107) ∧ wl.heap[b6]? = some (.cells #[.bool nb, .slice Ab lb cb] 107) ∧ wl.heap[b11]? = some (.cells #[.bool false, .slice none 0 0] 107) ∧ wl.heap[b28]? = some (.cells (L.map (Value.int .u64)).toArray 36) ∧ (i ≤ xs.length) ∧ (L.length = xs.length + ys.length) ∧ (okW (2 ^ 64) L) ∧ (valB (2 ^ 64) L = valB (2 ^ 64) (xs.take i) * valB (2 ^ 64) ys) ∧ (∀ q, i + ys.length ≤ q → L.getD q 0 = 0)) (xs.length - 0) ⟨0, (List.replicate (((la) + (lb))) (0 : Int)), rfl, rfl, rfl, rfl, rfl, rfl, rfl, (vi (by omega)), E32, H33, H34, H35, n30.blk, (Nat.zero_le _), (by simp; omega), (okW.replicate (by decide) _), (by rw [valB_zeros, List.take_zero]; simp [valB]), (fun q _ => rep_zero _ q)⟩ ?_
 intro d40 fr39 w36 hI37 ih38
 obtain ⟨i, L, hd53, f41, f42, f43, f44, f45, f46, f47, E48, H49, H50, H51, H52, hi, hl, hok, hv, hL0⟩ := hI37
 have bxs := okW.getD ox (by decide) i
 refine rk_seq <| rk_reg <| lw_v _ (dv_lss (a := (i : Int)) (b := (la : Int)) (T rfl f47) (T rfl f46)) <| lw_nil <| rk_seq ?_
 by_cases hb54 : ((i : Int)) < ((la : Int))
 · refine rk_ct (T rfl (qT hb54)) <| rk_skip <| rk_seq <| rk_block <| rk_seq <| rk_reg <| qm (qi (i : Int)) rfl f47 ?_
   have h55 := (hxw.ext E48)
   obtain ⟨g56, o57, rfl⟩ := Wd.at h55 (by first | omega | simp <;> omega)
   refine lw_v (.pointer (some ⟨g56, o57 + i, none⟩)) (dv_indexW (g := g56) (o := o57) (l := la) (c := ca) (i := i) (j := (i : Int)) us105 sz36 (T rfl f45) (T rfl f47) (by omega) (by first | omega | simp <;> omega)) <| lw_v (qu (xs.getD i 0)) (dv_load agt36 (Z rfl) (Wd.cell h55 (by first | omega | simp <;> omega))) <| qs (qi (i : Int)) rfl rfl <| qs (qu (xs.getD i 0)) rfl rfl <| qN <| lw_v (qu 0) (dv_assign C) <| lw_nil <| rk_seq <| rk_seq <| rk_reg <| lw_v (.pointer (some ⟨b6, 1, none⟩)) (dv_fieldAddr (a := ⟨b6, 0, none⟩) (a' := ⟨b6, 1, none⟩) fo107_1 (T rfl f42) rfl) <| lw_v (.slice Ab lb cb) (dv_load1 (b := b6) (o := 1) agt105 (Z rfl) H50 rfl) <| lw_v (qi (lb : Int)) (dv_len (ad := Ab) (l := lb) (c := cb) us105 (Z rfl)) <| lw_v (qi 0) (dv_move C) <| lw_nil <| rk_block <| rk_loop (fun dm_ fr wl => ∃ (k : Nat) (M : List Int) (cy : Int), dm_ = ys.length - k ∧ fr 2 = .pointer (some ⟨b1, 0, none⟩) ∧ fr 3 = .pointer (some ⟨b6, 0, none⟩) ∧ fr 4 = .pointer (some ⟨b11, 0, none⟩) ∧ fr 5 = .slice (some ⟨b28, 0, none⟩) (((la) + (lb))) (((la) + (lb))) ∧ fr 6 = qi (i : Int) ∧ fr 7 = qu (xs.getD i 0) ∧ fr 8 = qu cy ∧ fr 34 = .slice (some ⟨g56, o57, none⟩) la ca ∧ fr 35 = qi (la : Int) ∧ fr 36 = qi (i : Int) ∧ fr 37 = qd ((i : Int) < (la : Int)) ∧ fr 38 = qi (i : Int) ∧ fr 39 = .pointer (some ⟨g56, o57 + i, none⟩) ∧ fr 40 = qu (xs.getD i 0) ∧ fr 41 = .pointer (some ⟨b6, 1, none⟩) ∧ fr 42 = .slice Ab lb cb ∧ fr 43 = qi (lb : Int) ∧ fr 44 = qi (k : Int) ∧ Below w.heap.size w wl ∧ wl.heap[b1]? = some (.cells #[.bool na, .slice (some ⟨g56, o57, none⟩) la ca] 107) ∧ wl.heap[b6]? = some (.cells #[.bool nb, .slice Ab lb cb] 107) ∧ wl.heap[b11]? = some (.cells #[.bool false, .slice none 0 0] 107) ∧ wl.heap[b28]? = some (.cells (M.map (Value.int .u64)).toArray 36) ∧ (k ≤ ys.length) ∧ (M.length = xs.length + ys.length) ∧ (okW (2 ^ 64) M) ∧ (0 ≤ cy ∧ cy < 18446744073709551616) ∧ (valB (2 ^ 64) M + cy * (2 ^ 64) ^ (i + k) = valB (2 ^ 64) (xs.take i) * valB (2 ^ 64) ys + xs.getD i 0 * valB (2 ^ 64) (ys.take k) * (2 ^ 64) ^ i) ∧ (∀ q, i + ys.length ≤ q → M.getD q 0 = 0)) (ys.length - 0) ⟨0, L, 0, rfl, f41, f42, f43, f44, rfl, rfl, rfl, f45, f46, f47, rfl, rfl, rfl, rfl, rfl, rfl, rfl, (vi (by omega)), E48, H49, H50, H51, H52, (Nat.zero_le _), hl, hok, (by decide), (mul_start hv), hL0⟩ ?_
   intro d62 fr61 w58 hI59 ih60
   obtain ⟨k, M, cy, hd86, f63, f64, f65, f66, f67, f68, f69, f70, f71, f72, f73, f74, f75, f76, f77, f78, f79, f80, E81, H82, H83, H84, H85, hk, hMl, hok2, hcy, hM, hM0⟩ := hI59
   have bys := okW.getD oy (by decide) k
   have bMk := okW.getD hok2 (by decide) (i + k)
   refine rk_seq <| rk_reg <| lw_v _ (dv_lss (a := (k : Int)) (b := (lb : Int)) (T rfl f80) (T rfl f79)) <| lw_nil <| rk_seq ?_
   by_cases hb87 : ((k : Int)) < ((lb : Int))
   · refine rk_ct (T rfl (qT hb87)) <| rk_skip <| rk_seq <| rk_block <| rk_seq <| rk_reg <| qm (qi (k : Int)) rfl f80 ?_
     have h88 := (hyw.ext E81)
     obtain ⟨g89, o90, rfl⟩ := Wd.at h88 (by first | omega | simp <;> omega)
     refine lw_v (.pointer (some ⟨g89, o90 + k, none⟩)) (dv_indexW (g := g89) (o := o90) (l := lb) (c := cb) (i := k) (j := (k : Int)) us105 sz36 (T rfl f78) (T rfl f80) (by omega) (by first | omega | simp <;> omega)) <| lw_v (qu (ys.getD k 0)) (dv_load agt36 (Z rfl) (Wd.cell h88 (by first | omega | simp <;> omega))) <| qs (qi (k : Int)) rfl rfl <| qs (qu (ys.getD k 0)) rfl rfl <| qN <| qm (qu (xs.getD i 0)) rfl f68 <| qm (qu (ys.getD k 0)) rfl rfl ?_
     have hm91 := mul_pos_bd (A := 18446744073709551615) (show 0 ≤ xs.getD i 0 by omega) (by omega) (show 0 ≤ ys.getD k 0 by omega) (by omega)
     refine lw_e (oe_callf (vs := [qu (xs.getD i 0), qu (ys.getD k 0)]) co115 (ar2 (Z rfl) (Z rfl)) (mul64_ok (by omega) (by omega)) ?_)
     rintro _ w92 ⟨rfl, e93⟩
     have E94 := qe E81 e93
     refine qm (.tuple #[qu ((xs.getD i 0) * (ys.getD k 0) / 18446744073709551616), qu ((xs.getD i 0) * (ys.getD k 0) % 18446744073709551616)]) rfl rfl <| lw_v (qu ((xs.getD i 0) * (ys.getD k 0) / 18446744073709551616)) (dv_extract (vs := #[qu ((xs.getD i 0) * (ys.getD k 0) / 18446744073709551616), qu ((xs.getD i 0) * (ys.getD k 0) % 18446744073709551616)]) (Z rfl) rfl) <| lw_v (qu ((xs.getD i 0) * (ys.getD k 0) % 18446744073709551616)) (dv_extract (vs := #[qu ((xs.getD i 0) * (ys.getD k 0) / 18446744073709551616), qu ((xs.getD i 0) * (ys.getD k 0) % 18446744073709551616)]) (Z rfl) rfl) <| qs (qu ((xs.getD i 0) * (ys.getD k 0) / 18446744073709551616)) rfl rfl <| qs (qu ((xs.getD i 0) * (ys.getD k 0) % 18446744073709551616)) rfl rfl <| qN <| lw_v (qu 0) (dv_assign C) <| qN <| qm (qu ((xs.getD i 0) * (ys.getD k 0) % 18446744073709551616)) rfl rfl <| qm (qu cy) rfl f69 <| lw_v (.tuple #[qu ((((xs.getD i 0) * (ys.getD k 0) % 18446744073709551616) + cy + 0) % 18446744073709551616), qu ((((xs.getD i 0) * (ys.getD k 0) % 18446744073709551616) + cy + 0) / 18446744073709551616)]) (dv_ext (e := add64Entry) (vs := [qu ((xs.getD i 0) * (ys.getD k 0) % 18446744073709551616), qu cy, qu 0]) Try.func116 rfl rfl (by kernel_rfl) (by kernel_rfl) (ar3 (Z rfl) (Z rfl) C) (run_addE ((xs.getD i 0) * (ys.getD k 0) % 18446744073709551616) cy 0 (by omega) (by omega) (by omega))) <| qm (.tuple #[qu ((((xs.getD i 0) * (ys.getD k 0) % 18446744073709551616) + cy + 0) % 18446744073709551616), qu ((((xs.getD i 0) * (ys.getD k 0) % 18446744073709551616) + cy + 0) / 18446744073709551616)]) rfl rfl <| lw_v (qu ((((xs.getD i 0) * (ys.getD k 0) % 18446744073709551616) + cy + 0) % 18446744073709551616)) (dv_extract (vs := #[qu ((((xs.getD i 0) * (ys.getD k 0) % 18446744073709551616) + cy + 0) % 18446744073709551616), qu ((((xs.getD i 0) * (ys.getD k 0) % 18446744073709551616) + cy + 0) / 18446744073709551616)]) (Z rfl) rfl) <| lw_v (qu ((((xs.getD i 0) * (ys.getD k 0) % 18446744073709551616) + cy + 0) / 18446744073709551616)) (dv_extract (vs := #[qu ((((xs.getD i 0) * (ys.getD k 0) % 18446744073709551616) + cy + 0) % 18446744073709551616), qu ((((xs.getD i 0) * (ys.getD k 0) % 18446744073709551616) + cy + 0) / 18446744073709551616)]) (Z rfl) rfl) <| qs (qu ((((xs.getD i 0) * (ys.getD k 0) % 18446744073709551616) + cy + 0) % 18446744073709551616)) rfl rfl <| qs (qu ((((xs.getD i 0) * (ys.getD k 0) % 18446744073709551616) + cy + 0) / 18446744073709551616)) rfl rfl <| qN <| qm (qu ((xs.getD i 0) * (ys.getD k 0) / 18446744073709551616)) rfl rfl <| qm (qu ((((xs.getD i 0) * (ys.getD k 0) % 18446744073709551616) + cy + 0) / 18446744073709551616)) rfl rfl <| lw_v _ (dv_add (a := (xs.getD i 0) * (ys.getD k 0) / 18446744073709551616) (b := (((xs.getD i 0) * (ys.getD k 0) % 18446744073709551616) + cy + 0) / 18446744073709551616) (z := ((xs.getD i 0) * (ys.getD k 0) / 18446744073709551616) + ((((xs.getD i 0) * (ys.getD k 0) % 18446744073709551616) + cy + 0) / 18446744073709551616)) (Z rfl) (Z rfl) (wn_u64 (by omega) (by omega))) <| qs (qu (((xs.getD i 0) * (ys.getD k 0) / 18446744073709551616) + ((((xs.getD i 0) * (ys.getD k 0) % 18446744073709551616) + cy + 0) / 18446744073709551616))) rfl rfl <| qN <| qm (.slice (some ⟨b28, 0, none⟩) (((la) + (lb))) (((la) + (lb)))) rfl f66 <| qm (qi (i : Int)) rfl f67 <| qm (qi (k : Int)) rfl rfl <| lw_v _ (dv_add (a := (i : Int)) (b := (k : Int)) (z := (i : Int) + (k : Int)) (Z rfl) (Z rfl) (wr_i64 (by omega) (by omega))) <| qm (.slice (some ⟨b28, 0, none⟩) (((la) + (lb))) (((la) + (lb)))) rfl f66 <| qm (qi (i : Int)) rfl f67 <| qm (qi (k : Int)) rfl rfl <| lw_v _ (dv_add (a := (i : Int)) (b := (k : Int)) (z := (i : Int) + (k : Int)) (Z rfl) (Z rfl) (wr_i64 (by omega) (by omega))) <| lw_v (.pointer (some ⟨b28, (((i) + (k))), none⟩)) (dv_indexO (g := b28) (l := ((la) + (lb))) (c := ((la) + (lb))) (i := ((i) + (k))) (j := (i : Int) + (k : Int)) us105 sz36 (Z rfl) (Z rfl) (by omega) (by first | omega | simp <;> omega)) ?_
     have H95 := (e93.blk H85)
     refine lw_v (qu (M.getD (((i) + (k))) 0)) (dv_loadW (L := M) (v := M.getD (((i) + (k))) 0) agt36 (Z rfl) H95 (by first | omega | simp <;> omega) rfl) <| qm (qu ((((xs.getD i 0) * (ys.getD k 0) % 18446744073709551616) + cy + 0) % 18446744073709551616)) rfl rfl <| lw_v (.tuple #[qu (((M.getD (((i) + (k))) 0) + ((((xs.getD i 0) * (ys.getD k 0) % 18446744073709551616) + cy + 0) % 18446744073709551616) + 0) % 18446744073709551616), qu (((M.getD (((i) + (k))) 0) + ((((xs.getD i 0) * (ys.getD k 0) % 18446744073709551616) + cy + 0) % 18446744073709551616) + 0) / 18446744073709551616)]) (dv_ext (e := add64Entry) (vs := [qu (M.getD (((i) + (k))) 0), qu ((((xs.getD i 0) * (ys.getD k 0) % 18446744073709551616) + cy + 0) % 18446744073709551616), qu 0]) Try.func116 rfl rfl (by kernel_rfl) (by kernel_rfl) (ar3 (Z rfl) (Z rfl) C) (run_addE (M.getD (((i) + (k))) 0) ((((xs.getD i 0) * (ys.getD k 0) % 18446744073709551616) + cy + 0) % 18446744073709551616) 0 (by omega) (by omega) (by omega))) <| qm (.tuple #[qu (((M.getD (((i) + (k))) 0) + ((((xs.getD i 0) * (ys.getD k 0) % 18446744073709551616) + cy + 0) % 18446744073709551616) + 0) % 18446744073709551616), qu (((M.getD (((i) + (k))) 0) + ((((xs.getD i 0) * (ys.getD k 0) % 18446744073709551616) + cy + 0) % 18446744073709551616) + 0) / 18446744073709551616)]) rfl rfl <| lw_v (qu (((M.getD (((i) + (k))) 0) + ((((xs.getD i 0) * (ys.getD k 0) % 18446744073709551616) + cy + 0) % 18446744073709551616) + 0) % 18446744073709551616)) (dv_extract (vs := #[qu (((M.getD (((i) + (k))) 0) + ((((xs.getD i 0) * (ys.getD k 0) % 18446744073709551616) + cy + 0) % 18446744073709551616) + 0) % 18446744073709551616), qu (((M.getD (((i) + (k))) 0) + ((((xs.getD i 0) * (ys.getD k 0) % 18446744073709551616) + cy + 0) % 18446744073709551616) + 0) / 18446744073709551616)]) (Z rfl) rfl) <| lw_v (qu (((M.getD (((i) + (k))) 0) + ((((xs.getD i 0) * (ys.getD k 0) % 18446744073709551616) + cy + 0) % 18446744073709551616) + 0) / 18446744073709551616)) (dv_extract (vs := #[qu (((M.getD (((i) + (k))) 0) + ((((xs.getD i 0) * (ys.getD k 0) % 18446744073709551616) + cy + 0) % 18446744073709551616) + 0) % 18446744073709551616), qu (((M.getD (((i) + (k))) 0) + ((((xs.getD i 0) * (ys.getD k 0) % 18446744073709551616) + cy + 0) % 18446744073709551616) + 0) / 18446744073709551616)]) (Z rfl) rfl) <| lw_v (.pointer (some ⟨b28, (((i) + (k))), none⟩)) (dv_indexO (g := b28) (l := ((la) + (lb))) (c := ((la) + (lb))) (i := ((i) + (k))) (j := (i : Int) + (k : Int)) us105 sz36 (Z rfl) (Z rfl) (by omega) (by first | omega | simp <;> omega)) <| lw_e (oe_storeW (L := M) (i := ((i) + (k))) (z := ((M.getD (((i) + (k))) 0) + ((((xs.getD i 0) * (ys.getD k 0) % 18446744073709551616) + cy + 0) % 18446744073709551616) + 0) % 18446744073709551616) sz36 (Z rfl) (Z rfl) H95 (by first | omega | simp <;> omega) ?_)
     intro w96 s97 H98
     have E99 := below_st E94 N31 s97
     refine qs (qu (((M.getD (((i) + (k))) 0) + ((((xs.getD i 0) * (ys.getD k 0) % 18446744073709551616) + cy + 0) % 18446744073709551616) + 0) / 18446744073709551616)) rfl rfl <| lw_nil <| rk_reg <| qm (qu (((xs.getD i 0) * (ys.getD k 0) / 18446744073709551616) + ((((xs.getD i 0) * (ys.getD k 0) % 18446744073709551616) + cy + 0) / 18446744073709551616))) rfl rfl <| qm (qu (((M.getD (((i) + (k))) 0) + ((((xs.getD i 0) * (ys.getD k 0) % 18446744073709551616) + cy + 0) % 18446744073709551616) + 0) / 18446744073709551616)) rfl rfl <| lw_v _ (dv_add (a := ((xs.getD i 0) * (ys.getD k 0) / 18446744073709551616) + ((((xs.getD i 0) * (ys.getD k 0) % 18446744073709551616) + cy + 0) / 18446744073709551616)) (b := ((M.getD (((i) + (k))) 0) + ((((xs.getD i 0) * (ys.getD k 0) % 18446744073709551616) + cy + 0) % 18446744073709551616) + 0) / 18446744073709551616) (z := (((xs.getD i 0) * (ys.getD k 0) / 18446744073709551616) + ((((xs.getD i 0) * (ys.getD k 0) % 18446744073709551616) + cy + 0) / 18446744073709551616)) + (((M.getD (((i) + (k))) 0) + ((((xs.getD i 0) * (ys.getD k 0) % 18446744073709551616) + cy + 0) % 18446744073709551616) + 0) / 18446744073709551616)) (Z rfl) (Z rfl) (wn_u64 (by omega) (by omega))) <| qs (qu ((((xs.getD i 0) * (ys.getD k 0) / 18446744073709551616) + ((((xs.getD i 0) * (ys.getD k 0) % 18446744073709551616) + cy + 0) / 18446744073709551616)) + (((M.getD (((i) + (k))) 0) + ((((xs.getD i 0) * (ys.getD k 0) % 18446744073709551616) + cy + 0) % 18446744073709551616) + 0) / 18446744073709551616))) rfl rfl <| lw_nil <| rk_inBlock <| rk_reg <| lw_v _ (dv_add (a := (k : Int)) (b := 1) (z := (k : Int) + 1) (T rfl f80) C (wr_i64 (by omega) (by omega))) <| qm (qi ((k : Int) + 1)) rfl rfl <| lw_nil ?_
     have H100 := (s97.blk (e93.blk H82) (by omega))
     have H101 := (s97.blk (e93.blk H83) (by omega))
     have H102 := (s97.blk (e93.blk H84) (by omega))
     exact ih60 (ys.length - (k + 1)) _ _ (by rw [hd86]; omega) ⟨(k + 1), (M.set (((i) + (k))) (((M.getD (((i) + (k))) 0) + ((((xs.getD i 0) * (ys.getD k 0) % 18446744073709551616) + cy + 0) % 18446744073709551616) + 0) % 18446744073709551616)), ((((xs.getD i 0) * (ys.getD k 0) / 18446744073709551616) + ((((xs.getD i 0) * (ys.getD k 0) % 18446744073709551616) + cy + 0) / 18446744073709551616)) + (((M.getD (((i) + (k))) 0) + ((((xs.getD i 0) * (ys.getD k 0) % 18446744073709551616) + cy + 0) % 18446744073709551616) + 0) / 18446744073709551616)), rfl, f63, f64, f65, f66, f67, f68, rfl, f70, f71, f72, f73, f74, f75, f76, f77, f78, f79, (vi (by omega)), E99, H100, H101, H102, H98, (by omega), (by simp; omega), (okW.set hok2 (by omega) (by omega) _), (by omega), (mul_step (by omega) hM rfl rfl (by omega)), (zero_set hM0 (by omega))⟩
   refine rk_cf (T rfl (qF hb87)) <| rk_exit rfl <| rk_reg <| qm (.slice (some ⟨b28, 0, none⟩) (((la) + (lb))) (((la) + (lb)))) rfl f66 <| qm (qi (i : Int)) rfl f67 <| lw_v (.pointer (some ⟨b6, 1, none⟩)) (dv_fieldAddr (a := ⟨b6, 0, none⟩) (a' := ⟨b6, 1, none⟩) fo107_1 (T rfl f64) rfl) <| lw_v (.slice Ab lb cb) (dv_load1 (b := b6) (o := 1) agt105 (Z rfl) H83 rfl) <| lw_v (qi (lb : Int)) (dv_len (ad := Ab) (l := lb) (c := cb) us105 (Z rfl)) <| lw_v _ (dv_add (a := (i : Int)) (b := (lb : Int)) (z := (i : Int) + (lb : Int)) (Z rfl) (Z rfl) (wr_i64 (by omega) (by omega))) <| qm (qu cy) rfl f69 <| lw_v (.pointer (some ⟨b28, (((i) + (lb))), none⟩)) (dv_indexO (g := b28) (l := ((la) + (lb))) (c := ((la) + (lb))) (i := ((i) + (lb))) (j := (i : Int) + (lb : Int)) us105 sz36 (Z rfl) (Z rfl) (by omega) (by first | omega | simp <;> omega)) <| lw_e (oe_storeW (L := M) (i := ((i) + (lb))) (z := cy) sz36 (Z rfl) (Z rfl) H85 (by first | omega | simp <;> omega) ?_)
   intro w103 s104 H105
   have E106 := below_st E81 N31 s104
   refine lw_nil <| rk_inBlock <| rk_reg <| lw_v _ (dv_add (a := (i : Int)) (b := 1) (z := (i : Int) + 1) (T rfl f72) C (wr_i64 (by omega) (by omega))) <| qm (qi ((i : Int) + 1)) rfl rfl <| lw_nil ?_
   have H107 := (s104.blk H82 (by omega))
   have H108 := (s104.blk H83 (by omega))
   have H109 := (s104.blk H84 (by omega))
   exact ih38 (xs.length - (i + 1)) _ _ (by rw [hd53]; omega) ⟨(i + 1), (M.set (((i) + (lb))) cy), rfl, f63, f64, f65, f66, f70, f71, (vi (by omega)), E106, H107, H108, H109, H105, (by omega), (by simp; omega), (okW.set hok2 (by omega) (by omega) _), (by have hk : k = ys.length := (by omega); subst hk; rw [← hyl]; exact mul_last (by omega) (hM0 _ (by omega)) hM), (by rw [← hyl]; intro q hq; exact zero_set1 hM0 q (by omega))⟩
 refine rk_cf (T rfl (qF hb54)) <| rk_exit rfl <| rk_seq <| rk_reg <| lw_v (.pointer (some ⟨b1, 0, none⟩)) (dv_fieldAddr (a := ⟨b1, 0, none⟩) (a' := ⟨b1, 0, none⟩) fo107_0 (T rfl f41) rfl) <| lw_v (.bool na) (dv_load1 (b := b1) (o := 0) agt4 (Z rfl) H49 rfl) <| lw_v (.pointer (some ⟨b6, 0, none⟩)) (dv_fieldAddr (a := ⟨b6, 0, none⟩) (a' := ⟨b6, 0, none⟩) fo107_0 (T rfl f42) rfl) <| lw_v (.bool nb) (dv_load1 (b := b6) (o := 0) agt4 (Z rfl) H50 rfl) <| lw_v (.bool (na != nb)) (dv_neqb (a := na) (b := nb) ub4 (Z rfl) (Z rfl)) <| qm (.slice (some ⟨b28, 0, none⟩) (((la) + (lb))) (((la) + (lb)))) rfl f44 <| lw_e (oe_callf (vs := [.bool (na != nb), .slice (some ⟨b28, 0, none⟩) (((la) + (lb))) (((la) + (lb)))]) co114 (ar2 (Z rfl) (Z rfl)) (made_num (s := (64 * (((la) + (lb))))) (neg := na != nb) (⟨L, (by first | (simp; done) | (simp; omega) | omega), (by first | (simp; done) | (simp; omega) | omega), Wd.ownW H52, hok, rfl⟩ : Ws _ _ _ _ _ _ _ _) (by first | omega | simp <;> omega) (valB_sz hok (by first | (simp; done) | (simp; omega) | omega))) ?_)
 rintro _ w113 ⟨nb110, n111, rfl, e114, hn112⟩
 have E115 := qe E48 e114
 have lhn112 := ql hn112
 have H116 := (e114.blk H51)
 refine lw_e (oe_store (v := .agg #[.bool nb110, .slice (some ⟨b28, 0, none⟩) n111 (((la) + (lb)))]) (vs := [.bool nb110, .slice (some ⟨b28, 0, none⟩) n111 (((la) + (lb)))]) (l := [.bool nb110, .slice (some ⟨b28, 0, none⟩) n111 (((la) + (lb)))]) (T rfl f43) (Z rfl) sz107 rfl rfl rfl H116 rfl ?_)
 intro w117 s118 H119
 have E120 := below_st E115 N14 s118
 refine lw_nil <| rk_ret Try.func71 (v := .agg #[.bool nb110, .slice (some ⟨b28, 0, none⟩) n111 (((la) + (lb)))]) (res1 Try.results71 (rv_cells (l := [.bool nb110, .slice (some ⟨b28, 0, none⟩) n111 (((la) + (lb)))]) agt107 sz107 rfl f43 H119 rfl)) ⟨_, rfl, ?_⟩
 have h121 := (hn112.st s118 H116 (by decide))
 exact ⟨_, _, _, _, rfl, E120, h121.tight (by rw [hv, List.take_of_length_le (by omega), ← hxv, ← hyv]; exact sg_mul ha.neg_iff hb.neg_iff) (by rw [Int.natAbs_mul]; exact nat_mul_sz ha.lt hb.lt)⟩
set_option maxHeartbeats 1000000 in
theorem l1Mul_ok {w : World} {na : Bool} {Aa : Option Addr} {la ca : Nat} {x : Int} {sx : Nat} (ha : Num 32 168 .u32 w na Aa la ca x sx) {nb : Bool} {Ab : Option Addr} {lb cb : Nat} {y : Int} {sy : Nat} (hb : Num 32 168 .u32 w nb Ab lb cb y sy) (hs : sx ≤ 200000) (hs2 : sy ≤ 200000) : Ct Try.prog 109 [.agg #[.bool na, .slice Aa la ca], .agg #[.bool nb, .slice Ab lb cb]] w fun v w1 => ∃ nr A' n c', v = .agg #[.bool nr, .slice A' n c'] ∧ Ext w w1 ∧ Num 32 168 .u32 w1 nr A' n c' (x * y) (sx + sy) := by
 refine ct_run (n := 90) Try.func109 rfl Try.ntmps109 rfl ?_
 have E0 : Below w.heap.size w w := Below.refl _ _
 have lha := ql ha
 have lhb := ql hb
 obtain ⟨xs, hxl, hxc, hxw, ox, hxk, hxv⟩ := ha.wc
 obtain ⟨ys, hyl, hyc, hyw, oy, hyk, hyv⟩ := hb.wc
 refine rk_seq <| rk_reg <| lw_e (oe_box (v := .agg #[.bool na, .slice Aa la ca]) (cs := #[.bool na, .slice Aa la ca]) (Z rfl) rfl ?_)
 intro b1 w2 n3
 have N4 : w.heap.size ≤ b1 := n3.eq ▸ E0.size
 have E5 := qe E0 n3.ext
 refine lw_e (oe_box (v := .agg #[.bool nb, .slice Ab lb cb]) (cs := #[.bool nb, .slice Ab lb cb]) (Z rfl) rfl ?_)
 intro b6 w7 n8
 have N9 : w.heap.size ≤ b6 := n8.eq ▸ E5.size
 have : b1 < b6 := n8.eq ▸ lt_of_blk n3.blk
 have E10 := qe E5 n8.ext
 refine lw_e (oe_alloc ze88 ?_)
 intro b11 w12 n13
 have N14 : w.heap.size ≤ b11 := n13.eq ▸ E10.size
 have : b6 < b11 := n13.eq ▸ lt_of_blk n8.blk
 have E15 := qe E10 n13.ext
 refine lw_nil <| rk_seq <| rk_seq <| rk_reg <| lw_v (.pointer (some ⟨b1, 1, none⟩)) (dv_fieldAddr (a := ⟨b1, 0, none⟩) (a' := ⟨b1, 1, none⟩) fo88_1 (Z rfl) rfl) ?_
 have H16 := (n13.ext.blk (n8.ext.blk n3.blk))
 refine lw_v (.slice Aa la ca) (dv_load1 (b := b1) (o := 1) agt86 (Z rfl) H16 rfl) <| lw_v (qi (la : Int)) (dv_len (ad := Aa) (l := la) (c := ca) us86 (Z rfl)) <| lw_v _ (dv_eql (a := (la : Int)) (b := 0) (Z rfl) C) <| qm (qd ((la : Int) = 0)) rfl rfl ?_
 by_cases hb17 : ((la : Int)) = 0
 · refine lw_no (d := 13) rfl rfl (qT hb17) <| lw_no (d := 13) rfl rfl (qT hb17) <| lw_no (d := 13) rfl rfl (qT hb17) <| lw_no (d := 13) rfl rfl (qT hb17) <| lw_v (.bool true) (dv_pick_t (T rfl (qT hb17)) C) <| lw_nil <| rk_ct (Z rfl) <| rk_seq <| rk_reg <| lw_v (.agg #[.bool false, .slice none 0 0]) (dv_build (pv := []) (l := [.bool false, .slice none 0 0]) zc88 pl88 trivial rfl) <| lw_e (oe_store (v := .agg #[.bool false, .slice none 0 0]) (vs := [.bool false, .slice none 0 0]) (l := [.bool false, .slice none 0 0]) (Z rfl) (Z rfl) sz88 rfl rfl rfl n13.blk rfl ?_)
   intro w18 s19 H20
   have E21 := below_st E15 N14 s19
   refine lw_nil <| rk_ret Try.func109 (v := .agg #[.bool false, .slice none 0 0]) (res1 Try.results109 (rv_cells (l := [.bool false, .slice none 0 0]) agt88 sz88 rfl rfl H20 rfl)) ⟨_, rfl, ?_⟩
   exact ⟨_, _, _, _, rfl, E21, (Num.zero (s := 0)).tight (by have h1 := ha.pos_iff; have h2 := hb.pos_iff; exact (mul_zero_of (by omega)).symm) (by rw [Int.natAbs_mul]; exact nat_mul_sz ha.lt hb.lt)⟩
 refine lw_vy (.pointer (some ⟨b6, 1, none⟩)) (d := 13) rfl rfl (qF hb17) (dv_fieldAddr (a := ⟨b6, 0, none⟩) (a' := ⟨b6, 1, none⟩) fo88_1 (Z rfl) rfl) ?_
 have H22 := (n13.ext.blk n8.blk)
 refine lw_vy (.slice Ab lb cb) (d := 13) rfl rfl (qF hb17) (dv_load1 (b := b6) (o := 1) agt86 (Z rfl) H22 rfl) <| lw_vy (qi (lb : Int)) (d := 13) rfl rfl (qF hb17) (dv_len (ad := Ab) (l := lb) (c := cb) us86 (Z rfl)) <| lw_vy (qd ((lb : Int) = 0)) (d := 13) rfl rfl (qF hb17) (dv_eql (a := (lb : Int)) (b := 0) (Z rfl) C) <| lw_v (qd ((lb : Int) = 0)) (dv_pick_f (T rfl (qF hb17)) (Z rfl)) <| lw_nil ?_
 by_cases hb23 : ((lb : Int)) = 0
 · refine rk_ct (T rfl (qT hb23)) <| rk_seq <| rk_reg <| lw_v (.agg #[.bool false, .slice none 0 0]) (dv_build (pv := []) (l := [.bool false, .slice none 0 0]) zc88 pl88 trivial rfl) <| lw_e (oe_store (v := .agg #[.bool false, .slice none 0 0]) (vs := [.bool false, .slice none 0 0]) (l := [.bool false, .slice none 0 0]) (Z rfl) (Z rfl) sz88 rfl rfl rfl n13.blk rfl ?_)
   intro w24 s25 H26
   have E27 := below_st E15 N14 s25
   refine lw_nil <| rk_ret Try.func109 (v := .agg #[.bool false, .slice none 0 0]) (res1 Try.results109 (rv_cells (l := [.bool false, .slice none 0 0]) agt88 sz88 rfl rfl H26 rfl)) ⟨_, rfl, ?_⟩
   exact ⟨_, _, _, _, rfl, E27, (Num.zero (s := 0)).tight (by have h1 := ha.pos_iff; have h2 := hb.pos_iff; exact (mul_zero_of (by omega)).symm) (by rw [Int.natAbs_mul]; exact nat_mul_sz ha.lt hb.lt)⟩
 refine rk_cf (T rfl (qF hb23)) <| rk_skip <| rk_seq <| rk_reg <| lw_v (.pointer (some ⟨b1, 1, none⟩)) (dv_fieldAddr (a := ⟨b1, 0, none⟩) (a' := ⟨b1, 1, none⟩) fo88_1 (Z rfl) rfl) <| lw_v (.slice Aa la ca) (dv_load1 (b := b1) (o := 1) agt86 (Z rfl) H16 rfl) <| lw_v (qi (la : Int)) (dv_len (ad := Aa) (l := la) (c := ca) us86 (Z rfl)) <| lw_v (.pointer (some ⟨b6, 1, none⟩)) (dv_fieldAddr (a := ⟨b6, 0, none⟩) (a' := ⟨b6, 1, none⟩) fo88_1 (Z rfl) rfl) <| lw_v (.slice Ab lb cb) (dv_load1 (b := b6) (o := 1) agt86 (Z rfl) H22 rfl) <| lw_v (qi (lb : Int)) (dv_len (ad := Ab) (l := lb) (c := cb) us86 (Z rfl)) <| lw_v _ (dv_add (a := (la : Int)) (b := (lb : Int)) (z := (la : Int) + (lb : Int)) (Z rfl) (Z rfl) (wr_i64 (by omega) (by omega))) <| lw_e (oe_makeW (l := ((la) + (lb))) (j := (la : Int) + (lb : Int)) us86 in168 (Z rfl) (Z rfl) (by omega) (by first | omega | simp <;> omega) (by first | omega | simp <;> omega) ?_)
 intro b28 w29 n30
 have N31 : w.heap.size ≤ b28 := n30.eq ▸ E15.size
 have : b11 < b28 := n30.eq ▸ lt_of_blk n13.blk
 have E32 := qe E15 n30.ext
 refine qs (.slice (some ⟨b28, 0, none⟩) (((la) + (lb))) (((la) + (lb)))) rfl rfl <| lw_nil <| rk_seq <| rk_seq <| rk_reg <| lw_v (qi 0) (dv_assign C) <| lw_nil <| rk_block ?_
 have H33 := (n30.ext.blk H16)
 have H34 := (n30.ext.blk H22)
 have H35 := (n30.ext.blk n13.blk)
 refine rk_loop (fun dm_ fr wl => ∃ (i : Nat) (L : List Int), dm_ = xs.length - i ∧ fr 2 = .pointer (some ⟨b1, 0, none⟩) ∧ fr 3 = .pointer (some ⟨b6, 0, none⟩) ∧ fr 4 = .pointer (some ⟨b11, 0, none⟩) ∧ fr 5 = .slice (some ⟨b28, 0, none⟩) (((la) + (lb))) (((la) + (lb))) ∧ fr 6 = qi (i : Int) ∧ Below w.heap.size w wl ∧ wl.heap[b1]? = some (.cells #[.bool na, .slice Aa la ca] 88) ∧ wl.heap[b6]? = some (.cells #[.bool nb, .slice Ab lb cb] 88) ∧ wl.heap[b11]? = some (.cells #[.bool false, .slice none 0 0] 88) ∧ wl.heap[b28]? = some (.cells (L.map (Value.int .u32)).toArray 168) ∧ (i ≤ xs.length) ∧ (L.length = xs.length + ys.length) ∧ (okW (2 ^ 32) L) ∧ (valB (2 ^ 32) L = valB (2 ^ 32) (xs.take i) * valB (2 ^ 32) ys) ∧ (∀ q, i + ys.length ≤ q → L.getD q 0 = 0)) (xs.length - 0) ⟨0, (List.replicate (((la) + (lb))) (0 : Int)), rfl, rfl, rfl, rfl, rfl, (vi (by omega)), E32, H33, H34, H35, n30.blk, (Nat.zero_le _), (by simp; omega), (okW.replicate (by decide) _), (by rw [valB_zeros, List.take_zero]; simp [valB]), (fun q _ => rep_zero _ q)⟩ ?_
 intro d40 fr39 w36 hI37 ih38
 obtain ⟨i, L, hd51, f41, f42, f43, f44, f45, E46, H47, H48, H49, H50, hi, hl, hok, hv, hL0⟩ := hI37
 have bxs := okW.getD ox (by decide) i
 refine rk_seq <| rk_seq <| rk_reg <| qm (qi (i : Int)) rfl f45 <| lw_v (.pointer (some ⟨b1, 1, none⟩)) (dv_fieldAddr (a := ⟨b1, 0, none⟩) (a' := ⟨b1, 1, none⟩) fo88_1 (T rfl f41) rfl) <| lw_v (.slice Aa la ca) (dv_load1 (b := b1) (o := 1) agt86 (Z rfl) H47 rfl) <| lw_v (qi (la : Int)) (dv_len (ad := Aa) (l := la) (c := ca) us86 (Z rfl)) <| lw_v _ (dv_lss (a := (i : Int)) (b := (la : Int)) (Z rfl) (Z rfl)) <| lw_nil ?_
 by_cases hb52 : ((i : Int)) < ((la : Int))
 · refine rk_ct (T rfl (qT hb52)) <| rk_skip <| rk_seq <| rk_block <| rk_seq <| rk_reg <| lw_v (qu 0) (dv_assign C) <| lw_nil <| rk_seq <| rk_seq <| rk_reg <| lw_v (qi 0) (dv_assign C) <| lw_nil <| rk_block <| rk_loop (fun dm_ fr wl => ∃ (k : Nat) (M : List Int) (cy : Int), dm_ = ys.length - k ∧ fr 2 = .pointer (some ⟨b1, 0, none⟩) ∧ fr 3 = .pointer (some ⟨b6, 0, none⟩) ∧ fr 4 = .pointer (some ⟨b11, 0, none⟩) ∧ fr 5 = .slice (some ⟨b28, 0, none⟩) (((la) + (lb))) (((la) + (lb))) ∧ fr 6 = qi (i : Int) ∧ fr 7 = qu cy ∧ fr 8 = qi (k : Int) ∧ fr 28 = qi (i : Int) ∧ fr 29 = .pointer (some ⟨b1, 1, none⟩) ∧ fr 30 = .slice Aa la ca ∧ fr 31 = qi (la : Int) ∧ fr 32 = qd ((i : Int) < (la : Int)) ∧ Below w.heap.size w wl ∧ wl.heap[b1]? = some (.cells #[.bool na, .slice Aa la ca] 88) ∧ wl.heap[b6]? = some (.cells #[.bool nb, .slice Ab lb cb] 88) ∧ wl.heap[b11]? = some (.cells #[.bool false, .slice none 0 0] 88) ∧ wl.heap[b28]? = some (.cells (M.map (Value.int .u32)).toArray 168) ∧ (k ≤ ys.length) ∧ (M.length = xs.length + ys.length) ∧ (okW (2 ^ 32) M) ∧ (0 ≤ cy ∧ cy < 4294967296) ∧ (valB (2 ^ 32) M + cy * (2 ^ 32) ^ (i + k) = valB (2 ^ 32) (xs.take i) * valB (2 ^ 32) ys + xs.getD i 0 * valB (2 ^ 32) (ys.take k) * (2 ^ 32) ^ i) ∧ (∀ q, i + ys.length ≤ q → M.getD q 0 = 0)) (ys.length - 0) ⟨0, L, 0, rfl, f41, f42, f43, f44, f45, rfl, (vi (by omega)), rfl, rfl, rfl, rfl, rfl, E46, H47, H48, H49, H50, (Nat.zero_le _), hl, hok, (by decide), (mul_start hv), hL0⟩ ?_
   intro d57 fr56 w53 hI54 ih55
   obtain ⟨k, M, cy, hd75, f58, f59, f60, f61, f62, f63, f64, f65, f66, f67, f68, f69, E70, H71, H72, H73, H74, hk, hMl, hok2, hcy, hM, hM0⟩ := hI54
   have bys := okW.getD oy (by decide) k
   have bMk := okW.getD hok2 (by decide) (i + k)
   refine rk_seq <| rk_seq <| rk_reg <| qm (qi (k : Int)) rfl f64 <| lw_v (.pointer (some ⟨b6, 1, none⟩)) (dv_fieldAddr (a := ⟨b6, 0, none⟩) (a' := ⟨b6, 1, none⟩) fo88_1 (T rfl f59) rfl) <| lw_v (.slice Ab lb cb) (dv_load1 (b := b6) (o := 1) agt86 (Z rfl) H72 rfl) <| lw_v (qi (lb : Int)) (dv_len (ad := Ab) (l := lb) (c := cb) us86 (Z rfl)) <| lw_v _ (dv_lss (a := (k : Int)) (b := (lb : Int)) (Z rfl) (Z rfl)) <| lw_nil ?_
   by_cases hb76 : ((k : Int)) < ((lb : Int))
   · refine rk_ct (T rfl (qT hb76)) <| rk_skip <| rk_seq <| rk_block <| rk_seq ?_
     have h77 := (hxw.ext E70)
     have h78 := (hyw.ext E70)
     refine rk_any (fun w => w.heap[b1]? = some (.cells #[.bool na, .slice Aa la ca] 88) ∧ Wd w 168 .u32 Aa xs ∧ w.heap[b6]? = some (.cells #[.bool nb, .slice Ab lb cb] 88) ∧ Wd w 168 .u32 Ab ys ∧ w.heap[b28]? = some (.cells (M.map (Value.int .u32)).toArray 168)) [23] mo ?_
     intro w79 d80
     have E81 := qe E70 d80.ext
     have H82 := (d80.ext.blk H71)
     have h83 := (h77.ext d80.ext)
     have H84 := (d80.ext.blk H72)
     have h85 := (h78.ext d80.ext)
     have H86 := (d80.ext.blk H74)
     refine aw_pure 0 (qu cy) rfl (by kernel_rfl) .none ⟨H82, h83, H84, h85, H86⟩ (fun _ => dv_move (T rfl f63)) <| aw_pure 1 (.pointer (some ⟨b1, 1, none⟩)) rfl (by kernel_rfl) .none ⟨H82, h83, H84, h85, H86⟩ (fun _ => dv_fieldAddr (a := ⟨b1, 0, none⟩) (a' := ⟨b1, 1, none⟩) fo88_1 (T rfl f58) rfl) <| aw_load 2 (.slice Aa la ca) rfl (by kernel_rfl) .none ⟨H82, h83, H84, h85, H86⟩ (fun _ s => dv_load1 (b := b1) (o := 1) agt86 (Z rfl) s.1 rfl) <| aw_pure 3 (qi (i : Int)) rfl (by kernel_rfl) .none ⟨H82, h83, H84, h85, H86⟩ (fun _ => dv_move (T rfl f62)) ?_
     obtain ⟨g87, o88, rfl⟩ := Wd.at h83 (by first | omega | simp <;> omega)
     refine aw_pure 4 (.pointer (some ⟨g87, o88 + i, none⟩)) rfl (by kernel_rfl) .none ⟨H82, h83, H84, h85, H86⟩ (fun _ => dv_indexW (g := g87) (o := o88) (l := la) (c := ca) (i := i) (j := (i : Int)) us86 sz168 (Z rfl) (Z rfl) (by omega) (by first | omega | simp <;> omega)) <| aw_load 5 (.int .u32 (xs.getD i 0)) rfl (by kernel_rfl) .none ⟨H82, h83, H84, h85, H86⟩ (fun _ s => dv_load agt168 (Z rfl) (Wd.cell s.2.1 (by first | omega | simp <;> omega))) <| aw_pure 6 (qu (xs.getD i 0)) rfl (by kernel_rfl) .none ⟨H82, h83, H84, h85, H86⟩ (fun _ => dv_conv (a := xs.getD i 0) (z := xs.getD i 0) ui168 ui36 (Z rfl) (wn_u64 (by omega) (by omega))) <| aw_pure 7 (.pointer (some ⟨b6, 1, none⟩)) rfl (by kernel_rfl) .none ⟨H82, h83, H84, h85, H86⟩ (fun _ => dv_fieldAddr (a := ⟨b6, 0, none⟩) (a' := ⟨b6, 1, none⟩) fo88_1 (T rfl f59) rfl) <| aw_load 8 (.slice Ab lb cb) rfl (by kernel_rfl) .none ⟨H82, h83, H84, h85, H86⟩ (fun _ s => dv_load1 (b := b6) (o := 1) agt86 (Z rfl) s.2.2.1 rfl) <| aw_pure 9 (qi (k : Int)) rfl (by kernel_rfl) .none ⟨H82, h83, H84, h85, H86⟩ (fun _ => dv_move (T rfl f64)) ?_
     obtain ⟨g89, o90, rfl⟩ := Wd.at h85 (by first | omega | simp <;> omega)
     refine aw_pure 10 (.pointer (some ⟨g89, o90 + k, none⟩)) rfl (by kernel_rfl) .none ⟨H82, h83, H84, h85, H86⟩ (fun _ => dv_indexW (g := g89) (o := o90) (l := lb) (c := cb) (i := k) (j := (k : Int)) us86 sz168 (Z rfl) (Z rfl) (by omega) (by first | omega | simp <;> omega)) <| aw_load 11 (.int .u32 (ys.getD k 0)) rfl (by kernel_rfl) .none ⟨H82, h83, H84, h85, H86⟩ (fun _ s => dv_load agt168 (Z rfl) (Wd.cell s.2.2.2.1 (by first | omega | simp <;> omega))) <| aw_pure 12 (qu (ys.getD k 0)) rfl (by kernel_rfl) .none ⟨H82, h83, H84, h85, H86⟩ (fun _ => dv_conv (a := ys.getD k 0) (z := ys.getD k 0) ui168 ui36 (Z rfl) (wn_u64 (by omega) (by omega))) ?_
     have hm91 := mul_pos_bd (A := 4294967295) (show 0 ≤ (xs.getD i 0) by omega) (by omega) (show 0 ≤ (ys.getD k 0) by omega) (by omega)
     refine aw_pure 13 (qu ((xs.getD i 0) * (ys.getD k 0))) rfl (by kernel_rfl) .none ⟨H82, h83, H84, h85, H86⟩ (fun _ => dv_mul (a := xs.getD i 0) (b := ys.getD k 0) (z := (xs.getD i 0) * (ys.getD k 0)) (Z rfl) (Z rfl) (wn_u64 (by omega) (by omega))) <| aw_pure 14 (qu (cy + ((xs.getD i 0) * (ys.getD k 0)))) rfl (by kernel_rfl) .none ⟨H82, h83, H84, h85, H86⟩ (fun _ => dv_add (a := cy) (b := (xs.getD i 0) * (ys.getD k 0)) (z := cy + ((xs.getD i 0) * (ys.getD k 0))) (Z rfl) (Z rfl) (wn_u64 (by omega) (by omega))) <| aw_pure 15 (.slice (some ⟨b28, 0, none⟩) (((la) + (lb))) (((la) + (lb)))) rfl (by kernel_rfl) .none ⟨H82, h83, H84, h85, H86⟩ (fun _ => dv_move (T rfl f61)) <| aw_pure 16 (qi (i : Int)) rfl (by kernel_rfl) .none ⟨H82, h83, H84, h85, H86⟩ (fun _ => dv_move (T rfl f62)) <| aw_pure 17 (qi (k : Int)) rfl (by kernel_rfl) .none ⟨H82, h83, H84, h85, H86⟩ (fun _ => dv_move (T rfl f64)) <| aw_pure 18 (qi ((i : Int) + (k : Int))) rfl (by kernel_rfl) .none ⟨H82, h83, H84, h85, H86⟩ (fun _ => dv_add (a := (i : Int)) (b := (k : Int)) (z := (i : Int) + (k : Int)) (Z rfl) (Z rfl) (wr_i64 (by omega) (by omega))) <| aw_pure 19 (.pointer (some ⟨b28, (((i) + (k))), none⟩)) rfl (by kernel_rfl) .none ⟨H82, h83, H84, h85, H86⟩ (fun _ => dv_indexO (g := b28) (l := ((la) + (lb))) (c := ((la) + (lb))) (i := ((i) + (k))) (j := (i : Int) + (k : Int)) us86 sz168 (Z rfl) (Z rfl) (by omega) (by first | omega | simp <;> omega)) <| aw_load 20 (.int .u32 (M.getD (((i) + (k))) 0)) rfl (by kernel_rfl) .none ⟨H82, h83, H84, h85, H86⟩ (fun _ s => dv_loadW (L := M) (v := M.getD (((i) + (k))) 0) agt168 (Z rfl) s.2.2.2.2 (by first | omega | simp <;> omega) rfl) <| aw_pure 21 (qu (M.getD (((i) + (k))) 0)) rfl (by kernel_rfl) .none ⟨H82, h83, H84, h85, H86⟩ (fun _ => dv_conv (a := M.getD (((i) + (k))) 0) (z := M.getD (((i) + (k))) 0) ui168 ui36 (Z rfl) (wn_u64 (by omega) (by omega))) <| aw_pure 22 (qu ((cy + ((xs.getD i 0) * (ys.getD k 0))) + (M.getD (((i) + (k))) 0))) rfl (by kernel_rfl) .none ⟨H82, h83, H84, h85, H86⟩ (fun _ => dv_add (a := cy + ((xs.getD i 0) * (ys.getD k 0))) (b := M.getD (((i) + (k))) 0) (z := (cy + ((xs.getD i 0) * (ys.getD k 0))) + (M.getD (((i) + (k))) 0)) (Z rfl) (Z rfl) (wn_u64 (by omega) (by omega))) <| aw_last 23 (qu ((cy + ((xs.getD i 0) * (ys.getD k 0))) + (M.getD (((i) + (k))) 0))) rfl (by kernel_rfl) .none (fun _ => dv_assign (Z rfl)) <| aw_done (by kernel_rfl) <| rk_seq <| rk_reg <| qm (.slice (some ⟨b28, 0, none⟩) (((la) + (lb))) (((la) + (lb)))) rfl f61 <| qm (qi (i : Int)) rfl f62 <| qm (qi (k : Int)) rfl f64 <| lw_v _ (dv_add (a := (i : Int)) (b := (k : Int)) (z := (i : Int) + (k : Int)) (Z rfl) (Z rfl) (wr_i64 (by omega) (by omega))) <| qm (qu ((cy + ((xs.getD i 0) * (ys.getD k 0))) + (M.getD (((i) + (k))) 0))) rfl rfl <| lw_v (.int .u32 (((cy + ((xs.getD i 0) * (ys.getD k 0))) + (M.getD (((i) + (k))) 0)) % 4294967296)) (dv_conv (a := (cy + ((xs.getD i 0) * (ys.getD k 0))) + (M.getD (((i) + (k))) 0)) (z := ((cy + ((xs.getD i 0) * (ys.getD k 0))) + (M.getD (((i) + (k))) 0)) % 4294967296) ui36 ui168 (Z rfl) (wr_u32 _)) <| lw_v (.pointer (some ⟨b28, (((i) + (k))), none⟩)) (dv_indexO (g := b28) (l := ((la) + (lb))) (c := ((la) + (lb))) (i := ((i) + (k))) (j := (i : Int) + (k : Int)) us86 sz168 (Z rfl) (Z rfl) (by omega) (by first | omega | simp <;> omega)) <| lw_e (oe_storeW (L := M) (i := ((i) + (k))) (z := ((cy + ((xs.getD i 0) * (ys.getD k 0))) + (M.getD (((i) + (k))) 0)) % 4294967296) sz168 (Z rfl) (Z rfl) H86 (by first | omega | simp <;> omega) ?_)
     intro w92 s93 H94
     have E95 := below_st E81 N31 s93
     refine lw_nil <| rk_reg <| qm (qu ((cy + ((xs.getD i 0) * (ys.getD k 0))) + (M.getD (((i) + (k))) 0))) rfl rfl <| lw_v (qu (((cy + ((xs.getD i 0) * (ys.getD k 0))) + (M.getD (((i) + (k))) 0)) / 4294967296)) (dv_shr (a := (cy + ((xs.getD i 0) * (ys.getD k 0))) + (M.getD (((i) + (k))) 0)) (b := 32) (z := ((cy + ((xs.getD i 0) * (ys.getD k 0))) + (M.getD (((i) + (k))) 0)) / 4294967296) (Z rfl) C (by decide) (shr_c (n := 32) (by omega) (by decide))) <| qs (qu (((cy + ((xs.getD i 0) * (ys.getD k 0))) + (M.getD (((i) + (k))) 0)) / 4294967296)) rfl rfl <| lw_nil <| rk_inBlock <| rk_reg <| qm (qi (k : Int)) rfl f64 <| lw_v _ (dv_add (a := (k : Int)) (b := 1) (z := (k : Int) + 1) (Z rfl) C (wr_i64 (by omega) (by omega))) <| qs (qi ((k : Int) + 1)) rfl rfl <| lw_nil ?_
     have H96 := (s93.blk H82 (by omega))
     have H97 := (s93.blk H84 (by omega))
     have H98 := (s93.blk (d80.ext.blk H73) (by omega))
     exact ih55 (ys.length - (k + 1)) _ _ (by rw [hd75]; omega) ⟨(k + 1), (M.set (((i) + (k))) (((cy + ((xs.getD i 0) * (ys.getD k 0))) + (M.getD (((i) + (k))) 0)) % 4294967296)), (((cy + ((xs.getD i 0) * (ys.getD k 0))) + (M.getD (((i) + (k))) 0)) / 4294967296), rfl, f58, f59, f60, f61, f62, rfl, (vi (by omega)), f65, f66, f67, f68, f69, E95, H96, H97, H98, H94, (by omega), (by simp; omega), (okW.set hok2 (by omega) (by omega) _), (by omega), (mul_step (by omega) hM rfl rfl (by omega)), (zero_set hM0 (by omega))⟩
   refine rk_cf (T rfl (qF hb76)) <| rk_exit rfl <| rk_reg <| qm (.slice (some ⟨b28, 0, none⟩) (((la) + (lb))) (((la) + (lb)))) rfl f61 <| qm (qi (i : Int)) rfl f62 <| lw_v (.pointer (some ⟨b6, 1, none⟩)) (dv_fieldAddr (a := ⟨b6, 0, none⟩) (a' := ⟨b6, 1, none⟩) fo88_1 (T rfl f59) rfl) <| lw_v (.slice Ab lb cb) (dv_load1 (b := b6) (o := 1) agt86 (Z rfl) H72 rfl) <| lw_v (qi (lb : Int)) (dv_len (ad := Ab) (l := lb) (c := cb) us86 (Z rfl)) <| lw_v _ (dv_add (a := (i : Int)) (b := (lb : Int)) (z := (i : Int) + (lb : Int)) (Z rfl) (Z rfl) (wr_i64 (by omega) (by omega))) <| qm (qu cy) rfl f63 <| lw_v (.int .u32 ((cy) % 4294967296)) (dv_conv (a := cy) (z := (cy) % 4294967296) ui36 ui168 (Z rfl) (wr_u32 _)) <| lw_v (.pointer (some ⟨b28, (((i) + (lb))), none⟩)) (dv_indexO (g := b28) (l := ((la) + (lb))) (c := ((la) + (lb))) (i := ((i) + (lb))) (j := (i : Int) + (lb : Int)) us86 sz168 (Z rfl) (Z rfl) (by omega) (by first | omega | simp <;> omega)) <| lw_e (oe_storeW (L := M) (i := ((i) + (lb))) (z := (cy) % 4294967296) sz168 (Z rfl) (Z rfl) H74 (by first | omega | simp <;> omega) ?_)
   intro w99 s100 H101
   have E102 := below_st E70 N31 s100
   refine lw_nil <| rk_inBlock <| rk_reg <| qm (qi (i : Int)) rfl f62 <| lw_v _ (dv_add (a := (i : Int)) (b := 1) (z := (i : Int) + 1) (Z rfl) C (wr_i64 (by omega) (by omega))) <| qs (qi ((i : Int) + 1)) rfl rfl <| lw_nil ?_
   have H103 := (s100.blk H71 (by omega))
   have H104 := (s100.blk H72 (by omega))
   have H105 := (s100.blk H73 (by omega))
   exact ih38 (xs.length - (i + 1)) _ _ (by rw [hd51]; omega) ⟨(i + 1), (M.set (((i) + (lb))) ((cy) % 4294967296)), rfl, f58, f59, f60, f61, (vi (by omega)), E102, H103, H104, H105, H101, (by omega), (by simp; omega), (okW.set hok2 (by omega) (by omega) _), (by have hk : k = ys.length := (by omega); subst hk; rw [← hyl]; rw [Int.emod_eq_of_lt hcy.1 hcy.2]; exact mul_last (by omega) (hM0 _ (by omega)) hM), (by rw [← hyl]; intro q hq; exact zero_set1 hM0 q (by omega))⟩
 refine rk_cf (T rfl (qF hb52)) <| rk_exit rfl <| rk_seq <| rk_reg <| lw_v (.pointer (some ⟨b1, 0, none⟩)) (dv_fieldAddr (a := ⟨b1, 0, none⟩) (a' := ⟨b1, 0, none⟩) fo88_0 (T rfl f41) rfl) <| lw_v (.bool na) (dv_load1 (b := b1) (o := 0) agt4 (Z rfl) H47 rfl) <| lw_v (.pointer (some ⟨b6, 0, none⟩)) (dv_fieldAddr (a := ⟨b6, 0, none⟩) (a' := ⟨b6, 0, none⟩) fo88_0 (T rfl f42) rfl) <| lw_v (.bool nb) (dv_load1 (b := b6) (o := 0) agt4 (Z rfl) H48 rfl) <| lw_v (.bool (na != nb)) (dv_neqb (a := na) (b := nb) ub4 (Z rfl) (Z rfl)) <| qm (.slice (some ⟨b28, 0, none⟩) (((la) + (lb))) (((la) + (lb)))) rfl f44 <| lw_e (oe_callf (vs := [.bool (na != nb), .slice (some ⟨b28, 0, none⟩) (((la) + (lb))) (((la) + (lb)))]) co131 (ar2 (Z rfl) (Z rfl)) (l1Trim_num (s := (32 * (((la) + (lb))))) (neg := na != nb) (⟨L, (by first | (simp; done) | (simp; omega) | omega), (by first | (simp; done) | (simp; omega) | omega), Wd.ownW H50, hok, rfl⟩ : Ws _ _ _ _ _ _ _ _) (by first | omega | simp <;> omega) (valB_sz hok (by first | (simp; done) | (simp; omega) | omega))) ?_)
 rintro _ w111 ⟨nb106, A107, n108, c109, rfl, e112, hn110⟩
 have E113 := qe E46 e112
 have lhn110 := ql hn110
 have H114 := (e112.blk H49)
 refine lw_e (oe_store (v := .agg #[.bool nb106, .slice A107 n108 c109]) (vs := [.bool nb106, .slice A107 n108 c109]) (l := [.bool nb106, .slice A107 n108 c109]) (T rfl f43) (Z rfl) sz88 rfl rfl rfl H114 rfl ?_)
 intro w115 s116 H117
 have E118 := below_st E113 N14 s116
 refine lw_nil <| rk_ret Try.func109 (v := .agg #[.bool nb106, .slice A107 n108 c109]) (res1 Try.results109 (rv_cells (l := [.bool nb106, .slice A107 n108 c109]) agt88 sz88 rfl f43 H117 rfl)) ⟨_, rfl, ?_⟩
 have h119 := (hn110.st s116 H114 (by decide))
 exact ⟨_, _, _, _, rfl, E118, h119.tight (by rw [hv, List.take_of_length_le (by omega), ← hxv, ← hyv]; exact sg_mul ha.neg_iff hb.neg_iff) (by rw [Int.natAbs_mul]; exact nat_mul_sz ha.lt hb.lt)⟩
end Go.Proofs.Ytmbpomcbdopgnaa.W
