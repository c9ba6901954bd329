/- Walks and plain mathematics, packed by a program of this session: declarations that the rows reach. -/
import Derived.Test.YtmbpomcbdopgnaaPbc
set_option linter.unusedVariables false
set_option linter.unusedSimpArgs false
namespace Go.Proofs.Ytmbpomcbdopgnaa.W
open Go Go.RowKit Go.Proofs.Ytmbpomcbdopgnaa.Fw
attribute [local irreducible] RunK LW AW DV OE Ct
theorem co147 : callOk Try.prog 147 = true := by kernel_rfl
theorem co148 : callOk Try.prog 148 = true := by kernel_rfl
set_option maxHeartbeats 4000000 in
theorem divWords_ok {w : World} {Aa Ab : Option Addr} {la ca lb cb : Nat} {x y : Int} (ha : Wc 64 36 .u64 w Aa la ca x) (hb : Wc 64 36 .u64 w Ab lb cb y) (hy : 0 < y) (hla : la ≤ 400000) (hlb : lb ≤ 400000) : Ct Try.prog 135 [.slice Aa la ca, .slice Ab lb cb] w fun v w1 => ∃ A1 n1 c1 A2 n2 c2, v = .tuple #[.slice A1 n1 c1, .slice A2 n2 c2] ∧ Ext w w1 ∧ Wc 64 36 .u64 w1 A1 n1 c1 (x / y) ∧ Wc 64 36 .u64 w1 A2 n2 c2 (x % y) := by
 refine ct_run (n := 326) Try.func135 rfl Try.ntmps135 rfl ?_
 have E0 : Below w.heap.size w w := Below.refl _ _
 obtain ⟨xs, hxl, hxc, hxw, ox, hxk, hxv⟩ := id ha
 obtain ⟨ys, hyl, hyc, hyw, oy, hyk, hyv⟩ := id hb
 have hlp := hb.pos
 have hx0 := ha.nonneg
 refine rk_seq ?_
 refine rk_reg ?_
 refine lw_v (.slice none 0 0) (dv_assign C) ?_
 refine lw_v (.slice none 0 0) (dv_assign C) ?_
 refine lw_nil ?_
 refine rk_seq ?_
 refine rk_seq ?_
 refine rk_reg ?_
 refine lw_v (.slice Aa la ca) (dv_move (T rfl rfl)) ?_
 refine lw_v (.slice Ab lb cb) (dv_move (T rfl rfl)) ?_
 refine lw_e (oe_callf (vs := [.slice Aa la ca, .slice Ab lb cb]) co119 (ar2 (T rfl rfl) (T rfl rfl)) (cmpWords_wc ha hb (by first | omega | (simp; done) | (simp; omega)) (by first | omega | (simp; done) | (simp; omega))) ?_)
 rintro _ w3 ⟨r1, rfl, e4, hr2⟩
 have E5 := below_ext E0 E0.size e4
 have qhr2 := cmpR.ge hr2
 have phr2 := cmpR.eq hr2
 refine lw_v (.bool (decide (r1 < 0))) (dv_lss (a := r1) (b := 0) (T rfl rfl) C) ?_
 refine lw_nil ?_
 by_cases hb6 : r1 < 0
 · refine rk_ct (T rfl (congrArg Value.bool (decide_eq_true hb6))) ?_
   refine rk_seq ?_
   refine rk_reg ?_
   refine lw_v (.slice Aa la ca) (dv_move (T rfl rfl)) ?_
   refine lw_v (.slice none 0 0) (dv_assign C) ?_
   refine lw_v (.slice Aa la ca) (dv_assign (T rfl rfl)) ?_
   refine lw_nil ?_
   refine rk_ret Try.func135 (v := .tuple #[.slice none 0 0, .slice Aa la ca]) (res2 Try.results135 (rv_tmp rfl rfl) (rv_tmp rfl rfl)) ⟨_, rfl, ?_⟩
   have hq0 := Int.ediv_eq_zero_of_lt (a := x) (b := y) hx0 (by omega)
   have hr0 := Int.emod_eq_of_lt (a := x) (b := y) hx0 (by omega)
   have h7 := (ha.ext e4)
   exact ⟨_, _, _, _, _, _, rfl, E5, Wc.zero.eq hq0.symm, h7.eq hr0.symm⟩
 · refine rk_cf (T rfl (congrArg Value.bool (decide_eq_false hb6))) ?_
   refine rk_skip ?_
   refine rk_seq ?_
   have hle : y ≤ x := by omega
   have hll : lb ≤ la := by have := len_le ox oy hyk (by rw [← hxv, ← hyv]; exact hle); omega
   have hlbp : 0 < lb := hlp.2 hy
   refine rk_reg ?_
   refine lw_v (.slice Ab lb cb) (dv_move (T rfl rfl)) ?_
   refine lw_v (.int .i64 ((lb : Int))) (dv_len (ad := Ab) (l := lb) (c := cb) us105 (T rfl rfl)) ?_
   refine lw_v (.int .i64 ((lb : Int))) (dv_assign (T rfl rfl)) ?_
   refine lw_nil ?_
   refine rk_seq ?_
   refine rk_seq ?_
   refine rk_reg ?_
   refine lw_v (.int .i64 ((lb : Int))) (dv_move (T rfl rfl)) ?_
   refine lw_v (.bool (decide (((lb : Int)) = 1))) (dv_eql (a := (lb : Int)) (b := 1) (T rfl rfl) C) ?_
   refine lw_nil ?_
   by_cases hb8 : ((lb : Int)) = 1
   · refine rk_ct (T rfl (congrArg Value.bool (decide_eq_true hb8))) ?_
     refine rk_seq ?_
     have hy1 : y = ys.getD 0 0 := by rw [hyv, valB_head, List.drop_eq_nil_of_le (by omega)]; simp [valB]
     refine rk_reg ?_
     refine lw_v (.slice Aa la ca) (dv_move (T rfl rfl)) ?_
     refine lw_v (.int .i64 ((la : Int))) (dv_len (ad := Aa) (l := la) (c := ca) us105 (T rfl rfl)) ?_
     refine lw_e (oe_makeW (l := la) (j := (la : Int)) us105 in36 (T rfl rfl) (T rfl rfl) (by omega) (by first | omega | (simp; done) | (simp; omega)) (by first | omega | (simp; done) | (simp; omega)) ?_)
     intro b9 w10 n11
     have N12 : w.heap.size ≤ b9 := n11.eq ▸ E5.size
     have E13 := below_ext E5 E5.size n11.ext
     refine lw_v (.slice (some ⟨b9, 0, none⟩) la la) (dv_assign (T rfl rfl)) ?_
     refine lw_v (.int .u64 0) (dv_assign C) ?_
     refine lw_nil ?_
     refine rk_seq ?_
     refine rk_seq ?_
     refine rk_reg ?_
     refine lw_v (.slice Aa la ca) (dv_move (T rfl rfl)) ?_
     refine lw_v (.int .i64 ((la : Int))) (dv_len (ad := Aa) (l := la) (c := ca) us105 (T rfl rfl)) ?_
     refine lw_v (.int .i64 (((la : Int)) - 1)) (dv_sub (a := (la : Int)) (b := 1) (z := ((la : Int)) - 1) (T rfl rfl) C (wr_i64 (by omega) (by omega))) ?_
     refine lw_v (.int .i64 (((la : Int)) - 1)) (dv_assign (T rfl rfl)) ?_
     refine lw_nil ?_
     refine rk_block ?_
     refine rk_loop (fun dm_ fr wl => ∃ (n : Nat) (L : List Int) (r : Int), dm_ = n ∧ fr 0 = .slice Aa la ca ∧ fr 1 = .slice Ab lb cb ∧ fr 4 = .slice none 0 0 ∧ fr 5 = .slice none 0 0 ∧ fr 6 = .int .i64 ((lb : Int)) ∧ fr 7 = .slice (some ⟨b9, 0, none⟩) la la ∧ fr 8 = .int .u64 r ∧ fr 9 = .int .i64 ((n : Int) - 1) ∧ Below w.heap.size w wl ∧ wl.heap[b9]? = some (.cells (L.map (Value.int .u64)).toArray 36) ∧ (n ≤ la) ∧ (L.length = la) ∧ (okW (2 ^ 64) L) ∧ (0 ≤ r ∧ r < ys.getD 0 0) ∧ (valB (2 ^ 64) (xs.drop n) = ys.getD 0 0 * valB (2 ^ 64) (L.drop n) + r)) (la) ⟨la, (List.replicate la (0 : Int)), 0, rfl, rfl, rfl, rfl, rfl, rfl, rfl, rfl, (vi (by omega)), E13, n11.blk, (Nat.le_refl _), (by simp), (okW.replicate (by decide) _), (by omega), (by rw [List.drop_eq_nil_of_le (by omega), List.drop_eq_nil_of_le (by simp)]; simp [valB])⟩ ?_
     intro d18 fr17 w14 hI15 ih16
     obtain ⟨n, L, r, hd29, f19, f20, f21, f22, f23, f24, f25, f26, E27, H28, hn, hl, hok, hr, hv⟩ := hI15
     have bxs := okW.getD ox (by decide) (n - 1)
     have by0 := okW.getD oy (by decide) 0
     refine rk_seq ?_
     refine rk_seq ?_
     refine rk_reg ?_
     refine lw_v (.int .i64 ((n : Int) - 1)) (dv_move (T rfl f26)) ?_
     refine lw_v (.bool (decide (0 ≤ ((n : Int) - 1)))) (dv_geq (a := (n : Int) - 1) (b := 0) (T rfl rfl) C) ?_
     refine lw_nil ?_
     by_cases hb30 : 0 ≤ ((n : Int) - 1)
     · refine rk_ct (T rfl (congrArg Value.bool (decide_eq_true hb30))) ?_
       refine rk_skip ?_
       refine rk_seq ?_
       refine rk_block ?_
       have h31 := (hxw.ext E27)
       have h32 := (hyw.ext E27)
       refine rk_any (fun w => Wd w 36 .u64 Aa xs ∧ Wd w 36 .u64 Ab ys) [16] mo ?_
       intro w33 d34
       have E35 := below_ext E27 E27.size d34.ext
       have h36 := (h31.ext d34.ext)
       have h37 := (h32.ext d34.ext)
       refine aw_pure 0 (.slice (some ⟨b9, 0, none⟩) la la) rfl (by kernel_rfl) .none ⟨h36, h37⟩ (fun _ => dv_move (T rfl f24)) ?_
       refine aw_pure 1 (.int .i64 ((n : Int) - 1)) rfl (by kernel_rfl) .none ⟨h36, h37⟩ (fun _ => dv_move (T rfl f26)) ?_
       refine aw_pure 2 (.int .u64 r) rfl (by kernel_rfl) .none ⟨h36, h37⟩ (fun _ => dv_move (T rfl f25)) ?_
       refine aw_pure 3 (.slice Aa la ca) rfl (by kernel_rfl) .none ⟨h36, h37⟩ (fun _ => dv_move (T rfl f19)) ?_
       refine aw_pure 4 (.int .i64 ((n : Int) - 1)) rfl (by kernel_rfl) .none ⟨h36, h37⟩ (fun _ => dv_move (T rfl f26)) ?_
       obtain ⟨g38, o39, rfl⟩ := Wd.at h36 (by first | omega | (simp; done) | (simp; omega))
       refine aw_pure 5 (.pointer (some ⟨g38, o39 + (n - 1), none⟩)) rfl (by kernel_rfl) .none ⟨h36, h37⟩ (fun _ => dv_indexW (g := g38) (o := o39) (l := la) (c := ca) (i := (n - 1)) (j := (n : Int) - 1) us105 sz36 (T rfl rfl) (T rfl rfl) (by omega) (by first | omega | (simp; done) | (simp; omega))) ?_
       refine aw_load 6 (.int .u64 (xs.getD ((n - 1)) 0)) rfl (by kernel_rfl) .none ⟨h36, h37⟩ (fun _ s => dv_load agt36 (T rfl rfl) (Wd.cell s.1 (by first | omega | (simp; done) | (simp; omega)))) ?_
       refine aw_pure 7 (.slice Ab lb cb) rfl (by kernel_rfl) .none ⟨h36, h37⟩ (fun _ => dv_move (T rfl f20)) ?_
       obtain ⟨g40, o41, rfl⟩ := Wd.at h37 (by first | omega | (simp; done) | (simp; omega))
       refine aw_pure 8 (.pointer (some ⟨g40, o41 + 0, none⟩)) rfl (by kernel_rfl) .none ⟨h36, h37⟩ (fun _ => dv_indexW (g := g40) (o := o41) (l := lb) (c := cb) (i := 0) (j := 0) us105 sz36 (T rfl rfl) C (by omega) (by first | omega | (simp; done) | (simp; omega))) ?_
       refine aw_load 9 (.int .u64 (ys.getD 0 0)) rfl (by kernel_rfl) .none ⟨h36, h37⟩ (fun _ s => dv_load agt36 (T rfl rfl) (Wd.cell s.2 (by first | omega | (simp; done) | (simp; omega)))) ?_
       refine aw_one 10 rfl (by kernel_rfl) .none (oe_callf (vs := [.int .u64 r, .int .u64 (xs.getD ((n - 1)) 0), .int .u64 (ys.getD 0 0)]) co147 (ar3 (T rfl rfl) (T rfl rfl) (T rfl rfl)) (div64_q (hi := r) (lo := xs.getD ((n - 1)) 0) (y := ys.getD 0 0) (by omega) (by omega) (by omega) (by omega)) ?_)
       rintro _ w45 ⟨qd42, rd43, rfl, e46, hd44⟩
       have E47 := below_ext E35 E35.size e46
       obtain ⟨hd44a, hd44b, hd44c, hd44d⟩ := hd44
       have h48 := (h36.ext e46)
       have h49 := (h37.ext e46)
       refine ⟨.inr ⟨h48, h49⟩, ?_⟩
       refine aw_pure 11 (.tuple #[.int .u64 qd42, .int .u64 rd43]) rfl (by kernel_rfl) .none ⟨h48, h49⟩ (fun _ => dv_move (T rfl rfl)) ?_
       refine aw_pure 12 (.int .u64 qd42) rfl (by kernel_rfl) .none ⟨h48, h49⟩ (fun _ => dv_extract (vs := #[.int .u64 qd42, .int .u64 rd43]) (T rfl rfl) rfl) ?_
       refine aw_pure 13 (.int .u64 rd43) rfl (by kernel_rfl) .none ⟨h48, h49⟩ (fun _ => dv_extract (vs := #[.int .u64 qd42, .int .u64 rd43]) (T rfl rfl) rfl) ?_
       refine aw_pure 14 (.pointer (some ⟨b9, ((n - 1)), none⟩)) rfl (by kernel_rfl) .none ⟨h48, h49⟩ (fun _ => dv_indexO (g := b9) (l := la) (c := la) (i := (n - 1)) (j := (n : Int) - 1) us105 sz36 (T rfl rfl) (T rfl rfl) (by omega) (by first | omega | (simp; done) | (simp; omega))) ?_
       have H50 := (e46.blk (d34.ext.blk H28))
       refine aw_one 15 rfl (by kernel_rfl) .none (oe_storeW (L := L) (i := (n - 1)) (z := qd42) sz36 (T rfl rfl) (T rfl rfl) H50 (by first | omega | (simp; done) | (simp; omega)) ?_)
       intro w51 s52 H53
       have E54 := below_st E47 N12 s52
       have h55 := hxw.ext E54
       have h56 := hyw.ext E54
       refine ⟨.inr ⟨h55, h56⟩, ?_⟩
       refine aw_last 16 (.int .u64 rd43) rfl (by kernel_rfl) .none (fun _ => dv_assign (T rfl rfl)) ?_
       refine aw_done (by kernel_rfl) ?_
       refine rk_inBlock ?_
       refine rk_reg ?_
       refine lw_v (.int .i64 ((n : Int) - 1)) (dv_move (T rfl f26)) ?_
       refine lw_v (.int .i64 (((n : Int) - 1) - 1)) (dv_sub (a := (n : Int) - 1) (b := 1) (z := ((n : Int) - 1) - 1) (T rfl rfl) C (wr_i64 (by omega) (by omega))) ?_
       refine lw_v (.int .i64 (((n : Int) - 1) - 1)) (dv_assign (T rfl rfl)) ?_
       refine lw_nil ?_
       exact ih16 (((n - 1))) _ _ (by rw [hd29]; omega) ⟨(n - 1), (L.set ((n - 1)) qd42), rd43, rfl, f19, f20, f21, f22, f23, f24, rfl, (vi (by omega)), E54, H53, (by omega), (by simp [hl]), (okW.set hok (by omega) (by omega) _), (by omega), (one_step (by omega) (by omega) (by omega) hv rfl hd44a)⟩
     · refine rk_cf (T rfl (congrArg Value.bool (decide_eq_false hb30))) ?_
       refine rk_exit rfl ?_
       refine rk_seq ?_
       refine rk_reg ?_
       refine lw_v (.slice (some ⟨b9, 0, none⟩) la la) (dv_move (T rfl f24)) ?_
       refine lw_e (oe_callf (vs := [.slice (some ⟨b9, 0, none⟩) la la]) co139 (ar1 (T rfl rfl)) (trim_okl (Wd.ownW H28) (by first | omega | (simp; done) | (simp; omega)) (by first | omega | (simp; done) | (simp; omega)) (by first | rfl | first | (simp; done) | (simp; omega) | omega)) ?_)
       rintro _ w57 ⟨rfl, e58⟩
       have E59 := below_ext E27 E27.size e58
       refine lw_v (.int .u64 r) (dv_move (T rfl f25)) ?_
       refine lw_e (oe_buildSlice (pv := [(0, .int .u64 r)]) (init := [.int .u64 0]) (l := [.int .u64 r]) us105 sz36 rfl rfl zc36 (by kernel_rfl) ⟨rfl, (T rfl rfl), trivial⟩ rfl ?_)
       intro b60 w61 n62
       have N63 : w.heap.size ≤ b60 := n62.eq ▸ E59.size
       have H64 := (e58.blk H28)
       have : b9 < b60 := n62.eq ▸ lt_of_blk H64
       have E65 := below_ext E59 E59.size n62.ext
       refine lw_e (oe_callf (vs := [.slice (some ⟨b60, 0, none⟩) 1 1]) co139 (ar1 (T rfl rfl)) (trim_okl (Wd.ownW (xs := [r]) n62.blk) (by first | omega | (simp; done) | (simp; omega)) (by first | omega | (simp; done) | (simp; omega)) (by first | rfl | first | (simp; done) | (simp; omega) | omega)) ?_)
       rintro _ w66 ⟨rfl, e67⟩
       have E68 := below_ext E65 E65.size e67
       have := trimL_len ([r])
       simp only [List.length_cons, List.length_nil] at this
       refine lw_v (.slice (some ⟨b9, 0, none⟩) ((trimL L).length) la) (dv_assign (T rfl rfl)) ?_
       refine lw_v (.slice (some ⟨b60, 0, none⟩) ((trimL ([r])).length) 1) (dv_assign (T rfl rfl)) ?_
       refine lw_nil ?_
       refine rk_ret Try.func135 (v := .tuple #[.slice (some ⟨b9, 0, none⟩) ((trimL L).length) la, .slice (some ⟨b60, 0, none⟩) ((trimL ([r])).length) 1]) (res2 Try.results135 (rv_tmp rfl rfl) (rv_tmp rfl rfl)) ⟨_, rfl, ?_⟩
       have h69 := (((Wd.trim ((Wd.ownW H28).ext e58)).ext n62.ext).ext e67)
       have hd := div_of (x := x) (y := y) (q := valB (2 ^ 64) L) (r := r) (by have h := hv; rw [show n = 0 by omega, List.drop_zero, List.drop_zero, ← hxv, ← hy1] at h; omega) hr.1 (by omega)
       have ht1 := trimL_len L
       have ht2 := trimL_len ([r])
       simp only [List.length_cons, List.length_nil, List.length_take] at ht1 ht2
       exact ⟨_, _, _, _, _, _, rfl, E68, ⟨trimL L, rfl, (by omega), h69, trimL_ok hok, trimL_canon _, (by rw [trimL_val]; exact hd.1.symm)⟩, ⟨trimL ([r]), rfl, (by first | omega | (simp; omega)), (Wd.trim ((Wd.ownW (xs := [r]) n62.blk).ext e67)), trimL_ok (okW.cons hr.1 (by rw [p64]; omega) okW.nil), trimL_canon _, (by rw [trimL_val]; exact (by simp only [valB]; rw [← hd.2]; omega))⟩⟩
   · refine rk_cf (T rfl (congrArg Value.bool (decide_eq_false hb8))) ?_
     refine rk_skip ?_
     refine rk_seq ?_
     have hlb2 : 2 ≤ lb := by omega
     have htop := canon_top oy hyk (by omega)
     rw [hyl] at htop
     have btop := okW.getD oy (by decide) (lb - 1)
     refine rk_reg ?_
     refine lw_v (.slice Ab lb cb) (dv_move (T rfl rfl)) ?_
     refine lw_v (.int .i64 ((lb : Int))) (dv_move (T rfl rfl)) ?_
     refine lw_v (.int .i64 (((lb : Int)) - 1)) (dv_sub (a := (lb : Int)) (b := 1) (z := ((lb : Int)) - 1) (T rfl rfl) C (wr_i64 (by omega) (by omega))) ?_
     have h70 := (hyw.ext e4)
     obtain ⟨g71, o72, rfl⟩ := Wd.at h70 (by first | omega | (simp; done) | (simp; omega))
     refine lw_v (.pointer (some ⟨g71, o72 + ((lb) - 1), none⟩)) (dv_indexW (g := g71) (o := o72) (l := lb) (c := cb) (i := ((lb) - 1)) (j := ((lb : Int)) - 1) us105 sz36 (T rfl rfl) (T rfl rfl) (by omega) (by first | omega | (simp; done) | (simp; omega))) ?_
     refine lw_v (.int .u64 (ys.getD (((lb) - 1)) 0)) (dv_load agt36 (T rfl rfl) (Wd.cell h70 (by first | omega | (simp; done) | (simp; omega)))) ?_
     refine lw_e (oe_callf (vs := [.int .u64 (ys.getD (((lb) - 1)) 0)]) co134 (ar1 (T rfl rfl)) (lzS_ok (by omega) (by omega)) ?_)
     rintro _ w77 ⟨S73, rfl, e78, hs74, hs75, hs76⟩
     have E79 := below_ext E5 E5.size e78
     refine lw_v (.int .i64 ((S73 : Int))) (dv_assign (T rfl rfl)) ?_
     refine lw_nil ?_
     refine rk_seq ?_
     refine rk_any (fun _ => True) [9] mo ?_
     intro w80 d81
     have E82 := below_ext E79 E79.size d81.ext
     refine aw_pure 0 (.slice (some ⟨g71, o72, none⟩) lb cb) rfl (by kernel_rfl) .none trivial (fun _ => dv_move (T rfl rfl)) ?_
     refine aw_pure 1 (.int .i64 ((S73 : Int))) rfl (by kernel_rfl) .none trivial (fun _ => dv_move (T rfl rfl)) ?_
     refine aw_pure 3 (.int .i64 ((lb : Int))) rfl (by kernel_rfl) .none trivial (fun _ => dv_move (T rfl rfl)) ?_
     refine aw_pure 5 (.slice Aa la ca) rfl (by kernel_rfl) .none trivial (fun _ => dv_move (T rfl rfl)) ?_
     refine aw_pure 6 (.int .i64 ((S73 : Int))) rfl (by kernel_rfl) .none trivial (fun _ => dv_move (T rfl rfl)) ?_
     have h83 := ((h70.ext e78).ext d81.ext)
     have : w.heap.size ≤ w80.heap.size := E82.size
     refine aw_one 2 rfl (by kernel_rfl) .none (oe_callf (vs := [.slice (some ⟨g71, o72, none⟩) lb cb, .int .i64 ((S73 : Int))]) co148 (ar2 (T rfl rfl) (T rfl rfl)) (shifted_okl (S := S73) h83 (by omega) oy (by omega) (by omega)) ?_)
     rintro _ w91 ⟨b84, L85, rfl, e92, H86, hN87, hl88, ho89, hv90⟩
     have E93 := below_ext E82 E82.size e92
     have N94 : w.heap.size ≤ b84 := by omega
     refine ⟨.inr trivial, ?_⟩
     refine aw_pure 4 (.slice (some ⟨b84, 0, none⟩) lb ((ys.length + 1))) rfl (by kernel_rfl) .none trivial (fun _ => dv_sliceH (ad := some ⟨b84, 0, none⟩) (l := (ys.length + 1)) (c := (ys.length + 1)) (i := lb) (j := (lb : Int)) us105 sz36 (T rfl rfl) (T rfl rfl) (by omega) (by first | omega | (simp; done) | (simp; omega))) ?_
     have h95 := ((((hxw.ext e4).ext e78).ext d81.ext).ext e92)
     have : b84 < w91.heap.size := lt_of_blk H86
     have : w.heap.size ≤ w91.heap.size := E93.size
     refine aw_one 7 rfl (by kernel_rfl) .none (oe_callf (vs := [.slice Aa la ca, .int .i64 ((S73 : Int))]) co148 (ar2 (T rfl rfl) (T rfl rfl)) (shifted_okl (S := S73) h95 (by omega) ox (by omega) (by omega)) ?_)
     rintro _ w103 ⟨b96, L97, rfl, e104, H98, hN99, hl100, ho101, hv102⟩
     have E105 := below_ext E93 E93.size e104
     have : b84 < b96 := by omega
     have N106 : w.heap.size ≤ b96 := by omega
     refine ⟨.inr trivial, ?_⟩
     refine aw_pure 8 (.slice (some ⟨b84, 0, none⟩) lb ((ys.length + 1))) rfl (by kernel_rfl) .none trivial (fun _ => dv_assign (T rfl rfl)) ?_
     refine aw_last 9 (.slice (some ⟨b96, 0, none⟩) ((xs.length + 1)) ((xs.length + 1))) rfl (by kernel_rfl) .none (fun _ => dv_assign (T rfl rfl)) ?_
     refine aw_done (by kernel_rfl) ?_
     refine rk_seq ?_
     refine rk_reg ?_
     refine lw_v (.slice Aa la ca) (dv_move (T rfl rfl)) ?_
     refine lw_v (.int .i64 ((la : Int))) (dv_len (ad := Aa) (l := la) (c := ca) us105 (T rfl rfl)) ?_
     refine lw_v (.int .i64 ((lb : Int))) (dv_move (T rfl rfl)) ?_
     refine lw_v (.int .i64 (((la : Int)) - ((lb : Int)))) (dv_sub (a := (la : Int)) (b := (lb : Int)) (z := ((la : Int)) - ((lb : Int))) (T rfl rfl) (T rfl rfl) (wr_i64 (by omega) (by omega))) ?_
     refine lw_v (.int .i64 ((((la : Int)) - ((lb : Int))) + 1)) (dv_add (a := ((la : Int)) - ((lb : Int))) (b := 1) (z := (((la : Int)) - ((lb : Int))) + 1) (T rfl rfl) C (wr_i64 (by omega) (by omega))) ?_
     refine lw_e (oe_makeW (l := (((la) - (lb)) + 1)) (j := (((la : Int)) - ((lb : Int))) + 1) us105 in36 (T rfl rfl) (T rfl rfl) (by omega) (by first | omega | (simp; done) | (simp; omega)) (by first | omega | (simp; done) | (simp; omega)) ?_)
     intro b107 w108 n109
     have N110 : w.heap.size ≤ b107 := n109.eq ▸ E105.size
     have : b96 < b107 := n109.eq ▸ lt_of_blk H98
     have E111 := below_ext E105 E105.size n109.ext
     refine lw_v (.slice (some ⟨b107, 0, none⟩) ((((la) - (lb)) + 1)) ((((la) - (lb)) + 1))) (dv_assign (T rfl rfl)) ?_
     refine lw_nil ?_
     refine rk_seq ?_
     refine rk_seq ?_
     refine rk_reg ?_
     refine lw_v (.slice Aa la ca) (dv_move (T rfl rfl)) ?_
     refine lw_v (.int .i64 ((la : Int))) (dv_len (ad := Aa) (l := la) (c := ca) us105 (T rfl rfl)) ?_
     refine lw_v (.int .i64 ((lb : Int))) (dv_move (T rfl rfl)) ?_
     refine lw_v (.int .i64 (((la : Int)) - ((lb : Int)))) (dv_sub (a := (la : Int)) (b := (lb : Int)) (z := ((la : Int)) - ((lb : Int))) (T rfl rfl) (T rfl rfl) (wr_i64 (by omega) (by omega))) ?_
     refine lw_v (.int .i64 (((la : Int)) - ((lb : Int)))) (dv_assign (T rfl rfl)) ?_
     refine lw_nil ?_
     refine rk_block ?_
     have hVv : valB (2 ^ 64) L85 = 2 ^ S73 * y := by rw [hv90, hyv]
     have hUv : valB (2 ^ 64) L97 = 2 ^ S73 * x := by rw [hv102, hxv]
     have hVlt : 2 ^ S73 * y < (2 ^ 64) ^ lb := by
      have h := norm_lt (k := lb - 1) hs74 oy (by omega) rfl hs76 hyv
      rwa [show lb - 1 + 1 = lb by omega] at h
     have hVz := zero_of_lt (by decide) ho89 (m := lb) (by rw [hVv]; exact hVlt)
     have hVt : valB (2 ^ 64) (L85.take lb) = valB (2 ^ 64) L85 := val_take_zero hVz
     have hVp : 0 < valB (2 ^ 64) L85 := by rw [hVv]; exact Int.mul_pos (two_pos _) hy
     have hlt0 : valB (2 ^ 64) L97 < valB (2 ^ 64) L85 * (2 ^ 64) ^ (la - lb + 1) := by
      rw [hUv, hVv, Int.mul_assoc]
      have h1 := canon_ge (B := 2 ^ 64) (by decide) oy hyk (by omega)
      rw [hyl, ← hyv] at h1
      exact Int.mul_lt_mul_of_pos_left (start_lt h1 (by rw [hxv]; exact val_len ox hxl) (by omega) hll) (two_pos _)
     have hVl : L85.length = lb + 1 := by omega
     have hUl0 : L97.length = la + 1 := by omega
     have H112 := (n109.ext.blk (e104.blk H86))
     have H113 := (n109.ext.blk H98)
     refine rk_loop (fun dm_ fr wl => ∃ (J : Nat) (U O : List Int), dm_ = J ∧ fr 4 = .slice none 0 0 ∧ fr 5 = .slice none 0 0 ∧ fr 6 = .int .i64 ((lb : Int)) ∧ fr 10 = .int .i64 ((S73 : Int)) ∧ fr 11 = .slice (some ⟨b84, 0, none⟩) lb ((ys.length + 1)) ∧ fr 12 = .slice (some ⟨b96, 0, none⟩) ((xs.length + 1)) ((xs.length + 1)) ∧ fr 13 = .slice (some ⟨b107, 0, none⟩) ((((la) - (lb)) + 1)) ((((la) - (lb)) + 1)) ∧ fr 14 = .int .i64 ((J : Int) - 1) ∧ Below w.heap.size w wl ∧ wl.heap[b84]? = some (.cells (L85.map (Value.int .u64)).toArray 36) ∧ wl.heap[b96]? = some (.cells (U.map (Value.int .u64)).toArray 36) ∧ wl.heap[b107]? = some (.cells (O.map (Value.int .u64)).toArray 36) ∧ (J ≤ la - lb + 1) ∧ (U.length = la + 1) ∧ (O.length = la - lb + 1) ∧ (okW (2 ^ 64) U) ∧ (okW (2 ^ 64) O) ∧ (∀ k, k < J → O.getD k 0 = 0) ∧ (valB (2 ^ 64) U + valB (2 ^ 64) L85 * valB (2 ^ 64) O = 2 ^ S73 * x) ∧ (valB (2 ^ 64) U < valB (2 ^ 64) L85 * (2 ^ 64) ^ J)) (((la - lb + 1))) ⟨(la - lb + 1), L97, (List.replicate ((((la) - (lb)) + 1)) (0 : Int)), rfl, rfl, rfl, rfl, rfl, rfl, rfl, rfl, (vi (by omega)), E111, H112, H113, n109.blk, (Nat.le_refl _), hUl0, (by simp), ho101, (okW.replicate (by decide) _), (fun k _ => rep_zero _ k), (by rw [valB_zeros, Int.mul_zero, Int.add_zero]; exact hUv), hlt0⟩ ?_
     intro d118 fr117 w114 hI115 ih116
     obtain ⟨J, U, O, hd131, f119, f120, f121, f122, f123, f124, f125, f126, E127, H128, H129, H130, hJ, hUl, hOl, hUo, hOo, hO0, hV, hlt⟩ := hI115
     have hUz : 1 ≤ J → ∀ k, J - 1 + lb < k → U.getD k 0 = 0 := fun h1 k hk => zero_of_lt (by decide) hUo (m := J - 1 + lb + 1) (top_lt hlt (by rw [hVv]; exact hVlt) (by omega)) k (by omega)
     have bu132 := okW.getD hUo (by decide) (J - 1 + lb)
     have bu133 := okW.getD hUo (by decide) (J - 1 + lb - 1)
     have bu134 := okW.getD hUo (by decide) (J - 1 + lb - 2)
     have bv135 := okW.getD ho89 (by decide) (lb - 1)
     have bv136 := okW.getD ho89 (by decide) (lb - 2)
     have hUnn := valB_nonneg (B := 2 ^ 64) (by decide) hUo
     refine rk_seq ?_
     refine rk_seq ?_
     refine rk_reg ?_
     refine lw_v (.int .i64 ((J : Int) - 1)) (dv_move (T rfl f126)) ?_
     refine lw_v (.bool (decide (0 ≤ ((J : Int) - 1)))) (dv_geq (a := (J : Int) - 1) (b := 0) (T rfl rfl) C) ?_
     refine lw_nil ?_
     by_cases hb137 : 0 ≤ ((J : Int) - 1)
     · refine rk_ct (T rfl (congrArg Value.bool (decide_eq_true hb137))) ?_
       refine rk_skip ?_
       refine rk_seq ?_
       refine rk_block ?_
       refine rk_seq ?_
       refine rk_reg ?_
       refine lw_v (.int .u64 18446744073709551615) (dv_assign C) ?_
       refine lw_nil ?_
       refine rk_seq ?_
       refine rk_seq ?_
       refine rk_any (fun w => w.heap[b96]? = some (.cells (U.map (Value.int .u64)).toArray 36) ∧ w.heap[b84]? = some (.cells (L85.map (Value.int .u64)).toArray 36)) [] mo ?_
       intro w138 d139
       have E140 := below_ext E127 E127.size d139.ext
       have H141 := (d139.ext.blk H129)
       have H142 := (d139.ext.blk H128)
       refine aw_pure 0 (.slice (some ⟨b96, 0, none⟩) ((xs.length + 1)) ((xs.length + 1))) rfl (by kernel_rfl) .none ⟨H141, H142⟩ (fun _ => dv_move (T rfl f124)) ?_
       refine aw_pure 1 (.int .i64 ((J : Int) - 1)) rfl (by kernel_rfl) .none ⟨H141, H142⟩ (fun _ => dv_move (T rfl f126)) ?_
       refine aw_pure 2 (.int .i64 ((lb : Int))) rfl (by kernel_rfl) .none ⟨H141, H142⟩ (fun _ => dv_move (T rfl f121)) ?_
       refine aw_pure 3 (.int .i64 (((J : Int) - 1) + ((lb : Int)))) rfl (by kernel_rfl) .none ⟨H141, H142⟩ (fun _ => dv_add (a := (J : Int) - 1) (b := (lb : Int)) (z := ((J : Int) - 1) + ((lb : Int))) (T rfl rfl) (T rfl rfl) (wr_i64 (by omega) (by omega))) ?_
       refine aw_pure 4 (.pointer (some ⟨b96, (((J - 1) + (lb))), none⟩)) rfl (by kernel_rfl) .none ⟨H141, H142⟩ (fun _ => dv_indexO (g := b96) (l := (xs.length + 1)) (c := (xs.length + 1)) (i := ((J - 1) + (lb))) (j := ((J : Int) - 1) + ((lb : Int))) us105 sz36 (T rfl rfl) (T rfl rfl) (by omega) (by first | omega | (simp; done) | (simp; omega))) ?_
       refine aw_load 5 (.int .u64 (U.getD (((J - 1) + (lb))) 0)) rfl (by kernel_rfl) .none ⟨H141, H142⟩ (fun _ s => dv_loadW (L := U) (v := U.getD (((J - 1) + (lb))) 0) agt36 (T rfl rfl) s.1 (by first | omega | (simp; done) | (simp; omega)) rfl) ?_
       refine aw_pure 6 (.slice (some ⟨b84, 0, none⟩) lb ((ys.length + 1))) rfl (by kernel_rfl) .none ⟨H141, H142⟩ (fun _ => dv_move (T rfl f123)) ?_
       refine aw_pure 7 (.int .i64 ((lb : Int))) rfl (by kernel_rfl) .none ⟨H141, H142⟩ (fun _ => dv_move (T rfl f121)) ?_
       refine aw_pure 8 (.int .i64 (((lb : Int)) - 1)) rfl (by kernel_rfl) .none ⟨H141, H142⟩ (fun _ => dv_sub (a := (lb : Int)) (b := 1) (z := ((lb : Int)) - 1) (T rfl rfl) C (wr_i64 (by omega) (by omega))) ?_
       refine aw_pure 9 (.pointer (some ⟨b84, (((lb) - 1)), none⟩)) rfl (by kernel_rfl) .none ⟨H141, H142⟩ (fun _ => dv_indexO (g := b84) (l := lb) (c := (ys.length + 1)) (i := ((lb) - 1)) (j := ((lb : Int)) - 1) us105 sz36 (T rfl rfl) (T rfl rfl) (by omega) (by first | omega | (simp; done) | (simp; omega))) ?_
       refine aw_load 10 (.int .u64 (L85.getD (((lb) - 1)) 0)) rfl (by kernel_rfl) .none ⟨H141, H142⟩ (fun _ s => dv_loadW (L := L85) (v := L85.getD (((lb) - 1)) 0) agt36 (T rfl rfl) s.2 (by first | omega | (simp; done) | (simp; omega)) rfl) ?_
       refine aw_pure 11 (.bool (decide ((U.getD (((J - 1) + (lb))) 0) < (L85.getD (((lb) - 1)) 0)))) rfl (by kernel_rfl) .none ⟨H141, H142⟩ (fun _ => dv_lss (a := U.getD (((J - 1) + (lb))) 0) (b := L85.getD (((lb) - 1)) 0) (T rfl rfl) (T rfl rfl)) ?_
       refine aw_done (by kernel_rfl) ?_
       refine rk_join (fun fr wl => ∃ (q : Int), fr 4 = .slice none 0 0 ∧ fr 5 = .slice none 0 0 ∧ fr 6 = .int .i64 ((lb : Int)) ∧ fr 10 = .int .i64 ((S73 : Int)) ∧ fr 11 = .slice (some ⟨b84, 0, none⟩) lb ((ys.length + 1)) ∧ fr 12 = .slice (some ⟨b96, 0, none⟩) ((xs.length + 1)) ((xs.length + 1)) ∧ fr 13 = .slice (some ⟨b107, 0, none⟩) ((((la) - (lb)) + 1)) ((((la) - (lb)) + 1)) ∧ fr 14 = .int .i64 ((J : Int) - 1) ∧ fr 15 = .int .u64 q ∧ fr 94 = .int .i64 ((J : Int) - 1) ∧ fr 95 = .bool (decide (0 ≤ ((J : Int) - 1))) ∧ fr 98 = .slice (some ⟨b96, 0, none⟩) ((xs.length + 1)) ((xs.length + 1)) ∧ fr 99 = .int .i64 ((J : Int) - 1) ∧ fr 100 = .int .i64 ((lb : Int)) ∧ fr 101 = .int .i64 (((J : Int) - 1) + ((lb : Int))) ∧ fr 102 = .pointer (some ⟨b96, (((J - 1) + (lb))), none⟩) ∧ fr 103 = .int .u64 (U.getD (((J - 1) + (lb))) 0) ∧ fr 104 = .slice (some ⟨b84, 0, none⟩) lb ((ys.length + 1)) ∧ fr 105 = .int .i64 ((lb : Int)) ∧ fr 106 = .int .i64 (((lb : Int)) - 1) ∧ fr 107 = .pointer (some ⟨b84, (((lb) - 1)), none⟩) ∧ fr 108 = .int .u64 (L85.getD (((lb) - 1)) 0) ∧ fr 109 = .bool (decide ((U.getD (((J - 1) + (lb))) 0) < (L85.getD (((lb) - 1)) 0))) ∧ Below w.heap.size w wl ∧ wl.heap[b84]? = some (.cells (L85.map (Value.int .u64)).toArray 36) ∧ wl.heap[b96]? = some (.cells (U.map (Value.int .u64)).toArray 36) ∧ wl.heap[b107]? = some (.cells (O.map (Value.int .u64)).toArray 36) ∧ (0 ≤ q ∧ q < 18446744073709551616) ∧ (valB (2 ^ 64) U < (q + 1) * valB (2 ^ 64) L85 * (2 ^ 64) ^ (J - 1))) ?_ (fun hj145 => ?_)
       · intro fr146 w143 hI144
         obtain ⟨q, f147, f148, f149, f150, f151, f152, f153, f154, f155, f156, f157, f158, f159, f160, f161, f162, f163, f164, f165, f166, f167, f168, f169, E170, H171, H172, H173, hq, hg⟩ := hI144
         refine rk_seq ?_
         refine rk_reg ?_
         refine lw_v (.int .u64 0) (dv_assign C) ?_
         refine lw_v (.int .u64 0) (dv_assign C) ?_
         refine lw_nil ?_
         refine rk_seq ?_
         refine rk_seq ?_
         refine rk_reg ?_
         refine lw_v (.int .i64 ((lb : Int))) (dv_move (T rfl f149)) ?_
         refine lw_v (.int .i64 0) (dv_move C) ?_
         refine lw_nil ?_
         refine rk_block ?_
         refine rk_loop (fun dm_ fr wl => ∃ (i : Nat) (M : List Int) (cy bw : Int), dm_ = lb - i ∧ fr 4 = .slice none 0 0 ∧ fr 5 = .slice none 0 0 ∧ fr 6 = .int .i64 ((lb : Int)) ∧ fr 10 = .int .i64 ((S73 : Int)) ∧ fr 11 = .slice (some ⟨b84, 0, none⟩) lb ((ys.length + 1)) ∧ fr 12 = .slice (some ⟨b96, 0, none⟩) ((xs.length + 1)) ((xs.length + 1)) ∧ fr 13 = .slice (some ⟨b107, 0, none⟩) ((((la) - (lb)) + 1)) ((((la) - (lb)) + 1)) ∧ fr 14 = .int .i64 ((J : Int) - 1) ∧ fr 15 = .int .u64 q ∧ fr 20 = .int .u64 bw ∧ fr 21 = .int .u64 cy ∧ fr 94 = .int .i64 ((J : Int) - 1) ∧ fr 95 = .bool (decide (0 ≤ ((J : Int) - 1))) ∧ fr 98 = .slice (some ⟨b96, 0, none⟩) ((xs.length + 1)) ((xs.length + 1)) ∧ fr 99 = .int .i64 ((J : Int) - 1) ∧ fr 100 = .int .i64 ((lb : Int)) ∧ fr 101 = .int .i64 (((J : Int) - 1) + ((lb : Int))) ∧ fr 102 = .pointer (some ⟨b96, (((J - 1) + (lb))), none⟩) ∧ fr 103 = .int .u64 (U.getD (((J - 1) + (lb))) 0) ∧ fr 104 = .slice (some ⟨b84, 0, none⟩) lb ((ys.length + 1)) ∧ fr 105 = .int .i64 ((lb : Int)) ∧ fr 106 = .int .i64 (((lb : Int)) - 1) ∧ fr 107 = .pointer (some ⟨b84, (((lb) - 1)), none⟩) ∧ fr 108 = .int .u64 (L85.getD (((lb) - 1)) 0) ∧ fr 109 = .bool (decide ((U.getD (((J - 1) + (lb))) 0) < (L85.getD (((lb) - 1)) 0))) ∧ fr 175 = .int .i64 ((lb : Int)) ∧ fr 176 = .int .i64 ((i : Int)) ∧ Below w.heap.size w wl ∧ wl.heap[b84]? = some (.cells (L85.map (Value.int .u64)).toArray 36) ∧ wl.heap[b96]? = some (.cells (M.map (Value.int .u64)).toArray 36) ∧ wl.heap[b107]? = some (.cells (O.map (Value.int .u64)).toArray 36) ∧ (i ≤ lb) ∧ (M.length = la + 1) ∧ (okW (2 ^ 64) M) ∧ (0 ≤ cy ∧ cy < 18446744073709551616) ∧ (0 ≤ bw ∧ bw ≤ 1) ∧ (valB (2 ^ 64) M = valB (2 ^ 64) U - q * valB (2 ^ 64) (L85.take i) * (2 ^ 64) ^ (J - 1) + (cy + bw) * (2 ^ 64) ^ (J - 1 + i)) ∧ (∀ k, J - 1 + lb < k → M.getD k 0 = 0)) (lb - 0) ⟨0, U, 0, 0, rfl, f147, f148, f149, f150, f151, f152, f153, f154, f155, rfl, rfl, f156, f157, f158, f159, f160, f161, f162, f163, f164, f165, f166, f167, f168, f169, rfl, (vi (by omega)), E170, H171, H172, H173, (Nat.zero_le _), hUl, hUo, (by decide), (by decide), (by simp [valB]), (hUz (by omega))⟩ ?_
         intro d178 fr177 w174 hI175 ih176
         obtain ⟨i, M, cy, bw, hd210, f179, f180, f181, f182, f183, f184, f185, f186, f187, f188, f189, f190, f191, f192, f193, f194, f195, f196, f197, f198, f199, f200, f201, f202, f203, f204, f205, E206, H207, H208, H209, hi, hMl, hMo, hcy, hbw, hM, hMz⟩ := hI175
         have bM := okW.getD hMo (by decide) (J - 1 + i)
         have bV := okW.getD ho89 (by decide) i
         have bMt := okW.getD hMo (by decide) (J - 1 + lb)
         refine rk_seq ?_
         refine rk_reg ?_
         refine lw_v (.bool (decide (((i : Int)) < ((lb : Int))))) (dv_lss (a := (i : Int)) (b := (lb : Int)) (T rfl f205) (T rfl f204)) ?_
         refine lw_nil ?_
         refine rk_seq ?_
         by_cases hb211 : ((i : Int)) < ((lb : Int))
         · refine rk_ct (T rfl (congrArg Value.bool (decide_eq_true hb211))) ?_
           refine rk_skip ?_
           refine rk_seq ?_
           refine rk_block ?_
           refine rk_seq ?_
           refine rk_reg ?_
           refine lw_v (.int .i64 ((i : Int))) (dv_move (T rfl f205)) ?_
           refine lw_v (.int .i64 ((i : Int))) (dv_assign (T rfl rfl)) ?_
           refine lw_nil ?_
           refine rk_seq ?_
           refine rk_reg ?_
           refine lw_v (.int .u64 q) (dv_move (T rfl f187)) ?_
           refine lw_v (.slice (some ⟨b84, 0, none⟩) lb ((ys.length + 1))) (dv_move (T rfl f183)) ?_
           refine lw_v (.int .i64 ((i : Int))) (dv_move (T rfl rfl)) ?_
           refine lw_v (.pointer (some ⟨b84, i, none⟩)) (dv_indexO (g := b84) (l := lb) (c := (ys.length + 1)) (i := i) (j := (i : Int)) us105 sz36 (T rfl rfl) (T rfl rfl) (by omega) (by first | omega | (simp; done) | (simp; omega))) ?_
           refine lw_v (.int .u64 (L85.getD i 0)) (dv_loadW (L := L85) (v := L85.getD i 0) agt36 (T rfl rfl) H207 (by first | omega | (simp; done) | (simp; omega)) rfl) ?_
           have hm212 := mul_pos_bd (A := 18446744073709551615) (show 0 ≤ q by omega) (by omega) (show 0 ≤ L85.getD i 0 by omega) (by omega)
           refine lw_e (oe_callf (vs := [.int .u64 q, .int .u64 (L85.getD i 0)]) co115 (ar2 (T rfl rfl) (T rfl rfl)) (mul64_ok (by omega) (by omega)) ?_)
           rintro _ w213 ⟨rfl, e214⟩
           have E215 := below_ext E206 E206.size e214
           refine lw_v (.tuple #[.int .u64 (q * (L85.getD i 0) / 18446744073709551616), .int .u64 (q * (L85.getD i 0) % 18446744073709551616)]) (dv_move (T rfl rfl)) ?_
           refine lw_v (.int .u64 (q * (L85.getD i 0) / 18446744073709551616)) (dv_extract (vs := #[.int .u64 (q * (L85.getD i 0) / 18446744073709551616), .int .u64 (q * (L85.getD i 0) % 18446744073709551616)]) (T rfl rfl) rfl) ?_
           refine lw_v (.int .u64 (q * (L85.getD i 0) % 18446744073709551616)) (dv_extract (vs := #[.int .u64 (q * (L85.getD i 0) / 18446744073709551616), .int .u64 (q * (L85.getD i 0) % 18446744073709551616)]) (T rfl rfl) rfl) ?_
           refine lw_v (.int .u64 (q * (L85.getD i 0) / 18446744073709551616)) (dv_assign (T rfl rfl)) ?_
           refine lw_v (.int .u64 (q * (L85.getD i 0) % 18446744073709551616)) (dv_assign (T rfl rfl)) ?_
           refine lw_nil ?_
           refine rk_seq ?_
           refine rk_reg ?_
           refine lw_v (.int .u64 0) (dv_assign C) ?_
           refine lw_nil ?_
           refine rk_seq ?_
           refine rk_reg ?_
           refine lw_v (.int .u64 (q * (L85.getD i 0) % 18446744073709551616)) (dv_move (T rfl rfl)) ?_
           refine lw_v (.int .u64 cy) (dv_move (T rfl f189)) ?_
           refine lw_v (.tuple #[.int .u64 (((q * (L85.getD i 0) % 18446744073709551616) + cy + 0) % 18446744073709551616), .int .u64 (((q * (L85.getD i 0) % 18446744073709551616) + cy + 0) / 18446744073709551616)]) (dv_ext (e := add64Entry) (vs := [.int .u64 (q * (L85.getD i 0) % 18446744073709551616), .int .u64 cy, .int .u64 0]) Try.func116 rfl rfl (by kernel_rfl) (by kernel_rfl) (ar3 (T rfl rfl) (T rfl rfl) C) (run_addE (q * (L85.getD i 0) % 18446744073709551616) cy 0 (by omega) (by omega) (by omega))) ?_
           refine lw_v (.tuple #[.int .u64 (((q * (L85.getD i 0) % 18446744073709551616) + cy + 0) % 18446744073709551616), .int .u64 (((q * (L85.getD i 0) % 18446744073709551616) + cy + 0) / 18446744073709551616)]) (dv_move (T rfl rfl)) ?_
           refine lw_v (.int .u64 (((q * (L85.getD i 0) % 18446744073709551616) + cy + 0) % 18446744073709551616)) (dv_extract (vs := #[.int .u64 (((q * (L85.getD i 0) % 18446744073709551616) + cy + 0) % 18446744073709551616), .int .u64 (((q * (L85.getD i 0) % 18446744073709551616) + cy + 0) / 18446744073709551616)]) (T rfl rfl) rfl) ?_
           refine lw_v (.int .u64 (((q * (L85.getD i 0) % 18446744073709551616) + cy + 0) / 18446744073709551616)) (dv_extract (vs := #[.int .u64 (((q * (L85.getD i 0) % 18446744073709551616) + cy + 0) % 18446744073709551616), .int .u64 (((q * (L85.getD i 0) % 18446744073709551616) + cy + 0) / 18446744073709551616)]) (T rfl rfl) rfl) ?_
           refine lw_v (.int .u64 (((q * (L85.getD i 0) % 18446744073709551616) + cy + 0) % 18446744073709551616)) (dv_assign (T rfl rfl)) ?_
           refine lw_v (.int .u64 (((q * (L85.getD i 0) % 18446744073709551616) + cy + 0) / 18446744073709551616)) (dv_assign (T rfl rfl)) ?_
           refine lw_nil ?_
           refine rk_seq ?_
           refine rk_reg ?_
           refine lw_v (.int .u64 (q * (L85.getD i 0) / 18446744073709551616)) (dv_move (T rfl rfl)) ?_
           refine lw_v (.int .u64 (((q * (L85.getD i 0) % 18446744073709551616) + cy + 0) / 18446744073709551616)) (dv_move (T rfl rfl)) ?_
           refine lw_v (.int .u64 ((q * (L85.getD i 0) / 18446744073709551616) + (((q * (L85.getD i 0) % 18446744073709551616) + cy + 0) / 18446744073709551616))) (dv_add (a := q * (L85.getD i 0) / 18446744073709551616) (b := ((q * (L85.getD i 0) % 18446744073709551616) + cy + 0) / 18446744073709551616) (z := (q * (L85.getD i 0) / 18446744073709551616) + (((q * (L85.getD i 0) % 18446744073709551616) + cy + 0) / 18446744073709551616)) (T rfl rfl) (T rfl rfl) (wn_u64 (by omega) (by omega))) ?_
           refine lw_v (.int .u64 ((q * (L85.getD i 0) / 18446744073709551616) + (((q * (L85.getD i 0) % 18446744073709551616) + cy + 0) / 18446744073709551616))) (dv_assign (T rfl rfl)) ?_
           refine lw_nil ?_
           refine rk_reg ?_
           refine lw_v (.slice (some ⟨b96, 0, none⟩) ((xs.length + 1)) ((xs.length + 1))) (dv_move (T rfl f184)) ?_
           refine lw_v (.int .i64 ((J : Int) - 1)) (dv_move (T rfl f186)) ?_
           refine lw_v (.int .i64 ((i : Int))) (dv_move (T rfl rfl)) ?_
           refine lw_v (.int .i64 (((J : Int) - 1) + ((i : Int)))) (dv_add (a := (J : Int) - 1) (b := (i : Int)) (z := ((J : Int) - 1) + ((i : Int))) (T rfl rfl) (T rfl rfl) (wr_i64 (by omega) (by omega))) ?_
           refine lw_v (.slice (some ⟨b96, 0, none⟩) ((xs.length + 1)) ((xs.length + 1))) (dv_move (T rfl f184)) ?_
           refine lw_v (.int .i64 ((J : Int) - 1)) (dv_move (T rfl f186)) ?_
           refine lw_v (.int .i64 ((i : Int))) (dv_move (T rfl rfl)) ?_
           refine lw_v (.int .i64 (((J : Int) - 1) + ((i : Int)))) (dv_add (a := (J : Int) - 1) (b := (i : Int)) (z := ((J : Int) - 1) + ((i : Int))) (T rfl rfl) (T rfl rfl) (wr_i64 (by omega) (by omega))) ?_
           refine lw_v (.pointer (some ⟨b96, (((J - 1) + (i))), none⟩)) (dv_indexO (g := b96) (l := (xs.length + 1)) (c := (xs.length + 1)) (i := ((J - 1) + (i))) (j := ((J : Int) - 1) + ((i : Int))) us105 sz36 (T rfl rfl) (T rfl rfl) (by omega) (by first | omega | (simp; done) | (simp; omega))) ?_
           have H216 := (e214.blk H208)
           refine lw_v (.int .u64 (M.getD (((J - 1) + (i))) 0)) (dv_loadW (L := M) (v := M.getD (((J - 1) + (i))) 0) agt36 (T rfl rfl) H216 (by first | omega | (simp; done) | (simp; omega)) rfl) ?_
           refine lw_v (.int .u64 (((q * (L85.getD i 0) % 18446744073709551616) + cy + 0) % 18446744073709551616)) (dv_move (T rfl rfl)) ?_
           refine lw_v (.int .u64 bw) (dv_move (T rfl f188)) ?_
           refine lw_v (.tuple #[.int .u64 (((M.getD (((J - 1) + (i))) 0) - (((q * (L85.getD i 0) % 18446744073709551616) + cy + 0) % 18446744073709551616) - bw) % 18446744073709551616), .int .u64 (if (M.getD (((J - 1) + (i))) 0) < (((q * (L85.getD i 0) % 18446744073709551616) + cy + 0) % 18446744073709551616) + bw then 1 else 0)]) (dv_ext (e := subEntry) (vs := [.int .u64 (M.getD (((J - 1) + (i))) 0), .int .u64 (((q * (L85.getD i 0) % 18446744073709551616) + cy + 0) % 18446744073709551616), .int .u64 bw]) Try.func140 rfl rfl (by kernel_rfl) (by kernel_rfl) (ar3 (T rfl rfl) (T rfl rfl) (T rfl rfl)) (run_subE (M.getD (((J - 1) + (i))) 0) (((q * (L85.getD i 0) % 18446744073709551616) + cy + 0) % 18446744073709551616) bw (by omega) (by omega) (by omega) (by omega))) ?_
           refine lw_v (.tuple #[.int .u64 (((M.getD (((J - 1) + (i))) 0) - (((q * (L85.getD i 0) % 18446744073709551616) + cy + 0) % 18446744073709551616) - bw) % 18446744073709551616), .int .u64 (if (M.getD (((J - 1) + (i))) 0) < (((q * (L85.getD i 0) % 18446744073709551616) + cy + 0) % 18446744073709551616) + bw then 1 else 0)]) (dv_move (T rfl rfl)) ?_
           refine lw_v (.int .u64 (((M.getD (((J - 1) + (i))) 0) - (((q * (L85.getD i 0) % 18446744073709551616) + cy + 0) % 18446744073709551616) - bw) % 18446744073709551616)) (dv_extract (vs := #[.int .u64 (((M.getD (((J - 1) + (i))) 0) - (((q * (L85.getD i 0) % 18446744073709551616) + cy + 0) % 18446744073709551616) - bw) % 18446744073709551616), .int .u64 (if (M.getD (((J - 1) + (i))) 0) < (((q * (L85.getD i 0) % 18446744073709551616) + cy + 0) % 18446744073709551616) + bw then 1 else 0)]) (T rfl rfl) rfl) ?_
           refine lw_v (.int .u64 (if (M.getD (((J - 1) + (i))) 0) < (((q * (L85.getD i 0) % 18446744073709551616) + cy + 0) % 18446744073709551616) + bw then 1 else 0)) (dv_extract (vs := #[.int .u64 (((M.getD (((J - 1) + (i))) 0) - (((q * (L85.getD i 0) % 18446744073709551616) + cy + 0) % 18446744073709551616) - bw) % 18446744073709551616), .int .u64 (if (M.getD (((J - 1) + (i))) 0) < (((q * (L85.getD i 0) % 18446744073709551616) + cy + 0) % 18446744073709551616) + bw then 1 else 0)]) (T rfl rfl) rfl) ?_
           refine lw_v (.pointer (some ⟨b96, (((J - 1) + (i))), none⟩)) (dv_indexO (g := b96) (l := (xs.length + 1)) (c := (xs.length + 1)) (i := ((J - 1) + (i))) (j := ((J : Int) - 1) + ((i : Int))) us105 sz36 (T rfl rfl) (T rfl rfl) (by omega) (by first | omega | (simp; done) | (simp; omega))) ?_
           refine lw_e (oe_storeW (L := M) (i := ((J - 1) + (i))) (z := ((M.getD (((J - 1) + (i))) 0) - (((q * (L85.getD i 0) % 18446744073709551616) + cy + 0) % 18446744073709551616) - bw) % 18446744073709551616) sz36 (T rfl rfl) (T rfl rfl) H216 (by first | omega | (simp; done) | (simp; omega)) ?_)
           intro w217 s218 H219
           have E220 := below_st E215 N106 s218
           refine lw_v (.int .u64 (if (M.getD (((J - 1) + (i))) 0) < (((q * (L85.getD i 0) % 18446744073709551616) + cy + 0) % 18446744073709551616) + bw then 1 else 0)) (dv_assign (T rfl rfl)) ?_
           refine lw_nil ?_
           refine rk_inBlock ?_
           refine rk_reg ?_
           refine lw_v (.int .i64 (((i : Int)) + 1)) (dv_add (a := (i : Int)) (b := 1) (z := ((i : Int)) + 1) (T rfl f205) C (wr_i64 (by omega) (by omega))) ?_
           refine lw_v (.int .i64 (((i : Int)) + 1)) (dv_move (T rfl rfl)) ?_
           refine lw_nil ?_
           have H221 := (s218.blk (e214.blk H207) (by omega))
           have H222 := (s218.blk (e214.blk H209) (by omega))
           exact ih176 (lb - ((i + 1))) _ _ (by rw [hd210]; omega) ⟨(i + 1), (M.set (((J - 1) + (i))) (((M.getD (((J - 1) + (i))) 0) - (((q * (L85.getD i 0) % 18446744073709551616) + cy + 0) % 18446744073709551616) - bw) % 18446744073709551616)), ((q * (L85.getD i 0) / 18446744073709551616) + (((q * (L85.getD i 0) % 18446744073709551616) + cy + 0) / 18446744073709551616)), (if (M.getD (((J - 1) + (i))) 0) < (((q * (L85.getD i 0) % 18446744073709551616) + cy + 0) % 18446744073709551616) + bw then 1 else 0), rfl, f179, f180, f181, f182, f183, f184, f185, f186, f187, rfl, rfl, f190, f191, f192, f193, f194, f195, f196, f197, f198, f199, f200, f201, f202, f203, f204, (vi (by omega)), E220, H221, H219, H222, (by omega), (by simp [hMl]), (okW.set hMo (by omega) (by omega) _), (by omega), (by split <;> omega), (msub_step (lo := ((q * (L85.getD i 0) % 18446744073709551616) + cy + 0) % 18446744073709551616) (by omega) hM (by rw [p64]; omega) (by rw [p64]; split <;> omega)), (fun k hk => by rw [Fw.getD_set_neQ _ _ _ _ (by omega)]; exact hMz k hk)⟩
         · refine rk_cf (T rfl (congrArg Value.bool (decide_eq_false hb211))) ?_
           refine rk_exit rfl ?_
           refine rk_seq ?_
           refine rk_reg ?_
           refine lw_v (.slice (some ⟨b96, 0, none⟩) ((xs.length + 1)) ((xs.length + 1))) (dv_move (T rfl f184)) ?_
           refine lw_v (.int .i64 ((J : Int) - 1)) (dv_move (T rfl f186)) ?_
           refine lw_v (.int .i64 ((lb : Int))) (dv_move (T rfl f181)) ?_
           refine lw_v (.int .i64 (((J : Int) - 1) + ((lb : Int)))) (dv_add (a := (J : Int) - 1) (b := (lb : Int)) (z := ((J : Int) - 1) + ((lb : Int))) (T rfl rfl) (T rfl rfl) (wr_i64 (by omega) (by omega))) ?_
           refine lw_v (.slice (some ⟨b96, 0, none⟩) ((xs.length + 1)) ((xs.length + 1))) (dv_move (T rfl f184)) ?_
           refine lw_v (.int .i64 ((J : Int) - 1)) (dv_move (T rfl f186)) ?_
           refine lw_v (.int .i64 ((lb : Int))) (dv_move (T rfl f181)) ?_
           refine lw_v (.int .i64 (((J : Int) - 1) + ((lb : Int)))) (dv_add (a := (J : Int) - 1) (b := (lb : Int)) (z := ((J : Int) - 1) + ((lb : Int))) (T rfl rfl) (T rfl rfl) (wr_i64 (by omega) (by omega))) ?_
           refine lw_v (.pointer (some ⟨b96, (((J - 1) + (lb))), none⟩)) (dv_indexO (g := b96) (l := (xs.length + 1)) (c := (xs.length + 1)) (i := ((J - 1) + (lb))) (j := ((J : Int) - 1) + ((lb : Int))) us105 sz36 (T rfl rfl) (T rfl rfl) (by omega) (by first | omega | (simp; done) | (simp; omega))) ?_
           refine lw_v (.int .u64 (M.getD (((J - 1) + (lb))) 0)) (dv_loadW (L := M) (v := M.getD (((J - 1) + (lb))) 0) agt36 (T rfl rfl) H208 (by first | omega | (simp; done) | (simp; omega)) rfl) ?_
           refine lw_v (.int .u64 cy) (dv_move (T rfl f189)) ?_
           refine lw_v (.int .u64 bw) (dv_move (T rfl f188)) ?_
           refine lw_v (.tuple #[.int .u64 (((M.getD (((J - 1) + (lb))) 0) - cy - bw) % 18446744073709551616), .int .u64 (if (M.getD (((J - 1) + (lb))) 0) < cy + bw then 1 else 0)]) (dv_ext (e := subEntry) (vs := [.int .u64 (M.getD (((J - 1) + (lb))) 0), .int .u64 cy, .int .u64 bw]) Try.func140 rfl rfl (by kernel_rfl) (by kernel_rfl) (ar3 (T rfl rfl) (T rfl rfl) (T rfl rfl)) (run_subE (M.getD (((J - 1) + (lb))) 0) cy bw (by omega) (by omega) (by omega) (by omega))) ?_
           refine lw_v (.tuple #[.int .u64 (((M.getD (((J - 1) + (lb))) 0) - cy - bw) % 18446744073709551616), .int .u64 (if (M.getD (((J - 1) + (lb))) 0) < cy + bw then 1 else 0)]) (dv_move (T rfl rfl)) ?_
           refine lw_v (.int .u64 (((M.getD (((J - 1) + (lb))) 0) - cy - bw) % 18446744073709551616)) (dv_extract (vs := #[.int .u64 (((M.getD (((J - 1) + (lb))) 0) - cy - bw) % 18446744073709551616), .int .u64 (if (M.getD (((J - 1) + (lb))) 0) < cy + bw then 1 else 0)]) (T rfl rfl) rfl) ?_
           refine lw_v (.int .u64 (if (M.getD (((J - 1) + (lb))) 0) < cy + bw then 1 else 0)) (dv_extract (vs := #[.int .u64 (((M.getD (((J - 1) + (lb))) 0) - cy - bw) % 18446744073709551616), .int .u64 (if (M.getD (((J - 1) + (lb))) 0) < cy + bw then 1 else 0)]) (T rfl rfl) rfl) ?_
           refine lw_v (.pointer (some ⟨b96, (((J - 1) + (lb))), none⟩)) (dv_indexO (g := b96) (l := (xs.length + 1)) (c := (xs.length + 1)) (i := ((J - 1) + (lb))) (j := ((J : Int) - 1) + ((lb : Int))) us105 sz36 (T rfl rfl) (T rfl rfl) (by omega) (by first | omega | (simp; done) | (simp; omega))) ?_
           refine lw_e (oe_storeW (L := M) (i := ((J - 1) + (lb))) (z := ((M.getD (((J - 1) + (lb))) 0) - cy - bw) % 18446744073709551616) sz36 (T rfl rfl) (T rfl rfl) H208 (by first | omega | (simp; done) | (simp; omega)) ?_)
           intro w223 s224 H225
           have E226 := below_st E206 N106 s224
           refine lw_v (.int .u64 (if (M.getD (((J - 1) + (lb))) 0) < cy + bw then 1 else 0)) (dv_assign (T rfl rfl)) ?_
           refine lw_nil ?_
           refine rk_seq ?_
           refine rk_block ?_
           have H227 := (s224.blk H207 (by omega))
           have H228 := (s224.blk H209 (by omega))
           refine rk_loop (fun dm_ fr wl => ∃ (qq : Int) (P : List Int) (bb : Int), dm_ = qq.toNat ∧ fr 4 = .slice none 0 0 ∧ fr 5 = .slice none 0 0 ∧ fr 6 = .int .i64 ((lb : Int)) ∧ fr 10 = .int .i64 ((S73 : Int)) ∧ fr 11 = .slice (some ⟨b84, 0, none⟩) lb ((ys.length + 1)) ∧ fr 12 = .slice (some ⟨b96, 0, none⟩) ((xs.length + 1)) ((xs.length + 1)) ∧ fr 13 = .slice (some ⟨b107, 0, none⟩) ((((la) - (lb)) + 1)) ((((la) - (lb)) + 1)) ∧ fr 14 = .int .i64 ((J : Int) - 1) ∧ fr 15 = .int .u64 qq ∧ fr 20 = .int .u64 bb ∧ fr 21 = .int .u64 cy ∧ fr 94 = .int .i64 ((J : Int) - 1) ∧ fr 95 = .bool (decide (0 ≤ ((J : Int) - 1))) ∧ fr 98 = .slice (some ⟨b96, 0, none⟩) ((xs.length + 1)) ((xs.length + 1)) ∧ fr 99 = .int .i64 ((J : Int) - 1) ∧ fr 100 = .int .i64 ((lb : Int)) ∧ fr 101 = .int .i64 (((J : Int) - 1) + ((lb : Int))) ∧ fr 102 = .pointer (some ⟨b96, (((J - 1) + (lb))), none⟩) ∧ fr 103 = .int .u64 (U.getD (((J - 1) + (lb))) 0) ∧ fr 104 = .slice (some ⟨b84, 0, none⟩) lb ((ys.length + 1)) ∧ fr 105 = .int .i64 ((lb : Int)) ∧ fr 106 = .int .i64 (((lb : Int)) - 1) ∧ fr 107 = .pointer (some ⟨b84, (((lb) - 1)), none⟩) ∧ fr 108 = .int .u64 (L85.getD (((lb) - 1)) 0) ∧ fr 109 = .bool (decide ((U.getD (((J - 1) + (lb))) 0) < (L85.getD (((lb) - 1)) 0))) ∧ fr 175 = .int .i64 ((lb : Int)) ∧ fr 176 = .int .i64 ((i : Int)) ∧ fr 177 = .bool (decide (((i : Int)) < ((lb : Int)))) ∧ fr 215 = .tuple #[.int .u64 (((M.getD (((J - 1) + (lb))) 0) - cy - bw) % 18446744073709551616), .int .u64 (if (M.getD (((J - 1) + (lb))) 0) < cy + bw then 1 else 0)] ∧ fr 216 = .slice (some ⟨b96, 0, none⟩) ((xs.length + 1)) ((xs.length + 1)) ∧ fr 217 = .int .i64 ((J : Int) - 1) ∧ fr 218 = .int .i64 ((lb : Int)) ∧ fr 219 = .int .i64 (((J : Int) - 1) + ((lb : Int))) ∧ fr 220 = .slice (some ⟨b96, 0, none⟩) ((xs.length + 1)) ((xs.length + 1)) ∧ fr 221 = .int .i64 ((J : Int) - 1) ∧ fr 222 = .int .i64 ((lb : Int)) ∧ fr 223 = .int .i64 (((J : Int) - 1) + ((lb : Int))) ∧ fr 224 = .pointer (some ⟨b96, (((J - 1) + (lb))), none⟩) ∧ fr 225 = .int .u64 (M.getD (((J - 1) + (lb))) 0) ∧ fr 226 = .int .u64 cy ∧ fr 227 = .int .u64 bw ∧ fr 228 = .tuple #[.int .u64 (((M.getD (((J - 1) + (lb))) 0) - cy - bw) % 18446744073709551616), .int .u64 (if (M.getD (((J - 1) + (lb))) 0) < cy + bw then 1 else 0)] ∧ fr 229 = .int .u64 (((M.getD (((J - 1) + (lb))) 0) - cy - bw) % 18446744073709551616) ∧ fr 230 = .int .u64 (if (M.getD (((J - 1) + (lb))) 0) < cy + bw then 1 else 0) ∧ fr 231 = .pointer (some ⟨b96, (((J - 1) + (lb))), none⟩) ∧ Below w.heap.size w wl ∧ wl.heap[b84]? = some (.cells (L85.map (Value.int .u64)).toArray 36) ∧ wl.heap[b96]? = some (.cells (P.map (Value.int .u64)).toArray 36) ∧ wl.heap[b107]? = some (.cells (O.map (Value.int .u64)).toArray 36) ∧ (0 ≤ qq ∧ qq < 18446744073709551616) ∧ (P.length = la + 1) ∧ (okW (2 ^ 64) P) ∧ (0 ≤ bb ∧ bb ≤ 1) ∧ (valB (2 ^ 64) P = valB (2 ^ 64) U - qq * valB (2 ^ 64) L85 * (2 ^ 64) ^ (J - 1) + bb * (2 ^ 64) ^ (J - 1 + lb + 1)) ∧ (∀ k, J - 1 + lb < k → P.getD k 0 = 0) ∧ (valB (2 ^ 64) U < (qq + 1) * valB (2 ^ 64) L85 * (2 ^ 64) ^ (J - 1))) (q.toNat) ⟨q, (M.set (((J - 1) + (lb))) (((M.getD (((J - 1) + (lb))) 0) - cy - bw) % 18446744073709551616)), (if (M.getD (((J - 1) + (lb))) 0) < cy + bw then 1 else 0), rfl, f179, f180, f181, f182, f183, f184, f185, f186, f187, rfl, f189, f190, f191, f192, f193, f194, f195, f196, f197, f198, f199, f200, f201, f202, f203, f204, f205, rfl, rfl, rfl, rfl, rfl, rfl, rfl, rfl, rfl, rfl, rfl, rfl, rfl, rfl, rfl, rfl, rfl, rfl, E226, H227, H225, H228, hq, (by simp [hMl]), (okW.set hMo (by omega) (by omega) _), (by split <;> omega), (by have h := hM; rw [show i = lb by omega, hVt] at h; exact msub_top (by omega) h (by rw [p64]; split <;> omega)), (fun k hk => by rw [Fw.getD_set_neQ _ _ _ _ (by omega)]; exact hMz k hk), hg⟩ ?_
           intro d233 fr232 w229 hI230 ih231
           obtain ⟨qq, P, bb, hd283, f234, f235, f236, f237, f238, f239, f240, f241, f242, f243, f244, f245, f246, f247, f248, f249, f250, f251, f252, f253, f254, f255, f256, f257, f258, f259, f260, f261, f262, f263, f264, f265, f266, f267, f268, f269, f270, f271, f272, f273, f274, f275, f276, f277, f278, E279, H280, H281, H282, hqq, hPl, hPo, hbb, hP, hPz, hgq⟩ := hI230
           have hPlt : valB (2 ^ 64) P < (2 ^ 64) ^ (J - 1 + lb + 1) := lt_of_zero (by decide) hPo (fun k hk => hPz k (by omega))
           refine rk_seq ?_
           refine rk_seq ?_
           refine rk_reg ?_
           refine lw_v (.int .u64 bb) (dv_move (T rfl f243)) ?_
           refine lw_v (.bool (decide (bb = 1))) (dv_eql (a := bb) (b := 1) (T rfl rfl) C) ?_
           refine lw_nil ?_
           by_cases hb284 : bb = 1
           · refine rk_ct (T rfl (congrArg Value.bool (decide_eq_true hb284))) ?_
             refine rk_skip ?_
             refine rk_block ?_
             refine rk_seq ?_
             have hneg := back_neg (by rw [show bb = 1 by omega] at hP; exact hP) hPlt
             have hq1 := back_pos hVp (by decide) hUnn hneg
             refine rk_reg ?_
             refine lw_v (.int .u64 qq) (dv_move (T rfl f242)) ?_
             refine lw_v (.int .u64 (qq - 1)) (dv_sub (a := qq) (b := 1) (z := qq - 1) (T rfl rfl) C (wn_u64 (by omega) (by omega))) ?_
             refine lw_v (.int .u64 (qq - 1)) (dv_assign (T rfl rfl)) ?_
             refine lw_nil ?_
             refine rk_seq ?_
             refine rk_reg ?_
             refine lw_v (.int .u64 0) (dv_assign C) ?_
             refine lw_nil ?_
             refine rk_seq ?_
             refine rk_seq ?_
             refine rk_reg ?_
             refine lw_v (.int .i64 ((lb : Int))) (dv_move (T rfl f236)) ?_
             refine lw_v (.int .i64 0) (dv_move C) ?_
             refine lw_nil ?_
             refine rk_block ?_
             refine rk_loop (fun dm_ fr wl => ∃ (i2 : Nat) (R : List Int) (cr : Int), dm_ = lb - i2 ∧ fr 4 = .slice none 0 0 ∧ fr 5 = .slice none 0 0 ∧ fr 6 = .int .i64 ((lb : Int)) ∧ fr 10 = .int .i64 ((S73 : Int)) ∧ fr 11 = .slice (some ⟨b84, 0, none⟩) lb ((ys.length + 1)) ∧ fr 12 = .slice (some ⟨b96, 0, none⟩) ((xs.length + 1)) ((xs.length + 1)) ∧ fr 13 = .slice (some ⟨b107, 0, none⟩) ((((la) - (lb)) + 1)) ((((la) - (lb)) + 1)) ∧ fr 14 = .int .i64 ((J : Int) - 1) ∧ fr 15 = .int .u64 (qq - 1) ∧ fr 20 = .int .u64 bb ∧ fr 21 = .int .u64 cy ∧ fr 26 = .int .u64 cr ∧ fr 94 = .int .i64 ((J : Int) - 1) ∧ fr 95 = .bool (decide (0 ≤ ((J : Int) - 1))) ∧ fr 98 = .slice (some ⟨b96, 0, none⟩) ((xs.length + 1)) ((xs.length + 1)) ∧ fr 99 = .int .i64 ((J : Int) - 1) ∧ fr 100 = .int .i64 ((lb : Int)) ∧ fr 101 = .int .i64 (((J : Int) - 1) + ((lb : Int))) ∧ fr 102 = .pointer (some ⟨b96, (((J - 1) + (lb))), none⟩) ∧ fr 103 = .int .u64 (U.getD (((J - 1) + (lb))) 0) ∧ fr 104 = .slice (some ⟨b84, 0, none⟩) lb ((ys.length + 1)) ∧ fr 105 = .int .i64 ((lb : Int)) ∧ fr 106 = .int .i64 (((lb : Int)) - 1) ∧ fr 107 = .pointer (some ⟨b84, (((lb) - 1)), none⟩) ∧ fr 108 = .int .u64 (L85.getD (((lb) - 1)) 0) ∧ fr 109 = .bool (decide ((U.getD (((J - 1) + (lb))) 0) < (L85.getD (((lb) - 1)) 0))) ∧ fr 175 = .int .i64 ((lb : Int)) ∧ fr 176 = .int .i64 ((i : Int)) ∧ fr 177 = .bool (decide (((i : Int)) < ((lb : Int)))) ∧ fr 215 = .tuple #[.int .u64 (((M.getD (((J - 1) + (lb))) 0) - cy - bw) % 18446744073709551616), .int .u64 (if (M.getD (((J - 1) + (lb))) 0) < cy + bw then 1 else 0)] ∧ fr 216 = .slice (some ⟨b96, 0, none⟩) ((xs.length + 1)) ((xs.length + 1)) ∧ fr 217 = .int .i64 ((J : Int) - 1) ∧ fr 218 = .int .i64 ((lb : Int)) ∧ fr 219 = .int .i64 (((J : Int) - 1) + ((lb : Int))) ∧ fr 220 = .slice (some ⟨b96, 0, none⟩) ((xs.length + 1)) ((xs.length + 1)) ∧ fr 221 = .int .i64 ((J : Int) - 1) ∧ fr 222 = .int .i64 ((lb : Int)) ∧ fr 223 = .int .i64 (((J : Int) - 1) + ((lb : Int))) ∧ fr 224 = .pointer (some ⟨b96, (((J - 1) + (lb))), none⟩) ∧ fr 225 = .int .u64 (M.getD (((J - 1) + (lb))) 0) ∧ fr 226 = .int .u64 cy ∧ fr 227 = .int .u64 bw ∧ fr 228 = .tuple #[.int .u64 (((M.getD (((J - 1) + (lb))) 0) - cy - bw) % 18446744073709551616), .int .u64 (if (M.getD (((J - 1) + (lb))) 0) < cy + bw then 1 else 0)] ∧ fr 229 = .int .u64 (((M.getD (((J - 1) + (lb))) 0) - cy - bw) % 18446744073709551616) ∧ fr 230 = .int .u64 (if (M.getD (((J - 1) + (lb))) 0) < cy + bw then 1 else 0) ∧ fr 231 = .pointer (some ⟨b96, (((J - 1) + (lb))), none⟩) ∧ fr 232 = .int .u64 bb ∧ fr 233 = .bool (decide (bb = 1)) ∧ fr 234 = .int .u64 qq ∧ fr 235 = .int .u64 (qq - 1) ∧ fr 236 = .int .i64 ((lb : Int)) ∧ fr 237 = .int .i64 ((i2 : Int)) ∧ Below w.heap.size w wl ∧ wl.heap[b84]? = some (.cells (L85.map (Value.int .u64)).toArray 36) ∧ wl.heap[b96]? = some (.cells (R.map (Value.int .u64)).toArray 36) ∧ wl.heap[b107]? = some (.cells (O.map (Value.int .u64)).toArray 36) ∧ (i2 ≤ lb) ∧ (R.length = la + 1) ∧ (okW (2 ^ 64) R) ∧ (0 ≤ cr ∧ cr ≤ 1) ∧ (valB (2 ^ 64) R + cr * (2 ^ 64) ^ (J - 1 + i2) = valB (2 ^ 64) P + valB (2 ^ 64) (L85.take i2) * (2 ^ 64) ^ (J - 1)) ∧ (∀ k, J - 1 + lb < k → R.getD k 0 = 0)) (lb - 0) ⟨0, P, 0, rfl, f234, f235, f236, f237, f238, f239, f240, f241, rfl, f243, f244, rfl, f245, f246, f247, f248, f249, f250, f251, f252, f253, f254, f255, f256, f257, f258, f259, f260, f261, f262, f263, f264, f265, f266, f267, f268, f269, f270, f271, f272, f273, f274, f275, f276, f277, f278, rfl, rfl, rfl, rfl, rfl, (vi (by omega)), E279, H280, H281, H282, (Nat.zero_le _), hPl, hPo, (by decide), (by simp [valB]), hPz⟩ ?_
             intro d289 fr288 w285 hI286 ih287
             obtain ⟨i2, R, cr, hd346, f290, f291, f292, f293, f294, f295, f296, f297, f298, f299, f300, f301, f302, f303, f304, f305, f306, f307, f308, f309, f310, f311, f312, f313, f314, f315, f316, f317, f318, f319, f320, f321, f322, f323, f324, f325, f326, f327, f328, f329, f330, f331, f332, f333, f334, f335, f336, f337, f338, f339, f340, f341, E342, H343, H344, H345, hi2, hRl, hRo, hca, hR, hRz⟩ := hI286
             have bR := okW.getD hRo (by decide) (J - 1 + i2)
             have bV := okW.getD ho89 (by decide) i2
             have bRt := okW.getD hRo (by decide) (J - 1 + lb)
             refine rk_seq ?_
             refine rk_reg ?_
             refine lw_v (.bool (decide (((i2 : Int)) < ((lb : Int))))) (dv_lss (a := (i2 : Int)) (b := (lb : Int)) (T rfl f341) (T rfl f340)) ?_
             refine lw_nil ?_
             refine rk_seq ?_
             by_cases hb347 : ((i2 : Int)) < ((lb : Int))
             · refine rk_ct (T rfl (congrArg Value.bool (decide_eq_true hb347))) ?_
               refine rk_skip ?_
               refine rk_seq ?_
               refine rk_block ?_
               refine rk_seq ?_
               refine rk_reg ?_
               refine lw_v (.int .i64 ((i2 : Int))) (dv_move (T rfl f341)) ?_
               refine lw_v (.int .i64 ((i2 : Int))) (dv_assign (T rfl rfl)) ?_
               refine lw_nil ?_
               refine rk_st 20 [.slice (some ⟨b96, 0, none⟩) ((xs.length + 1)) ((xs.length + 1)), .int .i64 ((J : Int) - 1), .int .i64 ((i2 : Int)), .int .i64 (((J : Int) - 1) + ((i2 : Int))), .slice (some ⟨b96, 0, none⟩) ((xs.length + 1)) ((xs.length + 1)), .int .i64 ((J : Int) - 1), .int .i64 ((i2 : Int)), .int .i64 (((J : Int) - 1) + ((i2 : Int))), .pointer (some ⟨b96, (((J - 1) + (i2))), none⟩), .int .u64 (R.getD (((J - 1) + (i2))) 0), .slice (some ⟨b84, 0, none⟩) lb ((ys.length + 1)), .int .i64 ((i2 : Int)), .pointer (some ⟨b84, i2, none⟩), .int .u64 (L85.getD i2 0), .int .u64 cr, .tuple #[.int .u64 (((R.getD (((J - 1) + (i2))) 0) + (L85.getD i2 0) + cr) % 18446744073709551616), .int .u64 (((R.getD (((J - 1) + (i2))) 0) + (L85.getD i2 0) + cr) / 18446744073709551616)], .tuple #[.int .u64 (((R.getD (((J - 1) + (i2))) 0) + (L85.getD i2 0) + cr) % 18446744073709551616), .int .u64 (((R.getD (((J - 1) + (i2))) 0) + (L85.getD i2 0) + cr) / 18446744073709551616)], .int .u64 (((R.getD (((J - 1) + (i2))) 0) + (L85.getD i2 0) + cr) % 18446744073709551616), .int .u64 (((R.getD (((J - 1) + (i2))) 0) + (L85.getD i2 0) + cr) / 18446744073709551616), .pointer (some ⟨b96, (((J - 1) + (i2))), none⟩), undef, .int .u64 (((R.getD (((J - 1) + (i2))) 0) + (L85.getD i2 0) + cr) / 18446744073709551616)] (fun wk => ∃ wd, Drew w285 wd ∧ St b96 wd wk ∧ wk.heap[b96]? = some (.cells (((R.set (((J - 1) + (i2))) (((R.getD (((J - 1) + (i2))) 0) + (L85.getD i2 0) + cr) % 18446744073709551616))).map (Value.int .u64)).toArray 36)) mo (by kernel_rfl) ?_ ?_
               · intro w348 d349
                 have E350 := below_ext E342 E342.size d349.ext
                 refine ⟨?_, ?_, ?_, ?_, ?_, ?_, ?_, ?_, ?_, ?_, ?_, ?_, ?_, ?_, ?_, ?_, ?_, ?_, ?_, ?_, ?_, ?_, trivial⟩
                 · intro fr351 w352 hB353 hF354 hD355
                   obtain rfl := hB353 (.inr (by kernel_rfl))
                   exact DV.oe (dv_move (T rfl ((hF354 12 (by kernel_rfl)).trans f295))) (by rw [if_neg (by decide)]; exact ⟨rfl, rfl⟩)
                 · intro fr356 w357 hB358 hF359 hD360
                   obtain rfl := hB358 (.inr (by kernel_rfl))
                   exact DV.oe (dv_move (T rfl ((hF359 14 (by kernel_rfl)).trans f297))) (by rw [if_neg (by decide)]; exact ⟨rfl, rfl⟩)
                 · intro fr361 w362 hB363 hF364 hD365
                   obtain rfl := hB363 (.inr (by kernel_rfl))
                   exact DV.oe (dv_move (T rfl (hF364 27 (by kernel_rfl)))) (by rw [if_neg (by decide)]; exact ⟨rfl, rfl⟩)
                 · intro fr366 w367 hB368 hF369 hD370
                   obtain rfl := hB368 (.inr (by kernel_rfl))
                   have hv371 : fr366 242 = .int .i64 ((J : Int) - 1) := hD370 1 _ (by decide) rfl (by kernel_rfl)
                   have hv372 : fr366 243 = .int .i64 ((i2 : Int)) := hD370 2 _ (by decide) rfl (by kernel_rfl)
                   exact DV.oe (dv_add (a := (J : Int) - 1) (b := (i2 : Int)) (z := ((J : Int) - 1) + ((i2 : Int))) (T rfl hv371) (T rfl hv372) (wr_i64 (by omega) (by omega))) (by rw [if_neg (by decide)]; exact ⟨rfl, rfl⟩)
                 · intro fr373 w374 hB375 hF376 hD377
                   obtain rfl := hB375 (.inr (by kernel_rfl))
                   exact DV.oe (dv_move (T rfl ((hF376 12 (by kernel_rfl)).trans f295))) (by rw [if_neg (by decide)]; exact ⟨rfl, rfl⟩)
                 · intro fr378 w379 hB380 hF381 hD382
                   obtain rfl := hB380 (.inr (by kernel_rfl))
                   exact DV.oe (dv_move (T rfl ((hF381 14 (by kernel_rfl)).trans f297))) (by rw [if_neg (by decide)]; exact ⟨rfl, rfl⟩)
                 · intro fr383 w384 hB385 hF386 hD387
                   obtain rfl := hB385 (.inr (by kernel_rfl))
                   exact DV.oe (dv_move (T rfl (hF386 27 (by kernel_rfl)))) (by rw [if_neg (by decide)]; exact ⟨rfl, rfl⟩)
                 · intro fr388 w389 hB390 hF391 hD392
                   obtain rfl := hB390 (.inr (by kernel_rfl))
                   have hv393 : fr388 246 = .int .i64 ((J : Int) - 1) := hD392 5 _ (by decide) rfl (by kernel_rfl)
                   have hv394 : fr388 247 = .int .i64 ((i2 : Int)) := hD392 6 _ (by decide) rfl (by kernel_rfl)
                   exact DV.oe (dv_add (a := (J : Int) - 1) (b := (i2 : Int)) (z := ((J : Int) - 1) + ((i2 : Int))) (T rfl hv393) (T rfl hv394) (wr_i64 (by omega) (by omega))) (by rw [if_neg (by decide)]; exact ⟨rfl, rfl⟩)
                 · intro fr395 w396 hB397 hF398 hD399
                   obtain rfl := hB397 (.inr (by kernel_rfl))
                   have hv400 : fr395 245 = .slice (some ⟨b96, 0, none⟩) ((xs.length + 1)) ((xs.length + 1)) := hD399 4 _ (by decide) rfl (by kernel_rfl)
                   have hv401 : fr395 248 = .int .i64 (((J : Int) - 1) + ((i2 : Int))) := hD399 7 _ (by decide) rfl (by kernel_rfl)
                   exact DV.oe (dv_indexO (g := b96) (l := (xs.length + 1)) (c := (xs.length + 1)) (i := ((J - 1) + (i2))) (j := ((J : Int) - 1) + ((i2 : Int))) us105 sz36 (T rfl hv400) (T rfl hv401) (by omega) (by first | omega | (simp; done) | (simp; omega))) (by rw [if_neg (by decide)]; exact ⟨rfl, rfl⟩)
                 · intro fr402 w403 hB404 hF405 hD406
                   obtain rfl := hB404 (.inr (by kernel_rfl))
                   have hv407 : fr402 249 = .pointer (some ⟨b96, (((J - 1) + (i2))), none⟩) := hD406 8 _ (by decide) rfl (by kernel_rfl)
                   have H408 := (d349.ext.blk H344)
                   exact DV.oe (dv_loadW (L := R) (v := R.getD (((J - 1) + (i2))) 0) agt36 (T rfl hv407) H408 (by first | omega | (simp; done) | (simp; omega)) rfl) (by rw [if_neg (by decide)]; exact ⟨rfl, rfl⟩)
                 · intro fr409 w410 hB411 hF412 hD413
                   obtain rfl := hB411 (.inr (by kernel_rfl))
                   exact DV.oe (dv_move (T rfl ((hF412 11 (by kernel_rfl)).trans f294))) (by rw [if_neg (by decide)]; exact ⟨rfl, rfl⟩)
                 · intro fr414 w415 hB416 hF417 hD418
                   obtain rfl := hB416 (.inr (by kernel_rfl))
                   exact DV.oe (dv_move (T rfl (hF417 27 (by kernel_rfl)))) (by rw [if_neg (by decide)]; exact ⟨rfl, rfl⟩)
                 · intro fr419 w420 hB421 hF422 hD423
                   obtain rfl := hB421 (.inr (by kernel_rfl))
                   have hv424 : fr419 251 = .slice (some ⟨b84, 0, none⟩) lb ((ys.length + 1)) := hD423 10 _ (by decide) rfl (by kernel_rfl)
                   have hv425 : fr419 252 = .int .i64 ((i2 : Int)) := hD423 11 _ (by decide) rfl (by kernel_rfl)
                   exact DV.oe (dv_indexO (g := b84) (l := lb) (c := (ys.length + 1)) (i := i2) (j := (i2 : Int)) us105 sz36 (T rfl hv424) (T rfl hv425) (by omega) (by first | omega | (simp; done) | (simp; omega))) (by rw [if_neg (by decide)]; exact ⟨rfl, rfl⟩)
                 · intro fr426 w427 hB428 hF429 hD430
                   obtain rfl := hB428 (.inr (by kernel_rfl))
                   have hv431 : fr426 253 = .pointer (some ⟨b84, i2, none⟩) := hD430 12 _ (by decide) rfl (by kernel_rfl)
                   have H432 := (d349.ext.blk H343)
                   exact DV.oe (dv_loadW (L := L85) (v := L85.getD i2 0) agt36 (T rfl hv431) H432 (by first | omega | (simp; done) | (simp; omega)) rfl) (by rw [if_neg (by decide)]; exact ⟨rfl, rfl⟩)
                 · intro fr433 w434 hB435 hF436 hD437
                   obtain rfl := hB435 (.inr (by kernel_rfl))
                   exact DV.oe (dv_move (T rfl ((hF436 26 (by kernel_rfl)).trans f301))) (by rw [if_neg (by decide)]; exact ⟨rfl, rfl⟩)
                 · intro fr438 w439 hB440 hF441 hD442
                   obtain rfl := hB440 (.inr (by kernel_rfl))
                   have hv443 : fr438 250 = .int .u64 (R.getD (((J - 1) + (i2))) 0) := hD442 9 _ (by decide) rfl (by kernel_rfl)
                   have hv444 : fr438 254 = .int .u64 (L85.getD i2 0) := hD442 13 _ (by decide) rfl (by kernel_rfl)
                   have hv445 : fr438 255 = .int .u64 cr := hD442 14 _ (by decide) rfl (by kernel_rfl)
                   exact DV.oe (dv_ext (e := add64Entry) (vs := [.int .u64 (R.getD (((J - 1) + (i2))) 0), .int .u64 (L85.getD i2 0), .int .u64 cr]) Try.func116 rfl rfl (by kernel_rfl) (by kernel_rfl) (ar3 (T rfl hv443) (T rfl hv444) (T rfl hv445)) (run_addE (R.getD (((J - 1) + (i2))) 0) (L85.getD i2 0) cr (by omega) (by omega) (by omega))) (by rw [if_neg (by decide)]; exact ⟨rfl, rfl⟩)
                 · intro fr446 w447 hB448 hF449 hD450
                   obtain rfl := hB448 (.inr (by kernel_rfl))
                   have hv451 : fr446 256 = .tuple #[.int .u64 (((R.getD (((J - 1) + (i2))) 0) + (L85.getD i2 0) + cr) % 18446744073709551616), .int .u64 (((R.getD (((J - 1) + (i2))) 0) + (L85.getD i2 0) + cr) / 18446744073709551616)] := hD450 15 _ (by decide) rfl (by kernel_rfl)
                   exact DV.oe (dv_move (T rfl hv451)) (by rw [if_neg (by decide)]; exact ⟨rfl, rfl⟩)
                 · intro fr452 w453 hB454 hF455 hD456
                   obtain rfl := hB454 (.inr (by kernel_rfl))
                   have hv457 : fr452 240 = .tuple #[.int .u64 (((R.getD (((J - 1) + (i2))) 0) + (L85.getD i2 0) + cr) % 18446744073709551616), .int .u64 (((R.getD (((J - 1) + (i2))) 0) + (L85.getD i2 0) + cr) / 18446744073709551616)] := hD456 16 _ (by decide) rfl (by kernel_rfl)
                   exact DV.oe (dv_extract (vs := #[.int .u64 (((R.getD (((J - 1) + (i2))) 0) + (L85.getD i2 0) + cr) % 18446744073709551616), .int .u64 (((R.getD (((J - 1) + (i2))) 0) + (L85.getD i2 0) + cr) / 18446744073709551616)]) (T rfl hv457) rfl) (by rw [if_neg (by decide)]; exact ⟨rfl, rfl⟩)
                 · intro fr458 w459 hB460 hF461 hD462
                   have hv463 : fr458 240 = .tuple #[.int .u64 (((R.getD (((J - 1) + (i2))) 0) + (L85.getD i2 0) + cr) % 18446744073709551616), .int .u64 (((R.getD (((J - 1) + (i2))) 0) + (L85.getD i2 0) + cr) / 18446744073709551616)] := hD462 16 _ (by decide) rfl (by kernel_rfl)
                   exact DV.oe (dv_extract (vs := #[.int .u64 (((R.getD (((J - 1) + (i2))) 0) + (L85.getD i2 0) + cr) % 18446744073709551616), .int .u64 (((R.getD (((J - 1) + (i2))) 0) + (L85.getD i2 0) + cr) / 18446744073709551616)]) (T rfl hv463) rfl) (by rw [if_neg (by decide)]; exact ⟨rfl, rfl⟩)
                 · intro fr464 w465 hB466 hF467 hD468
                   obtain rfl := hB466 (.inr (by kernel_rfl))
                   have hv469 : fr464 241 = .slice (some ⟨b96, 0, none⟩) ((xs.length + 1)) ((xs.length + 1)) := hD468 0 _ (by decide) rfl (by kernel_rfl)
                   have hv470 : fr464 244 = .int .i64 (((J : Int) - 1) + ((i2 : Int))) := hD468 3 _ (by decide) rfl (by kernel_rfl)
                   exact DV.oe (dv_indexO (g := b96) (l := (xs.length + 1)) (c := (xs.length + 1)) (i := ((J - 1) + (i2))) (j := ((J : Int) - 1) + ((i2 : Int))) us105 sz36 (T rfl hv469) (T rfl hv470) (by omega) (by first | omega | (simp; done) | (simp; omega))) (by rw [if_neg (by decide)]; exact ⟨rfl, rfl⟩)
                 · intro fr471 w472 hB473 hF474 hD475
                   obtain rfl := hB473 (.inl rfl)
                   have hv476 : fr471 257 = .int .u64 (((R.getD (((J - 1) + (i2))) 0) + (L85.getD i2 0) + cr) % 18446744073709551616) := hD475 17 _ (by decide) rfl (by kernel_rfl)
                   have hv477 : fr471 259 = .pointer (some ⟨b96, (((J - 1) + (i2))), none⟩) := hD475 19 _ (by decide) rfl (by kernel_rfl)
                   have H478 := (d349.ext.blk H344)
                   refine id (oe_storeW (L := R) (i := ((J - 1) + (i2))) (z := ((R.getD (((J - 1) + (i2))) 0) + (L85.getD i2 0) + cr) % 18446744073709551616) sz36 (T rfl hv477) (T rfl hv476) H478 (by first | omega | (simp; done) | (simp; omega)) ?_)
                   intro w479 s480 H481
                   have E482 := below_st E350 N106 s480
                   rw [if_pos rfl]
                   exact ⟨_, d349, s480, H481⟩
                 · intro fr483 w484 hB485 hF486 hD487
                   have hv488 : fr483 258 = .int .u64 (((R.getD (((J - 1) + (i2))) 0) + (L85.getD i2 0) + cr) / 18446744073709551616) := hD487 18 _ (by decide) rfl (by kernel_rfl)
                   exact DV.oe (dv_assign (T rfl hv488)) (by rw [if_neg (by decide)]; exact ⟨rfl, rfl⟩)
               intro fr489 w490 hK491 hF492 hP493
               obtain ⟨w494, d495, s496, H497⟩ := hK491
               have E498 := below_ext E342 E342.size d495.ext
               have H499 := (d495.ext.blk H344)
               have E500 := below_st E498 N106 s496
               obtain ⟨p501, p502, p503, p504, p505, p506, p507, p508, p509, p510, p511, p512, p513, p514, p515, p516, p517, p518, p519, p520, _, p521, _⟩ := hP493
               have hv522 : fr489 241 = .slice (some ⟨b96, 0, none⟩) ((xs.length + 1)) ((xs.length + 1)) := p501.resolve_left (by decide)
               have hv523 : fr489 242 = .int .i64 ((J : Int) - 1) := p502.resolve_left (by decide)
               have hv524 : fr489 243 = .int .i64 ((i2 : Int)) := p503.resolve_left (by decide)
               have hv525 : fr489 244 = .int .i64 (((J : Int) - 1) + ((i2 : Int))) := p504.resolve_left (by decide)
               have hv526 : fr489 245 = .slice (some ⟨b96, 0, none⟩) ((xs.length + 1)) ((xs.length + 1)) := p505.resolve_left (by decide)
               have hv527 : fr489 246 = .int .i64 ((J : Int) - 1) := p506.resolve_left (by decide)
               have hv528 : fr489 247 = .int .i64 ((i2 : Int)) := p507.resolve_left (by decide)
               have hv529 : fr489 248 = .int .i64 (((J : Int) - 1) + ((i2 : Int))) := p508.resolve_left (by decide)
               have hv530 : fr489 249 = .pointer (some ⟨b96, (((J - 1) + (i2))), none⟩) := p509.resolve_left (by decide)
               have hv531 : fr489 250 = .int .u64 (R.getD (((J - 1) + (i2))) 0) := p510.resolve_left (by decide)
               have hv532 : fr489 251 = .slice (some ⟨b84, 0, none⟩) lb ((ys.length + 1)) := p511.resolve_left (by decide)
               have hv533 : fr489 252 = .int .i64 ((i2 : Int)) := p512.resolve_left (by decide)
               have hv534 : fr489 253 = .pointer (some ⟨b84, i2, none⟩) := p513.resolve_left (by decide)
               have hv535 : fr489 254 = .int .u64 (L85.getD i2 0) := p514.resolve_left (by decide)
               have hv536 : fr489 255 = .int .u64 cr := p515.resolve_left (by decide)
               have hv537 : fr489 256 = .tuple #[.int .u64 (((R.getD (((J - 1) + (i2))) 0) + (L85.getD i2 0) + cr) % 18446744073709551616), .int .u64 (((R.getD (((J - 1) + (i2))) 0) + (L85.getD i2 0) + cr) / 18446744073709551616)] := p516.resolve_left (by decide)
               have hv538 : fr489 240 = .tuple #[.int .u64 (((R.getD (((J - 1) + (i2))) 0) + (L85.getD i2 0) + cr) % 18446744073709551616), .int .u64 (((R.getD (((J - 1) + (i2))) 0) + (L85.getD i2 0) + cr) / 18446744073709551616)] := p517.resolve_left (by decide)
               have hv539 : fr489 257 = .int .u64 (((R.getD (((J - 1) + (i2))) 0) + (L85.getD i2 0) + cr) % 18446744073709551616) := p518.resolve_left (by decide)
               have hv540 : fr489 258 = .int .u64 (((R.getD (((J - 1) + (i2))) 0) + (L85.getD i2 0) + cr) / 18446744073709551616) := p519.resolve_left (by decide)
               have hv541 : fr489 259 = .pointer (some ⟨b96, (((J - 1) + (i2))), none⟩) := p520.resolve_left (by decide)
               have hv542 : fr489 26 = .int .u64 (((R.getD (((J - 1) + (i2))) 0) + (L85.getD i2 0) + cr) / 18446744073709551616) := p521.resolve_left (by decide)
               refine rk_inBlock ?_
               refine rk_reg ?_
               refine lw_v (.int .i64 (((i2 : Int)) + 1)) (dv_add (a := (i2 : Int)) (b := 1) (z := ((i2 : Int)) + 1) (T rfl ((hF492 237 rfl).trans f341)) C (wr_i64 (by omega) (by omega))) ?_
               refine lw_v (.int .i64 (((i2 : Int)) + 1)) (dv_move (T rfl rfl)) ?_
               refine lw_nil ?_
               have H543 := (s496.blk (d495.ext.blk H343) (by omega))
               have H544 := (s496.blk (d495.ext.blk H345) (by omega))
               exact ih287 (lb - ((i2 + 1))) _ _ (by rw [hd346]; omega) ⟨(i2 + 1), (R.set (((J - 1) + (i2))) (((R.getD (((J - 1) + (i2))) 0) + (L85.getD i2 0) + cr) % 18446744073709551616)), (((R.getD (((J - 1) + (i2))) 0) + (L85.getD i2 0) + cr) / 18446744073709551616), rfl, ((hF492 4 rfl).trans f290), ((hF492 5 rfl).trans f291), ((hF492 6 rfl).trans f292), ((hF492 10 rfl).trans f293), ((hF492 11 rfl).trans f294), ((hF492 12 rfl).trans f295), ((hF492 13 rfl).trans f296), ((hF492 14 rfl).trans f297), ((hF492 15 rfl).trans f298), ((hF492 20 rfl).trans f299), ((hF492 21 rfl).trans f300), hv542, ((hF492 94 rfl).trans f302), ((hF492 95 rfl).trans f303), ((hF492 98 rfl).trans f304), ((hF492 99 rfl).trans f305), ((hF492 100 rfl).trans f306), ((hF492 101 rfl).trans f307), ((hF492 102 rfl).trans f308), ((hF492 103 rfl).trans f309), ((hF492 104 rfl).trans f310), ((hF492 105 rfl).trans f311), ((hF492 106 rfl).trans f312), ((hF492 107 rfl).trans f313), ((hF492 108 rfl).trans f314), ((hF492 109 rfl).trans f315), ((hF492 175 rfl).trans f316), ((hF492 176 rfl).trans f317), ((hF492 177 rfl).trans f318), ((hF492 215 rfl).trans f319), ((hF492 216 rfl).trans f320), ((hF492 217 rfl).trans f321), ((hF492 218 rfl).trans f322), ((hF492 219 rfl).trans f323), ((hF492 220 rfl).trans f324), ((hF492 221 rfl).trans f325), ((hF492 222 rfl).trans f326), ((hF492 223 rfl).trans f327), ((hF492 224 rfl).trans f328), ((hF492 225 rfl).trans f329), ((hF492 226 rfl).trans f330), ((hF492 227 rfl).trans f331), ((hF492 228 rfl).trans f332), ((hF492 229 rfl).trans f333), ((hF492 230 rfl).trans f334), ((hF492 231 rfl).trans f335), ((hF492 232 rfl).trans f336), ((hF492 233 rfl).trans f337), ((hF492 234 rfl).trans f338), ((hF492 235 rfl).trans f339), ((hF492 236 rfl).trans f340), (vi (by omega)), E500, H543, H497, H544, (by omega), (by simp [hRl]), (okW.set hRo (by omega) (by omega) _), (by omega), (madd_step (by omega) hR (by rw [p64]; exact modsum _)), (fun k hk => by rw [Fw.getD_set_neQ _ _ _ _ (by omega)]; exact hRz k hk)⟩
             · refine rk_cf (T rfl (congrArg Value.bool (decide_eq_false hb347))) ?_
               refine rk_exit rfl ?_
               refine rk_seq ?_
               refine rk_reg ?_
               refine lw_v (.slice (some ⟨b96, 0, none⟩) ((xs.length + 1)) ((xs.length + 1))) (dv_move (T rfl f295)) ?_
               refine lw_v (.int .i64 ((J : Int) - 1)) (dv_move (T rfl f297)) ?_
               refine lw_v (.int .i64 ((lb : Int))) (dv_move (T rfl f292)) ?_
               refine lw_v (.int .i64 (((J : Int) - 1) + ((lb : Int)))) (dv_add (a := (J : Int) - 1) (b := (lb : Int)) (z := ((J : Int) - 1) + ((lb : Int))) (T rfl rfl) (T rfl rfl) (wr_i64 (by omega) (by omega))) ?_
               refine lw_v (.slice (some ⟨b96, 0, none⟩) ((xs.length + 1)) ((xs.length + 1))) (dv_move (T rfl f295)) ?_
               refine lw_v (.int .i64 ((J : Int) - 1)) (dv_move (T rfl f297)) ?_
               refine lw_v (.int .i64 ((lb : Int))) (dv_move (T rfl f292)) ?_
               refine lw_v (.int .i64 (((J : Int) - 1) + ((lb : Int)))) (dv_add (a := (J : Int) - 1) (b := (lb : Int)) (z := ((J : Int) - 1) + ((lb : Int))) (T rfl rfl) (T rfl rfl) (wr_i64 (by omega) (by omega))) ?_
               refine lw_v (.pointer (some ⟨b96, (((J - 1) + (lb))), none⟩)) (dv_indexO (g := b96) (l := (xs.length + 1)) (c := (xs.length + 1)) (i := ((J - 1) + (lb))) (j := ((J : Int) - 1) + ((lb : Int))) us105 sz36 (T rfl rfl) (T rfl rfl) (by omega) (by first | omega | (simp; done) | (simp; omega))) ?_
               refine lw_v (.int .u64 (R.getD (((J - 1) + (lb))) 0)) (dv_loadW (L := R) (v := R.getD (((J - 1) + (lb))) 0) agt36 (T rfl rfl) H344 (by first | omega | (simp; done) | (simp; omega)) rfl) ?_
               refine lw_v (.int .u64 cr) (dv_move (T rfl f301)) ?_
               refine lw_v (.tuple #[.int .u64 (((R.getD (((J - 1) + (lb))) 0) + 0 + cr) % 18446744073709551616), .int .u64 (((R.getD (((J - 1) + (lb))) 0) + 0 + cr) / 18446744073709551616)]) (dv_ext (e := add64Entry) (vs := [.int .u64 (R.getD (((J - 1) + (lb))) 0), .int .u64 0, .int .u64 cr]) Try.func116 rfl rfl (by kernel_rfl) (by kernel_rfl) (ar3 (T rfl rfl) C (T rfl rfl)) (run_addE (R.getD (((J - 1) + (lb))) 0) 0 cr (by omega) (by omega) (by omega))) ?_
               refine lw_v (.tuple #[.int .u64 (((R.getD (((J - 1) + (lb))) 0) + 0 + cr) % 18446744073709551616), .int .u64 (((R.getD (((J - 1) + (lb))) 0) + 0 + cr) / 18446744073709551616)]) (dv_move (T rfl rfl)) ?_
               refine lw_v (.int .u64 (((R.getD (((J - 1) + (lb))) 0) + 0 + cr) % 18446744073709551616)) (dv_extract (vs := #[.int .u64 (((R.getD (((J - 1) + (lb))) 0) + 0 + cr) % 18446744073709551616), .int .u64 (((R.getD (((J - 1) + (lb))) 0) + 0 + cr) / 18446744073709551616)]) (T rfl rfl) rfl) ?_
               refine lw_v (.int .u64 (((R.getD (((J - 1) + (lb))) 0) + 0 + cr) / 18446744073709551616)) (dv_extract (vs := #[.int .u64 (((R.getD (((J - 1) + (lb))) 0) + 0 + cr) % 18446744073709551616), .int .u64 (((R.getD (((J - 1) + (lb))) 0) + 0 + cr) / 18446744073709551616)]) (T rfl rfl) rfl) ?_
               refine lw_v (.pointer (some ⟨b96, (((J - 1) + (lb))), none⟩)) (dv_indexO (g := b96) (l := (xs.length + 1)) (c := (xs.length + 1)) (i := ((J - 1) + (lb))) (j := ((J : Int) - 1) + ((lb : Int))) us105 sz36 (T rfl rfl) (T rfl rfl) (by omega) (by first | omega | (simp; done) | (simp; omega))) ?_
               refine lw_e (oe_storeW (L := R) (i := ((J - 1) + (lb))) (z := ((R.getD (((J - 1) + (lb))) 0) + 0 + cr) % 18446744073709551616) sz36 (T rfl rfl) (T rfl rfl) H344 (by first | omega | (simp; done) | (simp; omega)) ?_)
               intro w545 s546 H547
               have E548 := below_st E342 N106 s546
               refine lw_v (.int .u64 (((R.getD (((J - 1) + (lb))) 0) + 0 + cr) / 18446744073709551616)) (dv_assign (T rfl rfl)) ?_
               refine lw_nil ?_
               refine rk_reg ?_
               refine lw_v (.int .u64 bb) (dv_move (T rfl f299)) ?_
               refine lw_v (.int .u64 (((R.getD (((J - 1) + (lb))) 0) + 0 + cr) / 18446744073709551616)) (dv_move (T rfl rfl)) ?_
               refine lw_v (.int .u64 (bb - (((R.getD (((J - 1) + (lb))) 0) + 0 + cr) / 18446744073709551616))) (dv_sub (a := bb) (b := ((R.getD (((J - 1) + (lb))) 0) + 0 + cr) / 18446744073709551616) (z := bb - (((R.getD (((J - 1) + (lb))) 0) + 0 + cr) / 18446744073709551616)) (T rfl rfl) (T rfl rfl) (wn_u64 (by omega) (by omega))) ?_
               refine lw_v (.int .u64 (bb - (((R.getD (((J - 1) + (lb))) 0) + 0 + cr) / 18446744073709551616))) (dv_assign (T rfl rfl)) ?_
               refine lw_nil ?_
               refine rk_inBlock ?_
               have H549 := (s546.blk H343 (by omega))
               have H550 := (s546.blk H345 (by omega))
               exact ih231 (((qq - 1)).toNat) _ _ (by rw [hd283]; omega) ⟨(qq - 1), (R.set (((J - 1) + (lb))) (((R.getD (((J - 1) + (lb))) 0) + 0 + cr) % 18446744073709551616)), (bb - (((R.getD (((J - 1) + (lb))) 0) + 0 + cr) / 18446744073709551616)), rfl, f290, f291, f292, f293, f294, f295, f296, f297, f298, rfl, f300, f302, f303, f304, f305, f306, f307, f308, f309, f310, f311, f312, f313, f314, f315, f316, f317, f318, f319, f320, f321, f322, f323, f324, f325, f326, f327, f328, f329, f330, f331, f332, f333, f334, f335, E548, H549, H547, H550, (by omega), (by simp [hRl]), (okW.set hRo (by omega) (by omega) _), (by omega), (by have h := hR; rw [show i2 = lb by omega, hVt] at h; have h2 := back_step (by rw [show bb = 1 by omega] at hP; exact hP) (madd_top (by omega) h (by rw [p64]; exact modsum _)); rw [h2]; congr 2; omega), (fun k hk => by rw [Fw.getD_set_neQ _ _ _ _ (by omega)]; exact hRz k hk), (by rw [show qq - 1 + 1 = qq by omega]; exact hneg)⟩
           · refine rk_cf (T rfl (congrArg Value.bool (decide_eq_false hb284))) ?_
             refine rk_exit rfl ?_
             refine rk_reg ?_
             refine lw_v (.slice (some ⟨b107, 0, none⟩) ((((la) - (lb)) + 1)) ((((la) - (lb)) + 1))) (dv_move (T rfl f240)) ?_
             refine lw_v (.int .i64 ((J : Int) - 1)) (dv_move (T rfl f241)) ?_
             refine lw_v (.int .u64 qq) (dv_move (T rfl f242)) ?_
             refine lw_v (.pointer (some ⟨b107, ((J - 1)), none⟩)) (dv_indexO (g := b107) (l := (((la) - (lb)) + 1)) (c := (((la) - (lb)) + 1)) (i := (J - 1)) (j := (J : Int) - 1) us105 sz36 (T rfl rfl) (T rfl rfl) (by omega) (by first | omega | (simp; done) | (simp; omega))) ?_
             refine lw_e (oe_storeW (L := O) (i := (J - 1)) (z := qq) sz36 (T rfl rfl) (T rfl rfl) H282 (by first | omega | (simp; done) | (simp; omega)) ?_)
             intro w551 s552 H553
             have E554 := below_st E279 N110 s552
             refine lw_nil ?_
             refine rk_inBlock ?_
             refine rk_reg ?_
             refine lw_v (.int .i64 ((J : Int) - 1)) (dv_move (T rfl f241)) ?_
             refine lw_v (.int .i64 (((J : Int) - 1) - 1)) (dv_sub (a := (J : Int) - 1) (b := 1) (z := ((J : Int) - 1) - 1) (T rfl rfl) C (wr_i64 (by omega) (by omega))) ?_
             refine lw_v (.int .i64 (((J : Int) - 1) - 1)) (dv_assign (T rfl rfl)) ?_
             refine lw_nil ?_
             have hbb0 : bb = 0 := by omega
             rw [hbb0] at hP
             have hfd := digit_found (j := J - 1) (by omega) (hO0 _ (by omega)) hP hV hgq
             have H555 := (s552.blk H280 (by omega))
             have H556 := (s552.blk H281 (by omega))
             exact ih116 (((J - 1))) _ _ (by rw [hd131]; omega) ⟨(J - 1), P, (O.set ((J - 1)) qq), rfl, f234, f235, f236, f237, f238, f239, f240, (vi (by omega)), E554, H555, H556, H553, (by omega), hPl, (by simp [hOl]), hPo, (okW.set hOo hqq.1 (by omega) _), (fun k hk => by rw [Fw.getD_set_neQ _ _ _ _ (by omega)]; exact hO0 k (by omega)), hfd.1, hfd.2⟩
       · by_cases hb557 : (U.getD (((J - 1) + (lb))) 0) < (L85.getD (((lb) - 1)) 0)
         · refine rk_ct (T rfl (congrArg Value.bool (decide_eq_true hb557))) ?_
           refine rk_seq ?_
           refine rk_reg ?_
           refine lw_v (.int .u64 0) (dv_assign C) ?_
           refine lw_nil ?_
           refine rk_seq ?_
           refine rk_any (fun w => w.heap[b96]? = some (.cells (U.map (Value.int .u64)).toArray 36) ∧ w.heap[b84]? = some (.cells (L85.map (Value.int .u64)).toArray 36)) [23] mo ?_
           intro w558 d559
           have E560 := below_ext E140 E140.size d559.ext
           have H561 := (d559.ext.blk H141)
           have H562 := (d559.ext.blk H142)
           refine aw_pure 0 (.slice (some ⟨b96, 0, none⟩) ((xs.length + 1)) ((xs.length + 1))) rfl (by kernel_rfl) .none ⟨H561, H562⟩ (fun _ => dv_move (T rfl f124)) ?_
           refine aw_pure 1 (.int .i64 ((J : Int) - 1)) rfl (by kernel_rfl) .none ⟨H561, H562⟩ (fun _ => dv_move (T rfl f126)) ?_
           refine aw_pure 2 (.int .i64 ((lb : Int))) rfl (by kernel_rfl) .none ⟨H561, H562⟩ (fun _ => dv_move (T rfl f121)) ?_
           refine aw_pure 3 (.int .i64 (((J : Int) - 1) + ((lb : Int)))) rfl (by kernel_rfl) .none ⟨H561, H562⟩ (fun _ => dv_add (a := (J : Int) - 1) (b := (lb : Int)) (z := ((J : Int) - 1) + ((lb : Int))) (T rfl rfl) (T rfl rfl) (wr_i64 (by omega) (by omega))) ?_
           refine aw_pure 4 (.pointer (some ⟨b96, (((J - 1) + (lb))), none⟩)) rfl (by kernel_rfl) .none ⟨H561, H562⟩ (fun _ => dv_indexO (g := b96) (l := (xs.length + 1)) (c := (xs.length + 1)) (i := ((J - 1) + (lb))) (j := ((J : Int) - 1) + ((lb : Int))) us105 sz36 (T rfl rfl) (T rfl rfl) (by omega) (by first | omega | (simp; done) | (simp; omega))) ?_
           refine aw_load 5 (.int .u64 (U.getD (((J - 1) + (lb))) 0)) rfl (by kernel_rfl) .none ⟨H561, H562⟩ (fun _ s => dv_loadW (L := U) (v := U.getD (((J - 1) + (lb))) 0) agt36 (T rfl rfl) s.1 (by first | omega | (simp; done) | (simp; omega)) rfl) ?_
           refine aw_pure 6 (.slice (some ⟨b96, 0, none⟩) ((xs.length + 1)) ((xs.length + 1))) rfl (by kernel_rfl) .none ⟨H561, H562⟩ (fun _ => dv_move (T rfl f124)) ?_
           refine aw_pure 7 (.int .i64 ((J : Int) - 1)) rfl (by kernel_rfl) .none ⟨H561, H562⟩ (fun _ => dv_move (T rfl f126)) ?_
           refine aw_pure 8 (.int .i64 ((lb : Int))) rfl (by kernel_rfl) .none ⟨H561, H562⟩ (fun _ => dv_move (T rfl f121)) ?_
           refine aw_pure 9 (.int .i64 (((J : Int) - 1) + ((lb : Int)))) rfl (by kernel_rfl) .none ⟨H561, H562⟩ (fun _ => dv_add (a := (J : Int) - 1) (b := (lb : Int)) (z := ((J : Int) - 1) + ((lb : Int))) (T rfl rfl) (T rfl rfl) (wr_i64 (by omega) (by omega))) ?_
           refine aw_pure 10 (.int .i64 ((((J : Int) - 1) + ((lb : Int))) - 1)) rfl (by kernel_rfl) .none ⟨H561, H562⟩ (fun _ => dv_sub (a := ((J : Int) - 1) + ((lb : Int))) (b := 1) (z := (((J : Int) - 1) + ((lb : Int))) - 1) (T rfl rfl) C (wr_i64 (by omega) (by omega))) ?_
           refine aw_pure 11 (.pointer (some ⟨b96, ((((J - 1) + (lb)) - 1)), none⟩)) rfl (by kernel_rfl) .none ⟨H561, H562⟩ (fun _ => dv_indexO (g := b96) (l := (xs.length + 1)) (c := (xs.length + 1)) (i := (((J - 1) + (lb)) - 1)) (j := (((J : Int) - 1) + ((lb : Int))) - 1) us105 sz36 (T rfl rfl) (T rfl rfl) (by omega) (by first | omega | (simp; done) | (simp; omega))) ?_
           refine aw_load 12 (.int .u64 (U.getD ((((J - 1) + (lb)) - 1)) 0)) rfl (by kernel_rfl) .none ⟨H561, H562⟩ (fun _ s => dv_loadW (L := U) (v := U.getD ((((J - 1) + (lb)) - 1)) 0) agt36 (T rfl rfl) s.1 (by first | omega | (simp; done) | (simp; omega)) rfl) ?_
           refine aw_pure 13 (.slice (some ⟨b84, 0, none⟩) lb ((ys.length + 1))) rfl (by kernel_rfl) .none ⟨H561, H562⟩ (fun _ => dv_move (T rfl f123)) ?_
           refine aw_pure 14 (.int .i64 ((lb : Int))) rfl (by kernel_rfl) .none ⟨H561, H562⟩ (fun _ => dv_move (T rfl f121)) ?_
           refine aw_pure 15 (.int .i64 (((lb : Int)) - 1)) rfl (by kernel_rfl) .none ⟨H561, H562⟩ (fun _ => dv_sub (a := (lb : Int)) (b := 1) (z := ((lb : Int)) - 1) (T rfl rfl) C (wr_i64 (by omega) (by omega))) ?_
           refine aw_pure 16 (.pointer (some ⟨b84, (((lb) - 1)), none⟩)) rfl (by kernel_rfl) .none ⟨H561, H562⟩ (fun _ => dv_indexO (g := b84) (l := lb) (c := (ys.length + 1)) (i := ((lb) - 1)) (j := ((lb : Int)) - 1) us105 sz36 (T rfl rfl) (T rfl rfl) (by omega) (by first | omega | (simp; done) | (simp; omega))) ?_
           refine aw_load 17 (.int .u64 (L85.getD (((lb) - 1)) 0)) rfl (by kernel_rfl) .none ⟨H561, H562⟩ (fun _ s => dv_loadW (L := L85) (v := L85.getD (((lb) - 1)) 0) agt36 (T rfl rfl) s.2 (by first | omega | (simp; done) | (simp; omega)) rfl) ?_
           refine aw_one 18 rfl (by kernel_rfl) .none (oe_callf (vs := [.int .u64 (U.getD (((J - 1) + (lb))) 0), .int .u64 (U.getD ((((J - 1) + (lb)) - 1)) 0), .int .u64 (L85.getD (((lb) - 1)) 0)]) co147 (ar3 (T rfl rfl) (T rfl rfl) (T rfl rfl)) (div64_q (hi := U.getD (((J - 1) + (lb))) 0) (lo := U.getD ((((J - 1) + (lb)) - 1)) 0) (y := L85.getD (((lb) - 1)) 0) (by omega) (by omega) (by omega) (by omega)) ?_)
           rintro _ w566 ⟨qd563, rd564, rfl, e567, hd565⟩
           have E568 := below_ext E560 E560.size e567
           obtain ⟨hd565a, hd565b, hd565c, hd565d⟩ := hd565
           have H569 := (e567.blk H561)
           have H570 := (e567.blk H562)
           refine ⟨.inr ⟨H569, H570⟩, ?_⟩
           refine aw_pure 19 (.tuple #[.int .u64 qd563, .int .u64 rd564]) rfl (by kernel_rfl) .none ⟨H569, H570⟩ (fun _ => dv_move (T rfl rfl)) ?_
           refine aw_pure 20 (.int .u64 qd563) rfl (by kernel_rfl) .none ⟨H569, H570⟩ (fun _ => dv_extract (vs := #[.int .u64 qd563, .int .u64 rd564]) (T rfl rfl) rfl) ?_
           refine aw_pure 21 (.int .u64 rd564) rfl (by kernel_rfl) .none ⟨H569, H570⟩ (fun _ => dv_extract (vs := #[.int .u64 qd563, .int .u64 rd564]) (T rfl rfl) rfl) ?_
           refine aw_pure 22 (.int .u64 qd563) rfl (by kernel_rfl) .none ⟨H569, H570⟩ (fun _ => dv_assign (T rfl rfl)) ?_
           refine aw_last 23 (.int .u64 rd564) rfl (by kernel_rfl) .none (fun _ => dv_assign (T rfl rfl)) ?_
           refine aw_done (by kernel_rfl) ?_
           refine rk_block ?_
           have H571 := (e567.blk (d559.ext.blk (d139.ext.blk H130)))
           refine rk_loop (fun dm_ fr wl => ∃ (qc rc : Int), dm_ = qc.toNat ∧ fr 4 = .slice none 0 0 ∧ fr 5 = .slice none 0 0 ∧ fr 6 = .int .i64 ((lb : Int)) ∧ fr 10 = .int .i64 ((S73 : Int)) ∧ fr 11 = .slice (some ⟨b84, 0, none⟩) lb ((ys.length + 1)) ∧ fr 12 = .slice (some ⟨b96, 0, none⟩) ((xs.length + 1)) ((xs.length + 1)) ∧ fr 13 = .slice (some ⟨b107, 0, none⟩) ((((la) - (lb)) + 1)) ((((la) - (lb)) + 1)) ∧ fr 14 = .int .i64 ((J : Int) - 1) ∧ fr 15 = .int .u64 qc ∧ fr 16 = .int .u64 rc ∧ fr 94 = .int .i64 ((J : Int) - 1) ∧ fr 95 = .bool (decide (0 ≤ ((J : Int) - 1))) ∧ fr 98 = .slice (some ⟨b96, 0, none⟩) ((xs.length + 1)) ((xs.length + 1)) ∧ fr 99 = .int .i64 ((J : Int) - 1) ∧ fr 100 = .int .i64 ((lb : Int)) ∧ fr 101 = .int .i64 (((J : Int) - 1) + ((lb : Int))) ∧ fr 102 = .pointer (some ⟨b96, (((J - 1) + (lb))), none⟩) ∧ fr 103 = .int .u64 (U.getD (((J - 1) + (lb))) 0) ∧ fr 104 = .slice (some ⟨b84, 0, none⟩) lb ((ys.length + 1)) ∧ fr 105 = .int .i64 ((lb : Int)) ∧ fr 106 = .int .i64 (((lb : Int)) - 1) ∧ fr 107 = .pointer (some ⟨b84, (((lb) - 1)), none⟩) ∧ fr 108 = .int .u64 (L85.getD (((lb) - 1)) 0) ∧ fr 109 = .bool (decide ((U.getD (((J - 1) + (lb))) 0) < (L85.getD (((lb) - 1)) 0))) ∧ Below w.heap.size w wl ∧ wl.heap[b84]? = some (.cells (L85.map (Value.int .u64)).toArray 36) ∧ wl.heap[b96]? = some (.cells (U.map (Value.int .u64)).toArray 36) ∧ wl.heap[b107]? = some (.cells (O.map (Value.int .u64)).toArray 36) ∧ (qc * L85.getD (lb - 1) 0 + rc = U.getD (J - 1 + lb) 0 * 18446744073709551616 + U.getD (J - 1 + lb - 1) 0) ∧ (0 ≤ qc ∧ qc < 18446744073709551616) ∧ (0 ≤ rc ∧ rc < 18446744073709551616) ∧ (valB (2 ^ 64) U < (qc + 1) * valB (2 ^ 64) L85 * (2 ^ 64) ^ (J - 1))) (qd563.toNat) ⟨qd563, rd564, rfl, f119, f120, f121, f122, f123, f124, f125, f126, rfl, rfl, rfl, rfl, rfl, rfl, rfl, rfl, rfl, rfl, rfl, rfl, rfl, rfl, rfl, rfl, E568, H570, H569, H571, (by omega), (by omega), (by omega), (guess64 (n := lb) hUo ho89 hVz hlb2 (by omega) (by omega) (by omega) hlt hd565a (by omega) (by omega))⟩ ?_
           intro d576 fr575 w572 hI573 ih574
           obtain ⟨qc, rc, hd605, f577, f578, f579, f580, f581, f582, f583, f584, f585, f586, f587, f588, f589, f590, f591, f592, f593, f594, f595, f596, f597, f598, f599, f600, E601, H602, H603, H604, hqc, hq0, hr0, hgc⟩ := hI573
           refine rk_block ?_
           refine rk_seq ?_
           refine rk_reg ?_
           refine lw_v (.int .u64 qc) (dv_move (T rfl f585)) ?_
           refine lw_v (.slice (some ⟨b84, 0, none⟩) lb ((ys.length + 1))) (dv_move (T rfl f581)) ?_
           refine lw_v (.int .i64 ((lb : Int))) (dv_move (T rfl f579)) ?_
           refine lw_v (.int .i64 (((lb : Int)) - 2)) (dv_sub (a := (lb : Int)) (b := 2) (z := ((lb : Int)) - 2) (T rfl rfl) C (wr_i64 (by omega) (by omega))) ?_
           refine lw_v (.pointer (some ⟨b84, (((lb) - 2)), none⟩)) (dv_indexO (g := b84) (l := lb) (c := (ys.length + 1)) (i := ((lb) - 2)) (j := ((lb : Int)) - 2) us105 sz36 (T rfl rfl) (T rfl rfl) (by omega) (by first | omega | (simp; done) | (simp; omega))) ?_
           refine lw_v (.int .u64 (L85.getD (((lb) - 2)) 0)) (dv_loadW (L := L85) (v := L85.getD (((lb) - 2)) 0) agt36 (T rfl rfl) H602 (by first | omega | (simp; done) | (simp; omega)) rfl) ?_
           have hm606 := mul_pos_bd (A := 18446744073709551615) (show 0 ≤ qc by omega) (by omega) (show 0 ≤ L85.getD (((lb) - 2)) 0 by omega) (by omega)
           refine lw_e (oe_callf (vs := [.int .u64 qc, .int .u64 (L85.getD (((lb) - 2)) 0)]) co115 (ar2 (T rfl rfl) (T rfl rfl)) (mul64_ok (by omega) (by omega)) ?_)
           rintro _ w607 ⟨rfl, e608⟩
           have E609 := below_ext E601 E601.size e608
           refine lw_v (.tuple #[.int .u64 (qc * (L85.getD (((lb) - 2)) 0) / 18446744073709551616), .int .u64 (qc * (L85.getD (((lb) - 2)) 0) % 18446744073709551616)]) (dv_move (T rfl rfl)) ?_
           refine lw_v (.int .u64 (qc * (L85.getD (((lb) - 2)) 0) / 18446744073709551616)) (dv_extract (vs := #[.int .u64 (qc * (L85.getD (((lb) - 2)) 0) / 18446744073709551616), .int .u64 (qc * (L85.getD (((lb) - 2)) 0) % 18446744073709551616)]) (T rfl rfl) rfl) ?_
           refine lw_v (.int .u64 (qc * (L85.getD (((lb) - 2)) 0) % 18446744073709551616)) (dv_extract (vs := #[.int .u64 (qc * (L85.getD (((lb) - 2)) 0) / 18446744073709551616), .int .u64 (qc * (L85.getD (((lb) - 2)) 0) % 18446744073709551616)]) (T rfl rfl) rfl) ?_
           refine lw_v (.int .u64 (qc * (L85.getD (((lb) - 2)) 0) / 18446744073709551616)) (dv_assign (T rfl rfl)) ?_
           refine lw_v (.int .u64 (qc * (L85.getD (((lb) - 2)) 0) % 18446744073709551616)) (dv_assign (T rfl rfl)) ?_
           refine lw_nil ?_
           refine rk_seq ?_
           refine rk_seq ?_
           refine rk_reg ?_
           refine lw_v (.int .u64 (qc * (L85.getD (((lb) - 2)) 0) / 18446744073709551616)) (dv_move (T rfl rfl)) ?_
           refine lw_v (.int .u64 rc) (dv_move (T rfl f586)) ?_
           refine lw_v (.bool (decide ((qc * (L85.getD (((lb) - 2)) 0) / 18446744073709551616) < rc))) (dv_lss (a := qc * (L85.getD (((lb) - 2)) 0) / 18446744073709551616) (b := rc) (T rfl rfl) (T rfl rfl)) ?_
           refine lw_v (.bool (decide ((qc * (L85.getD (((lb) - 2)) 0) / 18446744073709551616) < rc))) (dv_move (T rfl rfl)) ?_
           by_cases hb610 : (qc * (L85.getD (((lb) - 2)) 0) / 18446744073709551616) < rc
           · refine lw_no (d := 145) rfl rfl (congrArg Value.bool (decide_eq_true hb610)) ?_
             refine lw_no (d := 145) rfl rfl (congrArg Value.bool (decide_eq_true hb610)) ?_
             refine lw_no (d := 145) rfl rfl (congrArg Value.bool (decide_eq_true hb610)) ?_
             refine lw_no (d := 145) rfl rfl (congrArg Value.bool (decide_eq_true hb610)) ?_
             refine lw_nou (d := 149) rfl rfl ?_
             refine lw_nou (d := 149) rfl rfl ?_
             refine lw_nou (d := 149) rfl rfl ?_
             refine lw_nou (d := 149) rfl rfl ?_
             refine lw_nou (d := 149) rfl rfl ?_
             refine lw_nou (d := 149) rfl rfl ?_
             refine lw_nou (d := 149) rfl rfl ?_
             refine lw_nou (d := 149) rfl rfl ?_
             refine lw_nou (d := 149) rfl rfl ?_
             refine lw_no (d := 145) rfl rfl (congrArg Value.bool (decide_eq_true hb610)) ?_
             refine lw_v (.bool true) (dv_pick_t (T rfl (congrArg Value.bool (decide_eq_true hb610))) C) ?_
             refine lw_nil ?_
             refine rk_ct (T rfl rfl) ?_
             refine rk_exit rfl ?_
             have H611 := (e608.blk H602)
             have H612 := (e608.blk H603)
             have H613 := (e608.blk H604)
             exact hj145 _ _ ⟨qc, f577, f578, f579, f580, f581, f582, f583, f584, f585, f587, f588, f589, f590, f591, f592, f593, f594, f595, f596, f597, f598, f599, f600, E609, H611, H612, H613, hq0, hgc⟩
           · refine lw_vy (.int .u64 (qc * (L85.getD (((lb) - 2)) 0) / 18446744073709551616)) (d := 145) rfl rfl (congrArg Value.bool (decide_eq_false hb610)) (dv_move (T rfl rfl)) ?_
             refine lw_vy (.int .u64 rc) (d := 145) rfl rfl (congrArg Value.bool (decide_eq_false hb610)) (dv_move (T rfl f586)) ?_
             refine lw_vy (.bool (decide ((qc * (L85.getD (((lb) - 2)) 0) / 18446744073709551616) = rc))) (d := 145) rfl rfl (congrArg Value.bool (decide_eq_false hb610)) (dv_eql (a := qc * (L85.getD (((lb) - 2)) 0) / 18446744073709551616) (b := rc) (T rfl rfl) (T rfl rfl)) ?_
             refine lw_vy (.bool (decide ((qc * (L85.getD (((lb) - 2)) 0) / 18446744073709551616) = rc))) (d := 145) rfl rfl (congrArg Value.bool (decide_eq_false hb610)) (dv_move (T rfl rfl)) ?_
             by_cases hb614 : (qc * (L85.getD (((lb) - 2)) 0) / 18446744073709551616) = rc
             · refine lw_vy (.int .u64 (qc * (L85.getD (((lb) - 2)) 0) % 18446744073709551616)) (d := 149) rfl rfl (congrArg Value.bool (decide_eq_true hb614)) (dv_move (T rfl rfl)) ?_
               refine lw_vy (.slice (some ⟨b96, 0, none⟩) ((xs.length + 1)) ((xs.length + 1))) (d := 149) rfl rfl (congrArg Value.bool (decide_eq_true hb614)) (dv_move (T rfl f582)) ?_
               refine lw_vy (.int .i64 ((J : Int) - 1)) (d := 149) rfl rfl (congrArg Value.bool (decide_eq_true hb614)) (dv_move (T rfl f584)) ?_
               refine lw_vy (.int .i64 ((lb : Int))) (d := 149) rfl rfl (congrArg Value.bool (decide_eq_true hb614)) (dv_move (T rfl f579)) ?_
               refine lw_vy (.int .i64 (((J : Int) - 1) + ((lb : Int)))) (d := 149) rfl rfl (congrArg Value.bool (decide_eq_true hb614)) (dv_add (a := (J : Int) - 1) (b := (lb : Int)) (z := ((J : Int) - 1) + ((lb : Int))) (T rfl rfl) (T rfl rfl) (wr_i64 (by omega) (by omega))) ?_
               refine lw_vy (.int .i64 ((((J : Int) - 1) + ((lb : Int))) - 2)) (d := 149) rfl rfl (congrArg Value.bool (decide_eq_true hb614)) (dv_sub (a := ((J : Int) - 1) + ((lb : Int))) (b := 2) (z := (((J : Int) - 1) + ((lb : Int))) - 2) (T rfl rfl) C (wr_i64 (by omega) (by omega))) ?_
               refine lw_vy (.pointer (some ⟨b96, ((((J - 1) + (lb)) - 2)), none⟩)) (d := 149) rfl rfl (congrArg Value.bool (decide_eq_true hb614)) (dv_indexO (g := b96) (l := (xs.length + 1)) (c := (xs.length + 1)) (i := (((J - 1) + (lb)) - 2)) (j := (((J : Int) - 1) + ((lb : Int))) - 2) us105 sz36 (T rfl rfl) (T rfl rfl) (by omega) (by first | omega | (simp; done) | (simp; omega))) ?_
               have H615 := (e608.blk H603)
               refine lw_vy (.int .u64 (U.getD ((((J - 1) + (lb)) - 2)) 0)) (d := 149) rfl rfl (congrArg Value.bool (decide_eq_true hb614)) (dv_loadW (L := U) (v := U.getD ((((J - 1) + (lb)) - 2)) 0) agt36 (T rfl rfl) H615 (by first | omega | (simp; done) | (simp; omega)) rfl) ?_
               refine lw_vy (.bool (decide ((qc * (L85.getD (((lb) - 2)) 0) % 18446744073709551616) ≤ (U.getD ((((J - 1) + (lb)) - 2)) 0)))) (d := 149) rfl rfl (congrArg Value.bool (decide_eq_true hb614)) (dv_leq (a := qc * (L85.getD (((lb) - 2)) 0) % 18446744073709551616) (b := U.getD ((((J - 1) + (lb)) - 2)) 0) (T rfl rfl) (T rfl rfl)) ?_
               refine lw_vy (.bool (decide ((qc * (L85.getD (((lb) - 2)) 0) % 18446744073709551616) ≤ (U.getD ((((J - 1) + (lb)) - 2)) 0)))) (d := 145) rfl rfl (congrArg Value.bool (decide_eq_false hb610)) (dv_pick_t (T rfl (congrArg Value.bool (decide_eq_true hb614))) (T rfl rfl)) ?_
               refine lw_v (.bool (decide ((qc * (L85.getD (((lb) - 2)) 0) % 18446744073709551616) ≤ (U.getD ((((J - 1) + (lb)) - 2)) 0)))) (dv_pick_f (T rfl (congrArg Value.bool (decide_eq_false hb610))) (T rfl rfl)) ?_
               refine lw_nil ?_
               by_cases hb616 : (qc * (L85.getD (((lb) - 2)) 0) % 18446744073709551616) ≤ (U.getD ((((J - 1) + (lb)) - 2)) 0)
               · refine rk_ct (T rfl (congrArg Value.bool (decide_eq_true hb616))) ?_
                 refine rk_exit rfl ?_
                 have H617 := (e608.blk H602)
                 have H618 := (e608.blk H604)
                 exact hj145 _ _ ⟨qc, f577, f578, f579, f580, f581, f582, f583, f584, f585, f587, f588, f589, f590, f591, f592, f593, f594, f595, f596, f597, f598, f599, f600, E609, H617, H615, H618, hq0, hgc⟩
               · refine rk_cf (T rfl (congrArg Value.bool (decide_eq_false hb616))) ?_
                 refine rk_skip ?_
                 refine rk_seq ?_
                 have hgt619 : rc * 18446744073709551616 + U.getD (J - 1 + lb - 2) 0 < qc * L85.getD (lb - 2) 0 := by omega
                 have hqc1 : 1 ≤ qc := pos_of_mul hq0.1 (okW.getD ho89 (by decide) (lb - 2)).1 (by omega) hgt619
                 refine rk_reg ?_
                 refine lw_v (.int .u64 qc) (dv_move (T rfl f585)) ?_
                 refine lw_v (.int .u64 (qc - 1)) (dv_sub (a := qc) (b := 1) (z := qc - 1) (T rfl rfl) C (wn_u64 (by omega) (by omega))) ?_
                 refine lw_v (.int .u64 (qc - 1)) (dv_assign (T rfl rfl)) ?_
                 refine lw_nil ?_
                 refine rk_seq ?_
                 refine rk_reg ?_
                 refine lw_v (.int .u64 0) (dv_assign C) ?_
                 refine lw_nil ?_
                 refine rk_seq ?_
                 refine rk_reg ?_
                 refine lw_v (.int .u64 rc) (dv_move (T rfl f586)) ?_
                 refine lw_v (.slice (some ⟨b84, 0, none⟩) lb ((ys.length + 1))) (dv_move (T rfl f581)) ?_
                 refine lw_v (.int .i64 ((lb : Int))) (dv_move (T rfl f579)) ?_
                 refine lw_v (.int .i64 (((lb : Int)) - 1)) (dv_sub (a := (lb : Int)) (b := 1) (z := ((lb : Int)) - 1) (T rfl rfl) C (wr_i64 (by omega) (by omega))) ?_
                 refine lw_v (.pointer (some ⟨b84, (((lb) - 1)), none⟩)) (dv_indexO (g := b84) (l := lb) (c := (ys.length + 1)) (i := ((lb) - 1)) (j := ((lb : Int)) - 1) us105 sz36 (T rfl rfl) (T rfl rfl) (by omega) (by first | omega | (simp; done) | (simp; omega))) ?_
                 have H620 := (e608.blk H602)
                 refine lw_v (.int .u64 (L85.getD (((lb) - 1)) 0)) (dv_loadW (L := L85) (v := L85.getD (((lb) - 1)) 0) agt36 (T rfl rfl) H620 (by first | omega | (simp; done) | (simp; omega)) rfl) ?_
                 refine lw_v (.tuple #[.int .u64 ((rc + (L85.getD (((lb) - 1)) 0) + 0) % 18446744073709551616), .int .u64 ((rc + (L85.getD (((lb) - 1)) 0) + 0) / 18446744073709551616)]) (dv_ext (e := add64Entry) (vs := [.int .u64 rc, .int .u64 (L85.getD (((lb) - 1)) 0), .int .u64 0]) Try.func116 rfl rfl (by kernel_rfl) (by kernel_rfl) (ar3 (T rfl rfl) (T rfl rfl) C) (run_addE rc (L85.getD (((lb) - 1)) 0) 0 (by omega) (by omega) (by omega))) ?_
                 refine lw_v (.tuple #[.int .u64 ((rc + (L85.getD (((lb) - 1)) 0) + 0) % 18446744073709551616), .int .u64 ((rc + (L85.getD (((lb) - 1)) 0) + 0) / 18446744073709551616)]) (dv_move (T rfl rfl)) ?_
                 refine lw_v (.int .u64 ((rc + (L85.getD (((lb) - 1)) 0) + 0) % 18446744073709551616)) (dv_extract (vs := #[.int .u64 ((rc + (L85.getD (((lb) - 1)) 0) + 0) % 18446744073709551616), .int .u64 ((rc + (L85.getD (((lb) - 1)) 0) + 0) / 18446744073709551616)]) (T rfl rfl) rfl) ?_
                 refine lw_v (.int .u64 ((rc + (L85.getD (((lb) - 1)) 0) + 0) / 18446744073709551616)) (dv_extract (vs := #[.int .u64 ((rc + (L85.getD (((lb) - 1)) 0) + 0) % 18446744073709551616), .int .u64 ((rc + (L85.getD (((lb) - 1)) 0) + 0) / 18446744073709551616)]) (T rfl rfl) rfl) ?_
                 refine lw_v (.int .u64 ((rc + (L85.getD (((lb) - 1)) 0) + 0) % 18446744073709551616)) (dv_assign (T rfl rfl)) ?_
                 refine lw_v (.int .u64 ((rc + (L85.getD (((lb) - 1)) 0) + 0) / 18446744073709551616)) (dv_assign (T rfl rfl)) ?_
                 refine lw_nil ?_
                 refine rk_seq ?_
                 refine rk_reg ?_
                 refine lw_v (.int .u64 ((rc + (L85.getD (((lb) - 1)) 0) + 0) / 18446744073709551616)) (dv_move (T rfl rfl)) ?_
                 refine lw_v (.bool (decide (((rc + (L85.getD (((lb) - 1)) 0) + 0) / 18446744073709551616) = 1))) (dv_eql (a := (rc + (L85.getD (((lb) - 1)) 0) + 0) / 18446744073709551616) (b := 1) (T rfl rfl) C) ?_
                 refine lw_nil ?_
                 by_cases hb621 : ((rc + (L85.getD (((lb) - 1)) 0) + 0) / 18446744073709551616) = 1
                 · refine rk_ct (T rfl (congrArg Value.bool (decide_eq_true hb621))) ?_
                   refine rk_exit rfl ?_
                   have H622 := (e608.blk H604)
                   exact hj145 _ _ ⟨qc - 1, f577, f578, f579, f580, f581, f582, f583, f584, rfl, f587, f588, f589, f590, f591, f592, f593, f594, f595, f596, f597, f598, f599, f600, E609, H620, H615, H622, (by omega), (guess_less64 (n := lb) hUo ho89 hVz hlb2 (by omega) (by omega) (by omega) hlt hqc hq0.1 hgt619)⟩
                 · refine rk_cf (T rfl (congrArg Value.bool (decide_eq_false hb621))) ?_
                   refine rk_skip ?_
                   refine rk_inBlock ?_
                   have H623 := (e608.blk H604)
                   exact ih574 (((qc - 1)).toNat) _ _ (by rw [hd605]; omega) ⟨(qc - 1), ((rc + (L85.getD (((lb) - 1)) 0) + 0) % 18446744073709551616), rfl, f577, f578, f579, f580, f581, f582, f583, f584, rfl, rfl, f587, f588, f589, f590, f591, f592, f593, f594, f595, f596, f597, f598, f599, f600, E609, H620, H615, H623, (by rw [Int.sub_mul, Int.one_mul]; omega), (by omega), (by omega), (guess_less64 (n := lb) hUo ho89 hVz hlb2 (by omega) (by omega) (by omega) hlt hqc hq0.1 hgt619)⟩
             · refine lw_no (d := 149) rfl rfl (congrArg Value.bool (decide_eq_false hb614)) ?_
               refine lw_no (d := 149) rfl rfl (congrArg Value.bool (decide_eq_false hb614)) ?_
               refine lw_no (d := 149) rfl rfl (congrArg Value.bool (decide_eq_false hb614)) ?_
               refine lw_no (d := 149) rfl rfl (congrArg Value.bool (decide_eq_false hb614)) ?_
               refine lw_no (d := 149) rfl rfl (congrArg Value.bool (decide_eq_false hb614)) ?_
               refine lw_no (d := 149) rfl rfl (congrArg Value.bool (decide_eq_false hb614)) ?_
               refine lw_no (d := 149) rfl rfl (congrArg Value.bool (decide_eq_false hb614)) ?_
               refine lw_no (d := 149) rfl rfl (congrArg Value.bool (decide_eq_false hb614)) ?_
               refine lw_no (d := 149) rfl rfl (congrArg Value.bool (decide_eq_false hb614)) ?_
               refine lw_vy (.bool false) (d := 145) rfl rfl (congrArg Value.bool (decide_eq_false hb610)) (dv_pick_f (T rfl (congrArg Value.bool (decide_eq_false hb614))) C) ?_
               refine lw_v (.bool false) (dv_pick_f (T rfl (congrArg Value.bool (decide_eq_false hb610))) (T rfl rfl)) ?_
               refine lw_nil ?_
               refine rk_cf (T rfl rfl) ?_
               refine rk_skip ?_
               refine rk_seq ?_
               have hgt624 : rc * 18446744073709551616 + U.getD (J - 1 + lb - 2) 0 < qc * L85.getD (lb - 2) 0 := by omega
               have hqc1 : 1 ≤ qc := pos_of_mul hq0.1 (okW.getD ho89 (by decide) (lb - 2)).1 (by omega) hgt624
               refine rk_reg ?_
               refine lw_v (.int .u64 qc) (dv_move (T rfl f585)) ?_
               refine lw_v (.int .u64 (qc - 1)) (dv_sub (a := qc) (b := 1) (z := qc - 1) (T rfl rfl) C (wn_u64 (by omega) (by omega))) ?_
               refine lw_v (.int .u64 (qc - 1)) (dv_assign (T rfl rfl)) ?_
               refine lw_nil ?_
               refine rk_seq ?_
               refine rk_reg ?_
               refine lw_v (.int .u64 0) (dv_assign C) ?_
               refine lw_nil ?_
               refine rk_seq ?_
               refine rk_reg ?_
               refine lw_v (.int .u64 rc) (dv_move (T rfl f586)) ?_
               refine lw_v (.slice (some ⟨b84, 0, none⟩) lb ((ys.length + 1))) (dv_move (T rfl f581)) ?_
               refine lw_v (.int .i64 ((lb : Int))) (dv_move (T rfl f579)) ?_
               refine lw_v (.int .i64 (((lb : Int)) - 1)) (dv_sub (a := (lb : Int)) (b := 1) (z := ((lb : Int)) - 1) (T rfl rfl) C (wr_i64 (by omega) (by omega))) ?_
               refine lw_v (.pointer (some ⟨b84, (((lb) - 1)), none⟩)) (dv_indexO (g := b84) (l := lb) (c := (ys.length + 1)) (i := ((lb) - 1)) (j := ((lb : Int)) - 1) us105 sz36 (T rfl rfl) (T rfl rfl) (by omega) (by first | omega | (simp; done) | (simp; omega))) ?_
               have H625 := (e608.blk H602)
               refine lw_v (.int .u64 (L85.getD (((lb) - 1)) 0)) (dv_loadW (L := L85) (v := L85.getD (((lb) - 1)) 0) agt36 (T rfl rfl) H625 (by first | omega | (simp; done) | (simp; omega)) rfl) ?_
               refine lw_v (.tuple #[.int .u64 ((rc + (L85.getD (((lb) - 1)) 0) + 0) % 18446744073709551616), .int .u64 ((rc + (L85.getD (((lb) - 1)) 0) + 0) / 18446744073709551616)]) (dv_ext (e := add64Entry) (vs := [.int .u64 rc, .int .u64 (L85.getD (((lb) - 1)) 0), .int .u64 0]) Try.func116 rfl rfl (by kernel_rfl) (by kernel_rfl) (ar3 (T rfl rfl) (T rfl rfl) C) (run_addE rc (L85.getD (((lb) - 1)) 0) 0 (by omega) (by omega) (by omega))) ?_
               refine lw_v (.tuple #[.int .u64 ((rc + (L85.getD (((lb) - 1)) 0) + 0) % 18446744073709551616), .int .u64 ((rc + (L85.getD (((lb) - 1)) 0) + 0) / 18446744073709551616)]) (dv_move (T rfl rfl)) ?_
               refine lw_v (.int .u64 ((rc + (L85.getD (((lb) - 1)) 0) + 0) % 18446744073709551616)) (dv_extract (vs := #[.int .u64 ((rc + (L85.getD (((lb) - 1)) 0) + 0) % 18446744073709551616), .int .u64 ((rc + (L85.getD (((lb) - 1)) 0) + 0) / 18446744073709551616)]) (T rfl rfl) rfl) ?_
               refine lw_v (.int .u64 ((rc + (L85.getD (((lb) - 1)) 0) + 0) / 18446744073709551616)) (dv_extract (vs := #[.int .u64 ((rc + (L85.getD (((lb) - 1)) 0) + 0) % 18446744073709551616), .int .u64 ((rc + (L85.getD (((lb) - 1)) 0) + 0) / 18446744073709551616)]) (T rfl rfl) rfl) ?_
               refine lw_v (.int .u64 ((rc + (L85.getD (((lb) - 1)) 0) + 0) % 18446744073709551616)) (dv_assign (T rfl rfl)) ?_
               refine lw_v (.int .u64 ((rc + (L85.getD (((lb) - 1)) 0) + 0) / 18446744073709551616)) (dv_assign (T rfl rfl)) ?_
               refine lw_nil ?_
               refine rk_seq ?_
               refine rk_reg ?_
               refine lw_v (.int .u64 ((rc + (L85.getD (((lb) - 1)) 0) + 0) / 18446744073709551616)) (dv_move (T rfl rfl)) ?_
               refine lw_v (.bool (decide (((rc + (L85.getD (((lb) - 1)) 0) + 0) / 18446744073709551616) = 1))) (dv_eql (a := (rc + (L85.getD (((lb) - 1)) 0) + 0) / 18446744073709551616) (b := 1) (T rfl rfl) C) ?_
               refine lw_nil ?_
               by_cases hb626 : ((rc + (L85.getD (((lb) - 1)) 0) + 0) / 18446744073709551616) = 1
               · refine rk_ct (T rfl (congrArg Value.bool (decide_eq_true hb626))) ?_
                 refine rk_exit rfl ?_
                 have H627 := (e608.blk H603)
                 have H628 := (e608.blk H604)
                 exact hj145 _ _ ⟨qc - 1, f577, f578, f579, f580, f581, f582, f583, f584, rfl, f587, f588, f589, f590, f591, f592, f593, f594, f595, f596, f597, f598, f599, f600, E609, H625, H627, H628, (by omega), (guess_less64 (n := lb) hUo ho89 hVz hlb2 (by omega) (by omega) (by omega) hlt hqc hq0.1 hgt624)⟩
               · refine rk_cf (T rfl (congrArg Value.bool (decide_eq_false hb626))) ?_
                 refine rk_skip ?_
                 refine rk_inBlock ?_
                 have H629 := (e608.blk H603)
                 have H630 := (e608.blk H604)
                 exact ih574 (((qc - 1)).toNat) _ _ (by rw [hd605]; omega) ⟨(qc - 1), ((rc + (L85.getD (((lb) - 1)) 0) + 0) % 18446744073709551616), rfl, f577, f578, f579, f580, f581, f582, f583, f584, rfl, rfl, f587, f588, f589, f590, f591, f592, f593, f594, f595, f596, f597, f598, f599, f600, E609, H625, H629, H630, (by rw [Int.sub_mul, Int.one_mul]; omega), (by omega), (by omega), (guess_less64 (n := lb) hUo ho89 hVz hlb2 (by omega) (by omega) (by omega) hlt hqc hq0.1 hgt624)⟩
         · refine rk_cf (T rfl (congrArg Value.bool (decide_eq_false hb557))) ?_
           refine rk_skip ?_
           have H631 := (d139.ext.blk H130)
           exact hj145 _ _ ⟨18446744073709551615, f119, f120, f121, f122, f123, f124, f125, f126, rfl, rfl, rfl, rfl, rfl, rfl, rfl, rfl, rfl, rfl, rfl, rfl, rfl, rfl, rfl, E140, H142, H141, H631, (by decide), (guess_top64 (by omega) hlt)⟩
     · refine rk_cf (T rfl (congrArg Value.bool (decide_eq_false hb137))) ?_
       refine rk_exit rfl ?_
       refine rk_seq ?_
       have hJ0 : J = 0 := by omega
       have hlt2 : valB (2 ^ 64) U < valB (2 ^ 64) L85 := by have h := hlt; rw [hJ0] at h; simpa using h
       have hUnn := valB_nonneg (B := 2 ^ 64) (by decide) hUo
       have hUz2 := zero_of_lt (by decide) hUo (m := lb) (by rw [hVv] at hlt2; omega)
       refine rk_reg ?_
       refine lw_v (.slice (some ⟨b96, 0, none⟩) ((xs.length + 1)) ((xs.length + 1))) (dv_move (T rfl f124)) ?_
       refine lw_v (.int .i64 ((lb : Int))) (dv_move (T rfl f121)) ?_
       refine lw_v (.slice (some ⟨b96, 0, none⟩) lb ((xs.length + 1))) (dv_sliceH (ad := some ⟨b96, 0, none⟩) (l := (xs.length + 1)) (c := (xs.length + 1)) (i := lb) (j := (lb : Int)) us105 sz36 (T rfl rfl) (T rfl rfl) (by omega) (by first | omega | (simp; done) | (simp; omega))) ?_
       refine lw_e (oe_callf (vs := [.slice (some ⟨b96, 0, none⟩) lb ((xs.length + 1))]) co139 (ar1 (T rfl rfl)) (trim_okl ((Wd.ownW H129).take lb) (by first | omega | (simp; done) | (simp; omega)) (by first | omega | (simp; done) | (simp; omega)) (by first | rfl | first | (simp; done) | (simp; omega) | omega)) ?_)
       rintro _ w632 ⟨rfl, e633⟩
       have E634 := below_ext E127 E127.size e633
       refine lw_v (.slice (some ⟨b96, 0, none⟩) ((trimL ((U.take lb))).length) ((xs.length + 1))) (dv_assign (T rfl rfl)) ?_
       refine lw_nil ?_
       refine rk_seq ?_
       refine rk_seq ?_
       refine rk_reg ?_
       refine lw_v (.slice (some ⟨b96, 0, none⟩) ((trimL ((U.take lb))).length) ((xs.length + 1))) (dv_move (T rfl rfl)) ?_
       refine lw_v (.int .i64 (((trimL ((U.take lb))).length : Int))) (dv_len (ad := some ⟨b96, 0, none⟩) (l := (trimL ((U.take lb))).length) (c := (xs.length + 1)) us105 (T rfl rfl)) ?_
       refine lw_v (.int .i64 0) (dv_move C) ?_
       refine lw_nil ?_
       refine rk_block ?_
       have htl : (trimL (U.take lb)).length ≤ lb := by have := trimL_len (U.take lb); simp at this; omega
       have hU0 : ∀ k, (trimL (U.take lb)).length ≤ k → U.getD k 0 = 0 := fun k hk => by
        by_cases h : k < lb
        · have := trim_zero (xs := U.take lb) k hk (by simp; omega)
          rwa [getD_take _ _ _ h] at this
        · exact hUz2 k (by omega)
       have H635 := (e633.blk H128)
       have H636 := (e633.blk H129)
       have H637 := (e633.blk H130)
       refine rk_loop (fun dm_ fr wl => ∃ (i3 : Nat) (M3 : List Int), dm_ = (trimL (U.take lb)).length - i3 ∧ fr 4 = .slice none 0 0 ∧ fr 5 = .slice none 0 0 ∧ fr 10 = .int .i64 ((S73 : Int)) ∧ fr 13 = .slice (some ⟨b107, 0, none⟩) ((((la) - (lb)) + 1)) ((((la) - (lb)) + 1)) ∧ fr 28 = .slice (some ⟨b96, 0, none⟩) ((trimL ((U.take lb))).length) ((xs.length + 1)) ∧ fr 289 = .int .i64 (((trimL ((U.take lb))).length : Int)) ∧ fr 290 = .int .i64 ((i3 : Int)) ∧ Below w.heap.size w wl ∧ wl.heap[b84]? = some (.cells (L85.map (Value.int .u64)).toArray 36) ∧ wl.heap[b96]? = some (.cells (M3.map (Value.int .u64)).toArray 36) ∧ wl.heap[b107]? = some (.cells (O.map (Value.int .u64)).toArray 36) ∧ (i3 ≤ (trimL (U.take lb)).length) ∧ (M3.length = U.length) ∧ (∀ k, k < U.length → M3.getD k 0 = if k < i3 then (U.getD k 0 + 18446744073709551616 * U.getD (k + 1) 0) / 2 ^ S73 % 18446744073709551616 else U.getD k 0)) ((trimL (U.take lb)).length - 0) ⟨0, U, rfl, f119, f120, f122, f125, rfl, rfl, (vi (by omega)), E634, H635, H636, H637, (Nat.zero_le _), rfl, (fun k hk => by rw [if_neg (by omega)])⟩ ?_
       intro d642 fr641 w638 hI639 ih640
       obtain ⟨i3, M3, hd654, f643, f644, f645, f646, f647, f648, f649, E650, H651, H652, H653, hi3, hM3l, hpt⟩ := hI639
       have bu3 := okW.getD hUo (by decide) i3
       have bu4 := okW.getD hUo (by decide) (i3 + 1)
       refine rk_seq ?_
       refine rk_reg ?_
       refine lw_v (.bool (decide (((i3 : Int)) < (((trimL ((U.take lb))).length : Int))))) (dv_lss (a := (i3 : Int)) (b := ((trimL ((U.take lb))).length : Int)) (T rfl f649) (T rfl f648)) ?_
       refine lw_nil ?_
       refine rk_seq ?_
       by_cases hb655 : ((i3 : Int)) < (((trimL ((U.take lb))).length : Int))
       · refine rk_ct (T rfl (congrArg Value.bool (decide_eq_true hb655))) ?_
         refine rk_skip ?_
         refine rk_seq ?_
         refine rk_block ?_
         refine rk_seq ?_
         refine rk_reg ?_
         refine lw_v (.int .i64 ((i3 : Int))) (dv_move (T rfl f649)) ?_
         refine lw_v (.int .i64 ((i3 : Int))) (dv_assign (T rfl rfl)) ?_
         refine lw_nil ?_
         refine rk_seq ?_
         refine rk_reg ?_
         refine lw_v (.int .u64 0) (dv_assign C) ?_
         refine lw_nil ?_
         refine rk_seq ?_
         refine rk_seq ?_
         have hM1 : i3 + 1 < U.length → M3.getD (i3 + 1) 0 = U.getD (i3 + 1) 0 := fun h => by rw [hpt _ h, if_neg (by omega)]
         refine rk_reg ?_
         refine lw_v (.int .i64 ((i3 : Int))) (dv_move (T rfl rfl)) ?_
         refine lw_v (.int .i64 (((i3 : Int)) + 1)) (dv_add (a := (i3 : Int)) (b := 1) (z := ((i3 : Int)) + 1) (T rfl rfl) C (wr_i64 (by omega) (by omega))) ?_
         refine lw_v (.slice (some ⟨b96, 0, none⟩) ((trimL ((U.take lb))).length) ((xs.length + 1))) (dv_move (T rfl f647)) ?_
         refine lw_v (.int .i64 (((trimL ((U.take lb))).length : Int))) (dv_len (ad := some ⟨b96, 0, none⟩) (l := (trimL ((U.take lb))).length) (c := (xs.length + 1)) us105 (T rfl rfl)) ?_
         refine lw_v (.bool (decide ((((i3 : Int)) + 1) < (((trimL ((U.take lb))).length : Int))))) (dv_lss (a := ((i3 : Int)) + 1) (b := ((trimL ((U.take lb))).length : Int)) (T rfl rfl) (T rfl rfl)) ?_
         refine lw_v (.bool (decide ((((i3 : Int)) + 1) < (((trimL ((U.take lb))).length : Int))))) (dv_move (T rfl rfl)) ?_
         by_cases hb656 : (((i3 : Int)) + 1) < (((trimL ((U.take lb))).length : Int))
         · refine lw_vy (.int .i64 ((S73 : Int))) (d := 298) rfl rfl (congrArg Value.bool (decide_eq_true hb656)) (dv_move (T rfl f645)) ?_
           refine lw_vy (.bool (decide (0 < ((S73 : Int))))) (d := 298) rfl rfl (congrArg Value.bool (decide_eq_true hb656)) (dv_gtr (a := (S73 : Int)) (b := 0) (T rfl rfl) C) ?_
           refine lw_v (.bool (decide (0 < ((S73 : Int))))) (dv_pick_t (T rfl (congrArg Value.bool (decide_eq_true hb656))) (T rfl rfl)) ?_
           refine lw_nil ?_
           refine rk_join (fun fr wl => ∃ (hw : Int), fr 4 = .slice none 0 0 ∧ fr 5 = .slice none 0 0 ∧ fr 10 = .int .i64 ((S73 : Int)) ∧ fr 13 = .slice (some ⟨b107, 0, none⟩) ((((la) - (lb)) + 1)) ((((la) - (lb)) + 1)) ∧ fr 28 = .slice (some ⟨b96, 0, none⟩) ((trimL ((U.take lb))).length) ((xs.length + 1)) ∧ fr 29 = .int .i64 ((i3 : Int)) ∧ fr 30 = .int .u64 hw ∧ fr 289 = .int .i64 (((trimL ((U.take lb))).length : Int)) ∧ fr 290 = .int .i64 ((i3 : Int)) ∧ fr 291 = .bool (decide (((i3 : Int)) < (((trimL ((U.take lb))).length : Int)))) ∧ fr 292 = .int .i64 ((i3 : Int)) ∧ fr 293 = .int .i64 ((i3 : Int)) ∧ fr 294 = .int .i64 (((i3 : Int)) + 1) ∧ fr 295 = .slice (some ⟨b96, 0, none⟩) ((trimL ((U.take lb))).length) ((xs.length + 1)) ∧ fr 296 = .int .i64 (((trimL ((U.take lb))).length : Int)) ∧ fr 297 = .bool (decide ((((i3 : Int)) + 1) < (((trimL ((U.take lb))).length : Int)))) ∧ fr 298 = .bool (decide ((((i3 : Int)) + 1) < (((trimL ((U.take lb))).length : Int)))) ∧ fr 299 = .int .i64 ((S73 : Int)) ∧ fr 300 = .bool (decide (0 < ((S73 : Int)))) ∧ fr 301 = .bool (decide (0 < ((S73 : Int)))) ∧ Below w.heap.size w wl ∧ wl.heap[b84]? = some (.cells (L85.map (Value.int .u64)).toArray 36) ∧ wl.heap[b96]? = some (.cells (M3.map (Value.int .u64)).toArray 36) ∧ wl.heap[b107]? = some (.cells (O.map (Value.int .u64)).toArray 36) ∧ (hw = U.getD (i3 + 1) 0 * 2 ^ (64 - S73) % 18446744073709551616)) ?_ (fun hj659 => ?_)
           · intro fr660 w657 hI658
             obtain ⟨hw, f661, f662, f663, f664, f665, f666, f667, f668, f669, f670, f671, f672, f673, f674, f675, f676, f677, f678, f679, f680, E681, H682, H683, H684, hhw⟩ := hI658
             have hMi : M3.getD i3 0 = U.getD i3 0 := by rw [hpt _ (by omega), if_neg (by omega)]
             have hsw := shr_word (u := U.getD i3 0) (h := U.getD (i3 + 1) 0) hs74 bu3.1 bu3.2 bu4.1
             have hmz : hw % 2 ^ (64 - S73) = 0 := by rw [hhw]; exact shl_mod (by omega)
             have hp64 : (2 : Int) ^ (64 - S73) ≤ 2 ^ 64 := pow_le_of (by decide) (by omega)
             have hwr : 0 ≤ hw ∧ hw < 18446744073709551616 := by rw [hhw]; exact ⟨Int.emod_nonneg _ (by decide), Int.emod_lt_of_pos _ (by decide)⟩
             refine rk_reg ?_
             refine lw_v (.slice (some ⟨b96, 0, none⟩) ((trimL ((U.take lb))).length) ((xs.length + 1))) (dv_move (T rfl f665)) ?_
             refine lw_v (.int .i64 ((i3 : Int))) (dv_move (T rfl f666)) ?_
             refine lw_v (.slice (some ⟨b96, 0, none⟩) ((trimL ((U.take lb))).length) ((xs.length + 1))) (dv_move (T rfl f665)) ?_
             refine lw_v (.int .i64 ((i3 : Int))) (dv_move (T rfl f666)) ?_
             refine lw_v (.pointer (some ⟨b96, i3, none⟩)) (dv_indexO (g := b96) (l := (trimL ((U.take lb))).length) (c := (xs.length + 1)) (i := i3) (j := (i3 : Int)) us105 sz36 (T rfl rfl) (T rfl rfl) (by omega) (by first | omega | (simp; done) | (simp; omega))) ?_
             refine lw_v (.int .u64 (M3.getD i3 0)) (dv_loadW (L := M3) (v := M3.getD i3 0) agt36 (T rfl rfl) H683 (by first | omega | (simp; done) | (simp; omega)) rfl) ?_
             refine lw_v (.int .i64 ((S73 : Int))) (dv_move (T rfl f663)) ?_
             refine lw_v (.int .u64 ((M3.getD i3 0) / 2 ^ S73)) (dv_shr (a := M3.getD i3 0) (b := (S73 : Int)) (z := (M3.getD i3 0) / 2 ^ S73) (T rfl rfl) (T rfl rfl) (by omega) (shr_v (K := S73) (by omega) (show _ ≤ 64 by omega))) ?_
             refine lw_v (.int .u64 hw) (dv_move (T rfl f667)) ?_
             refine lw_v (.int .u64 (((M3.getD i3 0) / 2 ^ S73) + hw)) (dv_or (a := (M3.getD i3 0) / 2 ^ S73) (b := hw) (z := ((M3.getD i3 0) / 2 ^ S73) + hw) (T rfl rfl) (T rfl rfl) (by rw [hMi]; exact (or_add (k := .u64) (a := U.getD i3 0 / 2 ^ S73) (b := hw) (i := 64 - S73) rfl hsw.2.1 hsw.2.2 hwr.1 hmz (lt64 (by omega)) (lt64 (by omega))).1)) ?_
             refine lw_v (.pointer (some ⟨b96, i3, none⟩)) (dv_indexO (g := b96) (l := (trimL ((U.take lb))).length) (c := (xs.length + 1)) (i := i3) (j := (i3 : Int)) us105 sz36 (T rfl rfl) (T rfl rfl) (by omega) (by first | omega | (simp; done) | (simp; omega))) ?_
             refine lw_e (oe_storeW (L := M3) (i := i3) (z := ((M3.getD i3 0) / 2 ^ S73) + hw) sz36 (T rfl rfl) (T rfl rfl) H683 (by first | omega | (simp; done) | (simp; omega)) ?_)
             intro w685 s686 H687
             have E688 := below_st E681 N106 s686
             refine lw_nil ?_
             refine rk_inBlock ?_
             refine rk_reg ?_
             refine lw_v (.int .i64 (((i3 : Int)) + 1)) (dv_add (a := (i3 : Int)) (b := 1) (z := ((i3 : Int)) + 1) (T rfl f669) C (wr_i64 (by omega) (by omega))) ?_
             refine lw_v (.int .i64 (((i3 : Int)) + 1)) (dv_move (T rfl rfl)) ?_
             refine lw_nil ?_
             have H689 := (s686.blk H682 (by omega))
             have H690 := (s686.blk H684 (by omega))
             exact ih640 ((trimL (U.take lb)).length - ((i3 + 1))) _ _ (by rw [hd654]; omega) ⟨(i3 + 1), (M3.set i3 (((M3.getD i3 0) / 2 ^ S73) + hw)), rfl, f661, f662, f663, f664, f665, f668, (vi (by omega)), E688, H689, H687, H690, (by omega), (by simp [hM3l]), (shr_pt (by omega) hM3l (by rw [hMi, hhw]; exact hsw.1.symm) hpt)⟩
           · by_cases hb691 : 0 < ((S73 : Int))
             · refine rk_ct (T rfl (congrArg Value.bool (decide_eq_true hb691))) ?_
               have hM1b := hM1 (by omega)
               refine rk_reg ?_
               refine lw_v (.slice (some ⟨b96, 0, none⟩) ((trimL ((U.take lb))).length) ((xs.length + 1))) (dv_move (T rfl f647)) ?_
               refine lw_v (.int .i64 ((i3 : Int))) (dv_move (T rfl rfl)) ?_
               refine lw_v (.int .i64 (((i3 : Int)) + 1)) (dv_add (a := (i3 : Int)) (b := 1) (z := ((i3 : Int)) + 1) (T rfl rfl) C (wr_i64 (by omega) (by omega))) ?_
               refine lw_v (.pointer (some ⟨b96, (((i3) + 1)), none⟩)) (dv_indexO (g := b96) (l := (trimL ((U.take lb))).length) (c := (xs.length + 1)) (i := ((i3) + 1)) (j := ((i3 : Int)) + 1) us105 sz36 (T rfl rfl) (T rfl rfl) (by omega) (by first | omega | (simp; done) | (simp; omega))) ?_
               refine lw_v (.int .u64 (M3.getD (((i3) + 1)) 0)) (dv_loadW (L := M3) (v := M3.getD (((i3) + 1)) 0) agt36 (T rfl rfl) H652 (by first | omega | (simp; done) | (simp; omega)) rfl) ?_
               refine lw_v (.int .i64 ((S73 : Int))) (dv_move (T rfl f645)) ?_
               refine lw_v (.int .i64 (64 - ((S73 : Int)))) (dv_sub (a := 64) (b := (S73 : Int)) (z := 64 - ((S73 : Int))) C (T rfl rfl) (wr_i64 (by omega) (by omega))) ?_
               refine lw_v (.int .u64 (((M3.getD (((i3) + 1)) 0) * 2 ^ ((64 - (S73)))) % 18446744073709551616)) (dv_shl (a := M3.getD (((i3) + 1)) 0) (b := 64 - ((S73 : Int))) (z := ((M3.getD (((i3) + 1)) 0) * 2 ^ ((64 - (S73)))) % 18446744073709551616) (T rfl rfl) (T rfl rfl) (by omega) (shl_w (K := (64 - (S73))) (by omega) (show _ ≤ 64 by omega) (wr_u64 _))) ?_
               refine lw_v (.int .u64 (((M3.getD (((i3) + 1)) 0) * 2 ^ ((64 - (S73)))) % 18446744073709551616)) (dv_assign (T rfl rfl)) ?_
               refine lw_nil ?_
               exact hj659 _ _ ⟨((M3.getD (((i3) + 1)) 0) * 2 ^ ((64 - (S73)))) % 18446744073709551616, f643, f644, f645, f646, f647, rfl, rfl, f648, f649, rfl, rfl, rfl, rfl, rfl, rfl, rfl, rfl, rfl, rfl, rfl, E650, H651, H652, H653, (by rw [hM1b])⟩
             · refine rk_cf (T rfl (congrArg Value.bool (decide_eq_false hb691))) ?_
               refine rk_skip ?_
               exact hj659 _ _ ⟨0, f643, f644, f645, f646, f647, rfl, rfl, f648, f649, rfl, rfl, rfl, rfl, rfl, rfl, rfl, rfl, rfl, rfl, rfl, E650, H651, H652, H653, (by first | exact hi_zero (by omega) | (rw [hU0 _ (by omega)]; simp))⟩
         · refine lw_no (d := 298) rfl rfl (congrArg Value.bool (decide_eq_false hb656)) ?_
           refine lw_no (d := 298) rfl rfl (congrArg Value.bool (decide_eq_false hb656)) ?_
           refine lw_v (.bool false) (dv_pick_f (T rfl (congrArg Value.bool (decide_eq_false hb656))) C) ?_
           refine lw_nil ?_
           refine rk_join (fun fr wl => ∃ (hw : Int), fr 4 = .slice none 0 0 ∧ fr 5 = .slice none 0 0 ∧ fr 10 = .int .i64 ((S73 : Int)) ∧ fr 13 = .slice (some ⟨b107, 0, none⟩) ((((la) - (lb)) + 1)) ((((la) - (lb)) + 1)) ∧ fr 28 = .slice (some ⟨b96, 0, none⟩) ((trimL ((U.take lb))).length) ((xs.length + 1)) ∧ fr 29 = .int .i64 ((i3 : Int)) ∧ fr 30 = .int .u64 hw ∧ fr 289 = .int .i64 (((trimL ((U.take lb))).length : Int)) ∧ fr 290 = .int .i64 ((i3 : Int)) ∧ fr 291 = .bool (decide (((i3 : Int)) < (((trimL ((U.take lb))).length : Int)))) ∧ fr 292 = .int .i64 ((i3 : Int)) ∧ fr 293 = .int .i64 ((i3 : Int)) ∧ fr 294 = .int .i64 (((i3 : Int)) + 1) ∧ fr 295 = .slice (some ⟨b96, 0, none⟩) ((trimL ((U.take lb))).length) ((xs.length + 1)) ∧ fr 296 = .int .i64 (((trimL ((U.take lb))).length : Int)) ∧ fr 297 = .bool (decide ((((i3 : Int)) + 1) < (((trimL ((U.take lb))).length : Int)))) ∧ fr 298 = .bool (decide ((((i3 : Int)) + 1) < (((trimL ((U.take lb))).length : Int)))) ∧ fr 301 = .bool false ∧ Below w.heap.size w wl ∧ wl.heap[b84]? = some (.cells (L85.map (Value.int .u64)).toArray 36) ∧ wl.heap[b96]? = some (.cells (M3.map (Value.int .u64)).toArray 36) ∧ wl.heap[b107]? = some (.cells (O.map (Value.int .u64)).toArray 36) ∧ (hw = U.getD (i3 + 1) 0 * 2 ^ (64 - S73) % 18446744073709551616)) ?_ (fun hj694 => ?_)
           · intro fr695 w692 hI693
             obtain ⟨hw, f696, f697, f698, f699, f700, f701, f702, f703, f704, f705, f706, f707, f708, f709, f710, f711, f712, f713, E714, H715, H716, H717, hhw⟩ := hI693
             have hMi : M3.getD i3 0 = U.getD i3 0 := by rw [hpt _ (by omega), if_neg (by omega)]
             have hsw := shr_word (u := U.getD i3 0) (h := U.getD (i3 + 1) 0) hs74 bu3.1 bu3.2 bu4.1
             have hmz : hw % 2 ^ (64 - S73) = 0 := by rw [hhw]; exact shl_mod (by omega)
             have hp64 : (2 : Int) ^ (64 - S73) ≤ 2 ^ 64 := pow_le_of (by decide) (by omega)
             have hwr : 0 ≤ hw ∧ hw < 18446744073709551616 := by rw [hhw]; exact ⟨Int.emod_nonneg _ (by decide), Int.emod_lt_of_pos _ (by decide)⟩
             refine rk_reg ?_
             refine lw_v (.slice (some ⟨b96, 0, none⟩) ((trimL ((U.take lb))).length) ((xs.length + 1))) (dv_move (T rfl f700)) ?_
             refine lw_v (.int .i64 ((i3 : Int))) (dv_move (T rfl f701)) ?_
             refine lw_v (.slice (some ⟨b96, 0, none⟩) ((trimL ((U.take lb))).length) ((xs.length + 1))) (dv_move (T rfl f700)) ?_
             refine lw_v (.int .i64 ((i3 : Int))) (dv_move (T rfl f701)) ?_
             refine lw_v (.pointer (some ⟨b96, i3, none⟩)) (dv_indexO (g := b96) (l := (trimL ((U.take lb))).length) (c := (xs.length + 1)) (i := i3) (j := (i3 : Int)) us105 sz36 (T rfl rfl) (T rfl rfl) (by omega) (by first | omega | (simp; done) | (simp; omega))) ?_
             refine lw_v (.int .u64 (M3.getD i3 0)) (dv_loadW (L := M3) (v := M3.getD i3 0) agt36 (T rfl rfl) H716 (by first | omega | (simp; done) | (simp; omega)) rfl) ?_
             refine lw_v (.int .i64 ((S73 : Int))) (dv_move (T rfl f698)) ?_
             refine lw_v (.int .u64 ((M3.getD i3 0) / 2 ^ S73)) (dv_shr (a := M3.getD i3 0) (b := (S73 : Int)) (z := (M3.getD i3 0) / 2 ^ S73) (T rfl rfl) (T rfl rfl) (by omega) (shr_v (K := S73) (by omega) (show _ ≤ 64 by omega))) ?_
             refine lw_v (.int .u64 hw) (dv_move (T rfl f702)) ?_
             refine lw_v (.int .u64 (((M3.getD i3 0) / 2 ^ S73) + hw)) (dv_or (a := (M3.getD i3 0) / 2 ^ S73) (b := hw) (z := ((M3.getD i3 0) / 2 ^ S73) + hw) (T rfl rfl) (T rfl rfl) (by rw [hMi]; exact (or_add (k := .u64) (a := U.getD i3 0 / 2 ^ S73) (b := hw) (i := 64 - S73) rfl hsw.2.1 hsw.2.2 hwr.1 hmz (lt64 (by omega)) (lt64 (by omega))).1)) ?_
             refine lw_v (.pointer (some ⟨b96, i3, none⟩)) (dv_indexO (g := b96) (l := (trimL ((U.take lb))).length) (c := (xs.length + 1)) (i := i3) (j := (i3 : Int)) us105 sz36 (T rfl rfl) (T rfl rfl) (by omega) (by first | omega | (simp; done) | (simp; omega))) ?_
             refine lw_e (oe_storeW (L := M3) (i := i3) (z := ((M3.getD i3 0) / 2 ^ S73) + hw) sz36 (T rfl rfl) (T rfl rfl) H716 (by first | omega | (simp; done) | (simp; omega)) ?_)
             intro w718 s719 H720
             have E721 := below_st E714 N106 s719
             refine lw_nil ?_
             refine rk_inBlock ?_
             refine rk_reg ?_
             refine lw_v (.int .i64 (((i3 : Int)) + 1)) (dv_add (a := (i3 : Int)) (b := 1) (z := ((i3 : Int)) + 1) (T rfl f704) C (wr_i64 (by omega) (by omega))) ?_
             refine lw_v (.int .i64 (((i3 : Int)) + 1)) (dv_move (T rfl rfl)) ?_
             refine lw_nil ?_
             have H722 := (s719.blk H715 (by omega))
             have H723 := (s719.blk H717 (by omega))
             exact ih640 ((trimL (U.take lb)).length - ((i3 + 1))) _ _ (by rw [hd654]; omega) ⟨(i3 + 1), (M3.set i3 (((M3.getD i3 0) / 2 ^ S73) + hw)), rfl, f696, f697, f698, f699, f700, f703, (vi (by omega)), E721, H722, H720, H723, (by omega), (by simp [hM3l]), (shr_pt (by omega) hM3l (by rw [hMi, hhw]; exact hsw.1.symm) hpt)⟩
           · refine rk_cf (T rfl rfl) ?_
             refine rk_skip ?_
             exact hj694 _ _ ⟨0, f643, f644, f645, f646, f647, rfl, rfl, f648, f649, rfl, rfl, rfl, rfl, rfl, rfl, rfl, rfl, rfl, E650, H651, H652, H653, (by first | exact hi_zero (by omega) | (rw [hU0 _ (by omega)]; simp))⟩
       · refine rk_cf (T rfl (congrArg Value.bool (decide_eq_false hb655))) ?_
         refine rk_exit rfl ?_
         refine rk_seq ?_
         have hse := shr_end hs74 hUo (t := (trimL (U.take lb)).length) (by omega) hM3l hU0 (fun k hk => by have h := hpt k hk; rwa [show i3 = (trimL (U.take lb)).length by omega] at h)
         refine rk_reg ?_
         refine lw_v (.slice (some ⟨b107, 0, none⟩) ((((la) - (lb)) + 1)) ((((la) - (lb)) + 1))) (dv_move (T rfl f646)) ?_
         refine lw_e (oe_callf (vs := [.slice (some ⟨b107, 0, none⟩) ((((la) - (lb)) + 1)) ((((la) - (lb)) + 1))]) co139 (ar1 (T rfl rfl)) (trim_okl (Wd.ownW H653) (by first | omega | (simp; done) | (simp; omega)) (by first | omega | (simp; done) | (simp; omega)) (by first | rfl | first | (simp; done) | (simp; omega) | omega)) ?_)
         rintro _ w724 ⟨rfl, e725⟩
         have E726 := below_ext E650 E650.size e725
         refine lw_v (.slice (some ⟨b96, 0, none⟩) ((trimL ((U.take lb))).length) ((xs.length + 1))) (dv_move (T rfl f647)) ?_
         have h727 := (((Wd.ownW H652).take ((trimL (U.take lb)).length)).ext e725)
         refine lw_e (oe_callf (vs := [.slice (some ⟨b96, 0, none⟩) ((trimL ((U.take lb))).length) ((xs.length + 1))]) co139 (ar1 (T rfl rfl)) (trim_okl h727 (by first | omega | (simp; done) | (simp; omega)) (by first | omega | (simp; done) | (simp; omega)) (by first | rfl | first | (simp; done) | (simp; omega) | omega)) ?_)
         rintro _ w728 ⟨rfl, e729⟩
         have E730 := below_ext E726 E726.size e729
         refine lw_v (.slice (some ⟨b107, 0, none⟩) ((trimL O).length) ((((la) - (lb)) + 1))) (dv_assign (T rfl rfl)) ?_
         refine lw_v (.slice (some ⟨b96, 0, none⟩) ((trimL ((M3.take ((trimL (U.take lb)).length)))).length) ((xs.length + 1))) (dv_assign (T rfl rfl)) ?_
         refine lw_nil ?_
         refine rk_ret Try.func135 (v := .tuple #[.slice (some ⟨b107, 0, none⟩) ((trimL O).length) ((((la) - (lb)) + 1)), .slice (some ⟨b96, 0, none⟩) ((trimL ((M3.take ((trimL (U.take lb)).length)))).length) ((xs.length + 1))]) (res2 Try.results135 (rv_tmp rfl rfl) (rv_tmp rfl rfl)) ⟨_, rfl, ?_⟩
         have h731 := ((Wd.trim ((Wd.ownW H653).ext e725)).ext e729)
         have hd := div_sc (x := x) (y := y) (q := valB (2 ^ 64) O) (r := valB (2 ^ 64) U) (two_pos S73) (by rw [← hVv]; exact hV) hUnn (by rw [← hVv]; exact hlt2)
         have ht1 := trimL_len O
         have ht2 := trimL_len ((M3.take ((trimL (U.take lb)).length)))
         simp only [List.length_cons, List.length_nil, List.length_take] at ht1 ht2
         exact ⟨_, _, _, _, _, _, rfl, E730, ⟨trimL O, rfl, (by omega), h731, trimL_ok hOo, trimL_canon _, (by rw [trimL_val]; exact hd.1.symm)⟩, ⟨trimL ((M3.take ((trimL (U.take lb)).length))), rfl, (by first | omega | (simp; omega)), (Wd.trim (h727.ext e729)), trimL_ok hse.2, trimL_canon _, (by rw [trimL_val]; exact (by rw [hse.1]; exact hd.2.1.symm))⟩⟩
end Go.Proofs.Ytmbpomcbdopgnaa.W
set_option linter.unusedVariables false
set_option linter.unusedSimpArgs false
namespace Go.Proofs.Ytmbpomcbdopgnaa.W
open Go Go.RowKit Go.Proofs.Ytmbpomcbdopgnaa.Fw
attribute [local irreducible] RunK LW AW DV OE Ct
theorem co135 : callOk Try.prog 135 = true := by kernel_rfl
theorem co143 : callOk Try.prog 143 = true := by kernel_rfl
set_option maxHeartbeats 1000000 in
theorem over_ok {w : World} {na : Bool} {Aa : Option Addr} {la ca : Nat} {x : Int} {sx : Nat} (ha : Num 64 36 .u64 w na Aa la ca x sx) {nb : Bool} {Ab : Option Addr} {lb cb : Nat} {y : Int} {sy : Nat} (hb : Num 64 36 .u64 w nb Ab lb cb y sy) (hy : y ≠ 0) (hs : sx ≤ 200000) (hs2 : sy ≤ 200000) : Ct Try.prog 126 [.agg #[.bool na, .slice Aa la ca], .agg #[.bool nb, .slice Ab lb cb]] w fun v w1 => ∃ n1 A1 l1 c1 n2 A2 l2 c2, v = .tuple #[.agg #[.bool n1, .slice A1 l1 c1], .agg #[.bool n2, .slice A2 l2 c2]] ∧ Ext w w1 ∧ Num 64 36 .u64 w1 n1 A1 l1 c1 (x / y) sx ∧ Num 64 36 .u64 w1 n2 A2 l2 c2 (x % y) sy := by
 refine ct_run (n := 45) Try.func126 rfl Try.ntmps126 rfl ?_
 have E0 : Below w.heap.size w w := Below.refl _ _
 have lha := Num.len (by decide) ha
 have lhb := Num.len (by decide) hb
 refine rk_seq ?_
 refine rk_reg ?_
 refine lw_e (oe_box (v := .agg #[.bool na, .slice Aa la ca]) (cs := #[.bool na, .slice Aa la ca]) (T rfl rfl) rfl ?_)
 intro b1 w2 n3
 have N4 : w.heap.size ≤ b1 := n3.eq ▸ E0.size
 have E5 := below_ext E0 E0.size n3.ext
 refine lw_e (oe_box (v := .agg #[.bool nb, .slice Ab lb cb]) (cs := #[.bool nb, .slice Ab lb cb]) (T rfl rfl) rfl ?_)
 intro b6 w7 n8
 have N9 : w.heap.size ≤ b6 := n8.eq ▸ E5.size
 have : b1 < b6 := n8.eq ▸ lt_of_blk n3.blk
 have E10 := below_ext E5 E5.size n8.ext
 refine lw_e (oe_alloc ze107 ?_)
 intro b11 w12 n13
 have N14 : w.heap.size ≤ b11 := n13.eq ▸ E10.size
 have : b6 < b11 := n13.eq ▸ lt_of_blk n8.blk
 have E15 := below_ext E10 E10.size n13.ext
 refine lw_e (oe_alloc ze107 ?_)
 intro b16 w17 n18
 have N19 : w.heap.size ≤ b16 := n18.eq ▸ E15.size
 have : b11 < b16 := n18.eq ▸ lt_of_blk n13.blk
 have E20 := below_ext E15 E15.size n18.ext
 refine lw_nil ?_
 refine rk_seq ?_
 refine rk_reg ?_
 refine lw_v (.pointer (some ⟨b1, 1, none⟩)) (dv_fieldAddr (a := ⟨b1, 0, none⟩) (a' := ⟨b1, 1, none⟩) fo107_1 (T rfl rfl) rfl) ?_
 have H21 := (n18.ext.blk (n13.ext.blk (n8.ext.blk n3.blk)))
 refine lw_v (.slice Aa la ca) (dv_load1 (b := b1) (o := 1) agt105 (T rfl rfl) H21 rfl) ?_
 refine lw_v (.pointer (some ⟨b6, 1, none⟩)) (dv_fieldAddr (a := ⟨b6, 0, none⟩) (a' := ⟨b6, 1, none⟩) fo107_1 (T rfl rfl) rfl) ?_
 have H22 := (n18.ext.blk (n13.ext.blk n8.blk))
 refine lw_v (.slice Ab lb cb) (dv_load1 (b := b6) (o := 1) agt105 (T rfl rfl) H22 rfl) ?_
 have h23 := ((((ha.ext n3.ext).ext n8.ext).ext n13.ext).ext n18.ext)
 have h24 := ((((hb.ext n3.ext).ext n8.ext).ext n13.ext).ext n18.ext)
 refine lw_e (oe_callf (vs := [.slice Aa la ca, .slice Ab lb cb]) co135 (ar2 (T rfl rfl) (T rfl rfl)) (divWords_ok h23.wc h24.wc (by omega) (by first | omega | (simp; done) | (simp; omega)) (by first | omega | (simp; done) | (simp; omega))) ?_)
 rintro _ w33 ⟨A25, n26, c27, A28, n29, c30, rfl, e34, h31, h32⟩
 have E35 := below_ext E20 E20.size e34
 have lh31 := Wc.len (by decide) h31 (div_sz (Wc.nonneg h23.wc) (by omega) h23.ltI)
 have lh32 := Wc.len (by decide) h32 (mod_sz (by omega) h24.ltI)
 refine lw_v (.tuple #[.slice A25 n26 c27, .slice A28 n29 c30]) (dv_move (T rfl rfl)) ?_
 refine lw_v (.slice A25 n26 c27) (dv_extract (vs := #[.slice A25 n26 c27, .slice A28 n29 c30]) (T rfl rfl) rfl) ?_
 refine lw_v (.slice A28 n29 c30) (dv_extract (vs := #[.slice A25 n26 c27, .slice A28 n29 c30]) (T rfl rfl) rfl) ?_
 refine lw_v (.slice A25 n26 c27) (dv_assign (T rfl rfl)) ?_
 refine lw_v (.slice A28 n29 c30) (dv_assign (T rfl rfl)) ?_
 refine lw_nil ?_
 refine rk_seq ?_
 have H36 := (e34.blk H21)
 have : b1 < w33.heap.size := lt_of_blk H36
 have H37 := (e34.blk H22)
 have : b6 < w33.heap.size := lt_of_blk H37
 have H38 := (e34.blk (n18.ext.blk n13.blk))
 have : b11 < w33.heap.size := lt_of_blk H38
 have H39 := (e34.blk n18.blk)
 have : b16 < w33.heap.size := lt_of_blk H39
 have : w.heap.size ≤ w33.heap.size := E35.size
 refine rk_par2 [fun vq wq_ => vq = .pointer (some ⟨b1, 0, none⟩), fun vq wq_ => vq = .bool na, fun vq wq_ => vq = .pointer (some ⟨b6, 0, none⟩), fun vq wq_ => vq = .bool nb, fun vq wq_ => vq = .bool (na != nb), fun vq wq_ => vq = .slice A25 n26 c27, fun vq wq_ => ∃ (nb91 : Bool) (n92 : Nat), vq = .agg #[.bool nb91, .slice A25 n92 c27] ∧ Num 64 36 .u64 wq_ nb91 A25 n92 c27 (sg (na != nb) (((x.natAbs : Int)) / ((y.natAbs : Int)))) sx, fun vq wq_ => vq = .pointer (some ⟨b1, 0, none⟩), fun vq wq_ => vq = .bool na, fun vq wq_ => vq = .slice A28 n29 c30, fun vq wq_ => ∃ (nb126 : Bool) (n127 : Nat), vq = .agg #[.bool nb126, .slice A28 n127 c30] ∧ Num 64 36 .u64 wq_ nb126 A28 n127 c30 (sg na (((x.natAbs : Int)) % ((y.natAbs : Int)))) sy, fun _ _ => True, fun _ _ => True, fun _ _ => True, fun _ _ => True] [⟨11, 13, 6, 107, #[.bool false, .slice none 0 0]⟩, ⟨12, 14, 10, 107, #[.bool false, .slice none 0 0]⟩] [107] mo (by kernel_rfl) (by kernel_rfl) ?_ ?_ ?_ ?_ ?_
 · intro e he e2 he2 h; simp only [List.mem_cons, List.not_mem_nil, or_false] at he he2; rcases he with rfl | rfl <;> rcases he2 with rfl | rfl <;> first | rfl | exact absurd h (by decide)
 · exact ⟨⟨fun v w w2 e h => h, fun v w w2 b cs T fz s hb hT h => h⟩, ⟨fun v w w2 e h => h, fun v w w2 b cs T fz s hb hT h => h⟩, ⟨fun v w w2 e h => h, fun v w w2 b cs T fz s hb hT h => h⟩, ⟨fun v w w2 e h => h, fun v w w2 b cs T fz s hb hT h => h⟩, ⟨fun v w w2 e h => h, fun v w w2 b cs T fz s hb hT h => h⟩, ⟨fun v w w2 e h => h, fun v w w2 b cs T fz s hb hT h => h⟩, ⟨fun v w w2 e ⟨nb91, n92, hv, h0_⟩ => ⟨nb91, n92, hv, h0_.ext e⟩, fun v w w2 b cs T fz s hb hT ⟨nb91, n92, hv, h0_⟩ => ⟨nb91, n92, hv, h0_.st s hb (ts_ne hT (by decide))⟩⟩, ⟨fun v w w2 e h => h, fun v w w2 b cs T fz s hb hT h => h⟩, ⟨fun v w w2 e h => h, fun v w w2 b cs T fz s hb hT h => h⟩, ⟨fun v w w2 e h => h, fun v w w2 b cs T fz s hb hT h => h⟩, ⟨fun v w w2 e ⟨nb126, n127, hv, h0_⟩ => ⟨nb126, n127, hv, h0_.ext e⟩, fun v w w2 b cs T fz s hb hT ⟨nb126, n127, hv, h0_⟩ => ⟨nb126, n127, hv, h0_.st s hb (ts_ne hT (by decide))⟩⟩, ⟨fun v w w2 e h => h, fun v w w2 b cs T fz s hb hT h => h⟩, ⟨fun v w w2 e h => h, fun v w w2 b cs T fz s hb hT h => h⟩, ⟨fun v w w2 e h => h, fun v w w2 b cs T fz s hb hT h => h⟩, ⟨fun v w w2 e h => h, fun v w w2 b cs T fz s hb hT h => h⟩, trivial⟩
 · refine ⟨?_, ?_, ?_, ?_, ?_, ?_, ?_, ?_, ?_, ?_, ?_, ?_, ?_, ?_, ?_, trivial⟩
   · refine .inr ⟨by kernel_rfl, ?_⟩
     intro fr41 w40 e42 hF43 hD44
     have E45 := below_ext E35 E35.size e42
     exact DV.oe (dv_fieldAddr (a := ⟨b1, 0, none⟩) (a' := ⟨b1, 0, none⟩) fo107_0 (T rfl (hF43 2 (by kernel_rfl))) rfl) ⟨Below.refl _ _, rfl⟩
   · refine .inr ⟨by kernel_rfl, ?_⟩
     intro fr47 w46 e48 hF49 hD50
     have E51 := below_ext E35 E35.size e48
     have hv52 : fr47 18 = .pointer (some ⟨b1, 0, none⟩) := hD50 0 _ (by kernel_rfl) rfl (by kernel_rfl)
     have H53 := (e48.blk H36)
     exact DV.oe (dv_load1 (b := b1) (o := 0) agt4 (T rfl hv52) H53 rfl) ⟨Below.refl _ _, rfl⟩
   · refine .inr ⟨by kernel_rfl, ?_⟩
     intro fr55 w54 e56 hF57 hD58
     have E59 := below_ext E35 E35.size e56
     exact DV.oe (dv_fieldAddr (a := ⟨b6, 0, none⟩) (a' := ⟨b6, 0, none⟩) fo107_0 (T rfl (hF57 3 (by kernel_rfl))) rfl) ⟨Below.refl _ _, rfl⟩
   · refine .inr ⟨by kernel_rfl, ?_⟩
     intro fr61 w60 e62 hF63 hD64
     have E65 := below_ext E35 E35.size e62
     have hv66 : fr61 20 = .pointer (some ⟨b6, 0, none⟩) := hD64 2 _ (by kernel_rfl) rfl (by kernel_rfl)
     have H67 := (e62.blk H37)
     exact DV.oe (dv_load1 (b := b6) (o := 0) agt4 (T rfl hv66) H67 rfl) ⟨Below.refl _ _, rfl⟩
   · refine .inr ⟨by kernel_rfl, ?_⟩
     intro fr69 w68 e70 hF71 hD72
     have E73 := below_ext E35 E35.size e70
     have hv74 : fr69 19 = .bool na := hD72 1 _ (by kernel_rfl) rfl (by kernel_rfl)
     have hv75 : fr69 21 = .bool nb := hD72 3 _ (by kernel_rfl) rfl (by kernel_rfl)
     exact DV.oe (dv_neqb (a := na) (b := nb) ub4 (T rfl hv74) (T rfl hv75)) ⟨Below.refl _ _, rfl⟩
   · refine .inr ⟨by kernel_rfl, ?_⟩
     intro fr77 w76 e78 hF79 hD80
     have E81 := below_ext E35 E35.size e78
     exact DV.oe (dv_move (T rfl (hF79 6 (by kernel_rfl)))) ⟨Below.refl _ _, rfl⟩
   · refine .inr ⟨by kernel_rfl, ?_⟩
     intro fr83 w82 e84 hF85 hD86
     have E87 := below_ext E35 E35.size e84
     have hv88 : fr83 22 = .bool (na != nb) := hD86 4 _ (by kernel_rfl) rfl (by kernel_rfl)
     have hv89 : fr83 23 = .slice A25 n26 c27 := hD86 5 _ (by kernel_rfl) rfl (by kernel_rfl)
     have h90 := (h31.ext e84)
     refine id (oe_callf (vs := [.bool (na != nb), .slice A25 n26 c27]) co114 (ar2 (T rfl hv88) (T rfl hv89)) (made_num (s := sx) (neg := na != nb) h90.ws (by first | omega | (simp; done) | (simp; omega)) (div_sz (Wc.nonneg h23.wc) (by omega) h23.ltI)) ?_)
     rintro _ w94 ⟨nb91, n92, rfl, e95, hn93⟩
     have E96 := below_ext E87 E87.size e95
     have lhn93 := Num.len (by decide) hn93
     exact ⟨e95, nb91, n92, rfl, hn93⟩
   · refine .inr ⟨by kernel_rfl, ?_⟩
     intro fr98 w97 e99 hF100 hD101
     have E102 := below_ext E35 E35.size e99
     exact DV.oe (dv_fieldAddr (a := ⟨b1, 0, none⟩) (a' := ⟨b1, 0, none⟩) fo107_0 (T rfl (hF100 2 (by kernel_rfl))) rfl) ⟨Below.refl _ _, rfl⟩
   · refine .inr ⟨by kernel_rfl, ?_⟩
     intro fr104 w103 e105 hF106 hD107
     have E108 := below_ext E35 E35.size e105
     have hv109 : fr104 25 = .pointer (some ⟨b1, 0, none⟩) := hD107 7 _ (by kernel_rfl) rfl (by kernel_rfl)
     have H110 := (e105.blk H36)
     exact DV.oe (dv_load1 (b := b1) (o := 0) agt4 (T rfl hv109) H110 rfl) ⟨Below.refl _ _, rfl⟩
   · refine .inr ⟨by kernel_rfl, ?_⟩
     intro fr112 w111 e113 hF114 hD115
     have E116 := below_ext E35 E35.size e113
     exact DV.oe (dv_move (T rfl (hF114 7 (by kernel_rfl)))) ⟨Below.refl _ _, rfl⟩
   · refine .inr ⟨by kernel_rfl, ?_⟩
     intro fr118 w117 e119 hF120 hD121
     have E122 := below_ext E35 E35.size e119
     have hv123 : fr118 26 = .bool na := hD121 8 _ (by kernel_rfl) rfl (by kernel_rfl)
     have hv124 : fr118 27 = .slice A28 n29 c30 := hD121 9 _ (by kernel_rfl) rfl (by kernel_rfl)
     have h125 := (h32.ext e119)
     refine id (oe_callf (vs := [.bool na, .slice A28 n29 c30]) co114 (ar2 (T rfl hv123) (T rfl hv124)) (made_num (s := sy) (neg := na) h125.ws (by first | omega | (simp; done) | (simp; omega)) (mod_sz (by omega) h24.ltI)) ?_)
     rintro _ w129 ⟨nb126, n127, rfl, e130, hn128⟩
     have E131 := below_ext E122 E122.size e130
     have lhn128 := Num.len (by decide) hn128
     exact ⟨e130, nb126, n127, rfl, hn128⟩
   · exact .inl (.inr ⟨by kernel_rfl, fun _ _ => trivial⟩)
   · exact .inl (.inr ⟨by kernel_rfl, fun _ _ => trivial⟩)
   · exact .inl (.inl (by kernel_rfl))
   · exact .inl (.inl (by kernel_rfl))
 · refine ⟨⟨⟨_, rfl, fun _ _ => oe_alloc ze107 fun b w hn => ⟨b, rfl, hn⟩⟩, ⟨_, rfl, ?_⟩⟩, ⟨⟨_, rfl, fun _ _ => oe_alloc ze107 fun b w hn => ⟨b, rfl, hn⟩⟩, ⟨_, rfl, ?_⟩⟩, trivial⟩
   · intro fr133 w132 b137 e134 hF135 hD136 hA138 hB139
     have E140 := below_ext E35 E35.size e134
     obtain ⟨nb141, n142, hv143, hp144⟩ : ∃ (nb91 : Bool) (n92 : Nat), fr133 24 = .agg #[.bool nb91, .slice A25 n92 c27] ∧ Num 64 36 .u64 w132 nb91 A25 n92 c27 (sg (na != nb) (((x.natAbs : Int)) / ((y.natAbs : Int)))) sx := hD136 6 _ (by kernel_rfl) rfl (by kernel_rfl)
     have lhp144 := Num.len (by decide) hp144
     refine id (oe_store (v := .agg #[.bool nb141, .slice A25 n142 c27]) (vs := [.bool nb141, .slice A25 n142 c27]) (l := [.bool nb141, .slice A25 n142 c27]) (T rfl hA138) (T rfl hv143) sz107 rfl rfl rfl hB139 rfl ?_)
     intro w145 s146 H147
     exact ⟨s146, H147.trans (congrArg (fun v : Value => some (Obj.cells v.cells 107)) (show fr133 24 = _ from hv143).symm)⟩
   · intro fr150 w149 b154 e151 hF152 hD153 hA155 hB156
     have E157 := below_ext E35 E35.size e151
     obtain ⟨nb158, n159, hv160, hp161⟩ : ∃ (nb126 : Bool) (n127 : Nat), fr150 28 = .agg #[.bool nb126, .slice A28 n127 c30] ∧ Num 64 36 .u64 w149 nb126 A28 n127 c30 (sg na (((x.natAbs : Int)) % ((y.natAbs : Int)))) sy := hD153 10 _ (by kernel_rfl) rfl (by kernel_rfl)
     have lhp161 := Num.len (by decide) hp161
     refine id (oe_store (v := .agg #[.bool nb158, .slice A28 n159 c30]) (vs := [.bool nb158, .slice A28 n159 c30]) (l := [.bool nb158, .slice A28 n159 c30]) (T rfl hA155) (T rfl hv160) sz107 rfl rfl rfl hB156 rfl ?_)
     intro w162 s163 H164
     exact ⟨s163, H164.trans (congrArg (fun v : Value => some (Obj.cells v.cells 107)) (show fr150 28 = _ from hv160).symm)⟩
 intro fr167 w166 e168 hF169 hP170 hM171 hN172
 have E173 := below_ext E35 E35.size e168
 obtain ⟨_, _, _, _, _, _, p174, _, _, _, p175, _, _, _, _, _⟩ := hP170
 obtain ⟨nb176, n177, hv178, hp179⟩ : ∃ (nb91 : Bool) (n92 : Nat), fr167 24 = .agg #[.bool nb91, .slice A25 n92 c27] ∧ Num 64 36 .u64 w166 nb91 A25 n92 c27 (sg (na != nb) (((x.natAbs : Int)) / ((y.natAbs : Int)))) sx := p174.resolve_left (nst (by kernel_rfl))
 have lhp179 := Num.len (by decide) hp179
 obtain ⟨nb180, n181, hv182, hp183⟩ : ∃ (nb126 : Bool) (n127 : Nat), fr167 28 = .agg #[.bool nb126, .slice A28 n127 c30] ∧ Num 64 36 .u64 w166 nb126 A28 n127 c30 (sg na (((x.natAbs : Int)) % ((y.natAbs : Int)))) sy := p175.resolve_left (nst (by kernel_rfl))
 have lhp183 := Num.len (by decide) hp183
 obtain ⟨⟨b184, hA185, hB186, hC187⟩, ⟨b188, hA189, hB190, hC191⟩, _⟩ := hM171
 have H192 : w166.heap[b184]? = some (.cells #[.bool nb176, .slice A25 n177 c27] 107) := hC187.trans (congrArg (fun v : Value => some (Obj.cells v.cells 107)) hv178)
 have N193 : w.heap.size ≤ b184 := by omega
 have H194 : w166.heap[b188]? = some (.cells #[.bool nb180, .slice A28 n181 c30] 107) := hC191.trans (congrArg (fun v : Value => some (Obj.cells v.cells 107)) hv182)
 have N195 : w.heap.size ≤ b188 := by omega
 have : b188 ≠ b184 := fun hh => hN172 _ (.tail _ (.head _)) _ (.head _) (by decide) (hA189.trans ((congrArg (fun q => Value.pointer (some ⟨q, 0, none⟩)) hh).trans hA185.symm))
 refine rk_seq ?_
 refine rk_seq ?_
 have hrn := hp183.neg_iff
 refine rk_reg ?_
 refine lw_v (.pointer (some ⟨b188, 0, none⟩)) (dv_fieldAddr (a := ⟨b188, 0, none⟩) (a' := ⟨b188, 0, none⟩) fo107_0 (T rfl hA189) rfl) ?_
 refine lw_v (.bool nb180) (dv_load1 (b := b188) (o := 0) agt4 (T rfl rfl) H194 rfl) ?_
 refine lw_nil ?_
 rcases Bool.eq_false_or_eq_true (nb180) with hb196 | hb196
 · refine rk_ct (T rfl (congrArg Value.bool hb196)) ?_
   refine rk_seq ?_
   refine rk_any (fun w => w.heap[b188]? = some (.cells #[.bool nb180, .slice A28 n181 c30] 107) ∧ w.heap[b6]? = some (.cells #[.bool nb, .slice Ab lb cb] 107)) [4] mo ?_
   intro w197 d198
   have E199 := below_ext E173 E173.size d198.ext
   have H200 := (d198.ext.blk H194)
   have H201 := (d198.ext.blk (e168.blk H37))
   refine aw_load 0 (.agg #[.bool nb180, .slice A28 n181 c30]) rfl (by kernel_rfl) .none ⟨H200, H201⟩ (fun _ s => dv_loads (l := [.bool nb180, .slice A28 n181 c30]) agt107 sz107 (T rfl hA189) s.1 rfl) ?_
   refine aw_load 1 (.agg #[.bool nb, .slice Ab lb cb]) rfl (by kernel_rfl) .none ⟨H200, H201⟩ (fun _ s => dv_loads (l := [.bool nb, .slice Ab lb cb]) agt107 sz107 (T rfl (hF169 3 rfl)) s.2 rfl) ?_
   have h202 := (((h24.ext e34).ext e168).ext d198.ext)
   refine aw_one 2 rfl (by kernel_rfl) .none (oe_callf (vs := [.agg #[.bool nb, .slice Ab lb cb]]) co143 (ar1 (T rfl rfl)) (nabs_ok h202 ) ?_)
   rintro _ w208 ⟨nr203, A204, n205, c206, rfl, e209, h207⟩
   have E210 := below_ext E199 E199.size e209
   have lh207 := Num.len (by decide) h207
   have H211 := (e209.blk H200)
   have H212 := (e209.blk H201)
   refine ⟨.inr ⟨H211, H212⟩, ?_⟩
   have h213 := ((hp183.ext d198.ext).ext e209)
   refine aw_one 3 rfl (by kernel_rfl) .none (oe_callf (vs := [.agg #[.bool nb180, .slice A28 n181 c30], .agg #[.bool nr203, .slice A204 n205 c206]]) co74 (ar2 (T rfl rfl) (T rfl rfl)) (plus_ok h213 h207 (by first | decide | omega) (by first | decide | omega)) ?_)
   rintro _ w219 ⟨nr214, A215, n216, c217, rfl, e220, h218⟩
   have E221 := below_ext E210 E210.size e220
   have lh218 := Num.len (by decide) h218
   have H222 := (e220.blk H211)
   have H223 := (e220.blk H212)
   refine ⟨.inr ⟨H222, H223⟩, ?_⟩
   refine aw_one 4 rfl (by kernel_rfl) .none (oe_store (v := .agg #[.bool nr214, .slice A215 n216 c217]) (vs := [.bool nr214, .slice A215 n216 c217]) (l := [.bool nr214, .slice A215 n216 c217]) (T rfl hA189) (T rfl rfl) sz107 rfl rfl rfl H222 rfl ?_)
   intro w224 s225 H226
   have E227 := below_st E221 N195 s225
   refine ⟨.inl rfl, ?_⟩
   refine aw_done (by kernel_rfl) ?_
   refine rk_seq ?_
   refine rk_reg ?_
   refine lw_v (.pointer (some ⟨b6, 0, none⟩)) (dv_fieldAddr (a := ⟨b6, 0, none⟩) (a' := ⟨b6, 0, none⟩) fo107_0 (T rfl (hF169 3 rfl)) rfl) ?_
   have H228 := (s225.blk H223 (by omega))
   refine lw_v (.bool nb) (dv_load1 (b := b6) (o := 0) agt4 (T rfl rfl) H228 rfl) ?_
   refine lw_nil ?_
   rcases Bool.eq_false_or_eq_true (nb) with hb229 | hb229
   · refine rk_ct (T rfl (congrArg Value.bool hb229)) ?_
     refine rk_any (fun w => w.heap[b184]? = some (.cells #[.bool nb176, .slice A25 n177 c27] 107)) [3] mo ?_
     intro w230 d231
     have E232 := below_ext E227 E227.size d231.ext
     have H233 := (d231.ext.blk (s225.blk (e220.blk (e209.blk (d198.ext.blk H192))) (by omega)))
     refine aw_load 0 (.agg #[.bool nb176, .slice A25 n177 c27]) rfl (by kernel_rfl) .none H233 (fun _ s => dv_loads (l := [.bool nb176, .slice A25 n177 c27]) agt107 sz107 (T rfl hA185) s rfl) ?_
     refine aw_one 1 rfl (by kernel_rfl) .none (oe_callf (vs := [.int .i64 1]) co70 (ar1 C) (whole_ok  (by omega)) ?_)
     rintro _ w239 ⟨nr234, A235, n236, c237, rfl, e240, h238⟩
     have E241 := below_ext E232 E232.size e240
     have lh238 := Num.len (by decide) h238
     have H242 := (e240.blk H233)
     refine ⟨.inr H242, ?_⟩
     have h243 := ((((((hp179.ext d198.ext).ext e209).ext e220).st s225 H222 (by decide)).ext d231.ext).ext e240)
     refine aw_one 2 rfl (by kernel_rfl) .none (oe_callf (vs := [.agg #[.bool nb176, .slice A25 n177 c27], .agg #[.bool nr234, .slice A235 n236 c237]]) co74 (ar2 (T rfl rfl) (T rfl rfl)) (plus_ok h243 h238 (by first | decide | omega) (by first | decide | omega)) ?_)
     rintro _ w249 ⟨nr244, A245, n246, c247, rfl, e250, h248⟩
     have E251 := below_ext E241 E241.size e250
     have lh248 := Num.len (by decide) h248
     have H252 := (e250.blk H242)
     refine ⟨.inr H252, ?_⟩
     refine aw_one 3 rfl (by kernel_rfl) .none (oe_store (v := .agg #[.bool nr244, .slice A245 n246 c247]) (vs := [.bool nr244, .slice A245 n246 c247]) (l := [.bool nr244, .slice A245 n246 c247]) (T rfl hA185) (T rfl rfl) sz107 rfl rfl rfl H252 rfl ?_)
     intro w253 s254 H255
     have E256 := below_st E251 N193 s254
     refine ⟨.inl rfl, ?_⟩
     refine aw_done (by kernel_rfl) ?_
     refine rk_seq ?_
     refine rk_any (fun w => w.heap[b184]? = some (.cells #[.bool nr244, .slice A245 n246 c247] 107) ∧ w.heap[b188]? = some (.cells #[.bool nr214, .slice A215 n216 c217] 107)) [3] mo ?_
     intro w257 d258
     have E259 := below_ext E256 E256.size d258.ext
     have H260 := (d258.ext.blk H255)
     have H261 := (d258.ext.blk (s254.blk (e250.blk (e240.blk (d231.ext.blk H226))) (by omega)))
     refine aw_load 0 (.agg #[.bool nr244, .slice A245 n246 c247]) rfl (by kernel_rfl) .none ⟨H260, H261⟩ (fun _ s => dv_loads (l := [.bool nr244, .slice A245 n246 c247]) agt107 sz107 (T rfl hA185) s.1 rfl) ?_
     refine aw_load 1 (.agg #[.bool nr214, .slice A215 n216 c217]) rfl (by kernel_rfl) .none ⟨H260, H261⟩ (fun _ s => dv_loads (l := [.bool nr214, .slice A215 n216 c217]) agt107 sz107 (T rfl hA189) s.2 rfl) ?_
     have H262 := (d258.ext.blk (s254.blk (e250.blk (e240.blk (d231.ext.blk (s225.blk (e220.blk (e209.blk (d198.ext.blk (e168.blk H38)))) (by omega))))) (by omega)))
     refine aw_one 2 rfl (by kernel_rfl) .none (oe_store (v := .agg #[.bool nr244, .slice A245 n246 c247]) (vs := [.bool nr244, .slice A245 n246 c247]) (l := [.bool nr244, .slice A245 n246 c247]) (T rfl (hF169 4 rfl)) (T rfl rfl) sz107 rfl rfl rfl H262 rfl ?_)
     intro w263 s264 H265
     have E266 := below_st E259 N14 s264
     have H267 := (s264.blk H260 (by omega))
     have H268 := (s264.blk H261 (by omega))
     refine ⟨.inr ⟨H267, H268⟩, ?_⟩
     have H269 := (s264.blk (d258.ext.blk (s254.blk (e250.blk (e240.blk (d231.ext.blk (s225.blk (e220.blk (e209.blk (d198.ext.blk (e168.blk H39)))) (by omega))))) (by omega))) (by omega))
     refine aw_one 3 rfl (by kernel_rfl) .none (oe_store (v := .agg #[.bool nr214, .slice A215 n216 c217]) (vs := [.bool nr214, .slice A215 n216 c217]) (l := [.bool nr214, .slice A215 n216 c217]) (T rfl (hF169 5 rfl)) (T rfl rfl) sz107 rfl rfl rfl H269 rfl ?_)
     intro w270 s271 H272
     have E273 := below_st E266 N19 s271
     refine ⟨.inl rfl, ?_⟩
     refine aw_done (by kernel_rfl) ?_
     have H274 := (s271.blk H265 (by omega))
     refine rk_ret Try.func126 (v := .tuple #[.agg #[.bool nr244, .slice A245 n246 c247], .agg #[.bool nr214, .slice A215 n216 c217]]) (res2 Try.results126 (rv_cells (l := [.bool nr244, .slice A245 n246 c247]) agt107 sz107 rfl (hF169 4 rfl) H274 rfl) (rv_cells (l := [.bool nr214, .slice A215 n216 c217]) agt107 sz107 rfl (hF169 5 rfl) H272 rfl)) ⟨_, rfl, ?_⟩
     have h275 := ((((h248.st s254 H252 (by decide)).ext d258.ext).st s264 H262 (by decide)).st s271 H269 (by decide))
     have h276 := ((((((((h218.st s225 H222 (by decide)).ext d231.ext).ext e240).ext e250).st s254 H252 (by decide)).ext d258.ext).st s264 H262 (by decide)).st s271 H269 (by decide))
     have hov := over_neg ha.neg_iff hb.neg_iff hy (by exact hrn.1 (by assumption))
     exact ⟨_, _, _, _, _, _, _, _, rfl, E273, h275.tight (by rw [← hov.1, if_pos (by assumption)]) (natAbs_div_lt ha.lt), h276.tight hov.2 (natAbs_mod_lt hb.lt hy)⟩
   · refine rk_cf (T rfl (congrArg Value.bool hb229)) ?_
     refine rk_any (fun w => w.heap[b184]? = some (.cells #[.bool nb176, .slice A25 n177 c27] 107)) [3] mo ?_
     intro w277 d278
     have E279 := below_ext E227 E227.size d278.ext
     have H280 := (d278.ext.blk (s225.blk (e220.blk (e209.blk (d198.ext.blk H192))) (by omega)))
     refine aw_load 0 (.agg #[.bool nb176, .slice A25 n177 c27]) rfl (by kernel_rfl) .none H280 (fun _ s => dv_loads (l := [.bool nb176, .slice A25 n177 c27]) agt107 sz107 (T rfl hA185) s rfl) ?_
     refine aw_one 1 rfl (by kernel_rfl) .none (oe_callf (vs := [.int .i64 1]) co70 (ar1 C) (whole_ok  (by omega)) ?_)
     rintro _ w286 ⟨nr281, A282, n283, c284, rfl, e287, h285⟩
     have E288 := below_ext E279 E279.size e287
     have lh285 := Num.len (by decide) h285
     have H289 := (e287.blk H280)
     refine ⟨.inr H289, ?_⟩
     have h290 := ((((((hp179.ext d198.ext).ext e209).ext e220).st s225 H222 (by decide)).ext d278.ext).ext e287)
     refine aw_one 2 rfl (by kernel_rfl) .none (oe_callf (vs := [.agg #[.bool nb176, .slice A25 n177 c27], .agg #[.bool nr281, .slice A282 n283 c284]]) co73 (ar2 (T rfl rfl) (T rfl rfl)) (less_ok h290 h285 (by first | decide | omega) (by first | decide | omega)) ?_)
     rintro _ w296 ⟨nr291, A292, n293, c294, rfl, e297, h295⟩
     have E298 := below_ext E288 E288.size e297
     have lh295 := Num.len (by decide) h295
     have H299 := (e297.blk H289)
     refine ⟨.inr H299, ?_⟩
     refine aw_one 3 rfl (by kernel_rfl) .none (oe_store (v := .agg #[.bool nr291, .slice A292 n293 c294]) (vs := [.bool nr291, .slice A292 n293 c294]) (l := [.bool nr291, .slice A292 n293 c294]) (T rfl hA185) (T rfl rfl) sz107 rfl rfl rfl H299 rfl ?_)
     intro w300 s301 H302
     have E303 := below_st E298 N193 s301
     refine ⟨.inl rfl, ?_⟩
     refine aw_done (by kernel_rfl) ?_
     refine rk_seq ?_
     refine rk_any (fun w => w.heap[b184]? = some (.cells #[.bool nr291, .slice A292 n293 c294] 107) ∧ w.heap[b188]? = some (.cells #[.bool nr214, .slice A215 n216 c217] 107)) [3] mo ?_
     intro w304 d305
     have E306 := below_ext E303 E303.size d305.ext
     have H307 := (d305.ext.blk H302)
     have H308 := (d305.ext.blk (s301.blk (e297.blk (e287.blk (d278.ext.blk H226))) (by omega)))
     refine aw_load 0 (.agg #[.bool nr291, .slice A292 n293 c294]) rfl (by kernel_rfl) .none ⟨H307, H308⟩ (fun _ s => dv_loads (l := [.bool nr291, .slice A292 n293 c294]) agt107 sz107 (T rfl hA185) s.1 rfl) ?_
     refine aw_load 1 (.agg #[.bool nr214, .slice A215 n216 c217]) rfl (by kernel_rfl) .none ⟨H307, H308⟩ (fun _ s => dv_loads (l := [.bool nr214, .slice A215 n216 c217]) agt107 sz107 (T rfl hA189) s.2 rfl) ?_
     have H309 := (d305.ext.blk (s301.blk (e297.blk (e287.blk (d278.ext.blk (s225.blk (e220.blk (e209.blk (d198.ext.blk (e168.blk H38)))) (by omega))))) (by omega)))
     refine aw_one 2 rfl (by kernel_rfl) .none (oe_store (v := .agg #[.bool nr291, .slice A292 n293 c294]) (vs := [.bool nr291, .slice A292 n293 c294]) (l := [.bool nr291, .slice A292 n293 c294]) (T rfl (hF169 4 rfl)) (T rfl rfl) sz107 rfl rfl rfl H309 rfl ?_)
     intro w310 s311 H312
     have E313 := below_st E306 N14 s311
     have H314 := (s311.blk H307 (by omega))
     have H315 := (s311.blk H308 (by omega))
     refine ⟨.inr ⟨H314, H315⟩, ?_⟩
     have H316 := (s311.blk (d305.ext.blk (s301.blk (e297.blk (e287.blk (d278.ext.blk (s225.blk (e220.blk (e209.blk (d198.ext.blk (e168.blk H39)))) (by omega))))) (by omega))) (by omega))
     refine aw_one 3 rfl (by kernel_rfl) .none (oe_store (v := .agg #[.bool nr214, .slice A215 n216 c217]) (vs := [.bool nr214, .slice A215 n216 c217]) (l := [.bool nr214, .slice A215 n216 c217]) (T rfl (hF169 5 rfl)) (T rfl rfl) sz107 rfl rfl rfl H316 rfl ?_)
     intro w317 s318 H319
     have E320 := below_st E313 N19 s318
     refine ⟨.inl rfl, ?_⟩
     refine aw_done (by kernel_rfl) ?_
     have H321 := (s318.blk H312 (by omega))
     refine rk_ret Try.func126 (v := .tuple #[.agg #[.bool nr291, .slice A292 n293 c294], .agg #[.bool nr214, .slice A215 n216 c217]]) (res2 Try.results126 (rv_cells (l := [.bool nr291, .slice A292 n293 c294]) agt107 sz107 rfl (hF169 4 rfl) H321 rfl) (rv_cells (l := [.bool nr214, .slice A215 n216 c217]) agt107 sz107 rfl (hF169 5 rfl) H319 rfl)) ⟨_, rfl, ?_⟩
     have h322 := ((((h295.st s301 H299 (by decide)).ext d305.ext).st s311 H309 (by decide)).st s318 H316 (by decide))
     have h323 := ((((((((h218.st s225 H222 (by decide)).ext d278.ext).ext e287).ext e297).st s301 H299 (by decide)).ext d305.ext).st s311 H309 (by decide)).st s318 H316 (by decide))
     have hov := over_neg ha.neg_iff hb.neg_iff hy (by exact hrn.1 (by assumption))
     exact ⟨_, _, _, _, _, _, _, _, rfl, E320, h322.tight (by rw [← hov.1, if_neg (by simp [*])]; omega) (natAbs_div_lt ha.lt), h323.tight hov.2 (natAbs_mod_lt hb.lt hy)⟩
 · refine rk_cf (T rfl (congrArg Value.bool hb196)) ?_
   refine rk_skip ?_
   refine rk_seq ?_
   refine rk_any (fun w => w.heap[b184]? = some (.cells #[.bool nb176, .slice A25 n177 c27] 107) ∧ w.heap[b188]? = some (.cells #[.bool nb180, .slice A28 n181 c30] 107)) [3] mo ?_
   intro w324 d325
   have E326 := below_ext E173 E173.size d325.ext
   have H327 := (d325.ext.blk H192)
   have H328 := (d325.ext.blk H194)
   refine aw_load 0 (.agg #[.bool nb176, .slice A25 n177 c27]) rfl (by kernel_rfl) .none ⟨H327, H328⟩ (fun _ s => dv_loads (l := [.bool nb176, .slice A25 n177 c27]) agt107 sz107 (T rfl hA185) s.1 rfl) ?_
   refine aw_load 1 (.agg #[.bool nb180, .slice A28 n181 c30]) rfl (by kernel_rfl) .none ⟨H327, H328⟩ (fun _ s => dv_loads (l := [.bool nb180, .slice A28 n181 c30]) agt107 sz107 (T rfl hA189) s.2 rfl) ?_
   have H329 := (d325.ext.blk (e168.blk H38))
   refine aw_one 2 rfl (by kernel_rfl) .none (oe_store (v := .agg #[.bool nb176, .slice A25 n177 c27]) (vs := [.bool nb176, .slice A25 n177 c27]) (l := [.bool nb176, .slice A25 n177 c27]) (T rfl (hF169 4 rfl)) (T rfl rfl) sz107 rfl rfl rfl H329 rfl ?_)
   intro w330 s331 H332
   have E333 := below_st E326 N14 s331
   have H334 := (s331.blk H327 (by omega))
   have H335 := (s331.blk H328 (by omega))
   refine ⟨.inr ⟨H334, H335⟩, ?_⟩
   have H336 := (s331.blk (d325.ext.blk (e168.blk H39)) (by omega))
   refine aw_one 3 rfl (by kernel_rfl) .none (oe_store (v := .agg #[.bool nb180, .slice A28 n181 c30]) (vs := [.bool nb180, .slice A28 n181 c30]) (l := [.bool nb180, .slice A28 n181 c30]) (T rfl (hF169 5 rfl)) (T rfl rfl) sz107 rfl rfl rfl H336 rfl ?_)
   intro w337 s338 H339
   have E340 := below_st E333 N19 s338
   refine ⟨.inl rfl, ?_⟩
   refine aw_done (by kernel_rfl) ?_
   have H341 := (s338.blk H332 (by omega))
   refine rk_ret Try.func126 (v := .tuple #[.agg #[.bool nb176, .slice A25 n177 c27], .agg #[.bool nb180, .slice A28 n181 c30]]) (res2 Try.results126 (rv_cells (l := [.bool nb176, .slice A25 n177 c27]) agt107 sz107 rfl (hF169 4 rfl) H341 rfl) (rv_cells (l := [.bool nb180, .slice A28 n181 c30]) agt107 sz107 rfl (hF169 5 rfl) H339 rfl)) ⟨_, rfl, ?_⟩
   have h342 := (((hp179.ext d325.ext).st s331 H329 (by decide)).st s338 H336 (by decide))
   have h343 := (((hp183.ext d325.ext).st s331 H329 (by decide)).st s338 H336 (by decide))
   have hov := over_pos ha.neg_iff hb.neg_iff hy (by exact fun hh => by have := hrn.2 hh; simp_all)
   exact ⟨_, _, _, _, _, _, _, _, rfl, E340, h342.tight hov.1 (natAbs_div_lt ha.lt), h343.tight hov.2 (natAbs_mod_lt hb.lt hy)⟩
end Go.Proofs.Ytmbpomcbdopgnaa.W
set_option linter.unusedVariables false
set_option linter.unusedSimpArgs false
namespace Go.Proofs.Ytmbpomcbdopgnaa.W
open Go Go.RowKit Go.Proofs.Ytmbpomcbdopgnaa.Fw
attribute [local irreducible] RunK LW AW DV OE Ct
theorem us172 : Try.prog.underlying 172 = some (.slice 107) := by kernel_rfl
set_option maxHeartbeats 1000000 in
theorem gcd3_ok {w : World} {bl : Nat} {na : Bool} {Aa : Option Addr} {la ca : Nat} {x : Int} {sx : Nat} (ha : Num 64 36 .u64 w na Aa la ca x sx) {nb : Bool} {Ab : Option Addr} {lb cb : Nat} {y : Int} {sy : Nat} (hb : Num 64 36 .u64 w nb Ab lb cb y sy) {nm : Bool} {Am : Option Addr} {lm cm : Nat} {z : Int} {sz : Nat} (hm : Num 64 36 .u64 w nm Am lm cm z sz) (hsx : sx ≤ 200000) (hsy : sy ≤ 200000) (hsz : sz ≤ 200000) (hL : w.heap[bl]? = some (.cells #[.bool na, .slice Aa la ca, .bool nb, .slice Ab lb cb, .bool nm, .slice Am lm cm] 107)) : Ct Try.prog 105 [.slice (some ⟨bl, 0, none⟩) 3 3] w fun v w1 => ∃ nr A' n c', v = .agg #[.bool nr, .slice A' n c'] ∧ Ext w w1 ∧ Num 64 36 .u64 w1 nr A' n c' (gI3 x y z) (max sx (max sy sz)) := by
 refine ct_run (n := 37) Try.func105 rfl Try.ntmps105 rfl ?_
 have E0 : Below w.heap.size w w := Below.refl _ _
 have lha := Num.len (by decide) ha
 have lhb := Num.len (by decide) hb
 have lhm := Num.len (by decide) hm
 refine rk_seq ?_
 refine rk_reg ?_
 refine lw_e (oe_alloc ze107 ?_)
 intro b1 w2 n3
 have N4 : w.heap.size ≤ b1 := n3.eq ▸ E0.size
 have : bl < b1 := n3.eq ▸ lt_of_blk hL
 have E5 := below_ext E0 E0.size n3.ext
 refine lw_nil ?_
 refine rk_seq ?_
 refine rk_reg ?_
 refine lw_v (.agg #[.bool false, .slice none 0 0]) (dv_build (pv := []) (l := [.bool false, .slice none 0 0]) zc107 pl107 trivial rfl) ?_
 refine lw_e (oe_alloc ze107 ?_)
 intro b6 w7 n8
 have N9 : w.heap.size ≤ b6 := n8.eq ▸ E5.size
 have : b1 < b6 := n8.eq ▸ lt_of_blk n3.blk
 have E10 := below_ext E5 E5.size n8.ext
 refine lw_e (oe_store (v := .agg #[.bool false, .slice none 0 0]) (vs := [.bool false, .slice none 0 0]) (l := [.bool false, .slice none 0 0]) (T rfl rfl) (T rfl rfl) sz107 rfl rfl rfl n8.blk rfl ?_)
 intro w11 s12 H13
 have E14 := below_st E10 N9 s12
 refine lw_nil ?_
 refine rk_seq ?_
 refine rk_seq ?_
 refine rk_reg ?_
 refine lw_v (.slice (some ⟨bl, 0, none⟩) 3 3) (dv_move (T rfl rfl)) ?_
 refine lw_v (.int .i64 3) (dv_len (ad := some ⟨bl, 0, none⟩) (l := 3) (c := 3) us172 (T rfl rfl)) ?_
 refine lw_v (.int .i64 0) (dv_move C) ?_
 refine lw_nil ?_
 refine rk_block ?_
 refine rk_unroll ?_
 refine rk_seq ?_
 refine rk_reg ?_
 refine lw_v (.bool (decide (((0 : Int) < 3 : Prop)))) (dv_lss (a := 0) (b := 3) (T rfl rfl) (T rfl rfl)) ?_
 refine lw_nil ?_
 refine rk_seq ?_
 refine rk_ct (T rfl (rfl)) ?_
 refine rk_skip ?_
 refine rk_seq ?_
 refine rk_block ?_
 refine rk_seq ?_
 refine rk_reg ?_
 refine lw_v (.pointer (some ⟨bl, 0, none⟩)) (dv_indexAddr (a := ⟨bl, 0, none⟩) (a' := ⟨bl, 0, none⟩) (l := 3) (c := 3) (j := 0) us172 sz107 (T rfl rfl) (T rfl rfl) (by decide) (by decide) rfl) ?_
 have H15 := (s12.blk (n8.ext.blk (n3.ext.blk hL)) (by omega))
 refine lw_v (.agg #[.bool na, .slice Aa la ca]) (dv_loads (l := [.bool na, .slice Aa la ca]) agt107 sz107 (T rfl rfl) H15 rfl) ?_
 refine lw_e (oe_alloc ze107 ?_)
 intro b16 w17 n18
 have N19 : w.heap.size ≤ b16 := n18.eq ▸ E14.size
 have : b6 < b16 := n18.eq ▸ lt_of_blk H13
 have E20 := below_ext E14 E14.size n18.ext
 refine lw_e (oe_store (v := .agg #[.bool na, .slice Aa la ca]) (vs := [.bool na, .slice Aa la ca]) (l := [.bool na, .slice Aa la ca]) (T rfl rfl) (T rfl rfl) sz107 rfl rfl rfl n18.blk rfl ?_)
 intro w21 s22 H23
 have E24 := below_st E20 N19 s22
 refine lw_nil ?_
 refine rk_seq ?_
 refine rk_any (fun w => w.heap[b6]? = some (.cells #[.bool false, .slice none 0 0] 107) ∧ w.heap[b16]? = some (.cells #[.bool na, .slice Aa la ca] 107)) [5] mo ?_
 intro w25 d26
 have E27 := below_ext E24 E24.size d26.ext
 have H28 := (d26.ext.blk (s22.blk (n18.ext.blk H13) (by omega)))
 have H29 := (d26.ext.blk H23)
 refine aw_pure 0 (.pointer (some ⟨b6, 1, none⟩)) rfl (by kernel_rfl) .none ⟨H28, H29⟩ (fun _ => dv_fieldAddr (a := ⟨b6, 0, none⟩) (a' := ⟨b6, 1, none⟩) fo107_1 (T rfl rfl) rfl) ?_
 refine aw_load 1 (.slice none 0 0) rfl (by kernel_rfl) .none ⟨H28, H29⟩ (fun _ s => dv_load1 (b := b6) (o := 1) agt105 (T rfl rfl) s.1 rfl) ?_
 refine aw_pure 2 (.pointer (some ⟨b16, 1, none⟩)) rfl (by kernel_rfl) .none ⟨H28, H29⟩ (fun _ => dv_fieldAddr (a := ⟨b16, 0, none⟩) (a' := ⟨b16, 1, none⟩) fo107_1 (T rfl rfl) rfl) ?_
 refine aw_load 3 (.slice Aa la ca) rfl (by kernel_rfl) .none ⟨H28, H29⟩ (fun _ s => dv_load1 (b := b16) (o := 1) agt105 (T rfl rfl) s.2 rfl) ?_
 refine aw_pure 4 (.slice none 0 0) rfl (by kernel_rfl) .none ⟨H28, H29⟩ (fun _ => dv_assign (T rfl rfl)) ?_
 refine aw_last 5 (.slice Aa la ca) rfl (by kernel_rfl) .none (fun _ => dv_assign (T rfl rfl)) ?_
 refine aw_done (by kernel_rfl) ?_
 refine rk_seq ?_
 refine rk_block ?_
 have h38 := ha.ext E27
 have H39 := (d26.ext.blk (s22.blk (n18.ext.blk H15) (by omega)))
 have H40 := (d26.ext.blk (s22.blk (n18.ext.blk (s12.blk (n8.ext.blk n3.blk) (by omega))) (by omega)))
 refine rk_loop (fun dm_ fr wl => ∃ (Ax30 : Option Addr) (lx31 cx32 : Nat) (Ay33 : Option Addr) (ly34 cy35 : Nat) (X36 Y37 : Int), dm_ = Y37.toNat ∧ fr 2 = .pointer (some ⟨b1, 0, none⟩) ∧ fr 3 = .pointer (some ⟨b6, 0, none⟩) ∧ fr 5 = .pointer (some ⟨b16, 0, none⟩) ∧ fr 6 = .slice Ax30 lx31 cx32 ∧ fr 7 = .slice Ay33 ly34 cy35 ∧ fr 11 = .slice (some ⟨bl, 0, none⟩) 3 3 ∧ fr 12 = .int .i64 3 ∧ fr 13 = .int .i64 0 ∧ fr 14 = .bool (decide (((0 : Int) < 3 : Prop))) ∧ fr 15 = .pointer (some ⟨bl, 0, none⟩) ∧ fr 16 = .agg #[.bool na, .slice Aa la ca] ∧ fr 17 = .pointer (some ⟨b6, 1, none⟩) ∧ fr 18 = .slice none 0 0 ∧ fr 19 = .pointer (some ⟨b16, 1, none⟩) ∧ fr 20 = .slice Aa la ca ∧ Below w.heap.size w wl ∧ wl.heap[bl]? = some (.cells #[.bool na, .slice Aa la ca, .bool nb, .slice Ab lb cb, .bool nm, .slice Am lm cm] 107) ∧ wl.heap[b1]? = some (.cells #[.bool false, .slice none 0 0] 107) ∧ wl.heap[b6]? = some (.cells #[.bool false, .slice none 0 0] 107) ∧ wl.heap[b16]? = some (.cells #[.bool na, .slice Aa la ca] 107) ∧ Wc 64 36 .u64 wl Ax30 lx31 cx32 X36 ∧ Wc 64 36 .u64 wl Ay33 ly34 cy35 Y37 ∧ (gI X36 Y37 = gI 0 ((x.natAbs : Int))) ∧ (X36 < 2 ^ (max sx (max sy sz))) ∧ (Y37 < 2 ^ (max sx (max sy sz)))) ((((x.natAbs : Int))).toNat) ⟨none, 0, 0, Aa, la, ca, 0, ((x.natAbs : Int)), rfl, rfl, rfl, rfl, rfl, rfl, rfl, rfl, rfl, rfl, rfl, rfl, rfl, rfl, rfl, rfl, E27, H39, H40, H28, H29, Wc.zero, h38.wc, rfl, (two_pos _), (Int.lt_of_lt_of_le h38.ltI (pow_le_of (by decide) (by omega)))⟩ ?_
 intro d45 fr44 w41 hI42 ih43
 obtain ⟨Ax30, lx31, cx32, Ay33, ly34, cy35, X36, Y37, hd68, f46, f47, f48, f49, f50, f51, f52, f53, f54, f55, f56, f57, f58, f59, f60, E61, H62, H63, H64, H65, h66, h67, hgc, hXs, hYs⟩ := hI42
 have hXp := h66.nonneg
 have hYp := h67.pos
 have hYn := h67.nonneg
 have hlx := Wc.len (by decide) h66 hXs
 have hly := Wc.len (by decide) h67 hYs
 refine rk_seq ?_
 refine rk_seq ?_
 refine rk_reg ?_
 refine lw_v (.slice Ay33 ly34 cy35) (dv_move (T rfl f50)) ?_
 refine lw_v (.int .i64 ((ly34 : Int))) (dv_len (ad := Ay33) (l := ly34) (c := cy35) us105 (T rfl rfl)) ?_
 refine lw_v (.bool (decide (0 < ((ly34 : Int))))) (dv_gtr (a := (ly34 : Int)) (b := 0) (T rfl rfl) C) ?_
 refine lw_nil ?_
 by_cases hb69 : 0 < ((ly34 : Int))
 · refine rk_ct (T rfl (congrArg Value.bool (decide_eq_true hb69))) ?_
   refine rk_skip ?_
   refine rk_block ?_
   refine rk_seq ?_
   refine rk_reg ?_
   refine lw_v (.slice Ax30 lx31 cx32) (dv_move (T rfl f49)) ?_
   refine lw_v (.slice Ay33 ly34 cy35) (dv_move (T rfl f50)) ?_
   refine lw_e (oe_callf (vs := [.slice Ax30 lx31 cx32, .slice Ay33 ly34 cy35]) co135 (ar2 (T rfl rfl) (T rfl rfl)) (divWords_ok h66 h67 (by omega) (by first | omega | (simp; done) | (simp; omega)) (by first | omega | (simp; done) | (simp; omega))) ?_)
   rintro _ w78 ⟨A70, n71, c72, A73, n74, c75, rfl, e79, h76, h77⟩
   have E80 := below_ext E61 E61.size e79
   have lh76 := Wc.len (by decide) h76 (div_sz (Wc.nonneg h66) (by omega) hXs)
   have lh77 := Wc.len (by decide) h77 (mod_sz (by omega) hYs)
   refine lw_v (.tuple #[.slice A70 n71 c72, .slice A73 n74 c75]) (dv_move (T rfl rfl)) ?_
   refine lw_v (.slice A70 n71 c72) (dv_extract (vs := #[.slice A70 n71 c72, .slice A73 n74 c75]) (T rfl rfl) rfl) ?_
   refine lw_v (.slice A73 n74 c75) (dv_extract (vs := #[.slice A70 n71 c72, .slice A73 n74 c75]) (T rfl rfl) rfl) ?_
   refine lw_v (.slice A70 n71 c72) (dv_assign (T rfl rfl)) ?_
   refine lw_v (.slice A73 n74 c75) (dv_assign (T rfl rfl)) ?_
   refine lw_nil ?_
   refine rk_reg ?_
   refine lw_v (.slice Ay33 ly34 cy35) (dv_move (T rfl f50)) ?_
   refine lw_v (.slice A73 n74 c75) (dv_move (T rfl rfl)) ?_
   obtain ⟨xs81, hl82, hc83, hw84, ho85, hk86, hv87⟩ := h77
   have H88 := (e79.blk H62)
   have : bl < w78.heap.size := lt_of_blk H88
   have H89 := (e79.blk H63)
   have : b1 < w78.heap.size := lt_of_blk H89
   have H90 := (e79.blk H64)
   have : b6 < w78.heap.size := lt_of_blk H90
   have H91 := (e79.blk H65)
   have : b16 < w78.heap.size := lt_of_blk H91
   have N92 : w.heap.size ≤ w78.heap.size := E80.size
   refine lw_e (oe_callf (vs := [.slice A73 n74 c75]) co136 (ar1 (T rfl rfl)) (clone_ok hw84 hl82 (by first | omega | (simp; done) | (simp; omega))) ?_)
   rintro _ w96 ⟨Ad93, c94, rfl, e97, hO95⟩
   have E98 := below_ext E80 E80.size e97
   refine lw_v (.slice Ay33 ly34 cy35) (dv_assign (T rfl rfl)) ?_
   refine lw_v (.slice Ad93 (xs81.length) c94) (dv_assign (T rfl rfl)) ?_
   refine lw_nil ?_
   refine rk_inBlock ?_
   have h99 := ((h67.ext e79).ext e97)
   have hml := Int.emod_lt_of_pos X36 (hYp.1 (by omega))
   have hmn := Int.emod_nonneg X36 (show Y37 ≠ 0 by omega)
   have H100 := (e97.blk H88)
   have H101 := (e97.blk H89)
   have H102 := (e97.blk H90)
   have H103 := (e97.blk H91)
   exact ih43 (((X36 % Y37)).toNat) _ _ (by rw [hd68]; omega) ⟨Ay33, ly34, cy35, Ad93, xs81.length, c94, Y37, (X36 % Y37), rfl, f46, f47, f48, rfl, rfl, f51, f52, f53, f54, f55, f56, f57, f58, f59, f60, E98, H100, H101, H102, H103, h99, ⟨xs81, rfl, hO95.cap, hO95.wd, ho85, hk86, hv87⟩, (by rw [gI_step]; exact hgc), hYs, (by omega)⟩
 · refine rk_cf (T rfl (congrArg Value.bool (decide_eq_false hb69))) ?_
   refine rk_exit rfl ?_
   have hY0 : Y37 = 0 := by omega
   rw [hY0, gI_zero] at hgc
   have hr104 : X36 = (x.natAbs : Int) := (by have h := hgc; rw [gI_zl] at h; (try simp at h); omega)
   have hw105 := Wc.eq h66 hr104
   have hq106 : (x.natAbs : Int) < 2 ^ (max sx (max sy sz)) := by rw [← hr104]; exact hXs
   refine rk_reg ?_
   refine lw_v (.slice Ax30 lx31 cx32) (dv_move (T rfl f49)) ?_
   refine lw_v (.agg #[.bool false, .slice Ax30 lx31 cx32]) (dv_build (pv := [(0, .bool false), (1, .slice Ax30 lx31 cx32)]) (l := [.bool false, .slice Ax30 lx31 cx32]) zc107 pl107 ⟨rfl, C, ⟨rfl, (T rfl rfl), trivial⟩⟩ rfl) ?_
   refine lw_e (oe_store (v := .agg #[.bool false, .slice Ax30 lx31 cx32]) (vs := [.bool false, .slice Ax30 lx31 cx32]) (l := [.bool false, .slice Ax30 lx31 cx32]) (T rfl f47) (T rfl rfl) sz107 rfl rfl rfl H64 rfl ?_)
   intro w107 s108 H109
   have E110 := below_st E61 N9 s108
   refine lw_nil ?_
   refine rk_inBlock ?_
   refine rk_reg ?_
   refine lw_v (.int .i64 1) (dv_add (a := 0) (b := 1) (z := 1) (T rfl f53) C (by decide)) ?_
   refine lw_v (.int .i64 1) (dv_move (T rfl rfl)) ?_
   refine lw_nil ?_
   refine rk_inLoop ?_
   refine rk_seq ?_
   refine rk_reg ?_
   refine lw_v (.bool (decide (((1 : Int) < 3 : Prop)))) (dv_lss (a := 1) (b := 3) (T rfl rfl) (T rfl f52)) ?_
   refine lw_nil ?_
   refine rk_seq ?_
   refine rk_ct (T rfl (rfl)) ?_
   refine rk_skip ?_
   refine rk_seq ?_
   refine rk_block ?_
   refine rk_seq ?_
   refine rk_reg ?_
   refine lw_v (.pointer (some ⟨bl, 2, none⟩)) (dv_indexAddr (a := ⟨bl, 0, none⟩) (a' := ⟨bl, 2, none⟩) (l := 3) (c := 3) (j := 1) us172 sz107 (T rfl f51) (T rfl rfl) (by decide) (by decide) rfl) ?_
   have H111 := (s108.blk H62 (by omega))
   refine lw_v (.agg #[.bool nb, .slice Ab lb cb]) (dv_loads (l := [.bool nb, .slice Ab lb cb]) agt107 sz107 (T rfl rfl) H111 rfl) ?_
   refine lw_e (oe_alloc ze107 ?_)
   intro b112 w113 n114
   have N115 : w.heap.size ≤ b112 := n114.eq ▸ E110.size
   have H116 := (s108.blk H65 (by omega))
   have : b16 < b112 := n114.eq ▸ lt_of_blk H116
   have E117 := below_ext E110 E110.size n114.ext
   refine lw_e (oe_store (v := .agg #[.bool nb, .slice Ab lb cb]) (vs := [.bool nb, .slice Ab lb cb]) (l := [.bool nb, .slice Ab lb cb]) (T rfl rfl) (T rfl rfl) sz107 rfl rfl rfl n114.blk rfl ?_)
   intro w118 s119 H120
   have E121 := below_st E117 N115 s119
   refine lw_nil ?_
   refine rk_seq ?_
   refine rk_any (fun w => w.heap[b6]? = some (.cells #[.bool false, .slice Ax30 lx31 cx32] 107) ∧ w.heap[b112]? = some (.cells #[.bool nb, .slice Ab lb cb] 107)) [5] mo ?_
   intro w122 d123
   have E124 := below_ext E121 E121.size d123.ext
   have H125 := (d123.ext.blk (s119.blk (n114.ext.blk H109) (by omega)))
   have H126 := (d123.ext.blk H120)
   refine aw_pure 0 (.pointer (some ⟨b6, 1, none⟩)) rfl (by kernel_rfl) .none ⟨H125, H126⟩ (fun _ => dv_fieldAddr (a := ⟨b6, 0, none⟩) (a' := ⟨b6, 1, none⟩) fo107_1 (T rfl f47) rfl) ?_
   refine aw_load 1 (.slice Ax30 lx31 cx32) rfl (by kernel_rfl) .none ⟨H125, H126⟩ (fun _ s => dv_load1 (b := b6) (o := 1) agt105 (T rfl rfl) s.1 rfl) ?_
   refine aw_pure 2 (.pointer (some ⟨b112, 1, none⟩)) rfl (by kernel_rfl) .none ⟨H125, H126⟩ (fun _ => dv_fieldAddr (a := ⟨b112, 0, none⟩) (a' := ⟨b112, 1, none⟩) fo107_1 (T rfl rfl) rfl) ?_
   refine aw_load 3 (.slice Ab lb cb) rfl (by kernel_rfl) .none ⟨H125, H126⟩ (fun _ s => dv_load1 (b := b112) (o := 1) agt105 (T rfl rfl) s.2 rfl) ?_
   refine aw_pure 4 (.slice Ax30 lx31 cx32) rfl (by kernel_rfl) .none ⟨H125, H126⟩ (fun _ => dv_assign (T rfl rfl)) ?_
   refine aw_last 5 (.slice Ab lb cb) rfl (by kernel_rfl) .none (fun _ => dv_assign (T rfl rfl)) ?_
   refine aw_done (by kernel_rfl) ?_
   refine rk_seq ?_
   refine rk_block ?_
   have h135 := ((((hw105.st s108 H64 (by decide)).ext n114.ext).st s119 n114.blk (by decide)).ext d123.ext)
   have h136 := hb.ext E124
   have H137 := (d123.ext.blk (s119.blk (n114.ext.blk H111) (by omega)))
   have H138 := (d123.ext.blk (s119.blk (n114.ext.blk (s108.blk H63 (by omega))) (by omega)))
   have H139 := (d123.ext.blk (s119.blk (n114.ext.blk H116) (by omega)))
   refine rk_loop (fun dm_ fr wl => ∃ (Ax127 : Option Addr) (lx128 cx129 : Nat) (Ay130 : Option Addr) (ly131 cy132 : Nat) (X133 Y134 : Int), dm_ = Y134.toNat ∧ fr 2 = .pointer (some ⟨b1, 0, none⟩) ∧ fr 3 = .pointer (some ⟨b6, 0, none⟩) ∧ fr 5 = .pointer (some ⟨b112, 0, none⟩) ∧ fr 6 = .slice Ax127 lx128 cx129 ∧ fr 7 = .slice Ay130 ly131 cy132 ∧ fr 11 = .slice (some ⟨bl, 0, none⟩) 3 3 ∧ fr 12 = .int .i64 3 ∧ fr 13 = .int .i64 1 ∧ fr 14 = .bool (decide (((1 : Int) < 3 : Prop))) ∧ fr 15 = .pointer (some ⟨bl, 2, none⟩) ∧ fr 16 = .agg #[.bool nb, .slice Ab lb cb] ∧ fr 17 = .pointer (some ⟨b6, 1, none⟩) ∧ fr 18 = .slice Ax30 lx31 cx32 ∧ fr 19 = .pointer (some ⟨b112, 1, none⟩) ∧ fr 20 = .slice Ab lb cb ∧ fr 33 = .slice Ax30 lx31 cx32 ∧ fr 34 = .agg #[.bool false, .slice Ax30 lx31 cx32] ∧ fr 35 = .int .i64 1 ∧ Below w.heap.size w wl ∧ wl.heap[bl]? = some (.cells #[.bool na, .slice Aa la ca, .bool nb, .slice Ab lb cb, .bool nm, .slice Am lm cm] 107) ∧ wl.heap[b1]? = some (.cells #[.bool false, .slice none 0 0] 107) ∧ wl.heap[b6]? = some (.cells #[.bool false, .slice Ax30 lx31 cx32] 107) ∧ wl.heap[b16]? = some (.cells #[.bool na, .slice Aa la ca] 107) ∧ wl.heap[b112]? = some (.cells #[.bool nb, .slice Ab lb cb] 107) ∧ Wc 64 36 .u64 wl Ax127 lx128 cx129 X133 ∧ Wc 64 36 .u64 wl Ay130 ly131 cy132 Y134 ∧ (gI X133 Y134 = gI ((x.natAbs : Int)) ((y.natAbs : Int))) ∧ (X133 < 2 ^ (max sx (max sy sz))) ∧ (Y134 < 2 ^ (max sx (max sy sz)))) ((((y.natAbs : Int))).toNat) ⟨Ax30, lx31, cx32, Ab, lb, cb, ((x.natAbs : Int)), ((y.natAbs : Int)), rfl, f46, f47, rfl, rfl, rfl, f51, f52, rfl, rfl, rfl, rfl, rfl, rfl, rfl, rfl, rfl, rfl, rfl, E124, H137, H138, H125, H139, H126, h135, h136.wc, rfl, hq106, (Int.lt_of_lt_of_le h136.ltI (pow_le_of (by decide) (by omega)))⟩ ?_
   intro d144 fr143 w140 hI141 ih142
   obtain ⟨Ax127, lx128, cx129, Ay130, ly131, cy132, X133, Y134, hd171, f145, f146, f147, f148, f149, f150, f151, f152, f153, f154, f155, f156, f157, f158, f159, f160, f161, f162, E163, H164, H165, H166, H167, H168, h169, h170, hgc, hXs, hYs⟩ := hI141
   have hXp := h169.nonneg
   have hYp := h170.pos
   have hYn := h170.nonneg
   have hlx := Wc.len (by decide) h169 hXs
   have hly := Wc.len (by decide) h170 hYs
   refine rk_seq ?_
   refine rk_seq ?_
   refine rk_reg ?_
   refine lw_v (.slice Ay130 ly131 cy132) (dv_move (T rfl f149)) ?_
   refine lw_v (.int .i64 ((ly131 : Int))) (dv_len (ad := Ay130) (l := ly131) (c := cy132) us105 (T rfl rfl)) ?_
   refine lw_v (.bool (decide (0 < ((ly131 : Int))))) (dv_gtr (a := (ly131 : Int)) (b := 0) (T rfl rfl) C) ?_
   refine lw_nil ?_
   by_cases hb172 : 0 < ((ly131 : Int))
   · refine rk_ct (T rfl (congrArg Value.bool (decide_eq_true hb172))) ?_
     refine rk_skip ?_
     refine rk_block ?_
     refine rk_seq ?_
     refine rk_reg ?_
     refine lw_v (.slice Ax127 lx128 cx129) (dv_move (T rfl f148)) ?_
     refine lw_v (.slice Ay130 ly131 cy132) (dv_move (T rfl f149)) ?_
     refine lw_e (oe_callf (vs := [.slice Ax127 lx128 cx129, .slice Ay130 ly131 cy132]) co135 (ar2 (T rfl rfl) (T rfl rfl)) (divWords_ok h169 h170 (by omega) (by first | omega | (simp; done) | (simp; omega)) (by first | omega | (simp; done) | (simp; omega))) ?_)
     rintro _ w181 ⟨A173, n174, c175, A176, n177, c178, rfl, e182, h179, h180⟩
     have E183 := below_ext E163 E163.size e182
     have lh179 := Wc.len (by decide) h179 (div_sz (Wc.nonneg h169) (by omega) hXs)
     have lh180 := Wc.len (by decide) h180 (mod_sz (by omega) hYs)
     refine lw_v (.tuple #[.slice A173 n174 c175, .slice A176 n177 c178]) (dv_move (T rfl rfl)) ?_
     refine lw_v (.slice A173 n174 c175) (dv_extract (vs := #[.slice A173 n174 c175, .slice A176 n177 c178]) (T rfl rfl) rfl) ?_
     refine lw_v (.slice A176 n177 c178) (dv_extract (vs := #[.slice A173 n174 c175, .slice A176 n177 c178]) (T rfl rfl) rfl) ?_
     refine lw_v (.slice A173 n174 c175) (dv_assign (T rfl rfl)) ?_
     refine lw_v (.slice A176 n177 c178) (dv_assign (T rfl rfl)) ?_
     refine lw_nil ?_
     refine rk_reg ?_
     refine lw_v (.slice Ay130 ly131 cy132) (dv_move (T rfl f149)) ?_
     refine lw_v (.slice A176 n177 c178) (dv_move (T rfl rfl)) ?_
     obtain ⟨xs184, hl185, hc186, hw187, ho188, hk189, hv190⟩ := h180
     have H191 := (e182.blk H164)
     have : bl < w181.heap.size := lt_of_blk H191
     have H192 := (e182.blk H165)
     have : b1 < w181.heap.size := lt_of_blk H192
     have H193 := (e182.blk H166)
     have : b6 < w181.heap.size := lt_of_blk H193
     have H194 := (e182.blk H167)
     have : b16 < w181.heap.size := lt_of_blk H194
     have H195 := (e182.blk H168)
     have : b112 < w181.heap.size := lt_of_blk H195
     have N196 : w.heap.size ≤ w181.heap.size := E183.size
     refine lw_e (oe_callf (vs := [.slice A176 n177 c178]) co136 (ar1 (T rfl rfl)) (clone_ok hw187 hl185 (by first | omega | (simp; done) | (simp; omega))) ?_)
     rintro _ w200 ⟨Ad197, c198, rfl, e201, hO199⟩
     have E202 := below_ext E183 E183.size e201
     refine lw_v (.slice Ay130 ly131 cy132) (dv_assign (T rfl rfl)) ?_
     refine lw_v (.slice Ad197 (xs184.length) c198) (dv_assign (T rfl rfl)) ?_
     refine lw_nil ?_
     refine rk_inBlock ?_
     have h203 := ((h170.ext e182).ext e201)
     have hml := Int.emod_lt_of_pos X133 (hYp.1 (by omega))
     have hmn := Int.emod_nonneg X133 (show Y134 ≠ 0 by omega)
     have H204 := (e201.blk H191)
     have H205 := (e201.blk H192)
     have H206 := (e201.blk H193)
     have H207 := (e201.blk H194)
     have H208 := (e201.blk H195)
     exact ih142 (((X133 % Y134)).toNat) _ _ (by rw [hd171]; omega) ⟨Ay130, ly131, cy132, Ad197, xs184.length, c198, Y134, (X133 % Y134), rfl, f145, f146, f147, rfl, rfl, f150, f151, f152, f153, f154, f155, f156, f157, f158, f159, f160, f161, f162, E202, H204, H205, H206, H207, H208, h203, ⟨xs184, rfl, hO199.cap, hO199.wd, ho188, hk189, hv190⟩, (by rw [gI_step]; exact hgc), hYs, (by omega)⟩
   · refine rk_cf (T rfl (congrArg Value.bool (decide_eq_false hb172))) ?_
     refine rk_exit rfl ?_
     have hY0 : Y134 = 0 := by omega
     rw [hY0, gI_zero] at hgc
     have hr209 : X133 = gI x y := (by have h := hgc; rw [gI_abs] at h; (try simp at h); omega)
     have hw210 := Wc.eq h169 hr209
     have hq211 : gI x y < 2 ^ (max sx (max sy sz)) := by rw [← hr209]; exact hXs
     refine rk_reg ?_
     refine lw_v (.slice Ax127 lx128 cx129) (dv_move (T rfl f148)) ?_
     refine lw_v (.agg #[.bool false, .slice Ax127 lx128 cx129]) (dv_build (pv := [(0, .bool false), (1, .slice Ax127 lx128 cx129)]) (l := [.bool false, .slice Ax127 lx128 cx129]) zc107 pl107 ⟨rfl, C, ⟨rfl, (T rfl rfl), trivial⟩⟩ rfl) ?_
     refine lw_e (oe_store (v := .agg #[.bool false, .slice Ax127 lx128 cx129]) (vs := [.bool false, .slice Ax127 lx128 cx129]) (l := [.bool false, .slice Ax127 lx128 cx129]) (T rfl f146) (T rfl rfl) sz107 rfl rfl rfl H166 rfl ?_)
     intro w212 s213 H214
     have E215 := below_st E163 N9 s213
     refine lw_nil ?_
     refine rk_inBlock ?_
     refine rk_reg ?_
     refine lw_v (.int .i64 2) (dv_add (a := 1) (b := 1) (z := 2) (T rfl f152) C (by decide)) ?_
     refine lw_v (.int .i64 2) (dv_move (T rfl rfl)) ?_
     refine lw_nil ?_
     refine rk_inLoop ?_
     refine rk_seq ?_
     refine rk_reg ?_
     refine lw_v (.bool (decide (((2 : Int) < 3 : Prop)))) (dv_lss (a := 2) (b := 3) (T rfl rfl) (T rfl f151)) ?_
     refine lw_nil ?_
     refine rk_seq ?_
     refine rk_ct (T rfl (rfl)) ?_
     refine rk_skip ?_
     refine rk_seq ?_
     refine rk_block ?_
     refine rk_seq ?_
     refine rk_reg ?_
     refine lw_v (.pointer (some ⟨bl, 4, none⟩)) (dv_indexAddr (a := ⟨bl, 0, none⟩) (a' := ⟨bl, 4, none⟩) (l := 3) (c := 3) (j := 2) us172 sz107 (T rfl f150) (T rfl rfl) (by decide) (by decide) rfl) ?_
     have H216 := (s213.blk H164 (by omega))
     refine lw_v (.agg #[.bool nm, .slice Am lm cm]) (dv_loads (l := [.bool nm, .slice Am lm cm]) agt107 sz107 (T rfl rfl) H216 rfl) ?_
     refine lw_e (oe_alloc ze107 ?_)
     intro b217 w218 n219
     have N220 : w.heap.size ≤ b217 := n219.eq ▸ E215.size
     have H221 := (s213.blk H168 (by omega))
     have : b112 < b217 := n219.eq ▸ lt_of_blk H221
     have E222 := below_ext E215 E215.size n219.ext
     refine lw_e (oe_store (v := .agg #[.bool nm, .slice Am lm cm]) (vs := [.bool nm, .slice Am lm cm]) (l := [.bool nm, .slice Am lm cm]) (T rfl rfl) (T rfl rfl) sz107 rfl rfl rfl n219.blk rfl ?_)
     intro w223 s224 H225
     have E226 := below_st E222 N220 s224
     refine lw_nil ?_
     refine rk_seq ?_
     refine rk_any (fun w => w.heap[b6]? = some (.cells #[.bool false, .slice Ax127 lx128 cx129] 107) ∧ w.heap[b217]? = some (.cells #[.bool nm, .slice Am lm cm] 107)) [5] mo ?_
     intro w227 d228
     have E229 := below_ext E226 E226.size d228.ext
     have H230 := (d228.ext.blk (s224.blk (n219.ext.blk H214) (by omega)))
     have H231 := (d228.ext.blk H225)
     refine aw_pure 0 (.pointer (some ⟨b6, 1, none⟩)) rfl (by kernel_rfl) .none ⟨H230, H231⟩ (fun _ => dv_fieldAddr (a := ⟨b6, 0, none⟩) (a' := ⟨b6, 1, none⟩) fo107_1 (T rfl f146) rfl) ?_
     refine aw_load 1 (.slice Ax127 lx128 cx129) rfl (by kernel_rfl) .none ⟨H230, H231⟩ (fun _ s => dv_load1 (b := b6) (o := 1) agt105 (T rfl rfl) s.1 rfl) ?_
     refine aw_pure 2 (.pointer (some ⟨b217, 1, none⟩)) rfl (by kernel_rfl) .none ⟨H230, H231⟩ (fun _ => dv_fieldAddr (a := ⟨b217, 0, none⟩) (a' := ⟨b217, 1, none⟩) fo107_1 (T rfl rfl) rfl) ?_
     refine aw_load 3 (.slice Am lm cm) rfl (by kernel_rfl) .none ⟨H230, H231⟩ (fun _ s => dv_load1 (b := b217) (o := 1) agt105 (T rfl rfl) s.2 rfl) ?_
     refine aw_pure 4 (.slice Ax127 lx128 cx129) rfl (by kernel_rfl) .none ⟨H230, H231⟩ (fun _ => dv_assign (T rfl rfl)) ?_
     refine aw_last 5 (.slice Am lm cm) rfl (by kernel_rfl) .none (fun _ => dv_assign (T rfl rfl)) ?_
     refine aw_done (by kernel_rfl) ?_
     refine rk_seq ?_
     refine rk_block ?_
     have h240 := ((((hw210.st s213 H166 (by decide)).ext n219.ext).st s224 n219.blk (by decide)).ext d228.ext)
     have h241 := hm.ext E229
     have H242 := (d228.ext.blk (s224.blk (n219.ext.blk H216) (by omega)))
     have H243 := (d228.ext.blk (s224.blk (n219.ext.blk (s213.blk H165 (by omega))) (by omega)))
     have H244 := (d228.ext.blk (s224.blk (n219.ext.blk (s213.blk H167 (by omega))) (by omega)))
     have H245 := (d228.ext.blk (s224.blk (n219.ext.blk H221) (by omega)))
     refine rk_loop (fun dm_ fr wl => ∃ (Ax232 : Option Addr) (lx233 cx234 : Nat) (Ay235 : Option Addr) (ly236 cy237 : Nat) (X238 Y239 : Int), dm_ = Y239.toNat ∧ fr 2 = .pointer (some ⟨b1, 0, none⟩) ∧ fr 3 = .pointer (some ⟨b6, 0, none⟩) ∧ fr 5 = .pointer (some ⟨b217, 0, none⟩) ∧ fr 6 = .slice Ax232 lx233 cx234 ∧ fr 7 = .slice Ay235 ly236 cy237 ∧ fr 11 = .slice (some ⟨bl, 0, none⟩) 3 3 ∧ fr 12 = .int .i64 3 ∧ fr 13 = .int .i64 2 ∧ fr 14 = .bool (decide (((2 : Int) < 3 : Prop))) ∧ fr 15 = .pointer (some ⟨bl, 4, none⟩) ∧ fr 16 = .agg #[.bool nm, .slice Am lm cm] ∧ fr 17 = .pointer (some ⟨b6, 1, none⟩) ∧ fr 18 = .slice Ax127 lx128 cx129 ∧ fr 19 = .pointer (some ⟨b217, 1, none⟩) ∧ fr 20 = .slice Am lm cm ∧ fr 33 = .slice Ax127 lx128 cx129 ∧ fr 34 = .agg #[.bool false, .slice Ax127 lx128 cx129] ∧ fr 35 = .int .i64 2 ∧ Below w.heap.size w wl ∧ wl.heap[bl]? = some (.cells #[.bool na, .slice Aa la ca, .bool nb, .slice Ab lb cb, .bool nm, .slice Am lm cm] 107) ∧ wl.heap[b1]? = some (.cells #[.bool false, .slice none 0 0] 107) ∧ wl.heap[b6]? = some (.cells #[.bool false, .slice Ax127 lx128 cx129] 107) ∧ wl.heap[b16]? = some (.cells #[.bool na, .slice Aa la ca] 107) ∧ wl.heap[b112]? = some (.cells #[.bool nb, .slice Ab lb cb] 107) ∧ wl.heap[b217]? = some (.cells #[.bool nm, .slice Am lm cm] 107) ∧ Wc 64 36 .u64 wl Ax232 lx233 cx234 X238 ∧ Wc 64 36 .u64 wl Ay235 ly236 cy237 Y239 ∧ (gI X238 Y239 = gI (gI x y) ((z.natAbs : Int))) ∧ (X238 < 2 ^ (max sx (max sy sz))) ∧ (Y239 < 2 ^ (max sx (max sy sz)))) ((((z.natAbs : Int))).toNat) ⟨Ax127, lx128, cx129, Am, lm, cm, (gI x y), ((z.natAbs : Int)), rfl, f145, f146, rfl, rfl, rfl, f150, f151, rfl, rfl, rfl, rfl, rfl, rfl, rfl, rfl, rfl, rfl, rfl, E229, H242, H243, H230, H244, H245, H231, h240, h241.wc, rfl, hq211, (Int.lt_of_lt_of_le h241.ltI (pow_le_of (by decide) (by omega)))⟩ ?_
     intro d250 fr249 w246 hI247 ih248
     obtain ⟨Ax232, lx233, cx234, Ay235, ly236, cy237, X238, Y239, hd278, f251, f252, f253, f254, f255, f256, f257, f258, f259, f260, f261, f262, f263, f264, f265, f266, f267, f268, E269, H270, H271, H272, H273, H274, H275, h276, h277, hgc, hXs, hYs⟩ := hI247
     have hXp := h276.nonneg
     have hYp := h277.pos
     have hYn := h277.nonneg
     have hlx := Wc.len (by decide) h276 hXs
     have hly := Wc.len (by decide) h277 hYs
     refine rk_seq ?_
     refine rk_seq ?_
     refine rk_reg ?_
     refine lw_v (.slice Ay235 ly236 cy237) (dv_move (T rfl f255)) ?_
     refine lw_v (.int .i64 ((ly236 : Int))) (dv_len (ad := Ay235) (l := ly236) (c := cy237) us105 (T rfl rfl)) ?_
     refine lw_v (.bool (decide (0 < ((ly236 : Int))))) (dv_gtr (a := (ly236 : Int)) (b := 0) (T rfl rfl) C) ?_
     refine lw_nil ?_
     by_cases hb279 : 0 < ((ly236 : Int))
     · refine rk_ct (T rfl (congrArg Value.bool (decide_eq_true hb279))) ?_
       refine rk_skip ?_
       refine rk_block ?_
       refine rk_seq ?_
       refine rk_reg ?_
       refine lw_v (.slice Ax232 lx233 cx234) (dv_move (T rfl f254)) ?_
       refine lw_v (.slice Ay235 ly236 cy237) (dv_move (T rfl f255)) ?_
       refine lw_e (oe_callf (vs := [.slice Ax232 lx233 cx234, .slice Ay235 ly236 cy237]) co135 (ar2 (T rfl rfl) (T rfl rfl)) (divWords_ok h276 h277 (by omega) (by first | omega | (simp; done) | (simp; omega)) (by first | omega | (simp; done) | (simp; omega))) ?_)
       rintro _ w288 ⟨A280, n281, c282, A283, n284, c285, rfl, e289, h286, h287⟩
       have E290 := below_ext E269 E269.size e289
       have lh286 := Wc.len (by decide) h286 (div_sz (Wc.nonneg h276) (by omega) hXs)
       have lh287 := Wc.len (by decide) h287 (mod_sz (by omega) hYs)
       refine lw_v (.tuple #[.slice A280 n281 c282, .slice A283 n284 c285]) (dv_move (T rfl rfl)) ?_
       refine lw_v (.slice A280 n281 c282) (dv_extract (vs := #[.slice A280 n281 c282, .slice A283 n284 c285]) (T rfl rfl) rfl) ?_
       refine lw_v (.slice A283 n284 c285) (dv_extract (vs := #[.slice A280 n281 c282, .slice A283 n284 c285]) (T rfl rfl) rfl) ?_
       refine lw_v (.slice A280 n281 c282) (dv_assign (T rfl rfl)) ?_
       refine lw_v (.slice A283 n284 c285) (dv_assign (T rfl rfl)) ?_
       refine lw_nil ?_
       refine rk_reg ?_
       refine lw_v (.slice Ay235 ly236 cy237) (dv_move (T rfl f255)) ?_
       refine lw_v (.slice A283 n284 c285) (dv_move (T rfl rfl)) ?_
       obtain ⟨xs291, hl292, hc293, hw294, ho295, hk296, hv297⟩ := h287
       have H298 := (e289.blk H270)
       have : bl < w288.heap.size := lt_of_blk H298
       have H299 := (e289.blk H271)
       have : b1 < w288.heap.size := lt_of_blk H299
       have H300 := (e289.blk H272)
       have : b6 < w288.heap.size := lt_of_blk H300
       have H301 := (e289.blk H273)
       have : b16 < w288.heap.size := lt_of_blk H301
       have H302 := (e289.blk H274)
       have : b112 < w288.heap.size := lt_of_blk H302
       have H303 := (e289.blk H275)
       have : b217 < w288.heap.size := lt_of_blk H303
       have N304 : w.heap.size ≤ w288.heap.size := E290.size
       refine lw_e (oe_callf (vs := [.slice A283 n284 c285]) co136 (ar1 (T rfl rfl)) (clone_ok hw294 hl292 (by first | omega | (simp; done) | (simp; omega))) ?_)
       rintro _ w308 ⟨Ad305, c306, rfl, e309, hO307⟩
       have E310 := below_ext E290 E290.size e309
       refine lw_v (.slice Ay235 ly236 cy237) (dv_assign (T rfl rfl)) ?_
       refine lw_v (.slice Ad305 (xs291.length) c306) (dv_assign (T rfl rfl)) ?_
       refine lw_nil ?_
       refine rk_inBlock ?_
       have h311 := ((h277.ext e289).ext e309)
       have hml := Int.emod_lt_of_pos X238 (hYp.1 (by omega))
       have hmn := Int.emod_nonneg X238 (show Y239 ≠ 0 by omega)
       have H312 := (e309.blk H298)
       have H313 := (e309.blk H299)
       have H314 := (e309.blk H300)
       have H315 := (e309.blk H301)
       have H316 := (e309.blk H302)
       have H317 := (e309.blk H303)
       exact ih248 (((X238 % Y239)).toNat) _ _ (by rw [hd278]; omega) ⟨Ay235, ly236, cy237, Ad305, xs291.length, c306, Y239, (X238 % Y239), rfl, f251, f252, f253, rfl, rfl, f256, f257, f258, f259, f260, f261, f262, f263, f264, f265, f266, f267, f268, E310, H312, H313, H314, H315, H316, H317, h311, ⟨xs291, rfl, hO307.cap, hO307.wd, ho295, hk296, hv297⟩, (by rw [gI_step]; exact hgc), hYs, (by omega)⟩
     · refine rk_cf (T rfl (congrArg Value.bool (decide_eq_false hb279))) ?_
       refine rk_exit rfl ?_
       have hY0 : Y239 = 0 := by omega
       rw [hY0, gI_zero] at hgc
       have hr318 : X238 = gI3 x y z := (by have h := hgc; rw [show gI3 x y z = gI (gI x y) z from rfl]; rw [gI_absr] at h; (try simp at h); omega)
       have hw319 := Wc.eq h276 hr318
       have hq320 : gI3 x y z < 2 ^ (max sx (max sy sz)) := by rw [← hr318]; exact hXs
       refine rk_reg ?_
       refine lw_v (.slice Ax232 lx233 cx234) (dv_move (T rfl f254)) ?_
       refine lw_v (.agg #[.bool false, .slice Ax232 lx233 cx234]) (dv_build (pv := [(0, .bool false), (1, .slice Ax232 lx233 cx234)]) (l := [.bool false, .slice Ax232 lx233 cx234]) zc107 pl107 ⟨rfl, C, ⟨rfl, (T rfl rfl), trivial⟩⟩ rfl) ?_
       refine lw_e (oe_store (v := .agg #[.bool false, .slice Ax232 lx233 cx234]) (vs := [.bool false, .slice Ax232 lx233 cx234]) (l := [.bool false, .slice Ax232 lx233 cx234]) (T rfl f252) (T rfl rfl) sz107 rfl rfl rfl H272 rfl ?_)
       intro w321 s322 H323
       have E324 := below_st E269 N9 s322
       refine lw_nil ?_
       refine rk_inBlock ?_
       refine rk_reg ?_
       refine lw_v (.int .i64 3) (dv_add (a := 2) (b := 1) (z := 3) (T rfl f258) C (by decide)) ?_
       refine lw_v (.int .i64 3) (dv_move (T rfl rfl)) ?_
       refine lw_nil ?_
       refine rk_inLoop ?_
       refine rk_seq ?_
       refine rk_reg ?_
       refine lw_v (.bool (decide (((3 : Int) < 3 : Prop)))) (dv_lss (a := 3) (b := 3) (T rfl rfl) (T rfl f257)) ?_
       refine lw_nil ?_
       refine rk_seq ?_
       refine rk_cf (T rfl (rfl)) ?_
       refine rk_exit rfl ?_
       refine rk_seq ?_
       refine rk_reg ?_
       refine lw_v (.agg #[.bool false, .slice Ax232 lx233 cx234]) (dv_loads (l := [.bool false, .slice Ax232 lx233 cx234]) agt107 sz107 (T rfl f252) H323 rfl) ?_
       have H325 := (s322.blk H271 (by omega))
       refine lw_e (oe_store (v := .agg #[.bool false, .slice Ax232 lx233 cx234]) (vs := [.bool false, .slice Ax232 lx233 cx234]) (l := [.bool false, .slice Ax232 lx233 cx234]) (T rfl f251) (T rfl rfl) sz107 rfl rfl rfl H325 rfl ?_)
       intro w326 s327 H328
       have E329 := below_st E324 N4 s327
       refine lw_nil ?_
       refine rk_ret Try.func105 (v := .agg #[.bool false, .slice Ax232 lx233 cx234]) (res1 Try.results105 (rv_cells (l := [.bool false, .slice Ax232 lx233 cx234]) agt107 sz107 rfl f251 H328 rfl)) ⟨_, rfl, ?_⟩
       have h330 := ((hw319.st s322 H272 (by decide)).st s327 H325 (by decide))
       exact ⟨_, _, _, _, rfl, E329, Wc.num h330 (by simp) (by simp [sg]) hq320⟩
end Go.Proofs.Ytmbpomcbdopgnaa.W
set_option linter.unusedVariables false
set_option linter.unusedSimpArgs false
namespace Go.Proofs.Ytmbpomcbdopgnaa.W
open Go Go.RowKit Go.Proofs.Ytmbpomcbdopgnaa.Fw
attribute [local irreducible] RunK LW AW DV OE Ct
theorem agt40 : aggB Try.prog 40 = some true := by kernel_rfl
theorem co105 : callOk Try.prog 105 = true := by kernel_rfl
theorem co71 : callOk Try.prog 71 = true := by kernel_rfl
theorem fo109_0 : fieldOffB Try.prog 109 0 = some 0 := by kernel_rfl
theorem fo109_1 : fieldOffB Try.prog 109 1 = some 2 := by kernel_rfl
theorem fo109_2 : fieldOffB Try.prog 109 2 = some 4 := by kernel_rfl
theorem fo40_0 : fieldOffB Try.prog 40 0 = some 0 := by kernel_rfl
theorem fo40_1 : fieldOffB Try.prog 40 1 = some 4 := by kernel_rfl
theorem fo40_2 : fieldOffB Try.prog 40 2 = some 8 := by kernel_rfl
theorem pl109 : placesB Try.prog 109 = some [(0, 2), (2, 2), (4, 2)] := by kernel_rfl
theorem sz40 : sizeB Try.prog 40 = some 12 := by kernel_rfl
theorem zc109 : zcB Try.prog 109 = some [.bool false, .slice none 0 0, .bool false, .slice none 0 0, .bool false, .slice none 0 0] := by kernel_rfl
theorem ze40 : zeroB Try.prog 40 = some #[.int .u64 0, .int .u64 0, .int .u64 0, .int .u64 0, .int .u64 0, .int .u64 0, .int .u64 0, .int .u64 0, .int .u64 0, .int .u64 0, .int .u64 0, .int .u64 0] := by kernel_rfl
end Go.Proofs.Ytmbpomcbdopgnaa.W
set_option linter.unusedVariables false
set_option linter.unusedSimpArgs false
namespace Go.Proofs.Ytmbpomcbdopgnaa.W
open Go Go.RowKit Go.Proofs.Ytmbpomcbdopgnaa.Fw
attribute [local irreducible] RunK LW AW DV OE Ct
theorem agt2 : aggB Try.prog 2 = some false := by kernel_rfl
theorem agt25 : aggB Try.prog 25 = some true := by kernel_rfl
theorem agt27 : aggB Try.prog 27 = some true := by kernel_rfl
theorem co12 : callOk Try.prog 12 = true := by kernel_rfl
theorem co45 : callOk Try.prog 45 = true := by kernel_rfl
theorem co46 : callOk Try.prog 46 = true := by kernel_rfl
theorem co53 : callOk Try.prog 53 = true := by kernel_rfl
theorem co88 : callOk Try.prog 88 = true := by kernel_rfl
theorem co89 : callOk Try.prog 89 = true := by kernel_rfl
theorem eg25 : Try.prog.eqGuardType Try.prog.depth 25 = false := by kernel_rfl
theorem fl25 : flatB Try.prog 25 .i64 2 = true := by kernel_rfl
theorem fo25_0 : fieldOffB Try.prog 25 0 = some 0 := by kernel_rfl
theorem fo25_1 : fieldOffB Try.prog 25 1 = some 1 := by kernel_rfl
theorem fo27_0 : fieldOffB Try.prog 27 0 = some 0 := by kernel_rfl
theorem fo27_1 : fieldOffB Try.prog 27 1 = some 2 := by kernel_rfl
theorem sz2 : sizeB Try.prog 2 = some 1 := by kernel_rfl
theorem sz25 : sizeB Try.prog 25 = some 2 := by kernel_rfl
theorem sz27 : sizeB Try.prog 27 = some 4 := by kernel_rfl
theorem ze25 : zeroB Try.prog 25 = some #[.int .i64 0, .int .i64 0] := by kernel_rfl
theorem ze27 : zeroB Try.prog 27 = some #[.int .i64 0, .int .i64 0, .int .i64 0, .int .i64 0] := by kernel_rfl
set_option maxHeartbeats 1000000 in
theorem l1In_ok {w : World} {n lo hi : Int}   : Ct Try.prog 53 [.int .i64 n, .int .i64 lo, .int .i64 hi] w fun v w1 => v = .bool (decide (lo ≤ n ∧ n ≤ hi)) ∧ Ext w w1 := by
 refine ct_run (n := 15) Try.func53 rfl Try.ntmps53 rfl ?_
 have E0 : Below w.heap.size w w := Below.refl _ _
 refine rk_seq ?_
 refine rk_reg ?_
 refine lw_v (.bool false) (dv_assign C) ?_
 refine lw_nil ?_
 refine rk_seq ?_
 refine rk_reg ?_
 refine lw_v (.int .i64 n) (dv_move (T rfl rfl)) ?_
 refine lw_v (.int .i64 lo) (dv_move (T rfl rfl)) ?_
 refine lw_v (.bool (decide (lo ≤ n))) (dv_geq (a := n) (b := lo) (T rfl rfl) (T rfl rfl)) ?_
 refine lw_v (.bool (decide (lo ≤ n))) (dv_move (T rfl rfl)) ?_
 by_cases hb1 : lo ≤ n
 · refine lw_vy (.int .i64 n) (d := 10) rfl rfl (congrArg Value.bool (decide_eq_true hb1)) (dv_move (T rfl rfl)) ?_
   refine lw_vy (.int .i64 hi) (d := 10) rfl rfl (congrArg Value.bool (decide_eq_true hb1)) (dv_move (T rfl rfl)) ?_
   refine lw_vy (.bool (decide (n ≤ hi))) (d := 10) rfl rfl (congrArg Value.bool (decide_eq_true hb1)) (dv_leq (a := n) (b := hi) (T rfl rfl) (T rfl rfl)) ?_
   refine lw_v (.bool (decide (n ≤ hi))) (dv_pick_t (T rfl (congrArg Value.bool (decide_eq_true hb1))) (T rfl rfl)) ?_
   refine lw_v (.bool (decide (n ≤ hi))) (dv_assign (T rfl rfl)) ?_
   refine lw_nil ?_
   refine rk_ret Try.func53 (v := .bool (decide (n ≤ hi))) (res1 Try.results53 (rv_tmp rfl rfl)) ⟨_, rfl, ?_⟩
   exact ⟨(vb (by grind)), E0⟩
 · refine lw_no (d := 10) rfl rfl (congrArg Value.bool (decide_eq_false hb1)) ?_
   refine lw_no (d := 10) rfl rfl (congrArg Value.bool (decide_eq_false hb1)) ?_
   refine lw_no (d := 10) rfl rfl (congrArg Value.bool (decide_eq_false hb1)) ?_
   refine lw_v (.bool false) (dv_pick_f (T rfl (congrArg Value.bool (decide_eq_false hb1))) C) ?_
   refine lw_v (.bool false) (dv_assign (T rfl rfl)) ?_
   refine lw_nil ?_
   refine rk_ret Try.func53 (v := .bool false) (res1 Try.results53 (rv_tmp rfl rfl)) ⟨_, rfl, ?_⟩
   exact ⟨(vf (by grind)), E0⟩
set_option maxHeartbeats 1000000 in
theorem within_ok {w : World} {n lo hi : Int}   : Ct Try.prog 46 [.int .i64 n, .int .i64 lo, .int .i64 hi] w fun v w1 => v = .bool (decide (lo ≤ n ∧ n ≤ hi)) ∧ Ext w w1 := by
 refine ct_run (n := 15) Try.func46 rfl Try.ntmps46 rfl ?_
 have E0 : Below w.heap.size w w := Below.refl _ _
 refine rk_seq ?_
 refine rk_reg ?_
 refine lw_v (.bool false) (dv_assign C) ?_
 refine lw_nil ?_
 refine rk_seq ?_
 refine rk_reg ?_
 refine lw_v (.int .i64 lo) (dv_move (T rfl rfl)) ?_
 refine lw_v (.int .i64 n) (dv_move (T rfl rfl)) ?_
 refine lw_v (.bool (decide (lo ≤ n))) (dv_leq (a := lo) (b := n) (T rfl rfl) (T rfl rfl)) ?_
 refine lw_v (.bool (decide (lo ≤ n))) (dv_move (T rfl rfl)) ?_
 by_cases hb1 : lo ≤ n
 · refine lw_vy (.int .i64 n) (d := 10) rfl rfl (congrArg Value.bool (decide_eq_true hb1)) (dv_move (T rfl rfl)) ?_
   refine lw_vy (.int .i64 hi) (d := 10) rfl rfl (congrArg Value.bool (decide_eq_true hb1)) (dv_move (T rfl rfl)) ?_
   refine lw_vy (.bool (decide (n ≤ hi))) (d := 10) rfl rfl (congrArg Value.bool (decide_eq_true hb1)) (dv_leq (a := n) (b := hi) (T rfl rfl) (T rfl rfl)) ?_
   refine lw_v (.bool (decide (n ≤ hi))) (dv_pick_t (T rfl (congrArg Value.bool (decide_eq_true hb1))) (T rfl rfl)) ?_
   refine lw_v (.bool (decide (n ≤ hi))) (dv_assign (T rfl rfl)) ?_
   refine lw_nil ?_
   refine rk_ret Try.func46 (v := .bool (decide (n ≤ hi))) (res1 Try.results46 (rv_tmp rfl rfl)) ⟨_, rfl, ?_⟩
   exact ⟨(vb (by grind)), E0⟩
 · refine lw_no (d := 10) rfl rfl (congrArg Value.bool (decide_eq_false hb1)) ?_
   refine lw_no (d := 10) rfl rfl (congrArg Value.bool (decide_eq_false hb1)) ?_
   refine lw_no (d := 10) rfl rfl (congrArg Value.bool (decide_eq_false hb1)) ?_
   refine lw_v (.bool false) (dv_pick_f (T rfl (congrArg Value.bool (decide_eq_false hb1))) C) ?_
   refine lw_v (.bool false) (dv_assign (T rfl rfl)) ?_
   refine lw_nil ?_
   refine rk_ret Try.func46 (v := .bool false) (res1 Try.results46 (rv_tmp rfl rfl)) ⟨_, rfl, ?_⟩
   exact ⟨(vf (by grind)), E0⟩
set_option maxHeartbeats 1000000 in
theorem sSpotOk_ok {w : World} {x y : Int}   : Ct Try.prog 88 [.agg #[.int .i64 x, .int .i64 y]] w fun v w1 => v = .bool (decide (spotOk x y)) ∧ Ext w w1 := by
 refine ct_run (n := 11) Try.func88 rfl Try.ntmps88 rfl ?_
 have E0 : Below w.heap.size w w := Below.refl _ _
 refine rk_seq ?_
 refine rk_reg ?_
 refine lw_e (oe_box (v := .agg #[.int .i64 x, .int .i64 y]) (cs := #[.int .i64 x, .int .i64 y]) (T rfl rfl) rfl ?_)
 intro b1 w2 n3
 have N4 : w.heap.size ≤ b1 := n3.eq ▸ E0.size
 have E5 := below_ext E0 E0.size n3.ext
 refine lw_v (.bool false) (dv_assign C) ?_
 refine lw_nil ?_
 refine rk_seq ?_
 refine rk_reg ?_
 refine lw_v (.pointer (some ⟨b1, 0, none⟩)) (dv_fieldAddr (a := ⟨b1, 0, none⟩) (a' := ⟨b1, 0, none⟩) fo25_0 (T rfl rfl) rfl) ?_
 refine lw_v (.int .i64 x) (dv_load1 (b := b1) (o := 0) agt2 (T rfl rfl) n3.blk rfl) ?_
 refine lw_e (oe_callf (vs := [.int .i64 x, .int .i64 (-1000000), .int .i64 1000000]) co53 (ar3 (T rfl rfl) C C) (l1In_ok (n := x) (lo := -1000000) (hi := 1000000)  ) ?_)
 rintro _ w6 ⟨rfl, e7⟩
 have E8 := below_ext E5 E5.size e7
 refine lw_v (.bool (decide ((-1000000 : Int) ≤ x ∧ x ≤ (1000000 : Int)))) (dv_move (T rfl rfl)) ?_
 by_cases hb9 : (-1000000 : Int) ≤ x ∧ x ≤ (1000000 : Int)
 · refine lw_vy (.pointer (some ⟨b1, 1, none⟩)) (d := 6) rfl rfl (congrArg Value.bool (decide_eq_true hb9)) (dv_fieldAddr (a := ⟨b1, 0, none⟩) (a' := ⟨b1, 1, none⟩) fo25_1 (T rfl rfl) rfl) ?_
   have H10 := (e7.blk n3.blk)
   refine lw_vy (.int .i64 y) (d := 6) rfl rfl (congrArg Value.bool (decide_eq_true hb9)) (dv_load1 (b := b1) (o := 1) agt2 (T rfl rfl) H10 rfl) ?_
   refine lw_ey (d := 6) rfl rfl (congrArg Value.bool (decide_eq_true hb9)) (oe_callf (vs := [.int .i64 y, .int .i64 (-1000000), .int .i64 1000000]) co53 (ar3 (T rfl rfl) C C) (l1In_ok (n := y) (lo := -1000000) (hi := 1000000)  ) ?_)
   rintro _ w11 ⟨rfl, e12⟩
   have E13 := below_ext E8 E8.size e12
   refine lw_v (.bool (decide ((-1000000 : Int) ≤ y ∧ y ≤ (1000000 : Int)))) (dv_pick_t (T rfl (congrArg Value.bool (decide_eq_true hb9))) (T rfl rfl)) ?_
   refine lw_v (.bool (decide ((-1000000 : Int) ≤ y ∧ y ≤ (1000000 : Int)))) (dv_assign (T rfl rfl)) ?_
   refine lw_nil ?_
   refine rk_ret Try.func88 (v := .bool (decide ((-1000000 : Int) ≤ y ∧ y ≤ (1000000 : Int)))) (res1 Try.results88 (rv_tmp rfl rfl)) ⟨_, rfl, ?_⟩
   exact ⟨(vb (by unfold spotOk; grind)), E13⟩
 · refine lw_no (d := 6) rfl rfl (congrArg Value.bool (decide_eq_false hb9)) ?_
   refine lw_no (d := 6) rfl rfl (congrArg Value.bool (decide_eq_false hb9)) ?_
   refine lw_no (d := 6) rfl rfl (congrArg Value.bool (decide_eq_false hb9)) ?_
   refine lw_v (.bool false) (dv_pick_f (T rfl (congrArg Value.bool (decide_eq_false hb9))) C) ?_
   refine lw_v (.bool false) (dv_assign (T rfl rfl)) ?_
   refine lw_nil ?_
   refine rk_ret Try.func88 (v := .bool false) (res1 Try.results88 (rv_tmp rfl rfl)) ⟨_, rfl, ?_⟩
   exact ⟨(vf (by unfold spotOk; grind)), E8⟩
set_option maxHeartbeats 1000000 in
theorem iSpotOk_ok {w : World} {x y : Int}   : Ct Try.prog 12 [.agg #[.int .i64 x, .int .i64 y]] w fun v w1 => v = .bool (decide (spotOk x y)) ∧ Ext w w1 := by
 refine ct_run (n := 11) Try.func12 rfl Try.ntmps12 rfl ?_
 have E0 : Below w.heap.size w w := Below.refl _ _
 refine rk_seq ?_
 refine rk_reg ?_
 refine lw_e (oe_box (v := .agg #[.int .i64 x, .int .i64 y]) (cs := #[.int .i64 x, .int .i64 y]) (T rfl rfl) rfl ?_)
 intro b1 w2 n3
 have N4 : w.heap.size ≤ b1 := n3.eq ▸ E0.size
 have E5 := below_ext E0 E0.size n3.ext
 refine lw_v (.bool false) (dv_assign C) ?_
 refine lw_nil ?_
 refine rk_seq ?_
 refine rk_reg ?_
 refine lw_v (.pointer (some ⟨b1, 0, none⟩)) (dv_fieldAddr (a := ⟨b1, 0, none⟩) (a' := ⟨b1, 0, none⟩) fo25_0 (T rfl rfl) rfl) ?_
 refine lw_v (.int .i64 x) (dv_load1 (b := b1) (o := 0) agt2 (T rfl rfl) n3.blk rfl) ?_
 refine lw_e (oe_callf (vs := [.int .i64 x, .int .i64 (-1000000), .int .i64 1000000]) co46 (ar3 (T rfl rfl) C C) (within_ok (n := x) (lo := -1000000) (hi := 1000000)  ) ?_)
 rintro _ w6 ⟨rfl, e7⟩
 have E8 := below_ext E5 E5.size e7
 refine lw_v (.bool (decide ((-1000000 : Int) ≤ x ∧ x ≤ (1000000 : Int)))) (dv_move (T rfl rfl)) ?_
 by_cases hb9 : (-1000000 : Int) ≤ x ∧ x ≤ (1000000 : Int)
 · refine lw_vy (.pointer (some ⟨b1, 1, none⟩)) (d := 6) rfl rfl (congrArg Value.bool (decide_eq_true hb9)) (dv_fieldAddr (a := ⟨b1, 0, none⟩) (a' := ⟨b1, 1, none⟩) fo25_1 (T rfl rfl) rfl) ?_
   have H10 := (e7.blk n3.blk)
   refine lw_vy (.int .i64 y) (d := 6) rfl rfl (congrArg Value.bool (decide_eq_true hb9)) (dv_load1 (b := b1) (o := 1) agt2 (T rfl rfl) H10 rfl) ?_
   refine lw_ey (d := 6) rfl rfl (congrArg Value.bool (decide_eq_true hb9)) (oe_callf (vs := [.int .i64 y, .int .i64 (-1000000), .int .i64 1000000]) co46 (ar3 (T rfl rfl) C C) (within_ok (n := y) (lo := -1000000) (hi := 1000000)  ) ?_)
   rintro _ w11 ⟨rfl, e12⟩
   have E13 := below_ext E8 E8.size e12
   refine lw_v (.bool (decide ((-1000000 : Int) ≤ y ∧ y ≤ (1000000 : Int)))) (dv_pick_t (T rfl (congrArg Value.bool (decide_eq_true hb9))) (T rfl rfl)) ?_
   refine lw_v (.bool (decide ((-1000000 : Int) ≤ y ∧ y ≤ (1000000 : Int)))) (dv_assign (T rfl rfl)) ?_
   refine lw_nil ?_
   refine rk_ret Try.func12 (v := .bool (decide ((-1000000 : Int) ≤ y ∧ y ≤ (1000000 : Int)))) (res1 Try.results12 (rv_tmp rfl rfl)) ⟨_, rfl, ?_⟩
   exact ⟨(vb (by unfold spotOk; grind)), E13⟩
 · refine lw_no (d := 6) rfl rfl (congrArg Value.bool (decide_eq_false hb9)) ?_
   refine lw_no (d := 6) rfl rfl (congrArg Value.bool (decide_eq_false hb9)) ?_
   refine lw_no (d := 6) rfl rfl (congrArg Value.bool (decide_eq_false hb9)) ?_
   refine lw_v (.bool false) (dv_pick_f (T rfl (congrArg Value.bool (decide_eq_false hb9))) C) ?_
   refine lw_v (.bool false) (dv_assign (T rfl rfl)) ?_
   refine lw_nil ?_
   refine rk_ret Try.func12 (v := .bool false) (res1 Try.results12 (rv_tmp rfl rfl)) ⟨_, rfl, ?_⟩
   exact ⟨(vf (by unfold spotOk; grind)), E8⟩
set_option maxHeartbeats 1000000 in
theorem l4Less_ok {w : World} {ax ay bx b_y : Int}   : Ct Try.prog 89 [.agg #[.int .i64 ax, .int .i64 ay], .agg #[.int .i64 bx, .int .i64 b_y]] w fun v w1 => v = .bool (decide (spotLt ax ay bx b_y)) ∧ Ext w w1 := by
 refine ct_run (n := 24) Try.func89 rfl Try.ntmps89 rfl ?_
 have E0 : Below w.heap.size w w := Below.refl _ _
 refine rk_seq ?_
 refine rk_reg ?_
 refine lw_e (oe_box (v := .agg #[.int .i64 ax, .int .i64 ay]) (cs := #[.int .i64 ax, .int .i64 ay]) (T rfl rfl) rfl ?_)
 intro b1 w2 n3
 have N4 : w.heap.size ≤ b1 := n3.eq ▸ E0.size
 have E5 := below_ext E0 E0.size n3.ext
 refine lw_e (oe_box (v := .agg #[.int .i64 bx, .int .i64 b_y]) (cs := #[.int .i64 bx, .int .i64 b_y]) (T rfl rfl) rfl ?_)
 intro b6 w7 n8
 have N9 : w.heap.size ≤ b6 := n8.eq ▸ E5.size
 have : b1 < b6 := n8.eq ▸ lt_of_blk n3.blk
 have E10 := below_ext E5 E5.size n8.ext
 refine lw_v (.bool false) (dv_assign C) ?_
 refine lw_nil ?_
 refine rk_seq ?_
 refine rk_reg ?_
 refine lw_v (.pointer (some ⟨b1, 0, none⟩)) (dv_fieldAddr (a := ⟨b1, 0, none⟩) (a' := ⟨b1, 0, none⟩) fo25_0 (T rfl rfl) rfl) ?_
 have H11 := (n8.ext.blk n3.blk)
 refine lw_v (.int .i64 ax) (dv_load1 (b := b1) (o := 0) agt2 (T rfl rfl) H11 rfl) ?_
 refine lw_v (.pointer (some ⟨b6, 0, none⟩)) (dv_fieldAddr (a := ⟨b6, 0, none⟩) (a' := ⟨b6, 0, none⟩) fo25_0 (T rfl rfl) rfl) ?_
 refine lw_v (.int .i64 bx) (dv_load1 (b := b6) (o := 0) agt2 (T rfl rfl) n8.blk rfl) ?_
 refine lw_v (.bool (decide (ax < bx))) (dv_lss (a := ax) (b := bx) (T rfl rfl) (T rfl rfl)) ?_
 refine lw_v (.bool (decide (ax < bx))) (dv_move (T rfl rfl)) ?_
 by_cases hb12 : ax < bx
 · refine lw_no (d := 10) rfl rfl (congrArg Value.bool (decide_eq_true hb12)) ?_
   refine lw_no (d := 10) rfl rfl (congrArg Value.bool (decide_eq_true hb12)) ?_
   refine lw_no (d := 10) rfl rfl (congrArg Value.bool (decide_eq_true hb12)) ?_
   refine lw_no (d := 10) rfl rfl (congrArg Value.bool (decide_eq_true hb12)) ?_
   refine lw_no (d := 10) rfl rfl (congrArg Value.bool (decide_eq_true hb12)) ?_
   refine lw_no (d := 10) rfl rfl (congrArg Value.bool (decide_eq_true hb12)) ?_
   refine lw_nou (d := 16) rfl rfl ?_
   refine lw_nou (d := 16) rfl rfl ?_
   refine lw_nou (d := 16) rfl rfl ?_
   refine lw_nou (d := 16) rfl rfl ?_
   refine lw_nou (d := 16) rfl rfl ?_
   refine lw_no (d := 10) rfl rfl (congrArg Value.bool (decide_eq_true hb12)) ?_
   refine lw_v (.bool true) (dv_pick_t (T rfl (congrArg Value.bool (decide_eq_true hb12))) C) ?_
   refine lw_v (.bool true) (dv_assign (T rfl rfl)) ?_
   refine lw_nil ?_
   refine rk_ret Try.func89 (v := .bool true) (res1 Try.results89 (rv_tmp rfl rfl)) ⟨_, rfl, ?_⟩
   exact ⟨(vt (by unfold spotLt; grind)), E10⟩
 · refine lw_vy (.pointer (some ⟨b1, 0, none⟩)) (d := 10) rfl rfl (congrArg Value.bool (decide_eq_false hb12)) (dv_fieldAddr (a := ⟨b1, 0, none⟩) (a' := ⟨b1, 0, none⟩) fo25_0 (T rfl rfl) rfl) ?_
   refine lw_vy (.int .i64 ax) (d := 10) rfl rfl (congrArg Value.bool (decide_eq_false hb12)) (dv_load1 (b := b1) (o := 0) agt2 (T rfl rfl) H11 rfl) ?_
   refine lw_vy (.pointer (some ⟨b6, 0, none⟩)) (d := 10) rfl rfl (congrArg Value.bool (decide_eq_false hb12)) (dv_fieldAddr (a := ⟨b6, 0, none⟩) (a' := ⟨b6, 0, none⟩) fo25_0 (T rfl rfl) rfl) ?_
   refine lw_vy (.int .i64 bx) (d := 10) rfl rfl (congrArg Value.bool (decide_eq_false hb12)) (dv_load1 (b := b6) (o := 0) agt2 (T rfl rfl) n8.blk rfl) ?_
   refine lw_vy (.bool (decide (ax = bx))) (d := 10) rfl rfl (congrArg Value.bool (decide_eq_false hb12)) (dv_eql (a := ax) (b := bx) (T rfl rfl) (T rfl rfl)) ?_
   refine lw_vy (.bool (decide (ax = bx))) (d := 10) rfl rfl (congrArg Value.bool (decide_eq_false hb12)) (dv_move (T rfl rfl)) ?_
   by_cases hb13 : ax = bx
   · refine lw_vy (.pointer (some ⟨b1, 1, none⟩)) (d := 16) rfl rfl (congrArg Value.bool (decide_eq_true hb13)) (dv_fieldAddr (a := ⟨b1, 0, none⟩) (a' := ⟨b1, 1, none⟩) fo25_1 (T rfl rfl) rfl) ?_
     refine lw_vy (.int .i64 ay) (d := 16) rfl rfl (congrArg Value.bool (decide_eq_true hb13)) (dv_load1 (b := b1) (o := 1) agt2 (T rfl rfl) H11 rfl) ?_
     refine lw_vy (.pointer (some ⟨b6, 1, none⟩)) (d := 16) rfl rfl (congrArg Value.bool (decide_eq_true hb13)) (dv_fieldAddr (a := ⟨b6, 0, none⟩) (a' := ⟨b6, 1, none⟩) fo25_1 (T rfl rfl) rfl) ?_
     refine lw_vy (.int .i64 b_y) (d := 16) rfl rfl (congrArg Value.bool (decide_eq_true hb13)) (dv_load1 (b := b6) (o := 1) agt2 (T rfl rfl) n8.blk rfl) ?_
     refine lw_vy (.bool (decide (ay < b_y))) (d := 16) rfl rfl (congrArg Value.bool (decide_eq_true hb13)) (dv_lss (a := ay) (b := b_y) (T rfl rfl) (T rfl rfl)) ?_
     refine lw_vy (.bool (decide (ay < b_y))) (d := 10) rfl rfl (congrArg Value.bool (decide_eq_false hb12)) (dv_pick_t (T rfl (congrArg Value.bool (decide_eq_true hb13))) (T rfl rfl)) ?_
     refine lw_v (.bool (decide (ay < b_y))) (dv_pick_f (T rfl (congrArg Value.bool (decide_eq_false hb12))) (T rfl rfl)) ?_
     refine lw_v (.bool (decide (ay < b_y))) (dv_assign (T rfl rfl)) ?_
     refine lw_nil ?_
     refine rk_ret Try.func89 (v := .bool (decide (ay < b_y))) (res1 Try.results89 (rv_tmp rfl rfl)) ⟨_, rfl, ?_⟩
     exact ⟨(vb (by unfold spotLt; grind)), E10⟩
   · refine lw_no (d := 16) rfl rfl (congrArg Value.bool (decide_eq_false hb13)) ?_
     refine lw_no (d := 16) rfl rfl (congrArg Value.bool (decide_eq_false hb13)) ?_
     refine lw_no (d := 16) rfl rfl (congrArg Value.bool (decide_eq_false hb13)) ?_
     refine lw_no (d := 16) rfl rfl (congrArg Value.bool (decide_eq_false hb13)) ?_
     refine lw_no (d := 16) rfl rfl (congrArg Value.bool (decide_eq_false hb13)) ?_
     refine lw_vy (.bool false) (d := 10) rfl rfl (congrArg Value.bool (decide_eq_false hb12)) (dv_pick_f (T rfl (congrArg Value.bool (decide_eq_false hb13))) C) ?_
     refine lw_v (.bool false) (dv_pick_f (T rfl (congrArg Value.bool (decide_eq_false hb12))) (T rfl rfl)) ?_
     refine lw_v (.bool false) (dv_assign (T rfl rfl)) ?_
     refine lw_nil ?_
     refine rk_ret Try.func89 (v := .bool false) (res1 Try.results89 (rv_tmp rfl rfl)) ⟨_, rfl, ?_⟩
     exact ⟨(vf (by unfold spotLt; grind)), E10⟩
set_option maxHeartbeats 1000000 in
theorem cmpSpots_ok {w : World} {ax ay bx b_y : Int}   : Ct Try.prog 45 [.agg #[.int .i64 ax, .int .i64 ay], .agg #[.int .i64 bx, .int .i64 b_y]] w fun v w1 => v = .int .i64 (cmpS ax ay bx b_y) ∧ Ext w w1 := by
 refine ct_run (n := 29) Try.func45 rfl Try.ntmps45 rfl ?_
 have E0 : Below w.heap.size w w := Below.refl _ _
 refine rk_seq ?_
 refine rk_reg ?_
 refine lw_e (oe_box (v := .agg #[.int .i64 ax, .int .i64 ay]) (cs := #[.int .i64 ax, .int .i64 ay]) (T rfl rfl) rfl ?_)
 intro b1 w2 n3
 have N4 : w.heap.size ≤ b1 := n3.eq ▸ E0.size
 have E5 := below_ext E0 E0.size n3.ext
 refine lw_e (oe_box (v := .agg #[.int .i64 bx, .int .i64 b_y]) (cs := #[.int .i64 bx, .int .i64 b_y]) (T rfl rfl) rfl ?_)
 intro b6 w7 n8
 have N9 : w.heap.size ≤ b6 := n8.eq ▸ E5.size
 have : b1 < b6 := n8.eq ▸ lt_of_blk n3.blk
 have E10 := below_ext E5 E5.size n8.ext
 refine lw_v (.int .i64 0) (dv_assign C) ?_
 refine lw_nil ?_
 refine rk_seq ?_
 refine rk_block ?_
 refine rk_seq ?_
 refine rk_reg ?_
 have H11 := (n8.ext.blk n3.blk)
 refine lw_v (.agg #[.int .i64 ax, .int .i64 ay]) (dv_loads (l := [.int .i64 ax, .int .i64 ay]) agt25 sz25 (T rfl rfl) H11 rfl) ?_
 refine lw_v (.agg #[.int .i64 bx, .int .i64 b_y]) (dv_loads (l := [.int .i64 bx, .int .i64 b_y]) agt25 sz25 (T rfl rfl) n8.blk rfl) ?_
 refine lw_v (.bool (decide (([ax, ay] : List Int) = [bx, b_y]))) (dv_eqls (k := .i64) (la := [ax, ay]) (lb := [bx, b_y]) fl25 eg25 (T rfl rfl) (T rfl rfl) rfl rfl) ?_
 refine lw_v (.bool (decide (([ax, ay] : List Int) = [bx, b_y]))) (dv_assign (T rfl rfl)) ?_
 refine lw_nil ?_
 by_cases hb12 : ([ax, ay] : List Int) = [bx, b_y]
 · refine rk_ct (T rfl (congrArg Value.bool (decide_eq_true hb12))) ?_
   refine rk_seq ?_
   refine rk_reg ?_
   refine lw_v (.int .i64 0) (dv_assign C) ?_
   refine lw_nil ?_
   refine rk_ret Try.func45 (v := .int .i64 0) (res1 Try.results45 (rv_tmp rfl rfl)) ⟨_, rfl, ?_⟩
   exact ⟨(vi (by unfold cmpS spotLt; grind)), E10⟩
 · refine rk_cf (T rfl (congrArg Value.bool (decide_eq_false hb12))) ?_
   refine rk_seq ?_
   refine rk_reg ?_
   refine lw_v (.pointer (some ⟨b1, 0, none⟩)) (dv_fieldAddr (a := ⟨b1, 0, none⟩) (a' := ⟨b1, 0, none⟩) fo25_0 (T rfl rfl) rfl) ?_
   refine lw_v (.int .i64 ax) (dv_load1 (b := b1) (o := 0) agt2 (T rfl rfl) H11 rfl) ?_
   refine lw_v (.pointer (some ⟨b6, 0, none⟩)) (dv_fieldAddr (a := ⟨b6, 0, none⟩) (a' := ⟨b6, 0, none⟩) fo25_0 (T rfl rfl) rfl) ?_
   refine lw_v (.int .i64 bx) (dv_load1 (b := b6) (o := 0) agt2 (T rfl rfl) n8.blk rfl) ?_
   refine lw_v (.bool (decide (ax < bx))) (dv_lss (a := ax) (b := bx) (T rfl rfl) (T rfl rfl)) ?_
   refine lw_v (.bool (decide (ax < bx))) (dv_move (T rfl rfl)) ?_
   by_cases hb13 : ax < bx
   · refine lw_no (d := 15) rfl rfl (congrArg Value.bool (decide_eq_true hb13)) ?_
     refine lw_no (d := 15) rfl rfl (congrArg Value.bool (decide_eq_true hb13)) ?_
     refine lw_no (d := 15) rfl rfl (congrArg Value.bool (decide_eq_true hb13)) ?_
     refine lw_no (d := 15) rfl rfl (congrArg Value.bool (decide_eq_true hb13)) ?_
     refine lw_no (d := 15) rfl rfl (congrArg Value.bool (decide_eq_true hb13)) ?_
     refine lw_no (d := 15) rfl rfl (congrArg Value.bool (decide_eq_true hb13)) ?_
     refine lw_nou (d := 21) rfl rfl ?_
     refine lw_nou (d := 21) rfl rfl ?_
     refine lw_nou (d := 21) rfl rfl ?_
     refine lw_nou (d := 21) rfl rfl ?_
     refine lw_nou (d := 21) rfl rfl ?_
     refine lw_no (d := 15) rfl rfl (congrArg Value.bool (decide_eq_true hb13)) ?_
     refine lw_v (.bool true) (dv_pick_t (T rfl (congrArg Value.bool (decide_eq_true hb13))) C) ?_
     refine lw_v (.bool true) (dv_assign (T rfl rfl)) ?_
     refine lw_nil ?_
     refine rk_ct (T rfl rfl) ?_
     refine rk_seq ?_
     refine rk_reg ?_
     refine lw_v (.int .i64 (-1)) (dv_assign C) ?_
     refine lw_nil ?_
     refine rk_ret Try.func45 (v := .int .i64 (-1)) (res1 Try.results45 (rv_tmp rfl rfl)) ⟨_, rfl, ?_⟩
     exact ⟨(vi (by unfold cmpS spotLt; grind)), E10⟩
   · refine lw_vy (.pointer (some ⟨b1, 0, none⟩)) (d := 15) rfl rfl (congrArg Value.bool (decide_eq_false hb13)) (dv_fieldAddr (a := ⟨b1, 0, none⟩) (a' := ⟨b1, 0, none⟩) fo25_0 (T rfl rfl) rfl) ?_
     refine lw_vy (.int .i64 ax) (d := 15) rfl rfl (congrArg Value.bool (decide_eq_false hb13)) (dv_load1 (b := b1) (o := 0) agt2 (T rfl rfl) H11 rfl) ?_
     refine lw_vy (.pointer (some ⟨b6, 0, none⟩)) (d := 15) rfl rfl (congrArg Value.bool (decide_eq_false hb13)) (dv_fieldAddr (a := ⟨b6, 0, none⟩) (a' := ⟨b6, 0, none⟩) fo25_0 (T rfl rfl) rfl) ?_
     refine lw_vy (.int .i64 bx) (d := 15) rfl rfl (congrArg Value.bool (decide_eq_false hb13)) (dv_load1 (b := b6) (o := 0) agt2 (T rfl rfl) n8.blk rfl) ?_
     refine lw_vy (.bool (decide (ax = bx))) (d := 15) rfl rfl (congrArg Value.bool (decide_eq_false hb13)) (dv_eql (a := ax) (b := bx) (T rfl rfl) (T rfl rfl)) ?_
     refine lw_vy (.bool (decide (ax = bx))) (d := 15) rfl rfl (congrArg Value.bool (decide_eq_false hb13)) (dv_move (T rfl rfl)) ?_
     by_cases hb14 : ax = bx
     · refine lw_vy (.pointer (some ⟨b1, 1, none⟩)) (d := 21) rfl rfl (congrArg Value.bool (decide_eq_true hb14)) (dv_fieldAddr (a := ⟨b1, 0, none⟩) (a' := ⟨b1, 1, none⟩) fo25_1 (T rfl rfl) rfl) ?_
       refine lw_vy (.int .i64 ay) (d := 21) rfl rfl (congrArg Value.bool (decide_eq_true hb14)) (dv_load1 (b := b1) (o := 1) agt2 (T rfl rfl) H11 rfl) ?_
       refine lw_vy (.pointer (some ⟨b6, 1, none⟩)) (d := 21) rfl rfl (congrArg Value.bool (decide_eq_true hb14)) (dv_fieldAddr (a := ⟨b6, 0, none⟩) (a' := ⟨b6, 1, none⟩) fo25_1 (T rfl rfl) rfl) ?_
       refine lw_vy (.int .i64 b_y) (d := 21) rfl rfl (congrArg Value.bool (decide_eq_true hb14)) (dv_load1 (b := b6) (o := 1) agt2 (T rfl rfl) n8.blk rfl) ?_
       refine lw_vy (.bool (decide (ay < b_y))) (d := 21) rfl rfl (congrArg Value.bool (decide_eq_true hb14)) (dv_lss (a := ay) (b := b_y) (T rfl rfl) (T rfl rfl)) ?_
       refine lw_vy (.bool (decide (ay < b_y))) (d := 15) rfl rfl (congrArg Value.bool (decide_eq_false hb13)) (dv_pick_t (T rfl (congrArg Value.bool (decide_eq_true hb14))) (T rfl rfl)) ?_
       refine lw_v (.bool (decide (ay < b_y))) (dv_pick_f (T rfl (congrArg Value.bool (decide_eq_false hb13))) (T rfl rfl)) ?_
       refine lw_v (.bool (decide (ay < b_y))) (dv_assign (T rfl rfl)) ?_
       refine lw_nil ?_
       by_cases hb15 : ay < b_y
       · refine rk_ct (T rfl (congrArg Value.bool (decide_eq_true hb15))) ?_
         refine rk_seq ?_
         refine rk_reg ?_
         refine lw_v (.int .i64 (-1)) (dv_assign C) ?_
         refine lw_nil ?_
         refine rk_ret Try.func45 (v := .int .i64 (-1)) (res1 Try.results45 (rv_tmp rfl rfl)) ⟨_, rfl, ?_⟩
         exact ⟨(vi (by unfold cmpS spotLt; grind)), E10⟩
       · refine rk_cf (T rfl (congrArg Value.bool (decide_eq_false hb15))) ?_
         refine rk_skip ?_
         refine rk_inBlock ?_
         refine rk_seq ?_
         refine rk_reg ?_
         refine lw_v (.int .i64 1) (dv_assign C) ?_
         refine lw_nil ?_
         refine rk_ret Try.func45 (v := .int .i64 1) (res1 Try.results45 (rv_tmp rfl rfl)) ⟨_, rfl, ?_⟩
         exact ⟨(vi (by unfold cmpS spotLt; grind)), E10⟩
     · refine lw_no (d := 21) rfl rfl (congrArg Value.bool (decide_eq_false hb14)) ?_
       refine lw_no (d := 21) rfl rfl (congrArg Value.bool (decide_eq_false hb14)) ?_
       refine lw_no (d := 21) rfl rfl (congrArg Value.bool (decide_eq_false hb14)) ?_
       refine lw_no (d := 21) rfl rfl (congrArg Value.bool (decide_eq_false hb14)) ?_
       refine lw_no (d := 21) rfl rfl (congrArg Value.bool (decide_eq_false hb14)) ?_
       refine lw_vy (.bool false) (d := 15) rfl rfl (congrArg Value.bool (decide_eq_false hb13)) (dv_pick_f (T rfl (congrArg Value.bool (decide_eq_false hb14))) C) ?_
       refine lw_v (.bool false) (dv_pick_f (T rfl (congrArg Value.bool (decide_eq_false hb13))) (T rfl rfl)) ?_
       refine lw_v (.bool false) (dv_assign (T rfl rfl)) ?_
       refine lw_nil ?_
       refine rk_cf (T rfl rfl) ?_
       refine rk_skip ?_
       refine rk_inBlock ?_
       refine rk_seq ?_
       refine rk_reg ?_
       refine lw_v (.int .i64 1) (dv_assign C) ?_
       refine lw_nil ?_
       refine rk_ret Try.func45 (v := .int .i64 1) (res1 Try.results45 (rv_tmp rfl rfl)) ⟨_, rfl, ?_⟩
       exact ⟨(vi (by unfold cmpS spotLt; grind)), E10⟩
set_option maxHeartbeats 1000000 in
theorem sSegOk_ok {w : World} {ax ay bx b_y : Int}   : Ct Try.prog 42 [.agg #[.int .i64 ax, .int .i64 ay, .int .i64 bx, .int .i64 b_y]] w fun v w1 => v = .bool (decide (segOk ax ay bx b_y)) ∧ Ext w w1 := by
 refine ct_run (n := 18) Try.func42 rfl Try.ntmps42 rfl ?_
 have E0 : Below w.heap.size w w := Below.refl _ _
 refine rk_seq ?_
 refine rk_reg ?_
 refine lw_e (oe_box (v := .agg #[.int .i64 ax, .int .i64 ay, .int .i64 bx, .int .i64 b_y]) (cs := #[.int .i64 ax, .int .i64 ay, .int .i64 bx, .int .i64 b_y]) (T rfl rfl) rfl ?_)
 intro b1 w2 n3
 have N4 : w.heap.size ≤ b1 := n3.eq ▸ E0.size
 have E5 := below_ext E0 E0.size n3.ext
 refine lw_v (.bool false) (dv_assign C) ?_
 refine lw_nil ?_
 refine rk_seq ?_
 refine rk_reg ?_
 refine lw_v (.pointer (some ⟨b1, 0, none⟩)) (dv_fieldAddr (a := ⟨b1, 0, none⟩) (a' := ⟨b1, 0, none⟩) fo27_0 (T rfl rfl) rfl) ?_
 refine lw_v (.agg #[.int .i64 ax, .int .i64 ay]) (dv_loads (l := [.int .i64 ax, .int .i64 ay]) agt25 sz25 (T rfl rfl) n3.blk rfl) ?_
 refine lw_e (oe_callf (vs := [.agg #[.int .i64 ax, .int .i64 ay]]) co88 (ar1 (T rfl rfl)) (sSpotOk_ok (x := ax) (y := ay)  ) ?_)
 rintro _ w6 ⟨rfl, e7⟩
 have E8 := below_ext E5 E5.size e7
 refine lw_v (.bool (decide (spotOk ax ay))) (dv_move (T rfl rfl)) ?_
 by_cases hb9 : spotOk ax ay
 · refine lw_vy (.pointer (some ⟨b1, 2, none⟩)) (d := 6) rfl rfl (congrArg Value.bool (decide_eq_true hb9)) (dv_fieldAddr (a := ⟨b1, 0, none⟩) (a' := ⟨b1, 2, none⟩) fo27_1 (T rfl rfl) rfl) ?_
   have H10 := (e7.blk n3.blk)
   refine lw_vy (.agg #[.int .i64 bx, .int .i64 b_y]) (d := 6) rfl rfl (congrArg Value.bool (decide_eq_true hb9)) (dv_loads (l := [.int .i64 bx, .int .i64 b_y]) agt25 sz25 (T rfl rfl) H10 rfl) ?_
   refine lw_ey (d := 6) rfl rfl (congrArg Value.bool (decide_eq_true hb9)) (oe_callf (vs := [.agg #[.int .i64 bx, .int .i64 b_y]]) co88 (ar1 (T rfl rfl)) (sSpotOk_ok (x := bx) (y := b_y)  ) ?_)
   rintro _ w11 ⟨rfl, e12⟩
   have E13 := below_ext E8 E8.size e12
   refine lw_v (.bool (decide (spotOk bx b_y))) (dv_pick_t (T rfl (congrArg Value.bool (decide_eq_true hb9))) (T rfl rfl)) ?_
   refine lw_v (.bool (decide (spotOk bx b_y))) (dv_move (T rfl rfl)) ?_
   by_cases hb14 : spotOk bx b_y
   · refine lw_vy (.pointer (some ⟨b1, 0, none⟩)) (d := 11) rfl rfl (congrArg Value.bool (decide_eq_true hb14)) (dv_fieldAddr (a := ⟨b1, 0, none⟩) (a' := ⟨b1, 0, none⟩) fo27_0 (T rfl rfl) rfl) ?_
     have H15 := (e12.blk H10)
     refine lw_vy (.agg #[.int .i64 ax, .int .i64 ay]) (d := 11) rfl rfl (congrArg Value.bool (decide_eq_true hb14)) (dv_loads (l := [.int .i64 ax, .int .i64 ay]) agt25 sz25 (T rfl rfl) H15 rfl) ?_
     refine lw_vy (.pointer (some ⟨b1, 2, none⟩)) (d := 11) rfl rfl (congrArg Value.bool (decide_eq_true hb14)) (dv_fieldAddr (a := ⟨b1, 0, none⟩) (a' := ⟨b1, 2, none⟩) fo27_1 (T rfl rfl) rfl) ?_
     refine lw_vy (.agg #[.int .i64 bx, .int .i64 b_y]) (d := 11) rfl rfl (congrArg Value.bool (decide_eq_true hb14)) (dv_loads (l := [.int .i64 bx, .int .i64 b_y]) agt25 sz25 (T rfl rfl) H15 rfl) ?_
     refine lw_ey (d := 11) rfl rfl (congrArg Value.bool (decide_eq_true hb14)) (oe_callf (vs := [.agg #[.int .i64 ax, .int .i64 ay], .agg #[.int .i64 bx, .int .i64 b_y]]) co89 (ar2 (T rfl rfl) (T rfl rfl)) (l4Less_ok (ax := ax) (ay := ay) (bx := bx) (b_y := b_y)  ) ?_)
     rintro _ w16 ⟨rfl, e17⟩
     have E18 := below_ext E13 E13.size e17
     refine lw_v (.bool (decide (spotLt ax ay bx b_y))) (dv_pick_t (T rfl (congrArg Value.bool (decide_eq_true hb14))) (T rfl rfl)) ?_
     refine lw_v (.bool (decide (spotLt ax ay bx b_y))) (dv_assign (T rfl rfl)) ?_
     refine lw_nil ?_
     refine rk_ret Try.func42 (v := .bool (decide (spotLt ax ay bx b_y))) (res1 Try.results42 (rv_tmp rfl rfl)) ⟨_, rfl, ?_⟩
     exact ⟨(vb (by grind [segOk, cmpS_neg])), E18⟩
   · refine lw_no (d := 11) rfl rfl (congrArg Value.bool (decide_eq_false hb14)) ?_
     refine lw_no (d := 11) rfl rfl (congrArg Value.bool (decide_eq_false hb14)) ?_
     refine lw_no (d := 11) rfl rfl (congrArg Value.bool (decide_eq_false hb14)) ?_
     refine lw_no (d := 11) rfl rfl (congrArg Value.bool (decide_eq_false hb14)) ?_
     refine lw_no (d := 11) rfl rfl (congrArg Value.bool (decide_eq_false hb14)) ?_
     refine lw_v (.bool false) (dv_pick_f (T rfl (congrArg Value.bool (decide_eq_false hb14))) C) ?_
     refine lw_v (.bool false) (dv_assign (T rfl rfl)) ?_
     refine lw_nil ?_
     refine rk_ret Try.func42 (v := .bool false) (res1 Try.results42 (rv_tmp rfl rfl)) ⟨_, rfl, ?_⟩
     exact ⟨(vf (by grind [segOk, cmpS_neg])), E13⟩
 · refine lw_no (d := 6) rfl rfl (congrArg Value.bool (decide_eq_false hb9)) ?_
   refine lw_no (d := 6) rfl rfl (congrArg Value.bool (decide_eq_false hb9)) ?_
   refine lw_no (d := 6) rfl rfl (congrArg Value.bool (decide_eq_false hb9)) ?_
   refine lw_v (.bool false) (dv_pick_f (T rfl (congrArg Value.bool (decide_eq_false hb9))) C) ?_
   refine lw_v (.bool false) (dv_move (T rfl rfl)) ?_
   refine lw_no (d := 11) rfl rfl (rfl) ?_
   refine lw_no (d := 11) rfl rfl (rfl) ?_
   refine lw_no (d := 11) rfl rfl (rfl) ?_
   refine lw_no (d := 11) rfl rfl (rfl) ?_
   refine lw_no (d := 11) rfl rfl (rfl) ?_
   refine lw_v (.bool false) (dv_pick_f (T rfl rfl) C) ?_
   refine lw_v (.bool false) (dv_assign (T rfl rfl)) ?_
   refine lw_nil ?_
   refine rk_ret Try.func42 (v := .bool false) (res1 Try.results42 (rv_tmp rfl rfl)) ⟨_, rfl, ?_⟩
   exact ⟨(vf (by grind [segOk, cmpS_neg])), E8⟩
set_option maxHeartbeats 1000000 in
theorem iSegOk_ok {w : World} {ax ay bx b_y : Int}   : Ct Try.prog 11 [.agg #[.int .i64 ax, .int .i64 ay, .int .i64 bx, .int .i64 b_y]] w fun v w1 => v = .bool (decide (segOk ax ay bx b_y)) ∧ Ext w w1 := by
 refine ct_run (n := 19) Try.func11 rfl Try.ntmps11 rfl ?_
 have E0 : Below w.heap.size w w := Below.refl _ _
 refine rk_seq ?_
 refine rk_reg ?_
 refine lw_e (oe_box (v := .agg #[.int .i64 ax, .int .i64 ay, .int .i64 bx, .int .i64 b_y]) (cs := #[.int .i64 ax, .int .i64 ay, .int .i64 bx, .int .i64 b_y]) (T rfl rfl) rfl ?_)
 intro b1 w2 n3
 have N4 : w.heap.size ≤ b1 := n3.eq ▸ E0.size
 have E5 := below_ext E0 E0.size n3.ext
 refine lw_v (.bool false) (dv_assign C) ?_
 refine lw_nil ?_
 refine rk_seq ?_
 refine rk_reg ?_
 refine lw_v (.pointer (some ⟨b1, 0, none⟩)) (dv_fieldAddr (a := ⟨b1, 0, none⟩) (a' := ⟨b1, 0, none⟩) fo27_0 (T rfl rfl) rfl) ?_
 refine lw_v (.agg #[.int .i64 ax, .int .i64 ay]) (dv_loads (l := [.int .i64 ax, .int .i64 ay]) agt25 sz25 (T rfl rfl) n3.blk rfl) ?_
 refine lw_e (oe_callf (vs := [.agg #[.int .i64 ax, .int .i64 ay]]) co12 (ar1 (T rfl rfl)) (iSpotOk_ok (x := ax) (y := ay)  ) ?_)
 rintro _ w6 ⟨rfl, e7⟩
 have E8 := below_ext E5 E5.size e7
 refine lw_v (.bool (decide (spotOk ax ay))) (dv_move (T rfl rfl)) ?_
 by_cases hb9 : spotOk ax ay
 · refine lw_vy (.pointer (some ⟨b1, 2, none⟩)) (d := 6) rfl rfl (congrArg Value.bool (decide_eq_true hb9)) (dv_fieldAddr (a := ⟨b1, 0, none⟩) (a' := ⟨b1, 2, none⟩) fo27_1 (T rfl rfl) rfl) ?_
   have H10 := (e7.blk n3.blk)
   refine lw_vy (.agg #[.int .i64 bx, .int .i64 b_y]) (d := 6) rfl rfl (congrArg Value.bool (decide_eq_true hb9)) (dv_loads (l := [.int .i64 bx, .int .i64 b_y]) agt25 sz25 (T rfl rfl) H10 rfl) ?_
   refine lw_ey (d := 6) rfl rfl (congrArg Value.bool (decide_eq_true hb9)) (oe_callf (vs := [.agg #[.int .i64 bx, .int .i64 b_y]]) co12 (ar1 (T rfl rfl)) (iSpotOk_ok (x := bx) (y := b_y)  ) ?_)
   rintro _ w11 ⟨rfl, e12⟩
   have E13 := below_ext E8 E8.size e12
   refine lw_v (.bool (decide (spotOk bx b_y))) (dv_pick_t (T rfl (congrArg Value.bool (decide_eq_true hb9))) (T rfl rfl)) ?_
   refine lw_v (.bool (decide (spotOk bx b_y))) (dv_move (T rfl rfl)) ?_
   by_cases hb14 : spotOk bx b_y
   · refine lw_vy (.pointer (some ⟨b1, 0, none⟩)) (d := 11) rfl rfl (congrArg Value.bool (decide_eq_true hb14)) (dv_fieldAddr (a := ⟨b1, 0, none⟩) (a' := ⟨b1, 0, none⟩) fo27_0 (T rfl rfl) rfl) ?_
     have H15 := (e12.blk H10)
     refine lw_vy (.agg #[.int .i64 ax, .int .i64 ay]) (d := 11) rfl rfl (congrArg Value.bool (decide_eq_true hb14)) (dv_loads (l := [.int .i64 ax, .int .i64 ay]) agt25 sz25 (T rfl rfl) H15 rfl) ?_
     refine lw_vy (.pointer (some ⟨b1, 2, none⟩)) (d := 11) rfl rfl (congrArg Value.bool (decide_eq_true hb14)) (dv_fieldAddr (a := ⟨b1, 0, none⟩) (a' := ⟨b1, 2, none⟩) fo27_1 (T rfl rfl) rfl) ?_
     refine lw_vy (.agg #[.int .i64 bx, .int .i64 b_y]) (d := 11) rfl rfl (congrArg Value.bool (decide_eq_true hb14)) (dv_loads (l := [.int .i64 bx, .int .i64 b_y]) agt25 sz25 (T rfl rfl) H15 rfl) ?_
     refine lw_ey (d := 11) rfl rfl (congrArg Value.bool (decide_eq_true hb14)) (oe_callf (vs := [.agg #[.int .i64 ax, .int .i64 ay], .agg #[.int .i64 bx, .int .i64 b_y]]) co45 (ar2 (T rfl rfl) (T rfl rfl)) (cmpSpots_ok (ax := ax) (ay := ay) (bx := bx) (b_y := b_y)  ) ?_)
     rintro _ w16 ⟨rfl, e17⟩
     have E18 := below_ext E13 E13.size e17
     refine lw_vy (.bool (decide ((cmpS ax ay bx b_y) < 0))) (d := 11) rfl rfl (congrArg Value.bool (decide_eq_true hb14)) (dv_lss (a := cmpS ax ay bx b_y) (b := 0) (T rfl rfl) C) ?_
     refine lw_v (.bool (decide ((cmpS ax ay bx b_y) < 0))) (dv_pick_t (T rfl (congrArg Value.bool (decide_eq_true hb14))) (T rfl rfl)) ?_
     refine lw_v (.bool (decide ((cmpS ax ay bx b_y) < 0))) (dv_assign (T rfl rfl)) ?_
     refine lw_nil ?_
     refine rk_ret Try.func11 (v := .bool (decide ((cmpS ax ay bx b_y) < 0))) (res1 Try.results11 (rv_tmp rfl rfl)) ⟨_, rfl, ?_⟩
     exact ⟨(vb (by grind [segOk, cmpS_neg])), E18⟩
   · refine lw_no (d := 11) rfl rfl (congrArg Value.bool (decide_eq_false hb14)) ?_
     refine lw_no (d := 11) rfl rfl (congrArg Value.bool (decide_eq_false hb14)) ?_
     refine lw_no (d := 11) rfl rfl (congrArg Value.bool (decide_eq_false hb14)) ?_
     refine lw_no (d := 11) rfl rfl (congrArg Value.bool (decide_eq_false hb14)) ?_
     refine lw_no (d := 11) rfl rfl (congrArg Value.bool (decide_eq_false hb14)) ?_
     refine lw_no (d := 11) rfl rfl (congrArg Value.bool (decide_eq_false hb14)) ?_
     refine lw_v (.bool false) (dv_pick_f (T rfl (congrArg Value.bool (decide_eq_false hb14))) C) ?_
     refine lw_v (.bool false) (dv_assign (T rfl rfl)) ?_
     refine lw_nil ?_
     refine rk_ret Try.func11 (v := .bool false) (res1 Try.results11 (rv_tmp rfl rfl)) ⟨_, rfl, ?_⟩
     exact ⟨(vf (by grind [segOk, cmpS_neg])), E13⟩
 · refine lw_no (d := 6) rfl rfl (congrArg Value.bool (decide_eq_false hb9)) ?_
   refine lw_no (d := 6) rfl rfl (congrArg Value.bool (decide_eq_false hb9)) ?_
   refine lw_no (d := 6) rfl rfl (congrArg Value.bool (decide_eq_false hb9)) ?_
   refine lw_v (.bool false) (dv_pick_f (T rfl (congrArg Value.bool (decide_eq_false hb9))) C) ?_
   refine lw_v (.bool false) (dv_move (T rfl rfl)) ?_
   refine lw_no (d := 11) rfl rfl (rfl) ?_
   refine lw_no (d := 11) rfl rfl (rfl) ?_
   refine lw_no (d := 11) rfl rfl (rfl) ?_
   refine lw_no (d := 11) rfl rfl (rfl) ?_
   refine lw_no (d := 11) rfl rfl (rfl) ?_
   refine lw_no (d := 11) rfl rfl (rfl) ?_
   refine lw_v (.bool false) (dv_pick_f (T rfl rfl) C) ?_
   refine lw_v (.bool false) (dv_assign (T rfl rfl)) ?_
   refine lw_nil ?_
   refine rk_ret Try.func11 (v := .bool false) (res1 Try.results11 (rv_tmp rfl rfl)) ⟨_, rfl, ?_⟩
   exact ⟨(vf (by grind [segOk, cmpS_neg])), E8⟩
end Go.Proofs.Ytmbpomcbdopgnaa.W
set_option linter.unusedVariables false
set_option linter.unusedSimpArgs false
namespace Go.Proofs.Ytmbpomcbdopgnaa.W
open Go Go.RowKit Go.Proofs.Ytmbpomcbdopgnaa.Fw
attribute [local irreducible] RunK LW AW DV OE Ct
theorem co125 : callOk Try.prog 125 = true := by kernel_rfl
theorem co127 : callOk Try.prog 127 = true := by kernel_rfl
theorem pl40 : placesB Try.prog 40 = some [(0, 4), (4, 4), (8, 4)] := by kernel_rfl
theorem zc40 : zcB Try.prog 40 = some [.int .u64 0, .int .u64 0, .int .u64 0, .int .u64 0, .int .u64 0, .int .u64 0, .int .u64 0, .int .u64 0, .int .u64 0, .int .u64 0, .int .u64 0, .int .u64 0] := by kernel_rfl
set_option maxHeartbeats 1000000 in
theorem iWideOf_ok {w : World} {x : Int}  (hx : -9223372036854775808 ≤ x ∧ x < 9223372036854775808) : Ct Try.prog 125 [.int .i64 x] w fun v w1 => v = .agg #[.int .u64 (wv3 x), .int .u64 (wv2 x), .int .u64 (wv1 x), .int .u64 (wv0 x)] ∧ Ext w w1 := by
 refine ct_run (n := 12) Try.func125 rfl Try.ntmps125 rfl ?_
 have E0 : Below w.heap.size w w := Below.refl _ _
 refine rk_seq ?_
 refine rk_reg ?_
 refine lw_e (oe_alloc ze38 ?_)
 intro b1 w2 n3
 have N4 : w.heap.size ≤ b1 := n3.eq ▸ E0.size
 have E5 := below_ext E0 E0.size n3.ext
 refine lw_nil ?_
 refine rk_seq ?_
 refine rk_reg ?_
 refine lw_v (.int .i64 x) (dv_move (T rfl rfl)) ?_
 refine lw_e (oe_callf (vs := [.int .i64 x]) co70 (ar1 (T rfl rfl)) (whole_ok  (by omega)) ?_)
 rintro _ w11 ⟨nr6, A7, n8, c9, rfl, e12, h10⟩
 have E13 := below_ext E5 E5.size e12
 have lh10 := Num.len (by decide) h10
 refine lw_e (oe_callf (vs := [.agg #[.bool nr6, .slice A7 n8 c9]]) co127 (ar1 (T rfl rfl)) (nwide_ok h10 (by first | decide | omega)) ?_)
 rintro _ w15 ⟨rfl, e16⟩
 have E17 := below_ext E13 E13.size e16
 have bw14 := w_rg (x)
 refine lw_v (.tuple #[.agg #[.int .u64 (wv3 x), .int .u64 (wv2 x), .int .u64 (wv1 x), .int .u64 (wv0 x)], .bool (decide (fits x))]) (dv_move (T rfl rfl)) ?_
 refine lw_v (.agg #[.int .u64 (wv3 x), .int .u64 (wv2 x), .int .u64 (wv1 x), .int .u64 (wv0 x)]) (dv_extract (vs := #[.agg #[.int .u64 (wv3 x), .int .u64 (wv2 x), .int .u64 (wv1 x), .int .u64 (wv0 x)], .bool (decide (fits x))]) (T rfl rfl) rfl) ?_
 refine lw_v (.bool (decide (fits x))) (dv_extract (vs := #[.agg #[.int .u64 (wv3 x), .int .u64 (wv2 x), .int .u64 (wv1 x), .int .u64 (wv0 x)], .bool (decide (fits x))]) (T rfl rfl) rfl) ?_
 refine lw_e (oe_alloc ze38 ?_)
 intro b18 w19 n20
 have N21 : w.heap.size ≤ b18 := n20.eq ▸ E17.size
 have H22 := (e16.blk (e12.blk n3.blk))
 have : b1 < b18 := n20.eq ▸ lt_of_blk H22
 have E23 := below_ext E17 E17.size n20.ext
 refine lw_e (oe_store (v := .agg #[.int .u64 (wv3 x), .int .u64 (wv2 x), .int .u64 (wv1 x), .int .u64 (wv0 x)]) (vs := [.int .u64 (wv3 x), .int .u64 (wv2 x), .int .u64 (wv1 x), .int .u64 (wv0 x)]) (l := [.int .u64 (wv3 x), .int .u64 (wv2 x), .int .u64 (wv1 x), .int .u64 (wv0 x)]) (T rfl rfl) (T rfl rfl) sz38 rfl rfl rfl n20.blk rfl ?_)
 intro w24 s25 H26
 have E27 := below_st E23 N21 s25
 refine lw_v (.bool (decide (fits x))) (dv_assign (T rfl rfl)) ?_
 refine lw_nil ?_
 refine rk_seq ?_
 refine rk_reg ?_
 refine lw_v (.agg #[.int .u64 (wv3 x), .int .u64 (wv2 x), .int .u64 (wv1 x), .int .u64 (wv0 x)]) (dv_loads (l := [.int .u64 (wv3 x), .int .u64 (wv2 x), .int .u64 (wv1 x), .int .u64 (wv0 x)]) agt38 sz38 (T rfl rfl) H26 rfl) ?_
 have H28 := (s25.blk (n20.ext.blk H22) (by omega))
 refine lw_e (oe_store (v := .agg #[.int .u64 (wv3 x), .int .u64 (wv2 x), .int .u64 (wv1 x), .int .u64 (wv0 x)]) (vs := [.int .u64 (wv3 x), .int .u64 (wv2 x), .int .u64 (wv1 x), .int .u64 (wv0 x)]) (l := [.int .u64 (wv3 x), .int .u64 (wv2 x), .int .u64 (wv1 x), .int .u64 (wv0 x)]) (T rfl rfl) (T rfl rfl) sz38 rfl rfl rfl H28 rfl ?_)
 intro w29 s30 H31
 have E32 := below_st E27 N4 s30
 refine lw_nil ?_
 refine rk_ret Try.func125 (v := .agg #[.int .u64 (wv3 x), .int .u64 (wv2 x), .int .u64 (wv1 x), .int .u64 (wv0 x)]) (res1 Try.results125 (rv_cells (l := [.int .u64 (wv3 x), .int .u64 (wv2 x), .int .u64 (wv1 x), .int .u64 (wv0 x)]) agt38 sz38 rfl rfl H31 rfl)) ⟨_, rfl, ?_⟩
 exact ⟨rfl, E32⟩
set_option maxHeartbeats 1000000 in
theorem PointOf_ok {w : World} {x y : Int}  (hx : -9223372036854775808 ≤ x ∧ x ≤ 9223372036854775807) (hy : -9223372036854775808 ≤ y ∧ y ≤ 9223372036854775807) : Ct Try.prog 92 [.agg #[.int .i64 x, .int .i64 y]] w fun v w1 => v = .agg #[.int .u64 (wv3 x), .int .u64 (wv2 x), .int .u64 (wv1 x), .int .u64 (wv0 x), .int .u64 (wv3 y), .int .u64 (wv2 y), .int .u64 (wv1 y), .int .u64 (wv0 y), .int .u64 (wv3 1), .int .u64 (wv2 1), .int .u64 (wv1 1), .int .u64 (wv0 1)] ∧ Ext w w1 := by
 refine ct_run (n := 11) Try.func92 rfl Try.ntmps92 rfl ?_
 have E0 : Below w.heap.size w w := Below.refl _ _
 refine rk_seq ?_
 refine rk_reg ?_
 refine lw_e (oe_box (v := .agg #[.int .i64 x, .int .i64 y]) (cs := #[.int .i64 x, .int .i64 y]) (T rfl rfl) rfl ?_)
 intro b1 w2 n3
 have N4 : w.heap.size ≤ b1 := n3.eq ▸ E0.size
 have E5 := below_ext E0 E0.size n3.ext
 refine lw_e (oe_alloc ze40 ?_)
 intro b6 w7 n8
 have N9 : w.heap.size ≤ b6 := n8.eq ▸ E5.size
 have : b1 < b6 := n8.eq ▸ lt_of_blk n3.blk
 have E10 := below_ext E5 E5.size n8.ext
 refine lw_nil ?_
 refine rk_seq ?_
 refine rk_any (fun w => w.heap[b1]? = some (.cells #[.int .i64 x, .int .i64 y] 25)) [8] mo ?_
 intro w11 d12
 have E13 := below_ext E10 E10.size d12.ext
 have H14 := (d12.ext.blk (n8.ext.blk n3.blk))
 refine aw_pure 0 (.pointer (some ⟨b1, 0, none⟩)) rfl (by kernel_rfl) .none H14 (fun _ => dv_fieldAddr (a := ⟨b1, 0, none⟩) (a' := ⟨b1, 0, none⟩) fo25_0 (T rfl rfl) rfl) ?_
 refine aw_load 1 (.int .i64 x) rfl (by kernel_rfl) .none H14 (fun _ s => dv_load1 (b := b1) (o := 0) agt2 (T rfl rfl) s rfl) ?_
 refine aw_pure 3 (.pointer (some ⟨b1, 1, none⟩)) rfl (by kernel_rfl) .none H14 (fun _ => dv_fieldAddr (a := ⟨b1, 0, none⟩) (a' := ⟨b1, 1, none⟩) fo25_1 (T rfl rfl) rfl) ?_
 refine aw_load 4 (.int .i64 y) rfl (by kernel_rfl) .none H14 (fun _ s => dv_load1 (b := b1) (o := 1) agt2 (T rfl rfl) s rfl) ?_
 refine aw_one 2 rfl (by kernel_rfl) .none (oe_callf (vs := [.int .i64 x]) co125 (ar1 (T rfl rfl)) (iWideOf_ok (x := x)  (by omega)) ?_)
 rintro _ w15 ⟨rfl, e16⟩
 have E17 := below_ext E13 E13.size e16
 have H18 := (e16.blk H14)
 refine ⟨.inr H18, ?_⟩
 refine aw_one 5 rfl (by kernel_rfl) .none (oe_callf (vs := [.int .i64 y]) co125 (ar1 (T rfl rfl)) (iWideOf_ok (x := y)  (by omega)) ?_)
 rintro _ w19 ⟨rfl, e20⟩
 have E21 := below_ext E17 E17.size e20
 have H22 := (e20.blk H18)
 refine ⟨.inr H22, ?_⟩
 refine aw_one 6 rfl (by kernel_rfl) .none (oe_callf (vs := [.int .i64 1]) co125 (ar1 C) (iWideOf_ok (x := 1)  (by omega)) ?_)
 rintro _ w23 ⟨rfl, e24⟩
 have E25 := below_ext E21 E21.size e24
 have H26 := (e24.blk H22)
 refine ⟨.inr H26, ?_⟩
 refine aw_pure 7 (.agg #[.int .u64 (wv3 x), .int .u64 (wv2 x), .int .u64 (wv1 x), .int .u64 (wv0 x), .int .u64 (wv3 y), .int .u64 (wv2 y), .int .u64 (wv1 y), .int .u64 (wv0 y), .int .u64 (wv3 (1 : Int)), .int .u64 (wv2 (1 : Int)), .int .u64 (wv1 (1 : Int)), .int .u64 (wv0 (1 : Int))]) rfl (by kernel_rfl) .none H26 (fun _ => dv_build (pv := [(0, .agg #[.int .u64 (wv3 x), .int .u64 (wv2 x), .int .u64 (wv1 x), .int .u64 (wv0 x)]), (1, .agg #[.int .u64 (wv3 y), .int .u64 (wv2 y), .int .u64 (wv1 y), .int .u64 (wv0 y)]), (2, .agg #[.int .u64 (wv3 (1 : Int)), .int .u64 (wv2 (1 : Int)), .int .u64 (wv1 (1 : Int)), .int .u64 (wv0 (1 : Int))])]) (l := [.int .u64 (wv3 x), .int .u64 (wv2 x), .int .u64 (wv1 x), .int .u64 (wv0 x), .int .u64 (wv3 y), .int .u64 (wv2 y), .int .u64 (wv1 y), .int .u64 (wv0 y), .int .u64 (wv3 (1 : Int)), .int .u64 (wv2 (1 : Int)), .int .u64 (wv1 (1 : Int)), .int .u64 (wv0 (1 : Int))]) zc40 pl40 ⟨rfl, (T rfl rfl), ⟨rfl, (T rfl rfl), ⟨rfl, (T rfl rfl), trivial⟩⟩⟩ rfl) ?_
 have H27 := (e24.blk (e20.blk (e16.blk (d12.ext.blk n8.blk))))
 refine aw_one 8 rfl (by kernel_rfl) .none (oe_store (v := .agg #[.int .u64 (wv3 x), .int .u64 (wv2 x), .int .u64 (wv1 x), .int .u64 (wv0 x), .int .u64 (wv3 y), .int .u64 (wv2 y), .int .u64 (wv1 y), .int .u64 (wv0 y), .int .u64 (wv3 (1 : Int)), .int .u64 (wv2 (1 : Int)), .int .u64 (wv1 (1 : Int)), .int .u64 (wv0 (1 : Int))]) (vs := [.int .u64 (wv3 x), .int .u64 (wv2 x), .int .u64 (wv1 x), .int .u64 (wv0 x), .int .u64 (wv3 y), .int .u64 (wv2 y), .int .u64 (wv1 y), .int .u64 (wv0 y), .int .u64 (wv3 (1 : Int)), .int .u64 (wv2 (1 : Int)), .int .u64 (wv1 (1 : Int)), .int .u64 (wv0 (1 : Int))]) (l := [.int .u64 (wv3 x), .int .u64 (wv2 x), .int .u64 (wv1 x), .int .u64 (wv0 x), .int .u64 (wv3 y), .int .u64 (wv2 y), .int .u64 (wv1 y), .int .u64 (wv0 y), .int .u64 (wv3 (1 : Int)), .int .u64 (wv2 (1 : Int)), .int .u64 (wv1 (1 : Int)), .int .u64 (wv0 (1 : Int))]) (T rfl rfl) (T rfl rfl) sz40 rfl rfl rfl H27 rfl ?_)
 intro w28 s29 H30
 have E31 := below_st E25 N9 s29
 refine ⟨.inl rfl, ?_⟩
 refine aw_done (by kernel_rfl) ?_
 refine rk_ret Try.func92 (v := .agg #[.int .u64 (wv3 x), .int .u64 (wv2 x), .int .u64 (wv1 x), .int .u64 (wv0 x), .int .u64 (wv3 y), .int .u64 (wv2 y), .int .u64 (wv1 y), .int .u64 (wv0 y), .int .u64 (wv3 (1 : Int)), .int .u64 (wv2 (1 : Int)), .int .u64 (wv1 (1 : Int)), .int .u64 (wv0 (1 : Int))]) (res1 Try.results92 (rv_cells (l := [.int .u64 (wv3 x), .int .u64 (wv2 x), .int .u64 (wv1 x), .int .u64 (wv0 x), .int .u64 (wv3 y), .int .u64 (wv2 y), .int .u64 (wv1 y), .int .u64 (wv0 y), .int .u64 (wv3 (1 : Int)), .int .u64 (wv2 (1 : Int)), .int .u64 (wv1 (1 : Int)), .int .u64 (wv0 (1 : Int))]) agt40 sz40 rfl rfl H30 rfl)) ⟨_, rfl, ?_⟩
 exact ⟨(ag12 rfl rfl rfl rfl rfl rfl rfl rfl (vi (by rfl)) (vi (by rfl)) (vi (by rfl)) (vi (by rfl))), E31⟩
end Go.Proofs.Ytmbpomcbdopgnaa.W
