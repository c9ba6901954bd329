/- Walks and plain mathematics, packed by a program of this session: declarations that the rows reach. -/
import Derived.Test.YtmbpomcbdopgnaaPvf
set_option linter.unusedVariables false
set_option linter.unusedSimpArgs false
namespace Go.Proofs.Ytmbpomcbdopgnaa.W
open Go Go.RowKit Go.Proofs.Ytmbpomcbdopgnaa.Fw
attribute [local irreducible] RunK LW AW DV OE Ct
theorem co147 : callOk Try.prog 147 = true := by kernel_rfl
theorem co148 : callOk Try.prog 148 = true := by kernel_rfl
set_option maxHeartbeats 4000000 in
theorem divWords_ok {w : World} {Aa Ab : Option Addr} {la ca lb cb : Nat} {x y : Int} (ha : Wc 64 36 .u64 w Aa la ca x) (hb : Wc 64 36 .u64 w Ab lb cb y) (hy : 0 < y) (hla : la ≤ 400000) (hlb : lb ≤ 400000) : Ct Try.prog 135 [.slice Aa la ca, .slice Ab lb cb] w fun v w1 => ∃ A1 n1 c1 A2 n2 c2, v = .tuple #[.slice A1 n1 c1, .slice A2 n2 c2] ∧ Ext w w1 ∧ Wc 64 36 .u64 w1 A1 n1 c1 (x / y) ∧ Wc 64 36 .u64 w1 A2 n2 c2 (x % y) := by
 refine ct_run (n := 326) Try.func135 rfl Try.ntmps135 rfl ?_
 have E0 : Below w.heap.size w w := Below.refl _ _
 obtain ⟨xs, hxl, hxc, hxw, ox, hxk, hxv⟩ := id ha
 obtain ⟨ys, hyl, hyc, hyw, oy, hyk, hyv⟩ := id hb
 have hlp := hb.pos
 have hx0 := ha.nonneg
 refine rk_seq <| rk_reg <| lw_v (.slice none 0 0) (dv_assign C) <| lw_v (.slice none 0 0) (dv_assign C) <| lw_nil <| rk_seq <| rk_seq <| rk_reg <| qm (.slice Aa la ca) rfl rfl <| qm (.slice Ab lb cb) rfl rfl <| lw_e (oe_callf (vs := [.slice Aa la ca, .slice Ab lb cb]) co119 (ar2 (Z rfl) (Z rfl)) (cmpWords_wc ha hb (by first | omega | simp <;> omega) (by first | omega | simp <;> omega)) ?_)
 rintro _ w3 ⟨r1, rfl, e4, hr2⟩
 have E5 := qe E0 e4
 have qhr2 := cmpR.ge hr2
 have phr2 := cmpR.eq hr2
 refine lw_v _ (dv_lss (a := r1) (b := 0) (Z rfl) C) <| lw_nil ?_
 by_cases hb6 : r1 < 0
 · refine rk_ct (T rfl (qT hb6)) <| rk_seq <| rk_reg <| qm (.slice Aa la ca) rfl rfl <| lw_v (.slice none 0 0) (dv_assign C) <| qs (.slice Aa la ca) rfl rfl <| lw_nil <| rk_ret Try.func135 (v := .tuple #[.slice none 0 0, .slice Aa la ca]) (res2 Try.results135 (rv_tmp rfl rfl) (rv_tmp rfl rfl)) ⟨_, rfl, ?_⟩
   have hq0 := Int.ediv_eq_zero_of_lt (a := x) (b := y) hx0 (by omega)
   have hr0 := Int.emod_eq_of_lt (a := x) (b := y) hx0 (by omega)
   have h7 := (ha.ext e4)
   exact ⟨_, _, _, _, _, _, rfl, E5, Wc.zero.eq hq0.symm, h7.eq hr0.symm⟩
 refine rk_cf (T rfl (qF hb6)) <| rk_skip <| rk_seq ?_
 have hle : y ≤ x := by omega
 have hll : lb ≤ la := by have := len_le ox oy hyk (by rw [← hxv, ← hyv]; exact hle); omega
 have hlbp : 0 < lb := hlp.2 hy
 refine rk_reg <| qm (.slice Ab lb cb) rfl rfl <| lw_v (qi (lb : Int)) (dv_len (ad := Ab) (l := lb) (c := cb) us105 (Z rfl)) <| qs (qi (lb : Int)) rfl rfl <| lw_nil <| rk_seq <| rk_seq <| rk_reg <| qm (qi (lb : Int)) rfl rfl <| lw_v _ (dv_eql (a := (lb : Int)) (b := 1) (Z rfl) C) <| lw_nil ?_
 by_cases hb8 : ((lb : Int)) = 1
 · refine rk_ct (T rfl (qT hb8)) <| rk_seq ?_
   have hy1 : y = ys.getD 0 0 := by rw [hyv, valB_head, List.drop_eq_nil_of_le (by omega)]; simp [valB]
   refine rk_reg <| qm (.slice Aa la ca) rfl rfl <| lw_v (qi (la : Int)) (dv_len (ad := Aa) (l := la) (c := ca) us105 (Z rfl)) <| lw_e (oe_makeW (l := la) (j := (la : Int)) us105 in36 (Z rfl) (Z rfl) (by omega) (by first | omega | simp <;> omega) (by first | omega | simp <;> omega) ?_)
   intro b9 w10 n11
   have N12 : w.heap.size ≤ b9 := n11.eq ▸ E5.size
   have E13 := qe E5 n11.ext
   refine qs (.slice (some ⟨b9, 0, none⟩) la la) rfl rfl <| lw_v (qu 0) (dv_assign C) <| lw_nil <| rk_seq <| rk_seq <| rk_reg <| qm (.slice Aa la ca) rfl rfl <| lw_v (qi (la : Int)) (dv_len (ad := Aa) (l := la) (c := ca) us105 (Z rfl)) <| lw_v _ (dv_sub (a := (la : Int)) (b := 1) (z := (la : Int) - 1) (Z rfl) C (wr_i64 (by omega) (by omega))) <| qs (qi ((la : Int) - 1)) rfl rfl <| lw_nil <| rk_block <| rk_loop (fun dm_ fr wl => ∃ (n : Nat) (L : List Int) (r : Int), dm_ = n ∧ fr 0 = .slice Aa la ca ∧ fr 1 = .slice Ab lb cb ∧ fr 4 = .slice none 0 0 ∧ fr 5 = .slice none 0 0 ∧ fr 6 = qi (lb : Int) ∧ fr 7 = .slice (some ⟨b9, 0, none⟩) la la ∧ fr 8 = qu r ∧ fr 9 = qi ((n : Int) - 1) ∧ Below w.heap.size w wl ∧ wl.heap[b9]? = some (.cells (L.map (Value.int .u64)).toArray 36) ∧ (n ≤ la) ∧ (L.length = la) ∧ (okW (2 ^ 64) L) ∧ (0 ≤ r ∧ r < ys.getD 0 0) ∧ (valB (2 ^ 64) (xs.drop n) = ys.getD 0 0 * valB (2 ^ 64) (L.drop n) + r)) (la) ⟨la, (List.replicate la (0 : Int)), 0, rfl, rfl, rfl, rfl, rfl, rfl, rfl, rfl, (vi (by omega)), E13, n11.blk, (Nat.le_refl _), (by simp), (okW.replicate (by decide) _), (by omega), (by rw [List.drop_eq_nil_of_le (by omega), List.drop_eq_nil_of_le (by simp)]; simp [valB])⟩ ?_
   intro d18 fr17 w14 hI15 ih16
   obtain ⟨n, L, r, hd29, f19, f20, f21, f22, f23, f24, f25, f26, E27, H28, hn, hl, hok, hr, hv⟩ := hI15
   have bxs := okW.getD ox (by decide) (n - 1)
   have by0 := okW.getD oy (by decide) 0
   refine rk_seq <| rk_seq <| rk_reg <| qm (qi ((n : Int) - 1)) rfl f26 <| lw_v _ (dv_geq (a := (n : Int) - 1) (b := 0) (Z rfl) C) <| lw_nil ?_
   by_cases hb30 : 0 ≤ ((n : Int) - 1)
   · refine rk_ct (T rfl (qT hb30)) <| rk_skip <| rk_seq <| rk_block ?_
     have h31 := (hxw.ext E27)
     have h32 := (hyw.ext E27)
     refine rk_any (fun w => Wd w 36 .u64 Aa xs ∧ Wd w 36 .u64 Ab ys) [16] mo ?_
     intro w33 d34
     have E35 := qe E27 d34.ext
     have h36 := (h31.ext d34.ext)
     have h37 := (h32.ext d34.ext)
     refine aw_pure 0 (.slice (some ⟨b9, 0, none⟩) la la) rfl (by kernel_rfl) .none ⟨h36, h37⟩ (fun _ => dv_move (T rfl f24)) <| aw_pure 1 (qi ((n : Int) - 1)) rfl (by kernel_rfl) .none ⟨h36, h37⟩ (fun _ => dv_move (T rfl f26)) <| aw_pure 2 (qu r) rfl (by kernel_rfl) .none ⟨h36, h37⟩ (fun _ => dv_move (T rfl f25)) <| aw_pure 3 (.slice Aa la ca) rfl (by kernel_rfl) .none ⟨h36, h37⟩ (fun _ => dv_move (T rfl f19)) <| aw_pure 4 (qi ((n : Int) - 1)) rfl (by kernel_rfl) .none ⟨h36, h37⟩ (fun _ => dv_move (T rfl f26)) ?_
     obtain ⟨g38, o39, rfl⟩ := Wd.at h36 (by first | omega | simp <;> omega)
     refine aw_pure 5 (.pointer (some ⟨g38, o39 + (n - 1), none⟩)) rfl (by kernel_rfl) .none ⟨h36, h37⟩ (fun _ => dv_indexW (g := g38) (o := o39) (l := la) (c := ca) (i := (n - 1)) (j := (n : Int) - 1) us105 sz36 (Z rfl) (Z rfl) (by omega) (by first | omega | simp <;> omega)) <| aw_load 6 (qu (xs.getD (n - 1) 0)) rfl (by kernel_rfl) .none ⟨h36, h37⟩ (fun _ s => dv_load agt36 (Z rfl) (Wd.cell s.1 (by first | omega | simp <;> omega))) <| aw_pure 7 (.slice Ab lb cb) rfl (by kernel_rfl) .none ⟨h36, h37⟩ (fun _ => dv_move (T rfl f20)) ?_
     obtain ⟨g40, o41, rfl⟩ := Wd.at h37 (by first | omega | simp <;> omega)
     refine aw_pure 8 (.pointer (some ⟨g40, o41 + 0, none⟩)) rfl (by kernel_rfl) .none ⟨h36, h37⟩ (fun _ => dv_indexW (g := g40) (o := o41) (l := lb) (c := cb) (i := 0) (j := 0) us105 sz36 (Z rfl) C (by omega) (by first | omega | simp <;> omega)) <| aw_load 9 (qu (ys.getD 0 0)) rfl (by kernel_rfl) .none ⟨h36, h37⟩ (fun _ s => dv_load agt36 (Z rfl) (Wd.cell s.2 (by first | omega | simp <;> omega))) <| aw_one 10 rfl (by kernel_rfl) .none (oe_callf (vs := [qu r, qu (xs.getD (n - 1) 0), qu (ys.getD 0 0)]) co147 (ar3 (Z rfl) (Z rfl) (Z rfl)) (div64_q (hi := r) (lo := xs.getD (n - 1) 0) (y := ys.getD 0 0) (by omega) (by omega) (by omega) (by omega)) ?_)
     rintro _ w45 ⟨qd42, rd43, rfl, e46, hd44⟩
     have E47 := qe E35 e46
     obtain ⟨hd44a, hd44b, hd44c, hd44d⟩ := hd44
     have h48 := (h36.ext e46)
     have h49 := (h37.ext e46)
     refine ⟨.inr ⟨h48, h49⟩, ?_⟩
     refine aw_pure 11 (.tuple #[qu qd42, qu rd43]) rfl (by kernel_rfl) .none ⟨h48, h49⟩ (fun _ => dv_move (Z rfl)) <| aw_pure 12 (qu qd42) rfl (by kernel_rfl) .none ⟨h48, h49⟩ (fun _ => dv_extract (vs := #[qu qd42, qu rd43]) (Z rfl) rfl) <| aw_pure 13 (qu rd43) rfl (by kernel_rfl) .none ⟨h48, h49⟩ (fun _ => dv_extract (vs := #[qu qd42, qu rd43]) (Z rfl) rfl) <| aw_pure 14 (.pointer (some ⟨b9, (n - 1), none⟩)) rfl (by kernel_rfl) .none ⟨h48, h49⟩ (fun _ => dv_indexO (g := b9) (l := la) (c := la) (i := (n - 1)) (j := (n : Int) - 1) us105 sz36 (Z rfl) (Z rfl) (by omega) (by first | omega | simp <;> omega)) ?_
     have H50 := (e46.blk (d34.ext.blk H28))
     refine aw_one 15 rfl (by kernel_rfl) .none (oe_storeW (L := L) (i := (n - 1)) (z := qd42) sz36 (Z rfl) (Z rfl) H50 (by first | omega | simp <;> omega) ?_)
     intro w51 s52 H53
     have E54 := below_st E47 N12 s52
     have h55 := hxw.ext E54
     have h56 := hyw.ext E54
     refine ⟨.inr ⟨h55, h56⟩, ?_⟩
     refine aw_last 16 (qu rd43) rfl (by kernel_rfl) .none (fun _ => dv_assign (Z rfl)) <| aw_done (by kernel_rfl) <| rk_inBlock <| rk_reg <| qm (qi ((n : Int) - 1)) rfl f26 <| lw_v _ (dv_sub (a := (n : Int) - 1) (b := 1) (z := ((n : Int) - 1) - 1) (Z rfl) C (wr_i64 (by omega) (by omega))) <| qs (qi (((n : Int) - 1) - 1)) rfl rfl <| lw_nil <| ih16 (n - 1) _ _ (by rw [hd29]; omega) ⟨(n - 1), (L.set (n - 1) qd42), rd43, rfl, f19, f20, f21, f22, f23, f24, rfl, (vi (by omega)), E54, H53, (by omega), (by simp [hl]), (okW.set hok (by omega) (by omega) _), (by omega), (one_step (by omega) (by omega) (by omega) hv rfl hd44a)⟩
   refine rk_cf (T rfl (qF hb30)) <| rk_exit rfl <| rk_seq <| rk_reg <| qm (.slice (some ⟨b9, 0, none⟩) la la) rfl f24 <| lw_e (oe_callf (vs := [.slice (some ⟨b9, 0, none⟩) la la]) co139 (ar1 (Z rfl)) (trim_okl (Wd.ownW H28) (by first | omega | simp <;> omega) (by first | omega | simp <;> omega) (by first | rfl | first | (simp; done) | (simp; omega) | omega)) ?_)
   rintro _ w57 ⟨rfl, e58⟩
   have E59 := qe E27 e58
   refine qm (qu r) rfl f25 <| lw_e (oe_buildSlice (pv := [(0, qu r)]) (init := [qu 0]) (l := [qu r]) us105 sz36 rfl rfl zc36 (by kernel_rfl) ⟨rfl, (Z rfl), trivial⟩ rfl ?_)
   intro b60 w61 n62
   have N63 : w.heap.size ≤ b60 := n62.eq ▸ E59.size
   have H64 := (e58.blk H28)
   have : b9 < b60 := n62.eq ▸ lt_of_blk H64
   have E65 := qe E59 n62.ext
   refine lw_e (oe_callf (vs := [.slice (some ⟨b60, 0, none⟩) 1 1]) co139 (ar1 (Z rfl)) (trim_okl (Wd.ownW (xs := [r]) n62.blk) (by first | omega | simp <;> omega) (by first | omega | simp <;> omega) (by first | rfl | first | (simp; done) | (simp; omega) | omega)) ?_)
   rintro _ w66 ⟨rfl, e67⟩
   have E68 := qe E65 e67
   have := trimL_len ([r])
   simp only [List.length_cons, List.length_nil] at this
   refine qs (.slice (some ⟨b9, 0, none⟩) ((trimL L).length) la) rfl rfl <| qs (.slice (some ⟨b60, 0, none⟩) ((trimL ([r])).length) 1) rfl rfl <| lw_nil <| rk_ret Try.func135 (v := .tuple #[.slice (some ⟨b9, 0, none⟩) ((trimL L).length) la, .slice (some ⟨b60, 0, none⟩) ((trimL ([r])).length) 1]) (res2 Try.results135 (rv_tmp rfl rfl) (rv_tmp rfl rfl)) ⟨_, rfl, ?_⟩
   have h69 := (((Wd.trim ((Wd.ownW H28).ext e58)).ext n62.ext).ext e67)
   have hd := div_of (x := x) (y := y) (q := valB (2 ^ 64) L) (r := r) (by have h := hv; rw [show n = 0 by omega, List.drop_zero, List.drop_zero, ← hxv, ← hy1] at h; omega) hr.1 (by omega)
   have ht1 := trimL_len L
   have ht2 := trimL_len ([r])
   simp only [List.length_cons, List.length_nil, List.length_take] at ht1 ht2
   exact ⟨_, _, _, _, _, _, rfl, E68, ⟨trimL L, rfl, (by omega), h69, trimL_ok hok, trimL_canon _, (by rw [trimL_val]; exact hd.1.symm)⟩, ⟨trimL ([r]), rfl, (by first | omega | (simp; omega)), (Wd.trim ((Wd.ownW (xs := [r]) n62.blk).ext e67)), trimL_ok (okW.cons hr.1 (by rw [p64]; omega) okW.nil), trimL_canon _, (by rw [trimL_val]; exact (by simp only [valB]; rw [← hd.2]; omega))⟩⟩
 refine rk_cf (T rfl (qF hb8)) <| rk_skip <| rk_seq ?_
 have hlb2 : 2 ≤ lb := by omega
 have htop := canon_top oy hyk (by omega)
 rw [hyl] at htop
 have btop := okW.getD oy (by decide) (lb - 1)
 refine rk_reg <| qm (.slice Ab lb cb) rfl rfl <| qm (qi (lb : Int)) rfl rfl <| lw_v _ (dv_sub (a := (lb : Int)) (b := 1) (z := (lb : Int) - 1) (Z rfl) C (wr_i64 (by omega) (by omega))) ?_
 have h70 := (hyw.ext e4)
 obtain ⟨g71, o72, rfl⟩ := Wd.at h70 (by first | omega | simp <;> omega)
 refine lw_v (.pointer (some ⟨g71, o72 + ((lb) - 1), none⟩)) (dv_indexW (g := g71) (o := o72) (l := lb) (c := cb) (i := ((lb) - 1)) (j := (lb : Int) - 1) us105 sz36 (Z rfl) (Z rfl) (by omega) (by first | omega | simp <;> omega)) <| lw_v (qu (ys.getD (((lb) - 1)) 0)) (dv_load agt36 (Z rfl) (Wd.cell h70 (by first | omega | simp <;> omega))) <| lw_e (oe_callf (vs := [qu (ys.getD (((lb) - 1)) 0)]) co134 (ar1 (Z rfl)) (lzS_ok (by omega) (by omega)) ?_)
 rintro _ w77 ⟨S73, rfl, e78, hs74, hs75, hs76⟩
 have E79 := qe E5 e78
 refine qs (qi (S73 : Int)) rfl rfl <| lw_nil <| rk_seq <| rk_any (fun _ => True) [9] mo ?_
 intro w80 d81
 have E82 := qe E79 d81.ext
 refine aw_pure 0 (.slice (some ⟨g71, o72, none⟩) lb cb) rfl (by kernel_rfl) .none trivial (fun _ => dv_move (Z rfl)) <| aw_pure 1 (qi (S73 : Int)) rfl (by kernel_rfl) .none trivial (fun _ => dv_move (Z rfl)) <| aw_pure 3 (qi (lb : Int)) rfl (by kernel_rfl) .none trivial (fun _ => dv_move (Z rfl)) <| aw_pure 5 (.slice Aa la ca) rfl (by kernel_rfl) .none trivial (fun _ => dv_move (Z rfl)) <| aw_pure 6 (qi (S73 : Int)) rfl (by kernel_rfl) .none trivial (fun _ => dv_move (Z rfl)) ?_
 have h83 := ((h70.ext e78).ext d81.ext)
 have : w.heap.size ≤ w80.heap.size := E82.size
 refine aw_one 2 rfl (by kernel_rfl) .none (oe_callf (vs := [.slice (some ⟨g71, o72, none⟩) lb cb, qi (S73 : Int)]) co148 (ar2 (Z rfl) (Z rfl)) (shifted_okl (S := S73) h83 (by omega) oy (by omega) (by omega)) ?_)
 rintro _ w91 ⟨b84, L85, rfl, e92, H86, hN87, hl88, ho89, hv90⟩
 have E93 := qe E82 e92
 have N94 : w.heap.size ≤ b84 := by omega
 refine qr <| aw_pure 4 (.slice (some ⟨b84, 0, none⟩) lb (ys.length + 1)) rfl (by kernel_rfl) .none trivial (fun _ => dv_sliceH (ad := some ⟨b84, 0, none⟩) (l := (ys.length + 1)) (c := (ys.length + 1)) (i := lb) (j := (lb : Int)) us105 sz36 (Z rfl) (Z rfl) (by omega) (by first | omega | simp <;> omega)) ?_
 have h95 := ((((hxw.ext e4).ext e78).ext d81.ext).ext e92)
 have : b84 < w91.heap.size := lt_of_blk H86
 have : w.heap.size ≤ w91.heap.size := E93.size
 refine aw_one 7 rfl (by kernel_rfl) .none (oe_callf (vs := [.slice Aa la ca, qi (S73 : Int)]) co148 (ar2 (Z rfl) (Z rfl)) (shifted_okl (S := S73) h95 (by omega) ox (by omega) (by omega)) ?_)
 rintro _ w103 ⟨b96, L97, rfl, e104, H98, hN99, hl100, ho101, hv102⟩
 have E105 := qe E93 e104
 have : b84 < b96 := by omega
 have N106 : w.heap.size ≤ b96 := by omega
 refine qr <| aw_pure 8 (.slice (some ⟨b84, 0, none⟩) lb (ys.length + 1)) rfl (by kernel_rfl) .none trivial (fun _ => dv_assign (Z rfl)) <| aw_last 9 (.slice (some ⟨b96, 0, none⟩) (xs.length + 1) (xs.length + 1)) rfl (by kernel_rfl) .none (fun _ => dv_assign (Z rfl)) <| aw_done (by kernel_rfl) <| rk_seq <| rk_reg <| qm (.slice Aa la ca) rfl rfl <| lw_v (qi (la : Int)) (dv_len (ad := Aa) (l := la) (c := ca) us105 (Z rfl)) <| qm (qi (lb : Int)) rfl rfl <| lw_v _ (dv_sub (a := (la : Int)) (b := (lb : Int)) (z := (la : Int) - (lb : Int)) (Z rfl) (Z rfl) (wr_i64 (by omega) (by omega))) <| lw_v _ (dv_add (a := (la : Int) - (lb : Int)) (b := 1) (z := ((la : Int) - (lb : Int)) + 1) (Z rfl) C (wr_i64 (by omega) (by omega))) <| lw_e (oe_makeW (l := (((la) - (lb)) + 1)) (j := ((la : Int) - (lb : Int)) + 1) us105 in36 (Z rfl) (Z rfl) (by omega) (by first | omega | simp <;> omega) (by first | omega | simp <;> omega) ?_)
 intro b107 w108 n109
 have N110 : w.heap.size ≤ b107 := n109.eq ▸ E105.size
 have : b96 < b107 := n109.eq ▸ lt_of_blk H98
 have E111 := qe E105 n109.ext
 refine qs (.slice (some ⟨b107, 0, none⟩) ((((la) - (lb)) + 1)) ((((la) - (lb)) + 1))) rfl rfl <| lw_nil <| rk_seq <| rk_seq <| rk_reg <| qm (.slice Aa la ca) rfl rfl <| lw_v (qi (la : Int)) (dv_len (ad := Aa) (l := la) (c := ca) us105 (Z rfl)) <| qm (qi (lb : Int)) rfl rfl <| lw_v _ (dv_sub (a := (la : Int)) (b := (lb : Int)) (z := (la : Int) - (lb : Int)) (Z rfl) (Z rfl) (wr_i64 (by omega) (by omega))) <| qs (qi ((la : Int) - (lb : Int))) rfl rfl <| lw_nil <| rk_block ?_
 have hVv : valB (2 ^ 64) L85 = 2 ^ S73 * y := by rw [hv90, hyv]
 have hUv : valB (2 ^ 64) L97 = 2 ^ S73 * x := by rw [hv102, hxv]
 have hVlt : 2 ^ S73 * y < (2 ^ 64) ^ lb := by
  have h := norm_lt (k := lb - 1) hs74 oy (by omega) rfl hs76 hyv
  rwa [show lb - 1 + 1 = lb by omega] at h
 have hVz := zero_of_lt (by decide) ho89 (m := lb) (by rw [hVv]; exact hVlt)
 have hVt : valB (2 ^ 64) (L85.take lb) = valB (2 ^ 64) L85 := val_take_zero hVz
 have hVp : 0 < valB (2 ^ 64) L85 := by rw [hVv]; exact Int.mul_pos (two_pos _) hy
 have hlt0 : valB (2 ^ 64) L97 < valB (2 ^ 64) L85 * (2 ^ 64) ^ (la - lb + 1) := by
  rw [hUv, hVv, Int.mul_assoc]
  have h1 := canon_ge (B := 2 ^ 64) (by decide) oy hyk (by omega)
  rw [hyl, ← hyv] at h1
  exact Int.mul_lt_mul_of_pos_left (start_lt h1 (by rw [hxv]; exact val_len ox hxl) (by omega) hll) (two_pos _)
 have hVl : L85.length = lb + 1 := by omega
 have hUl0 : L97.length = la + 1 := by omega
 have H112 := (n109.ext.blk (e104.blk H86))
 have H113 := (n109.ext.blk H98)
 refine rk_loop (fun dm_ fr wl => ∃ (J : Nat) (U O : List Int), dm_ = J ∧ fr 4 = .slice none 0 0 ∧ fr 5 = .slice none 0 0 ∧ fr 6 = qi (lb : Int) ∧ fr 10 = qi (S73 : Int) ∧ fr 11 = .slice (some ⟨b84, 0, none⟩) lb (ys.length + 1) ∧ fr 12 = .slice (some ⟨b96, 0, none⟩) (xs.length + 1) (xs.length + 1) ∧ fr 13 = .slice (some ⟨b107, 0, none⟩) ((((la) - (lb)) + 1)) ((((la) - (lb)) + 1)) ∧ fr 14 = qi ((J : Int) - 1) ∧ Below w.heap.size w wl ∧ wl.heap[b84]? = some (.cells (L85.map (Value.int .u64)).toArray 36) ∧ wl.heap[b96]? = some (.cells (U.map (Value.int .u64)).toArray 36) ∧ wl.heap[b107]? = some (.cells (O.map (Value.int .u64)).toArray 36) ∧ (J ≤ la - lb + 1) ∧ (U.length = la + 1) ∧ (O.length = la - lb + 1) ∧ (okW (2 ^ 64) U) ∧ (okW (2 ^ 64) O) ∧ (∀ k, k < J → O.getD k 0 = 0) ∧ (valB (2 ^ 64) U + valB (2 ^ 64) L85 * valB (2 ^ 64) O = 2 ^ S73 * x) ∧ (valB (2 ^ 64) U < valB (2 ^ 64) L85 * (2 ^ 64) ^ J)) (la - lb + 1) ⟨(la - lb + 1), L97, (List.replicate ((((la) - (lb)) + 1)) (0 : Int)), rfl, rfl, rfl, rfl, rfl, rfl, rfl, rfl, (vi (by omega)), E111, H112, H113, n109.blk, (Nat.le_refl _), hUl0, (by simp), ho101, (okW.replicate (by decide) _), (fun k _ => rep_zero _ k), (by rw [valB_zeros, Int.mul_zero, Int.add_zero]; exact hUv), hlt0⟩ ?_
 intro d118 fr117 w114 hI115 ih116
 obtain ⟨J, U, O, hd131, f119, f120, f121, f122, f123, f124, f125, f126, E127, H128, H129, H130, hJ, hUl, hOl, hUo, hOo, hO0, hV, hlt⟩ := hI115
 have hUz : 1 ≤ J → ∀ k, J - 1 + lb < k → U.getD k 0 = 0 := fun h1 k hk => zero_of_lt (by decide) hUo (m := J - 1 + lb + 1) (top_lt hlt (by rw [hVv]; exact hVlt) (by omega)) k (by omega)
 have bu132 := okW.getD hUo (by decide) (J - 1 + lb)
 have bu133 := okW.getD hUo (by decide) (J - 1 + lb - 1)
 have bu134 := okW.getD hUo (by decide) (J - 1 + lb - 2)
 have bv135 := okW.getD ho89 (by decide) (lb - 1)
 have bv136 := okW.getD ho89 (by decide) (lb - 2)
 have hUnn := valB_nonneg (B := 2 ^ 64) (by decide) hUo
 refine rk_seq <| rk_seq <| rk_reg <| qm (qi ((J : Int) - 1)) rfl f126 <| lw_v _ (dv_geq (a := (J : Int) - 1) (b := 0) (Z rfl) C) <| lw_nil ?_
 by_cases hb137 : 0 ≤ ((J : Int) - 1)
 · refine rk_ct (T rfl (qT hb137)) <| rk_skip <| rk_seq <| rk_block <| rk_seq <| rk_reg <| lw_v (qu 18446744073709551615) (dv_assign C) <| lw_nil <| rk_seq <| rk_seq <| rk_any (fun w => w.heap[b96]? = some (.cells (U.map (Value.int .u64)).toArray 36) ∧ w.heap[b84]? = some (.cells (L85.map (Value.int .u64)).toArray 36)) [] mo ?_
   intro w138 d139
   have E140 := qe E127 d139.ext
   have H141 := (d139.ext.blk H129)
   have H142 := (d139.ext.blk H128)
   refine aw_pure 0 (.slice (some ⟨b96, 0, none⟩) (xs.length + 1) (xs.length + 1)) rfl (by kernel_rfl) .none ⟨H141, H142⟩ (fun _ => dv_move (T rfl f124)) <| aw_pure 1 (qi ((J : Int) - 1)) rfl (by kernel_rfl) .none ⟨H141, H142⟩ (fun _ => dv_move (T rfl f126)) <| aw_pure 2 (qi (lb : Int)) rfl (by kernel_rfl) .none ⟨H141, H142⟩ (fun _ => dv_move (T rfl f121)) <| aw_pure 3 (qi (((J : Int) - 1) + (lb : Int))) rfl (by kernel_rfl) .none ⟨H141, H142⟩ (fun _ => dv_add (a := (J : Int) - 1) (b := (lb : Int)) (z := ((J : Int) - 1) + (lb : Int)) (Z rfl) (Z rfl) (wr_i64 (by omega) (by omega))) <| aw_pure 4 (.pointer (some ⟨b96, (((J - 1) + (lb))), none⟩)) rfl (by kernel_rfl) .none ⟨H141, H142⟩ (fun _ => dv_indexO (g := b96) (l := (xs.length + 1)) (c := (xs.length + 1)) (i := ((J - 1) + (lb))) (j := ((J : Int) - 1) + (lb : Int)) us105 sz36 (Z rfl) (Z rfl) (by omega) (by first | omega | simp <;> omega)) <| aw_load 5 (qu (U.getD (((J - 1) + (lb))) 0)) rfl (by kernel_rfl) .none ⟨H141, H142⟩ (fun _ s => dv_loadW (L := U) (v := U.getD (((J - 1) + (lb))) 0) agt36 (Z rfl) s.1 (by first | omega | simp <;> omega) rfl) <| aw_pure 6 (.slice (some ⟨b84, 0, none⟩) lb (ys.length + 1)) rfl (by kernel_rfl) .none ⟨H141, H142⟩ (fun _ => dv_move (T rfl f123)) <| aw_pure 7 (qi (lb : Int)) rfl (by kernel_rfl) .none ⟨H141, H142⟩ (fun _ => dv_move (T rfl f121)) <| aw_pure 8 (qi ((lb : Int) - 1)) rfl (by kernel_rfl) .none ⟨H141, H142⟩ (fun _ => dv_sub (a := (lb : Int)) (b := 1) (z := (lb : Int) - 1) (Z rfl) C (wr_i64 (by omega) (by omega))) <| aw_pure 9 (.pointer (some ⟨b84, (((lb) - 1)), none⟩)) rfl (by kernel_rfl) .none ⟨H141, H142⟩ (fun _ => dv_indexO (g := b84) (l := lb) (c := (ys.length + 1)) (i := ((lb) - 1)) (j := (lb : Int) - 1) us105 sz36 (Z rfl) (Z rfl) (by omega) (by first | omega | simp <;> omega)) <| aw_load 10 (qu (L85.getD (((lb) - 1)) 0)) rfl (by kernel_rfl) .none ⟨H141, H142⟩ (fun _ s => dv_loadW (L := L85) (v := L85.getD (((lb) - 1)) 0) agt36 (Z rfl) s.2 (by first | omega | simp <;> omega) rfl) <| aw_pure 11 (qd ((U.getD (((J - 1) + (lb))) 0) < (L85.getD (((lb) - 1)) 0))) rfl (by kernel_rfl) .none ⟨H141, H142⟩ (fun _ => dv_lss (a := U.getD (((J - 1) + (lb))) 0) (b := L85.getD (((lb) - 1)) 0) (Z rfl) (Z rfl)) <| aw_done (by kernel_rfl) <| rk_join (fun fr wl => ∃ (q : Int), fr 4 = .slice none 0 0 ∧ fr 5 = .slice none 0 0 ∧ fr 6 = qi (lb : Int) ∧ fr 10 = qi (S73 : Int) ∧ fr 11 = .slice (some ⟨b84, 0, none⟩) lb (ys.length + 1) ∧ fr 12 = .slice (some ⟨b96, 0, none⟩) (xs.length + 1) (xs.length + 1) ∧ fr 13 = .slice (some ⟨b107, 0, none⟩) ((((la) - (lb)) + 1)) ((((la) - (lb)) + 1)) ∧ fr 14 = qi ((J : Int) - 1) ∧ fr 15 = qu q ∧ fr 94 = qi ((J : Int) - 1) ∧ fr 95 = qd (0 ≤ ((J : Int) - 1)) ∧ fr 98 = .slice (some ⟨b96, 0, none⟩) (xs.length + 1) (xs.length + 1) ∧ fr 99 = qi ((J : Int) - 1) ∧ fr 100 = qi (lb : Int) ∧ fr 101 = qi (((J : Int) - 1) + (lb : Int)) ∧ fr 102 = .pointer (some ⟨b96, (((J - 1) + (lb))), none⟩) ∧ fr 103 = qu (U.getD (((J - 1) + (lb))) 0) ∧ fr 104 = .slice (some ⟨b84, 0, none⟩) lb (ys.length + 1) ∧ fr 105 = qi (lb : Int) ∧ fr 106 = qi ((lb : Int) - 1) ∧ fr 107 = .pointer (some ⟨b84, (((lb) - 1)), none⟩) ∧ fr 108 = qu (L85.getD (((lb) - 1)) 0) ∧ fr 109 = qd ((U.getD (((J - 1) + (lb))) 0) < (L85.getD (((lb) - 1)) 0)) ∧ Below w.heap.size w wl ∧ wl.heap[b84]? = some (.cells (L85.map (Value.int .u64)).toArray 36) ∧ wl.heap[b96]? = some (.cells (U.map (Value.int .u64)).toArray 36) ∧ wl.heap[b107]? = some (.cells (O.map (Value.int .u64)).toArray 36) ∧ (0 ≤ q ∧ q < 18446744073709551616) ∧ (valB (2 ^ 64) U < (q + 1) * valB (2 ^ 64) L85 * (2 ^ 64) ^ (J - 1))) ?_ (fun hj145 => ?_)
   · intro fr146 w143 hI144
     obtain ⟨q, f147, f148, f149, f150, f151, f152, f153, f154, f155, f156, f157, f158, f159, f160, f161, f162, f163, f164, f165, f166, f167, f168, f169, E170, H171, H172, H173, hq, hg⟩ := hI144
     refine rk_seq <| rk_reg <| lw_v (qu 0) (dv_assign C) <| lw_v (qu 0) (dv_assign C) <| lw_nil <| rk_seq <| rk_seq <| rk_reg <| qm (qi (lb : Int)) rfl f149 <| lw_v (qi 0) (dv_move C) <| lw_nil <| rk_block <| rk_loop (fun dm_ fr wl => ∃ (i : Nat) (M : List Int) (cy bw : Int), dm_ = lb - i ∧ fr 4 = .slice none 0 0 ∧ fr 5 = .slice none 0 0 ∧ fr 6 = qi (lb : Int) ∧ fr 10 = qi (S73 : Int) ∧ fr 11 = .slice (some ⟨b84, 0, none⟩) lb (ys.length + 1) ∧ fr 12 = .slice (some ⟨b96, 0, none⟩) (xs.length + 1) (xs.length + 1) ∧ fr 13 = .slice (some ⟨b107, 0, none⟩) ((((la) - (lb)) + 1)) ((((la) - (lb)) + 1)) ∧ fr 14 = qi ((J : Int) - 1) ∧ fr 15 = qu q ∧ fr 20 = qu bw ∧ fr 21 = qu cy ∧ fr 94 = qi ((J : Int) - 1) ∧ fr 95 = qd (0 ≤ ((J : Int) - 1)) ∧ fr 98 = .slice (some ⟨b96, 0, none⟩) (xs.length + 1) (xs.length + 1) ∧ fr 99 = qi ((J : Int) - 1) ∧ fr 100 = qi (lb : Int) ∧ fr 101 = qi (((J : Int) - 1) + (lb : Int)) ∧ fr 102 = .pointer (some ⟨b96, (((J - 1) + (lb))), none⟩) ∧ fr 103 = qu (U.getD (((J - 1) + (lb))) 0) ∧ fr 104 = .slice (some ⟨b84, 0, none⟩) lb (ys.length + 1) ∧ fr 105 = qi (lb : Int) ∧ fr 106 = qi ((lb : Int) - 1) ∧ fr 107 = .pointer (some ⟨b84, (((lb) - 1)), none⟩) ∧ fr 108 = qu (L85.getD (((lb) - 1)) 0) ∧ fr 109 = qd ((U.getD (((J - 1) + (lb))) 0) < (L85.getD (((lb) - 1)) 0)) ∧ fr 175 = qi (lb : Int) ∧ fr 176 = qi (i : Int) ∧ Below w.heap.size w wl ∧ wl.heap[b84]? = some (.cells (L85.map (Value.int .u64)).toArray 36) ∧ wl.heap[b96]? = some (.cells (M.map (Value.int .u64)).toArray 36) ∧ wl.heap[b107]? = some (.cells (O.map (Value.int .u64)).toArray 36) ∧ (i ≤ lb) ∧ (M.length = la + 1) ∧ (okW (2 ^ 64) M) ∧ (0 ≤ cy ∧ cy < 18446744073709551616) ∧ (0 ≤ bw ∧ bw ≤ 1) ∧ (valB (2 ^ 64) M = valB (2 ^ 64) U - q * valB (2 ^ 64) (L85.take i) * (2 ^ 64) ^ (J - 1) + (cy + bw) * (2 ^ 64) ^ (J - 1 + i)) ∧ (∀ k, J - 1 + lb < k → M.getD k 0 = 0)) (lb - 0) ⟨0, U, 0, 0, rfl, f147, f148, f149, f150, f151, f152, f153, f154, f155, rfl, rfl, f156, f157, f158, f159, f160, f161, f162, f163, f164, f165, f166, f167, f168, f169, rfl, (vi (by omega)), E170, H171, H172, H173, (Nat.zero_le _), hUl, hUo, (by decide), (by decide), (by simp [valB]), (hUz (by omega))⟩ ?_
     intro d178 fr177 w174 hI175 ih176
     obtain ⟨i, M, cy, bw, hd210, f179, f180, f181, f182, f183, f184, f185, f186, f187, f188, f189, f190, f191, f192, f193, f194, f195, f196, f197, f198, f199, f200, f201, f202, f203, f204, f205, E206, H207, H208, H209, hi, hMl, hMo, hcy, hbw, hM, hMz⟩ := hI175
     have bM := okW.getD hMo (by decide) (J - 1 + i)
     have bV := okW.getD ho89 (by decide) i
     have bMt := okW.getD hMo (by decide) (J - 1 + lb)
     refine rk_seq <| rk_reg <| lw_v _ (dv_lss (a := (i : Int)) (b := (lb : Int)) (T rfl f205) (T rfl f204)) <| lw_nil <| rk_seq ?_
     by_cases hb211 : ((i : Int)) < ((lb : Int))
     · refine rk_ct (T rfl (qT hb211)) <| rk_skip <| rk_seq <| rk_block <| rk_seq <| rk_reg <| qm (qi (i : Int)) rfl f205 <| qs (qi (i : Int)) rfl rfl <| qN <| qm (qu q) rfl f187 <| qm (.slice (some ⟨b84, 0, none⟩) lb (ys.length + 1)) rfl f183 <| qm (qi (i : Int)) rfl rfl <| lw_v (.pointer (some ⟨b84, i, none⟩)) (dv_indexO (g := b84) (l := lb) (c := (ys.length + 1)) (i := i) (j := (i : Int)) us105 sz36 (Z rfl) (Z rfl) (by omega) (by first | omega | simp <;> omega)) <| lw_v (qu (L85.getD i 0)) (dv_loadW (L := L85) (v := L85.getD i 0) agt36 (Z rfl) H207 (by first | omega | simp <;> omega) rfl) ?_
       have hm212 := mul_pos_bd (A := 18446744073709551615) (show 0 ≤ q by omega) (by omega) (show 0 ≤ L85.getD i 0 by omega) (by omega)
       refine lw_e (oe_callf (vs := [qu q, qu (L85.getD i 0)]) co115 (ar2 (Z rfl) (Z rfl)) (mul64_ok (by omega) (by omega)) ?_)
       rintro _ w213 ⟨rfl, e214⟩
       have E215 := qe E206 e214
       refine qm (.tuple #[qu (q * (L85.getD i 0) / 18446744073709551616), qu (q * (L85.getD i 0) % 18446744073709551616)]) rfl rfl <| lw_v (qu (q * (L85.getD i 0) / 18446744073709551616)) (dv_extract (vs := #[qu (q * (L85.getD i 0) / 18446744073709551616), qu (q * (L85.getD i 0) % 18446744073709551616)]) (Z rfl) rfl) <| lw_v (qu (q * (L85.getD i 0) % 18446744073709551616)) (dv_extract (vs := #[qu (q * (L85.getD i 0) / 18446744073709551616), qu (q * (L85.getD i 0) % 18446744073709551616)]) (Z rfl) rfl) <| qs (qu (q * (L85.getD i 0) / 18446744073709551616)) rfl rfl <| qs (qu (q * (L85.getD i 0) % 18446744073709551616)) rfl rfl <| qN <| lw_v (qu 0) (dv_assign C) <| qN <| qm (qu (q * (L85.getD i 0) % 18446744073709551616)) rfl rfl <| qm (qu cy) rfl f189 <| lw_v (.tuple #[qu (((q * (L85.getD i 0) % 18446744073709551616) + cy + 0) % 18446744073709551616), qu (((q * (L85.getD i 0) % 18446744073709551616) + cy + 0) / 18446744073709551616)]) (dv_ext (e := add64Entry) (vs := [qu (q * (L85.getD i 0) % 18446744073709551616), qu cy, qu 0]) Try.func116 rfl rfl (by kernel_rfl) (by kernel_rfl) (ar3 (Z rfl) (Z rfl) C) (run_addE (q * (L85.getD i 0) % 18446744073709551616) cy 0 (by omega) (by omega) (by omega))) <| qm (.tuple #[qu (((q * (L85.getD i 0) % 18446744073709551616) + cy + 0) % 18446744073709551616), qu (((q * (L85.getD i 0) % 18446744073709551616) + cy + 0) / 18446744073709551616)]) rfl rfl <| lw_v (qu (((q * (L85.getD i 0) % 18446744073709551616) + cy + 0) % 18446744073709551616)) (dv_extract (vs := #[qu (((q * (L85.getD i 0) % 18446744073709551616) + cy + 0) % 18446744073709551616), qu (((q * (L85.getD i 0) % 18446744073709551616) + cy + 0) / 18446744073709551616)]) (Z rfl) rfl) <| lw_v (qu (((q * (L85.getD i 0) % 18446744073709551616) + cy + 0) / 18446744073709551616)) (dv_extract (vs := #[qu (((q * (L85.getD i 0) % 18446744073709551616) + cy + 0) % 18446744073709551616), qu (((q * (L85.getD i 0) % 18446744073709551616) + cy + 0) / 18446744073709551616)]) (Z rfl) rfl) <| qs (qu (((q * (L85.getD i 0) % 18446744073709551616) + cy + 0) % 18446744073709551616)) rfl rfl <| qs (qu (((q * (L85.getD i 0) % 18446744073709551616) + cy + 0) / 18446744073709551616)) rfl rfl <| qN <| qm (qu (q * (L85.getD i 0) / 18446744073709551616)) rfl rfl <| qm (qu (((q * (L85.getD i 0) % 18446744073709551616) + cy + 0) / 18446744073709551616)) rfl rfl <| lw_v _ (dv_add (a := q * (L85.getD i 0) / 18446744073709551616) (b := ((q * (L85.getD i 0) % 18446744073709551616) + cy + 0) / 18446744073709551616) (z := (q * (L85.getD i 0) / 18446744073709551616) + (((q * (L85.getD i 0) % 18446744073709551616) + cy + 0) / 18446744073709551616)) (Z rfl) (Z rfl) (wn_u64 (by omega) (by omega))) <| qs (qu ((q * (L85.getD i 0) / 18446744073709551616) + (((q * (L85.getD i 0) % 18446744073709551616) + cy + 0) / 18446744073709551616))) rfl rfl <| lw_nil <| rk_reg <| qm (.slice (some ⟨b96, 0, none⟩) (xs.length + 1) (xs.length + 1)) rfl f184 <| qm (qi ((J : Int) - 1)) rfl f186 <| qm (qi (i : Int)) rfl rfl <| lw_v _ (dv_add (a := (J : Int) - 1) (b := (i : Int)) (z := ((J : Int) - 1) + (i : Int)) (Z rfl) (Z rfl) (wr_i64 (by omega) (by omega))) <| qm (.slice (some ⟨b96, 0, none⟩) (xs.length + 1) (xs.length + 1)) rfl f184 <| qm (qi ((J : Int) - 1)) rfl f186 <| qm (qi (i : Int)) rfl rfl <| lw_v _ (dv_add (a := (J : Int) - 1) (b := (i : Int)) (z := ((J : Int) - 1) + (i : Int)) (Z rfl) (Z rfl) (wr_i64 (by omega) (by omega))) <| lw_v (.pointer (some ⟨b96, (((J - 1) + (i))), none⟩)) (dv_indexO (g := b96) (l := (xs.length + 1)) (c := (xs.length + 1)) (i := ((J - 1) + (i))) (j := ((J : Int) - 1) + (i : Int)) us105 sz36 (Z rfl) (Z rfl) (by omega) (by first | omega | simp <;> omega)) ?_
       have H216 := (e214.blk H208)
       refine lw_v (qu (M.getD (((J - 1) + (i))) 0)) (dv_loadW (L := M) (v := M.getD (((J - 1) + (i))) 0) agt36 (Z rfl) H216 (by first | omega | simp <;> omega) rfl) <| qm (qu (((q * (L85.getD i 0) % 18446744073709551616) + cy + 0) % 18446744073709551616)) rfl rfl <| qm (qu bw) rfl f188 <| lw_v (.tuple #[qu (((M.getD (((J - 1) + (i))) 0) - (((q * (L85.getD i 0) % 18446744073709551616) + cy + 0) % 18446744073709551616) - bw) % 18446744073709551616), qu (if (M.getD (((J - 1) + (i))) 0) < (((q * (L85.getD i 0) % 18446744073709551616) + cy + 0) % 18446744073709551616) + bw then 1 else 0)]) (dv_ext (e := subEntry) (vs := [qu (M.getD (((J - 1) + (i))) 0), qu (((q * (L85.getD i 0) % 18446744073709551616) + cy + 0) % 18446744073709551616), qu bw]) Try.func140 rfl rfl (by kernel_rfl) (by kernel_rfl) (ar3 (Z rfl) (Z rfl) (Z rfl)) (run_subE (M.getD (((J - 1) + (i))) 0) (((q * (L85.getD i 0) % 18446744073709551616) + cy + 0) % 18446744073709551616) bw (by omega) (by omega) (by omega) (by omega))) <| qm (.tuple #[qu (((M.getD (((J - 1) + (i))) 0) - (((q * (L85.getD i 0) % 18446744073709551616) + cy + 0) % 18446744073709551616) - bw) % 18446744073709551616), qu (if (M.getD (((J - 1) + (i))) 0) < (((q * (L85.getD i 0) % 18446744073709551616) + cy + 0) % 18446744073709551616) + bw then 1 else 0)]) rfl rfl <| lw_v (qu (((M.getD (((J - 1) + (i))) 0) - (((q * (L85.getD i 0) % 18446744073709551616) + cy + 0) % 18446744073709551616) - bw) % 18446744073709551616)) (dv_extract (vs := #[qu (((M.getD (((J - 1) + (i))) 0) - (((q * (L85.getD i 0) % 18446744073709551616) + cy + 0) % 18446744073709551616) - bw) % 18446744073709551616), qu (if (M.getD (((J - 1) + (i))) 0) < (((q * (L85.getD i 0) % 18446744073709551616) + cy + 0) % 18446744073709551616) + bw then 1 else 0)]) (Z rfl) rfl) <| lw_v (qu (if (M.getD (((J - 1) + (i))) 0) < (((q * (L85.getD i 0) % 18446744073709551616) + cy + 0) % 18446744073709551616) + bw then 1 else 0)) (dv_extract (vs := #[qu (((M.getD (((J - 1) + (i))) 0) - (((q * (L85.getD i 0) % 18446744073709551616) + cy + 0) % 18446744073709551616) - bw) % 18446744073709551616), qu (if (M.getD (((J - 1) + (i))) 0) < (((q * (L85.getD i 0) % 18446744073709551616) + cy + 0) % 18446744073709551616) + bw then 1 else 0)]) (Z rfl) rfl) <| lw_v (.pointer (some ⟨b96, (((J - 1) + (i))), none⟩)) (dv_indexO (g := b96) (l := (xs.length + 1)) (c := (xs.length + 1)) (i := ((J - 1) + (i))) (j := ((J : Int) - 1) + (i : Int)) us105 sz36 (Z rfl) (Z rfl) (by omega) (by first | omega | simp <;> omega)) <| lw_e (oe_storeW (L := M) (i := ((J - 1) + (i))) (z := ((M.getD (((J - 1) + (i))) 0) - (((q * (L85.getD i 0) % 18446744073709551616) + cy + 0) % 18446744073709551616) - bw) % 18446744073709551616) sz36 (Z rfl) (Z rfl) H216 (by first | omega | simp <;> omega) ?_)
       intro w217 s218 H219
       have E220 := below_st E215 N106 s218
       refine qs (qu (if (M.getD (((J - 1) + (i))) 0) < (((q * (L85.getD i 0) % 18446744073709551616) + cy + 0) % 18446744073709551616) + bw then 1 else 0)) rfl rfl <| lw_nil <| rk_inBlock <| rk_reg <| lw_v _ (dv_add (a := (i : Int)) (b := 1) (z := (i : Int) + 1) (T rfl f205) C (wr_i64 (by omega) (by omega))) <| qm (qi ((i : Int) + 1)) rfl rfl <| lw_nil ?_
       have H221 := (s218.blk (e214.blk H207) (by omega))
       have H222 := (s218.blk (e214.blk H209) (by omega))
       exact ih176 (lb - (i + 1)) _ _ (by rw [hd210]; omega) ⟨(i + 1), (M.set (((J - 1) + (i))) (((M.getD (((J - 1) + (i))) 0) - (((q * (L85.getD i 0) % 18446744073709551616) + cy + 0) % 18446744073709551616) - bw) % 18446744073709551616)), ((q * (L85.getD i 0) / 18446744073709551616) + (((q * (L85.getD i 0) % 18446744073709551616) + cy + 0) / 18446744073709551616)), (if (M.getD (((J - 1) + (i))) 0) < (((q * (L85.getD i 0) % 18446744073709551616) + cy + 0) % 18446744073709551616) + bw then 1 else 0), rfl, f179, f180, f181, f182, f183, f184, f185, f186, f187, rfl, rfl, f190, f191, f192, f193, f194, f195, f196, f197, f198, f199, f200, f201, f202, f203, f204, (vi (by omega)), E220, H221, H219, H222, (by omega), (by simp [hMl]), (okW.set hMo (by omega) (by omega) _), (by omega), (by split <;> omega), (msub_step (lo := ((q * (L85.getD i 0) % 18446744073709551616) + cy + 0) % 18446744073709551616) (by omega) hM (by rw [p64]; omega) (by rw [p64]; split <;> omega)), (fun k hk => by rw [Fw.getD_set_neQ _ _ _ _ (by omega)]; exact hMz k hk)⟩
     refine rk_cf (T rfl (qF hb211)) <| rk_exit rfl <| rk_seq <| rk_reg <| qm (.slice (some ⟨b96, 0, none⟩) (xs.length + 1) (xs.length + 1)) rfl f184 <| qm (qi ((J : Int) - 1)) rfl f186 <| qm (qi (lb : Int)) rfl f181 <| lw_v _ (dv_add (a := (J : Int) - 1) (b := (lb : Int)) (z := ((J : Int) - 1) + (lb : Int)) (Z rfl) (Z rfl) (wr_i64 (by omega) (by omega))) <| qm (.slice (some ⟨b96, 0, none⟩) (xs.length + 1) (xs.length + 1)) rfl f184 <| qm (qi ((J : Int) - 1)) rfl f186 <| qm (qi (lb : Int)) rfl f181 <| lw_v _ (dv_add (a := (J : Int) - 1) (b := (lb : Int)) (z := ((J : Int) - 1) + (lb : Int)) (Z rfl) (Z rfl) (wr_i64 (by omega) (by omega))) <| lw_v (.pointer (some ⟨b96, (((J - 1) + (lb))), none⟩)) (dv_indexO (g := b96) (l := (xs.length + 1)) (c := (xs.length + 1)) (i := ((J - 1) + (lb))) (j := ((J : Int) - 1) + (lb : Int)) us105 sz36 (Z rfl) (Z rfl) (by omega) (by first | omega | simp <;> omega)) <| lw_v (qu (M.getD (((J - 1) + (lb))) 0)) (dv_loadW (L := M) (v := M.getD (((J - 1) + (lb))) 0) agt36 (Z rfl) H208 (by first | omega | simp <;> omega) rfl) <| qm (qu cy) rfl f189 <| qm (qu bw) rfl f188 <| lw_v (.tuple #[qu (((M.getD (((J - 1) + (lb))) 0) - cy - bw) % 18446744073709551616), qu (if (M.getD (((J - 1) + (lb))) 0) < cy + bw then 1 else 0)]) (dv_ext (e := subEntry) (vs := [qu (M.getD (((J - 1) + (lb))) 0), qu cy, qu bw]) Try.func140 rfl rfl (by kernel_rfl) (by kernel_rfl) (ar3 (Z rfl) (Z rfl) (Z rfl)) (run_subE (M.getD (((J - 1) + (lb))) 0) cy bw (by omega) (by omega) (by omega) (by omega))) <| qm (.tuple #[qu (((M.getD (((J - 1) + (lb))) 0) - cy - bw) % 18446744073709551616), qu (if (M.getD (((J - 1) + (lb))) 0) < cy + bw then 1 else 0)]) rfl rfl <| lw_v (qu (((M.getD (((J - 1) + (lb))) 0) - cy - bw) % 18446744073709551616)) (dv_extract (vs := #[qu (((M.getD (((J - 1) + (lb))) 0) - cy - bw) % 18446744073709551616), qu (if (M.getD (((J - 1) + (lb))) 0) < cy + bw then 1 else 0)]) (Z rfl) rfl) <| lw_v (qu (if (M.getD (((J - 1) + (lb))) 0) < cy + bw then 1 else 0)) (dv_extract (vs := #[qu (((M.getD (((J - 1) + (lb))) 0) - cy - bw) % 18446744073709551616), qu (if (M.getD (((J - 1) + (lb))) 0) < cy + bw then 1 else 0)]) (Z rfl) rfl) <| lw_v (.pointer (some ⟨b96, (((J - 1) + (lb))), none⟩)) (dv_indexO (g := b96) (l := (xs.length + 1)) (c := (xs.length + 1)) (i := ((J - 1) + (lb))) (j := ((J : Int) - 1) + (lb : Int)) us105 sz36 (Z rfl) (Z rfl) (by omega) (by first | omega | simp <;> omega)) <| lw_e (oe_storeW (L := M) (i := ((J - 1) + (lb))) (z := ((M.getD (((J - 1) + (lb))) 0) - cy - bw) % 18446744073709551616) sz36 (Z rfl) (Z rfl) H208 (by first | omega | simp <;> omega) ?_)
     intro w223 s224 H225
     have E226 := below_st E206 N106 s224
     refine qs (qu (if (M.getD (((J - 1) + (lb))) 0) < cy + bw then 1 else 0)) rfl rfl <| lw_nil <| rk_seq <| rk_block ?_
     have H227 := (s224.blk H207 (by omega))
     have H228 := (s224.blk H209 (by omega))
     refine rk_loop (fun dm_ fr wl => ∃ (qq : Int) (P : List Int) (bb : Int), dm_ = qq.toNat ∧ fr 4 = .slice none 0 0 ∧ fr 5 = .slice none 0 0 ∧ fr 6 = qi (lb : Int) ∧ fr 10 = qi (S73 : Int) ∧ fr 11 = .slice (some ⟨b84, 0, none⟩) lb (ys.length + 1) ∧ fr 12 = .slice (some ⟨b96, 0, none⟩) (xs.length + 1) (xs.length + 1) ∧ fr 13 = .slice (some ⟨b107, 0, none⟩) ((((la) - (lb)) + 1)) ((((la) - (lb)) + 1)) ∧ fr 14 = qi ((J : Int) - 1) ∧ fr 15 = qu qq ∧ fr 20 = qu bb ∧ fr 21 = qu cy ∧ fr 94 = qi ((J : Int) - 1) ∧ fr 95 = qd (0 ≤ ((J : Int) - 1)) ∧ fr 98 = .slice (some ⟨b96, 0, none⟩) (xs.length + 1) (xs.length + 1) ∧ fr 99 = qi ((J : Int) - 1) ∧ fr 100 = qi (lb : Int) ∧ fr 101 = qi (((J : Int) - 1) + (lb : Int)) ∧ fr 102 = .pointer (some ⟨b96, (((J - 1) + (lb))), none⟩) ∧ fr 103 = qu (U.getD (((J - 1) + (lb))) 0) ∧ fr 104 = .slice (some ⟨b84, 0, none⟩) lb (ys.length + 1) ∧ fr 105 = qi (lb : Int) ∧ fr 106 = qi ((lb : Int) - 1) ∧ fr 107 = .pointer (some ⟨b84, (((lb) - 1)), none⟩) ∧ fr 108 = qu (L85.getD (((lb) - 1)) 0) ∧ fr 109 = qd ((U.getD (((J - 1) + (lb))) 0) < (L85.getD (((lb) - 1)) 0)) ∧ fr 175 = qi (lb : Int) ∧ fr 176 = qi (i : Int) ∧ fr 177 = qd ((i : Int) < (lb : Int)) ∧ fr 215 = .tuple #[qu (((M.getD (((J - 1) + (lb))) 0) - cy - bw) % 18446744073709551616), qu (if (M.getD (((J - 1) + (lb))) 0) < cy + bw then 1 else 0)] ∧ fr 216 = .slice (some ⟨b96, 0, none⟩) (xs.length + 1) (xs.length + 1) ∧ fr 217 = qi ((J : Int) - 1) ∧ fr 218 = qi (lb : Int) ∧ fr 219 = qi (((J : Int) - 1) + (lb : Int)) ∧ fr 220 = .slice (some ⟨b96, 0, none⟩) (xs.length + 1) (xs.length + 1) ∧ fr 221 = qi ((J : Int) - 1) ∧ fr 222 = qi (lb : Int) ∧ fr 223 = qi (((J : Int) - 1) + (lb : Int)) ∧ fr 224 = .pointer (some ⟨b96, (((J - 1) + (lb))), none⟩) ∧ fr 225 = qu (M.getD (((J - 1) + (lb))) 0) ∧ fr 226 = qu cy ∧ fr 227 = qu bw ∧ fr 228 = .tuple #[qu (((M.getD (((J - 1) + (lb))) 0) - cy - bw) % 18446744073709551616), qu (if (M.getD (((J - 1) + (lb))) 0) < cy + bw then 1 else 0)] ∧ fr 229 = qu (((M.getD (((J - 1) + (lb))) 0) - cy - bw) % 18446744073709551616) ∧ fr 230 = qu (if (M.getD (((J - 1) + (lb))) 0) < cy + bw then 1 else 0) ∧ fr 231 = .pointer (some ⟨b96, (((J - 1) + (lb))), none⟩) ∧ Below w.heap.size w wl ∧ wl.heap[b84]? = some (.cells (L85.map (Value.int .u64)).toArray 36) ∧ wl.heap[b96]? = some (.cells (P.map (Value.int .u64)).toArray 36) ∧ wl.heap[b107]? = some (.cells (O.map (Value.int .u64)).toArray 36) ∧ (0 ≤ qq ∧ qq < 18446744073709551616) ∧ (P.length = la + 1) ∧ (okW (2 ^ 64) P) ∧ (0 ≤ bb ∧ bb ≤ 1) ∧ (valB (2 ^ 64) P = valB (2 ^ 64) U - qq * valB (2 ^ 64) L85 * (2 ^ 64) ^ (J - 1) + bb * (2 ^ 64) ^ (J - 1 + lb + 1)) ∧ (∀ k, J - 1 + lb < k → P.getD k 0 = 0) ∧ (valB (2 ^ 64) U < (qq + 1) * valB (2 ^ 64) L85 * (2 ^ 64) ^ (J - 1))) (q.toNat) ⟨q, (M.set (((J - 1) + (lb))) (((M.getD (((J - 1) + (lb))) 0) - cy - bw) % 18446744073709551616)), (if (M.getD (((J - 1) + (lb))) 0) < cy + bw then 1 else 0), rfl, f179, f180, f181, f182, f183, f184, f185, f186, f187, rfl, f189, f190, f191, f192, f193, f194, f195, f196, f197, f198, f199, f200, f201, f202, f203, f204, f205, rfl, rfl, rfl, rfl, rfl, rfl, rfl, rfl, rfl, rfl, rfl, rfl, rfl, rfl, rfl, rfl, rfl, rfl, E226, H227, H225, H228, hq, (by simp [hMl]), (okW.set hMo (by omega) (by omega) _), (by split <;> omega), (by have h := hM; rw [show i = lb by omega, hVt] at h; exact msub_top (by omega) h (by rw [p64]; split <;> omega)), (fun k hk => by rw [Fw.getD_set_neQ _ _ _ _ (by omega)]; exact hMz k hk), hg⟩ ?_
     intro d233 fr232 w229 hI230 ih231
     obtain ⟨qq, P, bb, hd283, f234, f235, f236, f237, f238, f239, f240, f241, f242, f243, f244, f245, f246, f247, f248, f249, f250, f251, f252, f253, f254, f255, f256, f257, f258, f259, f260, f261, f262, f263, f264, f265, f266, f267, f268, f269, f270, f271, f272, f273, f274, f275, f276, f277, f278, E279, H280, H281, H282, hqq, hPl, hPo, hbb, hP, hPz, hgq⟩ := hI230
     have hPlt : valB (2 ^ 64) P < (2 ^ 64) ^ (J - 1 + lb + 1) := lt_of_zero (by decide) hPo (fun k hk => hPz k (by omega))
     refine rk_seq <| rk_seq <| rk_reg <| qm (qu bb) rfl f243 <| lw_v _ (dv_eql (a := bb) (b := 1) (Z rfl) C) <| lw_nil ?_
     by_cases hb284 : bb = 1
     · refine rk_ct (T rfl (qT hb284)) <| rk_skip <| rk_block <| rk_seq ?_
       have hneg := back_neg (by rw [show bb = 1 by omega] at hP; exact hP) hPlt
       have hq1 := back_pos hVp (by decide) hUnn hneg
       refine rk_reg <| qm (qu qq) rfl f242 <| lw_v _ (dv_sub (a := qq) (b := 1) (z := qq - 1) (Z rfl) C (wn_u64 (by omega) (by omega))) <| qs (qu (qq - 1)) rfl rfl <| qN <| lw_v (qu 0) (dv_assign C) <| lw_nil <| rk_seq <| rk_seq <| rk_reg <| qm (qi (lb : Int)) rfl f236 <| lw_v (qi 0) (dv_move C) <| lw_nil <| rk_block <| rk_loop (fun dm_ fr wl => ∃ (i2 : Nat) (R : List Int) (cr : Int), dm_ = lb - i2 ∧ fr 4 = .slice none 0 0 ∧ fr 5 = .slice none 0 0 ∧ fr 6 = qi (lb : Int) ∧ fr 10 = qi (S73 : Int) ∧ fr 11 = .slice (some ⟨b84, 0, none⟩) lb (ys.length + 1) ∧ fr 12 = .slice (some ⟨b96, 0, none⟩) (xs.length + 1) (xs.length + 1) ∧ fr 13 = .slice (some ⟨b107, 0, none⟩) ((((la) - (lb)) + 1)) ((((la) - (lb)) + 1)) ∧ fr 14 = qi ((J : Int) - 1) ∧ fr 15 = qu (qq - 1) ∧ fr 20 = qu bb ∧ fr 21 = qu cy ∧ fr 26 = qu cr ∧ fr 94 = qi ((J : Int) - 1) ∧ fr 95 = qd (0 ≤ ((J : Int) - 1)) ∧ fr 98 = .slice (some ⟨b96, 0, none⟩) (xs.length + 1) (xs.length + 1) ∧ fr 99 = qi ((J : Int) - 1) ∧ fr 100 = qi (lb : Int) ∧ fr 101 = qi (((J : Int) - 1) + (lb : Int)) ∧ fr 102 = .pointer (some ⟨b96, (((J - 1) + (lb))), none⟩) ∧ fr 103 = qu (U.getD (((J - 1) + (lb))) 0) ∧ fr 104 = .slice (some ⟨b84, 0, none⟩) lb (ys.length + 1) ∧ fr 105 = qi (lb : Int) ∧ fr 106 = qi ((lb : Int) - 1) ∧ fr 107 = .pointer (some ⟨b84, (((lb) - 1)), none⟩) ∧ fr 108 = qu (L85.getD (((lb) - 1)) 0) ∧ fr 109 = qd ((U.getD (((J - 1) + (lb))) 0) < (L85.getD (((lb) - 1)) 0)) ∧ fr 175 = qi (lb : Int) ∧ fr 176 = qi (i : Int) ∧ fr 177 = qd ((i : Int) < (lb : Int)) ∧ fr 215 = .tuple #[qu (((M.getD (((J - 1) + (lb))) 0) - cy - bw) % 18446744073709551616), qu (if (M.getD (((J - 1) + (lb))) 0) < cy + bw then 1 else 0)] ∧ fr 216 = .slice (some ⟨b96, 0, none⟩) (xs.length + 1) (xs.length + 1) ∧ fr 217 = qi ((J : Int) - 1) ∧ fr 218 = qi (lb : Int) ∧ fr 219 = qi (((J : Int) - 1) + (lb : Int)) ∧ fr 220 = .slice (some ⟨b96, 0, none⟩) (xs.length + 1) (xs.length + 1) ∧ fr 221 = qi ((J : Int) - 1) ∧ fr 222 = qi (lb : Int) ∧ fr 223 = qi (((J : Int) - 1) + (lb : Int)) ∧ fr 224 = .pointer (some ⟨b96, (((J - 1) + (lb))), none⟩) ∧ fr 225 = qu (M.getD (((J - 1) + (lb))) 0) ∧ fr 226 = qu cy ∧ fr 227 = qu bw ∧ fr 228 = .tuple #[qu (((M.getD (((J - 1) + (lb))) 0) - cy - bw) % 18446744073709551616), qu (if (M.getD (((J - 1) + (lb))) 0) < cy + bw then 1 else 0)] ∧ fr 229 = qu (((M.getD (((J - 1) + (lb))) 0) - cy - bw) % 18446744073709551616) ∧ fr 230 = qu (if (M.getD (((J - 1) + (lb))) 0) < cy + bw then 1 else 0) ∧ fr 231 = .pointer (some ⟨b96, (((J - 1) + (lb))), none⟩) ∧ fr 232 = qu bb ∧ fr 233 = qd (bb = 1) ∧ fr 234 = qu qq ∧ fr 235 = qu (qq - 1) ∧ fr 236 = qi (lb : Int) ∧ fr 237 = qi (i2 : Int) ∧ Below w.heap.size w wl ∧ wl.heap[b84]? = some (.cells (L85.map (Value.int .u64)).toArray 36) ∧ wl.heap[b96]? = some (.cells (R.map (Value.int .u64)).toArray 36) ∧ wl.heap[b107]? = some (.cells (O.map (Value.int .u64)).toArray 36) ∧ (i2 ≤ lb) ∧ (R.length = la + 1) ∧ (okW (2 ^ 64) R) ∧ (0 ≤ cr ∧ cr ≤ 1) ∧ (valB (2 ^ 64) R + cr * (2 ^ 64) ^ (J - 1 + i2) = valB (2 ^ 64) P + valB (2 ^ 64) (L85.take i2) * (2 ^ 64) ^ (J - 1)) ∧ (∀ k, J - 1 + lb < k → R.getD k 0 = 0)) (lb - 0) ⟨0, P, 0, rfl, f234, f235, f236, f237, f238, f239, f240, f241, rfl, f243, f244, rfl, f245, f246, f247, f248, f249, f250, f251, f252, f253, f254, f255, f256, f257, f258, f259, f260, f261, f262, f263, f264, f265, f266, f267, f268, f269, f270, f271, f272, f273, f274, f275, f276, f277, f278, rfl, rfl, rfl, rfl, rfl, (vi (by omega)), E279, H280, H281, H282, (Nat.zero_le _), hPl, hPo, (by decide), (by simp [valB]), hPz⟩ ?_
       intro d289 fr288 w285 hI286 ih287
       obtain ⟨i2, R, cr, hd346, f290, f291, f292, f293, f294, f295, f296, f297, f298, f299, f300, f301, f302, f303, f304, f305, f306, f307, f308, f309, f310, f311, f312, f313, f314, f315, f316, f317, f318, f319, f320, f321, f322, f323, f324, f325, f326, f327, f328, f329, f330, f331, f332, f333, f334, f335, f336, f337, f338, f339, f340, f341, E342, H343, H344, H345, hi2, hRl, hRo, hca, hR, hRz⟩ := hI286
       have bR := okW.getD hRo (by decide) (J - 1 + i2)
       have bV := okW.getD ho89 (by decide) i2
       have bRt := okW.getD hRo (by decide) (J - 1 + lb)
       refine rk_seq <| rk_reg <| lw_v _ (dv_lss (a := (i2 : Int)) (b := (lb : Int)) (T rfl f341) (T rfl f340)) <| lw_nil <| rk_seq ?_
       by_cases hb347 : ((i2 : Int)) < ((lb : Int))
       · refine rk_ct (T rfl (qT hb347)) <| rk_skip <| rk_seq <| rk_block <| rk_seq <| rk_reg <| qm (qi (i2 : Int)) rfl f341 <| qs (qi (i2 : Int)) rfl rfl <| lw_nil <| rk_st 20 [.slice (some ⟨b96, 0, none⟩) (xs.length + 1) (xs.length + 1), qi ((J : Int) - 1), qi (i2 : Int), qi (((J : Int) - 1) + (i2 : Int)), .slice (some ⟨b96, 0, none⟩) (xs.length + 1) (xs.length + 1), qi ((J : Int) - 1), qi (i2 : Int), qi (((J : Int) - 1) + (i2 : Int)), .pointer (some ⟨b96, (((J - 1) + (i2))), none⟩), qu (R.getD (((J - 1) + (i2))) 0), .slice (some ⟨b84, 0, none⟩) lb (ys.length + 1), qi (i2 : Int), .pointer (some ⟨b84, i2, none⟩), qu (L85.getD i2 0), qu cr, .tuple #[qu (((R.getD (((J - 1) + (i2))) 0) + (L85.getD i2 0) + cr) % 18446744073709551616), qu (((R.getD (((J - 1) + (i2))) 0) + (L85.getD i2 0) + cr) / 18446744073709551616)], .tuple #[qu (((R.getD (((J - 1) + (i2))) 0) + (L85.getD i2 0) + cr) % 18446744073709551616), qu (((R.getD (((J - 1) + (i2))) 0) + (L85.getD i2 0) + cr) / 18446744073709551616)], qu (((R.getD (((J - 1) + (i2))) 0) + (L85.getD i2 0) + cr) % 18446744073709551616), qu (((R.getD (((J - 1) + (i2))) 0) + (L85.getD i2 0) + cr) / 18446744073709551616), .pointer (some ⟨b96, (((J - 1) + (i2))), none⟩), undef, qu (((R.getD (((J - 1) + (i2))) 0) + (L85.getD i2 0) + cr) / 18446744073709551616)] (fun wk => ∃ wd, Drew w285 wd ∧ St b96 wd wk ∧ wk.heap[b96]? = some (.cells (((R.set (((J - 1) + (i2))) (((R.getD (((J - 1) + (i2))) 0) + (L85.getD i2 0) + cr) % 18446744073709551616))).map (Value.int .u64)).toArray 36)) mo (by kernel_rfl) ?_ ?_
         · intro w348 d349
           have E350 := qe E342 d349.ext
           refine ⟨?_, ?_, ?_, ?_, ?_, ?_, ?_, ?_, ?_, ?_, ?_, ?_, ?_, ?_, ?_, ?_, ?_, ?_, ?_, ?_, ?_, ?_, trivial⟩
           · intro fr351 w352 hB353 hF354 hD355
             obtain rfl := hB353 (.inr (by kernel_rfl))
             exact DV.oe (dv_move (T rfl ((hF354 12 (by kernel_rfl)).trans f295))) (by rw [if_neg (by decide)]; exact ⟨rfl, rfl⟩)
           · intro fr356 w357 hB358 hF359 hD360
             obtain rfl := hB358 (.inr (by kernel_rfl))
             exact DV.oe (dv_move (T rfl ((hF359 14 (by kernel_rfl)).trans f297))) (by rw [if_neg (by decide)]; exact ⟨rfl, rfl⟩)
           · intro fr361 w362 hB363 hF364 hD365
             obtain rfl := hB363 (.inr (by kernel_rfl))
             exact DV.oe (dv_move (T rfl (hF364 27 (by kernel_rfl)))) (by rw [if_neg (by decide)]; exact ⟨rfl, rfl⟩)
           · intro fr366 w367 hB368 hF369 hD370
             obtain rfl := hB368 (.inr (by kernel_rfl))
             have hv371 : fr366 242 = qi ((J : Int) - 1) := hD370 1 _ (by decide) rfl (by kernel_rfl)
             have hv372 : fr366 243 = qi (i2 : Int) := hD370 2 _ (by decide) rfl (by kernel_rfl)
             exact DV.oe (dv_add (a := (J : Int) - 1) (b := (i2 : Int)) (z := ((J : Int) - 1) + ((i2 : Int))) (T rfl hv371) (T rfl hv372) (wr_i64 (by omega) (by omega))) (by rw [if_neg (by decide)]; exact ⟨rfl, rfl⟩)
           · intro fr373 w374 hB375 hF376 hD377
             obtain rfl := hB375 (.inr (by kernel_rfl))
             exact DV.oe (dv_move (T rfl ((hF376 12 (by kernel_rfl)).trans f295))) (by rw [if_neg (by decide)]; exact ⟨rfl, rfl⟩)
           · intro fr378 w379 hB380 hF381 hD382
             obtain rfl := hB380 (.inr (by kernel_rfl))
             exact DV.oe (dv_move (T rfl ((hF381 14 (by kernel_rfl)).trans f297))) (by rw [if_neg (by decide)]; exact ⟨rfl, rfl⟩)
           · intro fr383 w384 hB385 hF386 hD387
             obtain rfl := hB385 (.inr (by kernel_rfl))
             exact DV.oe (dv_move (T rfl (hF386 27 (by kernel_rfl)))) (by rw [if_neg (by decide)]; exact ⟨rfl, rfl⟩)
           · intro fr388 w389 hB390 hF391 hD392
             obtain rfl := hB390 (.inr (by kernel_rfl))
             have hv393 : fr388 246 = qi ((J : Int) - 1) := hD392 5 _ (by decide) rfl (by kernel_rfl)
             have hv394 : fr388 247 = qi (i2 : Int) := hD392 6 _ (by decide) rfl (by kernel_rfl)
             exact DV.oe (dv_add (a := (J : Int) - 1) (b := (i2 : Int)) (z := ((J : Int) - 1) + ((i2 : Int))) (T rfl hv393) (T rfl hv394) (wr_i64 (by omega) (by omega))) (by rw [if_neg (by decide)]; exact ⟨rfl, rfl⟩)
           · intro fr395 w396 hB397 hF398 hD399
             obtain rfl := hB397 (.inr (by kernel_rfl))
             have hv400 : fr395 245 = .slice (some ⟨b96, 0, none⟩) (xs.length + 1) (xs.length + 1) := hD399 4 _ (by decide) rfl (by kernel_rfl)
             have hv401 : fr395 248 = qi (((J : Int) - 1) + (i2 : Int)) := hD399 7 _ (by decide) rfl (by kernel_rfl)
             exact DV.oe (dv_indexO (g := b96) (l := (xs.length + 1)) (c := (xs.length + 1)) (i := ((J - 1) + (i2))) (j := ((J : Int) - 1) + ((i2 : Int))) us105 sz36 (T rfl hv400) (T rfl hv401) (by omega) (by first | omega | simp <;> omega)) (by rw [if_neg (by decide)]; exact ⟨rfl, rfl⟩)
           · intro fr402 w403 hB404 hF405 hD406
             obtain rfl := hB404 (.inr (by kernel_rfl))
             have hv407 : fr402 249 = .pointer (some ⟨b96, (((J - 1) + (i2))), none⟩) := hD406 8 _ (by decide) rfl (by kernel_rfl)
             have H408 := (d349.ext.blk H344)
             exact DV.oe (dv_loadW (L := R) (v := R.getD (((J - 1) + (i2))) 0) agt36 (T rfl hv407) H408 (by first | omega | simp <;> omega) rfl) (by rw [if_neg (by decide)]; exact ⟨rfl, rfl⟩)
           · intro fr409 w410 hB411 hF412 hD413
             obtain rfl := hB411 (.inr (by kernel_rfl))
             exact DV.oe (dv_move (T rfl ((hF412 11 (by kernel_rfl)).trans f294))) (by rw [if_neg (by decide)]; exact ⟨rfl, rfl⟩)
           · intro fr414 w415 hB416 hF417 hD418
             obtain rfl := hB416 (.inr (by kernel_rfl))
             exact DV.oe (dv_move (T rfl (hF417 27 (by kernel_rfl)))) (by rw [if_neg (by decide)]; exact ⟨rfl, rfl⟩)
           · intro fr419 w420 hB421 hF422 hD423
             obtain rfl := hB421 (.inr (by kernel_rfl))
             have hv424 : fr419 251 = .slice (some ⟨b84, 0, none⟩) lb (ys.length + 1) := hD423 10 _ (by decide) rfl (by kernel_rfl)
             have hv425 : fr419 252 = qi (i2 : Int) := hD423 11 _ (by decide) rfl (by kernel_rfl)
             exact DV.oe (dv_indexO (g := b84) (l := lb) (c := (ys.length + 1)) (i := i2) (j := (i2 : Int)) us105 sz36 (T rfl hv424) (T rfl hv425) (by omega) (by first | omega | simp <;> omega)) (by rw [if_neg (by decide)]; exact ⟨rfl, rfl⟩)
           · intro fr426 w427 hB428 hF429 hD430
             obtain rfl := hB428 (.inr (by kernel_rfl))
             have hv431 : fr426 253 = .pointer (some ⟨b84, i2, none⟩) := hD430 12 _ (by decide) rfl (by kernel_rfl)
             have H432 := (d349.ext.blk H343)
             exact DV.oe (dv_loadW (L := L85) (v := L85.getD i2 0) agt36 (T rfl hv431) H432 (by first | omega | simp <;> omega) rfl) (by rw [if_neg (by decide)]; exact ⟨rfl, rfl⟩)
           · intro fr433 w434 hB435 hF436 hD437
             obtain rfl := hB435 (.inr (by kernel_rfl))
             exact DV.oe (dv_move (T rfl ((hF436 26 (by kernel_rfl)).trans f301))) (by rw [if_neg (by decide)]; exact ⟨rfl, rfl⟩)
           · intro fr438 w439 hB440 hF441 hD442
             obtain rfl := hB440 (.inr (by kernel_rfl))
             have hv443 : fr438 250 = qu (R.getD (((J - 1) + (i2))) 0) := hD442 9 _ (by decide) rfl (by kernel_rfl)
             have hv444 : fr438 254 = qu (L85.getD i2 0) := hD442 13 _ (by decide) rfl (by kernel_rfl)
             have hv445 : fr438 255 = qu cr := hD442 14 _ (by decide) rfl (by kernel_rfl)
             exact DV.oe (dv_ext (e := add64Entry) (vs := [.int .u64 (R.getD (((J - 1) + (i2))) 0), .int .u64 (L85.getD i2 0), .int .u64 cr]) Try.func116 rfl rfl (by kernel_rfl) (by kernel_rfl) (ar3 (T rfl hv443) (T rfl hv444) (T rfl hv445)) (run_addE (R.getD (((J - 1) + (i2))) 0) (L85.getD i2 0) cr (by omega) (by omega) (by omega))) (by rw [if_neg (by decide)]; exact ⟨rfl, rfl⟩)
           · intro fr446 w447 hB448 hF449 hD450
             obtain rfl := hB448 (.inr (by kernel_rfl))
             have hv451 : fr446 256 = .tuple #[qu (((R.getD (((J - 1) + (i2))) 0) + (L85.getD i2 0) + cr) % 18446744073709551616), qu (((R.getD (((J - 1) + (i2))) 0) + (L85.getD i2 0) + cr) / 18446744073709551616)] := hD450 15 _ (by decide) rfl (by kernel_rfl)
             exact DV.oe (dv_move (T rfl hv451)) (by rw [if_neg (by decide)]; exact ⟨rfl, rfl⟩)
           · intro fr452 w453 hB454 hF455 hD456
             obtain rfl := hB454 (.inr (by kernel_rfl))
             have hv457 : fr452 240 = .tuple #[qu (((R.getD (((J - 1) + (i2))) 0) + (L85.getD i2 0) + cr) % 18446744073709551616), qu (((R.getD (((J - 1) + (i2))) 0) + (L85.getD i2 0) + cr) / 18446744073709551616)] := hD456 16 _ (by decide) rfl (by kernel_rfl)
             exact DV.oe (dv_extract (vs := #[.int .u64 (((R.getD (((J - 1) + (i2))) 0) + (L85.getD i2 0) + cr) % 18446744073709551616), .int .u64 (((R.getD (((J - 1) + (i2))) 0) + (L85.getD i2 0) + cr) / 18446744073709551616)]) (T rfl hv457) rfl) (by rw [if_neg (by decide)]; exact ⟨rfl, rfl⟩)
           · intro fr458 w459 hB460 hF461 hD462
             have hv463 : fr458 240 = .tuple #[qu (((R.getD (((J - 1) + (i2))) 0) + (L85.getD i2 0) + cr) % 18446744073709551616), qu (((R.getD (((J - 1) + (i2))) 0) + (L85.getD i2 0) + cr) / 18446744073709551616)] := hD462 16 _ (by decide) rfl (by kernel_rfl)
             exact DV.oe (dv_extract (vs := #[.int .u64 (((R.getD (((J - 1) + (i2))) 0) + (L85.getD i2 0) + cr) % 18446744073709551616), .int .u64 (((R.getD (((J - 1) + (i2))) 0) + (L85.getD i2 0) + cr) / 18446744073709551616)]) (T rfl hv463) rfl) (by rw [if_neg (by decide)]; exact ⟨rfl, rfl⟩)
           · intro fr464 w465 hB466 hF467 hD468
             obtain rfl := hB466 (.inr (by kernel_rfl))
             have hv469 : fr464 241 = .slice (some ⟨b96, 0, none⟩) (xs.length + 1) (xs.length + 1) := hD468 0 _ (by decide) rfl (by kernel_rfl)
             have hv470 : fr464 244 = qi (((J : Int) - 1) + (i2 : Int)) := hD468 3 _ (by decide) rfl (by kernel_rfl)
             exact DV.oe (dv_indexO (g := b96) (l := (xs.length + 1)) (c := (xs.length + 1)) (i := ((J - 1) + (i2))) (j := ((J : Int) - 1) + ((i2 : Int))) us105 sz36 (T rfl hv469) (T rfl hv470) (by omega) (by first | omega | simp <;> omega)) (by rw [if_neg (by decide)]; exact ⟨rfl, rfl⟩)
           · intro fr471 w472 hB473 hF474 hD475
             obtain rfl := hB473 (.inl rfl)
             have hv476 : fr471 257 = qu (((R.getD (((J - 1) + (i2))) 0) + (L85.getD i2 0) + cr) % 18446744073709551616) := hD475 17 _ (by decide) rfl (by kernel_rfl)
             have hv477 : fr471 259 = .pointer (some ⟨b96, (((J - 1) + (i2))), none⟩) := hD475 19 _ (by decide) rfl (by kernel_rfl)
             have H478 := (d349.ext.blk H344)
             refine oe_storeW (L := R) (i := ((J - 1) + (i2))) (z := ((R.getD (((J - 1) + (i2))) 0) + (L85.getD i2 0) + cr) % 18446744073709551616) sz36 (T rfl hv477) (T rfl hv476) H478 (by first | omega | simp <;> omega) ?_
             intro w479 s480 H481
             have E482 := below_st E350 N106 s480
             rw [if_pos rfl]
             exact ⟨_, d349, s480, H481⟩
           intro fr483 w484 hB485 hF486 hD487
           have hv488 : fr483 258 = qu (((R.getD (((J - 1) + (i2))) 0) + (L85.getD i2 0) + cr) / 18446744073709551616) := hD487 18 _ (by decide) rfl (by kernel_rfl)
           exact DV.oe (dv_assign (T rfl hv488)) (by rw [if_neg (by decide)]; exact ⟨rfl, rfl⟩)
         intro fr489 w490 hK491 hF492 hP493
         obtain ⟨w494, d495, s496, H497⟩ := hK491
         have E498 := qe E342 d495.ext
         have H499 := (d495.ext.blk H344)
         have E500 := below_st E498 N106 s496
         obtain ⟨p501, p502, p503, p504, p505, p506, p507, p508, p509, p510, p511, p512, p513, p514, p515, p516, p517, p518, p519, p520, _, p521, _⟩ := hP493
         have hv522 : fr489 241 = .slice (some ⟨b96, 0, none⟩) (xs.length + 1) (xs.length + 1) := p501.resolve_left (by decide)
         have hv523 : fr489 242 = qi ((J : Int) - 1) := p502.resolve_left (by decide)
         have hv524 : fr489 243 = qi (i2 : Int) := p503.resolve_left (by decide)
         have hv525 : fr489 244 = qi (((J : Int) - 1) + (i2 : Int)) := p504.resolve_left (by decide)
         have hv526 : fr489 245 = .slice (some ⟨b96, 0, none⟩) (xs.length + 1) (xs.length + 1) := p505.resolve_left (by decide)
         have hv527 : fr489 246 = qi ((J : Int) - 1) := p506.resolve_left (by decide)
         have hv528 : fr489 247 = qi (i2 : Int) := p507.resolve_left (by decide)
         have hv529 : fr489 248 = qi (((J : Int) - 1) + (i2 : Int)) := p508.resolve_left (by decide)
         have hv530 : fr489 249 = .pointer (some ⟨b96, (((J - 1) + (i2))), none⟩) := p509.resolve_left (by decide)
         have hv531 : fr489 250 = qu (R.getD (((J - 1) + (i2))) 0) := p510.resolve_left (by decide)
         have hv532 : fr489 251 = .slice (some ⟨b84, 0, none⟩) lb (ys.length + 1) := p511.resolve_left (by decide)
         have hv533 : fr489 252 = qi (i2 : Int) := p512.resolve_left (by decide)
         have hv534 : fr489 253 = .pointer (some ⟨b84, i2, none⟩) := p513.resolve_left (by decide)
         have hv535 : fr489 254 = qu (L85.getD i2 0) := p514.resolve_left (by decide)
         have hv536 : fr489 255 = qu cr := p515.resolve_left (by decide)
         have hv537 : fr489 256 = .tuple #[qu (((R.getD (((J - 1) + (i2))) 0) + (L85.getD i2 0) + cr) % 18446744073709551616), qu (((R.getD (((J - 1) + (i2))) 0) + (L85.getD i2 0) + cr) / 18446744073709551616)] := p516.resolve_left (by decide)
         have hv538 : fr489 240 = .tuple #[qu (((R.getD (((J - 1) + (i2))) 0) + (L85.getD i2 0) + cr) % 18446744073709551616), qu (((R.getD (((J - 1) + (i2))) 0) + (L85.getD i2 0) + cr) / 18446744073709551616)] := p517.resolve_left (by decide)
         have hv539 : fr489 257 = qu (((R.getD (((J - 1) + (i2))) 0) + (L85.getD i2 0) + cr) % 18446744073709551616) := p518.resolve_left (by decide)
         have hv540 : fr489 258 = qu (((R.getD (((J - 1) + (i2))) 0) + (L85.getD i2 0) + cr) / 18446744073709551616) := p519.resolve_left (by decide)
         have hv541 : fr489 259 = .pointer (some ⟨b96, (((J - 1) + (i2))), none⟩) := p520.resolve_left (by decide)
         have hv542 : fr489 26 = qu (((R.getD (((J - 1) + (i2))) 0) + (L85.getD i2 0) + cr) / 18446744073709551616) := p521.resolve_left (by decide)
         refine rk_inBlock <| rk_reg <| lw_v _ (dv_add (a := (i2 : Int)) (b := 1) (z := (i2 : Int) + 1) (T rfl ((hF492 237 rfl).trans f341)) C (wr_i64 (by omega) (by omega))) <| qm (qi ((i2 : Int) + 1)) rfl rfl <| lw_nil ?_
         have H543 := (s496.blk (d495.ext.blk H343) (by omega))
         have H544 := (s496.blk (d495.ext.blk H345) (by omega))
         exact ih287 (lb - (i2 + 1)) _ _ (by rw [hd346]; omega) ⟨(i2 + 1), (R.set (((J - 1) + (i2))) (((R.getD (((J - 1) + (i2))) 0) + (L85.getD i2 0) + cr) % 18446744073709551616)), (((R.getD (((J - 1) + (i2))) 0) + (L85.getD i2 0) + cr) / 18446744073709551616), rfl, ((hF492 4 rfl).trans f290), ((hF492 5 rfl).trans f291), ((hF492 6 rfl).trans f292), ((hF492 10 rfl).trans f293), ((hF492 11 rfl).trans f294), ((hF492 12 rfl).trans f295), ((hF492 13 rfl).trans f296), ((hF492 14 rfl).trans f297), ((hF492 15 rfl).trans f298), ((hF492 20 rfl).trans f299), ((hF492 21 rfl).trans f300), hv542, ((hF492 94 rfl).trans f302), ((hF492 95 rfl).trans f303), ((hF492 98 rfl).trans f304), ((hF492 99 rfl).trans f305), ((hF492 100 rfl).trans f306), ((hF492 101 rfl).trans f307), ((hF492 102 rfl).trans f308), ((hF492 103 rfl).trans f309), ((hF492 104 rfl).trans f310), ((hF492 105 rfl).trans f311), ((hF492 106 rfl).trans f312), ((hF492 107 rfl).trans f313), ((hF492 108 rfl).trans f314), ((hF492 109 rfl).trans f315), ((hF492 175 rfl).trans f316), ((hF492 176 rfl).trans f317), ((hF492 177 rfl).trans f318), ((hF492 215 rfl).trans f319), ((hF492 216 rfl).trans f320), ((hF492 217 rfl).trans f321), ((hF492 218 rfl).trans f322), ((hF492 219 rfl).trans f323), ((hF492 220 rfl).trans f324), ((hF492 221 rfl).trans f325), ((hF492 222 rfl).trans f326), ((hF492 223 rfl).trans f327), ((hF492 224 rfl).trans f328), ((hF492 225 rfl).trans f329), ((hF492 226 rfl).trans f330), ((hF492 227 rfl).trans f331), ((hF492 228 rfl).trans f332), ((hF492 229 rfl).trans f333), ((hF492 230 rfl).trans f334), ((hF492 231 rfl).trans f335), ((hF492 232 rfl).trans f336), ((hF492 233 rfl).trans f337), ((hF492 234 rfl).trans f338), ((hF492 235 rfl).trans f339), ((hF492 236 rfl).trans f340), (vi (by omega)), E500, H543, H497, H544, (by omega), (by simp [hRl]), (okW.set hRo (by omega) (by omega) _), (by omega), (madd_step (by omega) hR (by rw [p64]; exact modsum _)), (fun k hk => by rw [Fw.getD_set_neQ _ _ _ _ (by omega)]; exact hRz k hk)⟩
       refine rk_cf (T rfl (qF hb347)) <| rk_exit rfl <| rk_seq <| rk_reg <| qm (.slice (some ⟨b96, 0, none⟩) (xs.length + 1) (xs.length + 1)) rfl f295 <| qm (qi ((J : Int) - 1)) rfl f297 <| qm (qi (lb : Int)) rfl f292 <| lw_v _ (dv_add (a := (J : Int) - 1) (b := (lb : Int)) (z := ((J : Int) - 1) + (lb : Int)) (Z rfl) (Z rfl) (wr_i64 (by omega) (by omega))) <| qm (.slice (some ⟨b96, 0, none⟩) (xs.length + 1) (xs.length + 1)) rfl f295 <| qm (qi ((J : Int) - 1)) rfl f297 <| qm (qi (lb : Int)) rfl f292 <| lw_v _ (dv_add (a := (J : Int) - 1) (b := (lb : Int)) (z := ((J : Int) - 1) + (lb : Int)) (Z rfl) (Z rfl) (wr_i64 (by omega) (by omega))) <| lw_v (.pointer (some ⟨b96, (((J - 1) + (lb))), none⟩)) (dv_indexO (g := b96) (l := (xs.length + 1)) (c := (xs.length + 1)) (i := ((J - 1) + (lb))) (j := ((J : Int) - 1) + (lb : Int)) us105 sz36 (Z rfl) (Z rfl) (by omega) (by first | omega | simp <;> omega)) <| lw_v (qu (R.getD (((J - 1) + (lb))) 0)) (dv_loadW (L := R) (v := R.getD (((J - 1) + (lb))) 0) agt36 (Z rfl) H344 (by first | omega | simp <;> omega) rfl) <| qm (qu cr) rfl f301 <| lw_v (.tuple #[qu (((R.getD (((J - 1) + (lb))) 0) + 0 + cr) % 18446744073709551616), qu (((R.getD (((J - 1) + (lb))) 0) + 0 + cr) / 18446744073709551616)]) (dv_ext (e := add64Entry) (vs := [qu (R.getD (((J - 1) + (lb))) 0), qu 0, qu cr]) Try.func116 rfl rfl (by kernel_rfl) (by kernel_rfl) (ar3 (Z rfl) C (Z rfl)) (run_addE (R.getD (((J - 1) + (lb))) 0) 0 cr (by omega) (by omega) (by omega))) <| qm (.tuple #[qu (((R.getD (((J - 1) + (lb))) 0) + 0 + cr) % 18446744073709551616), qu (((R.getD (((J - 1) + (lb))) 0) + 0 + cr) / 18446744073709551616)]) rfl rfl <| lw_v (qu (((R.getD (((J - 1) + (lb))) 0) + 0 + cr) % 18446744073709551616)) (dv_extract (vs := #[qu (((R.getD (((J - 1) + (lb))) 0) + 0 + cr) % 18446744073709551616), qu (((R.getD (((J - 1) + (lb))) 0) + 0 + cr) / 18446744073709551616)]) (Z rfl) rfl) <| lw_v (qu (((R.getD (((J - 1) + (lb))) 0) + 0 + cr) / 18446744073709551616)) (dv_extract (vs := #[qu (((R.getD (((J - 1) + (lb))) 0) + 0 + cr) % 18446744073709551616), qu (((R.getD (((J - 1) + (lb))) 0) + 0 + cr) / 18446744073709551616)]) (Z rfl) rfl) <| lw_v (.pointer (some ⟨b96, (((J - 1) + (lb))), none⟩)) (dv_indexO (g := b96) (l := (xs.length + 1)) (c := (xs.length + 1)) (i := ((J - 1) + (lb))) (j := ((J : Int) - 1) + (lb : Int)) us105 sz36 (Z rfl) (Z rfl) (by omega) (by first | omega | simp <;> omega)) <| lw_e (oe_storeW (L := R) (i := ((J - 1) + (lb))) (z := ((R.getD (((J - 1) + (lb))) 0) + 0 + cr) % 18446744073709551616) sz36 (Z rfl) (Z rfl) H344 (by first | omega | simp <;> omega) ?_)
       intro w545 s546 H547
       have E548 := below_st E342 N106 s546
       refine qs (qu (((R.getD (((J - 1) + (lb))) 0) + 0 + cr) / 18446744073709551616)) rfl rfl <| lw_nil <| rk_reg <| qm (qu bb) rfl f299 <| qm (qu (((R.getD (((J - 1) + (lb))) 0) + 0 + cr) / 18446744073709551616)) rfl rfl <| lw_v _ (dv_sub (a := bb) (b := ((R.getD (((J - 1) + (lb))) 0) + 0 + cr) / 18446744073709551616) (z := bb - (((R.getD (((J - 1) + (lb))) 0) + 0 + cr) / 18446744073709551616)) (Z rfl) (Z rfl) (wn_u64 (by omega) (by omega))) <| qs (qu (bb - (((R.getD (((J - 1) + (lb))) 0) + 0 + cr) / 18446744073709551616))) rfl rfl <| lw_nil <| rk_inBlock ?_
       have H549 := (s546.blk H343 (by omega))
       have H550 := (s546.blk H345 (by omega))
       exact ih231 ((qq - 1).toNat) _ _ (by rw [hd283]; omega) ⟨(qq - 1), (R.set (((J - 1) + (lb))) (((R.getD (((J - 1) + (lb))) 0) + 0 + cr) % 18446744073709551616)), (bb - (((R.getD (((J - 1) + (lb))) 0) + 0 + cr) / 18446744073709551616)), rfl, f290, f291, f292, f293, f294, f295, f296, f297, f298, rfl, f300, f302, f303, f304, f305, f306, f307, f308, f309, f310, f311, f312, f313, f314, f315, f316, f317, f318, f319, f320, f321, f322, f323, f324, f325, f326, f327, f328, f329, f330, f331, f332, f333, f334, f335, E548, H549, H547, H550, (by omega), (by simp [hRl]), (okW.set hRo (by omega) (by omega) _), (by omega), (by have h := hR; rw [show i2 = lb by omega, hVt] at h; have h2 := back_step (by rw [show bb = 1 by omega] at hP; exact hP) (madd_top (by omega) h (by rw [p64]; exact modsum _)); rw [h2]; congr 2; omega), (fun k hk => by rw [Fw.getD_set_neQ _ _ _ _ (by omega)]; exact hRz k hk), (by rw [show qq - 1 + 1 = qq by omega]; exact hneg)⟩
     refine rk_cf (T rfl (qF hb284)) <| rk_exit rfl <| rk_reg <| qm (.slice (some ⟨b107, 0, none⟩) ((((la) - (lb)) + 1)) ((((la) - (lb)) + 1))) rfl f240 <| qm (qi ((J : Int) - 1)) rfl f241 <| qm (qu qq) rfl f242 <| lw_v (.pointer (some ⟨b107, (J - 1), none⟩)) (dv_indexO (g := b107) (l := (((la) - (lb)) + 1)) (c := (((la) - (lb)) + 1)) (i := (J - 1)) (j := (J : Int) - 1) us105 sz36 (Z rfl) (Z rfl) (by omega) (by first | omega | simp <;> omega)) <| lw_e (oe_storeW (L := O) (i := (J - 1)) (z := qq) sz36 (Z rfl) (Z rfl) H282 (by first | omega | simp <;> omega) ?_)
     intro w551 s552 H553
     have E554 := below_st E279 N110 s552
     refine lw_nil <| rk_inBlock <| rk_reg <| qm (qi ((J : Int) - 1)) rfl f241 <| lw_v _ (dv_sub (a := (J : Int) - 1) (b := 1) (z := ((J : Int) - 1) - 1) (Z rfl) C (wr_i64 (by omega) (by omega))) <| qs (qi (((J : Int) - 1) - 1)) rfl rfl <| lw_nil ?_
     have hbb0 : bb = 0 := by omega
     rw [hbb0] at hP
     have hfd := digit_found (j := J - 1) (by omega) (hO0 _ (by omega)) hP hV hgq
     have H555 := (s552.blk H280 (by omega))
     have H556 := (s552.blk H281 (by omega))
     exact ih116 (J - 1) _ _ (by rw [hd131]; omega) ⟨(J - 1), P, (O.set (J - 1) qq), rfl, f234, f235, f236, f237, f238, f239, f240, (vi (by omega)), E554, H555, H556, H553, (by omega), hPl, (by simp [hOl]), hPo, (okW.set hOo hqq.1 (by omega) _), (fun k hk => by rw [Fw.getD_set_neQ _ _ _ _ (by omega)]; exact hO0 k (by omega)), hfd.1, hfd.2⟩
   by_cases hb557 : (U.getD (((J - 1) + (lb))) 0) < (L85.getD (((lb) - 1)) 0)
   · refine rk_ct (T rfl (qT hb557)) <| rk_seq <| rk_reg <| lw_v (qu 0) (dv_assign C) <| lw_nil <| rk_seq <| rk_any (fun w => w.heap[b96]? = some (.cells (U.map (Value.int .u64)).toArray 36) ∧ w.heap[b84]? = some (.cells (L85.map (Value.int .u64)).toArray 36)) [23] mo ?_
     intro w558 d559
     have E560 := qe E140 d559.ext
     have H561 := (d559.ext.blk H141)
     have H562 := (d559.ext.blk H142)
     refine aw_pure 0 (.slice (some ⟨b96, 0, none⟩) (xs.length + 1) (xs.length + 1)) rfl (by kernel_rfl) .none ⟨H561, H562⟩ (fun _ => dv_move (T rfl f124)) <| aw_pure 1 (qi ((J : Int) - 1)) rfl (by kernel_rfl) .none ⟨H561, H562⟩ (fun _ => dv_move (T rfl f126)) <| aw_pure 2 (qi (lb : Int)) rfl (by kernel_rfl) .none ⟨H561, H562⟩ (fun _ => dv_move (T rfl f121)) <| aw_pure 3 (qi (((J : Int) - 1) + (lb : Int))) rfl (by kernel_rfl) .none ⟨H561, H562⟩ (fun _ => dv_add (a := (J : Int) - 1) (b := (lb : Int)) (z := ((J : Int) - 1) + (lb : Int)) (Z rfl) (Z rfl) (wr_i64 (by omega) (by omega))) <| aw_pure 4 (.pointer (some ⟨b96, (((J - 1) + (lb))), none⟩)) rfl (by kernel_rfl) .none ⟨H561, H562⟩ (fun _ => dv_indexO (g := b96) (l := (xs.length + 1)) (c := (xs.length + 1)) (i := ((J - 1) + (lb))) (j := ((J : Int) - 1) + (lb : Int)) us105 sz36 (Z rfl) (Z rfl) (by omega) (by first | omega | simp <;> omega)) <| aw_load 5 (qu (U.getD (((J - 1) + (lb))) 0)) rfl (by kernel_rfl) .none ⟨H561, H562⟩ (fun _ s => dv_loadW (L := U) (v := U.getD (((J - 1) + (lb))) 0) agt36 (Z rfl) s.1 (by first | omega | simp <;> omega) rfl) <| aw_pure 6 (.slice (some ⟨b96, 0, none⟩) (xs.length + 1) (xs.length + 1)) rfl (by kernel_rfl) .none ⟨H561, H562⟩ (fun _ => dv_move (T rfl f124)) <| aw_pure 7 (qi ((J : Int) - 1)) rfl (by kernel_rfl) .none ⟨H561, H562⟩ (fun _ => dv_move (T rfl f126)) <| aw_pure 8 (qi (lb : Int)) rfl (by kernel_rfl) .none ⟨H561, H562⟩ (fun _ => dv_move (T rfl f121)) <| aw_pure 9 (qi (((J : Int) - 1) + (lb : Int))) rfl (by kernel_rfl) .none ⟨H561, H562⟩ (fun _ => dv_add (a := (J : Int) - 1) (b := (lb : Int)) (z := ((J : Int) - 1) + (lb : Int)) (Z rfl) (Z rfl) (wr_i64 (by omega) (by omega))) <| aw_pure 10 (qi ((((J : Int) - 1) + (lb : Int)) - 1)) rfl (by kernel_rfl) .none ⟨H561, H562⟩ (fun _ => dv_sub (a := ((J : Int) - 1) + (lb : Int)) (b := 1) (z := (((J : Int) - 1) + (lb : Int)) - 1) (Z rfl) C (wr_i64 (by omega) (by omega))) <| aw_pure 11 (.pointer (some ⟨b96, ((((J - 1) + (lb)) - 1)), none⟩)) rfl (by kernel_rfl) .none ⟨H561, H562⟩ (fun _ => dv_indexO (g := b96) (l := (xs.length + 1)) (c := (xs.length + 1)) (i := (((J - 1) + (lb)) - 1)) (j := (((J : Int) - 1) + (lb : Int)) - 1) us105 sz36 (Z rfl) (Z rfl) (by omega) (by first | omega | simp <;> omega)) <| aw_load 12 (qu (U.getD ((((J - 1) + (lb)) - 1)) 0)) rfl (by kernel_rfl) .none ⟨H561, H562⟩ (fun _ s => dv_loadW (L := U) (v := U.getD ((((J - 1) + (lb)) - 1)) 0) agt36 (Z rfl) s.1 (by first | omega | simp <;> omega) rfl) <| aw_pure 13 (.slice (some ⟨b84, 0, none⟩) lb (ys.length + 1)) rfl (by kernel_rfl) .none ⟨H561, H562⟩ (fun _ => dv_move (T rfl f123)) <| aw_pure 14 (qi (lb : Int)) rfl (by kernel_rfl) .none ⟨H561, H562⟩ (fun _ => dv_move (T rfl f121)) <| aw_pure 15 (qi ((lb : Int) - 1)) rfl (by kernel_rfl) .none ⟨H561, H562⟩ (fun _ => dv_sub (a := (lb : Int)) (b := 1) (z := (lb : Int) - 1) (Z rfl) C (wr_i64 (by omega) (by omega))) <| aw_pure 16 (.pointer (some ⟨b84, (((lb) - 1)), none⟩)) rfl (by kernel_rfl) .none ⟨H561, H562⟩ (fun _ => dv_indexO (g := b84) (l := lb) (c := (ys.length + 1)) (i := ((lb) - 1)) (j := (lb : Int) - 1) us105 sz36 (Z rfl) (Z rfl) (by omega) (by first | omega | simp <;> omega)) <| aw_load 17 (qu (L85.getD (((lb) - 1)) 0)) rfl (by kernel_rfl) .none ⟨H561, H562⟩ (fun _ s => dv_loadW (L := L85) (v := L85.getD (((lb) - 1)) 0) agt36 (Z rfl) s.2 (by first | omega | simp <;> omega) rfl) <| aw_one 18 rfl (by kernel_rfl) .none (oe_callf (vs := [qu (U.getD (((J - 1) + (lb))) 0), qu (U.getD ((((J - 1) + (lb)) - 1)) 0), qu (L85.getD (((lb) - 1)) 0)]) co147 (ar3 (Z rfl) (Z rfl) (Z rfl)) (div64_q (hi := U.getD (((J - 1) + (lb))) 0) (lo := U.getD ((((J - 1) + (lb)) - 1)) 0) (y := L85.getD (((lb) - 1)) 0) (by omega) (by omega) (by omega) (by omega)) ?_)
     rintro _ w566 ⟨qd563, rd564, rfl, e567, hd565⟩
     have E568 := qe E560 e567
     obtain ⟨hd565a, hd565b, hd565c, hd565d⟩ := hd565
     have H569 := (e567.blk H561)
     have H570 := (e567.blk H562)
     refine ⟨.inr ⟨H569, H570⟩, ?_⟩
     refine aw_pure 19 (.tuple #[qu qd563, qu rd564]) rfl (by kernel_rfl) .none ⟨H569, H570⟩ (fun _ => dv_move (Z rfl)) <| aw_pure 20 (qu qd563) rfl (by kernel_rfl) .none ⟨H569, H570⟩ (fun _ => dv_extract (vs := #[qu qd563, qu rd564]) (Z rfl) rfl) <| aw_pure 21 (qu rd564) rfl (by kernel_rfl) .none ⟨H569, H570⟩ (fun _ => dv_extract (vs := #[qu qd563, qu rd564]) (Z rfl) rfl) <| aw_pure 22 (qu qd563) rfl (by kernel_rfl) .none ⟨H569, H570⟩ (fun _ => dv_assign (Z rfl)) <| aw_last 23 (qu rd564) rfl (by kernel_rfl) .none (fun _ => dv_assign (Z rfl)) <| aw_done (by kernel_rfl) <| rk_block ?_
     have H571 := (e567.blk (d559.ext.blk (d139.ext.blk H130)))
     refine rk_loop (fun dm_ fr wl => ∃ (qc rc : Int), dm_ = qc.toNat ∧ fr 4 = .slice none 0 0 ∧ fr 5 = .slice none 0 0 ∧ fr 6 = qi (lb : Int) ∧ fr 10 = qi (S73 : Int) ∧ fr 11 = .slice (some ⟨b84, 0, none⟩) lb (ys.length + 1) ∧ fr 12 = .slice (some ⟨b96, 0, none⟩) (xs.length + 1) (xs.length + 1) ∧ fr 13 = .slice (some ⟨b107, 0, none⟩) ((((la) - (lb)) + 1)) ((((la) - (lb)) + 1)) ∧ fr 14 = qi ((J : Int) - 1) ∧ fr 15 = qu qc ∧ fr 16 = qu rc ∧ fr 94 = qi ((J : Int) - 1) ∧ fr 95 = qd (0 ≤ ((J : Int) - 1)) ∧ fr 98 = .slice (some ⟨b96, 0, none⟩) (xs.length + 1) (xs.length + 1) ∧ fr 99 = qi ((J : Int) - 1) ∧ fr 100 = qi (lb : Int) ∧ fr 101 = qi (((J : Int) - 1) + (lb : Int)) ∧ fr 102 = .pointer (some ⟨b96, (((J - 1) + (lb))), none⟩) ∧ fr 103 = qu (U.getD (((J - 1) + (lb))) 0) ∧ fr 104 = .slice (some ⟨b84, 0, none⟩) lb (ys.length + 1) ∧ fr 105 = qi (lb : Int) ∧ fr 106 = qi ((lb : Int) - 1) ∧ fr 107 = .pointer (some ⟨b84, (((lb) - 1)), none⟩) ∧ fr 108 = qu (L85.getD (((lb) - 1)) 0) ∧ fr 109 = qd ((U.getD (((J - 1) + (lb))) 0) < (L85.getD (((lb) - 1)) 0)) ∧ Below w.heap.size w wl ∧ wl.heap[b84]? = some (.cells (L85.map (Value.int .u64)).toArray 36) ∧ wl.heap[b96]? = some (.cells (U.map (Value.int .u64)).toArray 36) ∧ wl.heap[b107]? = some (.cells (O.map (Value.int .u64)).toArray 36) ∧ (qc * L85.getD (lb - 1) 0 + rc = U.getD (J - 1 + lb) 0 * 18446744073709551616 + U.getD (J - 1 + lb - 1) 0) ∧ (0 ≤ qc ∧ qc < 18446744073709551616) ∧ (0 ≤ rc ∧ rc < 18446744073709551616) ∧ (valB (2 ^ 64) U < (qc + 1) * valB (2 ^ 64) L85 * (2 ^ 64) ^ (J - 1))) (qd563.toNat) ⟨qd563, rd564, rfl, f119, f120, f121, f122, f123, f124, f125, f126, rfl, rfl, rfl, rfl, rfl, rfl, rfl, rfl, rfl, rfl, rfl, rfl, rfl, rfl, rfl, rfl, E568, H570, H569, H571, (by omega), (by omega), (by omega), (guess64 (n := lb) hUo ho89 hVz hlb2 (by omega) (by omega) (by omega) hlt hd565a (by omega) (by omega))⟩ ?_
     intro d576 fr575 w572 hI573 ih574
     obtain ⟨qc, rc, hd605, f577, f578, f579, f580, f581, f582, f583, f584, f585, f586, f587, f588, f589, f590, f591, f592, f593, f594, f595, f596, f597, f598, f599, f600, E601, H602, H603, H604, hqc, hq0, hr0, hgc⟩ := hI573
     refine rk_block <| rk_seq <| rk_reg <| qm (qu qc) rfl f585 <| qm (.slice (some ⟨b84, 0, none⟩) lb (ys.length + 1)) rfl f581 <| qm (qi (lb : Int)) rfl f579 <| lw_v _ (dv_sub (a := (lb : Int)) (b := 2) (z := (lb : Int) - 2) (Z rfl) C (wr_i64 (by omega) (by omega))) <| lw_v (.pointer (some ⟨b84, (((lb) - 2)), none⟩)) (dv_indexO (g := b84) (l := lb) (c := (ys.length + 1)) (i := ((lb) - 2)) (j := (lb : Int) - 2) us105 sz36 (Z rfl) (Z rfl) (by omega) (by first | omega | simp <;> omega)) <| lw_v (qu (L85.getD (((lb) - 2)) 0)) (dv_loadW (L := L85) (v := L85.getD (((lb) - 2)) 0) agt36 (Z rfl) H602 (by first | omega | simp <;> omega) rfl) ?_
     have hm606 := mul_pos_bd (A := 18446744073709551615) (show 0 ≤ qc by omega) (by omega) (show 0 ≤ L85.getD (((lb) - 2)) 0 by omega) (by omega)
     refine lw_e (oe_callf (vs := [qu qc, qu (L85.getD (((lb) - 2)) 0)]) co115 (ar2 (Z rfl) (Z rfl)) (mul64_ok (by omega) (by omega)) ?_)
     rintro _ w607 ⟨rfl, e608⟩
     have E609 := qe E601 e608
     refine qm (.tuple #[qu (qc * (L85.getD (((lb) - 2)) 0) / 18446744073709551616), qu (qc * (L85.getD (((lb) - 2)) 0) % 18446744073709551616)]) rfl rfl <| lw_v (qu (qc * (L85.getD (((lb) - 2)) 0) / 18446744073709551616)) (dv_extract (vs := #[qu (qc * (L85.getD (((lb) - 2)) 0) / 18446744073709551616), qu (qc * (L85.getD (((lb) - 2)) 0) % 18446744073709551616)]) (Z rfl) rfl) <| lw_v (qu (qc * (L85.getD (((lb) - 2)) 0) % 18446744073709551616)) (dv_extract (vs := #[qu (qc * (L85.getD (((lb) - 2)) 0) / 18446744073709551616), qu (qc * (L85.getD (((lb) - 2)) 0) % 18446744073709551616)]) (Z rfl) rfl) <| qs (qu (qc * (L85.getD (((lb) - 2)) 0) / 18446744073709551616)) rfl rfl <| qs (qu (qc * (L85.getD (((lb) - 2)) 0) % 18446744073709551616)) rfl rfl <| lw_nil <| rk_seq <| rk_seq <| rk_reg <| qm (qu (qc * (L85.getD (((lb) - 2)) 0) / 18446744073709551616)) rfl rfl <| qm (qu rc) rfl f586 <| lw_v _ (dv_lss (a := qc * (L85.getD (((lb) - 2)) 0) / 18446744073709551616) (b := rc) (Z rfl) (Z rfl)) <| qm (qd ((qc * (L85.getD (((lb) - 2)) 0) / 18446744073709551616) < rc)) rfl rfl ?_
     by_cases hb610 : (qc * (L85.getD (((lb) - 2)) 0) / 18446744073709551616) < rc
     · refine lw_no (d := 145) rfl rfl (qT hb610) <| lw_no (d := 145) rfl rfl (qT hb610) <| lw_no (d := 145) rfl rfl (qT hb610) <| lw_no (d := 145) rfl rfl (qT hb610) <| lw_nou (d := 149) rfl rfl <| lw_nou (d := 149) rfl rfl <| lw_nou (d := 149) rfl rfl <| lw_nou (d := 149) rfl rfl <| lw_nou (d := 149) rfl rfl <| lw_nou (d := 149) rfl rfl <| lw_nou (d := 149) rfl rfl <| lw_nou (d := 149) rfl rfl <| lw_nou (d := 149) rfl rfl <| lw_no (d := 145) rfl rfl (qT hb610) <| lw_v (.bool true) (dv_pick_t (T rfl (qT hb610)) C) <| lw_nil <| rk_ct (Z rfl) <| rk_exit rfl ?_
       have H611 := (e608.blk H602)
       have H612 := (e608.blk H603)
       have H613 := (e608.blk H604)
       exact hj145 _ _ ⟨qc, f577, f578, f579, f580, f581, f582, f583, f584, f585, f587, f588, f589, f590, f591, f592, f593, f594, f595, f596, f597, f598, f599, f600, E609, H611, H612, H613, hq0, hgc⟩
     refine lw_vy (qu (qc * (L85.getD (((lb) - 2)) 0) / 18446744073709551616)) (d := 145) rfl rfl (qF hb610) (dv_move (Z rfl)) <| lw_vy (qu rc) (d := 145) rfl rfl (qF hb610) (dv_move (T rfl f586)) <| lw_vy (qd ((qc * (L85.getD (((lb) - 2)) 0) / 18446744073709551616) = rc)) (d := 145) rfl rfl (qF hb610) (dv_eql (a := qc * (L85.getD (((lb) - 2)) 0) / 18446744073709551616) (b := rc) (Z rfl) (Z rfl)) <| lw_vy (qd ((qc * (L85.getD (((lb) - 2)) 0) / 18446744073709551616) = rc)) (d := 145) rfl rfl (qF hb610) (dv_move (Z rfl)) ?_
     by_cases hb614 : (qc * (L85.getD (((lb) - 2)) 0) / 18446744073709551616) = rc
     · refine lw_vy (qu (qc * (L85.getD (((lb) - 2)) 0) % 18446744073709551616)) (d := 149) rfl rfl (qT hb614) (dv_move (Z rfl)) <| lw_vy (.slice (some ⟨b96, 0, none⟩) (xs.length + 1) (xs.length + 1)) (d := 149) rfl rfl (qT hb614) (dv_move (T rfl f582)) <| lw_vy (qi ((J : Int) - 1)) (d := 149) rfl rfl (qT hb614) (dv_move (T rfl f584)) <| lw_vy (qi (lb : Int)) (d := 149) rfl rfl (qT hb614) (dv_move (T rfl f579)) <| lw_vy (qi (((J : Int) - 1) + (lb : Int))) (d := 149) rfl rfl (qT hb614) (dv_add (a := (J : Int) - 1) (b := (lb : Int)) (z := ((J : Int) - 1) + (lb : Int)) (Z rfl) (Z rfl) (wr_i64 (by omega) (by omega))) <| lw_vy (qi ((((J : Int) - 1) + (lb : Int)) - 2)) (d := 149) rfl rfl (qT hb614) (dv_sub (a := ((J : Int) - 1) + (lb : Int)) (b := 2) (z := (((J : Int) - 1) + (lb : Int)) - 2) (Z rfl) C (wr_i64 (by omega) (by omega))) <| lw_vy (.pointer (some ⟨b96, ((((J - 1) + (lb)) - 2)), none⟩)) (d := 149) rfl rfl (qT hb614) (dv_indexO (g := b96) (l := (xs.length + 1)) (c := (xs.length + 1)) (i := (((J - 1) + (lb)) - 2)) (j := (((J : Int) - 1) + (lb : Int)) - 2) us105 sz36 (Z rfl) (Z rfl) (by omega) (by first | omega | simp <;> omega)) ?_
       have H615 := (e608.blk H603)
       refine lw_vy (qu (U.getD ((((J - 1) + (lb)) - 2)) 0)) (d := 149) rfl rfl (qT hb614) (dv_loadW (L := U) (v := U.getD ((((J - 1) + (lb)) - 2)) 0) agt36 (Z rfl) H615 (by first | omega | simp <;> omega) rfl) <| lw_vy (qd ((qc * (L85.getD (((lb) - 2)) 0) % 18446744073709551616) ≤ (U.getD ((((J - 1) + (lb)) - 2)) 0))) (d := 149) rfl rfl (qT hb614) (dv_leq (a := qc * (L85.getD (((lb) - 2)) 0) % 18446744073709551616) (b := U.getD ((((J - 1) + (lb)) - 2)) 0) (Z rfl) (Z rfl)) <| lw_vy (qd ((qc * (L85.getD (((lb) - 2)) 0) % 18446744073709551616) ≤ (U.getD ((((J - 1) + (lb)) - 2)) 0))) (d := 145) rfl rfl (qF hb610) (dv_pick_t (T rfl (qT hb614)) (Z rfl)) <| lw_v (qd ((qc * (L85.getD (((lb) - 2)) 0) % 18446744073709551616) ≤ (U.getD ((((J - 1) + (lb)) - 2)) 0))) (dv_pick_f (T rfl (qF hb610)) (Z rfl)) <| lw_nil ?_
       by_cases hb616 : (qc * (L85.getD (((lb) - 2)) 0) % 18446744073709551616) ≤ (U.getD ((((J - 1) + (lb)) - 2)) 0)
       · refine rk_ct (T rfl (qT hb616)) <| rk_exit rfl ?_
         have H617 := (e608.blk H602)
         have H618 := (e608.blk H604)
         exact hj145 _ _ ⟨qc, f577, f578, f579, f580, f581, f582, f583, f584, f585, f587, f588, f589, f590, f591, f592, f593, f594, f595, f596, f597, f598, f599, f600, E609, H617, H615, H618, hq0, hgc⟩
       refine rk_cf (T rfl (qF hb616)) <| rk_skip <| rk_seq ?_
       have hgt619 : rc * 18446744073709551616 + U.getD (J - 1 + lb - 2) 0 < qc * L85.getD (lb - 2) 0 := by omega
       have hqc1 : 1 ≤ qc := pos_of_mul hq0.1 (okW.getD ho89 (by decide) (lb - 2)).1 (by omega) hgt619
       refine rk_reg <| qm (qu qc) rfl f585 <| lw_v _ (dv_sub (a := qc) (b := 1) (z := qc - 1) (Z rfl) C (wn_u64 (by omega) (by omega))) <| qs (qu (qc - 1)) rfl rfl <| qN <| lw_v (qu 0) (dv_assign C) <| qN <| qm (qu rc) rfl f586 <| qm (.slice (some ⟨b84, 0, none⟩) lb (ys.length + 1)) rfl f581 <| qm (qi (lb : Int)) rfl f579 <| lw_v _ (dv_sub (a := (lb : Int)) (b := 1) (z := (lb : Int) - 1) (Z rfl) C (wr_i64 (by omega) (by omega))) <| lw_v (.pointer (some ⟨b84, (((lb) - 1)), none⟩)) (dv_indexO (g := b84) (l := lb) (c := (ys.length + 1)) (i := ((lb) - 1)) (j := (lb : Int) - 1) us105 sz36 (Z rfl) (Z rfl) (by omega) (by first | omega | simp <;> omega)) ?_
       have H620 := (e608.blk H602)
       refine lw_v (qu (L85.getD (((lb) - 1)) 0)) (dv_loadW (L := L85) (v := L85.getD (((lb) - 1)) 0) agt36 (Z rfl) H620 (by first | omega | simp <;> omega) rfl) <| lw_v (.tuple #[qu ((rc + (L85.getD (((lb) - 1)) 0) + 0) % 18446744073709551616), qu ((rc + (L85.getD (((lb) - 1)) 0) + 0) / 18446744073709551616)]) (dv_ext (e := add64Entry) (vs := [qu rc, qu (L85.getD (((lb) - 1)) 0), qu 0]) Try.func116 rfl rfl (by kernel_rfl) (by kernel_rfl) (ar3 (Z rfl) (Z rfl) C) (run_addE rc (L85.getD (((lb) - 1)) 0) 0 (by omega) (by omega) (by omega))) <| qm (.tuple #[qu ((rc + (L85.getD (((lb) - 1)) 0) + 0) % 18446744073709551616), qu ((rc + (L85.getD (((lb) - 1)) 0) + 0) / 18446744073709551616)]) rfl rfl <| lw_v (qu ((rc + (L85.getD (((lb) - 1)) 0) + 0) % 18446744073709551616)) (dv_extract (vs := #[qu ((rc + (L85.getD (((lb) - 1)) 0) + 0) % 18446744073709551616), qu ((rc + (L85.getD (((lb) - 1)) 0) + 0) / 18446744073709551616)]) (Z rfl) rfl) <| lw_v (qu ((rc + (L85.getD (((lb) - 1)) 0) + 0) / 18446744073709551616)) (dv_extract (vs := #[qu ((rc + (L85.getD (((lb) - 1)) 0) + 0) % 18446744073709551616), qu ((rc + (L85.getD (((lb) - 1)) 0) + 0) / 18446744073709551616)]) (Z rfl) rfl) <| qs (qu ((rc + (L85.getD (((lb) - 1)) 0) + 0) % 18446744073709551616)) rfl rfl <| qs (qu ((rc + (L85.getD (((lb) - 1)) 0) + 0) / 18446744073709551616)) rfl rfl <| qN <| qm (qu ((rc + (L85.getD (((lb) - 1)) 0) + 0) / 18446744073709551616)) rfl rfl <| lw_v _ (dv_eql (a := (rc + (L85.getD (((lb) - 1)) 0) + 0) / 18446744073709551616) (b := 1) (Z rfl) C) <| lw_nil ?_
       by_cases hb621 : ((rc + (L85.getD (((lb) - 1)) 0) + 0) / 18446744073709551616) = 1
       · refine rk_ct (T rfl (qT hb621)) <| rk_exit rfl ?_
         have H622 := (e608.blk H604)
         exact hj145 _ _ ⟨qc - 1, f577, f578, f579, f580, f581, f582, f583, f584, rfl, f587, f588, f589, f590, f591, f592, f593, f594, f595, f596, f597, f598, f599, f600, E609, H620, H615, H622, (by omega), (guess_less64 (n := lb) hUo ho89 hVz hlb2 (by omega) (by omega) (by omega) hlt hqc hq0.1 hgt619)⟩
       refine rk_cf (T rfl (qF hb621)) <| rk_skip <| rk_inBlock ?_
       have H623 := (e608.blk H604)
       exact ih574 ((qc - 1).toNat) _ _ (by rw [hd605]; omega) ⟨(qc - 1), ((rc + (L85.getD (((lb) - 1)) 0) + 0) % 18446744073709551616), rfl, f577, f578, f579, f580, f581, f582, f583, f584, rfl, rfl, f587, f588, f589, f590, f591, f592, f593, f594, f595, f596, f597, f598, f599, f600, E609, H620, H615, H623, (by rw [Int.sub_mul, Int.one_mul]; omega), (by omega), (by omega), (guess_less64 (n := lb) hUo ho89 hVz hlb2 (by omega) (by omega) (by omega) hlt hqc hq0.1 hgt619)⟩
     refine lw_no (d := 149) rfl rfl (qF hb614) <| lw_no (d := 149) rfl rfl (qF hb614) <| lw_no (d := 149) rfl rfl (qF hb614) <| lw_no (d := 149) rfl rfl (qF hb614) <| lw_no (d := 149) rfl rfl (qF hb614) <| lw_no (d := 149) rfl rfl (qF hb614) <| lw_no (d := 149) rfl rfl (qF hb614) <| lw_no (d := 149) rfl rfl (qF hb614) <| lw_no (d := 149) rfl rfl (qF hb614) <| lw_vy (.bool false) (d := 145) rfl rfl (qF hb610) (dv_pick_f (T rfl (qF hb614)) C) <| lw_v (.bool false) (dv_pick_f (T rfl (qF hb610)) (Z rfl)) <| lw_nil <| rk_cf (Z rfl) <| rk_skip <| rk_seq ?_
     have hgt624 : rc * 18446744073709551616 + U.getD (J - 1 + lb - 2) 0 < qc * L85.getD (lb - 2) 0 := by omega
     have hqc1 : 1 ≤ qc := pos_of_mul hq0.1 (okW.getD ho89 (by decide) (lb - 2)).1 (by omega) hgt624
     refine rk_reg <| qm (qu qc) rfl f585 <| lw_v _ (dv_sub (a := qc) (b := 1) (z := qc - 1) (Z rfl) C (wn_u64 (by omega) (by omega))) <| qs (qu (qc - 1)) rfl rfl <| qN <| lw_v (qu 0) (dv_assign C) <| qN <| qm (qu rc) rfl f586 <| qm (.slice (some ⟨b84, 0, none⟩) lb (ys.length + 1)) rfl f581 <| qm (qi (lb : Int)) rfl f579 <| lw_v _ (dv_sub (a := (lb : Int)) (b := 1) (z := (lb : Int) - 1) (Z rfl) C (wr_i64 (by omega) (by omega))) <| lw_v (.pointer (some ⟨b84, (((lb) - 1)), none⟩)) (dv_indexO (g := b84) (l := lb) (c := (ys.length + 1)) (i := ((lb) - 1)) (j := (lb : Int) - 1) us105 sz36 (Z rfl) (Z rfl) (by omega) (by first | omega | simp <;> omega)) ?_
     have H625 := (e608.blk H602)
     refine lw_v (qu (L85.getD (((lb) - 1)) 0)) (dv_loadW (L := L85) (v := L85.getD (((lb) - 1)) 0) agt36 (Z rfl) H625 (by first | omega | simp <;> omega) rfl) <| lw_v (.tuple #[qu ((rc + (L85.getD (((lb) - 1)) 0) + 0) % 18446744073709551616), qu ((rc + (L85.getD (((lb) - 1)) 0) + 0) / 18446744073709551616)]) (dv_ext (e := add64Entry) (vs := [qu rc, qu (L85.getD (((lb) - 1)) 0), qu 0]) Try.func116 rfl rfl (by kernel_rfl) (by kernel_rfl) (ar3 (Z rfl) (Z rfl) C) (run_addE rc (L85.getD (((lb) - 1)) 0) 0 (by omega) (by omega) (by omega))) <| qm (.tuple #[qu ((rc + (L85.getD (((lb) - 1)) 0) + 0) % 18446744073709551616), qu ((rc + (L85.getD (((lb) - 1)) 0) + 0) / 18446744073709551616)]) rfl rfl <| lw_v (qu ((rc + (L85.getD (((lb) - 1)) 0) + 0) % 18446744073709551616)) (dv_extract (vs := #[qu ((rc + (L85.getD (((lb) - 1)) 0) + 0) % 18446744073709551616), qu ((rc + (L85.getD (((lb) - 1)) 0) + 0) / 18446744073709551616)]) (Z rfl) rfl) <| lw_v (qu ((rc + (L85.getD (((lb) - 1)) 0) + 0) / 18446744073709551616)) (dv_extract (vs := #[qu ((rc + (L85.getD (((lb) - 1)) 0) + 0) % 18446744073709551616), qu ((rc + (L85.getD (((lb) - 1)) 0) + 0) / 18446744073709551616)]) (Z rfl) rfl) <| qs (qu ((rc + (L85.getD (((lb) - 1)) 0) + 0) % 18446744073709551616)) rfl rfl <| qs (qu ((rc + (L85.getD (((lb) - 1)) 0) + 0) / 18446744073709551616)) rfl rfl <| qN <| qm (qu ((rc + (L85.getD (((lb) - 1)) 0) + 0) / 18446744073709551616)) rfl rfl <| lw_v _ (dv_eql (a := (rc + (L85.getD (((lb) - 1)) 0) + 0) / 18446744073709551616) (b := 1) (Z rfl) C) <| lw_nil ?_
     by_cases hb626 : ((rc + (L85.getD (((lb) - 1)) 0) + 0) / 18446744073709551616) = 1
     · refine rk_ct (T rfl (qT hb626)) <| rk_exit rfl ?_
       have H627 := (e608.blk H603)
       have H628 := (e608.blk H604)
       exact hj145 _ _ ⟨qc - 1, f577, f578, f579, f580, f581, f582, f583, f584, rfl, f587, f588, f589, f590, f591, f592, f593, f594, f595, f596, f597, f598, f599, f600, E609, H625, H627, H628, (by omega), (guess_less64 (n := lb) hUo ho89 hVz hlb2 (by omega) (by omega) (by omega) hlt hqc hq0.1 hgt624)⟩
     refine rk_cf (T rfl (qF hb626)) <| rk_skip <| rk_inBlock ?_
     have H629 := (e608.blk H603)
     have H630 := (e608.blk H604)
     exact ih574 ((qc - 1).toNat) _ _ (by rw [hd605]; omega) ⟨(qc - 1), ((rc + (L85.getD (((lb) - 1)) 0) + 0) % 18446744073709551616), rfl, f577, f578, f579, f580, f581, f582, f583, f584, rfl, rfl, f587, f588, f589, f590, f591, f592, f593, f594, f595, f596, f597, f598, f599, f600, E609, H625, H629, H630, (by rw [Int.sub_mul, Int.one_mul]; omega), (by omega), (by omega), (guess_less64 (n := lb) hUo ho89 hVz hlb2 (by omega) (by omega) (by omega) hlt hqc hq0.1 hgt624)⟩
   refine rk_cf (T rfl (qF hb557)) <| rk_skip ?_
   have H631 := (d139.ext.blk H130)
   exact hj145 _ _ ⟨18446744073709551615, f119, f120, f121, f122, f123, f124, f125, f126, rfl, rfl, rfl, rfl, rfl, rfl, rfl, rfl, rfl, rfl, rfl, rfl, rfl, rfl, rfl, E140, H142, H141, H631, (by decide), (guess_top64 (by omega) hlt)⟩
 refine rk_cf (T rfl (qF hb137)) <| rk_exit rfl <| rk_seq ?_
 have hJ0 : J = 0 := by omega
 have hlt2 : valB (2 ^ 64) U < valB (2 ^ 64) L85 := by have h := hlt; rw [hJ0] at h; simpa using h
 have hUnn := valB_nonneg (B := 2 ^ 64) (by decide) hUo
 have hUz2 := zero_of_lt (by decide) hUo (m := lb) (by rw [hVv] at hlt2; omega)
 refine rk_reg <| qm (.slice (some ⟨b96, 0, none⟩) (xs.length + 1) (xs.length + 1)) rfl f124 <| qm (qi (lb : Int)) rfl f121 <| lw_v (.slice (some ⟨b96, 0, none⟩) lb (xs.length + 1)) (dv_sliceH (ad := some ⟨b96, 0, none⟩) (l := (xs.length + 1)) (c := (xs.length + 1)) (i := lb) (j := (lb : Int)) us105 sz36 (Z rfl) (Z rfl) (by omega) (by first | omega | simp <;> omega)) <| lw_e (oe_callf (vs := [.slice (some ⟨b96, 0, none⟩) lb (xs.length + 1)]) co139 (ar1 (Z rfl)) (trim_okl ((Wd.ownW H129).take lb) (by first | omega | simp <;> omega) (by first | omega | simp <;> omega) (by first | rfl | first | (simp; done) | (simp; omega) | omega)) ?_)
 rintro _ w632 ⟨rfl, e633⟩
 have E634 := qe E127 e633
 refine qs (.slice (some ⟨b96, 0, none⟩) ((trimL (U.take lb)).length) (xs.length + 1)) rfl rfl <| lw_nil <| rk_seq <| rk_seq <| rk_reg <| qm (.slice (some ⟨b96, 0, none⟩) ((trimL (U.take lb)).length) (xs.length + 1)) rfl rfl <| lw_v (qi (((trimL (U.take lb)).length : Int))) (dv_len (ad := some ⟨b96, 0, none⟩) (l := (trimL (U.take lb)).length) (c := (xs.length + 1)) us105 (Z rfl)) <| lw_v (qi 0) (dv_move C) <| lw_nil <| rk_block ?_
 have htl : (trimL (U.take lb)).length ≤ lb := by have := trimL_len (U.take lb); simp at this; omega
 have hU0 : ∀ k, (trimL (U.take lb)).length ≤ k → U.getD k 0 = 0 := fun k hk => by
  by_cases h : k < lb
  · have := trim_zero (xs := U.take lb) k hk (by simp; omega)
    rwa [getD_take _ _ _ h] at this
  exact hUz2 k (by omega)
 have H635 := (e633.blk H128)
 have H636 := (e633.blk H129)
 have H637 := (e633.blk H130)
 refine rk_loop (fun dm_ fr wl => ∃ (i3 : Nat) (M3 : List Int), dm_ = (trimL (U.take lb)).length - i3 ∧ fr 4 = .slice none 0 0 ∧ fr 5 = .slice none 0 0 ∧ fr 10 = qi (S73 : Int) ∧ fr 13 = .slice (some ⟨b107, 0, none⟩) ((((la) - (lb)) + 1)) ((((la) - (lb)) + 1)) ∧ fr 28 = .slice (some ⟨b96, 0, none⟩) ((trimL (U.take lb)).length) (xs.length + 1) ∧ fr 289 = qi (((trimL (U.take lb)).length : Int)) ∧ fr 290 = qi (i3 : Int) ∧ Below w.heap.size w wl ∧ wl.heap[b84]? = some (.cells (L85.map (Value.int .u64)).toArray 36) ∧ wl.heap[b96]? = some (.cells (M3.map (Value.int .u64)).toArray 36) ∧ wl.heap[b107]? = some (.cells (O.map (Value.int .u64)).toArray 36) ∧ (i3 ≤ (trimL (U.take lb)).length) ∧ (M3.length = U.length) ∧ (∀ k, k < U.length → M3.getD k 0 = if k < i3 then (U.getD k 0 + 18446744073709551616 * U.getD (k + 1) 0) / 2 ^ S73 % 18446744073709551616 else U.getD k 0)) ((trimL (U.take lb)).length - 0) ⟨0, U, rfl, f119, f120, f122, f125, rfl, rfl, (vi (by omega)), E634, H635, H636, H637, (Nat.zero_le _), rfl, (fun k hk => by rw [if_neg (by omega)])⟩ ?_
 intro d642 fr641 w638 hI639 ih640
 obtain ⟨i3, M3, hd654, f643, f644, f645, f646, f647, f648, f649, E650, H651, H652, H653, hi3, hM3l, hpt⟩ := hI639
 have bu3 := okW.getD hUo (by decide) i3
 have bu4 := okW.getD hUo (by decide) (i3 + 1)
 refine rk_seq <| rk_reg <| lw_v _ (dv_lss (a := (i3 : Int)) (b := ((trimL (U.take lb)).length : Int)) (T rfl f649) (T rfl f648)) <| lw_nil <| rk_seq ?_
 by_cases hb655 : ((i3 : Int)) < (((trimL ((U.take lb))).length : Int))
 · refine rk_ct (T rfl (qT hb655)) <| rk_skip <| rk_seq <| rk_block <| rk_seq <| rk_reg <| qm (qi (i3 : Int)) rfl f649 <| qs (qi (i3 : Int)) rfl rfl <| qN <| lw_v (qu 0) (dv_assign C) <| lw_nil <| rk_seq <| rk_seq ?_
   have hM1 : i3 + 1 < U.length → M3.getD (i3 + 1) 0 = U.getD (i3 + 1) 0 := fun h => by rw [hpt _ h, if_neg (by omega)]
   refine rk_reg <| qm (qi (i3 : Int)) rfl rfl <| lw_v _ (dv_add (a := (i3 : Int)) (b := 1) (z := (i3 : Int) + 1) (Z rfl) C (wr_i64 (by omega) (by omega))) <| qm (.slice (some ⟨b96, 0, none⟩) ((trimL (U.take lb)).length) (xs.length + 1)) rfl f647 <| lw_v (qi (((trimL (U.take lb)).length : Int))) (dv_len (ad := some ⟨b96, 0, none⟩) (l := (trimL (U.take lb)).length) (c := (xs.length + 1)) us105 (Z rfl)) <| lw_v _ (dv_lss (a := (i3 : Int) + 1) (b := ((trimL (U.take lb)).length : Int)) (Z rfl) (Z rfl)) <| qm (qd (((i3 : Int) + 1) < (((trimL (U.take lb)).length : Int)))) rfl rfl ?_
   by_cases hb656 : (((i3 : Int)) + 1) < (((trimL ((U.take lb))).length : Int))
   · refine lw_vy (qi (S73 : Int)) (d := 298) rfl rfl (qT hb656) (dv_move (T rfl f645)) <| lw_vy (qd (0 < (S73 : Int))) (d := 298) rfl rfl (qT hb656) (dv_gtr (a := (S73 : Int)) (b := 0) (Z rfl) C) <| lw_v (qd (0 < (S73 : Int))) (dv_pick_t (T rfl (qT hb656)) (Z rfl)) <| lw_nil <| rk_join (fun fr wl => ∃ (hw : Int), fr 4 = .slice none 0 0 ∧ fr 5 = .slice none 0 0 ∧ fr 10 = qi (S73 : Int) ∧ fr 13 = .slice (some ⟨b107, 0, none⟩) ((((la) - (lb)) + 1)) ((((la) - (lb)) + 1)) ∧ fr 28 = .slice (some ⟨b96, 0, none⟩) ((trimL (U.take lb)).length) (xs.length + 1) ∧ fr 29 = qi (i3 : Int) ∧ fr 30 = qu hw ∧ fr 289 = qi (((trimL (U.take lb)).length : Int)) ∧ fr 290 = qi (i3 : Int) ∧ fr 291 = qd ((i3 : Int) < (((trimL (U.take lb)).length : Int))) ∧ fr 292 = qi (i3 : Int) ∧ fr 293 = qi (i3 : Int) ∧ fr 294 = qi ((i3 : Int) + 1) ∧ fr 295 = .slice (some ⟨b96, 0, none⟩) ((trimL (U.take lb)).length) (xs.length + 1) ∧ fr 296 = qi (((trimL (U.take lb)).length : Int)) ∧ fr 297 = qd (((i3 : Int) + 1) < (((trimL (U.take lb)).length : Int))) ∧ fr 298 = qd (((i3 : Int) + 1) < (((trimL (U.take lb)).length : Int))) ∧ fr 299 = qi (S73 : Int) ∧ fr 300 = qd (0 < (S73 : Int)) ∧ fr 301 = qd (0 < (S73 : Int)) ∧ Below w.heap.size w wl ∧ wl.heap[b84]? = some (.cells (L85.map (Value.int .u64)).toArray 36) ∧ wl.heap[b96]? = some (.cells (M3.map (Value.int .u64)).toArray 36) ∧ wl.heap[b107]? = some (.cells (O.map (Value.int .u64)).toArray 36) ∧ (hw = U.getD (i3 + 1) 0 * 2 ^ (64 - S73) % 18446744073709551616)) ?_ (fun hj659 => ?_)
     · intro fr660 w657 hI658
       obtain ⟨hw, f661, f662, f663, f664, f665, f666, f667, f668, f669, f670, f671, f672, f673, f674, f675, f676, f677, f678, f679, f680, E681, H682, H683, H684, hhw⟩ := hI658
       have hMi : M3.getD i3 0 = U.getD i3 0 := by rw [hpt _ (by omega), if_neg (by omega)]
       have hsw := shr_word (u := U.getD i3 0) (h := U.getD (i3 + 1) 0) hs74 bu3.1 bu3.2 bu4.1
       have hmz : hw % 2 ^ (64 - S73) = 0 := by rw [hhw]; exact shl_mod (by omega)
       have hp64 : (2 : Int) ^ (64 - S73) ≤ 2 ^ 64 := pow_le_of (by decide) (by omega)
       have hwr : 0 ≤ hw ∧ hw < 18446744073709551616 := by rw [hhw]; exact ⟨Int.emod_nonneg _ (by decide), Int.emod_lt_of_pos _ (by decide)⟩
       refine rk_reg <| qm (.slice (some ⟨b96, 0, none⟩) ((trimL (U.take lb)).length) (xs.length + 1)) rfl f665 <| qm (qi (i3 : Int)) rfl f666 <| qm (.slice (some ⟨b96, 0, none⟩) ((trimL (U.take lb)).length) (xs.length + 1)) rfl f665 <| qm (qi (i3 : Int)) rfl f666 <| lw_v (.pointer (some ⟨b96, i3, none⟩)) (dv_indexO (g := b96) (l := (trimL (U.take lb)).length) (c := (xs.length + 1)) (i := i3) (j := (i3 : Int)) us105 sz36 (Z rfl) (Z rfl) (by omega) (by first | omega | simp <;> omega)) <| lw_v (qu (M3.getD i3 0)) (dv_loadW (L := M3) (v := M3.getD i3 0) agt36 (Z rfl) H683 (by first | omega | simp <;> omega) rfl) <| qm (qi (S73 : Int)) rfl f663 <| lw_v (qu ((M3.getD i3 0) / 2 ^ S73)) (dv_shr (a := M3.getD i3 0) (b := (S73 : Int)) (z := (M3.getD i3 0) / 2 ^ S73) (Z rfl) (Z rfl) (by omega) (shr_v (K := S73) (by omega) (show _ ≤ 64 by omega))) <| qm (qu hw) rfl f667 <| lw_v (qu (((M3.getD i3 0) / 2 ^ S73) + hw)) (dv_or (a := (M3.getD i3 0) / 2 ^ S73) (b := hw) (z := ((M3.getD i3 0) / 2 ^ S73) + hw) (Z rfl) (Z rfl) (by rw [hMi]; exact (or_add (k := .u64) (a := U.getD i3 0 / 2 ^ S73) (b := hw) (i := 64 - S73) rfl hsw.2.1 hsw.2.2 hwr.1 hmz (lt64 (by omega)) (lt64 (by omega))).1)) <| lw_v (.pointer (some ⟨b96, i3, none⟩)) (dv_indexO (g := b96) (l := (trimL (U.take lb)).length) (c := (xs.length + 1)) (i := i3) (j := (i3 : Int)) us105 sz36 (Z rfl) (Z rfl) (by omega) (by first | omega | simp <;> omega)) <| lw_e (oe_storeW (L := M3) (i := i3) (z := ((M3.getD i3 0) / 2 ^ S73) + hw) sz36 (Z rfl) (Z rfl) H683 (by first | omega | simp <;> omega) ?_)
       intro w685 s686 H687
       have E688 := below_st E681 N106 s686
       refine lw_nil <| rk_inBlock <| rk_reg <| lw_v _ (dv_add (a := (i3 : Int)) (b := 1) (z := (i3 : Int) + 1) (T rfl f669) C (wr_i64 (by omega) (by omega))) <| qm (qi ((i3 : Int) + 1)) rfl rfl <| lw_nil ?_
       have H689 := (s686.blk H682 (by omega))
       have H690 := (s686.blk H684 (by omega))
       exact ih640 ((trimL (U.take lb)).length - (i3 + 1)) _ _ (by rw [hd654]; omega) ⟨(i3 + 1), (M3.set i3 (((M3.getD i3 0) / 2 ^ S73) + hw)), rfl, f661, f662, f663, f664, f665, f668, (vi (by omega)), E688, H689, H687, H690, (by omega), (by simp [hM3l]), (shr_pt (by omega) hM3l (by rw [hMi, hhw]; exact hsw.1.symm) hpt)⟩
     by_cases hb691 : 0 < ((S73 : Int))
     · refine rk_ct (T rfl (qT hb691)) ?_
       have hM1b := hM1 (by omega)
       refine rk_reg <| qm (.slice (some ⟨b96, 0, none⟩) ((trimL (U.take lb)).length) (xs.length + 1)) rfl f647 <| qm (qi (i3 : Int)) rfl rfl <| lw_v _ (dv_add (a := (i3 : Int)) (b := 1) (z := (i3 : Int) + 1) (Z rfl) C (wr_i64 (by omega) (by omega))) <| lw_v (.pointer (some ⟨b96, (((i3) + 1)), none⟩)) (dv_indexO (g := b96) (l := (trimL (U.take lb)).length) (c := (xs.length + 1)) (i := ((i3) + 1)) (j := (i3 : Int) + 1) us105 sz36 (Z rfl) (Z rfl) (by omega) (by first | omega | simp <;> omega)) <| lw_v (qu (M3.getD (((i3) + 1)) 0)) (dv_loadW (L := M3) (v := M3.getD (((i3) + 1)) 0) agt36 (Z rfl) H652 (by first | omega | simp <;> omega) rfl) <| qm (qi (S73 : Int)) rfl f645 <| lw_v _ (dv_sub (a := 64) (b := (S73 : Int)) (z := 64 - (S73 : Int)) C (Z rfl) (wr_i64 (by omega) (by omega))) <| lw_v (qu (((M3.getD (((i3) + 1)) 0) * 2 ^ ((64 - (S73)))) % 18446744073709551616)) (dv_shl (a := M3.getD (((i3) + 1)) 0) (b := 64 - (S73 : Int)) (z := ((M3.getD (((i3) + 1)) 0) * 2 ^ ((64 - (S73)))) % 18446744073709551616) (Z rfl) (Z rfl) (by omega) (shl_w (K := (64 - (S73))) (by omega) (show _ ≤ 64 by omega) (wr_u64 _))) <| qs (qu (((M3.getD (((i3) + 1)) 0) * 2 ^ ((64 - (S73)))) % 18446744073709551616)) rfl rfl <| lw_nil <| hj659 _ _ ⟨((M3.getD (((i3) + 1)) 0) * 2 ^ ((64 - (S73)))) % 18446744073709551616, f643, f644, f645, f646, f647, rfl, rfl, f648, f649, rfl, rfl, rfl, rfl, rfl, rfl, rfl, rfl, rfl, rfl, rfl, E650, H651, H652, H653, (by rw [hM1b])⟩
     refine rk_cf (T rfl (qF hb691)) <| rk_skip <| hj659 _ _ ⟨0, f643, f644, f645, f646, f647, rfl, rfl, f648, f649, rfl, rfl, rfl, rfl, rfl, rfl, rfl, rfl, rfl, rfl, rfl, E650, H651, H652, H653, (by first | exact hi_zero (by omega) | (rw [hU0 _ (by omega)]; simp))⟩
   refine lw_no (d := 298) rfl rfl (qF hb656) <| lw_no (d := 298) rfl rfl (qF hb656) <| lw_v (.bool false) (dv_pick_f (T rfl (qF hb656)) C) <| lw_nil <| rk_join (fun fr wl => ∃ (hw : Int), fr 4 = .slice none 0 0 ∧ fr 5 = .slice none 0 0 ∧ fr 10 = qi (S73 : Int) ∧ fr 13 = .slice (some ⟨b107, 0, none⟩) ((((la) - (lb)) + 1)) ((((la) - (lb)) + 1)) ∧ fr 28 = .slice (some ⟨b96, 0, none⟩) ((trimL (U.take lb)).length) (xs.length + 1) ∧ fr 29 = qi (i3 : Int) ∧ fr 30 = qu hw ∧ fr 289 = qi (((trimL (U.take lb)).length : Int)) ∧ fr 290 = qi (i3 : Int) ∧ fr 291 = qd ((i3 : Int) < (((trimL (U.take lb)).length : Int))) ∧ fr 292 = qi (i3 : Int) ∧ fr 293 = qi (i3 : Int) ∧ fr 294 = qi ((i3 : Int) + 1) ∧ fr 295 = .slice (some ⟨b96, 0, none⟩) ((trimL (U.take lb)).length) (xs.length + 1) ∧ fr 296 = qi (((trimL (U.take lb)).length : Int)) ∧ fr 297 = qd (((i3 : Int) + 1) < (((trimL (U.take lb)).length : Int))) ∧ fr 298 = qd (((i3 : Int) + 1) < (((trimL (U.take lb)).length : Int))) ∧ fr 301 = .bool false ∧ Below w.heap.size w wl ∧ wl.heap[b84]? = some (.cells (L85.map (Value.int .u64)).toArray 36) ∧ wl.heap[b96]? = some (.cells (M3.map (Value.int .u64)).toArray 36) ∧ wl.heap[b107]? = some (.cells (O.map (Value.int .u64)).toArray 36) ∧ (hw = U.getD (i3 + 1) 0 * 2 ^ (64 - S73) % 18446744073709551616)) ?_ (fun hj694 => ?_)
   · intro fr695 w692 hI693
     obtain ⟨hw, f696, f697, f698, f699, f700, f701, f702, f703, f704, f705, f706, f707, f708, f709, f710, f711, f712, f713, E714, H715, H716, H717, hhw⟩ := hI693
     have hMi : M3.getD i3 0 = U.getD i3 0 := by rw [hpt _ (by omega), if_neg (by omega)]
     have hsw := shr_word (u := U.getD i3 0) (h := U.getD (i3 + 1) 0) hs74 bu3.1 bu3.2 bu4.1
     have hmz : hw % 2 ^ (64 - S73) = 0 := by rw [hhw]; exact shl_mod (by omega)
     have hp64 : (2 : Int) ^ (64 - S73) ≤ 2 ^ 64 := pow_le_of (by decide) (by omega)
     have hwr : 0 ≤ hw ∧ hw < 18446744073709551616 := by rw [hhw]; exact ⟨Int.emod_nonneg _ (by decide), Int.emod_lt_of_pos _ (by decide)⟩
     refine rk_reg <| qm (.slice (some ⟨b96, 0, none⟩) ((trimL (U.take lb)).length) (xs.length + 1)) rfl f700 <| qm (qi (i3 : Int)) rfl f701 <| qm (.slice (some ⟨b96, 0, none⟩) ((trimL (U.take lb)).length) (xs.length + 1)) rfl f700 <| qm (qi (i3 : Int)) rfl f701 <| lw_v (.pointer (some ⟨b96, i3, none⟩)) (dv_indexO (g := b96) (l := (trimL (U.take lb)).length) (c := (xs.length + 1)) (i := i3) (j := (i3 : Int)) us105 sz36 (Z rfl) (Z rfl) (by omega) (by first | omega | simp <;> omega)) <| lw_v (qu (M3.getD i3 0)) (dv_loadW (L := M3) (v := M3.getD i3 0) agt36 (Z rfl) H716 (by first | omega | simp <;> omega) rfl) <| qm (qi (S73 : Int)) rfl f698 <| lw_v (qu ((M3.getD i3 0) / 2 ^ S73)) (dv_shr (a := M3.getD i3 0) (b := (S73 : Int)) (z := (M3.getD i3 0) / 2 ^ S73) (Z rfl) (Z rfl) (by omega) (shr_v (K := S73) (by omega) (show _ ≤ 64 by omega))) <| qm (qu hw) rfl f702 <| lw_v (qu (((M3.getD i3 0) / 2 ^ S73) + hw)) (dv_or (a := (M3.getD i3 0) / 2 ^ S73) (b := hw) (z := ((M3.getD i3 0) / 2 ^ S73) + hw) (Z rfl) (Z rfl) (by rw [hMi]; exact (or_add (k := .u64) (a := U.getD i3 0 / 2 ^ S73) (b := hw) (i := 64 - S73) rfl hsw.2.1 hsw.2.2 hwr.1 hmz (lt64 (by omega)) (lt64 (by omega))).1)) <| lw_v (.pointer (some ⟨b96, i3, none⟩)) (dv_indexO (g := b96) (l := (trimL (U.take lb)).length) (c := (xs.length + 1)) (i := i3) (j := (i3 : Int)) us105 sz36 (Z rfl) (Z rfl) (by omega) (by first | omega | simp <;> omega)) <| lw_e (oe_storeW (L := M3) (i := i3) (z := ((M3.getD i3 0) / 2 ^ S73) + hw) sz36 (Z rfl) (Z rfl) H716 (by first | omega | simp <;> omega) ?_)
     intro w718 s719 H720
     have E721 := below_st E714 N106 s719
     refine lw_nil <| rk_inBlock <| rk_reg <| lw_v _ (dv_add (a := (i3 : Int)) (b := 1) (z := (i3 : Int) + 1) (T rfl f704) C (wr_i64 (by omega) (by omega))) <| qm (qi ((i3 : Int) + 1)) rfl rfl <| lw_nil ?_
     have H722 := (s719.blk H715 (by omega))
     have H723 := (s719.blk H717 (by omega))
     exact ih640 ((trimL (U.take lb)).length - (i3 + 1)) _ _ (by rw [hd654]; omega) ⟨(i3 + 1), (M3.set i3 (((M3.getD i3 0) / 2 ^ S73) + hw)), rfl, f696, f697, f698, f699, f700, f703, (vi (by omega)), E721, H722, H720, H723, (by omega), (by simp [hM3l]), (shr_pt (by omega) hM3l (by rw [hMi, hhw]; exact hsw.1.symm) hpt)⟩
   refine rk_cf (Z rfl) <| rk_skip <| hj694 _ _ ⟨0, f643, f644, f645, f646, f647, rfl, rfl, f648, f649, rfl, rfl, rfl, rfl, rfl, rfl, rfl, rfl, rfl, E650, H651, H652, H653, (by first | exact hi_zero (by omega) | (rw [hU0 _ (by omega)]; simp))⟩
 refine rk_cf (T rfl (qF hb655)) <| rk_exit rfl <| rk_seq ?_
 have hse := shr_end hs74 hUo (t := (trimL (U.take lb)).length) (by omega) hM3l hU0 (fun k hk => by have h := hpt k hk; rwa [show i3 = (trimL (U.take lb)).length by omega] at h)
 refine rk_reg <| qm (.slice (some ⟨b107, 0, none⟩) ((((la) - (lb)) + 1)) ((((la) - (lb)) + 1))) rfl f646 <| lw_e (oe_callf (vs := [.slice (some ⟨b107, 0, none⟩) ((((la) - (lb)) + 1)) ((((la) - (lb)) + 1))]) co139 (ar1 (Z rfl)) (trim_okl (Wd.ownW H653) (by first | omega | simp <;> omega) (by first | omega | simp <;> omega) (by first | rfl | first | (simp; done) | (simp; omega) | omega)) ?_)
 rintro _ w724 ⟨rfl, e725⟩
 have E726 := qe E650 e725
 refine qm (.slice (some ⟨b96, 0, none⟩) ((trimL (U.take lb)).length) (xs.length + 1)) rfl f647 ?_
 have h727 := (((Wd.ownW H652).take ((trimL (U.take lb)).length)).ext e725)
 refine lw_e (oe_callf (vs := [.slice (some ⟨b96, 0, none⟩) ((trimL (U.take lb)).length) (xs.length + 1)]) co139 (ar1 (Z rfl)) (trim_okl h727 (by first | omega | simp <;> omega) (by first | omega | simp <;> omega) (by first | rfl | first | (simp; done) | (simp; omega) | omega)) ?_)
 rintro _ w728 ⟨rfl, e729⟩
 have E730 := qe E726 e729
 refine qs (.slice (some ⟨b107, 0, none⟩) ((trimL O).length) ((((la) - (lb)) + 1))) rfl rfl <| qs (.slice (some ⟨b96, 0, none⟩) ((trimL ((M3.take ((trimL (U.take lb)).length)))).length) (xs.length + 1)) rfl rfl <| lw_nil <| rk_ret Try.func135 (v := .tuple #[.slice (some ⟨b107, 0, none⟩) ((trimL O).length) ((((la) - (lb)) + 1)), .slice (some ⟨b96, 0, none⟩) ((trimL ((M3.take ((trimL (U.take lb)).length)))).length) (xs.length + 1)]) (res2 Try.results135 (rv_tmp rfl rfl) (rv_tmp rfl rfl)) ⟨_, rfl, ?_⟩
 have h731 := ((Wd.trim ((Wd.ownW H653).ext e725)).ext e729)
 have hd := div_sc (x := x) (y := y) (q := valB (2 ^ 64) O) (r := valB (2 ^ 64) U) (two_pos S73) (by rw [← hVv]; exact hV) hUnn (by rw [← hVv]; exact hlt2)
 have ht1 := trimL_len O
 have ht2 := trimL_len ((M3.take ((trimL (U.take lb)).length)))
 simp only [List.length_cons, List.length_nil, List.length_take] at ht1 ht2
 exact ⟨_, _, _, _, _, _, rfl, E730, ⟨trimL O, rfl, (by omega), h731, trimL_ok hOo, trimL_canon _, (by rw [trimL_val]; exact hd.1.symm)⟩, ⟨trimL ((M3.take ((trimL (U.take lb)).length))), rfl, (by first | omega | (simp; omega)), (Wd.trim (h727.ext e729)), trimL_ok hse.2, trimL_canon _, (by rw [trimL_val]; exact (by rw [hse.1]; exact hd.2.1.symm))⟩⟩
theorem co128 : callOk Try.prog 128 = true := by kernel_rfl
theorem l1Trim_numA {w : World} {neg : Bool} {A : Option Addr} {l c s : Nat} {x : Int} (h : Ws 32 168 .u32 w A l c x) (hl : l ≤ 1000000) (hs : x < 2 ^ s) : Ct Try.prog 131 [.bool neg, .slice A l c] w fun v w1 =>
 ∃ nb A' n c', v = .agg #[.bool nb, .slice A' n c'] ∧ Ext w w1 ∧ Num 32 168 .u32 w1 nb A' n c' (sg neg x) s ∧ (A' = none ∨ A' = A) := by
 obtain ⟨xs, rfl, hc, hw, ho, hv⟩ := h
 refine (l1Trim_ok (neg := neg) hw hc hl).mono fun v w1 ⟨h1, h2⟩ => ?_
 have hc' := trimL_canon xs
 have hcp := canon_pos (B := 2 ^ 32) (by decide) (trimL_ok ho) hc'
 rw [trimL_val, ← hv] at hcp
 have h0 := valB_nonneg (B := 2 ^ 32) (by decide) ho
 by_cases hz : (trimL xs).length = 0
 · rw [if_pos hz] at h1
   have hx0 : x = 0 := by omega
   subst hx0
   exact ⟨_, _, _, _, h1, h2, Num.zero.to (by cases neg <;> simp [sg]) (Nat.le_refl _), .inl rfl⟩
 rw [if_neg hz] at h1
 exact ⟨_, _, _, _, h1, h2, Wc.num ⟨trimL xs, rfl, Nat.le_trans (trimL_len xs) hc, (hw.ext h2).trim, trimL_ok ho, hc', by rw [hv, trimL_val]⟩ (fun hn => by omega) rfl hs, .inr rfl⟩
set_option maxHeartbeats 1000000 in
theorem l1DivAbs_ok {w : World} {Aa Ab : Option Addr} {la ca lb cb : Nat} {x y : Int} {sx sy : Nat} (ha : Wc 32 168 .u32 w Aa la ca x) (hb : Wc 32 168 .u32 w Ab lb cb y) (hy : 0 < y) (hxs : x < 2 ^ sx) (hys : y < 2 ^ sy) (hs : sx ≤ 200000) (hs2 : sy ≤ 200000) : Ct Try.prog 130 [.slice Aa la ca, .slice Ab lb cb] w fun v w1 => ∃ A1 n1 c1 A2 n2 c2, v = .tuple #[.slice A1 n1 c1, .slice A2 n2 c2] ∧ Ext w w1 ∧ Wc 32 168 .u32 w1 A1 n1 c1 (x / y) ∧ Wc 32 168 .u32 w1 A2 n2 c2 (x % y) := by
 refine ct_run (n := 59) Try.func130 rfl Try.ntmps130 rfl ?_
 have E0 : Below w.heap.size w w := Below.refl _ _
 have hx0 := ha.nonneg
 have lla := Wc.len (by decide) ha hxs
 have llb := Wc.len (by decide) hb hys
 have hnx : nbits x.toNat ≤ sx := nbits_le_iff.2 (by have e2 : ((2 ^ sx : Nat) : Int) = 2 ^ sx := (by simp); omega)
 have hny : nbits y.toNat ≤ sy := nbits_le_iff.2 (by have e2 : ((2 ^ sy : Nat) : Int) = 2 ^ sy := (by simp); omega)
 have hn1 := nbits_pos (x := y.toNat) (by omega)
 refine rk_seq <| rk_reg <| lw_v (.slice none 0 0) (dv_assign C) <| lw_v (.slice none 0 0) (dv_assign C) <| qN <| qm (.slice Aa la ca) rfl rfl <| lw_e (oe_callf (vs := [.slice Aa la ca]) co128 (ar1 (Z rfl)) (l1Bits_wc ha (by first | omega | simp <;> omega)) ?_)
 rintro _ w1 ⟨rfl, e2⟩
 have E3 := qe E0 e2
 refine qm (.slice Ab lb cb) rfl rfl ?_
 have h4 := (hb.ext e2)
 refine lw_e (oe_callf (vs := [.slice Ab lb cb]) co128 (ar1 (Z rfl)) (l1Bits_wc h4 (by first | omega | simp <;> omega)) ?_)
 rintro _ w5 ⟨rfl, e6⟩
 have E7 := qe E3 e6
 refine lw_v _ (dv_sub (a := (nbits (x).toNat : Int)) (b := (nbits (y).toNat : Int)) (z := ((nbits (x).toNat : Int)) - ((nbits (y).toNat : Int))) (Z rfl) (Z rfl) (wr_i64 (by omega) (by omega))) <| qs (qi (((nbits (x).toNat : Int)) - ((nbits (y).toNat : Int)))) rfl rfl <| lw_nil <| rk_seq <| rk_seq <| rk_reg <| qm (qi (((nbits (x).toNat : Int)) - ((nbits (y).toNat : Int)))) rfl rfl <| lw_v _ (dv_lss (a := ((nbits (x).toNat : Int)) - ((nbits (y).toNat : Int))) (b := 0) (Z rfl) C) <| lw_nil ?_
 by_cases hb8 : (((nbits (x).toNat : Int)) - ((nbits (y).toNat : Int))) < 0
 · refine rk_ct (T rfl (qT hb8)) <| rk_seq <| rk_reg <| qm (.slice Aa la ca) rfl rfl <| lw_v (.slice none 0 0) (dv_assign C) <| qs (.slice Aa la ca) rfl rfl <| lw_nil <| rk_ret Try.func130 (v := .tuple #[.slice none 0 0, .slice Aa la ca]) (res2 Try.results130 (rv_tmp rfl rfl) (rv_tmp rfl rfl)) ⟨_, rfl, ?_⟩
   have hlt : x.toNat < y.toNat := nbits_mono_lt (by omega)
   have hq0 := Int.ediv_eq_zero_of_lt (a := x) (b := y) hx0 (by omega)
   have hr0 := Int.emod_eq_of_lt (a := x) (b := y) hx0 (by omega)
   have h9 := ((ha.ext e2).ext e6)
   exact ⟨_, _, _, _, _, _, rfl, E7, Wc.zero.eq hq0.symm, h9.eq hr0.symm⟩
 refine rk_cf (T rfl (qF hb8)) <| rk_skip <| rk_seq ?_
 obtain ⟨m, hm⟩ := Int.eq_ofNat_of_zero_le (show 0 ≤ ((nbits (x).toNat : Int)) - ((nbits (y).toNat : Int)) by omega)
 have hmb : m ≤ sx := by omega
 have hbs := bits_start (a := x.toNat) (b := y.toNat) (n := m) (by omega) (by omega)
 rw [Int.toNat_of_nonneg hx0, Int.toNat_of_nonneg (Int.le_of_lt hy)] at hbs
 have hleny := Wc.len (by decide) hb hys
 have hlenx := Wc.len (by decide) ha hxs
 refine rk_reg <| qm (qi (m : Int)) rfl (vi hm) <| lw_v (qi ((m : Int) / 32)) (dv_quo (a := (m : Int)) (b := 32) (z := (m : Int) / 32) (Z rfl) C (by decide) (quo_c (by omega) (by decide) (wr_i64 (by omega) (by omega)))) <| lw_v _ (dv_add (a := (m : Int) / 32) (b := 1) (z := ((m : Int) / 32) + 1) (Z rfl) C (wr_i64 (by omega) (by omega))) <| lw_e (oe_makeW (l := (((m) / 32) + 1)) (j := ((m : Int) / 32) + 1) us86 in168 (Z rfl) (Z rfl) (by omega) (by first | omega | simp <;> omega) (by first | omega | simp <;> omega) ?_)
 intro b10 w11 n12
 have N13 : w.heap.size ≤ b10 := n12.eq ▸ E7.size
 have E14 := qe E7 n12.ext
 refine qs (.slice (some ⟨b10, 0, none⟩) ((((m) / 32) + 1)) ((((m) / 32) + 1))) rfl rfl <| qN <| qm (.slice Aa la ca) rfl rfl <| qs (.slice Aa la ca) rfl rfl <| lw_nil <| rk_seq <| rk_seq <| rk_reg <| qm (qi (m : Int)) rfl (vi hm) <| qs (qi (m : Int)) rfl rfl <| lw_nil <| rk_block ?_
 have h15 := (((ha.ext e2).ext e6).ext n12.ext)
 refine rk_loop (fun dm_ fr wl => ∃ (I : Nat) (Q : List Int) (Ar : Option Addr) (lr cr : Nat) (R : Int), dm_ = I ∧ fr 1 = .slice Ab lb cb ∧ fr 4 = .slice none 0 0 ∧ fr 5 = .slice none 0 0 ∧ fr 7 = .slice (some ⟨b10, 0, none⟩) ((((m) / 32) + 1)) ((((m) / 32) + 1)) ∧ fr 8 = .slice Ar lr cr ∧ fr 9 = qi ((I : Int) - 1) ∧ Below w.heap.size w wl ∧ wl.heap[b10]? = some (.cells (Q.map (Value.int .u32)).toArray 168) ∧ Wc 32 168 .u32 wl Ar lr cr R ∧ (I ≤ m + 1) ∧ (Q.length = m / 32 + 1) ∧ (okW (2 ^ 32) Q) ∧ ((2 : Int) ^ I ∣ valB (2 ^ 32) Q) ∧ (R + y * valB (2 ^ 32) Q = x) ∧ (R < y * 2 ^ I) ∧ (R ≤ x)) (m + 1) ⟨(m + 1), (List.replicate ((((m) / 32) + 1)) (0 : Int)), Aa, la, ca, x, rfl, rfl, rfl, rfl, rfl, rfl, (vi (by omega)), E14, n12.blk, h15, (Nat.le_refl _), (by simp), (okW.replicate (by decide) _), (by rw [valB_zeros]; exact Int.dvd_zero _), (by rw [valB_zeros, Int.mul_zero, Int.add_zero]), hbs, (Int.le_refl _)⟩ ?_
 intro d20 fr19 w16 hI17 ih18
 obtain ⟨I, Q, Ar, lr, cr, R, hd30, f21, f22, f23, f24, f25, f26, E27, H28, h29, hI, hQl, hQo, hd, hR, hlt, hRx⟩ := hI17
 have hR0 := h29.nonneg
 have hlr := Wc.len (by decide) h29 (show R < 2 ^ sx by omega)
 have hp := two_pos ((I - 1) % 32)
 have hp2 : (2 : Int) ^ ((I - 1) % 32) ≤ 2 ^ 31 := pow_le_of (by decide) (by omega)
 have bQ := okW.getD hQo (by decide) ((I - 1) / 32)
 have hbz : 1 ≤ I → Q.getD ((I - 1) / 32) 0 % 2 ^ (((I - 1) % 32) + 1) = 0 := fun h => bit_zero hQo (by rw [show I - 1 + 1 = I by omega]; exact hd)
 have hp3 : (2 : Int) ^ (((I - 1) % 32) + 1) = 2 * 2 ^ ((I - 1) % 32) := by rw [Int.pow_succ]; omega
 refine rk_seq <| rk_seq <| rk_reg <| qm (qi ((I : Int) - 1)) rfl f26 <| lw_v _ (dv_geq (a := (I : Int) - 1) (b := 0) (Z rfl) C) <| lw_nil ?_
 by_cases hb31 : 0 ≤ ((I : Int) - 1)
 · refine rk_ct (T rfl (qT hb31)) <| rk_skip <| rk_seq <| rk_block <| rk_seq <| rk_reg <| qm (.slice Ab lb cb) rfl f21 <| qm (qi ((I : Int) - 1)) rfl f26 ?_
   have h32 := (hb.ext E27)
   refine lw_e (oe_callf (vs := [.slice Ab lb cb, qi ((I : Int) - 1)]) co133 (ar2 (Z rfl) (Z rfl)) (l1Left_ws (N := (I - 1)) (j := (I : Int) - 1) h32.ws (by first | omega | simp <;> omega) (by first | omega | simp <;> omega) hys (by omega)) ?_)
   rintro _ w37 ⟨A33, n34, c35, rfl, e38, h36⟩
   have E39 := qe E27 e38
   have lh36 := Wc.len (by decide) h36 (left_sz (m := (I - 1)) (s := sy) rfl hys)
   refine qs (.slice A33 n34 c35) rfl rfl <| qN <| qm (.slice Ar lr cr) rfl f25 <| qm (.slice A33 n34 c35) rfl rfl ?_
   have h40 := (h29.ext e38)
   refine lw_e (oe_callf (vs := [.slice Ar lr cr, .slice A33 n34 c35]) co145 (ar2 (Z rfl) (Z rfl)) (l1CmpAbs_wc h40 h36 (by first | omega | simp <;> omega) (by first | omega | simp <;> omega)) ?_)
   rintro _ w43 ⟨r41, rfl, e44, hr42⟩
   have E45 := qe E39 e44
   have qhr42 := cmpR.ge hr42
   have phr42 := cmpR.eq hr42
   have ohr42 := cmpR.gt hr42
   refine lw_v _ (dv_geq (a := r41) (b := 0) (Z rfl) C) <| lw_nil ?_
   by_cases hb46 : 0 ≤ r41
   · refine rk_ct (T rfl (qT hb46)) <| rk_seq ?_
     have H47 := (e44.blk (e38.blk H28))
     have hbq : b10 < w43.heap.size := lt_of_blk H47
     refine rk_reg <| qm (.slice Ar lr cr) rfl f25 <| qm (.slice A33 n34 c35) rfl rfl ?_
     have h48 := (h40.ext e44)
     have h49 := (h36.ext e44)
     refine lw_e (oe_callf (vs := [.slice Ar lr cr, .slice A33 n34 c35]) co132 (ar2 (Z rfl) (Z rfl)) (l1SubAbs_ws h48.ws h49.ws (by first | omega | simp <;> omega) (by first | omega | simp <;> omega) (by exact len_le32 h48 h49 (by omega)) (by omega)) ?_)
     rintro _ w54 ⟨A50, n51, c52, rfl, e55, h53, hnh53⟩
     have E56 := qe E45 e55
     refine lw_e (oe_callf (vs := [.bool false, .slice A50 n51 c52]) co131 (ar2 C (Z rfl)) (l1Trim_numA (s := sx) (neg := false) h53 (by first | omega | simp <;> omega) (sz_sub (show R < 2 ^ sx by omega) (Wc.nonneg h49))) ?_)
     rintro _ w64 ⟨nb57, A58, n59, c60, rfl, e65, hn61, hal62⟩
     have E66 := qe E56 e65
     have hfr63 : ∀ (g o : Nat), A58 = some ⟨g, o, none⟩ → w43.heap.size ≤ g := by
      intro g o h
      rcases hal62 with h2 | h2
      · rw [h2] at h; cases h
      exact hnh53.2 g o (h2 ▸ h)
     have lhn61 := ql hn61
     refine lw_v (.slice A58 n59 c60) (dv_field (v := .slice A58 n59 c60) fb88_1 agt86 (Z rfl) rfl) <| qs (.slice A58 n59 c60) rfl rfl <| lw_nil <| rk_reg <| qm (.slice (some ⟨b10, 0, none⟩) ((((m) / 32) + 1)) ((((m) / 32) + 1))) rfl f24 <| qm (qi ((I : Int) - 1)) rfl f26 <| lw_v (qi (((I : Int) - 1) / 32)) (dv_quo (a := (I : Int) - 1) (b := 32) (z := ((I : Int) - 1) / 32) (Z rfl) C (by decide) (quo_c (by omega) (by decide) (wr_i64 (by omega) (by omega)))) <| qm (.slice (some ⟨b10, 0, none⟩) ((((m) / 32) + 1)) ((((m) / 32) + 1))) rfl f24 <| qm (qi ((I : Int) - 1)) rfl f26 <| lw_v (qi (((I : Int) - 1) / 32)) (dv_quo (a := (I : Int) - 1) (b := 32) (z := ((I : Int) - 1) / 32) (Z rfl) C (by decide) (quo_c (by omega) (by decide) (wr_i64 (by omega) (by omega)))) <| lw_v (.pointer (some ⟨b10, (((I - 1) / 32)), none⟩)) (dv_indexO (g := b10) (l := (((m) / 32) + 1)) (c := (((m) / 32) + 1)) (i := ((I - 1) / 32)) (j := ((I : Int) - 1) / 32) us86 sz168 (Z rfl) (Z rfl) (by omega) (by first | omega | simp <;> omega)) ?_
     have H67 := (e65.blk (e55.blk H47))
     refine lw_v (.int .u32 (Q.getD (((I - 1) / 32)) 0)) (dv_loadW (L := Q) (v := Q.getD (((I - 1) / 32)) 0) agt168 (Z rfl) H67 (by first | omega | simp <;> omega) rfl) <| qm (qi ((I : Int) - 1)) rfl f26 <| lw_v (qi (((I : Int) - 1) % 32)) (dv_rem (a := (I : Int) - 1) (b := 32) (z := ((I : Int) - 1) % 32) (Z rfl) C (by decide) (rem_c (by omega) rfl)) <| lw_v (qu (((I : Int) - 1) % 32)) (dv_conv (a := ((I : Int) - 1) % 32) (z := ((I : Int) - 1) % 32) ui2 ui158 (Z rfl) (wn_u64 (by omega) (by omega))) <| lw_v (.int .u32 (1 * 2 ^ (((I - 1) % 32)))) (dv_shl (a := 1) (b := ((I : Int) - 1) % 32) (z := 1 * 2 ^ (((I - 1) % 32))) C (Z rfl) (by omega) (shl_w (K := ((I - 1) % 32)) (by omega) (show _ ≤ 32 by omega) (wn_u32 (by omega) (by omega)))) <| lw_v (.int .u32 ((Q.getD (((I - 1) / 32)) 0) + (1 * 2 ^ (((I - 1) % 32))))) (dv_or (a := Q.getD (((I - 1) / 32)) 0) (b := 1 * 2 ^ (((I - 1) % 32))) (z := (Q.getD (((I - 1) / 32)) 0) + (1 * 2 ^ (((I - 1) % 32)))) (Z rfl) (Z rfl) ((or_add (k := .u32) (a := 1 * 2 ^ (((I - 1) % 32))) (b := Q.getD (((I - 1) / 32)) 0) (i := ((I - 1) % 32) + 1) rfl (by omega) (by omega) bQ.1 (hbz (by omega)) (lt32 (by omega)) (lt32 (by omega))).2.trans (Int.add_comm _ _))) <| lw_v (.pointer (some ⟨b10, (((I - 1) / 32)), none⟩)) (dv_indexO (g := b10) (l := (((m) / 32) + 1)) (c := (((m) / 32) + 1)) (i := ((I - 1) / 32)) (j := ((I : Int) - 1) / 32) us86 sz168 (Z rfl) (Z rfl) (by omega) (by first | omega | simp <;> omega)) <| lw_e (oe_storeW (L := Q) (i := ((I - 1) / 32)) (z := (Q.getD (((I - 1) / 32)) 0) + (1 * 2 ^ (((I - 1) % 32)))) sz168 (Z rfl) (Z rfl) H67 (by first | omega | simp <;> omega) ?_)
     intro w68 s69 H70
     have E71 := below_st E66 N13 s69
     refine lw_nil <| rk_inBlock <| rk_reg <| qm (qi ((I : Int) - 1)) rfl f26 <| lw_v _ (dv_sub (a := (I : Int) - 1) (b := 1) (z := ((I : Int) - 1) - 1) (Z rfl) C (wr_i64 (by omega) (by omega))) <| qs (qi (((I : Int) - 1) - 1)) rfl rfl <| lw_nil ?_
     have h72 := (hn61.stO s69 (fun g o h => by have := (hfr63) g o h; omega))
     have hpy : 0 ≤ 2 ^ (I - 1) * y := Int.mul_nonneg (Int.le_of_lt (two_pos _)) (Int.le_of_lt hy)
     exact ih18 (I - 1) _ _ (by rw [hd30]; omega) ⟨(I - 1), (Q.set (((I - 1) / 32)) ((Q.getD (((I - 1) / 32)) 0) + (1 * 2 ^ (((I - 1) % 32))))), A58, n59, c60, (R - 2 ^ (I - 1) * y), rfl, f21, f22, f23, f24, rfl, (vi (by omega)), E71, H70, (Wc.eq h72.wc (sg_natAbs (by omega))), (by omega), (by simp [hQl]), (okW.set hQo (by omega) (by rw [Int.one_mul]; exact bit_room bQ.1 bQ.2 (hbz (by omega)) (by omega)) _), (by rw [Int.one_mul]; exact bit_dvd (by omega) (by rw [show I - 1 + 1 = I by omega]; exact hd)), (by rw [Int.one_mul]; exact bit_set (by omega) hR), (bit_lt (by rw [show I - 1 + 1 = I by omega]; exact hlt)), (by omega)⟩
   refine rk_cf (T rfl (qF hb46)) <| rk_skip <| rk_inBlock <| rk_reg <| qm (qi ((I : Int) - 1)) rfl f26 <| lw_v _ (dv_sub (a := (I : Int) - 1) (b := 1) (z := ((I : Int) - 1) - 1) (Z rfl) C (wr_i64 (by omega) (by omega))) <| qs (qi (((I : Int) - 1) - 1)) rfl rfl <| lw_nil ?_
   have h73 := (h40.ext e44)
   have H74 := (e44.blk (e38.blk H28))
   exact ih18 (I - 1) _ _ (by rw [hd30]; omega) ⟨(I - 1), Q, Ar, lr, cr, R, rfl, f21, f22, f23, f24, f25, (vi (by omega)), E45, H74, h73, (by omega), hQl, hQo, (bit_dvd0 (by rw [show I - 1 + 1 = I by omega]; exact hd)), hR, (by rw [Int.mul_comm y]; omega), hRx⟩
 refine rk_cf (T rfl (qF hb31)) <| rk_exit rfl <| rk_seq <| rk_reg <| qm (.slice (some ⟨b10, 0, none⟩) ((((m) / 32) + 1)) ((((m) / 32) + 1))) rfl f24 <| lw_e (oe_callf (vs := [.bool false, .slice (some ⟨b10, 0, none⟩) ((((m) / 32) + 1)) ((((m) / 32) + 1))]) co131 (ar2 C (Z rfl)) (l1Trim_numA (s := (32 * ((((m) / 32) + 1)))) (neg := false) (⟨Q, (by first | (simp; done) | (simp; omega) | omega), (by first | (simp; done) | (simp; omega) | omega), Wd.ownW H28, hQo, rfl⟩ : Ws _ _ _ _ _ _ _ _) (by first | omega | simp <;> omega) (valB_sz hQo (by first | (simp; done) | (simp; omega) | omega))) ?_)
 rintro _ w81 ⟨nb75, A76, n77, c78, rfl, e82, hn79, hal80⟩
 have E83 := qe E27 e82
 have lhn79 := ql hn79
 refine lw_v (.slice A76 n77 c78) (dv_field (v := .slice A76 n77 c78) fb88_1 agt86 (Z rfl) rfl) <| qm (.slice Ar lr cr) rfl f25 <| qs (.slice A76 n77 c78) rfl rfl <| qs (.slice Ar lr cr) rfl rfl <| lw_nil <| rk_ret Try.func130 (v := .tuple #[.slice A76 n77 c78, .slice Ar lr cr]) (res2 Try.results130 (rv_tmp rfl rfl) (rv_tmp rfl rfl)) ⟨_, rfl, ?_⟩
 have hI0 : I = 0 := by omega
 rw [hI0, Int.pow_zero, Int.mul_one] at hlt
 have hdv := div_of hR hR0 hlt
 have h84 := (h29.ext e82)
 exact ⟨_, _, _, _, _, _, rfl, E83, Wc.eq hn79.wc (by rw [sg_natAbs (valB_nonneg (by decide) hQo)]; exact hdv.1), Wc.eq h84 hdv.2⟩
end Go.Proofs.Ytmbpomcbdopgnaa.W
