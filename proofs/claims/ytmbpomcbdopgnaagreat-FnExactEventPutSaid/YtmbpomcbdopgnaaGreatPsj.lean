/- Walks and plain mathematics, packed by a program of this session: declarations that the rows reach. -/
import Derived.Test.YtmbpomcbdopgnaaGreatPsi
set_option linter.unusedVariables false
set_option linter.unusedSimpArgs false
namespace Go.Proofs.YtmbpomcbdopgnaaGreat.W
open Go Go.RowKit Go.Proofs.YtmbpomcbdopgnaaGreat.Fw
attribute [local irreducible] RunK LW AW DV OE Ct
theorem agt2 : aggB Tryz.prog 2 = some false := by kernel_rfl
theorem agt27 : aggB Tryz.prog 27 = some true := by kernel_rfl
theorem agt41 : aggB Tryz.prog 41 = some false := by kernel_rfl
theorem agt43 : aggB Tryz.prog 43 = some true := by kernel_rfl
theorem agt56 : aggB Tryz.prog 56 = some true := by kernel_rfl
theorem co12 : callOk Tryz.prog 12 = true := by kernel_rfl
theorem co20 : callOk Tryz.prog 20 = true := by kernel_rfl
theorem co30 : callOk Tryz.prog 30 = true := by kernel_rfl
theorem co33 : callOk Tryz.prog 33 = true := by kernel_rfl
theorem co42 : callOk Tryz.prog 42 = true := by kernel_rfl
theorem co57 : callOk Tryz.prog 57 = true := by kernel_rfl
theorem co58 : callOk Tryz.prog 58 = true := by kernel_rfl
theorem co7 : callOk Tryz.prog 7 = true := by kernel_rfl
theorem co86 : callOk Tryz.prog 86 = true := by kernel_rfl
theorem fo43_0 : fieldOffB Tryz.prog 43 0 = some 0 := by kernel_rfl
theorem fo43_1 : fieldOffB Tryz.prog 43 1 = some 12 := by kernel_rfl
theorem fo56_0 : fieldOffB Tryz.prog 56 0 = some 0 := by kernel_rfl
theorem fo56_1 : fieldOffB Tryz.prog 56 1 = some 12 := by kernel_rfl
theorem in2 : (Tryz.prog.info? 2).map (fun i => (i.zero, i.size, i.bytes)) = some (some (.int .i64 0), 1, 8) := by kernel_rfl
theorem in56 : (Tryz.prog.info? 56).map (fun i => (i.zero, i.size, i.bytes)) = some (some (.agg #[.int .u64 0, .int .u64 0, .int .u64 0, .int .u64 0, .int .u64 0, .int .u64 0, .int .u64 0, .int .u64 0, .int .u64 0, .int .u64 0, .int .u64 0, .int .u64 0, .slice none 0 0]), 13, 120) := by kernel_rfl
theorem sz2 : sizeB Tryz.prog 2 = some 1 := by kernel_rfl
theorem sz27 : sizeB Tryz.prog 27 = some 12 := by kernel_rfl
theorem sz41 : sizeB Tryz.prog 41 = some 1 := by kernel_rfl
theorem sz43 : sizeB Tryz.prog 43 = some 13 := by kernel_rfl
theorem sz56 : sizeB Tryz.prog 56 = some 13 := by kernel_rfl
theorem us22 : Tryz.prog.underlying 22 = some (.slice 43) := by kernel_rfl
theorem us29 : Tryz.prog.underlying 29 = some (.slice 56) := by kernel_rfl
theorem us41 : Tryz.prog.underlying 41 = some (.slice 2) := by kernel_rfl
theorem ze56 : zeroB Tryz.prog 56 = some #[.int .u64 0, .int .u64 0, .int .u64 0, .int .u64 0, .int .u64 0, .int .u64 0, .int .u64 0, .int .u64 0, .int .u64 0, .int .u64 0, .int .u64 0, .int .u64 0, .slice none 0 0] := by kernel_rfl
set_option maxHeartbeats 1000000 in
theorem szInt64S_ok {w : World} {A : Option Addr} {l c : Nat} {n : Int} (hl : l ≤ 9223372036854775807) (hn : 0 ≤ n ∧ n ≤ 1048576) : Ct Tryz.prog 33 [.slice A l c, .int .i64 n] w fun v w1 => v = .int .i64 (szV l n) ∧ Ext w w1 := by
 refine ct_run (n := 12) Tryz.func33 rfl Tryz.ntmps33 rfl ?_
 have E0 : Below w.heap.size w w := Below.refl _ _
 refine rk_seq <| rk_reg <| lw_v (qi 0) (dv_assign C) <| qN <| lw_v (qi n) (dv_move (T rfl rfl)) <| lw_v (.slice A l c) (dv_move (T rfl rfl)) <| lw_v (qi (l : Int)) (dv_len (ad := A) (l := l) (c := c) us41 (T rfl rfl)) <| lw_v (qi (n - (l : Int))) (dv_sub (a := n) (b := (l : Int)) (z := n - (l : Int)) (T rfl rfl) (T rfl rfl) (wr_i64 (by omega) (by omega))) <| lw_v (qi (n - (l : Int))) (dv_assign (T rfl rfl)) ?_
 refine lw_nil <| rk_seq <| rk_seq <| rk_reg <| lw_v (qi (n - (l : Int))) (dv_move (T rfl rfl)) <| lw_v (qd ((n - (l : Int)) < 0)) (dv_lss (a := n - (l : Int)) (b := 0) (T rfl rfl) C) <| lw_nil ?_
 by_cases hb1 : (n - ((l : Int))) < 0
 · refine rk_ct (T rfl (qT hb1)) <| rk_seq <| rk_reg <| lw_v (qi (-1)) (dv_assign C) <| lw_nil <| rk_ret Tryz.func33 (v := qi (-1)) (res1 Tryz.results33 (rv_tmp rfl rfl)) ⟨_, rfl, ?_⟩
   exact ⟨(vi (by unfold szV; first | rw [if_pos (by omega)] | rw [if_neg (by omega)])), E0⟩
 · refine rk_cf (T rfl (qF hb1)) <| rk_skip <| rk_seq <| rk_reg <| lw_v (qi (n - (l : Int))) (dv_move (T rfl rfl)) <| lw_v (qi (n - (l : Int))) (dv_assign (T rfl rfl)) <| lw_nil <| rk_ret Tryz.func33 (v := qi (n - (l : Int))) (res1 Tryz.results33 (rv_tmp rfl rfl)) ⟨_, rfl, ?_⟩
   exact ⟨(vi (by unfold szV; first | rw [if_pos (by omega)] | rw [if_neg (by omega)])), E0⟩
set_option maxHeartbeats 1000000 in
theorem szEvent_ok {w : World} {a0 a1 a2 a3 a4 a5 a6 a7 a8 a9 a10 a11 : Int} {Ai : Option Addr} {l c : Nat} {n : Int} (hl : l ≤ 9223372036854775807) (hn : 0 ≤ n ∧ n ≤ 1048576) : Ct Tryz.prog 12 [.agg #[.int .u64 a0, .int .u64 a1, .int .u64 a2, .int .u64 a3, .int .u64 a4, .int .u64 a5, .int .u64 a6, .int .u64 a7, .int .u64 a8, .int .u64 a9, .int .u64 a10, .int .u64 a11, .slice Ai l c], .int .i64 n] w fun v w1 => v = .int .i64 (szV l n) ∧ Ext w w1 := by
 refine ct_run (n := 12) Tryz.func12 rfl Tryz.ntmps12 rfl ?_
 have E0 : Below w.heap.size w w := Below.refl _ _
 refine rk_seq <| rk_reg <| lw_e (oe_box (v := .agg #[qu a0, qu a1, qu a2, qu a3, qu a4, qu a5, qu a6, qu a7, qu a8, qu a9, qu a10, qu a11, .slice Ai l c]) (cs := #[qu a0, qu a1, qu a2, qu a3, qu a4, qu a5, qu a6, qu a7, qu a8, qu a9, qu a10, qu a11, .slice Ai l c]) (T rfl rfl) rfl ?_)
 intro b1 w2 n3
 have N4 : w.heap.size ≤ b1 := n3.eq ▸ E0.size
 have E5 := below_ext E0 E0.size n3.ext
 refine lw_v (qi 0) (dv_assign C) <| qN <| lw_v (.pointer (some ⟨b1, 12, none⟩)) (dv_fieldAddr (a := ⟨b1, 0, none⟩) (a' := ⟨b1, 12, none⟩) fo43_1 (T rfl rfl) rfl) <| lw_v (.slice Ai l c) (dv_load1 (b := b1) (o := 12) agt41 (T rfl rfl) n3.blk rfl) <| lw_v (qi n) (dv_move (T rfl rfl)) <| lw_e (oe_callf (vs := [.slice Ai l c, qi n]) co33 (ar2 (T rfl rfl) (T rfl rfl)) (szInt64S_ok (A := Ai) (c := c) (by omega) (by omega)) ?_)
 rintro _ w6 ⟨rfl, e7⟩
 have E8 := below_ext E5 E5.size e7
 refine lw_v (qi (szV l n)) (dv_assign (T rfl rfl)) <| lw_nil <| rk_seq <| rk_seq <| rk_reg <| lw_v (qi (szV l n)) (dv_move (T rfl rfl)) <| lw_v (qd ((szV l n) < 0)) (dv_lss (a := szV l n) (b := 0) (T rfl rfl) C) <| lw_nil ?_
 by_cases hb9 : (szV l n) < 0
 · refine rk_ct (T rfl (qT hb9)) <| rk_seq <| rk_reg <| lw_v (qi (-1)) (dv_assign C) <| lw_nil <| rk_ret Tryz.func12 (v := qi (-1)) (res1 Tryz.results12 (rv_tmp rfl rfl)) ⟨_, rfl, ?_⟩
   exact ⟨(vi (szV_neg (by assumption)).symm), E8⟩
 · refine rk_cf (T rfl (qF hb9)) <| rk_skip <| rk_seq <| rk_reg <| lw_v (qi (szV l n)) (dv_move (T rfl rfl)) <| lw_v (qi (szV l n)) (dv_assign (T rfl rfl)) <| lw_nil <| rk_ret Tryz.func12 (v := qi (szV l n)) (res1 Tryz.results12 (rv_tmp rfl rfl)) ⟨_, rfl, ?_⟩
   exact ⟨rfl, E8⟩
set_option maxHeartbeats 1000000 in
theorem szEventS_ok {w : World} {A : Option Addr} {l c : Nat} {W : Nat → Nat → Int} {E : Nat → List Int} {SL : SlF} {lo hi : Nat} {n : Int} (hx : NR w lo hi A l W E SL) (hlm : l ≤ 9223372036854775807) (hEm : ∀ i, i < l → (E i).length ≤ 9223372036854775807) (hn : 0 ≤ n ∧ n ≤ 1048576) : Ct Tryz.prog 4 [.slice A l c, .int .i64 n] w fun v w1 => ∃ r, v = .int .i64 r ∧ (0 ≤ r → l ≤ 1048576 ∧ ∀ i, i < l → (E i).length ≤ 1048576) ∧ Ext w w1 := by
 refine ct_run (n := 27) Tryz.func4 rfl Tryz.ntmps4 rfl ?_
 have E0 : Below w.heap.size w w := Below.refl _ _
 refine rk_seq <| rk_reg <| lw_v (qi 0) (dv_assign C) <| qN <| lw_v (qi n) (dv_move (T rfl rfl)) <| lw_v (.slice A l c) (dv_move (T rfl rfl)) <| lw_v (qi (l : Int)) (dv_len (ad := A) (l := l) (c := c) us22 (T rfl rfl)) <| lw_v (qi (n - (l : Int))) (dv_sub (a := n) (b := (l : Int)) (z := n - (l : Int)) (T rfl rfl) (T rfl rfl) (wr_i64 (by omega) (by omega))) <| lw_v (qi (n - (l : Int))) (dv_assign (T rfl rfl)) ?_
 refine lw_nil <| rk_seq <| rk_seq <| rk_reg <| lw_v (qi (n - (l : Int))) (dv_move (T rfl rfl)) <| lw_v (qd ((n - (l : Int)) < 0)) (dv_lss (a := n - (l : Int)) (b := 0) (T rfl rfl) C) <| lw_nil ?_
 by_cases hb1 : (n - ((l : Int))) < 0
 · refine rk_ct (T rfl (qT hb1)) <| rk_seq <| rk_reg <| lw_v (qi (-1)) (dv_assign C) <| lw_nil <| rk_ret Tryz.func4 (v := qi (-1)) (res1 Tryz.results4 (rv_tmp rfl rfl)) ⟨_, rfl, ?_⟩
   exact ⟨-1, rfl, (fun h_ => absurd h_ (by decide)), E0⟩
 · refine rk_cf (T rfl (qF hb1)) <| rk_skip <| rk_seq <| rk_seq <| rk_reg <| lw_v (qi 0) (dv_assign C) <| lw_nil <| rk_block <| rk_loop (fun dm_ fr wl => ∃ (i : Nat) (z : Int), dm_ = l - i ∧ fr 0 = .slice A l c ∧ fr 1 = qi z ∧ fr 5 = qi (i : Int) ∧ Below w.heap.size w wl ∧ (i ≤ l) ∧ (0 ≤ z ∧ z ≤ n) ∧ (∀ k, k < i → (E k).length ≤ 1048576)) (l - 0) ⟨0, n - (l : Int), rfl, rfl, rfl, (vi (by omega)), E0, (Nat.zero_le _), (by omega), (fun k hk => absurd hk (by omega))⟩ ?_
   intro d6 fr5 w2 hI3 ih4
   obtain ⟨i, z, hd11, f7, f8, f9, E10, hi, hz, hE⟩ := hI3
   obtain ⟨As12, hAs14⟩ : ∃ q_ : Option Addr, q_ = (SL i).1 := ⟨_, rfl⟩
   obtain ⟨cs13, hcs15⟩ : ∃ q_ : Nat, q_ = (SL i).2 := ⟨_, rfl⟩
   have hem : i < l → (E i).length ≤ 9223372036854775807 := fun h_ => hEm i h_
   refine rk_seq <| rk_seq <| rk_reg <| lw_v (qi (i : Int)) (dv_move (T rfl f9)) <| lw_v (.slice A l c) (dv_move (T rfl f7)) <| lw_v (qi (l : Int)) (dv_len (ad := A) (l := l) (c := c) us22 (T rfl rfl)) <| lw_v (qd ((i : Int) < (l : Int))) (dv_lss (a := (i : Int)) (b := (l : Int)) (T rfl rfl) (T rfl rfl)) <| lw_nil ?_
   by_cases hb16 : ((i : Int)) < ((l : Int))
   · refine rk_ct (T rfl (qT hb16)) <| rk_skip <| rk_seq <| rk_block <| rk_seq <| rk_reg <| lw_v (.slice A l c) (dv_move (T rfl f7)) <| lw_v (qi (i : Int)) (dv_move (T rfl f9)) ?_
     have h19 := (hx.ext E10)
     obtain ⟨g17, o18, rfl⟩ := NR.at h19 (by first | omega | (simp; done) | (simp; omega))
     refine lw_v (.pointer (some ⟨g17, o18 + i * 13, none⟩)) (dv_indexM (g := g17) (o := o18) (l := l) (c := c) (i := i) (j := (i : Int)) (m := 13) us22 sz43 (T rfl rfl) (T rfl rfl) (by omega) (by first | omega | (simp; done) | (simp; omega))) <| lw_v (.agg #[qu (W i 0), qu (W i 1), qu (W i 2), qu (W i 3), qu (W i 4), qu (W i 5), qu (W i 6), qu (W i 7), qu (W i 8), qu (W i 9), qu (W i 10), qu (W i 11), .slice As12 ((E i).length) cs13]) (dv_loadsR (l := [qu (W i 0), qu (W i 1), qu (W i 2), qu (W i 3), qu (W i 4), qu (W i 5), qu (W i 6), qu (W i 7), qu (W i 8), qu (W i 9), qu (W i 10), qu (W i 11), .slice As12 ((E i).length) cs13]) agt43 sz43 (T rfl rfl) rfl (NR.evA (i := i) h19 (by first | omega | (simp; done) | (simp; omega)) hAs14 hcs15)) <| lw_v (qi z) (dv_move (T rfl f8)) <| lw_e (oe_callf (vs := [.agg #[qu (W i 0), qu (W i 1), qu (W i 2), qu (W i 3), qu (W i 4), qu (W i 5), qu (W i 6), qu (W i 7), qu (W i 8), qu (W i 9), qu (W i 10), qu (W i 11), .slice As12 ((E i).length) cs13], qi z]) co12 (ar2 (T rfl rfl) (T rfl rfl)) (szEvent_ok (Ai := As12) (c := cs13) (by omega) (by omega)) ?_)
     rintro _ w20 ⟨rfl, e21⟩
     have E22 := below_ext E10 E10.size e21
     refine lw_v (qi (szV ((E i).length) z)) (dv_assign (T rfl rfl)) <| qN <| lw_v (qi (szV ((E i).length) z)) (dv_move (T rfl rfl)) <| lw_v (qd ((szV ((E i).length) z) < 0)) (dv_lss (a := szV ((E i).length) z) (b := 0) (T rfl rfl) C) <| lw_nil ?_
     by_cases hb23 : (szV ((E i).length) z) < 0
     · refine rk_ct (T rfl (qT hb23)) <| rk_seq <| rk_reg <| lw_v (qi (-1)) (dv_assign C) <| lw_nil <| rk_ret Tryz.func4 (v := qi (-1)) (res1 Tryz.results4 (rv_tmp rfl rfl)) ⟨_, rfl, ?_⟩
       exact ⟨-1, rfl, (fun h_ => absurd h_ (by decide)), E22⟩
     · refine rk_cf (T rfl (qF hb23)) <| rk_skip <| rk_inBlock <| rk_reg <| lw_v (qi (i : Int)) (dv_move (T rfl f9)) <| lw_v (qi ((i : Int) + 1)) (dv_add (a := (i : Int)) (b := 1) (z := (i : Int) + 1) (T rfl rfl) C (wr_i64 (by omega) (by omega))) <| lw_v (qi ((i : Int) + 1)) (dv_assign (T rfl rfl)) <| lw_nil ?_
       exact ih4 (l - (i + 1)) _ _ (by rw [hd11]; omega) ⟨(i + 1), szV ((E i).length) z, rfl, f7, rfl, (vi (by omega)), E22, (by omega), (by have h_ := szV_rg (by assumption : ¬ szV (E i).length z < 0); unfold szV; split <;> omega), (le_step (E := fun k => (E k).length) hE (by have h_ := szV_rg (by assumption : ¬ szV (E i).length z < 0); omega))⟩
   · refine rk_cf (T rfl (qF hb16)) <| rk_exit rfl <| rk_seq <| rk_reg <| lw_v (qi z) (dv_move (T rfl f8)) <| lw_v (qi z) (dv_assign (T rfl rfl)) <| lw_nil <| rk_ret Tryz.func4 (v := qi z) (res1 Tryz.results4 (rv_tmp rfl rfl)) ⟨_, rfl, ?_⟩
     exact ⟨z, rfl, (fun _ => ⟨by omega, fun i_ hi_ => hE i_ (by omega)⟩), E10⟩
set_option maxHeartbeats 1000000 in
theorem toInt64S_ok {w : World} {A : Option Addr} {l c : Nat} {xs : List Int} (hx : RdI w .i64 A xs) (hxl : xs.length = l) (hxb : l ≤ 1048576) : Ct Tryz.prog 42 [.slice A l c] w fun v w1 => ∃ b, v = .slice (some ⟨b, 0, none⟩) l l ∧ Ext w w1 ∧ w1.heap[b]? = some (.cells (xs.map (Value.int .i64)).toArray 2) ∧ w.heap.size ≤ b := by
 refine ct_run (n := 22) Tryz.func42 rfl Tryz.ntmps42 rfl ?_
 have E0 : Below w.heap.size w w := Below.refl _ _
 refine rk_seq <| rk_reg <| lw_v (.slice none 0 0) (dv_assign C) <| qN <| lw_v (.slice A l c) (dv_move (T rfl rfl)) <| lw_v (qi (l : Int)) (dv_len (ad := A) (l := l) (c := c) us41 (T rfl rfl)) <| lw_e (oe_makeW (l := l) (j := (l : Int)) us41 in2 (T rfl rfl) (T rfl rfl) (by omega) (by first | omega | (simp; done) | (simp; omega)) (by first | omega | (simp; done) | (simp; omega)) ?_)
 intro b1 w2 n3
 have N4 : w.heap.size ≤ b1 := n3.eq ▸ E0.size
 have E5 := below_ext E0 E0.size n3.ext
 refine lw_v (.slice (some ⟨b1, 0, none⟩) l l) (dv_assign (T rfl rfl)) <| lw_nil <| rk_seq <| rk_seq <| rk_reg <| lw_v (qi 0) (dv_assign C) <| lw_nil <| rk_block <| rk_loop (fun dm_ fr wl => ∃ (i : Nat) (M : List Int), dm_ = l - i ∧ fr 0 = .slice A l c ∧ fr 2 = .slice none 0 0 ∧ fr 3 = .slice (some ⟨b1, 0, none⟩) l l ∧ fr 4 = qi (i : Int) ∧ Below w.heap.size w wl ∧ wl.heap[b1]? = some (.cells (M.map (Value.int .i64)).toArray 2) ∧ (i ≤ l) ∧ (M.length = l) ∧ (M.take (i) = xs.take (i))) (l - 0) ⟨0, (List.replicate l (0 : Int)), rfl, rfl, rfl, rfl, (vi (by omega)), E5, n3.blk, (Nat.zero_le _), (by simp), (by simp)⟩ ?_
 intro d10 fr9 w6 hI7 ih8
 obtain ⟨i, M, hd17, f11, f12, f13, f14, E15, H16, hi, hMl, hMt⟩ := hI7
 refine rk_seq <| rk_seq <| rk_reg <| lw_v (qi (i : Int)) (dv_move (T rfl f14)) <| lw_v (.slice A l c) (dv_move (T rfl f11)) <| lw_v (qi (l : Int)) (dv_len (ad := A) (l := l) (c := c) us41 (T rfl rfl)) <| lw_v (qd ((i : Int) < (l : Int))) (dv_lss (a := (i : Int)) (b := (l : Int)) (T rfl rfl) (T rfl rfl)) <| lw_nil ?_
 by_cases hb18 : ((i : Int)) < ((l : Int))
 · refine rk_ct (T rfl (qT hb18)) <| rk_skip <| rk_seq <| rk_block <| rk_reg <| lw_v (.slice (some ⟨b1, 0, none⟩) l l) (dv_move (T rfl f13)) <| lw_v (qi (i : Int)) (dv_move (T rfl f14)) <| lw_v (.slice A l c) (dv_move (T rfl f11)) <| lw_v (qi (i : Int)) (dv_move (T rfl f14)) ?_
   have h19 := (hx.ext E15)
   obtain ⟨g20, o21, rfl⟩ := RdI.at h19 (by first | omega | (simp; done) | (simp; omega))
   refine lw_v (.pointer (some ⟨g20, o21 + i, none⟩)) (dv_indexW (g := g20) (o := o21) (l := l) (c := c) (i := i) (j := (i : Int)) us41 sz2 (T rfl rfl) (T rfl rfl) (by omega) (by first | omega | (simp; done) | (simp; omega))) <| lw_v (qi (xs.getD i 0)) (dv_load agt2 (T rfl rfl) (RdI.cell h19 (by first | omega | (simp; done) | (simp; omega)))) <| lw_v (.pointer (some ⟨b1, i, none⟩)) (dv_indexO (g := b1) (l := l) (c := l) (i := i) (j := (i : Int)) us41 sz2 (T rfl rfl) (T rfl rfl) (by omega) (by first | omega | (simp; done) | (simp; omega))) <| lw_e (oe_storeW (L := M) (i := i) (z := xs.getD i 0) sz2 (T rfl rfl) (T rfl rfl) H16 (by first | omega | (simp; done) | (simp; omega)) ?_)
   intro w22 s23 H24
   have E25 := below_st E15 N4 s23
   refine lw_nil <| rk_inBlock <| rk_reg <| lw_v (qi (i : Int)) (dv_move (T rfl f14)) <| lw_v (qi ((i : Int) + 1)) (dv_add (a := (i : Int)) (b := 1) (z := (i : Int) + 1) (T rfl rfl) C (wr_i64 (by omega) (by omega))) <| lw_v (qi ((i : Int) + 1)) (dv_assign (T rfl rfl)) <| lw_nil ?_
   exact ih8 (l - (i + 1)) _ _ (by rw [hd17]; omega) ⟨(i + 1), (M.set i (xs.getD i 0)), rfl, f11, f12, f13, (vi (by omega)), E25, H24, (by omega), (by simp [setM_len, hMl]), (set_inv1 hMt (by omega) (by omega))⟩
 · refine rk_cf (T rfl (qF hb18)) <| rk_exit rfl <| rk_seq <| rk_reg <| lw_v (.slice (some ⟨b1, 0, none⟩) l l) (dv_move (T rfl f13)) <| lw_v (.slice (some ⟨b1, 0, none⟩) l l) (dv_assign (T rfl rfl)) <| lw_nil <| rk_ret Tryz.func42 (v := .slice (some ⟨b1, 0, none⟩) l l) (res1 Tryz.results42 (rv_tmp rfl rfl)) ⟨_, rfl, ?_⟩
   have hM : M = xs := take_all hMt (by omega) (by omega)
   exact ⟨_, rfl, E15, by rw [← hM]; exact H16, N4⟩
set_option maxHeartbeats 1000000 in
theorem toEvent_ok {w : World} {x y u : Int} {A : Option Addr} {l c : Nat} {xs : List Int} (fx_ : fits x) (fy_ : fits y) (fu_ : fits u) (hx : RdI w .i64 A xs) (hxl : xs.length = l) (hxb : l ≤ 1048576) : Ct Tryz.prog 20 [.agg #[.int .u64 (wv3 x), .int .u64 (wv2 x), .int .u64 (wv1 x), .int .u64 (wv0 x), .int .u64 (wv3 y), .int .u64 (wv2 y), .int .u64 (wv1 y), .int .u64 (wv0 y), .int .u64 (wv3 u), .int .u64 (wv2 u), .int .u64 (wv1 u), .int .u64 (wv0 u), .slice A l c]] w fun v w1 => ∃ A2, v = .agg #[.int .u64 (wv3 x), .int .u64 (wv2 x), .int .u64 (wv1 x), .int .u64 (wv0 x), .int .u64 (wv3 y), .int .u64 (wv2 y), .int .u64 (wv1 y), .int .u64 (wv0 y), .int .u64 (wv3 u), .int .u64 (wv2 u), .int .u64 (wv1 u), .int .u64 (wv0 u), .slice A2 l l] ∧ Ext w w1 ∧ Ow w1 w.heap.size 2 .i64 A2 l xs := by
 refine ct_run (n := 13) Tryz.func20 rfl Tryz.ntmps20 rfl ?_
 have E0 : Below w.heap.size w w := Below.refl _ _
 refine rk_seq <| rk_reg <| lw_e (oe_box (v := .agg (qB x y u (.slice A l c))) (cs := (qB x y u (.slice A l c))) (T rfl rfl) rfl ?_)
 intro b1 w2 n3
 have N4 : w.heap.size ≤ b1 := n3.eq ▸ E0.size
 have E5 := below_ext E0 E0.size n3.ext
 refine lw_e (oe_alloc ze56 ?_)
 intro b6 w7 n8
 have N9 : w.heap.size ≤ b6 := n8.eq ▸ E5.size
 have : b1 < b6 := n8.eq ▸ lt_of_blk n3.blk
 have E10 := below_ext E5 E5.size n8.ext
 refine qN <| lw_e (oe_alloc ze56 ?_)
 intro b11 w12 n13
 have N14 : w.heap.size ≤ b11 := n13.eq ▸ E10.size
 have : b6 < b11 := n13.eq ▸ lt_of_blk n8.blk
 have E15 := below_ext E10 E10.size n13.ext
 refine qN <| lw_v (.pointer (some ⟨b1, 0, none⟩)) (dv_fieldAddr (a := ⟨b1, 0, none⟩) (a' := ⟨b1, 0, none⟩) fo43_0 (T rfl rfl) rfl) ?_
 have H16 := (n13.ext.blk (n8.ext.blk n3.blk))
 refine lw_v (.agg (qA x y u)) (dv_loads (l := (qL x y u)) agt27 sz27 (T rfl rfl) H16 rfl) <| lw_e (oe_callf (vs := [.agg (qA x y u)]) co7 (ar1 (T rfl rfl)) (toPoint_ok (x := x) (y := y) (u := u)  ) ?_)
 rintro _ w17 ⟨rfl, e18⟩
 have E19 := below_ext E15 E15.size e18
 refine lw_v (.pointer (some ⟨b11, 0, none⟩)) (dv_fieldAddr (a := ⟨b11, 0, none⟩) (a' := ⟨b11, 0, none⟩) fo56_0 (T rfl rfl) rfl) ?_
 have H20 := (e18.blk n13.blk)
 refine lw_e (oe_store (v := .agg (qA x y u)) (vs := (qL x y u)) (l := (qM x y u (.slice none 0 0))) (T rfl rfl) (T rfl rfl) sz35 rfl rfl rfl H20 rfl ?_)
 intro w21 s22 H23
 have E24 := below_st E19 N14 s22
 refine qN <| lw_v (.pointer (some ⟨b1, 12, none⟩)) (dv_fieldAddr (a := ⟨b1, 0, none⟩) (a' := ⟨b1, 12, none⟩) fo43_1 (T rfl rfl) rfl) ?_
 have H25 := (s22.blk (e18.blk H16) (by omega))
 refine lw_v (.slice A l c) (dv_load1 (b := b1) (o := 12) agt41 (T rfl rfl) H25 rfl) ?_
 have h26 := hx.ext E24
 have : b1 < w21.heap.size := lt_of_blk H25
 have H32 := (s22.blk (e18.blk (n13.ext.blk n8.blk)) (by omega))
 have : b6 < w21.heap.size := lt_of_blk H32
 have : b11 < w21.heap.size := lt_of_blk H23
 have : w.heap.size ≤ w21.heap.size := E24.size
 refine lw_e (oe_callf (vs := [.slice A l c]) co42 (ar1 (T rfl rfl)) (toInt64S_ok (l := l) (c := c) (xs := xs) h26 (by first | omega | (simp; done) | (simp; omega)) (by first | omega | (simp; done) | (simp; omega))) ?_)
 rintro _ w30 ⟨b27, rfl, e31, H28, hN29⟩
 have E33 := below_ext E24 E24.size e31
 have : b1 < b27 := by omega
 have : b6 < b27 := by omega
 have : b11 < b27 := by omega
 have N34 : w.heap.size ≤ b27 := by omega
 refine lw_v (.pointer (some ⟨b11, 12, none⟩)) (dv_fieldAddr (a := ⟨b11, 0, none⟩) (a' := ⟨b11, 12, none⟩) fo56_1 (T rfl rfl) rfl) ?_
 have H35 := (e31.blk H23)
 refine lw_e (oe_store (v := .slice (some ⟨b27, 0, none⟩) l l) (vs := [.slice (some ⟨b27, 0, none⟩) l l]) (l := [qu (wv3 x), qu (wv2 x), qu (wv1 x), qu (wv0 x), qu (wv3 y), qu (wv2 y), qu (wv1 y), qu (wv0 y), qu (wv3 u), qu (wv2 u), qu (wv1 u), qu (wv0 u), .slice (some ⟨b27, 0, none⟩) l l]) (T rfl rfl) (T rfl rfl) sz41 rfl rfl rfl H35 rfl ?_)
 intro w36 s37 H38
 have E39 := below_st E33 N14 s37
 refine qN <| lw_v (.agg #[qu (wv3 x), qu (wv2 x), qu (wv1 x), qu (wv0 x), qu (wv3 y), qu (wv2 y), qu (wv1 y), qu (wv0 y), qu (wv3 u), qu (wv2 u), qu (wv1 u), qu (wv0 u), .slice (some ⟨b27, 0, none⟩) l l]) (dv_loads (l := [qu (wv3 x), qu (wv2 x), qu (wv1 x), qu (wv0 x), qu (wv3 y), qu (wv2 y), qu (wv1 y), qu (wv0 y), qu (wv3 u), qu (wv2 u), qu (wv1 u), qu (wv0 u), .slice (some ⟨b27, 0, none⟩) l l]) agt56 sz56 (T rfl rfl) H38 rfl) ?_
 have H40 := (s37.blk (e31.blk H32) (by omega))
 refine lw_e (oe_store (v := .agg #[qu (wv3 x), qu (wv2 x), qu (wv1 x), qu (wv0 x), qu (wv3 y), qu (wv2 y), qu (wv1 y), qu (wv0 y), qu (wv3 u), qu (wv2 u), qu (wv1 u), qu (wv0 u), .slice (some ⟨b27, 0, none⟩) l l]) (vs := [qu (wv3 x), qu (wv2 x), qu (wv1 x), qu (wv0 x), qu (wv3 y), qu (wv2 y), qu (wv1 y), qu (wv0 y), qu (wv3 u), qu (wv2 u), qu (wv1 u), qu (wv0 u), .slice (some ⟨b27, 0, none⟩) l l]) (l := [qu (wv3 x), qu (wv2 x), qu (wv1 x), qu (wv0 x), qu (wv3 y), qu (wv2 y), qu (wv1 y), qu (wv0 y), qu (wv3 u), qu (wv2 u), qu (wv1 u), qu (wv0 u), .slice (some ⟨b27, 0, none⟩) l l]) (T rfl rfl) (T rfl rfl) sz56 rfl rfl rfl H40 rfl ?_)
 intro w41 s42 H43
 have E44 := below_st E39 N9 s42
 refine lw_nil <| rk_ret Tryz.func20 (v := .agg #[qu (wv3 x), qu (wv2 x), qu (wv1 x), qu (wv0 x), qu (wv3 y), qu (wv2 y), qu (wv1 y), qu (wv0 y), qu (wv3 u), qu (wv2 u), qu (wv1 u), qu (wv0 u), .slice (some ⟨b27, 0, none⟩) l l]) (res1 Tryz.results20 (rv_cells (l := [qu (wv3 x), qu (wv2 x), qu (wv1 x), qu (wv0 x), qu (wv3 y), qu (wv2 y), qu (wv1 y), qu (wv0 y), qu (wv3 u), qu (wv2 u), qu (wv1 u), qu (wv0 u), .slice (some ⟨b27, 0, none⟩) l l]) agt56 sz56 rfl rfl H43 rfl)) ⟨_, rfl, ?_⟩
 have H45 := (s42.blk (s37.blk H28 (by omega)) (by omega))
 have hO_ := Ow.full (w := w) (L := xs) H45 (by omega)
 rw [hxl] at hO_
 exact ⟨_, rfl, E44, hO_.mono N34⟩
set_option maxHeartbeats 1000000 in
theorem toEventS_ok {w : World} {A : Option Addr} {l c : Nat} {Q : Nat → Ev} {SL : SlF} {lo hi : Nat} (hx : NR w lo hi A l (fun i_ => evW (Q i_)) (fun i_ => (Q i_).es) SL) (hxb : l ≤ 1048576) (hxf : evF l Q) : Ct Tryz.prog 6 [.slice A l c] w fun v w1 => ∃ A2 S2, v = .slice A2 l l ∧ Ext w w1 ∧ NO w1 w.heap.size w1.heap.size (-1) 56 2 A2 l l (fun i_ => evW (Q i_)) (fun i_ => (Q i_).es) S2 := by
 refine ct_run (n := 23) Tryz.func6 rfl Tryz.ntmps6 rfl ?_
 have E0 : Below w.heap.size w w := Below.refl _ _
 refine rk_seq <| rk_reg <| lw_v (.slice none 0 0) (dv_assign C) <| qN <| lw_v (.slice A l c) (dv_move (T rfl rfl)) <| lw_v (qi (l : Int)) (dv_len (ad := A) (l := l) (c := c) us22 (T rfl rfl)) <| lw_e (oe_makeN (x := -1) (T' := 2) (W := fun i_ => evW (Q i_)) (E := fun i_ => (Q i_).es) (SL := fun _ => (none, 0)) (m := l) (j := (l : Int)) us29 in56 rfl (T rfl rfl) (T rfl rfl) (by omega) (by first | omega | (simp; done) | (simp; omega)) (by first | omega | (simp; done) | (simp; omega)) (by omega) ?_)
 intro Am1 w2 hN3 e4
 have E5 := below_ext E0 E0.size e4
 refine lw_v (.slice Am1 l l) (dv_assign (T rfl rfl)) <| lw_nil <| rk_seq <| rk_seq <| rk_reg <| lw_v (qi 0) (dv_assign C) <| lw_nil <| rk_block <| rk_loop (fun dm_ fr wl => ∃ (i : Nat) (S : SlF), dm_ = l - i ∧ fr 0 = .slice A l c ∧ fr 2 = .slice none 0 0 ∧ fr 3 = .slice Am1 l l ∧ fr 4 = qi (i : Int) ∧ Below w.heap.size w wl ∧ NO wl w.heap.size wl.heap.size (-1) 56 2 Am1 i l (fun i_ => evW (Q i_)) (fun i_ => (Q i_).es) S ∧ (i ≤ l)) (l - 0) ⟨0, (fun _ => (none, 0)), rfl, rfl, rfl, rfl, (vi (by omega)), E5, hN3, (Nat.zero_le _)⟩ ?_
 intro d10 fr9 w6 hI7 ih8
 obtain ⟨i, S, hd17, f11, f12, f13, f14, E15, h16, hi_⟩ := hI7
 obtain ⟨As18, hAs20⟩ : ∃ q_ : Option Addr, q_ = (SL i).1 := ⟨_, rfl⟩
 obtain ⟨cs19, hcs21⟩ : ∃ q_ : Nat, q_ = (SL i).2 := ⟨_, rfl⟩
 have hen : i < l → (Q i).es.length ≤ 1048576 := fun h_ => evF.n hxf h_
 refine rk_seq <| rk_seq <| rk_reg <| lw_v (qi (i : Int)) (dv_move (T rfl f14)) <| lw_v (.slice A l c) (dv_move (T rfl f11)) <| lw_v (qi (l : Int)) (dv_len (ad := A) (l := l) (c := c) us22 (T rfl rfl)) <| lw_v (qd ((i : Int) < (l : Int))) (dv_lss (a := (i : Int)) (b := (l : Int)) (T rfl rfl) (T rfl rfl)) <| lw_nil ?_
 by_cases hb22 : ((i : Int)) < ((l : Int))
 · refine rk_ct (T rfl (qT hb22)) <| rk_skip <| rk_seq <| rk_block <| rk_reg <| lw_v (.slice Am1 l l) (dv_move (T rfl f13)) <| lw_v (qi (i : Int)) (dv_move (T rfl f14)) <| lw_v (.slice A l c) (dv_move (T rfl f11)) <| lw_v (qi (i : Int)) (dv_move (T rfl f14)) ?_
   have h25 := (hx.ext E15)
   obtain ⟨g23, o24, rfl⟩ := NR.at h25 (by first | omega | (simp; done) | (simp; omega))
   refine lw_v (.pointer (some ⟨g23, o24 + i * 13, none⟩)) (dv_indexM (g := g23) (o := o24) (l := l) (c := c) (i := i) (j := (i : Int)) (m := 13) us22 sz43 (T rfl rfl) (T rfl rfl) (by omega) (by first | omega | (simp; done) | (simp; omega))) <| lw_v (.agg (qB ((Q i).x) ((Q i).y) ((Q i).u) (.slice As18 ((Q i).es.length) cs19))) (dv_loadsR (l := (qM ((Q i).x) ((Q i).y) ((Q i).u) (.slice As18 ((Q i).es.length) cs19))) agt43 sz43 (T rfl rfl) rfl (NR.evA (i := i) h25 (by first | omega | (simp; done) | (simp; omega)) hAs20 hcs21)) <| lw_e (oe_callf (vs := [.agg (qB ((Q i).x) ((Q i).y) ((Q i).u) (.slice As18 ((Q i).es.length) cs19))]) co20 (ar1 (T rfl rfl)) (toEvent_ok (c := cs19) (evF.x hxf (i := i) (by omega)) (evF.y hxf (i := i) (by omega)) (evF.u hxf (i := i) (by omega)) (NR.rdA (i := i) h25 (by first | omega | (simp; done) | (simp; omega)) hAs20) (by first | rfl | omega) (by first | omega | (simp; done) | (simp; omega))) ?_)
   rintro _ w28 ⟨At26, rfl, e29, hOt27⟩
   have E30 := below_ext E15 E15.size e29
   have h33 := (h16.ext e29)
   obtain ⟨g31, o32, rfl⟩ := NO.at h33 (by first | omega | (simp; done) | (simp; omega))
   refine lw_v (.pointer (some ⟨g31, o32 + i * 13, none⟩)) (dv_indexM (g := g31) (o := o32) (l := l) (c := l) (i := i) (j := (i : Int)) (m := 13) us29 sz56 (T rfl rfl) (T rfl rfl) (by omega) (by first | omega | (simp; done) | (simp; omega))) <| lw_e (oe_storeN (lo := w.heap.size) (hi := w6.heap.size) (l := i) (c := l) (g := g31) (o := o32) (s := w6.heap.size) (ws := evW (Q i)) (es := (Q i).es) (vs := (qM ((Q i).x) ((Q i).y) ((Q i).u) (.slice At26 ((Q i).es.length) ((Q i).es.length)))) (A' := At26) (c' := (Q i).es.length) sz56 (T rfl rfl) (T rfl rfl) h33 (by decide) (by first | omega | (simp; done) | (simp; omega)) rfl hOt27 (by omega) (by omega) (fun _ _ => rfl) rfl ?_)
   intro w34 hN35 x36
   have E37 := below_mid E30 (Nat.le_refl _) E30.size x36
   refine lw_nil <| rk_inBlock <| rk_reg <| lw_v (qi (i : Int)) (dv_move (T rfl f14)) <| lw_v (qi ((i : Int) + 1)) (dv_add (a := (i : Int)) (b := 1) (z := (i : Int) + 1) (T rfl rfl) C (wr_i64 (by omega) (by omega))) <| lw_v (qi ((i : Int) + 1)) (dv_assign (T rfl rfl)) <| lw_nil ?_
   exact ih8 (l - (i + 1)) _ _ (by rw [hd17]; omega) ⟨(i + 1), (updA S i (At26, (Q i).es.length)), rfl, f11, f12, f13, (vi (by omega)), E37, hN35, (by omega)⟩
 · refine rk_cf (T rfl (qF hb22)) <| rk_exit rfl <| rk_seq <| rk_reg <| lw_v (.slice Am1 l l) (dv_move (T rfl f13)) <| lw_v (.slice Am1 l l) (dv_assign (T rfl rfl)) <| lw_nil <| rk_ret Tryz.func6 (v := .slice Am1 l l) (res1 Tryz.results6 (rv_tmp rfl rfl)) ⟨_, rfl, ?_⟩
   obtain rfl : i = l := by omega
   exact ⟨_, _, rfl, E15, h16⟩
set_option maxHeartbeats 1000000 in
theorem eqPoint_ok {w : World} {x y u p q r : Int} (fx_ : fits x) (fy_ : fits y) (fu_ : fits u) (fp_ : fits p) (fq_ : fits q) (fr_ : fits r)  : Ct Tryz.prog 57 [.agg #[.int .u64 (wv3 x), .int .u64 (wv2 x), .int .u64 (wv1 x), .int .u64 (wv0 x), .int .u64 (wv3 y), .int .u64 (wv2 y), .int .u64 (wv1 y), .int .u64 (wv0 y), .int .u64 (wv3 u), .int .u64 (wv2 u), .int .u64 (wv1 u), .int .u64 (wv0 u)], .agg #[.int .u64 (wv3 p), .int .u64 (wv2 p), .int .u64 (wv1 p), .int .u64 (wv0 p), .int .u64 (wv3 q), .int .u64 (wv2 q), .int .u64 (wv1 q), .int .u64 (wv0 q), .int .u64 (wv3 r), .int .u64 (wv2 r), .int .u64 (wv1 r), .int .u64 (wv0 r)]] w fun v w1 => v = .bool (decide (x = p ∧ y = q ∧ u = r)) ∧ Ext w w1 := by
 refine ct_run (n := 23) Tryz.func57 rfl Tryz.ntmps57 rfl ?_
 have E0 : Below w.heap.size w w := Below.refl _ _
 refine rk_seq <| rk_reg <| lw_e (oe_box (v := .agg (qA x y u)) (cs := (qA x y u)) (T rfl rfl) rfl ?_)
 intro b1 w2 n3
 have N4 : w.heap.size ≤ b1 := n3.eq ▸ E0.size
 have E5 := below_ext E0 E0.size n3.ext
 refine lw_e (oe_box (v := .agg (qA p q r)) (cs := (qA p q r)) (T rfl rfl) rfl ?_)
 intro b6 w7 n8
 have N9 : w.heap.size ≤ b6 := n8.eq ▸ E5.size
 have : b1 < b6 := n8.eq ▸ lt_of_blk n3.blk
 have E10 := below_ext E5 E5.size n8.ext
 refine lw_v (.bool false) (dv_assign C) <| lw_nil <| rk_seq <| rk_seq <| rk_reg <| lw_v (.pointer (some ⟨b1, 0, none⟩)) (dv_fieldAddr (a := ⟨b1, 0, none⟩) (a' := ⟨b1, 0, none⟩) fo35_0 (T rfl rfl) rfl) ?_
 have H11 := (n8.ext.blk n3.blk)
 refine lw_v (.agg #[qu (wv3 x), qu (wv2 x), qu (wv1 x), qu (wv0 x)]) (dv_loads (l := [qu (wv3 x), qu (wv2 x), qu (wv1 x), qu (wv0 x)]) agt33 sz33 (T rfl rfl) H11 rfl) <| lw_v (.pointer (some ⟨b6, 0, none⟩)) (dv_fieldAddr (a := ⟨b6, 0, none⟩) (a' := ⟨b6, 0, none⟩) fo35_0 (T rfl rfl) rfl) <| lw_v (.agg #[qu (wv3 p), qu (wv2 p), qu (wv1 p), qu (wv0 p)]) (dv_loads (l := [qu (wv3 p), qu (wv2 p), qu (wv1 p), qu (wv0 p)]) agt33 sz33 (T rfl rfl) n8.blk rfl) <| lw_e (oe_callf (vs := [.agg #[qu (wv3 x), qu (wv2 x), qu (wv1 x), qu (wv0 x)], .agg #[qu (wv3 p), qu (wv2 p), qu (wv1 p), qu (wv0 p)]]) co86 (ar2 (T rfl rfl) (T rfl rfl)) (eqWide_ok (x := x) (y := p) fx_ fp_ ) ?_)
 rintro _ w12 ⟨rfl, e13⟩
 have E14 := below_ext E10 E10.size e13
 refine lw_v (qd (¬ (x = p))) (dv_notd (p := x = p) (T rfl rfl)) <| lw_nil ?_
 by_cases hb15 : x = p
 · refine rk_cf (T rfl (congrArg Value.bool (decide_eq_false (not_not_intro hb15)))) <| rk_skip <| rk_seq <| rk_seq <| rk_reg <| lw_v (.pointer (some ⟨b1, 4, none⟩)) (dv_fieldAddr (a := ⟨b1, 0, none⟩) (a' := ⟨b1, 4, none⟩) fo35_1 (T rfl rfl) rfl) ?_
   have H16 := (e13.blk H11)
   refine lw_v (.agg #[qu (wv3 y), qu (wv2 y), qu (wv1 y), qu (wv0 y)]) (dv_loads (l := [qu (wv3 y), qu (wv2 y), qu (wv1 y), qu (wv0 y)]) agt33 sz33 (T rfl rfl) H16 rfl) <| lw_v (.pointer (some ⟨b6, 4, none⟩)) (dv_fieldAddr (a := ⟨b6, 0, none⟩) (a' := ⟨b6, 4, none⟩) fo35_1 (T rfl rfl) rfl) ?_
   have H17 := (e13.blk n8.blk)
   refine lw_v (.agg #[qu (wv3 q), qu (wv2 q), qu (wv1 q), qu (wv0 q)]) (dv_loads (l := [qu (wv3 q), qu (wv2 q), qu (wv1 q), qu (wv0 q)]) agt33 sz33 (T rfl rfl) H17 rfl) <| lw_e (oe_callf (vs := [.agg #[qu (wv3 y), qu (wv2 y), qu (wv1 y), qu (wv0 y)], .agg #[qu (wv3 q), qu (wv2 q), qu (wv1 q), qu (wv0 q)]]) co86 (ar2 (T rfl rfl) (T rfl rfl)) (eqWide_ok (x := y) (y := q) fy_ fq_ ) ?_)
   rintro _ w18 ⟨rfl, e19⟩
   have E20 := below_ext E14 E14.size e19
   refine lw_v (qd (¬ (y = q))) (dv_notd (p := y = q) (T rfl rfl)) <| lw_nil ?_
   by_cases hb21 : y = q
   · refine rk_cf (T rfl (congrArg Value.bool (decide_eq_false (not_not_intro hb21)))) <| rk_skip <| rk_seq <| rk_seq <| rk_reg <| lw_v (.pointer (some ⟨b1, 8, none⟩)) (dv_fieldAddr (a := ⟨b1, 0, none⟩) (a' := ⟨b1, 8, none⟩) fo35_2 (T rfl rfl) rfl) ?_
     have H22 := (e19.blk H16)
     refine lw_v (.agg #[qu (wv3 u), qu (wv2 u), qu (wv1 u), qu (wv0 u)]) (dv_loads (l := [qu (wv3 u), qu (wv2 u), qu (wv1 u), qu (wv0 u)]) agt33 sz33 (T rfl rfl) H22 rfl) <| lw_v (.pointer (some ⟨b6, 8, none⟩)) (dv_fieldAddr (a := ⟨b6, 0, none⟩) (a' := ⟨b6, 8, none⟩) fo35_2 (T rfl rfl) rfl) ?_
     have H23 := (e19.blk H17)
     refine lw_v (.agg #[qu (wv3 r), qu (wv2 r), qu (wv1 r), qu (wv0 r)]) (dv_loads (l := [qu (wv3 r), qu (wv2 r), qu (wv1 r), qu (wv0 r)]) agt33 sz33 (T rfl rfl) H23 rfl) <| lw_e (oe_callf (vs := [.agg #[qu (wv3 u), qu (wv2 u), qu (wv1 u), qu (wv0 u)], .agg #[qu (wv3 r), qu (wv2 r), qu (wv1 r), qu (wv0 r)]]) co86 (ar2 (T rfl rfl) (T rfl rfl)) (eqWide_ok (x := u) (y := r) fu_ fr_ ) ?_)
     rintro _ w24 ⟨rfl, e25⟩
     have E26 := below_ext E20 E20.size e25
     refine lw_v (qd (¬ (u = r))) (dv_notd (p := u = r) (T rfl rfl)) <| lw_nil ?_
     by_cases hb27 : u = r
     · refine rk_cf (T rfl (congrArg Value.bool (decide_eq_false (not_not_intro hb27)))) <| rk_skip <| rk_seq <| rk_reg <| lw_v (.bool true) (dv_assign C) <| lw_nil <| rk_ret Tryz.func57 (v := .bool true) (res1 Tryz.results57 (rv_tmp rfl rfl)) ⟨_, rfl, ?_⟩
       exact ⟨(vt (by omega)), E26⟩
     · refine rk_ct (T rfl (qT hb27)) <| rk_seq <| rk_reg <| lw_v (.bool false) (dv_assign C) <| lw_nil <| rk_ret Tryz.func57 (v := .bool false) (res1 Tryz.results57 (rv_tmp rfl rfl)) ⟨_, rfl, ?_⟩
       exact ⟨(vf (by omega)), E26⟩
   · refine rk_ct (T rfl (qT hb21)) <| rk_seq <| rk_reg <| lw_v (.bool false) (dv_assign C) <| lw_nil <| rk_ret Tryz.func57 (v := .bool false) (res1 Tryz.results57 (rv_tmp rfl rfl)) ⟨_, rfl, ?_⟩
     exact ⟨(vf (by omega)), E20⟩
 · refine rk_ct (T rfl (qT hb15)) <| rk_seq <| rk_reg <| lw_v (.bool false) (dv_assign C) <| lw_nil <| rk_ret Tryz.func57 (v := .bool false) (res1 Tryz.results57 (rv_tmp rfl rfl)) ⟨_, rfl, ?_⟩
   exact ⟨(vf (by omega)), E14⟩
set_option maxHeartbeats 1000000 in
theorem eqInt64S_ok {w : World} {A : Option Addr} {l c : Nat} {xs : List Int} (hx : RdI w .i64 A xs) (hxl : xs.length = l) (hxb : l ≤ 1048576) {D : Option Addr} {m d : Nat} {ys : List Int} (hy : RdI w .i64 D ys) (hyl : ys.length = m) (hyb : m ≤ 1048576) : Ct Tryz.prog 58 [.slice A l c, .slice D m d] w fun v w1 => v = .bool (decide ((xs : List Int) = ys)) ∧ Ext w w1 := by
 refine ct_run (n := 26) Tryz.func58 rfl Tryz.ntmps58 rfl ?_
 have E0 : Below w.heap.size w w := Below.refl _ _
 refine rk_seq <| rk_reg <| lw_v (.bool false) (dv_assign C) <| lw_nil <| rk_seq <| rk_seq <| rk_reg <| lw_v (.slice A l c) (dv_move (T rfl rfl)) <| lw_v (qi (l : Int)) (dv_len (ad := A) (l := l) (c := c) us41 (T rfl rfl)) <| lw_v (.slice D m d) (dv_move (T rfl rfl)) <| lw_v (qi (m : Int)) (dv_len (ad := D) (l := m) (c := d) us41 (T rfl rfl)) ?_
 refine lw_v (qd ((l : Int) ≠ (m : Int))) (dv_neq (a := (l : Int)) (b := (m : Int)) (T rfl rfl) (T rfl rfl)) <| lw_nil ?_
 by_cases hb1 : ((l : Int)) ≠ ((m : Int))
 · refine rk_ct (T rfl (qT hb1)) <| rk_seq <| rk_reg <| lw_v (.bool false) (dv_assign C) <| lw_nil <| rk_ret Tryz.func58 (v := .bool false) (res1 Tryz.results58 (rv_tmp rfl rfl)) ⟨_, rfl, ?_⟩
   exact ⟨(vf (by intro hh; have := congrArg List.length hh; omega)), E0⟩
 · refine rk_cf (T rfl (qF hb1)) <| rk_skip <| rk_seq <| rk_seq <| rk_reg <| lw_v (qi 0) (dv_assign C) <| lw_nil <| rk_block <| rk_loop (fun dm_ fr wl => ∃ (i : Nat), dm_ = l - i ∧ fr 0 = .slice A l c ∧ fr 1 = .slice D m d ∧ fr 5 = qi (i : Int) ∧ Below w.heap.size w wl ∧ (i ≤ l) ∧ (xs.take (i) = ys.take (i))) (l - 0) ⟨0, rfl, rfl, rfl, (vi (by omega)), E0, (Nat.zero_le _), (by simp)⟩ ?_
   intro d6 fr5 w2 hI3 ih4
   obtain ⟨i, hd11, f7, f8, f9, E10, hi, hqt⟩ := hI3
   refine rk_seq <| rk_seq <| rk_reg <| lw_v (qi (i : Int)) (dv_move (T rfl f9)) <| lw_v (.slice A l c) (dv_move (T rfl f7)) <| lw_v (qi (l : Int)) (dv_len (ad := A) (l := l) (c := c) us41 (T rfl rfl)) <| lw_v (qd ((i : Int) < (l : Int))) (dv_lss (a := (i : Int)) (b := (l : Int)) (T rfl rfl) (T rfl rfl)) <| lw_nil ?_
   by_cases hb12 : ((i : Int)) < ((l : Int))
   · refine rk_ct (T rfl (qT hb12)) <| rk_skip <| rk_seq <| rk_block <| rk_seq ?_
     have h13 := (hx.ext E10)
     have h14 := (hy.ext E10)
     refine rk_any (fun w => RdI w .i64 A xs ∧ RdI w .i64 D ys) [] mo ?_
     intro w15 d16
     have E17 := below_ext E10 E10.size d16.ext
     have h18 := (h13.ext d16.ext)
     have h19 := (h14.ext d16.ext)
     refine aw_pure 0 (.slice A l c) rfl (by kernel_rfl) .none ⟨h18, h19⟩ (fun _ => dv_move (T rfl f7)) <| aw_pure 1 (qi (i : Int)) rfl (by kernel_rfl) .none ⟨h18, h19⟩ (fun _ => dv_move (T rfl f9)) ?_
     obtain ⟨g20, o21, rfl⟩ := RdI.at h18 (by first | omega | (simp; done) | (simp; omega))
     refine aw_pure 2 (.pointer (some ⟨g20, o21 + i, none⟩)) rfl (by kernel_rfl) .none ⟨h18, h19⟩ (fun _ => dv_indexW (g := g20) (o := o21) (l := l) (c := c) (i := i) (j := (i : Int)) us41 sz2 (T rfl rfl) (T rfl rfl) (by omega) (by first | omega | (simp; done) | (simp; omega))) <| aw_load 3 (qi (xs.getD i 0)) rfl (by kernel_rfl) .none ⟨h18, h19⟩ (fun _ s => dv_load agt2 (T rfl rfl) (RdI.cell s.1 (by first | omega | (simp; done) | (simp; omega)))) <| aw_pure 4 (.slice D m d) rfl (by kernel_rfl) .none ⟨h18, h19⟩ (fun _ => dv_move (T rfl f8)) <| aw_pure 5 (qi (i : Int)) rfl (by kernel_rfl) .none ⟨h18, h19⟩ (fun _ => dv_move (T rfl f9)) ?_
     obtain ⟨g22, o23, rfl⟩ := RdI.at h19 (by first | omega | (simp; done) | (simp; omega))
     refine aw_pure 6 (.pointer (some ⟨g22, o23 + i, none⟩)) rfl (by kernel_rfl) .none ⟨h18, h19⟩ (fun _ => dv_indexW (g := g22) (o := o23) (l := m) (c := d) (i := i) (j := (i : Int)) us41 sz2 (T rfl rfl) (T rfl rfl) (by omega) (by first | omega | (simp; done) | (simp; omega))) <| aw_load 7 (qi (ys.getD i 0)) rfl (by kernel_rfl) .none ⟨h18, h19⟩ (fun _ s => dv_load agt2 (T rfl rfl) (RdI.cell s.2 (by first | omega | (simp; done) | (simp; omega)))) <| aw_pure 8 (qd ((xs.getD i 0) ≠ (ys.getD i 0))) rfl (by kernel_rfl) .none ⟨h18, h19⟩ (fun _ => dv_neq (a := xs.getD i 0) (b := ys.getD i 0) (T rfl rfl) (T rfl rfl)) <| aw_done (by kernel_rfl) ?_
     by_cases hb24 : (xs.getD i 0) ≠ (ys.getD i 0)
     · refine rk_ct (T rfl (qT hb24)) <| rk_seq <| rk_reg <| lw_v (.bool false) (dv_assign C) <| lw_nil <| rk_ret Tryz.func58 (v := .bool false) (res1 Tryz.results58 (rv_tmp rfl rfl)) ⟨_, rfl, ?_⟩
       exact ⟨(vf (by intro hh; subst hh; exact absurd rfl (by assumption))), E17⟩
     · refine rk_cf (T rfl (qF hb24)) <| rk_skip <| rk_inBlock <| rk_reg <| lw_v (qi (i : Int)) (dv_move (T rfl f9)) <| lw_v (qi ((i : Int) + 1)) (dv_add (a := (i : Int)) (b := 1) (z := (i : Int) + 1) (T rfl rfl) C (wr_i64 (by omega) (by omega))) <| lw_v (qi ((i : Int) + 1)) (dv_assign (T rfl rfl)) <| lw_nil ?_
       exact ih4 (l - (i + 1)) _ _ (by rw [hd11]; omega) ⟨(i + 1), rfl, f7, f8, (vi (by omega)), E17, (by omega), (take_eq1 hqt (by omega) (by omega) (by first | assumption | exact Decidable.not_not.1 (by assumption)))⟩
   · refine rk_cf (T rfl (qF hb12)) <| rk_exit rfl <| rk_seq <| rk_reg <| lw_v (.bool true) (dv_assign C) <| lw_nil <| rk_ret Tryz.func58 (v := .bool true) (res1 Tryz.results58 (rv_tmp rfl rfl)) ⟨_, rfl, ?_⟩
     exact ⟨(vt (take_all hqt (by omega) (by omega))), E10⟩
set_option maxHeartbeats 1000000 in
theorem eqEvent_ok {w : World} {x y u : Int} {A D : Option Addr} {l c d : Nat} {xs : List Int} (fx_ : fits x) (fy_ : fits y) (fu_ : fits u) (hx : RdI w .i64 A xs) (hy : RdI w .i64 D xs) (hxl : xs.length = l) (hxb : l ≤ 1048576) : Ct Tryz.prog 30 [.agg #[.int .u64 (wv3 x), .int .u64 (wv2 x), .int .u64 (wv1 x), .int .u64 (wv0 x), .int .u64 (wv3 y), .int .u64 (wv2 y), .int .u64 (wv1 y), .int .u64 (wv0 y), .int .u64 (wv3 u), .int .u64 (wv2 u), .int .u64 (wv1 u), .int .u64 (wv0 u), .slice A l c], .agg #[.int .u64 (wv3 x), .int .u64 (wv2 x), .int .u64 (wv1 x), .int .u64 (wv0 x), .int .u64 (wv3 y), .int .u64 (wv2 y), .int .u64 (wv1 y), .int .u64 (wv0 y), .int .u64 (wv3 u), .int .u64 (wv2 u), .int .u64 (wv1 u), .int .u64 (wv0 u), .slice D l d]] w fun v w1 => v = .bool true ∧ Ext w w1 := by
 refine ct_run (n := 17) Tryz.func30 rfl Tryz.ntmps30 rfl ?_
 have E0 : Below w.heap.size w w := Below.refl _ _
 refine rk_seq <| rk_reg <| lw_e (oe_box (v := .agg (qB x y u (.slice A l c))) (cs := (qB x y u (.slice A l c))) (T rfl rfl) rfl ?_)
 intro b1 w2 n3
 have N4 : w.heap.size ≤ b1 := n3.eq ▸ E0.size
 have E5 := below_ext E0 E0.size n3.ext
 refine lw_e (oe_box (v := .agg (qB x y u (.slice D l d))) (cs := (qB x y u (.slice D l d))) (T rfl rfl) rfl ?_)
 intro b6 w7 n8
 have N9 : w.heap.size ≤ b6 := n8.eq ▸ E5.size
 have : b1 < b6 := n8.eq ▸ lt_of_blk n3.blk
 have E10 := below_ext E5 E5.size n8.ext
 refine lw_v (.bool false) (dv_assign C) <| lw_nil <| rk_seq <| rk_seq <| rk_reg <| lw_v (.pointer (some ⟨b1, 0, none⟩)) (dv_fieldAddr (a := ⟨b1, 0, none⟩) (a' := ⟨b1, 0, none⟩) fo56_0 (T rfl rfl) rfl) ?_
 have H11 := (n8.ext.blk n3.blk)
 refine lw_v (.agg (qA x y u)) (dv_loads (l := (qL x y u)) agt35 sz35 (T rfl rfl) H11 rfl) <| lw_v (.pointer (some ⟨b6, 0, none⟩)) (dv_fieldAddr (a := ⟨b6, 0, none⟩) (a' := ⟨b6, 0, none⟩) fo56_0 (T rfl rfl) rfl) <| lw_v (.agg (qA x y u)) (dv_loads (l := (qL x y u)) agt35 sz35 (T rfl rfl) n8.blk rfl) <| lw_e (oe_callf (vs := [.agg (qA x y u), .agg (qA x y u)]) co57 (ar2 (T rfl rfl) (T rfl rfl)) (eqPoint_ok (x := x) (y := y) (u := u) (p := x) (q := y) (r := u) fx_ fy_ fu_ fx_ fy_ fu_ ) ?_)
 rintro _ w12 ⟨rfl, e13⟩
 have E14 := below_ext E10 E10.size e13
 refine lw_v (qd (¬ (x = x ∧ y = y ∧ u = u))) (dv_notd (p := x = x ∧ y = y ∧ u = u) (T rfl rfl)) <| lw_nil ?_
 by_cases hb15 : x = x ∧ y = y ∧ u = u
 · refine rk_cf (T rfl (congrArg Value.bool (decide_eq_false (not_not_intro hb15)))) <| rk_skip <| rk_seq <| rk_seq <| rk_reg <| lw_v (.pointer (some ⟨b1, 12, none⟩)) (dv_fieldAddr (a := ⟨b1, 0, none⟩) (a' := ⟨b1, 12, none⟩) fo56_1 (T rfl rfl) rfl) ?_
   have H16 := (e13.blk H11)
   refine lw_v (.slice A l c) (dv_load1 (b := b1) (o := 12) agt41 (T rfl rfl) H16 rfl) <| lw_v (.pointer (some ⟨b6, 12, none⟩)) (dv_fieldAddr (a := ⟨b6, 0, none⟩) (a' := ⟨b6, 12, none⟩) fo56_1 (T rfl rfl) rfl) ?_
   have H17 := (e13.blk n8.blk)
   refine lw_v (.slice D l d) (dv_load1 (b := b6) (o := 12) agt41 (T rfl rfl) H17 rfl) ?_
   have h18 := (((hx.ext n3.ext).ext n8.ext).ext e13)
   have h19 := (((hy.ext n3.ext).ext n8.ext).ext e13)
   refine lw_e (oe_callf (vs := [.slice A l c, .slice D l d]) co58 (ar2 (T rfl rfl) (T rfl rfl)) (eqInt64S_ok (l := l) (m := l) (c := c) (d := d) (xs := xs) (ys := xs) h18 (by first | omega | (simp; done) | (simp; omega)) (by first | omega | (simp; done) | (simp; omega)) h19 (by first | omega | (simp; done) | (simp; omega)) (by first | omega | (simp; done) | (simp; omega))) ?_)
   rintro _ w20 ⟨rfl, e21⟩
   have E22 := below_ext E14 E14.size e21
   refine lw_v (qd (¬ ((xs : List Int) = xs))) (dv_notd (p := (xs : List Int) = xs) (T rfl rfl)) <| lw_nil ?_
   by_cases hb23 : (xs : List Int) = xs
   · refine rk_cf (T rfl (congrArg Value.bool (decide_eq_false (not_not_intro hb23)))) <| rk_skip <| rk_seq <| rk_reg <| lw_v (.bool true) (dv_assign C) <| lw_nil <| rk_ret Tryz.func30 (v := .bool true) (res1 Tryz.results30 (rv_tmp rfl rfl)) ⟨_, rfl, ?_⟩
     exact ⟨rfl, E22⟩
   · refine rk_ct (T rfl (qT hb23)) <| rk_seq <| rk_reg <| lw_v (.bool false) (dv_assign C) <| lw_nil <| rk_ret Tryz.func30 (v := .bool false) (res1 Tryz.results30 (rv_tmp rfl rfl)) ⟨_, rfl, ?_⟩
     exact ⟨by exfalso; first | contradiction | exact absurd rfl (by assumption) | exact (by assumption : ¬ (x = x ∧ y = y ∧ u = u)) ⟨rfl, rfl, rfl⟩, E22⟩
 · refine rk_ct (T rfl (qT hb15)) <| rk_seq <| rk_reg <| lw_v (.bool false) (dv_assign C) <| lw_nil <| rk_ret Tryz.func30 (v := .bool false) (res1 Tryz.results30 (rv_tmp rfl rfl)) ⟨_, rfl, ?_⟩
   exact ⟨by exfalso; first | contradiction | exact absurd rfl (by assumption) | exact (by assumption : ¬ (x = x ∧ y = y ∧ u = u)) ⟨rfl, rfl, rfl⟩, E14⟩
set_option maxHeartbeats 1000000 in
theorem eqEventS_ok {w : World} {A : Option Addr} {l c : Nat} {Q : Nat → Ev} {SL : SlF} {lo hi : Nat} (hx : NR w lo hi A l (fun i_ => evW (Q i_)) (fun i_ => (Q i_).es) SL) (hxb : l ≤ 1048576) (hxf : evF l Q) {D : Option Addr} {d : Nat} {SM : SlF} {lo2 hi2 : Nat} (hy : NR w lo2 hi2 D l (fun i_ => evW (Q i_)) (fun i_ => (Q i_).es) SM) : Ct Tryz.prog 9 [.slice A l c, .slice D l d] w fun v w1 => v = .bool true ∧ Ext w w1 := by
 refine ct_run (n := 27) Tryz.func9 rfl Tryz.ntmps9 rfl ?_
 have E0 : Below w.heap.size w w := Below.refl _ _
 refine rk_seq <| rk_reg <| lw_v (.bool false) (dv_assign C) <| lw_nil <| rk_seq <| rk_seq <| rk_reg <| lw_v (.slice A l c) (dv_move (T rfl rfl)) <| lw_v (qi (l : Int)) (dv_len (ad := A) (l := l) (c := c) us29 (T rfl rfl)) <| lw_v (.slice D l d) (dv_move (T rfl rfl)) <| lw_v (qi (l : Int)) (dv_len (ad := D) (l := l) (c := d) us29 (T rfl rfl)) ?_
 refine lw_v (qd ((l : Int) ≠ (l : Int))) (dv_neq (a := (l : Int)) (b := (l : Int)) (T rfl rfl) (T rfl rfl)) <| lw_nil ?_
 by_cases hb1 : ((l : Int)) ≠ ((l : Int))
 · refine rk_ct (T rfl (qT hb1)) <| rk_seq <| rk_reg <| lw_v (.bool false) (dv_assign C) <| lw_nil <| rk_ret Tryz.func9 (v := .bool false) (res1 Tryz.results9 (rv_tmp rfl rfl)) ⟨_, rfl, ?_⟩
   exact ⟨by exfalso; first | contradiction | omega, E0⟩
 · refine rk_cf (T rfl (qF hb1)) <| rk_skip <| rk_seq <| rk_seq <| rk_reg <| lw_v (qi 0) (dv_assign C) <| lw_nil <| rk_block <| rk_loop (fun dm_ fr wl => ∃ (i : Nat), dm_ = l - i ∧ fr 0 = .slice A l c ∧ fr 1 = .slice D l d ∧ fr 5 = qi (i : Int) ∧ Below w.heap.size w wl ∧ (i ≤ l)) (l - 0) ⟨0, rfl, rfl, rfl, (vi (by omega)), E0, (Nat.zero_le _)⟩ ?_
   intro d6 fr5 w2 hI3 ih4
   obtain ⟨i, hd11, f7, f8, f9, E10, hi_⟩ := hI3
   obtain ⟨As12, hAs14⟩ : ∃ q_ : Option Addr, q_ = (SL i).1 := ⟨_, rfl⟩
   obtain ⟨cs13, hcs15⟩ : ∃ q_ : Nat, q_ = (SL i).2 := ⟨_, rfl⟩
   obtain ⟨As16, hAs18⟩ : ∃ q_ : Option Addr, q_ = (SM i).1 := ⟨_, rfl⟩
   obtain ⟨cs17, hcs19⟩ : ∃ q_ : Nat, q_ = (SM i).2 := ⟨_, rfl⟩
   have hen : i < l → (Q i).es.length ≤ 1048576 := fun h_ => evF.n hxf h_
   refine rk_seq <| rk_seq <| rk_reg <| lw_v (qi (i : Int)) (dv_move (T rfl f9)) <| lw_v (.slice A l c) (dv_move (T rfl f7)) <| lw_v (qi (l : Int)) (dv_len (ad := A) (l := l) (c := c) us29 (T rfl rfl)) <| lw_v (qd ((i : Int) < (l : Int))) (dv_lss (a := (i : Int)) (b := (l : Int)) (T rfl rfl) (T rfl rfl)) <| lw_nil ?_
   by_cases hb20 : ((i : Int)) < ((l : Int))
   · refine rk_ct (T rfl (qT hb20)) <| rk_skip <| rk_seq <| rk_block <| rk_seq <| rk_any (fun w => NR w lo hi A l (fun i_ => evW (Q i_)) (fun i_ => (Q i_).es) SL ∧ NR w lo2 hi2 D l (fun i_ => evW (Q i_)) (fun i_ => (Q i_).es) SM) [] mo ?_
     intro w21 d22
     have E23 := below_ext E10 E10.size d22.ext
     have h24 := ((hx.ext E10).ext d22.ext)
     have h25 := ((hy.ext E10).ext d22.ext)
     refine aw_pure 0 (.slice A l c) rfl (by kernel_rfl) .none ⟨h24, h25⟩ (fun _ => dv_move (T rfl f7)) <| aw_pure 1 (qi (i : Int)) rfl (by kernel_rfl) .none ⟨h24, h25⟩ (fun _ => dv_move (T rfl f9)) ?_
     obtain ⟨g26, o27, rfl⟩ := NR.at h24 (by first | omega | (simp; done) | (simp; omega))
     refine aw_pure 2 (.pointer (some ⟨g26, o27 + i * 13, none⟩)) rfl (by kernel_rfl) .none ⟨h24, h25⟩ (fun _ => dv_indexM (g := g26) (o := o27) (l := l) (c := c) (i := i) (j := (i : Int)) (m := 13) us29 sz56 (T rfl rfl) (T rfl rfl) (by omega) (by first | omega | (simp; done) | (simp; omega))) <| aw_load 3 (.agg (qB ((Q i).x) ((Q i).y) ((Q i).u) (.slice As12 ((Q i).es.length) cs13))) rfl (by kernel_rfl) .none ⟨h24, h25⟩ (fun _ s => dv_loadsR (l := (qM ((Q i).x) ((Q i).y) ((Q i).u) (.slice As12 ((Q i).es.length) cs13))) agt56 sz56 (T rfl rfl) rfl (NR.evA (i := i) s.1 (by first | omega | (simp; done) | (simp; omega)) hAs14 hcs15)) <| aw_pure 4 (.slice D l d) rfl (by kernel_rfl) .none ⟨h24, h25⟩ (fun _ => dv_move (T rfl f8)) <| aw_pure 5 (qi (i : Int)) rfl (by kernel_rfl) .none ⟨h24, h25⟩ (fun _ => dv_move (T rfl f9)) ?_
     obtain ⟨g28, o29, rfl⟩ := NR.at h25 (by first | omega | (simp; done) | (simp; omega))
     refine aw_pure 6 (.pointer (some ⟨g28, o29 + i * 13, none⟩)) rfl (by kernel_rfl) .none ⟨h24, h25⟩ (fun _ => dv_indexM (g := g28) (o := o29) (l := l) (c := d) (i := i) (j := (i : Int)) (m := 13) us29 sz56 (T rfl rfl) (T rfl rfl) (by omega) (by first | omega | (simp; done) | (simp; omega))) <| aw_load 7 (.agg (qB ((Q i).x) ((Q i).y) ((Q i).u) (.slice As16 ((Q i).es.length) cs17))) rfl (by kernel_rfl) .none ⟨h24, h25⟩ (fun _ s => dv_loadsR (l := (qM ((Q i).x) ((Q i).y) ((Q i).u) (.slice As16 ((Q i).es.length) cs17))) agt56 sz56 (T rfl rfl) rfl (NR.evA (i := i) s.2 (by first | omega | (simp; done) | (simp; omega)) hAs18 hcs19)) <| aw_one 8 rfl (by kernel_rfl) .none (oe_callf (vs := [.agg (qB ((Q i).x) ((Q i).y) ((Q i).u) (.slice As12 ((Q i).es.length) cs13)), .agg (qB ((Q i).x) ((Q i).y) ((Q i).u) (.slice As16 ((Q i).es.length) cs17))]) co30 (ar2 (T rfl rfl) (T rfl rfl)) (eqEvent_ok (c := cs13) (d := cs17) (evF.x hxf (i := i) (by omega)) (evF.y hxf (i := i) (by omega)) (evF.u hxf (i := i) (by omega)) (NR.rdA (i := i) h24 (by first | omega | (simp; done) | (simp; omega)) hAs14) (NR.rdA (i := i) h25 (by first | omega | (simp; done) | (simp; omega)) hAs18) (by first | rfl | omega) (by first | omega | (simp; done) | (simp; omega))) ?_)
     rintro _ w30 ⟨rfl, e31⟩
     have E32 := below_ext E23 E23.size e31
     have h33 := (h24.ext e31)
     have h34 := (h25.ext e31)
     refine ⟨.inr ⟨h33, h34⟩, ?_⟩
     refine aw_pure 9 (.bool false) rfl (by kernel_rfl) .none ⟨h33, h34⟩ (fun _ => dv_not (b := true) (T rfl rfl)) <| aw_done (by kernel_rfl) <| rk_cf (T rfl rfl) <| rk_skip <| rk_inBlock <| rk_reg <| lw_v (qi (i : Int)) (dv_move (T rfl f9)) <| lw_v (qi ((i : Int) + 1)) (dv_add (a := (i : Int)) (b := 1) (z := (i : Int) + 1) (T rfl rfl) C (wr_i64 (by omega) (by omega))) <| lw_v (qi ((i : Int) + 1)) (dv_assign (T rfl rfl)) <| lw_nil ?_
     exact ih4 (l - (i + 1)) _ _ (by rw [hd11]; omega) ⟨(i + 1), rfl, f7, f8, (vi (by omega)), E32, (by omega)⟩
   · refine rk_cf (T rfl (qF hb20)) <| rk_exit rfl <| rk_seq <| rk_reg <| lw_v (.bool true) (dv_assign C) <| lw_nil <| rk_ret Tryz.func9 (v := .bool true) (res1 Tryz.results9 (rv_tmp rfl rfl)) ⟨_, rfl, ?_⟩
     exact ⟨rfl, E10⟩
end Go.Proofs.YtmbpomcbdopgnaaGreat.W
