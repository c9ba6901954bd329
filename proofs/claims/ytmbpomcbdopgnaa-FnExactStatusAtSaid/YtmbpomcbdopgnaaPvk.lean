/- Walks and plain mathematics, packed by a program of this session: declarations that the rows reach. -/
import Derived.Test.YtmbpomcbdopgnaaPvj
set_option linter.unusedVariables false
set_option linter.unusedSimpArgs false
namespace Go.Proofs.Ytmbpomcbdopgnaa.W
open Go Go.RowKit Go.Proofs.Ytmbpomcbdopgnaa.Fw
attribute [local irreducible] RunK LW AW DV OE Ct
theorem agt115 : aggB Try.prog 115 = some true := by kernel_rfl
theorem agt116 : aggB Try.prog 116 = some false := by kernel_rfl
theorem agt3 : aggB Try.prog 3 = some false := by kernel_rfl
theorem agt64 : aggB Try.prog 64 = some false := by kernel_rfl
theorem co108 : callOk Try.prog 108 = true := by kernel_rfl
theorem co112 : callOk Try.prog 112 = true := by kernel_rfl
theorem co72 : callOk Try.prog 72 = true := by kernel_rfl
theorem co77 : callOk Try.prog 77 = true := by kernel_rfl
theorem co78 : callOk Try.prog 78 = true := by kernel_rfl
theorem co79 : callOk Try.prog 79 = true := by kernel_rfl
theorem pl115 : placesB Try.prog 115 = some [(0, 2), (2, 2)] := by kernel_rfl
theorem sz115 : sizeB Try.prog 115 = some 4 := by kernel_rfl
theorem sz3 : sizeB Try.prog 3 = some 1 := by kernel_rfl
theorem us155 : Try.prog.underlying 155 = some (.slice 3) := by kernel_rfl
theorem zc115 : zcB Try.prog 115 = some [.bool false, .slice none 0 0, .bool false, .slice none 0 0] := by kernel_rfl
theorem zc3 : zcB Try.prog 3 = some [.int .i64 0] := by kernel_rfl
theorem ze115 : zeroB Try.prog 115 = some #[.bool false, .slice none 0 0, .bool false, .slice none 0 0] := by kernel_rfl
set_option maxHeartbeats 1000000 in
theorem areSegs_ok {w : World} {A : Option Addr} {l c : Nat} {xs : List Int} (hx : RdI w .i64 A xs) (hxl : xs.length = l * 4) (hxb : l ≤ 1048576) : Ct Try.prog 67 [.slice A l c] w fun v w1 => v = .bool (decide (l ≤ 40 ∧ segsOk l xs)) ∧ Ext w w1 := by
 refine ct_run (n := 6) Try.func67 rfl Try.ntmps67 rfl ?_
 have E0 : Below w.heap.size w w := Below.refl _ _
 refine rk_seq <| rk_reg <| lw_v (.bool false) (dv_assign C) <| qN <| qm (.slice A l c) rfl rfl <| lw_e (oe_callf (vs := [.slice A l c]) co112 (ar1 (Z rfl)) (iSegsFault_ok (l := l) (c := c) (xs := xs) hx (by first | omega | simp <;> omega) (by first | omega | simp <;> omega)) ?_)
 rintro _ w1 ⟨rfl, e2⟩
 have E3 := qe E0 e2
 refine lw_v _ (dv_eql (a := sgF l xs) (b := 0) (Z rfl) C) <| qs (qd ((sgF l xs) = 0)) rfl rfl <| lw_nil <| rk_ret Try.func67 (v := qd ((sgF l xs) = 0)) (res1 Try.results67 (rv_tmp rfl rfl)) ⟨_, rfl, ?_⟩
 exact ⟨(vb sgF_zero), E3⟩
set_option maxHeartbeats 1000000 in
theorem l7Ok_ok {w : World} {A : Option Addr} {l c : Nat} {xs : List Int} (hx : RdI w .i64 A xs) (hxl : xs.length = l * 4) (hxb : l ≤ 1048576) : Ct Try.prog 61 [.slice A l c] w fun v w1 => v = .bool (decide (l ≤ 40 ∧ segsOk l xs)) ∧ Ext w w1 := by
 refine ct_run (n := 6) Try.func61 rfl Try.ntmps61 rfl ?_
 have E0 : Below w.heap.size w w := Below.refl _ _
 refine rk_seq <| rk_reg <| lw_v (.bool false) (dv_assign C) <| qN <| qm (.slice A l c) rfl rfl <| lw_e (oe_callf (vs := [.slice A l c]) co108 (ar1 (Z rfl)) (sSegsFault_ok (l := l) (c := c) (xs := xs) hx (by first | omega | simp <;> omega) (by first | omega | simp <;> omega)) ?_)
 rintro _ w1 ⟨rfl, e2⟩
 have E3 := qe E0 e2
 refine lw_v _ (dv_eql (a := sgF l xs) (b := 0) (Z rfl) C) <| qs (qd ((sgF l xs) = 0)) rfl rfl <| lw_nil <| rk_ret Try.func61 (v := qd ((sgF l xs) = 0)) (res1 Try.results61 (rv_tmp rfl rfl)) ⟨_, rfl, ?_⟩
 exact ⟨(vb sgF_zero), E3⟩
set_option maxHeartbeats 1000000 in
theorem sign_ok {w : World} {n : Int}  : Ct Try.prog 79 [.int .i64 n] w fun v w1 => v = .int .i64 (sgnI n) ∧ Ext w w1 := by
 refine ct_run (n := 9) Try.func79 rfl Try.ntmps79 rfl ?_
 have E0 : Below w.heap.size w w := Below.refl _ _
 refine rk_seq <| rk_reg <| lw_v (qi 0) (dv_assign C) <| lw_nil <| rk_seq <| rk_block <| rk_seq <| rk_reg <| qm (qi n) rfl rfl <| lw_v _ (dv_lss (a := n) (b := 0) (Z rfl) C) <| qs (qd (n < 0)) rfl rfl <| lw_nil ?_
 by_cases hb1 : n < 0
 · refine rk_ct (T rfl (qT hb1)) <| rk_seq <| rk_reg <| lw_v (qi (-1)) (dv_assign C) <| lw_nil <| rk_ret Try.func79 (v := qi (-1)) (res1 Try.results79 (rv_tmp rfl rfl)) ⟨_, rfl, ?_⟩
   exact ⟨(vi (by unfold sgnI; simp [*]; try omega)), E0⟩
 refine rk_cf (T rfl (qF hb1)) <| rk_seq <| rk_reg <| qm (qi n) rfl rfl <| lw_v _ (dv_gtr (a := n) (b := 0) (Z rfl) C) <| qs (qd (0 < n)) rfl rfl <| lw_nil ?_
 by_cases hb2 : 0 < n
 · refine rk_ct (T rfl (qT hb2)) <| rk_seq <| rk_reg <| lw_v (qi 1) (dv_assign C) <| lw_nil <| rk_ret Try.func79 (v := qi 1) (res1 Try.results79 (rv_tmp rfl rfl)) ⟨_, rfl, ?_⟩
   exact ⟨(vi (by unfold sgnI; simp [*]; try omega)), E0⟩
 refine rk_cf (T rfl (qF hb2)) <| rk_skip <| rk_inBlock <| rk_seq <| rk_reg <| lw_v (qi 0) (dv_assign C) <| lw_nil <| rk_ret Try.func79 (v := qi 0) (res1 Try.results79 (rv_tmp rfl rfl)) ⟨_, rfl, ?_⟩
 exact ⟨(vi (by unfold sgnI; simp [*]; try omega)), E0⟩
set_option maxHeartbeats 1000000 in
theorem cmpOr_ok {w : World} {bl : Nat} {x y z : Int} (hb : w.heap[bl]? = some (.cells #[.int .i64 x, .int .i64 y, .int .i64 z] 3)) : Ct Try.prog 77 [.slice (some ⟨bl, 0, none⟩) 3 3] w fun v w1 => v = .int .i64 (orV x y z) ∧ Ext w w1 := by
 refine ct_run (n := 18) Try.func77 rfl Try.ntmps77 rfl ?_
 have E0 : Below w.heap.size w w := Below.refl _ _
 refine rk_seq <| rk_reg <| lw_v (qi 0) (dv_assign C) <| qN <| lw_v (qi 0) (dv_assign C) <| lw_nil <| rk_seq <| rk_seq <| rk_reg <| qm (.slice (some ⟨bl, 0, none⟩) 3 3) rfl rfl <| lw_v (qi 3) (dv_len (ad := some ⟨bl, 0, none⟩) (l := 3) (c := 3) us155 (Z rfl)) <| lw_v (qi 0) (dv_move C) <| lw_nil <| rk_block <| rk_unroll <| rk_seq <| rk_reg <| lw_v _ (dv_lss (a := 0) (b := 3) (Z rfl) (Z rfl)) <| lw_nil <| rk_seq <| rk_ct (T rfl (rfl)) <| rk_skip <| rk_seq <| rk_block <| rk_seq <| rk_reg <| lw_v (.pointer (some ⟨bl, 0, none⟩)) (dv_indexAddr (a := ⟨bl, 0, none⟩) (a' := ⟨bl, 0, none⟩) (l := 3) (c := 3) (j := 0) us155 sz3 (Z rfl) (Z rfl) (by decide) (by decide) rfl) <| lw_v (qi x) (dv_load1 (b := bl) (o := 0) agt3 (Z rfl) hb rfl) <| qs (qi x) rfl rfl <| qN <| qm (qi x) rfl rfl <| qm (qi 0) rfl rfl <| lw_v _ (dv_neq (a := x) (b := 0) (Z rfl) (Z rfl)) <| lw_nil ?_
 by_cases hb1 : x ≠ 0
 · refine rk_ct (T rfl (qT hb1)) <| rk_seq <| rk_reg <| qm (qi x) rfl rfl <| qs (qi x) rfl rfl <| lw_nil <| rk_ret Try.func77 (v := qi x) (res1 Try.results77 (rv_tmp rfl rfl)) ⟨_, rfl, ?_⟩
   exact ⟨vi (by unfold orV; first | rw [if_pos (by assumption)] | rw [if_neg (by omega), if_pos (by assumption)] | (rw [if_neg (by omega), if_neg (by omega)]; done) | (rw [if_neg (by omega), if_neg (by omega)]; omega)), E0⟩
 refine rk_cf (T rfl (qF hb1)) <| rk_skip <| rk_inBlock <| rk_reg <| lw_v _ (dv_add (a := 0) (b := 1) (z := 1) (Z rfl) C (by decide)) <| qm (qi 1) rfl rfl <| lw_nil <| rk_inLoop <| rk_seq <| rk_reg <| lw_v _ (dv_lss (a := 1) (b := 3) (Z rfl) (Z rfl)) <| lw_nil <| rk_seq <| rk_ct (T rfl (rfl)) <| rk_skip <| rk_seq <| rk_block <| rk_seq <| rk_reg <| lw_v (.pointer (some ⟨bl, 1, none⟩)) (dv_indexAddr (a := ⟨bl, 0, none⟩) (a' := ⟨bl, 1, none⟩) (l := 3) (c := 3) (j := 1) us155 sz3 (Z rfl) (Z rfl) (by decide) (by decide) rfl) <| lw_v (qi y) (dv_load1 (b := bl) (o := 1) agt3 (Z rfl) hb rfl) <| qs (qi y) rfl rfl <| qN <| qm (qi y) rfl rfl <| qm (qi 0) rfl rfl <| lw_v _ (dv_neq (a := y) (b := 0) (Z rfl) (Z rfl)) <| lw_nil ?_
 by_cases hb2 : y ≠ 0
 · refine rk_ct (T rfl (qT hb2)) <| rk_seq <| rk_reg <| qm (qi y) rfl rfl <| qs (qi y) rfl rfl <| lw_nil <| rk_ret Try.func77 (v := qi y) (res1 Try.results77 (rv_tmp rfl rfl)) ⟨_, rfl, ?_⟩
   exact ⟨vi (by unfold orV; first | rw [if_pos (by assumption)] | rw [if_neg (by omega), if_pos (by assumption)] | (rw [if_neg (by omega), if_neg (by omega)]; done) | (rw [if_neg (by omega), if_neg (by omega)]; omega)), E0⟩
 refine rk_cf (T rfl (qF hb2)) <| rk_skip <| rk_inBlock <| rk_reg <| lw_v _ (dv_add (a := 1) (b := 1) (z := 2) (Z rfl) C (by decide)) <| qm (qi 2) rfl rfl <| lw_nil <| rk_inLoop <| rk_seq <| rk_reg <| lw_v _ (dv_lss (a := 2) (b := 3) (Z rfl) (Z rfl)) <| lw_nil <| rk_seq <| rk_ct (T rfl (rfl)) <| rk_skip <| rk_seq <| rk_block <| rk_seq <| rk_reg <| lw_v (.pointer (some ⟨bl, 2, none⟩)) (dv_indexAddr (a := ⟨bl, 0, none⟩) (a' := ⟨bl, 2, none⟩) (l := 3) (c := 3) (j := 2) us155 sz3 (Z rfl) (Z rfl) (by decide) (by decide) rfl) <| lw_v (qi z) (dv_load1 (b := bl) (o := 2) agt3 (Z rfl) hb rfl) <| qs (qi z) rfl rfl <| qN <| qm (qi z) rfl rfl <| qm (qi 0) rfl rfl <| lw_v _ (dv_neq (a := z) (b := 0) (Z rfl) (Z rfl)) <| lw_nil ?_
 by_cases hb3 : z ≠ 0
 · refine rk_ct (T rfl (qT hb3)) <| rk_seq <| rk_reg <| qm (qi z) rfl rfl <| qs (qi z) rfl rfl <| lw_nil <| rk_ret Try.func77 (v := qi z) (res1 Try.results77 (rv_tmp rfl rfl)) ⟨_, rfl, ?_⟩
   exact ⟨vi (by unfold orV; first | rw [if_pos (by assumption)] | rw [if_neg (by omega), if_pos (by assumption)] | (rw [if_neg (by omega), if_neg (by omega)]; done) | (rw [if_neg (by omega), if_neg (by omega)]; omega)), E0⟩
 refine rk_cf (T rfl (qF hb3)) <| rk_skip <| rk_inBlock <| rk_reg <| lw_v _ (dv_add (a := 2) (b := 1) (z := 3) (Z rfl) C (by decide)) <| qm (qi 3) rfl rfl <| lw_nil <| rk_inLoop <| rk_seq <| rk_reg <| lw_v _ (dv_lss (a := 3) (b := 3) (Z rfl) (Z rfl)) <| lw_nil <| rk_seq <| rk_cf (T rfl (rfl)) <| rk_exit rfl <| rk_seq <| rk_reg <| qm (qi 0) rfl rfl <| qs (qi 0) rfl rfl <| lw_nil <| rk_ret Try.func77 (v := qi 0) (res1 Try.results77 (rv_tmp rfl rfl)) ⟨_, rfl, ?_⟩
 exact ⟨vi (by unfold orV; first | rw [if_pos (by assumption)] | rw [if_neg (by omega), if_pos (by assumption)] | (rw [if_neg (by omega), if_neg (by omega)]; done) | (rw [if_neg (by omega), if_neg (by omega)]; omega)), E0⟩
set_option maxHeartbeats 4000000 in
theorem height_ok {w : World} {ax ay bx b_y : Int} {qb : Nat} {na : Bool} {Aa : Option Addr} {la ca : Nat} {x : Int} (ha : Num 64 36 .u64 w na Aa la ca x 256) {nb : Bool} {Ab : Option Addr} {lb cb : Nat} {y : Int} (hb : Num 64 36 .u64 w nb Ab lb cb y 256) {nm : Bool} {Am : Option Addr} {lm cm : Nat} {u : Int} (hm : Num 64 36 .u64 w nm Am lm cm u 256) (hq : w.heap[qb]? = some (.cells #[.bool na, .slice Aa la ca, .bool nb, .slice Ab lb cb, .bool nm, .slice Am lm cm] 109)) (hg : (-1000000 ≤ ax ∧ ax ≤ 1000000) ∧ (-1000000 ≤ ay ∧ ay ≤ 1000000) ∧ (-1000000 ≤ bx ∧ bx ≤ 1000000) ∧ (-1000000 ≤ b_y ∧ b_y ≤ 1000000)) : Ct Try.prog 72 [.agg #[.int .i64 ax, .int .i64 ay, .int .i64 bx, .int .i64 b_y], .pointer (some ⟨qb, 0, none⟩)] w fun v w1 => ∃ n0 A0 l0 c0 n1 A1 l1 c1, v = .agg #[.bool n0, .slice A0 l0 c0, .bool n1, .slice A1 l1 c1] ∧ Ext w w1 ∧ Num 64 36 .u64 w1 n0 A0 l0 c0 (hN ax ay bx b_y x u) 1000 ∧ Num 64 36 .u64 w1 n1 A1 l1 c1 (bx - ax) 64 := by
 refine ct_run (n := 46) Try.func72 rfl Try.ntmps72 rfl ?_
 have E0 : Below w.heap.size w w := Below.refl _ _
 have lha := ql ha
 have lhb := ql hb
 have lhm := ql hm
 refine rk_seq <| rk_reg <| lw_e (oe_box (v := .agg #[qi ax, qi ay, qi bx, qi b_y]) (cs := #[qi ax, qi ay, qi bx, qi b_y]) (Z rfl) rfl ?_)
 intro b1 w2 n3
 have N4 : w.heap.size ≤ b1 := n3.eq ▸ E0.size
 have : qb < b1 := n3.eq ▸ lt_of_blk hq
 have E5 := qe E0 n3.ext
 refine lw_e (oe_alloc ze115 ?_)
 intro b6 w7 n8
 have N9 : w.heap.size ≤ b6 := n8.eq ▸ E5.size
 have : b1 < b6 := n8.eq ▸ lt_of_blk n3.blk
 have E10 := qe E5 n8.ext
 refine qN <| lw_v (.pointer (some ⟨b1, 2, none⟩)) (dv_fieldAddr (a := ⟨b1, 0, none⟩) (a' := ⟨b1, 2, none⟩) fo27_1 (Z rfl) rfl) <| lw_v (.pointer (some ⟨b1, 2, none⟩)) (dv_fieldAddr (a := ⟨b1, 2, none⟩) (a' := ⟨b1, 2, none⟩) fo25_0 (Z rfl) rfl) ?_
 have H11 := (n8.ext.blk n3.blk)
 refine lw_v (qi bx) (dv_load1 (b := b1) (o := 2) agt2 (Z rfl) H11 rfl) <| lw_v (.pointer (some ⟨b1, 0, none⟩)) (dv_fieldAddr (a := ⟨b1, 0, none⟩) (a' := ⟨b1, 0, none⟩) fo27_0 (Z rfl) rfl) <| lw_v (.pointer (some ⟨b1, 0, none⟩)) (dv_fieldAddr (a := ⟨b1, 0, none⟩) (a' := ⟨b1, 0, none⟩) fo25_0 (Z rfl) rfl) <| lw_v (qi ax) (dv_load1 (b := b1) (o := 0) agt2 (Z rfl) H11 rfl) <| lw_v _ (dv_sub (a := bx) (b := ax) (z := bx - ax) (Z rfl) (Z rfl) (wr_i64 (by omega) (by omega))) <| lw_e (oe_callf (vs := [qi (bx - ax)]) co70 (ar1 (Z rfl)) (whole_ok  (by omega)) ?_)
 rintro _ w17 ⟨nr12, A13, n14, c15, rfl, e18, h16⟩
 have E19 := qe E10 e18
 have lh16 := ql h16
 refine lw_e (oe_alloc ze107 ?_)
 intro b20 w21 n22
 have N23 : w.heap.size ≤ b20 := n22.eq ▸ E19.size
 have H24 := (e18.blk n8.blk)
 have : b6 < b20 := n22.eq ▸ lt_of_blk H24
 have E25 := qe E19 n22.ext
 refine lw_e (oe_store (v := .agg #[.bool nr12, .slice A13 n14 c15]) (vs := [.bool nr12, .slice A13 n14 c15]) (l := [.bool nr12, .slice A13 n14 c15]) (Z rfl) (Z rfl) sz107 rfl rfl rfl n22.blk rfl ?_)
 intro w26 s27 H28
 have E29 := below_st E25 N23 s27
 refine lw_nil <| rk_seq ?_
 have H30 := (s27.blk (n22.ext.blk (e18.blk (n8.ext.blk (n3.ext.blk hq)))) (by omega))
 have : qb < w26.heap.size := lt_of_blk H30
 have H31 := (s27.blk (n22.ext.blk (e18.blk H11)) (by omega))
 have : b1 < w26.heap.size := lt_of_blk H31
 have H32 := (s27.blk (n22.ext.blk H24) (by omega))
 have : b6 < w26.heap.size := lt_of_blk H32
 have : b20 < w26.heap.size := lt_of_blk H28
 have : w.heap.size ≤ w26.heap.size := E29.size
 refine rk_par2 [fun vq wq_ => vq = .pointer (some ⟨qb, 0, none⟩), fun vq wq_ => vq = .agg #[.bool na, .slice Aa la ca], fun vq wq_ => vq = .pointer (some ⟨b1, 0, none⟩), fun vq wq_ => vq = .pointer (some ⟨b1, 0, none⟩), fun vq wq_ => vq = qi ax, fun vq wq_ => ∃ (nr75 : Bool) (A76 : Option Addr) (n77 : Nat) (c78 : Nat), vq = .agg #[.bool nr75, .slice A76 n77 c78] ∧ Num 64 36 .u64 wq_ nr75 A76 n77 c78 ax 64, fun vq wq_ => vq = .pointer (some ⟨qb, 4, none⟩), fun vq wq_ => vq = .agg #[.bool nm, .slice Am lm cm], fun vq wq_ => ∃ (nr111 : Bool) (A112 : Option Addr) (n113 : Nat) (c114 : Nat), vq = .agg #[.bool nr111, .slice A112 n113 c114] ∧ Num 64 36 .u64 wq_ nr111 A112 n113 c114 (ax * u) 320, fun vq wq_ => ∃ (nr133 : Bool) (A134 : Option Addr) (n135 : Nat) (c136 : Nat), vq = .agg #[.bool nr133, .slice A134 n135 c136] ∧ Num 64 36 .u64 wq_ nr133 A134 n135 c136 (x - (ax * u)) 321, fun vq wq_ => vq = .pointer (some ⟨b1, 2, none⟩), fun vq wq_ => vq = .pointer (some ⟨b1, 3, none⟩), fun vq wq_ => vq = qi b_y, fun vq wq_ => vq = .pointer (some ⟨b1, 0, none⟩), fun vq wq_ => vq = .pointer (some ⟨b1, 1, none⟩), fun vq wq_ => vq = qi ay, fun vq wq_ => vq = qi (b_y - ay), fun vq wq_ => ∃ (nr198 : Bool) (A199 : Option Addr) (n200 : Nat) (c201 : Nat), vq = .agg #[.bool nr198, .slice A199 n200 c201] ∧ Num 64 36 .u64 wq_ nr198 A199 n200 c201 (b_y - ay) 64, fun vq wq_ => ∃ (nr224 : Bool) (A225 : Option Addr) (n226 : Nat) (c227 : Nat), vq = .agg #[.bool nr224, .slice A225 n226 c227] ∧ Num 64 36 .u64 wq_ nr224 A225 n226 c227 ((x - (ax * u)) * (b_y - ay)) 385, fun _ _ => True, fun _ _ => True] [⟨19, 20, 18, 107, #[.bool false, .slice none 0 0]⟩] [107] mo (by kernel_rfl) (by kernel_rfl) ?_ ?_ ?_ ?_ ?_
 · intro e he e2 he2 h; simp only [List.mem_cons, List.not_mem_nil, or_false] at he he2; rcases he with rfl <;> rcases he2 with rfl <;> first | rfl | exact absurd h (by decide)
 · exact ⟨⟨fun v w w2 e h => h, fun v w w2 b cs T fz s hb hT h => h⟩, ⟨fun v w w2 e h => h, fun v w w2 b cs T fz s hb hT h => h⟩, ⟨fun v w w2 e h => h, fun v w w2 b cs T fz s hb hT h => h⟩, ⟨fun v w w2 e h => h, fun v w w2 b cs T fz s hb hT h => h⟩, ⟨fun v w w2 e h => h, fun v w w2 b cs T fz s hb hT h => h⟩, ⟨fun v w w2 e ⟨nr75, A76, n77, c78, hv, h0_⟩ => ⟨nr75, A76, n77, c78, hv, h0_.ext e⟩, fun v w w2 b cs T fz s hb hT ⟨nr75, A76, n77, c78, hv, h0_⟩ => ⟨nr75, A76, n77, c78, hv, h0_.st s hb (ts_ne hT (by decide))⟩⟩, ⟨fun v w w2 e h => h, fun v w w2 b cs T fz s hb hT h => h⟩, ⟨fun v w w2 e h => h, fun v w w2 b cs T fz s hb hT h => h⟩, ⟨fun v w w2 e ⟨nr111, A112, n113, c114, hv, h0_⟩ => ⟨nr111, A112, n113, c114, hv, h0_.ext e⟩, fun v w w2 b cs T fz s hb hT ⟨nr111, A112, n113, c114, hv, h0_⟩ => ⟨nr111, A112, n113, c114, hv, h0_.st s hb (ts_ne hT (by decide))⟩⟩, ⟨fun v w w2 e ⟨nr133, A134, n135, c136, hv, h0_⟩ => ⟨nr133, A134, n135, c136, hv, h0_.ext e⟩, fun v w w2 b cs T fz s hb hT ⟨nr133, A134, n135, c136, hv, h0_⟩ => ⟨nr133, A134, n135, c136, hv, h0_.st s hb (ts_ne hT (by decide))⟩⟩, ⟨fun v w w2 e h => h, fun v w w2 b cs T fz s hb hT h => h⟩, ⟨fun v w w2 e h => h, fun v w w2 b cs T fz s hb hT h => h⟩, ⟨fun v w w2 e h => h, fun v w w2 b cs T fz s hb hT h => h⟩, ⟨fun v w w2 e h => h, fun v w w2 b cs T fz s hb hT h => h⟩, ⟨fun v w w2 e h => h, fun v w w2 b cs T fz s hb hT h => h⟩, ⟨fun v w w2 e h => h, fun v w w2 b cs T fz s hb hT h => h⟩, ⟨fun v w w2 e h => h, fun v w w2 b cs T fz s hb hT h => h⟩, ⟨fun v w w2 e ⟨nr198, A199, n200, c201, hv, h0_⟩ => ⟨nr198, A199, n200, c201, hv, h0_.ext e⟩, fun v w w2 b cs T fz s hb hT ⟨nr198, A199, n200, c201, hv, h0_⟩ => ⟨nr198, A199, n200, c201, hv, h0_.st s hb (ts_ne hT (by decide))⟩⟩, ⟨fun v w w2 e ⟨nr224, A225, n226, c227, hv, h0_⟩ => ⟨nr224, A225, n226, c227, hv, h0_.ext e⟩, fun v w w2 b cs T fz s hb hT ⟨nr224, A225, n226, c227, hv, h0_⟩ => ⟨nr224, A225, n226, c227, hv, h0_.st s hb (ts_ne hT (by decide))⟩⟩, ⟨fun v w w2 e h => h, fun v w w2 b cs T fz s hb hT h => h⟩, ⟨fun v w w2 e h => h, fun v w w2 b cs T fz s hb hT h => h⟩, trivial⟩
 · refine ⟨?_, ?_, ?_, ?_, ?_, ?_, ?_, ?_, ?_, ?_, ?_, ?_, ?_, ?_, ?_, ?_, ?_, ?_, ?_, ?_, ?_, trivial⟩
   · refine .inr ⟨by kernel_rfl, ?_⟩
     intro fr34 w33 e35 hF36 hD37
     have E38 := qe E29 e35
     exact DV.oe (dv_fieldAddr (a := ⟨qb, 0, none⟩) (a' := ⟨qb, 0, none⟩) fo109_0 (T rfl (hF36 1 (by kernel_rfl))) rfl) ⟨Below.refl _ _, rfl⟩
   · refine .inr ⟨by kernel_rfl, ?_⟩
     intro fr40 w39 e41 hF42 hD43
     have E44 := qe E29 e41
     have hv45 : fr40 14 = .pointer (some ⟨qb, 0, none⟩) := hD43 0 _ (by kernel_rfl) rfl (by kernel_rfl)
     have H46 := (e41.blk H30)
     exact DV.oe (dv_loads (l := [.bool na, .slice Aa la ca]) agt107 sz107 (T rfl hv45) H46 rfl) ⟨Below.refl _ _, rfl⟩
   · refine .inr ⟨by kernel_rfl, ?_⟩
     intro fr48 w47 e49 hF50 hD51
     have E52 := qe E29 e49
     exact DV.oe (dv_fieldAddr (a := ⟨b1, 0, none⟩) (a' := ⟨b1, 0, none⟩) fo27_0 (T rfl (hF50 2 (by kernel_rfl))) rfl) ⟨Below.refl _ _, rfl⟩
   · refine .inr ⟨by kernel_rfl, ?_⟩
     intro fr54 w53 e55 hF56 hD57
     have E58 := qe E29 e55
     have hv59 : fr54 16 = .pointer (some ⟨b1, 0, none⟩) := hD57 2 _ (by kernel_rfl) rfl (by kernel_rfl)
     exact DV.oe (dv_fieldAddr (a := ⟨b1, 0, none⟩) (a' := ⟨b1, 0, none⟩) fo25_0 (T rfl hv59) rfl) ⟨Below.refl _ _, rfl⟩
   · refine .inr ⟨by kernel_rfl, ?_⟩
     intro fr61 w60 e62 hF63 hD64
     have E65 := qe E29 e62
     have hv66 : fr61 17 = .pointer (some ⟨b1, 0, none⟩) := hD64 3 _ (by kernel_rfl) rfl (by kernel_rfl)
     have H67 := (e62.blk H31)
     exact DV.oe (dv_load1 (b := b1) (o := 0) agt2 (T rfl hv66) H67 rfl) ⟨Below.refl _ _, rfl⟩
   · refine .inr ⟨by kernel_rfl, ?_⟩
     intro fr69 w68 e70 hF71 hD72
     have E73 := qe E29 e70
     have hv74 : fr69 18 = qi ax := hD72 4 _ (by kernel_rfl) rfl (by kernel_rfl)
     refine oe_callf (vs := [qi ax]) co70 (ar1 (T rfl hv74)) (whole_ok  (by omega)) ?_
     rintro _ w80 ⟨nr75, A76, n77, c78, rfl, e81, h79⟩
     have E82 := qe E73 e81
     have lh79 := ql h79
     exact ⟨e81, nr75, A76, n77, c78, rfl, h79⟩
   · refine .inr ⟨by kernel_rfl, ?_⟩
     intro fr84 w83 e85 hF86 hD87
     have E88 := qe E29 e85
     exact DV.oe (dv_fieldAddr (a := ⟨qb, 0, none⟩) (a' := ⟨qb, 4, none⟩) fo109_2 (T rfl (hF86 1 (by kernel_rfl))) rfl) ⟨Below.refl _ _, rfl⟩
   · refine .inr ⟨by kernel_rfl, ?_⟩
     intro fr90 w89 e91 hF92 hD93
     have E94 := qe E29 e91
     have hv95 : fr90 20 = .pointer (some ⟨qb, 4, none⟩) := hD93 6 _ (by kernel_rfl) rfl (by kernel_rfl)
     have H96 := (e91.blk H30)
     exact DV.oe (dv_loads (l := [.bool nm, .slice Am lm cm]) agt107 sz107 (T rfl hv95) H96 rfl) ⟨Below.refl _ _, rfl⟩
   · refine .inr ⟨by kernel_rfl, ?_⟩
     intro fr98 w97 e99 hF100 hD101
     have E102 := qe E29 e99
     obtain ⟨nr103, A104, n105, c106, hv107, hp108⟩ : ∃ (nr75 : Bool) (A76 : Option Addr) (n77 : Nat) (c78 : Nat), fr98 19 = .agg #[.bool nr75, .slice A76 n77 c78] ∧ Num 64 36 .u64 w97 nr75 A76 n77 c78 ax 64 := hD101 5 _ (by kernel_rfl) rfl (by kernel_rfl)
     have lhp108 := ql hp108
     have hv109 : fr98 21 = .agg #[.bool nm, .slice Am lm cm] := hD101 7 _ (by kernel_rfl) rfl (by kernel_rfl)
     have h110 := hm.ext E102
     refine oe_callf (vs := [.agg #[.bool nr103, .slice A104 n105 c106], .agg #[.bool nm, .slice Am lm cm]]) co71 (ar2 (T rfl hv107) (T rfl hv109)) (nby_ok hp108 h110 (by first | decide | omega) (by first | decide | omega)) ?_
     rintro _ w116 ⟨nr111, A112, n113, c114, rfl, e117, h115⟩
     have E118 := qe E102 e117
     have lh115 := ql h115
     exact ⟨e117, nr111, A112, n113, c114, rfl, h115⟩
   · refine .inr ⟨by kernel_rfl, ?_⟩
     intro fr120 w119 e121 hF122 hD123
     have E124 := qe E29 e121
     have hv125 : fr120 15 = .agg #[.bool na, .slice Aa la ca] := hD123 1 _ (by kernel_rfl) rfl (by kernel_rfl)
     obtain ⟨nr126, A127, n128, c129, hv130, hp131⟩ : ∃ (nr111 : Bool) (A112 : Option Addr) (n113 : Nat) (c114 : Nat), fr120 22 = .agg #[.bool nr111, .slice A112 n113 c114] ∧ Num 64 36 .u64 w119 nr111 A112 n113 c114 (ax * u) 320 := hD123 8 _ (by kernel_rfl) rfl (by kernel_rfl)
     have lhp131 := ql hp131
     have h132 := ha.ext E124
     refine oe_callf (vs := [.agg #[.bool na, .slice Aa la ca], .agg #[.bool nr126, .slice A127 n128 c129]]) co73 (ar2 (T rfl hv125) (T rfl hv130)) (less_ok h132 hp131 (by first | decide | omega) (by first | decide | omega)) ?_
     rintro _ w138 ⟨nr133, A134, n135, c136, rfl, e139, h137⟩
     have E140 := qe E124 e139
     have lh137 := ql h137
     exact ⟨e139, nr133, A134, n135, c136, rfl, h137⟩
   · refine .inr ⟨by kernel_rfl, ?_⟩
     intro fr142 w141 e143 hF144 hD145
     have E146 := qe E29 e143
     exact DV.oe (dv_fieldAddr (a := ⟨b1, 0, none⟩) (a' := ⟨b1, 2, none⟩) fo27_1 (T rfl (hF144 2 (by kernel_rfl))) rfl) ⟨Below.refl _ _, rfl⟩
   · refine .inr ⟨by kernel_rfl, ?_⟩
     intro fr148 w147 e149 hF150 hD151
     have E152 := qe E29 e149
     have hv153 : fr148 24 = .pointer (some ⟨b1, 2, none⟩) := hD151 10 _ (by kernel_rfl) rfl (by kernel_rfl)
     exact DV.oe (dv_fieldAddr (a := ⟨b1, 2, none⟩) (a' := ⟨b1, 3, none⟩) fo25_1 (T rfl hv153) rfl) ⟨Below.refl _ _, rfl⟩
   · refine .inr ⟨by kernel_rfl, ?_⟩
     intro fr155 w154 e156 hF157 hD158
     have E159 := qe E29 e156
     have hv160 : fr155 25 = .pointer (some ⟨b1, 3, none⟩) := hD158 11 _ (by kernel_rfl) rfl (by kernel_rfl)
     have H161 := (e156.blk H31)
     exact DV.oe (dv_load1 (b := b1) (o := 3) agt2 (T rfl hv160) H161 rfl) ⟨Below.refl _ _, rfl⟩
   · refine .inr ⟨by kernel_rfl, ?_⟩
     intro fr163 w162 e164 hF165 hD166
     have E167 := qe E29 e164
     exact DV.oe (dv_fieldAddr (a := ⟨b1, 0, none⟩) (a' := ⟨b1, 0, none⟩) fo27_0 (T rfl (hF165 2 (by kernel_rfl))) rfl) ⟨Below.refl _ _, rfl⟩
   · refine .inr ⟨by kernel_rfl, ?_⟩
     intro fr169 w168 e170 hF171 hD172
     have E173 := qe E29 e170
     have hv174 : fr169 27 = .pointer (some ⟨b1, 0, none⟩) := hD172 13 _ (by kernel_rfl) rfl (by kernel_rfl)
     exact DV.oe (dv_fieldAddr (a := ⟨b1, 0, none⟩) (a' := ⟨b1, 1, none⟩) fo25_1 (T rfl hv174) rfl) ⟨Below.refl _ _, rfl⟩
   · refine .inr ⟨by kernel_rfl, ?_⟩
     intro fr176 w175 e177 hF178 hD179
     have E180 := qe E29 e177
     have hv181 : fr176 28 = .pointer (some ⟨b1, 1, none⟩) := hD179 14 _ (by kernel_rfl) rfl (by kernel_rfl)
     have H182 := (e177.blk H31)
     exact DV.oe (dv_load1 (b := b1) (o := 1) agt2 (T rfl hv181) H182 rfl) ⟨Below.refl _ _, rfl⟩
   · refine .inr ⟨by kernel_rfl, ?_⟩
     intro fr184 w183 e185 hF186 hD187
     have E188 := qe E29 e185
     have hv189 : fr184 26 = qi b_y := hD187 12 _ (by kernel_rfl) rfl (by kernel_rfl)
     have hv190 : fr184 29 = qi ay := hD187 15 _ (by kernel_rfl) rfl (by kernel_rfl)
     exact DV.oe (dv_sub (a := b_y) (b := ay) (z := b_y - ay) (T rfl hv189) (T rfl hv190) (wr_i64 (by omega) (by omega))) ⟨Below.refl _ _, rfl⟩
   · refine .inr ⟨by kernel_rfl, ?_⟩
     intro fr192 w191 e193 hF194 hD195
     have E196 := qe E29 e193
     have hv197 : fr192 30 = qi (b_y - ay) := hD195 16 _ (by kernel_rfl) rfl (by kernel_rfl)
     refine oe_callf (vs := [qi (b_y - ay)]) co70 (ar1 (T rfl hv197)) (whole_ok  (by omega)) ?_
     rintro _ w203 ⟨nr198, A199, n200, c201, rfl, e204, h202⟩
     have E205 := qe E196 e204
     have lh202 := ql h202
     exact ⟨e204, nr198, A199, n200, c201, rfl, h202⟩
   · refine .inr ⟨by kernel_rfl, ?_⟩
     intro fr207 w206 e208 hF209 hD210
     have E211 := qe E29 e208
     obtain ⟨nr212, A213, n214, c215, hv216, hp217⟩ : ∃ (nr133 : Bool) (A134 : Option Addr) (n135 : Nat) (c136 : Nat), fr207 23 = .agg #[.bool nr133, .slice A134 n135 c136] ∧ Num 64 36 .u64 w206 nr133 A134 n135 c136 (x - (ax * u)) 321 := hD210 9 _ (by kernel_rfl) rfl (by kernel_rfl)
     have lhp217 := ql hp217
     obtain ⟨nr218, A219, n220, c221, hv222, hp223⟩ : ∃ (nr198 : Bool) (A199 : Option Addr) (n200 : Nat) (c201 : Nat), fr207 31 = .agg #[.bool nr198, .slice A199 n200 c201] ∧ Num 64 36 .u64 w206 nr198 A199 n200 c201 (b_y - ay) 64 := hD210 17 _ (by kernel_rfl) rfl (by kernel_rfl)
     have lhp223 := ql hp223
     refine oe_callf (vs := [.agg #[.bool nr212, .slice A213 n214 c215], .agg #[.bool nr218, .slice A219 n220 c221]]) co71 (ar2 (T rfl hv216) (T rfl hv222)) (nby_ok hp217 hp223 (by first | decide | omega) (by first | decide | omega)) ?_
     rintro _ w229 ⟨nr224, A225, n226, c227, rfl, e230, h228⟩
     have E231 := qe E211 e230
     have lh228 := ql h228
     exact ⟨e230, nr224, A225, n226, c227, rfl, h228⟩
   · exact .inl (.inr ⟨by kernel_rfl, fun _ _ => trivial⟩)
   exact .inl (.inl (by kernel_rfl))
 · refine ⟨⟨⟨_, rfl, fun _ _ => oe_alloc ze107 fun b w hn => ⟨b, rfl, hn⟩⟩, ⟨_, rfl, ?_⟩⟩, trivial⟩
   intro fr233 w232 b237 e234 hF235 hD236 hA238 hB239
   have E240 := qe E29 e234
   obtain ⟨nr241, A242, n243, c244, hv245, hp246⟩ : ∃ (nr224 : Bool) (A225 : Option Addr) (n226 : Nat) (c227 : Nat), fr233 32 = .agg #[.bool nr224, .slice A225 n226 c227] ∧ Num 64 36 .u64 w232 nr224 A225 n226 c227 ((x - (ax * u)) * (b_y - ay)) 385 := hD236 18 _ (by kernel_rfl) rfl (by kernel_rfl)
   have lhp246 := ql hp246
   refine oe_store (v := .agg #[.bool nr241, .slice A242 n243 c244]) (vs := [.bool nr241, .slice A242 n243 c244]) (l := [.bool nr241, .slice A242 n243 c244]) (T rfl hA238) (T rfl hv245) sz107 rfl rfl rfl hB239 rfl ?_
   intro w247 s248 H249
   exact ⟨s248, H249.trans (congrArg (fun v : Value => some (Obj.cells v.cells 107)) (show fr233 32 = _ from hv245).symm)⟩
 intro fr252 w251 e253 hF254 hP255 hM256 hN257
 have E258 := qe E29 e253
 obtain ⟨_, _, _, _, _, _, _, _, _, _, _, _, _, _, _, _, _, _, p259, _, _, _⟩ := hP255
 obtain ⟨nr260, A261, n262, c263, hv264, hp265⟩ : ∃ (nr224 : Bool) (A225 : Option Addr) (n226 : Nat) (c227 : Nat), fr252 32 = .agg #[.bool nr224, .slice A225 n226 c227] ∧ Num 64 36 .u64 w251 nr224 A225 n226 c227 ((x - (ax * u)) * (b_y - ay)) 385 := p259.resolve_left (nst (by kernel_rfl))
 have lhp265 := ql hp265
 obtain ⟨⟨b266, hA267, hB268, hC269⟩, _⟩ := hM256
 have H270 : w251.heap[b266]? = some (.cells #[.bool nr260, .slice A261 n262 c263] 107) := hC269.trans (congrArg (fun v : Value => some (Obj.cells v.cells 107)) hv264)
 have N271 : w.heap.size ≤ b266 := by omega
 refine rk_seq <| rk_any (fun w => w.heap[b1]? = some (.cells #[qi ax, qi ay, qi bx, qi b_y] 27) ∧ w.heap[b20]? = some (.cells #[.bool nr12, .slice A13 n14 c15] 107) ∧ w.heap[qb]? = some (.cells #[.bool na, .slice Aa la ca, .bool nb, .slice Ab lb cb, .bool nm, .slice Am lm cm] 109) ∧ w.heap[b266]? = some (.cells #[.bool nr260, .slice A261 n262 c263] 107)) [13] mo ?_
 intro w272 d273
 have E274 := qe E258 d273.ext
 have H275 := (d273.ext.blk (e253.blk H31))
 have H276 := (d273.ext.blk (e253.blk H28))
 have H277 := (d273.ext.blk (e253.blk H30))
 have H278 := (d273.ext.blk H270)
 refine aw_pure 0 (.pointer (some ⟨b1, 0, none⟩)) rfl (by kernel_rfl) .none ⟨H275, H276, H277, H278⟩ (fun _ => dv_fieldAddr (a := ⟨b1, 0, none⟩) (a' := ⟨b1, 0, none⟩) fo27_0 (T rfl (hF254 2 rfl)) rfl) <| aw_pure 1 (.pointer (some ⟨b1, 1, none⟩)) rfl (by kernel_rfl) .none ⟨H275, H276, H277, H278⟩ (fun _ => dv_fieldAddr (a := ⟨b1, 0, none⟩) (a' := ⟨b1, 1, none⟩) fo25_1 (Z rfl) rfl) <| aw_load 2 (qi ay) rfl (by kernel_rfl) .none ⟨H275, H276, H277, H278⟩ (fun _ s => dv_load1 (b := b1) (o := 1) agt2 (Z rfl) s.1 rfl) <| aw_load 4 (.agg #[.bool nr12, .slice A13 n14 c15]) rfl (by kernel_rfl) .none ⟨H275, H276, H277, H278⟩ (fun _ s => dv_loads (l := [.bool nr12, .slice A13 n14 c15]) agt107 sz107 (T rfl (hF254 4 rfl)) s.2.1 rfl) <| aw_pure 6 (.pointer (some ⟨qb, 4, none⟩)) rfl (by kernel_rfl) .none ⟨H275, H276, H277, H278⟩ (fun _ => dv_fieldAddr (a := ⟨qb, 0, none⟩) (a' := ⟨qb, 4, none⟩) fo109_2 (T rfl (hF254 1 rfl)) rfl) <| aw_load 7 (.agg #[.bool nm, .slice Am lm cm]) rfl (by kernel_rfl) .none ⟨H275, H276, H277, H278⟩ (fun _ s => dv_loads (l := [.bool nm, .slice Am lm cm]) agt107 sz107 (Z rfl) s.2.2.1 rfl) <| aw_load 9 (.agg #[.bool nr260, .slice A261 n262 c263]) rfl (by kernel_rfl) .none ⟨H275, H276, H277, H278⟩ (fun _ s => dv_loads (l := [.bool nr260, .slice A261 n262 c263]) agt107 sz107 (T rfl hA267) s.2.2.2 rfl) <| aw_load 11 (.agg #[.bool nr12, .slice A13 n14 c15]) rfl (by kernel_rfl) .none ⟨H275, H276, H277, H278⟩ (fun _ s => dv_loads (l := [.bool nr12, .slice A13 n14 c15]) agt107 sz107 (T rfl (hF254 4 rfl)) s.2.1 rfl) <| aw_one 3 rfl (by kernel_rfl) .none (oe_callf (vs := [qi ay]) co70 (ar1 (Z rfl)) (whole_ok  (by omega)) ?_)
 rintro _ w284 ⟨nr279, A280, n281, c282, rfl, e285, h283⟩
 have E286 := qe E274 e285
 have lh283 := ql h283
 have H287 := (e285.blk H275)
 have H288 := (e285.blk H276)
 have H289 := (e285.blk H277)
 have H290 := (e285.blk H278)
 refine ⟨.inr ⟨H287, H288, H289, H290⟩, ?_⟩
 have h291 := (((((h16.ext n22.ext).st s27 n22.blk (by decide)).ext e253).ext d273.ext).ext e285)
 refine aw_one 5 rfl (by kernel_rfl) .none (oe_callf (vs := [.agg #[.bool nr279, .slice A280 n281 c282], .agg #[.bool nr12, .slice A13 n14 c15]]) co71 (ar2 (Z rfl) (Z rfl)) (nby_ok h283 h291 (by first | decide | omega) (by first | decide | omega)) ?_)
 rintro _ w297 ⟨nr292, A293, n294, c295, rfl, e298, h296⟩
 have E299 := qe E286 e298
 have lh296 := ql h296
 have H300 := (e298.blk H287)
 have H301 := (e298.blk H288)
 have H302 := (e298.blk H289)
 have H303 := (e298.blk H290)
 refine ⟨.inr ⟨H300, H301, H302, H303⟩, ?_⟩
 have h304 := hm.ext E299
 refine aw_one 8 rfl (by kernel_rfl) .none (oe_callf (vs := [.agg #[.bool nr292, .slice A293 n294 c295], .agg #[.bool nm, .slice Am lm cm]]) co71 (ar2 (Z rfl) (Z rfl)) (nby_ok h296 h304 (by first | decide | omega) (by first | decide | omega)) ?_)
 rintro _ w310 ⟨nr305, A306, n307, c308, rfl, e311, h309⟩
 have E312 := qe E299 e311
 have lh309 := ql h309
 have H313 := (e311.blk H300)
 have H314 := (e311.blk H301)
 have H315 := (e311.blk H302)
 have H316 := (e311.blk H303)
 refine ⟨.inr ⟨H313, H314, H315, H316⟩, ?_⟩
 have h317 := ((((hp265.ext d273.ext).ext e285).ext e298).ext e311)
 refine aw_one 10 rfl (by kernel_rfl) .none (oe_callf (vs := [.agg #[.bool nr305, .slice A306 n307 c308], .agg #[.bool nr260, .slice A261 n262 c263]]) co74 (ar2 (Z rfl) (Z rfl)) (plus_ok h309 h317 (by first | decide | omega) (by first | decide | omega)) ?_)
 rintro _ w323 ⟨nr318, A319, n320, c321, rfl, e324, h322⟩
 have E325 := qe E312 e324
 have lh322 := ql h322
 have H326 := (e324.blk H313)
 have H327 := (e324.blk H314)
 have H328 := (e324.blk H315)
 have H329 := (e324.blk H316)
 refine ⟨.inr ⟨H326, H327, H328, H329⟩, ?_⟩
 refine aw_pure 12 (.agg #[.bool nr318, .slice A319 n320 c321, .bool nr12, .slice A13 n14 c15]) rfl (by kernel_rfl) .none ⟨H326, H327, H328, H329⟩ (fun _ => dv_build (pv := [(0, .agg #[.bool nr318, .slice A319 n320 c321]), (1, .agg #[.bool nr12, .slice A13 n14 c15])]) (l := [.bool nr318, .slice A319 n320 c321, .bool nr12, .slice A13 n14 c15]) zc115 pl115 ⟨rfl, (Z rfl), ⟨rfl, (Z rfl), trivial⟩⟩ rfl) ?_
 have H330 := (e324.blk (e311.blk (e298.blk (e285.blk (d273.ext.blk (e253.blk H32))))))
 refine aw_one 13 rfl (by kernel_rfl) .none (oe_store (v := .agg #[.bool nr318, .slice A319 n320 c321, .bool nr12, .slice A13 n14 c15]) (vs := [.bool nr318, .slice A319 n320 c321, .bool nr12, .slice A13 n14 c15]) (l := [.bool nr318, .slice A319 n320 c321, .bool nr12, .slice A13 n14 c15]) (T rfl (hF254 3 rfl)) (Z rfl) sz115 rfl rfl rfl H330 rfl ?_)
 intro w331 s332 H333
 have E334 := below_st E325 N9 s332
 refine ⟨.inl rfl, ?_⟩
 refine aw_done (by kernel_rfl) <| rk_ret Try.func72 (v := .agg #[.bool nr318, .slice A319 n320 c321, .bool nr12, .slice A13 n14 c15]) (res1 Try.results72 (rv_cells (l := [.bool nr318, .slice A319 n320 c321, .bool nr12, .slice A13 n14 c15]) agt115 sz115 rfl (hF254 3 rfl) H333 rfl)) ⟨_, rfl, ?_⟩
 have h335 := (h322.st s332 H330 (by decide))
 have h336 := ((((h291.ext e298).ext e311).ext e324).st s332 H330 (by decide))
 exact ⟨_, _, _, _, _, _, _, _, rfl, E334, h335.to rfl (by decide), h336.to rfl (by decide)⟩
set_option maxRecDepth 100000 in
set_option maxHeartbeats 8000000 in
theorem stCmp_ok {w : World} {i k : Nat} {sb hb_ qb : Nat} {Aq : Option Addr} {l c : Nat} {xs : List Int} (hx : RdI w .i64 Aq xs) (hxl : xs.length = l * 4) (hxb : l ≤ 1048576) {na : Bool} {Aa : Option Addr} {la ca : Nat} {x : Int} (ha : Num 64 36 .u64 w na Aa la ca x 256) {nb : Bool} {Ab : Option Addr} {lb cb : Nat} {y : Int} (hb : Num 64 36 .u64 w nb Ab lb cb y 256) {nm : Bool} {Am : Option Addr} {lm cm : Nat} {u : Int} (hm : Num 64 36 .u64 w nm Am lm cm u 256) (hs : w.heap[sb]? = some (.cells #[.slice Aq l c] 64)) (hh : w.heap[hb_]? = some (.cells #[.func (.func 72) #[] #[.pointer (some ⟨qb, 0, none⟩)]] 116)) (hq : w.heap[qb]? = some (.cells #[.bool na, .slice Aa la ca, .bool nb, .slice Ab lb cb, .bool nm, .slice Am lm cm] 109)) (hsg : segsOk l xs) (h40 : l ≤ 40) (hi : i < l) (hk : k < l) : Ct Try.prog 76 [.int .i64 ((i : Int)), .int .i64 ((k : Int)), .pointer (some ⟨sb, 0, none⟩), .pointer (some ⟨hb_, 0, none⟩)] w fun v w1 => v = .int .i64 (cfN xs x u i k) ∧ Ext w w1 := by
 refine ct_run (n := 63) Try.func76 rfl Try.ntmps76 rfl ?_
 have E0 : Below w.heap.size w w := Below.refl _ _
 have lha := ql ha
 have lhb := ql hb
 have lhm := ql hm
 have r1 := segOk_rg (hsg i hi); have r2 := segOk_rg (hsg k hk)
 obtain ⟨ga_, oa_, rfl⟩ := RdI.at hx (by omega)
 refine rk_seq <| rk_reg <| lw_v (qi 0) (dv_assign C) <| lw_nil <| rk_seq ?_
 have : qb < w.heap.size := lt_of_blk hq
 have : sb < w.heap.size := lt_of_blk hs
 have : hb_ < w.heap.size := lt_of_blk hh
 have : w.heap.size ≤ w.heap.size := E0.size
 refine rk_par2 [fun vq wq_ => vq = .slice (some ⟨ga_, oa_, none⟩) l c, fun vq wq_ => vq = qi (i : Int), fun vq wq_ => vq = .pointer (some ⟨ga_, oa_ + i * 4, none⟩), fun vq wq_ => vq = .agg #[qi (xs.getD (i * 4) 0), qi (xs.getD (i * 4 + 1) 0), qi (xs.getD (i * 4 + 2) 0), qi (xs.getD (i * 4 + 3) 0)], fun vq wq_ => vq = .slice (some ⟨ga_, oa_, none⟩) l c, fun vq wq_ => vq = qi (k : Int), fun vq wq_ => vq = .pointer (some ⟨ga_, oa_ + k * 4, none⟩), fun vq wq_ => vq = .agg #[qi (xs.getD (k * 4) 0), qi (xs.getD (k * 4 + 1) 0), qi (xs.getD (k * 4 + 2) 0), qi (xs.getD (k * 4 + 3) 0)], fun _ _ => True, fun _ _ => True, fun _ _ => True, fun _ _ => True] [⟨8, 10, 3, 27, #[qi 0, qi 0, qi 0, qi 0]⟩, ⟨9, 11, 7, 27, #[qi 0, qi 0, qi 0, qi 0]⟩] [27] mo (by kernel_rfl) (by kernel_rfl) ?_ ?_ ?_ ?_ ?_
 · intro e he e2 he2 h; simp only [List.mem_cons, List.not_mem_nil, or_false] at he he2; rcases he with rfl | rfl <;> rcases he2 with rfl | rfl <;> first | rfl | exact absurd h (by decide)
 · exact ⟨⟨fun v w w2 e h => h, fun v w w2 b cs T fz s hb hT h => h⟩, ⟨fun v w w2 e h => h, fun v w w2 b cs T fz s hb hT h => h⟩, ⟨fun v w w2 e h => h, fun v w w2 b cs T fz s hb hT h => h⟩, ⟨fun v w w2 e h => h, fun v w w2 b cs T fz s hb hT h => h⟩, ⟨fun v w w2 e h => h, fun v w w2 b cs T fz s hb hT h => h⟩, ⟨fun v w w2 e h => h, fun v w w2 b cs T fz s hb hT h => h⟩, ⟨fun v w w2 e h => h, fun v w w2 b cs T fz s hb hT h => h⟩, ⟨fun v w w2 e h => h, fun v w w2 b cs T fz s hb hT h => h⟩, ⟨fun v w w2 e h => h, fun v w w2 b cs T fz s hb hT h => h⟩, ⟨fun v w w2 e h => h, fun v w w2 b cs T fz s hb hT h => h⟩, ⟨fun v w w2 e h => h, fun v w w2 b cs T fz s hb hT h => h⟩, ⟨fun v w w2 e h => h, fun v w w2 b cs T fz s hb hT h => h⟩, trivial⟩
 · refine ⟨?_, ?_, ?_, ?_, ?_, ?_, ?_, ?_, ?_, ?_, ?_, ?_, trivial⟩
   · refine .inr ⟨by kernel_rfl, ?_⟩
     intro fr2 w1 e3 hF4 hD5
     have E6 := qe E0 e3
     have H7 := (e3.blk hs)
     exact DV.oe (dv_load1 (b := sb) (o := 0) agt64 (T rfl (hF4 2 (by kernel_rfl))) H7 rfl) ⟨Below.refl _ _, rfl⟩
   · refine .inr ⟨by kernel_rfl, ?_⟩
     intro fr9 w8 e10 hF11 hD12
     have E13 := qe E0 e10
     exact DV.oe (dv_move (T rfl (hF11 0 (by kernel_rfl)))) ⟨Below.refl _ _, rfl⟩
   · refine .inr ⟨by kernel_rfl, ?_⟩
     intro fr15 w14 e16 hF17 hD18
     have E19 := qe E0 e16
     have hv20 : fr15 10 = .slice (some ⟨ga_, oa_, none⟩) l c := hD18 0 _ (by kernel_rfl) rfl (by kernel_rfl)
     have hv21 : fr15 11 = qi (i : Int) := hD18 1 _ (by kernel_rfl) rfl (by kernel_rfl)
     exact DV.oe (dv_indexM (g := ga_) (o := oa_) (l := l) (c := c) (i := i) (j := (i : Int)) (m := 4) us64 sz27 (T rfl hv20) (T rfl hv21) (by omega) (by first | omega | simp <;> omega)) ⟨Below.refl _ _, rfl⟩
   · refine .inr ⟨by kernel_rfl, ?_⟩
     intro fr23 w22 e24 hF25 hD26
     have E27 := qe E0 e24
     have hv28 : fr23 12 = .pointer (some ⟨ga_, oa_ + i * 4, none⟩) := hD26 2 _ (by kernel_rfl) rfl (by kernel_rfl)
     have h29 := (hx.ext e24)
     exact DV.oe (dv_loadsI (i := i * 4) (m := 4) (k := .i64) (L := xs) (l := [.int .i64 (xs.getD (i * 4) 0), .int .i64 (xs.getD (i * 4 + 1) 0), .int .i64 (xs.getD (i * 4 + 2) 0), .int .i64 (xs.getD (i * 4 + 3) 0)]) agt27 sz27 (T rfl hv28) h29 (by first | omega | simp <;> omega) rfl) ⟨Below.refl _ _, rfl⟩
   · refine .inr ⟨by kernel_rfl, ?_⟩
     intro fr31 w30 e32 hF33 hD34
     have E35 := qe E0 e32
     have H36 := (e32.blk hs)
     exact DV.oe (dv_load1 (b := sb) (o := 0) agt64 (T rfl (hF33 2 (by kernel_rfl))) H36 rfl) ⟨Below.refl _ _, rfl⟩
   · refine .inr ⟨by kernel_rfl, ?_⟩
     intro fr38 w37 e39 hF40 hD41
     have E42 := qe E0 e39
     exact DV.oe (dv_move (T rfl (hF40 1 (by kernel_rfl)))) ⟨Below.refl _ _, rfl⟩
   · refine .inr ⟨by kernel_rfl, ?_⟩
     intro fr44 w43 e45 hF46 hD47
     have E48 := qe E0 e45
     have hv49 : fr44 14 = .slice (some ⟨ga_, oa_, none⟩) l c := hD47 4 _ (by kernel_rfl) rfl (by kernel_rfl)
     have hv50 : fr44 15 = qi (k : Int) := hD47 5 _ (by kernel_rfl) rfl (by kernel_rfl)
     exact DV.oe (dv_indexM (g := ga_) (o := oa_) (l := l) (c := c) (i := k) (j := (k : Int)) (m := 4) us64 sz27 (T rfl hv49) (T rfl hv50) (by omega) (by first | omega | simp <;> omega)) ⟨Below.refl _ _, rfl⟩
   · refine .inr ⟨by kernel_rfl, ?_⟩
     intro fr52 w51 e53 hF54 hD55
     have E56 := qe E0 e53
     have hv57 : fr52 16 = .pointer (some ⟨ga_, oa_ + k * 4, none⟩) := hD55 6 _ (by kernel_rfl) rfl (by kernel_rfl)
     have h58 := (hx.ext e53)
     exact DV.oe (dv_loadsI (i := k * 4) (m := 4) (k := .i64) (L := xs) (l := [.int .i64 (xs.getD (k * 4) 0), .int .i64 (xs.getD (k * 4 + 1) 0), .int .i64 (xs.getD (k * 4 + 2) 0), .int .i64 (xs.getD (k * 4 + 3) 0)]) agt27 sz27 (T rfl hv57) h58 (by first | omega | simp <;> omega) rfl) ⟨Below.refl _ _, rfl⟩
   · exact .inl (.inr ⟨by kernel_rfl, fun _ _ => trivial⟩)
   · exact .inl (.inr ⟨by kernel_rfl, fun _ _ => trivial⟩)
   · exact .inl (.inl (by kernel_rfl))
   exact .inl (.inl (by kernel_rfl))
 · refine ⟨⟨⟨_, rfl, fun _ _ => oe_alloc ze27 fun b w hn => ⟨b, rfl, hn⟩⟩, ⟨_, rfl, ?_⟩⟩, ⟨⟨_, rfl, fun _ _ => oe_alloc ze27 fun b w hn => ⟨b, rfl, hn⟩⟩, ⟨_, rfl, ?_⟩⟩, trivial⟩
   · intro fr60 w59 b64 e61 hF62 hD63 hA65 hB66
     have E67 := qe E0 e61
     have hv68 : fr60 13 = .agg #[qi (xs.getD (i * 4) 0), qi (xs.getD (i * 4 + 1) 0), qi (xs.getD (i * 4 + 2) 0), qi (xs.getD (i * 4 + 3) 0)] := hD63 3 _ (by kernel_rfl) rfl (by kernel_rfl)
     refine oe_store (v := .agg #[qi (xs.getD (i * 4) 0), qi (xs.getD (i * 4 + 1) 0), qi (xs.getD (i * 4 + 2) 0), qi (xs.getD (i * 4 + 3) 0)]) (vs := [qi (xs.getD (i * 4) 0), qi (xs.getD (i * 4 + 1) 0), qi (xs.getD (i * 4 + 2) 0), qi (xs.getD (i * 4 + 3) 0)]) (l := [qi (xs.getD (i * 4) 0), qi (xs.getD (i * 4 + 1) 0), qi (xs.getD (i * 4 + 2) 0), qi (xs.getD (i * 4 + 3) 0)]) (T rfl hA65) (T rfl hv68) sz27 rfl rfl rfl hB66 rfl ?_
     intro w69 s70 H71
     exact ⟨s70, H71.trans (congrArg (fun v : Value => some (Obj.cells v.cells 27)) (show fr60 13 = _ from hv68).symm)⟩
   intro fr74 w73 b78 e75 hF76 hD77 hA79 hB80
   have E81 := qe E0 e75
   have hv82 : fr74 17 = .agg #[qi (xs.getD (k * 4) 0), qi (xs.getD (k * 4 + 1) 0), qi (xs.getD (k * 4 + 2) 0), qi (xs.getD (k * 4 + 3) 0)] := hD77 7 _ (by kernel_rfl) rfl (by kernel_rfl)
   refine oe_store (v := .agg #[qi (xs.getD (k * 4) 0), qi (xs.getD (k * 4 + 1) 0), qi (xs.getD (k * 4 + 2) 0), qi (xs.getD (k * 4 + 3) 0)]) (vs := [qi (xs.getD (k * 4) 0), qi (xs.getD (k * 4 + 1) 0), qi (xs.getD (k * 4 + 2) 0), qi (xs.getD (k * 4 + 3) 0)]) (l := [qi (xs.getD (k * 4) 0), qi (xs.getD (k * 4 + 1) 0), qi (xs.getD (k * 4 + 2) 0), qi (xs.getD (k * 4 + 3) 0)]) (T rfl hA79) (T rfl hv82) sz27 rfl rfl rfl hB80 rfl ?_
   intro w83 s84 H85
   exact ⟨s84, H85.trans (congrArg (fun v : Value => some (Obj.cells v.cells 27)) (show fr74 17 = _ from hv82).symm)⟩
 intro fr88 w87 e89 hF90 hP91 hM92 hN93
 have E94 := qe E0 e89
 obtain ⟨_, _, _, p95, _, _, _, p96, _, _, _, _, _⟩ := hP91
 have hv97 : fr88 13 = .agg #[qi (xs.getD (i * 4) 0), qi (xs.getD (i * 4 + 1) 0), qi (xs.getD (i * 4 + 2) 0), qi (xs.getD (i * 4 + 3) 0)] := p95.resolve_left (nst (by kernel_rfl))
 have hv98 : fr88 17 = .agg #[qi (xs.getD (k * 4) 0), qi (xs.getD (k * 4 + 1) 0), qi (xs.getD (k * 4 + 2) 0), qi (xs.getD (k * 4 + 3) 0)] := p96.resolve_left (nst (by kernel_rfl))
 obtain ⟨⟨b99, hA100, hB101, hC102⟩, ⟨b103, hA104, hB105, hC106⟩, _⟩ := hM92
 have H107 : w87.heap[b99]? = some (.cells #[.int .i64 (xs.getD (i * 4) 0), .int .i64 (xs.getD (i * 4 + 1) 0), .int .i64 (xs.getD (i * 4 + 2) 0), .int .i64 (xs.getD (i * 4 + 3) 0)] 27) := hC102.trans (congrArg (fun v : Value => some (Obj.cells v.cells 27)) hv97)
 have N108 : w.heap.size ≤ b99 := by omega
 have H109 : w87.heap[b103]? = some (.cells #[.int .i64 (xs.getD (k * 4) 0), .int .i64 (xs.getD (k * 4 + 1) 0), .int .i64 (xs.getD (k * 4 + 2) 0), .int .i64 (xs.getD (k * 4 + 3) 0)] 27) := hC106.trans (congrArg (fun v : Value => some (Obj.cells v.cells 27)) hv98)
 have N110 : w.heap.size ≤ b103 := by omega
 have : b103 ≠ b99 := fun hh => hN93 _ (.tail _ (.head _)) _ (.head _) (by decide) (hA104.trans ((congrArg (fun q => Value.pointer (some ⟨q, 0, none⟩)) hh).trans hA100.symm))
 refine rk_seq <| rk_reg <| lw_v (.pointer (some ⟨b99, 2, none⟩)) (dv_fieldAddr (a := ⟨b99, 0, none⟩) (a' := ⟨b99, 2, none⟩) fo27_1 (T rfl hA100) rfl) <| lw_v (.pointer (some ⟨b99, 3, none⟩)) (dv_fieldAddr (a := ⟨b99, 2, none⟩) (a' := ⟨b99, 3, none⟩) fo25_1 (Z rfl) rfl) <| lw_v (qi (xs.getD (i * 4 + 3) 0)) (dv_load1 (b := b99) (o := 3) agt2 (Z rfl) H107 rfl) <| lw_v (.pointer (some ⟨b99, 0, none⟩)) (dv_fieldAddr (a := ⟨b99, 0, none⟩) (a' := ⟨b99, 0, none⟩) fo27_0 (T rfl hA100) rfl) <| lw_v (.pointer (some ⟨b99, 1, none⟩)) (dv_fieldAddr (a := ⟨b99, 0, none⟩) (a' := ⟨b99, 1, none⟩) fo25_1 (Z rfl) rfl) <| lw_v (qi (xs.getD (i * 4 + 1) 0)) (dv_load1 (b := b99) (o := 1) agt2 (Z rfl) H107 rfl) <| lw_v _ (dv_sub (a := xs.getD (i * 4 + 3) 0) (b := xs.getD (i * 4 + 1) 0) (z := (xs.getD (i * 4 + 3) 0) - (xs.getD (i * 4 + 1) 0)) (Z rfl) (Z rfl) (wr_i64 (by omega) (by omega))) <| lw_v (.pointer (some ⟨b103, 2, none⟩)) (dv_fieldAddr (a := ⟨b103, 0, none⟩) (a' := ⟨b103, 2, none⟩) fo27_1 (T rfl hA104) rfl) <| lw_v (.pointer (some ⟨b103, 2, none⟩)) (dv_fieldAddr (a := ⟨b103, 2, none⟩) (a' := ⟨b103, 2, none⟩) fo25_0 (Z rfl) rfl) <| lw_v (qi (xs.getD (k * 4 + 2) 0)) (dv_load1 (b := b103) (o := 2) agt2 (Z rfl) H109 rfl) <| lw_v (.pointer (some ⟨b103, 0, none⟩)) (dv_fieldAddr (a := ⟨b103, 0, none⟩) (a' := ⟨b103, 0, none⟩) fo27_0 (T rfl hA104) rfl) <| lw_v (.pointer (some ⟨b103, 0, none⟩)) (dv_fieldAddr (a := ⟨b103, 0, none⟩) (a' := ⟨b103, 0, none⟩) fo25_0 (Z rfl) rfl) <| lw_v (qi (xs.getD (k * 4) 0)) (dv_load1 (b := b103) (o := 0) agt2 (Z rfl) H109 rfl) <| lw_v _ (dv_sub (a := xs.getD (k * 4 + 2) 0) (b := xs.getD (k * 4) 0) (z := (xs.getD (k * 4 + 2) 0) - (xs.getD (k * 4) 0)) (Z rfl) (Z rfl) (wr_i64 (by omega) (by omega))) ?_
 have hm111 := mul_bd (A := 2000000) (B := 2000000) (show -2000000 ≤ ((xs.getD (i * 4 + 3) 0) - (xs.getD (i * 4 + 1) 0)) by omega) (by omega) (show -2000000 ≤ ((xs.getD (k * 4 + 2) 0) - (xs.getD (k * 4) 0)) by omega) (by omega)
 refine lw_v _ (dv_mul (a := (xs.getD (i * 4 + 3) 0) - (xs.getD (i * 4 + 1) 0)) (b := (xs.getD (k * 4 + 2) 0) - (xs.getD (k * 4) 0)) (z := ((xs.getD (i * 4 + 3) 0) - (xs.getD (i * 4 + 1) 0)) * ((xs.getD (k * 4 + 2) 0) - (xs.getD (k * 4) 0))) (Z rfl) (Z rfl) (wr_i64 (by omega) (by omega))) <| lw_v (.pointer (some ⟨b103, 2, none⟩)) (dv_fieldAddr (a := ⟨b103, 0, none⟩) (a' := ⟨b103, 2, none⟩) fo27_1 (T rfl hA104) rfl) <| lw_v (.pointer (some ⟨b103, 3, none⟩)) (dv_fieldAddr (a := ⟨b103, 2, none⟩) (a' := ⟨b103, 3, none⟩) fo25_1 (Z rfl) rfl) <| lw_v (qi (xs.getD (k * 4 + 3) 0)) (dv_load1 (b := b103) (o := 3) agt2 (Z rfl) H109 rfl) <| lw_v (.pointer (some ⟨b103, 0, none⟩)) (dv_fieldAddr (a := ⟨b103, 0, none⟩) (a' := ⟨b103, 0, none⟩) fo27_0 (T rfl hA104) rfl) <| lw_v (.pointer (some ⟨b103, 1, none⟩)) (dv_fieldAddr (a := ⟨b103, 0, none⟩) (a' := ⟨b103, 1, none⟩) fo25_1 (Z rfl) rfl) <| lw_v (qi (xs.getD (k * 4 + 1) 0)) (dv_load1 (b := b103) (o := 1) agt2 (Z rfl) H109 rfl) <| lw_v _ (dv_sub (a := xs.getD (k * 4 + 3) 0) (b := xs.getD (k * 4 + 1) 0) (z := (xs.getD (k * 4 + 3) 0) - (xs.getD (k * 4 + 1) 0)) (Z rfl) (Z rfl) (wr_i64 (by omega) (by omega))) <| lw_v (.pointer (some ⟨b99, 2, none⟩)) (dv_fieldAddr (a := ⟨b99, 0, none⟩) (a' := ⟨b99, 2, none⟩) fo27_1 (T rfl hA100) rfl) <| lw_v (.pointer (some ⟨b99, 2, none⟩)) (dv_fieldAddr (a := ⟨b99, 2, none⟩) (a' := ⟨b99, 2, none⟩) fo25_0 (Z rfl) rfl) <| lw_v (qi (xs.getD (i * 4 + 2) 0)) (dv_load1 (b := b99) (o := 2) agt2 (Z rfl) H107 rfl) <| lw_v (.pointer (some ⟨b99, 0, none⟩)) (dv_fieldAddr (a := ⟨b99, 0, none⟩) (a' := ⟨b99, 0, none⟩) fo27_0 (T rfl hA100) rfl) <| lw_v (.pointer (some ⟨b99, 0, none⟩)) (dv_fieldAddr (a := ⟨b99, 0, none⟩) (a' := ⟨b99, 0, none⟩) fo25_0 (Z rfl) rfl) <| lw_v (qi (xs.getD (i * 4) 0)) (dv_load1 (b := b99) (o := 0) agt2 (Z rfl) H107 rfl) <| lw_v _ (dv_sub (a := xs.getD (i * 4 + 2) 0) (b := xs.getD (i * 4) 0) (z := (xs.getD (i * 4 + 2) 0) - (xs.getD (i * 4) 0)) (Z rfl) (Z rfl) (wr_i64 (by omega) (by omega))) ?_
 have hm112 := mul_bd (A := 2000000) (B := 2000000) (show -2000000 ≤ ((xs.getD (k * 4 + 3) 0) - (xs.getD (k * 4 + 1) 0)) by omega) (by omega) (show -2000000 ≤ ((xs.getD (i * 4 + 2) 0) - (xs.getD (i * 4) 0)) by omega) (by omega)
 refine lw_v _ (dv_mul (a := (xs.getD (k * 4 + 3) 0) - (xs.getD (k * 4 + 1) 0)) (b := (xs.getD (i * 4 + 2) 0) - (xs.getD (i * 4) 0)) (z := ((xs.getD (k * 4 + 3) 0) - (xs.getD (k * 4 + 1) 0)) * ((xs.getD (i * 4 + 2) 0) - (xs.getD (i * 4) 0))) (Z rfl) (Z rfl) (wr_i64 (by omega) (by omega))) <| lw_v _ (dv_sub (a := ((xs.getD (i * 4 + 3) 0) - (xs.getD (i * 4 + 1) 0)) * ((xs.getD (k * 4 + 2) 0) - (xs.getD (k * 4) 0))) (b := ((xs.getD (k * 4 + 3) 0) - (xs.getD (k * 4 + 1) 0)) * ((xs.getD (i * 4 + 2) 0) - (xs.getD (i * 4) 0))) (z := (((xs.getD (i * 4 + 3) 0) - (xs.getD (i * 4 + 1) 0)) * ((xs.getD (k * 4 + 2) 0) - (xs.getD (k * 4) 0))) - (((xs.getD (k * 4 + 3) 0) - (xs.getD (k * 4 + 1) 0)) * ((xs.getD (i * 4 + 2) 0) - (xs.getD (i * 4) 0)))) (Z rfl) (Z rfl) (wr_i64 (by omega) (by omega))) <| qs (qi ((((xs.getD (i * 4 + 3) 0) - (xs.getD (i * 4 + 1) 0)) * ((xs.getD (k * 4 + 2) 0) - (xs.getD (k * 4) 0))) - (((xs.getD (k * 4 + 3) 0) - (xs.getD (k * 4 + 1) 0)) * ((xs.getD (i * 4 + 2) 0) - (xs.getD (i * 4) 0))))) rfl rfl <| lw_nil <| rk_seq <| rk_any (fun w => w.heap[hb_]? = some (.cells #[.func (.func 72) #[] #[.pointer (some ⟨qb, 0, none⟩)]] 116) ∧ w.heap[b99]? = some (.cells #[qi (xs.getD (i * 4) 0), qi (xs.getD (i * 4 + 1) 0), qi (xs.getD (i * 4 + 2) 0), qi (xs.getD (i * 4 + 3) 0)] 27) ∧ w.heap[b103]? = some (.cells #[qi (xs.getD (k * 4) 0), qi (xs.getD (k * 4 + 1) 0), qi (xs.getD (k * 4 + 2) 0), qi (xs.getD (k * 4 + 3) 0)] 27)) [14] mo ?_
 intro w113 d114
 have E115 := qe E94 d114.ext
 have H116 := (d114.ext.blk (e89.blk hh))
 have H117 := (d114.ext.blk H107)
 have H118 := (d114.ext.blk H109)
 refine aw_load 0 (.func (.func 72) #[] #[.pointer (some ⟨qb, 0, none⟩)]) rfl (by kernel_rfl) .none ⟨H116, H117, H118⟩ (fun _ s => dv_load1 (b := hb_) (o := 0) agt116 (T rfl (hF90 3 rfl)) s.1 rfl) <| aw_load 1 (.agg #[qi (xs.getD (i * 4) 0), qi (xs.getD (i * 4 + 1) 0), qi (xs.getD (i * 4 + 2) 0), qi (xs.getD (i * 4 + 3) 0)]) rfl (by kernel_rfl) .none ⟨H116, H117, H118⟩ (fun _ s => dv_loads (l := [qi (xs.getD (i * 4) 0), qi (xs.getD (i * 4 + 1) 0), qi (xs.getD (i * 4 + 2) 0), qi (xs.getD (i * 4 + 3) 0)]) agt27 sz27 (T rfl hA100) s.2.1 rfl) <| aw_load 3 (.func (.func 72) #[] #[.pointer (some ⟨qb, 0, none⟩)]) rfl (by kernel_rfl) .none ⟨H116, H117, H118⟩ (fun _ s => dv_load1 (b := hb_) (o := 0) agt116 (T rfl (hF90 3 rfl)) s.1 rfl) <| aw_load 4 (.agg #[qi (xs.getD (k * 4) 0), qi (xs.getD (k * 4 + 1) 0), qi (xs.getD (k * 4 + 2) 0), qi (xs.getD (k * 4 + 3) 0)]) rfl (by kernel_rfl) .none ⟨H116, H117, H118⟩ (fun _ s => dv_loads (l := [qi (xs.getD (k * 4) 0), qi (xs.getD (k * 4 + 1) 0), qi (xs.getD (k * 4 + 2) 0), qi (xs.getD (k * 4 + 3) 0)]) agt27 sz27 (T rfl hA104) s.2.2 rfl) <| aw_pure 7 (qi ((((xs.getD (i * 4 + 3) 0) - (xs.getD (i * 4 + 1) 0)) * ((xs.getD (k * 4 + 2) 0) - (xs.getD (k * 4) 0))) - (((xs.getD (k * 4 + 3) 0) - (xs.getD (k * 4 + 1) 0)) * ((xs.getD (i * 4 + 2) 0) - (xs.getD (i * 4) 0))))) rfl (by kernel_rfl) .none ⟨H116, H117, H118⟩ (fun _ => dv_move (Z rfl)) <| aw_pure 9 (qi (i : Int)) rfl (by kernel_rfl) .none ⟨H116, H117, H118⟩ (fun _ => dv_move (T rfl (hF90 0 rfl))) <| aw_pure 10 (qi (k : Int)) rfl (by kernel_rfl) .none ⟨H116, H117, H118⟩ (fun _ => dv_move (T rfl (hF90 1 rfl))) <| aw_pure 11 (qi ((i : Int) - (k : Int))) rfl (by kernel_rfl) .none ⟨H116, H117, H118⟩ (fun _ => dv_sub (a := (i : Int)) (b := (k : Int)) (z := (i : Int) - (k : Int)) (Z rfl) (Z rfl) (wr_i64 (by omega) (by omega))) ?_
 have h119 := ((ha.ext e89).ext d114.ext)
 have h120 := ((hb.ext e89).ext d114.ext)
 have h121 := ((hm.ext e89).ext d114.ext)
 have H132 := (d114.ext.blk (e89.blk hq))
 refine aw_one 2 rfl (by kernel_rfl) .none (oe_callc (vs := [.agg #[qi (xs.getD (i * 4) 0), qi (xs.getD (i * 4 + 1) 0), qi (xs.getD (i * 4 + 2) 0), qi (xs.getD (i * 4 + 3) 0)]]) (Z rfl) co72 (ar1 (Z rfl)) (height_ok h119 h120 h121 H132 (by omega)) ?_)
 rintro _ w133 ⟨nr122, A123, n124, c125, nr126, A127, n128, c129, rfl, e134, h130, h131⟩
 have E135 := qe E115 e134
 have lh130 := ql h130
 have lh131 := ql h131
 have H136 := (e134.blk H116)
 have H137 := (e134.blk H117)
 have H138 := (e134.blk H118)
 refine ⟨.inr ⟨H136, H137, H138⟩, ?_⟩
 have h139 := (h119.ext e134)
 have h140 := (h120.ext e134)
 have h141 := (h121.ext e134)
 have H152 := (e134.blk H132)
 refine aw_one 5 rfl (by kernel_rfl) .none (oe_callc (vs := [.agg #[qi (xs.getD (k * 4) 0), qi (xs.getD (k * 4 + 1) 0), qi (xs.getD (k * 4 + 2) 0), qi (xs.getD (k * 4 + 3) 0)]]) (Z rfl) co72 (ar1 (Z rfl)) (height_ok h139 h140 h141 H152 (by omega)) ?_)
 rintro _ w153 ⟨nr142, A143, n144, c145, nr146, A147, n148, c149, rfl, e154, h150, h151⟩
 have E155 := qe E135 e154
 have lh150 := ql h150
 have lh151 := ql h151
 have H156 := (e154.blk H136)
 have H157 := (e154.blk H137)
 have H158 := (e154.blk H138)
 refine ⟨.inr ⟨H156, H157, H158⟩, ?_⟩
 have h159 := (h130.ext e154)
 have h160 := (h131.ext e154)
 refine aw_one 6 rfl (by kernel_rfl) .none (oe_callf (vs := [.agg #[.bool nr122, .slice A123 n124 c125, .bool nr126, .slice A127 n128 c129], .agg #[.bool nr142, .slice A143 n144 c145, .bool nr146, .slice A147 n148 c149]]) co78 (ar2 (Z rfl) (Z rfl)) (ircmp_ok h159 h160 h150 h151 (by first | decide | omega) (by first | decide | omega) (by first | decide | omega) (by first | decide | omega) ) ?_)
 rintro _ w161 ⟨rfl, e162⟩
 have E163 := qe E155 e162
 have H164 := (e162.blk H156)
 have H165 := (e162.blk H157)
 have H166 := (e162.blk H158)
 refine ⟨.inr ⟨H164, H165, H166⟩, ?_⟩
 refine aw_one 8 rfl (by kernel_rfl) .none (oe_callf (vs := [qi ((((xs.getD (i * 4 + 3) 0) - (xs.getD (i * 4 + 1) 0)) * ((xs.getD (k * 4 + 2) 0) - (xs.getD (k * 4) 0))) - (((xs.getD (k * 4 + 3) 0) - (xs.getD (k * 4 + 1) 0)) * ((xs.getD (i * 4 + 2) 0) - (xs.getD (i * 4) 0))))]) co79 (ar1 (Z rfl)) (sign_ok ) ?_)
 rintro _ w167 ⟨rfl, e168⟩
 have E169 := qe E163 e168
 have H170 := (e168.blk H164)
 have H171 := (e168.blk H165)
 have H172 := (e168.blk H166)
 refine ⟨.inr ⟨H170, H171, H172⟩, ?_⟩
 refine aw_one 12 rfl (by kernel_rfl) .none (oe_buildSlice (pv := [(0, qi (sgnI ((hN (xs.getD (i * 4) 0) (xs.getD (i * 4 + 1) 0) (xs.getD (i * 4 + 2) 0) (xs.getD (i * 4 + 3) 0) x u) * ((xs.getD (k * 4 + 2) 0) - (xs.getD (k * 4) 0)) - (hN (xs.getD (k * 4) 0) (xs.getD (k * 4 + 1) 0) (xs.getD (k * 4 + 2) 0) (xs.getD (k * 4 + 3) 0) x u) * ((xs.getD (i * 4 + 2) 0) - (xs.getD (i * 4) 0))))), (1, qi (sgnI ((((xs.getD (i * 4 + 3) 0) - (xs.getD (i * 4 + 1) 0)) * ((xs.getD (k * 4 + 2) 0) - (xs.getD (k * 4) 0))) - (((xs.getD (k * 4 + 3) 0) - (xs.getD (k * 4 + 1) 0)) * ((xs.getD (i * 4 + 2) 0) - (xs.getD (i * 4) 0)))))), (2, qi ((i : Int) - (k : Int)))]) (init := [qi 0, qi 0, qi 0]) (l := [qi (sgnI ((hN (xs.getD (i * 4) 0) (xs.getD (i * 4 + 1) 0) (xs.getD (i * 4 + 2) 0) (xs.getD (i * 4 + 3) 0) x u) * ((xs.getD (k * 4 + 2) 0) - (xs.getD (k * 4) 0)) - (hN (xs.getD (k * 4) 0) (xs.getD (k * 4 + 1) 0) (xs.getD (k * 4 + 2) 0) (xs.getD (k * 4 + 3) 0) x u) * ((xs.getD (i * 4 + 2) 0) - (xs.getD (i * 4) 0)))), qi (sgnI ((((xs.getD (i * 4 + 3) 0) - (xs.getD (i * 4 + 1) 0)) * ((xs.getD (k * 4 + 2) 0) - (xs.getD (k * 4) 0))) - (((xs.getD (k * 4 + 3) 0) - (xs.getD (k * 4 + 1) 0)) * ((xs.getD (i * 4 + 2) 0) - (xs.getD (i * 4) 0))))), qi ((i : Int) - (k : Int))]) us155 sz3 rfl rfl zc3 (by kernel_rfl) ⟨rfl, (Z rfl), ⟨rfl, (Z rfl), ⟨rfl, (Z rfl), trivial⟩⟩⟩ rfl ?_)
 intro b173 w174 n175
 have N176 : w.heap.size ≤ b173 := n175.eq ▸ E169.size
 have H177 := (e168.blk (e162.blk (e154.blk H152)))
 have : qb < b173 := n175.eq ▸ lt_of_blk H177
 have H178 := (e168.blk (e162.blk (e154.blk (e134.blk (d114.ext.blk (e89.blk hs))))))
 have : sb < b173 := n175.eq ▸ lt_of_blk H178
 have : hb_ < b173 := n175.eq ▸ lt_of_blk H170
 have : b99 < b173 := n175.eq ▸ lt_of_blk H171
 have : b103 < b173 := n175.eq ▸ lt_of_blk H172
 have E179 := qe E169 n175.ext
 have H180 := (n175.ext.blk H170)
 have H181 := (n175.ext.blk H171)
 have H182 := (n175.ext.blk H172)
 refine ⟨.inr ⟨H180, H181, H182⟩, ?_⟩
 refine aw_one 13 rfl (by kernel_rfl) .none (oe_callf (vs := [.slice (some ⟨b173, 0, none⟩) 3 3]) co77 (ar1 (Z rfl)) (cmpOr_ok n175.blk) ?_)
 rintro _ w183 ⟨rfl, e184⟩
 have E185 := qe E179 e184
 have H186 := (e184.blk H180)
 have H187 := (e184.blk H181)
 have H188 := (e184.blk H182)
 refine ⟨.inr ⟨H186, H187, H188⟩, ?_⟩
 refine aw_last 14 (qi (orV (sgnI ((hN (xs.getD (i * 4) 0) (xs.getD (i * 4 + 1) 0) (xs.getD (i * 4 + 2) 0) (xs.getD (i * 4 + 3) 0) x u) * ((xs.getD (k * 4 + 2) 0) - (xs.getD (k * 4) 0)) - (hN (xs.getD (k * 4) 0) (xs.getD (k * 4 + 1) 0) (xs.getD (k * 4 + 2) 0) (xs.getD (k * 4 + 3) 0) x u) * ((xs.getD (i * 4 + 2) 0) - (xs.getD (i * 4) 0)))) (sgnI ((((xs.getD (i * 4 + 3) 0) - (xs.getD (i * 4 + 1) 0)) * ((xs.getD (k * 4 + 2) 0) - (xs.getD (k * 4) 0))) - (((xs.getD (k * 4 + 3) 0) - (xs.getD (k * 4 + 1) 0)) * ((xs.getD (i * 4 + 2) 0) - (xs.getD (i * 4) 0))))) ((i : Int) - (k : Int)))) rfl (by kernel_rfl) .none (fun _ => dv_assign (Z rfl)) <| aw_done (by kernel_rfl) <| rk_ret Try.func76 (v := qi (orV (sgnI ((hN (xs.getD (i * 4) 0) (xs.getD (i * 4 + 1) 0) (xs.getD (i * 4 + 2) 0) (xs.getD (i * 4 + 3) 0) x u) * ((xs.getD (k * 4 + 2) 0) - (xs.getD (k * 4) 0)) - (hN (xs.getD (k * 4) 0) (xs.getD (k * 4 + 1) 0) (xs.getD (k * 4 + 2) 0) (xs.getD (k * 4 + 3) 0) x u) * ((xs.getD (i * 4 + 2) 0) - (xs.getD (i * 4) 0)))) (sgnI ((((xs.getD (i * 4 + 3) 0) - (xs.getD (i * 4 + 1) 0)) * ((xs.getD (k * 4 + 2) 0) - (xs.getD (k * 4) 0))) - (((xs.getD (k * 4 + 3) 0) - (xs.getD (k * 4 + 1) 0)) * ((xs.getD (i * 4 + 2) 0) - (xs.getD (i * 4) 0))))) ((i : Int) - (k : Int)))) (res1 Try.results76 (rv_tmp rfl rfl)) ⟨_, rfl, ?_⟩
 exact ⟨rfl, E185⟩
theorem stCmp_all {w : World} {g sb hb_ qb : Nat} {Aq : Option Addr} {l c : Nat} {xs : List Int} (hx : RdI w .i64 Aq xs) (hxl : xs.length = l * 4) (hxb : l ≤ 1048576) {na : Bool} {Aa : Option Addr} {la ca : Nat} {x : Int} (ha : Num 64 36 .u64 w na Aa la ca x 256) {nb : Bool} {Ab : Option Addr} {lb cb : Nat} {y : Int} (hb : Num 64 36 .u64 w nb Ab lb cb y 256) {nm : Bool} {Am : Option Addr} {lm cm : Nat} {u : Int} (hm : Num 64 36 .u64 w nm Am lm cm u 256) (hs : w.heap[sb]? = some (.cells #[.slice Aq l c] 64)) (hh : w.heap[hb_]? = some (.cells #[.func (.func 72) #[] #[.pointer (some ⟨qb, 0, none⟩)]] 116)) (hq : w.heap[qb]? = some (.cells #[.bool na, .slice Aa la ca, .bool nb, .slice Ab lb cb, .bool nm, .slice Am lm cm] 109)) (hsg : segsOk l xs) (h40 : l ≤ 40) {cs' : Array Value} {fz' : Nat × Nat} (hgb : w.heap[g]? = some (.cells cs' 2 fz')) (n4 : xs = [] ∨ ∀ g' o, Aq = some ⟨g', o, none⟩ → g' ≠ g) :
 CmpOk Try.prog 76 #[.pointer (some ⟨sb, 0, none⟩), .pointer (some ⟨hb_, 0, none⟩)] (stV l xs x u) (cfV xs x u) g w := ⟨by kernel_rfl, fun w' a b ea eb e => by
 obtain ⟨i, rfl, hi, _⟩ := ea
 obtain ⟨k, rfl, hk, _⟩ := eb
 exact stCmp_ok (hx.bx e n4) hxl hxb (ha.bx e hgb (by decide)) (hb.bx e hgb (by decide)) (hm.bx e hgb (by decide)) (bx_blk e hs (blk_ne hs hgb (by decide))) (bx_blk e hh (blk_ne hh hgb (by decide))) (bx_blk e hq (blk_ne hq hgb (by decide))) hsg h40 hi hk⟩
end Go.Proofs.Ytmbpomcbdopgnaa.W
