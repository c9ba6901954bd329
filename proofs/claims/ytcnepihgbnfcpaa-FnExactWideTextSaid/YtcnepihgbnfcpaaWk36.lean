/- Wk36: walks, written by a program of this session. -/
import Derived.Test.YtcnepihgbnfcpaaWk19
import Derived.Test.YtcnepihgbnfcpaaMa18
set_option linter.unusedVariables false
set_option linter.unusedSimpArgs false
namespace Go.Proofs.Ytcnepihgbnfcpaa.W
open Go Go.RowKit Go.Proofs.Ytcnepihgbnfcpaa.Fw
attribute [local irreducible] RunK LW AW DV OE Ct
theorem agt5 : aggB Try.prog 5 = some false := by kernel_rfl
theorem co89 : callOk Try.prog 89 = true := by kernel_rfl
theorem in5 : (Try.prog.info? 5).map (fun i => (i.zero, i.size, i.bytes)) = some (some (.int .u8 0), 1, 1) := by kernel_rfl
theorem sz5 : sizeB Try.prog 5 = some 1 := by kernel_rfl
theorem ui5 : Try.prog.underlying 5 = some (.int .u8) := by kernel_rfl
theorem us37 : Try.prog.underlying 37 = some (.slice 5) := by kernel_rfl
theorem ut9 : Try.prog.underlying 9 = some .string := by kernel_rfl
theorem zc5 : zcB Try.prog 5 = some [.int .u8 0] := by kernel_rfl
set_option maxHeartbeats 1000000 in
theorem rev_ok {w : World} {A : Option Addr} {n c base : Nat} {L : List Int} (hO : Ow w base 5 .u8 A c L) (hl : L.length = n) (hn : 0 < n) (hN : n ≤ 1000000000) : Ct Try.prog 89 [.slice A n c] w fun v w1 => v = .tuple #[] ∧ Below base w w1 ∧ Ow w1 base 5 .u8 A c L.reverse := by
  refine ct_run (n := 28) Try.func89 rfl Try.ntmps89 rfl ?_
  have E0 : Below base w w := Below.refl _ _
  have hb0 := hO.2
  refine rk_seq ?_
  refine rk_reg ?_
  refine lw_v (.slice A n c) (dv_move (T rfl rfl)) ?_
  refine lw_v (.int .i64 ((n : Int))) (dv_len (ad := A) (l := n) (c := c) us37 (T rfl rfl)) ?_
  refine lw_v (.int .i64 (((n : Int)) - 1)) (dv_sub (a := (n : Int)) (b := 1) (z := ((n : Int)) - 1) (T rfl rfl) C (wr_i64 (by omega) (by omega))) ?_
  refine lw_v (.int .i64 0) (dv_assign C) ?_
  refine lw_v (.int .i64 (((n : Int)) - 1)) (dv_assign (T rfl rfl)) ?_
  refine lw_nil ?_
  refine rk_block ?_
  refine rk_loop (fun dm_ fr wl => ∃ (i j : Nat) (M : List Int), dm_ = n - i ∧ fr 0 = .slice A n c ∧ fr 2 = .int .i64 ((i : Int)) ∧ fr 3 = .int .i64 ((j : Int)) ∧ Below base w wl ∧ Ow wl base 5 .u8 A c M ∧ (rvI L i M) ∧ (M.length = n) ∧ (i + j + 1 = n)) (n - 0) ⟨0, (n - 1), L, rfl, rfl, (vi (by omega)), (vi (by omega)), E0, hO, (rv0 L), (by omega), (by omega)⟩ ?_
  intro d5 fr4 w1 hI2 ih3
  obtain ⟨i, j, M, hd11, f6, f7, f8, E9, h10, hrv, hM, hij⟩ := hI2
  refine rk_seq ?_
  refine rk_seq ?_
  refine rk_reg ?_
  refine lw_v (.int .i64 ((i : Int))) (dv_move (T rfl f7)) ?_
  refine lw_v (.int .i64 ((j : Int))) (dv_move (T rfl f8)) ?_
  refine lw_v (.bool (decide (((i : Int)) < ((j : Int))))) (dv_lss (a := (i : Int)) (b := (j : Int)) (T rfl rfl) (T rfl rfl)) ?_
  refine lw_nil ?_
  by_cases hb12 : ((i : Int)) < ((j : Int))
  · -- LT
    refine rk_ct (T rfl (congrArg Value.bool (decide_eq_true hb12))) ?_
    refine rk_skip ?_
    refine rk_seq ?_
    refine rk_block ?_
    obtain ⟨g13, o14, rfl⟩ := Wd.at h10.wd (by first | omega | (simp; omega))
    refine rk_st2 13 15 [.slice (some ⟨g13, o14, none⟩) n c, .int .i64 ((i : Int)), .slice (some ⟨g13, o14, none⟩) n c, .int .i64 ((j : Int)), .slice (some ⟨g13, o14, none⟩) n c, .int .i64 ((j : Int)), .pointer (some ⟨g13, o14 + j, none⟩), .int .u8 (M.getD j 0), .slice (some ⟨g13, o14, none⟩) n c, .int .i64 ((i : Int)), .pointer (some ⟨g13, o14 + i, none⟩), .int .u8 (M.getD i 0), .pointer (some ⟨g13, o14 + i, none⟩), undef, .pointer (some ⟨g13, o14 + j, none⟩), undef] (fun wk => ∃ wd, Drew w1 wd ∧ Below base wd wk ∧ Ow wk base 5 .u8 (some ⟨g13, o14, none⟩) c (M.set i (M.getD j 0))) (fun wk => ∃ wd, Drew w1 wd ∧ Below base wd wk ∧ Ow wk base 5 .u8 (some ⟨g13, o14, none⟩) c (((M.set i (M.getD j 0))).set j (M.getD i 0))) mo (by kernel_rfl) ?_ ?_
    · intro w15 d16
      have E17 := below_ext E9 (Nat.le_trans hb0 E9.size) d16.ext
      refine ⟨?_, ?_, ?_, ?_, ?_, ?_, ?_, ?_, ?_, ?_, ?_, ?_, ?_, ?_, ?_, ?_, trivial⟩
      · intro fr18 w19 hB20 hM21 hF22 hD23
        obtain rfl := hB20 (.inr (by kernel_rfl))
        exact DV.oe (dv_move (T rfl ((hF22 0 (by kernel_rfl)).trans f6))) (by rw [if_neg (by decide), if_neg (by decide)]; exact ⟨rfl, rfl⟩)
      · intro fr24 w25 hB26 hM27 hF28 hD29
        obtain rfl := hB26 (.inr (by kernel_rfl))
        exact DV.oe (dv_move (T rfl ((hF28 2 (by kernel_rfl)).trans f7))) (by rw [if_neg (by decide), if_neg (by decide)]; exact ⟨rfl, rfl⟩)
      · intro fr30 w31 hB32 hM33 hF34 hD35
        exact DV.oe (dv_move (T rfl ((hF34 0 (by kernel_rfl)).trans f6))) (by rw [if_neg (by decide), if_neg (by decide)]; exact ⟨rfl, rfl⟩)
      · intro fr36 w37 hB38 hM39 hF40 hD41
        exact DV.oe (dv_move (T rfl ((hF40 3 (by kernel_rfl)).trans f8))) (by rw [if_neg (by decide), if_neg (by decide)]; exact ⟨rfl, rfl⟩)
      · intro fr42 w43 hB44 hM45 hF46 hD47
        obtain rfl := hB44 (.inr (by kernel_rfl))
        exact DV.oe (dv_move (T rfl ((hF46 0 (by kernel_rfl)).trans f6))) (by rw [if_neg (by decide), if_neg (by decide)]; exact ⟨rfl, rfl⟩)
      · intro fr48 w49 hB50 hM51 hF52 hD53
        obtain rfl := hB50 (.inr (by kernel_rfl))
        exact DV.oe (dv_move (T rfl ((hF52 3 (by kernel_rfl)).trans f8))) (by rw [if_neg (by decide), if_neg (by decide)]; exact ⟨rfl, rfl⟩)
      · intro fr54 w55 hB56 hM57 hF58 hD59
        obtain rfl := hB56 (.inr (by kernel_rfl))
        have hv60 : fr54 18 = .slice (some ⟨g13, o14, none⟩) n c := hD59 4 _ (by decide) rfl (by kernel_rfl)
        have hv61 : fr54 19 = .int .i64 ((j : Int)) := hD59 5 _ (by decide) rfl (by kernel_rfl)
        exact DV.oe (dv_indexW (g := g13) (o := o14) (l := n) (c := c) (i := j) (j := (j : Int)) us37 sz5 (T rfl hv60) (T rfl hv61) (by omega) (by first | omega | (simp; omega))) (by rw [if_neg (by decide), if_neg (by decide)]; exact ⟨rfl, rfl⟩)
      · intro fr62 w63 hB64 hM65 hF66 hD67
        obtain rfl := hB64 (.inr (by kernel_rfl))
        have hv68 : fr62 20 = .pointer (some ⟨g13, o14 + j, none⟩) := hD67 6 _ (by decide) rfl (by kernel_rfl)
        have h69 := (h10.ext d16.ext)
        exact DV.oe (dv_load agt5 (T rfl hv68) (Wd.cell h69.wd (by first | omega | (simp; omega)))) (by rw [if_neg (by decide), if_neg (by decide)]; exact ⟨rfl, rfl⟩)
      · intro fr70 w71 hB72 hM73 hF74 hD75
        exact DV.oe (dv_move (T rfl ((hF74 0 (by kernel_rfl)).trans f6))) (by rw [if_neg (by decide), if_neg (by decide)]; exact ⟨rfl, rfl⟩)
      · intro fr76 w77 hB78 hM79 hF80 hD81
        exact DV.oe (dv_move (T rfl ((hF80 2 (by kernel_rfl)).trans f7))) (by rw [if_neg (by decide), if_neg (by decide)]; exact ⟨rfl, rfl⟩)
      · intro fr82 w83 hB84 hM85 hF86 hD87
        have hv88 : fr82 22 = .slice (some ⟨g13, o14, none⟩) n c := hD87 8 _ (by decide) rfl (by kernel_rfl)
        have hv89 : fr82 23 = .int .i64 ((i : Int)) := hD87 9 _ (by decide) rfl (by kernel_rfl)
        exact DV.oe (dv_indexW (g := g13) (o := o14) (l := n) (c := c) (i := i) (j := (i : Int)) us37 sz5 (T rfl hv88) (T rfl hv89) (by omega) (by first | omega | (simp; omega))) (by rw [if_neg (by decide), if_neg (by decide)]; exact ⟨rfl, rfl⟩)
      · intro fr90 w91 hB92 hM93 hF94 hD95
        obtain rfl := hB92 (.inr (by kernel_rfl))
        have hv96 : fr90 24 = .pointer (some ⟨g13, o14 + i, none⟩) := hD95 10 _ (by decide) rfl (by kernel_rfl)
        have h97 := (h10.ext d16.ext)
        exact DV.oe (dv_load agt5 (T rfl hv96) (Wd.cell h97.wd (by first | omega | (simp; omega)))) (by rw [if_neg (by decide), if_neg (by decide)]; exact ⟨rfl, rfl⟩)
      · intro fr98 w99 hB100 hM101 hF102 hD103
        obtain rfl := hB100 (.inr (by kernel_rfl))
        have hv104 : fr98 14 = .slice (some ⟨g13, o14, none⟩) n c := hD103 0 _ (by decide) rfl (by kernel_rfl)
        have hv105 : fr98 15 = .int .i64 ((i : Int)) := hD103 1 _ (by decide) rfl (by kernel_rfl)
        exact DV.oe (dv_indexW (g := g13) (o := o14) (l := n) (c := c) (i := i) (j := (i : Int)) us37 sz5 (T rfl hv104) (T rfl hv105) (by omega) (by first | omega | (simp; omega))) (by rw [if_neg (by decide), if_neg (by decide)]; exact ⟨rfl, rfl⟩)
      · intro fr106 w107 hB108 hM109 hF110 hD111
        obtain rfl := hB108 (.inl rfl)
        have hv112 : fr106 21 = .int .u8 (M.getD j 0) := hD111 7 _ (by decide) rfl (by kernel_rfl)
        have hv113 : fr106 26 = .pointer (some ⟨g13, o14 + i, none⟩) := hD111 12 _ (by decide) rfl (by kernel_rfl)
        have h114 := (h10.ext d16.ext)
        refine id (oe_storeOw (base := base) (L := M) (g := g13) (o := o14) (i := i) (z := M.getD j 0) sz5 (T rfl hv113) (T rfl hv112) h114 (by first | omega | (simp; omega)) ?_)
        intro w115 hO116 x117
        have E118 := below_bl E17 (Nat.le_refl _) x117
        rw [if_pos rfl]
        exact ⟨_, d16, x117, hO116⟩
      · intro fr119 w120 hB121 hM122 hF123 hD124
        have hv125 : fr119 16 = .slice (some ⟨g13, o14, none⟩) n c := hD124 2 _ (by decide) rfl (by kernel_rfl)
        have hv126 : fr119 17 = .int .i64 ((j : Int)) := hD124 3 _ (by decide) rfl (by kernel_rfl)
        exact DV.oe (dv_indexW (g := g13) (o := o14) (l := n) (c := c) (i := j) (j := (j : Int)) us37 sz5 (T rfl hv125) (T rfl hv126) (by omega) (by first | omega | (simp; omega))) (by rw [if_neg (by decide), if_neg (by decide)]; exact ⟨rfl, rfl⟩)
      · intro fr127 w128 hB129 hM130 hF131 hD132
        obtain ⟨w133, d134, x135, hO136⟩ := hM130 rfl
        have E137 := below_ext E9 (Nat.le_trans hb0 E9.size) d134.ext
        have E138 := below_bl E137 (Nat.le_refl _) x135
        have hv139 : fr127 25 = .int .u8 (M.getD i 0) := hD132 11 _ (by decide) rfl (by kernel_rfl)
        have hv140 : fr127 27 = .pointer (some ⟨g13, o14 + j, none⟩) := hD132 14 _ (by decide) rfl (by kernel_rfl)
        refine id (oe_storeOw (base := base) (L := (M.set i (M.getD j 0))) (g := g13) (o := o14) (i := j) (z := M.getD i 0) sz5 (T rfl hv140) (T rfl hv139) hO136 (by first | omega | (simp; omega)) ?_)
        intro w141 hO142 x143
        have E144 := below_bl E138 (Nat.le_refl _) x143
        rw [if_neg (by decide), if_pos rfl]
        exact ⟨_, d134, x135.trans x143, hO142⟩
    intro fr145 w146 hK147 hF148 hP149
    obtain ⟨w150, d151, x152, hO153⟩ := hK147
    have E154 := below_ext E9 (Nat.le_trans hb0 E9.size) d151.ext
    have E155 := below_bl E154 (Nat.le_refl _) x152
    obtain ⟨p156, p157, p158, p159, p160, p161, p162, p163, p164, p165, p166, p167, p168, _, p169, _, _⟩ := hP149
    have hv170 : fr145 14 = .slice (some ⟨g13, o14, none⟩) n c := p156.resolve_left (by decide)
    have hv171 : fr145 15 = .int .i64 ((i : Int)) := p157.resolve_left (by decide)
    have hv172 : fr145 16 = .slice (some ⟨g13, o14, none⟩) n c := p158.resolve_left (by decide)
    have hv173 : fr145 17 = .int .i64 ((j : Int)) := p159.resolve_left (by decide)
    have hv174 : fr145 18 = .slice (some ⟨g13, o14, none⟩) n c := p160.resolve_left (by decide)
    have hv175 : fr145 19 = .int .i64 ((j : Int)) := p161.resolve_left (by decide)
    have hv176 : fr145 20 = .pointer (some ⟨g13, o14 + j, none⟩) := p162.resolve_left (by decide)
    have hv177 : fr145 21 = .int .u8 (M.getD j 0) := p163.resolve_left (by decide)
    have hv178 : fr145 22 = .slice (some ⟨g13, o14, none⟩) n c := p164.resolve_left (by decide)
    have hv179 : fr145 23 = .int .i64 ((i : Int)) := p165.resolve_left (by decide)
    have hv180 : fr145 24 = .pointer (some ⟨g13, o14 + i, none⟩) := p166.resolve_left (by decide)
    have hv181 : fr145 25 = .int .u8 (M.getD i 0) := p167.resolve_left (by decide)
    have hv182 : fr145 26 = .pointer (some ⟨g13, o14 + i, none⟩) := p168.resolve_left (by decide)
    have hv183 : fr145 27 = .pointer (some ⟨g13, o14 + j, none⟩) := p169.resolve_left (by decide)
    refine rk_inBlock ?_
    refine rk_reg ?_
    refine lw_v (.int .i64 ((i : Int))) (dv_move (T rfl ((hF148 2 rfl).trans f7))) ?_
    refine lw_v (.int .i64 (((i : Int)) + 1)) (dv_add (a := (i : Int)) (b := 1) (z := ((i : Int)) + 1) (T rfl rfl) C (wr_i64 (by omega) (by omega))) ?_
    refine lw_v (.int .i64 ((j : Int))) (dv_move (T rfl ((hF148 3 rfl).trans f8))) ?_
    refine lw_v (.int .i64 (((j : Int)) - 1)) (dv_sub (a := (j : Int)) (b := 1) (z := ((j : Int)) - 1) (T rfl rfl) C (wr_i64 (by omega) (by omega))) ?_
    refine lw_v (.int .i64 (((i : Int)) + 1)) (dv_assign (T rfl rfl)) ?_
    refine lw_v (.int .i64 (((j : Int)) - 1)) (dv_assign (T rfl rfl)) ?_
    refine lw_nil ?_
    exact ih3 (n - ((i + 1))) _ _ (by rw [hd11]; omega) ⟨(i + 1), (j - 1), (((M.set i (M.getD j 0))).set j (M.getD i 0)), rfl, ((hF148 0 rfl).trans f6), (vi (by omega)), (vi (by omega)), E155, hO153, (rv_step hrv (by omega) (by omega)), (by simp [hM]), (by omega)⟩
  · -- LF
    refine rk_cf (T rfl (congrArg Value.bool (decide_eq_false hb12))) ?_
    refine rk_exit rfl ?_
    refine rk_end Try.func89 (v := .tuple #[]) (res0 Try.results89) ⟨_, rfl, ?_⟩
    have hz := rv_done hrv (by omega)
    exact ⟨rfl, E9, by rw [← hz]; exact h10⟩

set_option maxHeartbeats 1000000 in
theorem ntext_ok {w : World} {na : Bool} {Aa : Option Addr} {la ca : Nat} {x : Int} {sx : Nat} (ha : Num 64 22 .u64 w na Aa la ca x sx) (hs : sx ≤ 100000) : Ct Try.prog 52 [.agg #[.bool na, .slice Aa la ca]] w fun v w1 => v = .string (bOf (txtL x)) ∧ Ext w w1 := by
  refine ct_run (n := 49) Try.func52 rfl Try.ntmps52 rfl ?_
  have E0 : Below w.heap.size w w := Below.refl _ _
  have lha := Num.len (by decide) ha
  have hDs := dg_bits ha.lt
  refine rk_seq ?_
  refine rk_reg ?_
  refine lw_e (oe_box (v := .agg #[.bool na, .slice Aa la ca]) (cs := #[.bool na, .slice Aa la ca]) (T rfl rfl) rfl ?_)
  intro b1 w2 n3
  have N4 : w.heap.size ≤ b1 := n3.eq ▸ E0.size
  have E5 := below_ext E0 E0.size n3.ext
  refine lw_v (.string (bOf [])) (dv_assign C) ?_
  refine lw_nil ?_
  refine rk_seq ?_
  refine rk_reg ?_
  refine lw_e (oe_buildSlice0 us37 sz5 ?_)
  intro b6 w7 n8
  have N9 : w.heap.size ≤ b6 := n8.eq ▸ E5.size
  have : b1 < b6 := n8.eq ▸ lt_of_blk n3.blk
  have E10 := below_ext E5 E5.size n8.ext
  have hO11 := Ow.made (T := 5) (k := .u8) (z := .int .u8 0) (c := 0) n8 (by decide)
  refine lw_v (.slice (some ⟨b6, 0, none⟩) (([] : List Int).length) 0) (dv_assign (T rfl rfl)) ?_
  refine lw_nil ?_
  refine rk_seq ?_
  refine rk_seq ?_
  refine rk_reg ?_
  refine lw_v (.pointer (some ⟨b1, 1, none⟩)) (dv_fieldAddr (a := ⟨b1, 0, none⟩) (a' := ⟨b1, 1, none⟩) fo65_1 (T rfl rfl) rfl) ?_
  have H12 := (n8.ext.blk n3.blk)
  refine lw_v (.slice Aa la ca) (dv_load1 (b := b1) (o := 1) agt63 (T rfl rfl) H12 rfl) ?_
  refine lw_v (.slice Aa la ca) (dv_assign (T rfl rfl)) ?_
  refine lw_nil ?_
  refine rk_block ?_
  have h13 := ((ha.ext n3.ext).ext n8.ext)
  refine rk_loop (fun dm_ fr wl => ∃ (Ax : Option Addr) (lx cx : Nat) (X : Int) (L : List Int) (Ad : Option Addr) (cp : Nat), dm_ = X.toNat ∧ fr 1 = .pointer (some ⟨b1, 0, none⟩) ∧ fr 2 = .string (bOf []) ∧ fr 3 = .slice Ad (L.length) cp ∧ fr 4 = .slice Ax lx cx ∧ Below w.heap.size w wl ∧ wl.heap[b1]? = some (.cells #[.bool na, .slice Aa la ca] 65) ∧ Wc 64 22 .u64 wl Ax lx cx X ∧ Ow wl b6 5 .u8 Ad cp L ∧ (L ++ dg X.toNat = dg x.natAbs) ∧ (X < 2 ^ sx)) ((((x.natAbs : Int))).toNat) ⟨Aa, la, ca, ((x.natAbs : Int)), ([] : List Int), (some ⟨b6, 0, none⟩), 0, rfl, rfl, rfl, rfl, rfl, E10, H12, h13.wc, hO11, (by simp), h13.ltI⟩ ?_
  intro d18 fr17 w14 hI15 ih16
  obtain ⟨Ax, lx, cx, X, L, Ad, cp, hd27, f19, f20, f21, f22, E23, H24, h25, h26, hL, hXs⟩ := hI15
  have hXp := h25.pos
  have hXn := h25.nonneg
  have hlx := Wc.len (by decide) h25 hXs
  have hLD := congrArg List.length hL
  simp only [List.length_append] at hLD
  refine rk_seq ?_
  refine rk_seq ?_
  refine rk_reg ?_
  refine lw_v (.slice Ax lx cx) (dv_move (T rfl f22)) ?_
  refine lw_v (.int .i64 ((lx : Int))) (dv_len (ad := Ax) (l := lx) (c := cx) us63 (T rfl rfl)) ?_
  refine lw_v (.bool (decide (0 < ((lx : Int))))) (dv_gtr (a := (lx : Int)) (b := 0) (T rfl rfl) C) ?_
  refine lw_nil ?_
  by_cases hb28 : 0 < ((lx : Int))
  · -- LT
    refine rk_ct (T rfl (congrArg Value.bool (decide_eq_true hb28))) ?_
    refine rk_skip ?_
    refine rk_block ?_
    refine rk_seq ?_
    refine rk_reg ?_
    refine lw_v (.slice Ax lx cx) (dv_move (T rfl f22)) ?_
    refine lw_e (oe_buildSlice (pv := [(0, .int .u64 10)]) (init := [.int .u64 0]) (l := [.int .u64 10]) us63 sz22 rfl rfl zc22 (by kernel_rfl) ⟨rfl, C, trivial⟩ rfl ?_)
    intro b29 w30 n31
    have N32 : w.heap.size ≤ b29 := n31.eq ▸ E23.size
    have : b1 < b29 := n31.eq ▸ lt_of_blk H24
    have E33 := below_ext E23 E23.size n31.ext
    have h34 := (h25.ext n31.ext)
    refine lw_e (oe_callf (vs := [.slice Ax lx cx, .slice (some ⟨b29, 0, none⟩) 1 1]) co88 (ar2 (T rfl rfl) (T rfl rfl)) (divWords_ok h34 (Wc.lit1 (m := 64) n31.blk (by decide)) (by omega) (by first | omega | (simp; done) | (simp; omega)) (by first | omega | (simp; done) | (simp; omega))) ?_)
    rintro _ w43 ⟨A35, n36, c37, A38, n39, c40, rfl, e44, h41, h42⟩
    have E45 := below_ext E33 E33.size e44
    have lh41 := Wc.len (by decide) h41 (div_sz (Wc.nonneg h34) (by omega) hXs)
    have lh42 := Wc.len (by decide) h42 (mod_sz (by omega) (show (10 : Int) < 2 ^ 4 by decide))
    refine lw_v (.tuple #[.slice A35 n36 c37, .slice A38 n39 c40]) (dv_move (T rfl rfl)) ?_
    refine lw_v (.slice A35 n36 c37) (dv_extract (vs := #[.slice A35 n36 c37, .slice A38 n39 c40]) (T rfl rfl) rfl) ?_
    refine lw_v (.slice A38 n39 c40) (dv_extract (vs := #[.slice A35 n36 c37, .slice A38 n39 c40]) (T rfl rfl) rfl) ?_
    refine lw_v (.slice A35 n36 c37) (dv_assign (T rfl rfl)) ?_
    refine lw_v (.slice A38 n39 c40) (dv_assign (T rfl rfl)) ?_
    refine lw_nil ?_
    refine rk_seq ?_
    refine rk_reg ?_
    refine lw_v (.int .u8 48) (dv_assign C) ?_
    refine lw_nil ?_
    refine rk_seq ?_
    refine rk_seq ?_
    refine rk_reg ?_
    refine lw_v (.slice A38 n39 c40) (dv_move (T rfl rfl)) ?_
    refine lw_v (.int .i64 ((n39 : Int))) (dv_len (ad := A38) (l := n39) (c := c40) us63 (T rfl rfl)) ?_
    refine lw_v (.bool (decide (0 < ((n39 : Int))))) (dv_gtr (a := (n39 : Int)) (b := 0) (T rfl rfl) C) ?_
    refine lw_nil ?_
    by_cases hb46 : 0 < ((n39 : Int))
    · -- LTT
      refine rk_ct (T rfl (congrArg Value.bool (decide_eq_true hb46))) ?_
      obtain ⟨ys, hyl, hyc, hyw, oy, hyk, hyv⟩ := id h42
      have hy1 : ys.getD 0 0 = X % 10 := one_word oy (by omega) hyv (by omega)
      refine rk_reg ?_
      refine lw_v (.int .u8 48) (dv_move (T rfl rfl)) ?_
      refine lw_v (.slice A38 n39 c40) (dv_move (T rfl rfl)) ?_
      obtain ⟨g47, o48, rfl⟩ := Wd.at hyw (by first | omega | (simp; done) | (simp; omega))
      refine lw_v (.pointer (some ⟨g47, o48 + 0, none⟩)) (dv_indexW (g := g47) (o := o48) (l := n39) (c := c40) (i := 0) (j := 0) us63 sz22 (T rfl rfl) C (by omega) (by first | omega | (simp; done) | (simp; omega))) ?_
      refine lw_v (.int .u64 (ys.getD 0 0)) (dv_load agt22 (T rfl rfl) (Wd.cell hyw (by first | omega | (simp; done) | (simp; omega)))) ?_
      refine lw_v (.int .u8 ((ys.getD 0 0) % 256)) (dv_conv (a := ys.getD 0 0) (z := (ys.getD 0 0) % 256) ui22 ui5 (T rfl rfl) (wr_u8 _)) ?_
      refine lw_v (.int .u8 (48 + ((ys.getD 0 0) % 256))) (dv_add (a := 48) (b := (ys.getD 0 0) % 256) (z := 48 + ((ys.getD 0 0) % 256)) (T rfl rfl) (T rfl rfl) (wn_u8 (by omega) (by omega))) ?_
      refine lw_v (.int .u8 (48 + ((ys.getD 0 0) % 256))) (dv_assign (T rfl rfl)) ?_
      refine lw_nil ?_
      refine rk_reg ?_
      refine lw_v (.slice Ad (L.length) cp) (dv_move (T rfl f21)) ?_
      refine lw_v (.int .u8 (48 + ((ys.getD 0 0) % 256))) (dv_move (T rfl rfl)) ?_
      refine lw_e (oe_buildSlice (pv := [(0, .int .u8 (48 + ((ys.getD 0 0) % 256)))]) (init := [.int .u8 0]) (l := [.int .u8 (48 + ((ys.getD 0 0) % 256))]) us37 sz5 rfl rfl zc5 (by kernel_rfl) ⟨rfl, (T rfl rfl), trivial⟩ rfl ?_)
      intro b49 w50 n51
      have N52 : w.heap.size ≤ b49 := n51.eq ▸ E45.size
      have H53 := (e44.blk n31.blk)
      have : b29 < b49 := n51.eq ▸ lt_of_blk H53
      have E54 := below_ext E45 E45.size n51.ext
      have h55 := (((h26.ext n31.ext).ext e44).ext n51.ext)
      refine lw_e (oe_appendT (base := b6) (L := L) (M := [48 + ((ys.getD 0 0) % 256)]) (m := 1) us37 in5 (T rfl rfl) (T rfl rfl) h55 (Wd.ownW (xs := [48 + ((ys.getD 0 0) % 256)]) n51.blk) rfl (by first | omega | (simp; done) | (simp; omega)) (by first | omega | (simp; done) | (simp; omega)) ?_)
      intro Ad57 c58 w59 hO60 x61 bt56
      have E62 := below_bl E54 N9 x61
      refine lw_v (.slice A35 n36 c37) (dv_move (T rfl rfl)) ?_
      refine lw_v (.slice Ad57 ((L ++ [48 + ((ys.getD 0 0) % 256)]).length) c58) (dv_assign (T rfl rfl)) ?_
      refine lw_v (.slice A35 n36 c37) (dv_assign (T rfl rfl)) ?_
      refine lw_nil ?_
      refine rk_inBlock ?_
      have h63 := ((h41.ext n51.ext).bt bt56 (by decide))
      have hd64 : 48 + ((ys.getD 0 0) % 256) = 48 + X % 10 := by omega
      have H65 := (bl_blk x61 (n51.ext.blk (e44.blk (n31.ext.blk H24))) (by omega))
      exact ih16 (((X / 10)).toNat) _ _ (by rw [hd27]; omega) ⟨A35, n36, c37, (X / 10), (L ++ [48 + ((ys.getD 0 0) % 256)]), Ad57, c58, rfl, f19, f20, rfl, rfl, E62, H65, h63, hO60, (by rw [hd64]; exact txt_snoc (by omega) hL), (div_sz (Wc.nonneg h34) (by omega) hXs)⟩
    · -- LTF
      refine rk_cf (T rfl (congrArg Value.bool (decide_eq_false hb46))) ?_
      refine rk_skip ?_
      refine rk_reg ?_
      refine lw_v (.slice Ad (L.length) cp) (dv_move (T rfl f21)) ?_
      refine lw_v (.int .u8 48) (dv_move (T rfl rfl)) ?_
      refine lw_e (oe_buildSlice (pv := [(0, .int .u8 48)]) (init := [.int .u8 0]) (l := [.int .u8 48]) us37 sz5 rfl rfl zc5 (by kernel_rfl) ⟨rfl, (T rfl rfl), trivial⟩ rfl ?_)
      intro b66 w67 n68
      have N69 : w.heap.size ≤ b66 := n68.eq ▸ E45.size
      have H70 := (e44.blk n31.blk)
      have : b29 < b66 := n68.eq ▸ lt_of_blk H70
      have E71 := below_ext E45 E45.size n68.ext
      have h72 := (((h26.ext n31.ext).ext e44).ext n68.ext)
      refine lw_e (oe_appendT (base := b6) (L := L) (M := [48]) (m := 1) us37 in5 (T rfl rfl) (T rfl rfl) h72 (Wd.ownW (xs := [48]) n68.blk) rfl (by first | omega | (simp; done) | (simp; omega)) (by first | omega | (simp; done) | (simp; omega)) ?_)
      intro Ad74 c75 w76 hO77 x78 bt73
      have E79 := below_bl E71 N9 x78
      refine lw_v (.slice A35 n36 c37) (dv_move (T rfl rfl)) ?_
      refine lw_v (.slice Ad74 ((L ++ [48]).length) c75) (dv_assign (T rfl rfl)) ?_
      refine lw_v (.slice A35 n36 c37) (dv_assign (T rfl rfl)) ?_
      refine lw_nil ?_
      refine rk_inBlock ?_
      have h80 := ((h41.ext n68.ext).bt bt73 (by decide))
      have hd81 : 48 = 48 + X % 10 := by have := h42.pos; have := h42.nonneg; omega
      have H82 := (bl_blk x78 (n68.ext.blk (e44.blk (n31.ext.blk H24))) (by omega))
      exact ih16 (((X / 10)).toNat) _ _ (by rw [hd27]; omega) ⟨A35, n36, c37, (X / 10), (L ++ [48]), Ad74, c75, rfl, f19, f20, rfl, rfl, E79, H82, h80, hO77, (by rw [hd81]; exact txt_snoc (by omega) hL), (div_sz (Wc.nonneg h34) (by omega) hXs)⟩
  · -- LF
    refine rk_cf (T rfl (congrArg Value.bool (decide_eq_false hb28))) ?_
    refine rk_exit rfl ?_
    refine rk_seq ?_
    refine rk_seq ?_
    have hX0 : X = 0 := by omega
    subst hX0
    rw [show (0 : Int).toNat = 0 from rfl, dg_zero, List.append_nil] at hL
    refine rk_reg ?_
    refine lw_v (.slice Ad (L.length) cp) (dv_move (T rfl f21)) ?_
    refine lw_v (.int .i64 ((L.length : Int))) (dv_len (ad := Ad) (l := L.length) (c := cp) us37 (T rfl rfl)) ?_
    refine lw_v (.bool (decide (((L.length : Int)) = 0))) (dv_eql (a := (L.length : Int)) (b := 0) (T rfl rfl) C) ?_
    refine lw_nil ?_
    by_cases hb83 : ((L.length : Int)) = 0
    · -- LFT
      refine rk_ct (T rfl (congrArg Value.bool (decide_eq_true hb83))) ?_
      refine rk_reg ?_
      refine lw_v (.slice Ad (L.length) cp) (dv_move (T rfl f21)) ?_
      refine lw_e (oe_buildSlice (pv := [(0, .int .u8 48)]) (init := [.int .u8 0]) (l := [.int .u8 48]) us37 sz5 rfl rfl zc5 (by kernel_rfl) ⟨rfl, C, trivial⟩ rfl ?_)
      intro b84 w85 n86
      have N87 : w.heap.size ≤ b84 := n86.eq ▸ E23.size
      have : b1 < b84 := n86.eq ▸ lt_of_blk H24
      have E88 := below_ext E23 E23.size n86.ext
      have h89 := (h26.ext n86.ext)
      refine lw_e (oe_appendT (base := b6) (L := L) (M := [48]) (m := 1) us37 in5 (T rfl rfl) (T rfl rfl) h89 (Wd.ownW (xs := [48]) n86.blk) rfl (by first | omega | (simp; done) | (simp; omega)) (by first | omega | (simp; done) | (simp; omega)) ?_)
      intro Ad91 c92 w93 hO94 x95 bt90
      have E96 := below_bl E88 N9 x95
      refine lw_v (.slice Ad91 ((L ++ [48]).length) c92) (dv_assign (T rfl rfl)) ?_
      refine lw_nil ?_
      refine rk_seq ?_
      refine rk_seq ?_
      refine rk_reg ?_
      refine lw_v (.pointer (some ⟨b1, 0, none⟩)) (dv_fieldAddr (a := ⟨b1, 0, none⟩) (a' := ⟨b1, 0, none⟩) fo65_0 (T rfl f19) rfl) ?_
      have H97 := (bl_blk x95 (n86.ext.blk H24) (by omega))
      refine lw_v (.bool na) (dv_load1 (b := b1) (o := 0) agt4 (T rfl rfl) H97 rfl) ?_
      refine lw_nil ?_
      rcases Bool.eq_false_or_eq_true (na) with hb98 | hb98
      · -- LFTT
        refine rk_ct (T rfl (congrArg Value.bool hb98)) ?_
        refine rk_reg ?_
        refine lw_v (.slice Ad91 ((L ++ [48]).length) c92) (dv_move (T rfl rfl)) ?_
        refine lw_e (oe_buildSlice (pv := [(0, .int .u8 45)]) (init := [.int .u8 0]) (l := [.int .u8 45]) us37 sz5 rfl rfl zc5 (by kernel_rfl) ⟨rfl, C, trivial⟩ rfl ?_)
        intro b99 w100 n101
        have N102 : w.heap.size ≤ b99 := n101.eq ▸ E96.size
        have : b1 < b99 := n101.eq ▸ lt_of_blk H97
        have E103 := below_ext E96 E96.size n101.ext
        have h104 := (hO94.ext n101.ext)
        refine lw_e (oe_appendT (base := b6) (L := (L ++ [48])) (M := [45]) (m := 1) us37 in5 (T rfl rfl) (T rfl rfl) h104 (Wd.ownW (xs := [45]) n101.blk) rfl (by first | omega | (simp; done) | (simp; omega)) (by first | omega | (simp; done) | (simp; omega)) ?_)
        intro Ad106 c107 w108 hO109 x110 bt105
        have E111 := below_bl E103 N9 x110
        refine lw_v (.slice Ad106 (((L ++ [48]) ++ [45]).length) c107) (dv_assign (T rfl rfl)) ?_
        refine lw_nil ?_
        refine rk_seq ?_
        refine rk_reg ?_
        refine lw_v (.slice Ad106 (((L ++ [48]) ++ [45]).length) c107) (dv_move (T rfl rfl)) ?_
        refine lw_e (oe_callf (vs := [.slice Ad106 (((L ++ [48]) ++ [45]).length) c107]) co89 (ar1 (T rfl rfl)) (rev_ok hO109 rfl (by first | omega | (simp; done) | (simp; omega)) (by first | omega | (simp; done) | (simp; omega))) ?_)
        rintro _ w113 ⟨rfl, e114, hO112⟩
        have E115 := below_bl E111 N9 e114
        refine lw_nil ?_
        refine rk_seq ?_
        refine rk_reg ?_
        refine lw_v (.slice Ad106 (((L ++ [48]) ++ [45]).length) c107) (dv_move (T rfl rfl)) ?_
        refine lw_v (.string (bOf (((((L ++ [48]) ++ [45])).reverse)))) (dv_convBS (L := ((((L ++ [48]) ++ [45])).reverse)) (A := Ad106) (l := ((L ++ [48]) ++ [45]).length) (c := c107) us37 ui5 ut9 (by exact (T rfl rfl)) hO112.wd (by first | rfl | (simp; done) | (simp; omega))) ?_
        refine lw_v (.string (bOf (((((L ++ [48]) ++ [45])).reverse)))) (dv_assign (T rfl rfl)) ?_
        refine lw_nil ?_
        refine rk_ret Try.func52 (v := .string (bOf (((((L ++ [48]) ++ [45])).reverse)))) (res1 Try.results52 (rv_tmp rfl rfl)) ⟨_, rfl, ?_⟩
        have hneg := ha.neg_iff
        exact ⟨congrArg (fun l => Value.string (bOf l)) ((absurd (hneg.1 (by assumption)) (txt_fin10 hL (by omega)).2)), E115⟩
      · -- LFTF
        refine rk_cf (T rfl (congrArg Value.bool hb98)) ?_
        refine rk_skip ?_
        refine rk_seq ?_
        refine rk_reg ?_
        refine lw_v (.slice Ad91 ((L ++ [48]).length) c92) (dv_move (T rfl rfl)) ?_
        refine lw_e (oe_callf (vs := [.slice Ad91 ((L ++ [48]).length) c92]) co89 (ar1 (T rfl rfl)) (rev_ok hO94 rfl (by first | omega | (simp; done) | (simp; omega)) (by first | omega | (simp; done) | (simp; omega))) ?_)
        rintro _ w117 ⟨rfl, e118, hO116⟩
        have E119 := below_bl E96 N9 e118
        refine lw_nil ?_
        refine rk_seq ?_
        refine rk_reg ?_
        refine lw_v (.slice Ad91 ((L ++ [48]).length) c92) (dv_move (T rfl rfl)) ?_
        refine lw_v (.string (bOf ((((L ++ [48])).reverse)))) (dv_convBS (L := (((L ++ [48])).reverse)) (A := Ad91) (l := (L ++ [48]).length) (c := c92) us37 ui5 ut9 (by exact (T rfl rfl)) hO116.wd (by first | rfl | (simp; done) | (simp; omega))) ?_
        refine lw_v (.string (bOf ((((L ++ [48])).reverse)))) (dv_assign (T rfl rfl)) ?_
        refine lw_nil ?_
        refine rk_ret Try.func52 (v := .string (bOf ((((L ++ [48])).reverse)))) (res1 Try.results52 (rv_tmp rfl rfl)) ⟨_, rfl, ?_⟩
        have hneg := ha.neg_iff
        exact ⟨congrArg (fun l => Value.string (bOf l)) ((txt_fin10 hL (by omega)).1), E119⟩
    · -- LFF
      refine rk_cf (T rfl (congrArg Value.bool (decide_eq_false hb83))) ?_
      refine rk_skip ?_
      refine rk_seq ?_
      refine rk_seq ?_
      refine rk_reg ?_
      refine lw_v (.pointer (some ⟨b1, 0, none⟩)) (dv_fieldAddr (a := ⟨b1, 0, none⟩) (a' := ⟨b1, 0, none⟩) fo65_0 (T rfl f19) rfl) ?_
      refine lw_v (.bool na) (dv_load1 (b := b1) (o := 0) agt4 (T rfl rfl) H24 rfl) ?_
      refine lw_nil ?_
      rcases Bool.eq_false_or_eq_true (na) with hb120 | hb120
      · -- LFFT
        refine rk_ct (T rfl (congrArg Value.bool hb120)) ?_
        refine rk_reg ?_
        refine lw_v (.slice Ad (L.length) cp) (dv_move (T rfl f21)) ?_
        refine lw_e (oe_buildSlice (pv := [(0, .int .u8 45)]) (init := [.int .u8 0]) (l := [.int .u8 45]) us37 sz5 rfl rfl zc5 (by kernel_rfl) ⟨rfl, C, trivial⟩ rfl ?_)
        intro b121 w122 n123
        have N124 : w.heap.size ≤ b121 := n123.eq ▸ E23.size
        have : b1 < b121 := n123.eq ▸ lt_of_blk H24
        have E125 := below_ext E23 E23.size n123.ext
        have h126 := (h26.ext n123.ext)
        refine lw_e (oe_appendT (base := b6) (L := L) (M := [45]) (m := 1) us37 in5 (T rfl rfl) (T rfl rfl) h126 (Wd.ownW (xs := [45]) n123.blk) rfl (by first | omega | (simp; done) | (simp; omega)) (by first | omega | (simp; done) | (simp; omega)) ?_)
        intro Ad128 c129 w130 hO131 x132 bt127
        have E133 := below_bl E125 N9 x132
        refine lw_v (.slice Ad128 ((L ++ [45]).length) c129) (dv_assign (T rfl rfl)) ?_
        refine lw_nil ?_
        refine rk_seq ?_
        refine rk_reg ?_
        refine lw_v (.slice Ad128 ((L ++ [45]).length) c129) (dv_move (T rfl rfl)) ?_
        refine lw_e (oe_callf (vs := [.slice Ad128 ((L ++ [45]).length) c129]) co89 (ar1 (T rfl rfl)) (rev_ok hO131 rfl (by first | omega | (simp; done) | (simp; omega)) (by first | omega | (simp; done) | (simp; omega))) ?_)
        rintro _ w135 ⟨rfl, e136, hO134⟩
        have E137 := below_bl E133 N9 e136
        refine lw_nil ?_
        refine rk_seq ?_
        refine rk_reg ?_
        refine lw_v (.slice Ad128 ((L ++ [45]).length) c129) (dv_move (T rfl rfl)) ?_
        refine lw_v (.string (bOf ((((L ++ [45])).reverse)))) (dv_convBS (L := (((L ++ [45])).reverse)) (A := Ad128) (l := (L ++ [45]).length) (c := c129) us37 ui5 ut9 (by exact (T rfl rfl)) hO134.wd (by first | rfl | (simp; done) | (simp; omega))) ?_
        refine lw_v (.string (bOf ((((L ++ [45])).reverse)))) (dv_assign (T rfl rfl)) ?_
        refine lw_nil ?_
        refine rk_ret Try.func52 (v := .string (bOf ((((L ++ [45])).reverse)))) (res1 Try.results52 (rv_tmp rfl rfl)) ⟨_, rfl, ?_⟩
        have hneg := ha.neg_iff
        exact ⟨congrArg (fun l => Value.string (bOf l)) (txt_fin01 hL (by omega) (hneg.1 (by assumption))), E137⟩
      · -- LFFF
        refine rk_cf (T rfl (congrArg Value.bool hb120)) ?_
        refine rk_skip ?_
        refine rk_seq ?_
        refine rk_reg ?_
        refine lw_v (.slice Ad (L.length) cp) (dv_move (T rfl f21)) ?_
        refine lw_e (oe_callf (vs := [.slice Ad (L.length) cp]) co89 (ar1 (T rfl rfl)) (rev_ok h26 rfl (by first | omega | (simp; done) | (simp; omega)) (by first | omega | (simp; done) | (simp; omega))) ?_)
        rintro _ w139 ⟨rfl, e140, hO138⟩
        have E141 := below_bl E23 N9 e140
        refine lw_nil ?_
        refine rk_seq ?_
        refine rk_reg ?_
        refine lw_v (.slice Ad (L.length) cp) (dv_move (T rfl f21)) ?_
        refine lw_v (.string (bOf ((L.reverse)))) (dv_convBS (L := (L.reverse)) (A := Ad) (l := L.length) (c := cp) us37 ui5 ut9 (by exact (T rfl rfl)) hO138.wd (by first | rfl | (simp; done) | (simp; omega))) ?_
        refine lw_v (.string (bOf ((L.reverse)))) (dv_assign (T rfl rfl)) ?_
        refine lw_nil ?_
        refine rk_ret Try.func52 (v := .string (bOf ((L.reverse)))) (res1 Try.results52 (rv_tmp rfl rfl)) ⟨_, rfl, ?_⟩
        have hneg := ha.neg_iff
        exact ⟨congrArg (fun l => Value.string (bOf l)) (txt_fin00 hL (by omega) (fun hh => by have := hneg.2 hh; simp_all)), E141⟩

set_option maxHeartbeats 1000000 in
theorem l1Text_ok {w : World} {na : Bool} {Aa : Option Addr} {la ca : Nat} {x : Int} {sx : Nat} (ha : Num 32 102 .u32 w na Aa la ca x sx) (hs : sx ≤ 100000) : Ct Try.prog 49 [.agg #[.bool na, .slice Aa la ca]] w fun v w1 => v = .string (bOf (txtL x)) ∧ Ext w w1 := by
  refine ct_run (n := 58) Try.func49 rfl Try.ntmps49 rfl ?_
  have E0 : Below w.heap.size w w := Below.refl _ _
  have lha := Num.len (by decide) ha
  have hDs := dg_bits ha.lt
  refine rk_seq ?_
  refine rk_reg ?_
  refine lw_e (oe_box (v := .agg #[.bool na, .slice Aa la ca]) (cs := #[.bool na, .slice Aa la ca]) (T rfl rfl) rfl ?_)
  intro b1 w2 n3
  have N4 : w.heap.size ≤ b1 := n3.eq ▸ E0.size
  have E5 := below_ext E0 E0.size n3.ext
  refine lw_v (.string (bOf [])) (dv_assign C) ?_
  refine lw_nil ?_
  refine rk_seq ?_
  refine rk_seq ?_
  refine rk_reg ?_
  refine lw_v (.pointer (some ⟨b1, 1, none⟩)) (dv_fieldAddr (a := ⟨b1, 0, none⟩) (a' := ⟨b1, 1, none⟩) fo61_1 (T rfl rfl) rfl) ?_
  refine lw_v (.slice Aa la ca) (dv_load1 (b := b1) (o := 1) agt59 (T rfl rfl) n3.blk rfl) ?_
  refine lw_v (.int .i64 ((la : Int))) (dv_len (ad := Aa) (l := la) (c := ca) us59 (T rfl rfl)) ?_
  refine lw_v (.bool (decide (((la : Int)) = 0))) (dv_eql (a := (la : Int)) (b := 0) (T rfl rfl) C) ?_
  refine lw_nil ?_
  by_cases hb6 : ((la : Int)) = 0
  · -- T
    refine rk_ct (T rfl (congrArg Value.bool (decide_eq_true hb6))) ?_
    refine rk_seq ?_
    refine rk_reg ?_
    refine lw_v (.string (bOf [48])) (dv_assign C) ?_
    refine lw_nil ?_
    refine rk_ret Try.func49 (v := .string (bOf [48])) (res1 Try.results49 (rv_tmp rfl rfl)) ⟨_, rfl, ?_⟩
    have hp0 := ha.wc.pos
    have hneg := ha.neg_iff
    exact ⟨congrArg (fun l => Value.string (bOf l)) (by have h0 : x = 0 := (by omega); rw [h0]; rfl), E5⟩
  · -- F
    refine rk_cf (T rfl (congrArg Value.bool (decide_eq_false hb6))) ?_
    refine rk_skip ?_
    refine rk_seq ?_
    refine rk_reg ?_
    refine lw_v (.string (bOf [])) (dv_assign C) ?_
    refine lw_nil ?_
    refine rk_seq ?_
    refine rk_reg ?_
    refine lw_v (.pointer (some ⟨b1, 1, none⟩)) (dv_fieldAddr (a := ⟨b1, 0, none⟩) (a' := ⟨b1, 1, none⟩) fo61_1 (T rfl rfl) rfl) ?_
    refine lw_v (.slice Aa la ca) (dv_load1 (b := b1) (o := 1) agt59 (T rfl rfl) n3.blk rfl) ?_
    refine lw_v (.slice Aa la ca) (dv_assign (T rfl rfl)) ?_
    refine lw_nil ?_
    refine rk_seq ?_
    refine rk_block ?_
    have h7 := (ha.ext n3.ext)
    refine rk_loop (fun dm_ fr wl => ∃ (Ax : Option Addr) (lx cx : Nat) (X : Int) (M : List Int), dm_ = X.toNat ∧ fr 1 = .pointer (some ⟨b1, 0, none⟩) ∧ fr 2 = .string (bOf []) ∧ fr 3 = .string (bOf M) ∧ fr 4 = .slice Ax lx cx ∧ Below w.heap.size w wl ∧ wl.heap[b1]? = some (.cells #[.bool na, .slice Aa la ca] 61) ∧ Wc 32 102 .u32 wl Ax lx cx X ∧ ((dg X.toNat).reverse ++ M = (dg x.natAbs).reverse) ∧ (X < 2 ^ sx)) ((((x.natAbs : Int))).toNat) ⟨Aa, la, ca, ((x.natAbs : Int)), [], rfl, rfl, rfl, rfl, rfl, E5, n3.blk, h7.wc, (by simp), h7.ltI⟩ ?_
    intro d12 fr11 w8 hI9 ih10
    obtain ⟨Ax, lx, cx, X, M, hd20, f13, f14, f15, f16, E17, H18, h19, hM, hXs⟩ := hI9
    have hXp := h19.pos
    have hXn := h19.nonneg
    have hlx := Wc.len (by decide) h19 hXs
    have hMl := congrArg List.length hM
    simp only [List.length_append, List.length_reverse] at hMl
    obtain ⟨xs, hxl, hxc, hxw, ox, hxk, hxv⟩ := id h19
    refine rk_seq ?_
    refine rk_seq ?_
    refine rk_reg ?_
    refine lw_v (.slice Ax lx cx) (dv_move (T rfl f16)) ?_
    refine lw_v (.int .i64 ((lx : Int))) (dv_len (ad := Ax) (l := lx) (c := cx) us59 (T rfl rfl)) ?_
    refine lw_v (.bool (decide (0 < ((lx : Int))))) (dv_gtr (a := (lx : Int)) (b := 0) (T rfl rfl) C) ?_
    refine lw_nil ?_
    by_cases hb21 : 0 < ((lx : Int))
    · -- FLT
      refine rk_ct (T rfl (congrArg Value.bool (decide_eq_true hb21))) ?_
      refine rk_skip ?_
      refine rk_block ?_
      refine rk_seq ?_
      refine rk_reg ?_
      refine lw_v (.slice Ax lx cx) (dv_move (T rfl f16)) ?_
      refine lw_v (.int .i64 ((lx : Int))) (dv_len (ad := Ax) (l := lx) (c := cx) us59 (T rfl rfl)) ?_
      refine lw_e (oe_makeW (l := lx) (j := (lx : Int)) us59 in102 (T rfl rfl) (T rfl rfl) (by omega) (by first | omega | (simp; done) | (simp; omega)) (by first | omega | (simp; done) | (simp; omega)) ?_)
      intro b22 w23 n24
      have N25 : w.heap.size ≤ b22 := n24.eq ▸ E17.size
      have : b1 < b22 := n24.eq ▸ lt_of_blk H18
      have E26 := below_ext E17 E17.size n24.ext
      refine lw_v (.slice (some ⟨b22, 0, none⟩) lx lx) (dv_assign (T rfl rfl)) ?_
      refine lw_nil ?_
      refine rk_seq ?_
      refine rk_reg ?_
      refine lw_v (.int .u64 0) (dv_assign C) ?_
      refine lw_nil ?_
      refine rk_seq ?_
      refine rk_seq ?_
      refine rk_reg ?_
      refine lw_v (.slice Ax lx cx) (dv_move (T rfl f16)) ?_
      refine lw_v (.int .i64 ((lx : Int))) (dv_len (ad := Ax) (l := lx) (c := cx) us59 (T rfl rfl)) ?_
      refine lw_v (.int .i64 (((lx : Int)) - 1)) (dv_sub (a := (lx : Int)) (b := 1) (z := ((lx : Int)) - 1) (T rfl rfl) C (wr_i64 (by omega) (by omega))) ?_
      refine lw_v (.int .i64 (((lx : Int)) - 1)) (dv_assign (T rfl rfl)) ?_
      refine lw_nil ?_
      refine rk_block ?_
      have hE27 : Below w8.heap.size w8 _ := below_ext (Below.refl _ _) (Nat.le_refl _) n24.ext
      have hb5 : w8.heap.size ≤ b22 := by have := n24.eq; omega
      have H28 := (n24.ext.blk H18)
      refine rk_loop (fun dm_ fr wl => ∃ (j : Nat) (L : List Int) (r : Int), dm_ = j ∧ fr 1 = .pointer (some ⟨b1, 0, none⟩) ∧ fr 2 = .string (bOf []) ∧ fr 3 = .string (bOf M) ∧ fr 4 = .slice Ax lx cx ∧ fr 5 = .slice (some ⟨b22, 0, none⟩) lx lx ∧ fr 6 = .int .u64 r ∧ fr 7 = .int .i64 ((j : Int) - 1) ∧ fr 14 = .slice Ax lx cx ∧ fr 15 = .int .i64 ((lx : Int)) ∧ fr 16 = .bool (decide (0 < ((lx : Int)))) ∧ fr 17 = .slice Ax lx cx ∧ fr 18 = .int .i64 ((lx : Int)) ∧ fr 19 = .slice (some ⟨b22, 0, none⟩) lx lx ∧ fr 20 = .slice Ax lx cx ∧ fr 21 = .int .i64 ((lx : Int)) ∧ fr 22 = .int .i64 (((lx : Int)) - 1) ∧ Below w.heap.size w wl ∧ wl.heap[b1]? = some (.cells #[.bool na, .slice Aa la ca] 61) ∧ wl.heap[b22]? = some (.cells (L.map (Value.int .u32)).toArray 102) ∧ (j ≤ lx) ∧ (L.length = lx) ∧ (okW (2 ^ 32) L) ∧ (valB (2 ^ 32) (L.drop j) = valB (2 ^ 32) (xs.drop j) / 10) ∧ (r = valB (2 ^ 32) (xs.drop j) % 10) ∧ (Below w8.heap.size w8 wl)) (lx) ⟨lx, (List.replicate lx (0 : Int)), 0, rfl, f13, f14, f15, f16, rfl, rfl, (vi (by omega)), rfl, rfl, rfl, rfl, rfl, rfl, rfl, rfl, rfl, E26, H28, n24.blk, (Nat.le_refl _), (by simp), (okW.replicate (by decide) _), (by rw [List.drop_of_length_le (by simp), List.drop_of_length_le (by omega)]; simp [valB]), (by rw [List.drop_of_length_le (by omega)]; simp [valB]), hE27⟩ ?_
      intro d33 fr32 w29 hI30 ih31
      obtain ⟨j, L, r, hd53, f34, f35, f36, f37, f38, f39, f40, f41, f42, f43, f44, f45, f46, f47, f48, f49, E50, H51, H52, hj, hLl, hok, hLv, hrv, hE2⟩ := hI30
      have hwq := hxw.ext hE2
      have gx := okW.getD ox (by decide) (j - 1)
      have hr9 : 0 ≤ r ∧ r < 10 := by omega
      refine rk_seq ?_
      refine rk_seq ?_
      refine rk_reg ?_
      refine lw_v (.int .i64 ((j : Int) - 1)) (dv_move (T rfl f40)) ?_
      refine lw_v (.bool (decide (0 ≤ ((j : Int) - 1)))) (dv_geq (a := (j : Int) - 1) (b := 0) (T rfl rfl) C) ?_
      refine lw_nil ?_
      by_cases hb54 : 0 ≤ ((j : Int) - 1)
      · -- FLTLT
        refine rk_ct (T rfl (congrArg Value.bool (decide_eq_true hb54))) ?_
        refine rk_skip ?_
        refine rk_seq ?_
        refine rk_block ?_
        refine rk_seq ?_
        refine rk_reg ?_
        refine lw_v (.int .u64 r) (dv_move (T rfl f39)) ?_
        refine lw_v (.int .u64 (r * 4294967296)) (dv_shl (a := r) (b := 32) (z := r * 4294967296) (T rfl rfl) C (by decide) (shl_c (m := 4294967296) (n := 32) (by decide) (wn_u64 (by omega) (by omega)))) ?_
        refine lw_v (.slice Ax lx cx) (dv_move (T rfl f37)) ?_
        refine lw_v (.int .i64 ((j : Int) - 1)) (dv_move (T rfl f40)) ?_
        obtain ⟨g55, o56, rfl⟩ := Wd.at hwq (by first | omega | (simp; done) | (simp; omega))
        refine lw_v (.pointer (some ⟨g55, o56 + (j - 1), none⟩)) (dv_indexW (g := g55) (o := o56) (l := lx) (c := cx) (i := (j - 1)) (j := (j : Int) - 1) us59 sz102 (T rfl rfl) (T rfl rfl) (by omega) (by first | omega | (simp; done) | (simp; omega))) ?_
        refine lw_v (.int .u32 (xs.getD ((j - 1)) 0)) (dv_load agt102 (T rfl rfl) (Wd.cell hwq (by first | omega | (simp; done) | (simp; omega)))) ?_
        refine lw_v (.int .u64 (xs.getD ((j - 1)) 0)) (dv_conv (a := xs.getD ((j - 1)) 0) (z := xs.getD ((j - 1)) 0) ui102 ui22 (T rfl rfl) (wn_u64 (by omega) (by omega))) ?_
        refine lw_v (.int .u64 ((xs.getD ((j - 1)) 0) + (r * 4294967296))) (dv_or (a := r * 4294967296) (b := xs.getD ((j - 1)) 0) (z := (xs.getD ((j - 1)) 0) + (r * 4294967296)) (T rfl rfl) (T rfl rfl) (or_add (k := .u64) (a := xs.getD ((j - 1)) 0) (b := r * 4294967296) (i := 32) rfl (by omega) (by omega) (by omega) (by omega) (lt64 (by omega)) (lt64 (by omega))).2) ?_
        refine lw_v (.int .u64 ((xs.getD ((j - 1)) 0) + (r * 4294967296))) (dv_assign (T rfl rfl)) ?_
        refine lw_nil ?_
        refine rk_seq ?_
        refine rk_reg ?_
        refine lw_v (.slice (some ⟨b22, 0, none⟩) lx lx) (dv_move (T rfl f38)) ?_
        refine lw_v (.int .i64 ((j : Int) - 1)) (dv_move (T rfl f40)) ?_
        refine lw_v (.int .u64 ((xs.getD ((j - 1)) 0) + (r * 4294967296))) (dv_move (T rfl rfl)) ?_
        refine lw_v (.int .u64 (((xs.getD ((j - 1)) 0) + (r * 4294967296)) / 10)) (dv_quo (a := (xs.getD ((j - 1)) 0) + (r * 4294967296)) (b := 10) (z := ((xs.getD ((j - 1)) 0) + (r * 4294967296)) / 10) (T rfl rfl) C (by decide) (quo_c (by omega) (by decide) (wn_u64 (by omega) (by omega)))) ?_
        refine lw_v (.int .u32 ((((xs.getD ((j - 1)) 0) + (r * 4294967296)) / 10) % 4294967296)) (dv_conv (a := ((xs.getD ((j - 1)) 0) + (r * 4294967296)) / 10) (z := (((xs.getD ((j - 1)) 0) + (r * 4294967296)) / 10) % 4294967296) ui22 ui102 (T rfl rfl) (wr_u32 _)) ?_
        refine lw_v (.pointer (some ⟨b22, ((j - 1)), none⟩)) (dv_indexO (g := b22) (l := lx) (c := lx) (i := (j - 1)) (j := (j : Int) - 1) us59 sz102 (T rfl rfl) (T rfl rfl) (by omega) (by first | omega | (simp; done) | (simp; omega))) ?_
        refine lw_e (oe_storeW (L := L) (i := (j - 1)) (z := (((xs.getD ((j - 1)) 0) + (r * 4294967296)) / 10) % 4294967296) sz102 (T rfl rfl) (T rfl rfl) H52 (by first | omega | (simp; done) | (simp; omega)) ?_)
        intro w57 s58 H59
        have E60 := below_st E50 N25 s58
        refine lw_nil ?_
        refine rk_reg ?_
        refine lw_v (.int .u64 ((xs.getD ((j - 1)) 0) + (r * 4294967296))) (dv_move (T rfl rfl)) ?_
        refine lw_v (.int .u64 (((xs.getD ((j - 1)) 0) + (r * 4294967296)) % 10)) (dv_rem (a := (xs.getD ((j - 1)) 0) + (r * 4294967296)) (b := 10) (z := ((xs.getD ((j - 1)) 0) + (r * 4294967296)) % 10) (T rfl rfl) C (by decide) (rem_c (by omega) rfl)) ?_
        refine lw_v (.int .u64 (((xs.getD ((j - 1)) 0) + (r * 4294967296)) % 10)) (dv_assign (T rfl rfl)) ?_
        refine lw_nil ?_
        refine rk_inBlock ?_
        refine rk_reg ?_
        refine lw_v (.int .i64 ((j : Int) - 1)) (dv_move (T rfl f40)) ?_
        refine lw_v (.int .i64 (((j : Int) - 1) - 1)) (dv_sub (a := (j : Int) - 1) (b := 1) (z := ((j : Int) - 1) - 1) (T rfl rfl) C (wr_i64 (by omega) (by omega))) ?_
        refine lw_v (.int .i64 (((j : Int) - 1) - 1)) (dv_assign (T rfl rfl)) ?_
        refine lw_nil ?_
        have hq61 : ((xs.getD ((j - 1)) 0) + (r * 4294967296)) / 10 % 4294967296 = ((xs.getD ((j - 1)) 0) + (r * 4294967296)) / 10 := by omega
        have H62 := (s58.blk H51 (by omega))
        exact ih31 (((j - 1))) _ _ (by rw [hd53]; omega) ⟨(j - 1), (L.set ((j - 1)) ((((xs.getD ((j - 1)) 0) + (r * 4294967296)) / 10) % 4294967296)), (((xs.getD ((j - 1)) 0) + (r * 4294967296)) % 10), rfl, f34, f35, f36, f37, f38, rfl, (vi (by omega)), f41, f42, f43, f44, f45, f46, f47, f48, f49, E60, H62, H59, (by omega), (by simp [hLl]), (okW.set hok (by omega) (by omega) _), (by rw [hq61]; exact (ten_step (by omega) (by omega) (by omega) hLv hrv).1), (ten_step (by omega) (by omega) (by omega) hLv hrv).2, (below_st hE2 hb5 s58)⟩
      · -- FLTLF
        refine rk_cf (T rfl (congrArg Value.bool (decide_eq_false hb54))) ?_
        refine rk_exit rfl ?_
        refine rk_seq ?_
        have hj0 : j = 0 := by omega
        have hL0 := hLv
        rw [hj0, List.drop_zero, List.drop_zero, ← hxv] at hL0
        have hr0 := hrv
        rw [hj0, List.drop_zero, ← hxv] at hr0
        refine rk_reg ?_
        refine lw_v (.int .u64 r) (dv_move (T rfl f39)) ?_
        refine lw_v (.int .u64 (48 + r)) (dv_add (a := 48) (b := r) (z := 48 + r) C (T rfl rfl) (wn_u64 (by omega) (by omega))) ?_
        refine lw_v (.int .u8 ((48 + r) % 256)) (dv_conv (a := 48 + r) (z := (48 + r) % 256) ui22 ui5 (T rfl rfl) (wr_u8 _)) ?_
        refine lw_e (oe_buildSlice (pv := [(0, .int .u8 ((48 + r) % 256))]) (init := [.int .u8 0]) (l := [.int .u8 ((48 + r) % 256)]) us37 sz5 rfl rfl zc5 (by kernel_rfl) ⟨rfl, (T rfl rfl), trivial⟩ rfl ?_)
        intro b63 w64 n65
        have N66 : w.heap.size ≤ b63 := n65.eq ▸ E50.size
        have : b22 < b63 := n65.eq ▸ lt_of_blk H52
        have E67 := below_ext E50 E50.size n65.ext
        refine lw_v (.string (bOf ([(48 + r) % 256]))) (dv_convBS (L := [(48 + r) % 256]) (A := some ⟨b63, 0, none⟩) (l := 1) (c := 1) us37 ui5 ut9 (by exact (T rfl rfl)) (Wd.ownW (xs := [(48 + r) % 256]) n65.blk) (by first | rfl | omega | (simp; done) | (simp; omega))) ?_
        refine lw_v (.string (bOf M)) (dv_move (T rfl f36)) ?_
        refine lw_v (.string (bOf (([(48 + r) % 256]) ++ M))) (dv_addS (L := ([(48 + r) % 256])) (M := M) (T rfl rfl) (T rfl rfl) (by simp; omega)) ?_
        refine lw_v (.string (bOf (([(48 + r) % 256]) ++ M))) (dv_assign (T rfl rfl)) ?_
        refine lw_nil ?_
        refine rk_reg ?_
        refine lw_v (.slice (some ⟨b22, 0, none⟩) lx lx) (dv_move (T rfl f38)) ?_
        have H68 := (n65.ext.blk H52)
        refine lw_e (oe_callf (vs := [.bool false, .slice (some ⟨b22, 0, none⟩) lx lx]) co82 (ar2 C (T rfl rfl)) (l1Trim_num (s := (32 * lx)) (neg := false) (⟨L, (by first | rfl | omega | (simp; done) | (simp; omega)), (by first | rfl | omega | (simp; done) | (simp; omega)), Wd.ownW H68, hok, rfl⟩ : Ws _ _ _ _ _ _ _ _) (by first | omega | (simp; done) | (simp; omega)) (valB_sz hok (by first | rfl | omega | (simp; done) | (simp; omega)))) ?_)
        rintro _ w74 ⟨nb69, A70, n71, c72, rfl, e75, hn73⟩
        have E76 := below_ext E67 E67.size e75
        have lhn73 := Num.len (by decide) hn73
        refine lw_v (.slice A70 n71 c72) (dv_field (v := .slice A70 n71 c72) fb61_1 agt59 (T rfl rfl) rfl) ?_
        refine lw_v (.slice A70 n71 c72) (dv_assign (T rfl rfl)) ?_
        refine lw_nil ?_
        refine rk_inBlock ?_
        have hvn : (0 : Int) ≤ valB (2 ^ 32) L := valB_nonneg (by decide) hok
        have hz77 : ((sg false (valB (2 ^ 32) L)).natAbs : Int) = X / 10 := by simp only [sg_false]; omega
        have H78 := (e75.blk (n65.ext.blk H51))
        exact ih10 (((X / 10)).toNat) _ _ (by rw [hd20]; omega) ⟨A70, n71, c72, (X / 10), ((([(48 + r) % 256]) ++ M)), rfl, f34, f35, rfl, rfl, E76, H78, (Wc.eq hn73.wc hz77), (by have h := txt_step (by omega) hM; rw [show ((48 + r) % 256 : Int) = 48 + X % 10 by omega]; exact h), (by omega)⟩
    · -- FLF
      refine rk_cf (T rfl (congrArg Value.bool (decide_eq_false hb21))) ?_
      refine rk_exit rfl ?_
      refine rk_seq ?_
      refine rk_seq ?_
      have hX0 : X = 0 := by omega
      have hM2 := hM
      rw [hX0, show (0 : Int).toNat = 0 from rfl, dg_zero, List.reverse_nil, List.nil_append] at hM2
      refine rk_reg ?_
      refine lw_v (.pointer (some ⟨b1, 0, none⟩)) (dv_fieldAddr (a := ⟨b1, 0, none⟩) (a' := ⟨b1, 0, none⟩) fo61_0 (T rfl f13) rfl) ?_
      refine lw_v (.bool na) (dv_load1 (b := b1) (o := 0) agt4 (T rfl rfl) H18 rfl) ?_
      refine lw_nil ?_
      rcases Bool.eq_false_or_eq_true (na) with hb79 | hb79
      · -- FLFT
        refine rk_ct (T rfl (congrArg Value.bool hb79)) ?_
        refine rk_seq ?_
        refine rk_reg ?_
        refine lw_v (.string (bOf M)) (dv_move (T rfl f15)) ?_
        refine lw_v (.string (bOf ([45] ++ M))) (dv_addS (L := [45]) (M := M) C (T rfl rfl) (by simp; omega)) ?_
        refine lw_v (.string (bOf ([45] ++ M))) (dv_assign (T rfl rfl)) ?_
        refine lw_nil ?_
        refine rk_ret Try.func49 (v := .string (bOf ([45] ++ M))) (res1 Try.results49 (rv_tmp rfl rfl)) ⟨_, rfl, ?_⟩
        have hp0 := ha.wc.pos
        have hneg := ha.neg_iff
        exact ⟨congrArg (fun l => Value.string (bOf l)) (by have h1 := txt_top hM2 (by omega); rw [if_pos (hneg.1 (by assumption))] at h1; exact h1), E17⟩
      · -- FLFF
        refine rk_cf (T rfl (congrArg Value.bool hb79)) ?_
        refine rk_skip ?_
        refine rk_seq ?_
        refine rk_reg ?_
        refine lw_v (.string (bOf M)) (dv_move (T rfl f15)) ?_
        refine lw_v (.string (bOf M)) (dv_assign (T rfl rfl)) ?_
        refine lw_nil ?_
        refine rk_ret Try.func49 (v := .string (bOf M)) (res1 Try.results49 (rv_tmp rfl rfl)) ⟨_, rfl, ?_⟩
        have hp0 := ha.wc.pos
        have hneg := ha.neg_iff
        exact ⟨congrArg (fun l => Value.string (bOf l)) (by have h1 := txt_top hM2 (by omega); rw [if_neg (fun hh => by have := hneg.2 hh; simp_all)] at h1; exact h1), E17⟩

end Go.Proofs.Ytcnepihgbnfcpaa.W
