/- Walks and plain mathematics, packed by a program of this session: declarations that the rows reach. -/
import Derived.Test.YtfmkadgjoechnaaPed
set_option linter.unusedVariables false
set_option linter.unusedSimpArgs false
namespace Go.Proofs.Ytfmkadgjoechnaa.W
open Go Go.RowKit Go.Proofs.Ytfmkadgjoechnaa.Fw
attribute [local irreducible] RunK LW AW DV OE Ct
theorem agt5 : aggB Try.prog 5 = some false := by kernel_rfl
theorem co101 : callOk Try.prog 101 = true := by kernel_rfl
theorem in5 : (Try.prog.info? 5).map (fun i => (i.zero, i.size, i.bytes)) = some (some (.int .u8 0), 1, 1) := by kernel_rfl
theorem sz5 : sizeB Try.prog 5 = some 1 := by kernel_rfl
theorem ui5 : Try.prog.underlying 5 = some (.int .u8) := by kernel_rfl
theorem us22 : Try.prog.underlying 22 = some (.slice 5) := by kernel_rfl
theorem ut9 : Try.prog.underlying 9 = some .string := by kernel_rfl
theorem zc5 : zcB Try.prog 5 = some [.int .u8 0] := by kernel_rfl
set_option maxHeartbeats 1000000 in
theorem rev_ok {w : World} {A : Option Addr} {n c base : Nat} {L : List Int} (hO : Ow w base 5 .u8 A c L) (hl : L.length = n) (hn : 0 < n) (hN : n ≤ 1000000000) : Ct Try.prog 101 [.slice A n c] w fun v w1 => v = .tuple #[] ∧ Below base w w1 ∧ Ow w1 base 5 .u8 A c L.reverse := by
 refine ct_run (n := 28) Try.func101 rfl Try.ntmps101 rfl ?_
 have E0 : Below base w w := Below.refl _ _
 have hb0 := hO.2
 refine rk_seq ?_
 refine rk_reg ?_
 refine lw_v (.slice A n c) (dv_move (T rfl rfl)) ?_
 refine lw_v (.int .i64 ((n : Int))) (dv_len (ad := A) (l := n) (c := c) us22 (T rfl rfl)) ?_
 refine lw_v (.int .i64 (((n : Int)) - 1)) (dv_sub (a := (n : Int)) (b := 1) (z := ((n : Int)) - 1) (T rfl rfl) C (wr_i64 (by omega) (by omega))) ?_
 refine lw_v (.int .i64 0) (dv_assign C) ?_
 refine lw_v (.int .i64 (((n : Int)) - 1)) (dv_assign (T rfl rfl)) ?_
 refine lw_nil ?_
 refine rk_block ?_
 refine rk_loop (fun dm_ fr wl => ∃ (i j : Nat) (M : List Int), dm_ = n - i ∧ fr 0 = .slice A n c ∧ fr 2 = .int .i64 ((i : Int)) ∧ fr 3 = .int .i64 ((j : Int)) ∧ Below base w wl ∧ Ow wl base 5 .u8 A c M ∧ (rvI L i M) ∧ (M.length = n) ∧ (i + j + 1 = n)) (n - 0) ⟨0, (n - 1), L, rfl, rfl, (vi (by omega)), (vi (by omega)), E0, hO, (rv0 L), (by omega), (by omega)⟩ ?_
 intro d5 fr4 w1 hI2 ih3
 obtain ⟨i, j, M, hd11, f6, f7, f8, E9, h10, hrv, hM, hij⟩ := hI2
 refine rk_seq ?_
 refine rk_seq ?_
 refine rk_reg ?_
 refine lw_v (.int .i64 ((i : Int))) (dv_move (T rfl f7)) ?_
 refine lw_v (.int .i64 ((j : Int))) (dv_move (T rfl f8)) ?_
 refine lw_v (.bool (decide (((i : Int)) < ((j : Int))))) (dv_lss (a := (i : Int)) (b := (j : Int)) (T rfl rfl) (T rfl rfl)) ?_
 refine lw_nil ?_
 by_cases hb12 : ((i : Int)) < ((j : Int))
 · refine rk_ct (T rfl (congrArg Value.bool (decide_eq_true hb12))) ?_
   refine rk_skip ?_
   refine rk_seq ?_
   refine rk_block ?_
   obtain ⟨g13, o14, rfl⟩ := Wd.at h10.wd (by first | omega | (simp; omega))
   refine rk_st2 13 15 [.slice (some ⟨g13, o14, none⟩) n c, .int .i64 ((i : Int)), .slice (some ⟨g13, o14, none⟩) n c, .int .i64 ((j : Int)), .slice (some ⟨g13, o14, none⟩) n c, .int .i64 ((j : Int)), .pointer (some ⟨g13, o14 + j, none⟩), .int .u8 (M.getD j 0), .slice (some ⟨g13, o14, none⟩) n c, .int .i64 ((i : Int)), .pointer (some ⟨g13, o14 + i, none⟩), .int .u8 (M.getD i 0), .pointer (some ⟨g13, o14 + i, none⟩), undef, .pointer (some ⟨g13, o14 + j, none⟩), undef] (fun wk => ∃ wd, Drew w1 wd ∧ Below base wd wk ∧ Ow wk base 5 .u8 (some ⟨g13, o14, none⟩) c (M.set i (M.getD j 0))) (fun wk => ∃ wd, Drew w1 wd ∧ Below base wd wk ∧ Ow wk base 5 .u8 (some ⟨g13, o14, none⟩) c (((M.set i (M.getD j 0))).set j (M.getD i 0))) mo (by kernel_rfl) ?_ ?_
   · intro w15 d16
     have E17 := below_ext E9 (Nat.le_trans hb0 E9.size) d16.ext
     refine ⟨?_, ?_, ?_, ?_, ?_, ?_, ?_, ?_, ?_, ?_, ?_, ?_, ?_, ?_, ?_, ?_, trivial⟩
     · intro fr18 w19 hB20 hM21 hF22 hD23
       obtain rfl := hB20 (.inr (by kernel_rfl))
       exact DV.oe (dv_move (T rfl ((hF22 0 (by kernel_rfl)).trans f6))) (by rw [if_neg (by decide), if_neg (by decide)]; exact ⟨rfl, rfl⟩)
     · intro fr24 w25 hB26 hM27 hF28 hD29
       obtain rfl := hB26 (.inr (by kernel_rfl))
       exact DV.oe (dv_move (T rfl ((hF28 2 (by kernel_rfl)).trans f7))) (by rw [if_neg (by decide), if_neg (by decide)]; exact ⟨rfl, rfl⟩)
     · intro fr30 w31 hB32 hM33 hF34 hD35
       exact DV.oe (dv_move (T rfl ((hF34 0 (by kernel_rfl)).trans f6))) (by rw [if_neg (by decide), if_neg (by decide)]; exact ⟨rfl, rfl⟩)
     · intro fr36 w37 hB38 hM39 hF40 hD41
       exact DV.oe (dv_move (T rfl ((hF40 3 (by kernel_rfl)).trans f8))) (by rw [if_neg (by decide), if_neg (by decide)]; exact ⟨rfl, rfl⟩)
     · intro fr42 w43 hB44 hM45 hF46 hD47
       obtain rfl := hB44 (.inr (by kernel_rfl))
       exact DV.oe (dv_move (T rfl ((hF46 0 (by kernel_rfl)).trans f6))) (by rw [if_neg (by decide), if_neg (by decide)]; exact ⟨rfl, rfl⟩)
     · intro fr48 w49 hB50 hM51 hF52 hD53
       obtain rfl := hB50 (.inr (by kernel_rfl))
       exact DV.oe (dv_move (T rfl ((hF52 3 (by kernel_rfl)).trans f8))) (by rw [if_neg (by decide), if_neg (by decide)]; exact ⟨rfl, rfl⟩)
     · intro fr54 w55 hB56 hM57 hF58 hD59
       obtain rfl := hB56 (.inr (by kernel_rfl))
       have hv60 : fr54 18 = .slice (some ⟨g13, o14, none⟩) n c := hD59 4 _ (by decide) rfl (by kernel_rfl)
       have hv61 : fr54 19 = .int .i64 ((j : Int)) := hD59 5 _ (by decide) rfl (by kernel_rfl)
       exact DV.oe (dv_indexW (g := g13) (o := o14) (l := n) (c := c) (i := j) (j := (j : Int)) us22 sz5 (T rfl hv60) (T rfl hv61) (by omega) (by first | omega | (simp; omega))) (by rw [if_neg (by decide), if_neg (by decide)]; exact ⟨rfl, rfl⟩)
     · intro fr62 w63 hB64 hM65 hF66 hD67
       obtain rfl := hB64 (.inr (by kernel_rfl))
       have hv68 : fr62 20 = .pointer (some ⟨g13, o14 + j, none⟩) := hD67 6 _ (by decide) rfl (by kernel_rfl)
       have h69 := (h10.ext d16.ext)
       exact DV.oe (dv_load agt5 (T rfl hv68) (Wd.cell h69.wd (by first | omega | (simp; omega)))) (by rw [if_neg (by decide), if_neg (by decide)]; exact ⟨rfl, rfl⟩)
     · intro fr70 w71 hB72 hM73 hF74 hD75
       exact DV.oe (dv_move (T rfl ((hF74 0 (by kernel_rfl)).trans f6))) (by rw [if_neg (by decide), if_neg (by decide)]; exact ⟨rfl, rfl⟩)
     · intro fr76 w77 hB78 hM79 hF80 hD81
       exact DV.oe (dv_move (T rfl ((hF80 2 (by kernel_rfl)).trans f7))) (by rw [if_neg (by decide), if_neg (by decide)]; exact ⟨rfl, rfl⟩)
     · intro fr82 w83 hB84 hM85 hF86 hD87
       have hv88 : fr82 22 = .slice (some ⟨g13, o14, none⟩) n c := hD87 8 _ (by decide) rfl (by kernel_rfl)
       have hv89 : fr82 23 = .int .i64 ((i : Int)) := hD87 9 _ (by decide) rfl (by kernel_rfl)
       exact DV.oe (dv_indexW (g := g13) (o := o14) (l := n) (c := c) (i := i) (j := (i : Int)) us22 sz5 (T rfl hv88) (T rfl hv89) (by omega) (by first | omega | (simp; omega))) (by rw [if_neg (by decide), if_neg (by decide)]; exact ⟨rfl, rfl⟩)
     · intro fr90 w91 hB92 hM93 hF94 hD95
       obtain rfl := hB92 (.inr (by kernel_rfl))
       have hv96 : fr90 24 = .pointer (some ⟨g13, o14 + i, none⟩) := hD95 10 _ (by decide) rfl (by kernel_rfl)
       have h97 := (h10.ext d16.ext)
       exact DV.oe (dv_load agt5 (T rfl hv96) (Wd.cell h97.wd (by first | omega | (simp; omega)))) (by rw [if_neg (by decide), if_neg (by decide)]; exact ⟨rfl, rfl⟩)
     · intro fr98 w99 hB100 hM101 hF102 hD103
       obtain rfl := hB100 (.inr (by kernel_rfl))
       have hv104 : fr98 14 = .slice (some ⟨g13, o14, none⟩) n c := hD103 0 _ (by decide) rfl (by kernel_rfl)
       have hv105 : fr98 15 = .int .i64 ((i : Int)) := hD103 1 _ (by decide) rfl (by kernel_rfl)
       exact DV.oe (dv_indexW (g := g13) (o := o14) (l := n) (c := c) (i := i) (j := (i : Int)) us22 sz5 (T rfl hv104) (T rfl hv105) (by omega) (by first | omega | (simp; omega))) (by rw [if_neg (by decide), if_neg (by decide)]; exact ⟨rfl, rfl⟩)
     · intro fr106 w107 hB108 hM109 hF110 hD111
       obtain rfl := hB108 (.inl rfl)
       have hv112 : fr106 21 = .int .u8 (M.getD j 0) := hD111 7 _ (by decide) rfl (by kernel_rfl)
       have hv113 : fr106 26 = .pointer (some ⟨g13, o14 + i, none⟩) := hD111 12 _ (by decide) rfl (by kernel_rfl)
       have h114 := (h10.ext d16.ext)
       refine id (oe_storeOw (base := base) (L := M) (g := g13) (o := o14) (i := i) (z := M.getD j 0) sz5 (T rfl hv113) (T rfl hv112) h114 (by first | omega | (simp; omega)) ?_)
       intro w115 hO116 x117
       have E118 := below_bl E17 (Nat.le_refl _) x117
       rw [if_pos rfl]
       exact ⟨_, d16, x117, hO116⟩
     · intro fr119 w120 hB121 hM122 hF123 hD124
       have hv125 : fr119 16 = .slice (some ⟨g13, o14, none⟩) n c := hD124 2 _ (by decide) rfl (by kernel_rfl)
       have hv126 : fr119 17 = .int .i64 ((j : Int)) := hD124 3 _ (by decide) rfl (by kernel_rfl)
       exact DV.oe (dv_indexW (g := g13) (o := o14) (l := n) (c := c) (i := j) (j := (j : Int)) us22 sz5 (T rfl hv125) (T rfl hv126) (by omega) (by first | omega | (simp; omega))) (by rw [if_neg (by decide), if_neg (by decide)]; exact ⟨rfl, rfl⟩)
     · intro fr127 w128 hB129 hM130 hF131 hD132
       obtain ⟨w133, d134, x135, hO136⟩ := hM130 rfl
       have E137 := below_ext E9 (Nat.le_trans hb0 E9.size) d134.ext
       have E138 := below_bl E137 (Nat.le_refl _) x135
       have hv139 : fr127 25 = .int .u8 (M.getD i 0) := hD132 11 _ (by decide) rfl (by kernel_rfl)
       have hv140 : fr127 27 = .pointer (some ⟨g13, o14 + j, none⟩) := hD132 14 _ (by decide) rfl (by kernel_rfl)
       refine id (oe_storeOw (base := base) (L := (M.set i (M.getD j 0))) (g := g13) (o := o14) (i := j) (z := M.getD i 0) sz5 (T rfl hv140) (T rfl hv139) hO136 (by first | omega | (simp; omega)) ?_)
       intro w141 hO142 x143
       have E144 := below_bl E138 (Nat.le_refl _) x143
       rw [if_neg (by decide), if_pos rfl]
       exact ⟨_, d134, x135.trans x143, hO142⟩
   intro fr145 w146 hK147 hF148 hP149
   obtain ⟨w150, d151, x152, hO153⟩ := hK147
   have E154 := below_ext E9 (Nat.le_trans hb0 E9.size) d151.ext
   have E155 := below_bl E154 (Nat.le_refl _) x152
   obtain ⟨p156, p157, p158, p159, p160, p161, p162, p163, p164, p165, p166, p167, p168, _, p169, _, _⟩ := hP149
   have hv170 : fr145 14 = .slice (some ⟨g13, o14, none⟩) n c := p156.resolve_left (by decide)
   have hv171 : fr145 15 = .int .i64 ((i : Int)) := p157.resolve_left (by decide)
   have hv172 : fr145 16 = .slice (some ⟨g13, o14, none⟩) n c := p158.resolve_left (by decide)
   have hv173 : fr145 17 = .int .i64 ((j : Int)) := p159.resolve_left (by decide)
   have hv174 : fr145 18 = .slice (some ⟨g13, o14, none⟩) n c := p160.resolve_left (by decide)
   have hv175 : fr145 19 = .int .i64 ((j : Int)) := p161.resolve_left (by decide)
   have hv176 : fr145 20 = .pointer (some ⟨g13, o14 + j, none⟩) := p162.resolve_left (by decide)
   have hv177 : fr145 21 = .int .u8 (M.getD j 0) := p163.resolve_left (by decide)
   have hv178 : fr145 22 = .slice (some ⟨g13, o14, none⟩) n c := p164.resolve_left (by decide)
   have hv179 : fr145 23 = .int .i64 ((i : Int)) := p165.resolve_left (by decide)
   have hv180 : fr145 24 = .pointer (some ⟨g13, o14 + i, none⟩) := p166.resolve_left (by decide)
   have hv181 : fr145 25 = .int .u8 (M.getD i 0) := p167.resolve_left (by decide)
   have hv182 : fr145 26 = .pointer (some ⟨g13, o14 + i, none⟩) := p168.resolve_left (by decide)
   have hv183 : fr145 27 = .pointer (some ⟨g13, o14 + j, none⟩) := p169.resolve_left (by decide)
   refine rk_inBlock ?_
   refine rk_reg ?_
   refine lw_v (.int .i64 ((i : Int))) (dv_move (T rfl ((hF148 2 rfl).trans f7))) ?_
   refine lw_v (.int .i64 (((i : Int)) + 1)) (dv_add (a := (i : Int)) (b := 1) (z := ((i : Int)) + 1) (T rfl rfl) C (wr_i64 (by omega) (by omega))) ?_
   refine lw_v (.int .i64 ((j : Int))) (dv_move (T rfl ((hF148 3 rfl).trans f8))) ?_
   refine lw_v (.int .i64 (((j : Int)) - 1)) (dv_sub (a := (j : Int)) (b := 1) (z := ((j : Int)) - 1) (T rfl rfl) C (wr_i64 (by omega) (by omega))) ?_
   refine lw_v (.int .i64 (((i : Int)) + 1)) (dv_assign (T rfl rfl)) ?_
   refine lw_v (.int .i64 (((j : Int)) - 1)) (dv_assign (T rfl rfl)) ?_
   refine lw_nil ?_
   exact ih3 (n - ((i + 1))) _ _ (by rw [hd11]; omega) ⟨(i + 1), (j - 1), (((M.set i (M.getD j 0))).set j (M.getD i 0)), rfl, ((hF148 0 rfl).trans f6), (vi (by omega)), (vi (by omega)), E155, hO153, (rv_step hrv (by omega) (by omega)), (by simp [hM]), (by omega)⟩
 · refine rk_cf (T rfl (congrArg Value.bool (decide_eq_false hb12))) ?_
   refine rk_exit rfl ?_
   refine rk_end Try.func101 (v := .tuple #[]) (res0 Try.results101) ⟨_, rfl, ?_⟩
   have hz := rv_done hrv (by omega)
   exact ⟨rfl, E9, by rw [← hz]; exact h10⟩
set_option maxHeartbeats 1000000 in
theorem ntext_ok {w : World} {na : Bool} {Aa : Option Addr} {la ca : Nat} {x : Int} {sx : Nat} (ha : Num 64 24 .u64 w na Aa la ca x sx) (hs : sx ≤ 100000) : Ct Try.prog 66 [.agg #[.bool na, .slice Aa la ca]] w fun v w1 => v = .string (bOf (txtL x)) ∧ Ext w w1 := by
 refine ct_run (n := 49) Try.func66 rfl Try.ntmps66 rfl ?_
 have E0 : Below w.heap.size w w := Below.refl _ _
 have lha := Num.len (by decide) ha
 have hDs := dg_bits ha.lt
 refine rk_seq ?_
 refine rk_reg ?_
 refine lw_e (oe_box (v := .agg #[.bool na, .slice Aa la ca]) (cs := #[.bool na, .slice Aa la ca]) (T rfl rfl) rfl ?_)
 intro b1 w2 n3
 have N4 : w.heap.size ≤ b1 := n3.eq ▸ E0.size
 have E5 := below_ext E0 E0.size n3.ext
 refine lw_v (.string (bOf [])) (dv_assign C) ?_
 refine lw_nil ?_
 refine rk_seq ?_
 refine rk_reg ?_
 refine lw_e (oe_buildSlice0 us22 sz5 ?_)
 intro b6 w7 n8
 have N9 : w.heap.size ≤ b6 := n8.eq ▸ E5.size
 have : b1 < b6 := n8.eq ▸ lt_of_blk n3.blk
 have E10 := below_ext E5 E5.size n8.ext
 have hO11 := Ow.made (T := 5) (k := .u8) (z := .int .u8 0) (c := 0) n8 (by decide)
 refine lw_v (.slice (some ⟨b6, 0, none⟩) (([] : List Int).length) 0) (dv_assign (T rfl rfl)) ?_
 refine lw_nil ?_
 refine rk_seq ?_
 refine rk_seq ?_
 refine rk_reg ?_
 refine lw_v (.pointer (some ⟨b1, 1, none⟩)) (dv_fieldAddr (a := ⟨b1, 0, none⟩) (a' := ⟨b1, 1, none⟩) fo59_1 (T rfl rfl) rfl) ?_
 have H12 := (n8.ext.blk n3.blk)
 refine lw_v (.slice Aa la ca) (dv_load1 (b := b1) (o := 1) agt57 (T rfl rfl) H12 rfl) ?_
 refine lw_v (.slice Aa la ca) (dv_assign (T rfl rfl)) ?_
 refine lw_nil ?_
 refine rk_block ?_
 have h13 := ((ha.ext n3.ext).ext n8.ext)
 refine rk_loop (fun dm_ fr wl => ∃ (Ax : Option Addr) (lx cx : Nat) (X : Int) (L : List Int) (Ad : Option Addr) (cp : Nat), dm_ = X.toNat ∧ fr 1 = .pointer (some ⟨b1, 0, none⟩) ∧ fr 2 = .string (bOf []) ∧ fr 3 = .slice Ad (L.length) cp ∧ fr 4 = .slice Ax lx cx ∧ Below w.heap.size w wl ∧ wl.heap[b1]? = some (.cells #[.bool na, .slice Aa la ca] 59) ∧ Wc 64 24 .u64 wl Ax lx cx X ∧ Ow wl b6 5 .u8 Ad cp L ∧ (L ++ dg X.toNat = dg x.natAbs) ∧ (X < 2 ^ sx)) ((((x.natAbs : Int))).toNat) ⟨Aa, la, ca, ((x.natAbs : Int)), ([] : List Int), (some ⟨b6, 0, none⟩), 0, rfl, rfl, rfl, rfl, rfl, E10, H12, h13.wc, hO11, (by simp), h13.ltI⟩ ?_
 intro d18 fr17 w14 hI15 ih16
 obtain ⟨Ax, lx, cx, X, L, Ad, cp, hd27, f19, f20, f21, f22, E23, H24, h25, h26, hL, hXs⟩ := hI15
 have hXp := h25.pos
 have hXn := h25.nonneg
 have hlx := Wc.len (by decide) h25 hXs
 have hLD := congrArg List.length hL
 simp only [List.length_append] at hLD
 refine rk_seq ?_
 refine rk_seq ?_
 refine rk_reg ?_
 refine lw_v (.slice Ax lx cx) (dv_move (T rfl f22)) ?_
 refine lw_v (.int .i64 ((lx : Int))) (dv_len (ad := Ax) (l := lx) (c := cx) us57 (T rfl rfl)) ?_
 refine lw_v (.bool (decide (0 < ((lx : Int))))) (dv_gtr (a := (lx : Int)) (b := 0) (T rfl rfl) C) ?_
 refine lw_nil ?_
 by_cases hb28 : 0 < ((lx : Int))
 · refine rk_ct (T rfl (congrArg Value.bool (decide_eq_true hb28))) ?_
   refine rk_skip ?_
   refine rk_block ?_
   refine rk_seq ?_
   refine rk_reg ?_
   refine lw_v (.slice Ax lx cx) (dv_move (T rfl f22)) ?_
   refine lw_e (oe_buildSlice (pv := [(0, .int .u64 10)]) (init := [.int .u64 0]) (l := [.int .u64 10]) us57 sz24 rfl rfl zc24 (by kernel_rfl) ⟨rfl, C, trivial⟩ rfl ?_)
   intro b29 w30 n31
   have N32 : w.heap.size ≤ b29 := n31.eq ▸ E23.size
   have : b1 < b29 := n31.eq ▸ lt_of_blk H24
   have E33 := below_ext E23 E23.size n31.ext
   have h34 := (h25.ext n31.ext)
   refine lw_e (oe_callf (vs := [.slice Ax lx cx, .slice (some ⟨b29, 0, none⟩) 1 1]) co98 (ar2 (T rfl rfl) (T rfl rfl)) (divWords_ok h34 (Wc.lit1 (m := 64) n31.blk (by decide)) (by omega) (by first | omega | (simp; done) | (simp; omega)) (by first | omega | (simp; done) | (simp; omega))) ?_)
   rintro _ w43 ⟨A35, n36, c37, A38, n39, c40, rfl, e44, h41, h42⟩
   have E45 := below_ext E33 E33.size e44
   have lh41 := Wc.len (by decide) h41 (div_sz (Wc.nonneg h34) (by omega) hXs)
   have lh42 := Wc.len (by decide) h42 (mod_sz (by omega) (show (10 : Int) < 2 ^ 4 by decide))
   refine lw_v (.tuple #[.slice A35 n36 c37, .slice A38 n39 c40]) (dv_move (T rfl rfl)) ?_
   refine lw_v (.slice A35 n36 c37) (dv_extract (vs := #[.slice A35 n36 c37, .slice A38 n39 c40]) (T rfl rfl) rfl) ?_
   refine lw_v (.slice A38 n39 c40) (dv_extract (vs := #[.slice A35 n36 c37, .slice A38 n39 c40]) (T rfl rfl) rfl) ?_
   refine lw_v (.slice A35 n36 c37) (dv_assign (T rfl rfl)) ?_
   refine lw_v (.slice A38 n39 c40) (dv_assign (T rfl rfl)) ?_
   refine lw_nil ?_
   refine rk_seq ?_
   refine rk_reg ?_
   refine lw_v (.int .u8 48) (dv_assign C) ?_
   refine lw_nil ?_
   refine rk_seq ?_
   refine rk_seq ?_
   refine rk_reg ?_
   refine lw_v (.slice A38 n39 c40) (dv_move (T rfl rfl)) ?_
   refine lw_v (.int .i64 ((n39 : Int))) (dv_len (ad := A38) (l := n39) (c := c40) us57 (T rfl rfl)) ?_
   refine lw_v (.bool (decide (0 < ((n39 : Int))))) (dv_gtr (a := (n39 : Int)) (b := 0) (T rfl rfl) C) ?_
   refine lw_nil ?_
   by_cases hb46 : 0 < ((n39 : Int))
   · refine rk_ct (T rfl (congrArg Value.bool (decide_eq_true hb46))) ?_
     obtain ⟨ys, hyl, hyc, hyw, oy, hyk, hyv⟩ := id h42
     have hy1 : ys.getD 0 0 = X % 10 := one_word oy (by omega) hyv (by omega)
     refine rk_reg ?_
     refine lw_v (.int .u8 48) (dv_move (T rfl rfl)) ?_
     refine lw_v (.slice A38 n39 c40) (dv_move (T rfl rfl)) ?_
     obtain ⟨g47, o48, rfl⟩ := Wd.at hyw (by first | omega | (simp; done) | (simp; omega))
     refine lw_v (.pointer (some ⟨g47, o48 + 0, none⟩)) (dv_indexW (g := g47) (o := o48) (l := n39) (c := c40) (i := 0) (j := 0) us57 sz24 (T rfl rfl) C (by omega) (by first | omega | (simp; done) | (simp; omega))) ?_
     refine lw_v (.int .u64 (ys.getD 0 0)) (dv_load agt24 (T rfl rfl) (Wd.cell hyw (by first | omega | (simp; done) | (simp; omega)))) ?_
     refine lw_v (.int .u8 ((ys.getD 0 0) % 256)) (dv_conv (a := ys.getD 0 0) (z := (ys.getD 0 0) % 256) ui24 ui5 (T rfl rfl) (wr_u8 _)) ?_
     refine lw_v (.int .u8 (48 + ((ys.getD 0 0) % 256))) (dv_add (a := 48) (b := (ys.getD 0 0) % 256) (z := 48 + ((ys.getD 0 0) % 256)) (T rfl rfl) (T rfl rfl) (wn_u8 (by omega) (by omega))) ?_
     refine lw_v (.int .u8 (48 + ((ys.getD 0 0) % 256))) (dv_assign (T rfl rfl)) ?_
     refine lw_nil ?_
     refine rk_reg ?_
     refine lw_v (.slice Ad (L.length) cp) (dv_move (T rfl f21)) ?_
     refine lw_v (.int .u8 (48 + ((ys.getD 0 0) % 256))) (dv_move (T rfl rfl)) ?_
     refine lw_e (oe_buildSlice (pv := [(0, .int .u8 (48 + ((ys.getD 0 0) % 256)))]) (init := [.int .u8 0]) (l := [.int .u8 (48 + ((ys.getD 0 0) % 256))]) us22 sz5 rfl rfl zc5 (by kernel_rfl) ⟨rfl, (T rfl rfl), trivial⟩ rfl ?_)
     intro b49 w50 n51
     have N52 : w.heap.size ≤ b49 := n51.eq ▸ E45.size
     have H53 := (e44.blk n31.blk)
     have : b29 < b49 := n51.eq ▸ lt_of_blk H53
     have E54 := below_ext E45 E45.size n51.ext
     have h55 := (((h26.ext n31.ext).ext e44).ext n51.ext)
     refine lw_e (oe_appendT (base := b6) (L := L) (M := [48 + ((ys.getD 0 0) % 256)]) (m := 1) us22 in5 (T rfl rfl) (T rfl rfl) h55 (Wd.ownW (xs := [48 + ((ys.getD 0 0) % 256)]) n51.blk) rfl (by first | omega | (simp; done) | (simp; omega)) (by first | omega | (simp; done) | (simp; omega)) ?_)
     intro Ad57 c58 w59 hO60 x61 bt56
     have E62 := below_bl E54 N9 x61
     refine lw_v (.slice A35 n36 c37) (dv_move (T rfl rfl)) ?_
     refine lw_v (.slice Ad57 ((L ++ [48 + ((ys.getD 0 0) % 256)]).length) c58) (dv_assign (T rfl rfl)) ?_
     refine lw_v (.slice A35 n36 c37) (dv_assign (T rfl rfl)) ?_
     refine lw_nil ?_
     refine rk_inBlock ?_
     have h63 := ((h41.ext n51.ext).bt bt56 (by decide))
     have hd64 : 48 + ((ys.getD 0 0) % 256) = 48 + X % 10 := by omega
     have H65 := (bl_blk x61 (n51.ext.blk (e44.blk (n31.ext.blk H24))) (by omega))
     exact ih16 (((X / 10)).toNat) _ _ (by rw [hd27]; omega) ⟨A35, n36, c37, (X / 10), (L ++ [48 + ((ys.getD 0 0) % 256)]), Ad57, c58, rfl, f19, f20, rfl, rfl, E62, H65, h63, hO60, (by rw [hd64]; exact txt_snoc (by omega) hL), (div_sz (Wc.nonneg h34) (by omega) hXs)⟩
   · refine rk_cf (T rfl (congrArg Value.bool (decide_eq_false hb46))) ?_
     refine rk_skip ?_
     refine rk_reg ?_
     refine lw_v (.slice Ad (L.length) cp) (dv_move (T rfl f21)) ?_
     refine lw_v (.int .u8 48) (dv_move (T rfl rfl)) ?_
     refine lw_e (oe_buildSlice (pv := [(0, .int .u8 48)]) (init := [.int .u8 0]) (l := [.int .u8 48]) us22 sz5 rfl rfl zc5 (by kernel_rfl) ⟨rfl, (T rfl rfl), trivial⟩ rfl ?_)
     intro b66 w67 n68
     have N69 : w.heap.size ≤ b66 := n68.eq ▸ E45.size
     have H70 := (e44.blk n31.blk)
     have : b29 < b66 := n68.eq ▸ lt_of_blk H70
     have E71 := below_ext E45 E45.size n68.ext
     have h72 := (((h26.ext n31.ext).ext e44).ext n68.ext)
     refine lw_e (oe_appendT (base := b6) (L := L) (M := [48]) (m := 1) us22 in5 (T rfl rfl) (T rfl rfl) h72 (Wd.ownW (xs := [48]) n68.blk) rfl (by first | omega | (simp; done) | (simp; omega)) (by first | omega | (simp; done) | (simp; omega)) ?_)
     intro Ad74 c75 w76 hO77 x78 bt73
     have E79 := below_bl E71 N9 x78
     refine lw_v (.slice A35 n36 c37) (dv_move (T rfl rfl)) ?_
     refine lw_v (.slice Ad74 ((L ++ [48]).length) c75) (dv_assign (T rfl rfl)) ?_
     refine lw_v (.slice A35 n36 c37) (dv_assign (T rfl rfl)) ?_
     refine lw_nil ?_
     refine rk_inBlock ?_
     have h80 := ((h41.ext n68.ext).bt bt73 (by decide))
     have hd81 : 48 = 48 + X % 10 := by have := h42.pos; have := h42.nonneg; omega
     have H82 := (bl_blk x78 (n68.ext.blk (e44.blk (n31.ext.blk H24))) (by omega))
     exact ih16 (((X / 10)).toNat) _ _ (by rw [hd27]; omega) ⟨A35, n36, c37, (X / 10), (L ++ [48]), Ad74, c75, rfl, f19, f20, rfl, rfl, E79, H82, h80, hO77, (by rw [hd81]; exact txt_snoc (by omega) hL), (div_sz (Wc.nonneg h34) (by omega) hXs)⟩
 · refine rk_cf (T rfl (congrArg Value.bool (decide_eq_false hb28))) ?_
   refine rk_exit rfl ?_
   refine rk_seq ?_
   refine rk_seq ?_
   have hX0 : X = 0 := by omega
   subst hX0
   rw [show (0 : Int).toNat = 0 from rfl, dg_zero, List.append_nil] at hL
   refine rk_reg ?_
   refine lw_v (.slice Ad (L.length) cp) (dv_move (T rfl f21)) ?_
   refine lw_v (.int .i64 ((L.length : Int))) (dv_len (ad := Ad) (l := L.length) (c := cp) us22 (T rfl rfl)) ?_
   refine lw_v (.bool (decide (((L.length : Int)) = 0))) (dv_eql (a := (L.length : Int)) (b := 0) (T rfl rfl) C) ?_
   refine lw_nil ?_
   by_cases hb83 : ((L.length : Int)) = 0
   · refine rk_ct (T rfl (congrArg Value.bool (decide_eq_true hb83))) ?_
     refine rk_reg ?_
     refine lw_v (.slice Ad (L.length) cp) (dv_move (T rfl f21)) ?_
     refine lw_e (oe_buildSlice (pv := [(0, .int .u8 48)]) (init := [.int .u8 0]) (l := [.int .u8 48]) us22 sz5 rfl rfl zc5 (by kernel_rfl) ⟨rfl, C, trivial⟩ rfl ?_)
     intro b84 w85 n86
     have N87 : w.heap.size ≤ b84 := n86.eq ▸ E23.size
     have : b1 < b84 := n86.eq ▸ lt_of_blk H24
     have E88 := below_ext E23 E23.size n86.ext
     have h89 := (h26.ext n86.ext)
     refine lw_e (oe_appendT (base := b6) (L := L) (M := [48]) (m := 1) us22 in5 (T rfl rfl) (T rfl rfl) h89 (Wd.ownW (xs := [48]) n86.blk) rfl (by first | omega | (simp; done) | (simp; omega)) (by first | omega | (simp; done) | (simp; omega)) ?_)
     intro Ad91 c92 w93 hO94 x95 bt90
     have E96 := below_bl E88 N9 x95
     refine lw_v (.slice Ad91 ((L ++ [48]).length) c92) (dv_assign (T rfl rfl)) ?_
     refine lw_nil ?_
     refine rk_seq ?_
     refine rk_seq ?_
     refine rk_reg ?_
     refine lw_v (.pointer (some ⟨b1, 0, none⟩)) (dv_fieldAddr (a := ⟨b1, 0, none⟩) (a' := ⟨b1, 0, none⟩) fo59_0 (T rfl f19) rfl) ?_
     have H97 := (bl_blk x95 (n86.ext.blk H24) (by omega))
     refine lw_v (.bool na) (dv_load1 (b := b1) (o := 0) agt4 (T rfl rfl) H97 rfl) ?_
     refine lw_nil ?_
     rcases Bool.eq_false_or_eq_true (na) with hb98 | hb98
     · refine rk_ct (T rfl (congrArg Value.bool hb98)) ?_
       refine rk_reg ?_
       refine lw_v (.slice Ad91 ((L ++ [48]).length) c92) (dv_move (T rfl rfl)) ?_
       refine lw_e (oe_buildSlice (pv := [(0, .int .u8 45)]) (init := [.int .u8 0]) (l := [.int .u8 45]) us22 sz5 rfl rfl zc5 (by kernel_rfl) ⟨rfl, C, trivial⟩ rfl ?_)
       intro b99 w100 n101
       have N102 : w.heap.size ≤ b99 := n101.eq ▸ E96.size
       have : b1 < b99 := n101.eq ▸ lt_of_blk H97
       have E103 := below_ext E96 E96.size n101.ext
       have h104 := (hO94.ext n101.ext)
       refine lw_e (oe_appendT (base := b6) (L := (L ++ [48])) (M := [45]) (m := 1) us22 in5 (T rfl rfl) (T rfl rfl) h104 (Wd.ownW (xs := [45]) n101.blk) rfl (by first | omega | (simp; done) | (simp; omega)) (by first | omega | (simp; done) | (simp; omega)) ?_)
       intro Ad106 c107 w108 hO109 x110 bt105
       have E111 := below_bl E103 N9 x110
       refine lw_v (.slice Ad106 (((L ++ [48]) ++ [45]).length) c107) (dv_assign (T rfl rfl)) ?_
       refine lw_nil ?_
       refine rk_seq ?_
       refine rk_reg ?_
       refine lw_v (.slice Ad106 (((L ++ [48]) ++ [45]).length) c107) (dv_move (T rfl rfl)) ?_
       refine lw_e (oe_callf (vs := [.slice Ad106 (((L ++ [48]) ++ [45]).length) c107]) co101 (ar1 (T rfl rfl)) (rev_ok hO109 rfl (by first | omega | (simp; done) | (simp; omega)) (by first | omega | (simp; done) | (simp; omega))) ?_)
       rintro _ w113 ⟨rfl, e114, hO112⟩
       have E115 := below_bl E111 N9 e114
       refine lw_nil ?_
       refine rk_seq ?_
       refine rk_reg ?_
       refine lw_v (.slice Ad106 (((L ++ [48]) ++ [45]).length) c107) (dv_move (T rfl rfl)) ?_
       refine lw_v (.string (bOf (((((L ++ [48]) ++ [45])).reverse)))) (dv_convBS (L := ((((L ++ [48]) ++ [45])).reverse)) (A := Ad106) (l := ((L ++ [48]) ++ [45]).length) (c := c107) us22 ui5 ut9 (by exact (T rfl rfl)) hO112.wd (by first | rfl | (simp; done) | (simp; omega))) ?_
       refine lw_v (.string (bOf (((((L ++ [48]) ++ [45])).reverse)))) (dv_assign (T rfl rfl)) ?_
       refine lw_nil ?_
       refine rk_ret Try.func66 (v := .string (bOf (((((L ++ [48]) ++ [45])).reverse)))) (res1 Try.results66 (rv_tmp rfl rfl)) ⟨_, rfl, ?_⟩
       have hneg := ha.neg_iff
       exact ⟨congrArg (fun l => Value.string (bOf l)) ((absurd (hneg.1 (by assumption)) (txt_fin10 hL (by omega)).2)), E115⟩
     · refine rk_cf (T rfl (congrArg Value.bool hb98)) ?_
       refine rk_skip ?_
       refine rk_seq ?_
       refine rk_reg ?_
       refine lw_v (.slice Ad91 ((L ++ [48]).length) c92) (dv_move (T rfl rfl)) ?_
       refine lw_e (oe_callf (vs := [.slice Ad91 ((L ++ [48]).length) c92]) co101 (ar1 (T rfl rfl)) (rev_ok hO94 rfl (by first | omega | (simp; done) | (simp; omega)) (by first | omega | (simp; done) | (simp; omega))) ?_)
       rintro _ w117 ⟨rfl, e118, hO116⟩
       have E119 := below_bl E96 N9 e118
       refine lw_nil ?_
       refine rk_seq ?_
       refine rk_reg ?_
       refine lw_v (.slice Ad91 ((L ++ [48]).length) c92) (dv_move (T rfl rfl)) ?_
       refine lw_v (.string (bOf ((((L ++ [48])).reverse)))) (dv_convBS (L := (((L ++ [48])).reverse)) (A := Ad91) (l := (L ++ [48]).length) (c := c92) us22 ui5 ut9 (by exact (T rfl rfl)) hO116.wd (by first | rfl | (simp; done) | (simp; omega))) ?_
       refine lw_v (.string (bOf ((((L ++ [48])).reverse)))) (dv_assign (T rfl rfl)) ?_
       refine lw_nil ?_
       refine rk_ret Try.func66 (v := .string (bOf ((((L ++ [48])).reverse)))) (res1 Try.results66 (rv_tmp rfl rfl)) ⟨_, rfl, ?_⟩
       have hneg := ha.neg_iff
       exact ⟨congrArg (fun l => Value.string (bOf l)) ((txt_fin10 hL (by omega)).1), E119⟩
   · refine rk_cf (T rfl (congrArg Value.bool (decide_eq_false hb83))) ?_
     refine rk_skip ?_
     refine rk_seq ?_
     refine rk_seq ?_
     refine rk_reg ?_
     refine lw_v (.pointer (some ⟨b1, 0, none⟩)) (dv_fieldAddr (a := ⟨b1, 0, none⟩) (a' := ⟨b1, 0, none⟩) fo59_0 (T rfl f19) rfl) ?_
     refine lw_v (.bool na) (dv_load1 (b := b1) (o := 0) agt4 (T rfl rfl) H24 rfl) ?_
     refine lw_nil ?_
     rcases Bool.eq_false_or_eq_true (na) with hb120 | hb120
     · refine rk_ct (T rfl (congrArg Value.bool hb120)) ?_
       refine rk_reg ?_
       refine lw_v (.slice Ad (L.length) cp) (dv_move (T rfl f21)) ?_
       refine lw_e (oe_buildSlice (pv := [(0, .int .u8 45)]) (init := [.int .u8 0]) (l := [.int .u8 45]) us22 sz5 rfl rfl zc5 (by kernel_rfl) ⟨rfl, C, trivial⟩ rfl ?_)
       intro b121 w122 n123
       have N124 : w.heap.size ≤ b121 := n123.eq ▸ E23.size
       have : b1 < b121 := n123.eq ▸ lt_of_blk H24
       have E125 := below_ext E23 E23.size n123.ext
       have h126 := (h26.ext n123.ext)
       refine lw_e (oe_appendT (base := b6) (L := L) (M := [45]) (m := 1) us22 in5 (T rfl rfl) (T rfl rfl) h126 (Wd.ownW (xs := [45]) n123.blk) rfl (by first | omega | (simp; done) | (simp; omega)) (by first | omega | (simp; done) | (simp; omega)) ?_)
       intro Ad128 c129 w130 hO131 x132 bt127
       have E133 := below_bl E125 N9 x132
       refine lw_v (.slice Ad128 ((L ++ [45]).length) c129) (dv_assign (T rfl rfl)) ?_
       refine lw_nil ?_
       refine rk_seq ?_
       refine rk_reg ?_
       refine lw_v (.slice Ad128 ((L ++ [45]).length) c129) (dv_move (T rfl rfl)) ?_
       refine lw_e (oe_callf (vs := [.slice Ad128 ((L ++ [45]).length) c129]) co101 (ar1 (T rfl rfl)) (rev_ok hO131 rfl (by first | omega | (simp; done) | (simp; omega)) (by first | omega | (simp; done) | (simp; omega))) ?_)
       rintro _ w135 ⟨rfl, e136, hO134⟩
       have E137 := below_bl E133 N9 e136
       refine lw_nil ?_
       refine rk_seq ?_
       refine rk_reg ?_
       refine lw_v (.slice Ad128 ((L ++ [45]).length) c129) (dv_move (T rfl rfl)) ?_
       refine lw_v (.string (bOf ((((L ++ [45])).reverse)))) (dv_convBS (L := (((L ++ [45])).reverse)) (A := Ad128) (l := (L ++ [45]).length) (c := c129) us22 ui5 ut9 (by exact (T rfl rfl)) hO134.wd (by first | rfl | (simp; done) | (simp; omega))) ?_
       refine lw_v (.string (bOf ((((L ++ [45])).reverse)))) (dv_assign (T rfl rfl)) ?_
       refine lw_nil ?_
       refine rk_ret Try.func66 (v := .string (bOf ((((L ++ [45])).reverse)))) (res1 Try.results66 (rv_tmp rfl rfl)) ⟨_, rfl, ?_⟩
       have hneg := ha.neg_iff
       exact ⟨congrArg (fun l => Value.string (bOf l)) (txt_fin01 hL (by omega) (hneg.1 (by assumption))), E137⟩
     · refine rk_cf (T rfl (congrArg Value.bool hb120)) ?_
       refine rk_skip ?_
       refine rk_seq ?_
       refine rk_reg ?_
       refine lw_v (.slice Ad (L.length) cp) (dv_move (T rfl f21)) ?_
       refine lw_e (oe_callf (vs := [.slice Ad (L.length) cp]) co101 (ar1 (T rfl rfl)) (rev_ok h26 rfl (by first | omega | (simp; done) | (simp; omega)) (by first | omega | (simp; done) | (simp; omega))) ?_)
       rintro _ w139 ⟨rfl, e140, hO138⟩
       have E141 := below_bl E23 N9 e140
       refine lw_nil ?_
       refine rk_seq ?_
       refine rk_reg ?_
       refine lw_v (.slice Ad (L.length) cp) (dv_move (T rfl f21)) ?_
       refine lw_v (.string (bOf ((L.reverse)))) (dv_convBS (L := (L.reverse)) (A := Ad) (l := L.length) (c := cp) us22 ui5 ut9 (by exact (T rfl rfl)) hO138.wd (by first | rfl | (simp; done) | (simp; omega))) ?_
       refine lw_v (.string (bOf ((L.reverse)))) (dv_assign (T rfl rfl)) ?_
       refine lw_nil ?_
       refine rk_ret Try.func66 (v := .string (bOf ((L.reverse)))) (res1 Try.results66 (rv_tmp rfl rfl)) ⟨_, rfl, ?_⟩
       have hneg := ha.neg_iff
       exact ⟨congrArg (fun l => Value.string (bOf l)) (txt_fin00 hL (by omega) (fun hh => by have := hneg.2 hh; simp_all)), E141⟩
set_option maxHeartbeats 1000000 in
theorem l1Text_ok {w : World} {na : Bool} {Aa : Option Addr} {la ca : Nat} {x : Int} {sx : Nat} (ha : Num 32 95 .u32 w na Aa la ca x sx) (hs : sx ≤ 100000) : Ct Try.prog 67 [.agg #[.bool na, .slice Aa la ca]] w fun v w1 => v = .string (bOf (txtL x)) ∧ Ext w w1 := by
 refine ct_run (n := 58) Try.func67 rfl Try.ntmps67 rfl ?_
 have E0 : Below w.heap.size w w := Below.refl _ _
 have lha := Num.len (by decide) ha
 have hDs := dg_bits ha.lt
 refine rk_seq ?_
 refine rk_reg ?_
 refine lw_e (oe_box (v := .agg #[.bool na, .slice Aa la ca]) (cs := #[.bool na, .slice Aa la ca]) (T rfl rfl) rfl ?_)
 intro b1 w2 n3
 have N4 : w.heap.size ≤ b1 := n3.eq ▸ E0.size
 have E5 := below_ext E0 E0.size n3.ext
 refine lw_v (.string (bOf [])) (dv_assign C) ?_
 refine lw_nil ?_
 refine rk_seq ?_
 refine rk_seq ?_
 refine rk_reg ?_
 refine lw_v (.pointer (some ⟨b1, 1, none⟩)) (dv_fieldAddr (a := ⟨b1, 0, none⟩) (a' := ⟨b1, 1, none⟩) fo65_1 (T rfl rfl) rfl) ?_
 refine lw_v (.slice Aa la ca) (dv_load1 (b := b1) (o := 1) agt63 (T rfl rfl) n3.blk rfl) ?_
 refine lw_v (.int .i64 ((la : Int))) (dv_len (ad := Aa) (l := la) (c := ca) us63 (T rfl rfl)) ?_
 refine lw_v (.bool (decide (((la : Int)) = 0))) (dv_eql (a := (la : Int)) (b := 0) (T rfl rfl) C) ?_
 refine lw_nil ?_
 by_cases hb6 : ((la : Int)) = 0
 · refine rk_ct (T rfl (congrArg Value.bool (decide_eq_true hb6))) ?_
   refine rk_seq ?_
   refine rk_reg ?_
   refine lw_v (.string (bOf [48])) (dv_assign C) ?_
   refine lw_nil ?_
   refine rk_ret Try.func67 (v := .string (bOf [48])) (res1 Try.results67 (rv_tmp rfl rfl)) ⟨_, rfl, ?_⟩
   have hp0 := ha.wc.pos
   have hneg := ha.neg_iff
   exact ⟨congrArg (fun l => Value.string (bOf l)) (by have h0 : x = 0 := (by omega); rw [h0]; rfl), E5⟩
 · refine rk_cf (T rfl (congrArg Value.bool (decide_eq_false hb6))) ?_
   refine rk_skip ?_
   refine rk_seq ?_
   refine rk_reg ?_
   refine lw_v (.string (bOf [])) (dv_assign C) ?_
   refine lw_nil ?_
   refine rk_seq ?_
   refine rk_reg ?_
   refine lw_v (.pointer (some ⟨b1, 1, none⟩)) (dv_fieldAddr (a := ⟨b1, 0, none⟩) (a' := ⟨b1, 1, none⟩) fo65_1 (T rfl rfl) rfl) ?_
   refine lw_v (.slice Aa la ca) (dv_load1 (b := b1) (o := 1) agt63 (T rfl rfl) n3.blk rfl) ?_
   refine lw_v (.slice Aa la ca) (dv_assign (T rfl rfl)) ?_
   refine lw_nil ?_
   refine rk_seq ?_
   refine rk_block ?_
   have h7 := (ha.ext n3.ext)
   refine rk_loop (fun dm_ fr wl => ∃ (Ax : Option Addr) (lx cx : Nat) (X : Int) (M : List Int), dm_ = X.toNat ∧ fr 1 = .pointer (some ⟨b1, 0, none⟩) ∧ fr 2 = .string (bOf []) ∧ fr 3 = .string (bOf M) ∧ fr 4 = .slice Ax lx cx ∧ Below w.heap.size w wl ∧ wl.heap[b1]? = some (.cells #[.bool na, .slice Aa la ca] 65) ∧ Wc 32 95 .u32 wl Ax lx cx X ∧ ((dg X.toNat).reverse ++ M = (dg x.natAbs).reverse) ∧ (X < 2 ^ sx)) ((((x.natAbs : Int))).toNat) ⟨Aa, la, ca, ((x.natAbs : Int)), [], rfl, rfl, rfl, rfl, rfl, E5, n3.blk, h7.wc, (by simp), h7.ltI⟩ ?_
   intro d12 fr11 w8 hI9 ih10
   obtain ⟨Ax, lx, cx, X, M, hd20, f13, f14, f15, f16, E17, H18, h19, hM, hXs⟩ := hI9
   have hXp := h19.pos
   have hXn := h19.nonneg
   have hlx := Wc.len (by decide) h19 hXs
   have hMl := congrArg List.length hM
   simp only [List.length_append, List.length_reverse] at hMl
   obtain ⟨xs, hxl, hxc, hxw, ox, hxk, hxv⟩ := id h19
   refine rk_seq ?_
   refine rk_seq ?_
   refine rk_reg ?_
   refine lw_v (.slice Ax lx cx) (dv_move (T rfl f16)) ?_
   refine lw_v (.int .i64 ((lx : Int))) (dv_len (ad := Ax) (l := lx) (c := cx) us63 (T rfl rfl)) ?_
   refine lw_v (.bool (decide (0 < ((lx : Int))))) (dv_gtr (a := (lx : Int)) (b := 0) (T rfl rfl) C) ?_
   refine lw_nil ?_
   by_cases hb21 : 0 < ((lx : Int))
   · refine rk_ct (T rfl (congrArg Value.bool (decide_eq_true hb21))) ?_
     refine rk_skip ?_
     refine rk_block ?_
     refine rk_seq ?_
     refine rk_reg ?_
     refine lw_v (.slice Ax lx cx) (dv_move (T rfl f16)) ?_
     refine lw_v (.int .i64 ((lx : Int))) (dv_len (ad := Ax) (l := lx) (c := cx) us63 (T rfl rfl)) ?_
     refine lw_e (oe_makeW (l := lx) (j := (lx : Int)) us63 in95 (T rfl rfl) (T rfl rfl) (by omega) (by first | omega | (simp; done) | (simp; omega)) (by first | omega | (simp; done) | (simp; omega)) ?_)
     intro b22 w23 n24
     have N25 : w.heap.size ≤ b22 := n24.eq ▸ E17.size
     have : b1 < b22 := n24.eq ▸ lt_of_blk H18
     have E26 := below_ext E17 E17.size n24.ext
     refine lw_v (.slice (some ⟨b22, 0, none⟩) lx lx) (dv_assign (T rfl rfl)) ?_
     refine lw_nil ?_
     refine rk_seq ?_
     refine rk_reg ?_
     refine lw_v (.int .u64 0) (dv_assign C) ?_
     refine lw_nil ?_
     refine rk_seq ?_
     refine rk_seq ?_
     refine rk_reg ?_
     refine lw_v (.slice Ax lx cx) (dv_move (T rfl f16)) ?_
     refine lw_v (.int .i64 ((lx : Int))) (dv_len (ad := Ax) (l := lx) (c := cx) us63 (T rfl rfl)) ?_
     refine lw_v (.int .i64 (((lx : Int)) - 1)) (dv_sub (a := (lx : Int)) (b := 1) (z := ((lx : Int)) - 1) (T rfl rfl) C (wr_i64 (by omega) (by omega))) ?_
     refine lw_v (.int .i64 (((lx : Int)) - 1)) (dv_assign (T rfl rfl)) ?_
     refine lw_nil ?_
     refine rk_block ?_
     have hE27 : Below w8.heap.size w8 _ := below_ext (Below.refl _ _) (Nat.le_refl _) n24.ext
     have hb5 : w8.heap.size ≤ b22 := by have := n24.eq; omega
     have H28 := (n24.ext.blk H18)
     refine rk_loop (fun dm_ fr wl => ∃ (j : Nat) (L : List Int) (r : Int), dm_ = j ∧ fr 1 = .pointer (some ⟨b1, 0, none⟩) ∧ fr 2 = .string (bOf []) ∧ fr 3 = .string (bOf M) ∧ fr 4 = .slice Ax lx cx ∧ fr 5 = .slice (some ⟨b22, 0, none⟩) lx lx ∧ fr 6 = .int .u64 r ∧ fr 7 = .int .i64 ((j : Int) - 1) ∧ fr 14 = .slice Ax lx cx ∧ fr 15 = .int .i64 ((lx : Int)) ∧ fr 16 = .bool (decide (0 < ((lx : Int)))) ∧ fr 17 = .slice Ax lx cx ∧ fr 18 = .int .i64 ((lx : Int)) ∧ fr 19 = .slice (some ⟨b22, 0, none⟩) lx lx ∧ fr 20 = .slice Ax lx cx ∧ fr 21 = .int .i64 ((lx : Int)) ∧ fr 22 = .int .i64 (((lx : Int)) - 1) ∧ Below w.heap.size w wl ∧ wl.heap[b1]? = some (.cells #[.bool na, .slice Aa la ca] 65) ∧ wl.heap[b22]? = some (.cells (L.map (Value.int .u32)).toArray 95) ∧ (j ≤ lx) ∧ (L.length = lx) ∧ (okW (2 ^ 32) L) ∧ (valB (2 ^ 32) (L.drop j) = valB (2 ^ 32) (xs.drop j) / 10) ∧ (r = valB (2 ^ 32) (xs.drop j) % 10) ∧ (Below w8.heap.size w8 wl)) (lx) ⟨lx, (List.replicate lx (0 : Int)), 0, rfl, f13, f14, f15, f16, rfl, rfl, (vi (by omega)), rfl, rfl, rfl, rfl, rfl, rfl, rfl, rfl, rfl, E26, H28, n24.blk, (Nat.le_refl _), (by simp), (okW.replicate (by decide) _), (by rw [List.drop_of_length_le (by simp), List.drop_of_length_le (by omega)]; simp [valB]), (by rw [List.drop_of_length_le (by omega)]; simp [valB]), hE27⟩ ?_
     intro d33 fr32 w29 hI30 ih31
     obtain ⟨j, L, r, hd53, f34, f35, f36, f37, f38, f39, f40, f41, f42, f43, f44, f45, f46, f47, f48, f49, E50, H51, H52, hj, hLl, hok, hLv, hrv, hE2⟩ := hI30
     have hwq := hxw.ext hE2
     have gx := okW.getD ox (by decide) (j - 1)
     have hr9 : 0 ≤ r ∧ r < 10 := by omega
     refine rk_seq ?_
     refine rk_seq ?_
     refine rk_reg ?_
     refine lw_v (.int .i64 ((j : Int) - 1)) (dv_move (T rfl f40)) ?_
     refine lw_v (.bool (decide (0 ≤ ((j : Int) - 1)))) (dv_geq (a := (j : Int) - 1) (b := 0) (T rfl rfl) C) ?_
     refine lw_nil ?_
     by_cases hb54 : 0 ≤ ((j : Int) - 1)
     · refine rk_ct (T rfl (congrArg Value.bool (decide_eq_true hb54))) ?_
       refine rk_skip ?_
       refine rk_seq ?_
       refine rk_block ?_
       refine rk_seq ?_
       refine rk_reg ?_
       refine lw_v (.int .u64 r) (dv_move (T rfl f39)) ?_
       refine lw_v (.int .u64 (r * 4294967296)) (dv_shl (a := r) (b := 32) (z := r * 4294967296) (T rfl rfl) C (by decide) (shl_c (m := 4294967296) (n := 32) (by decide) (wn_u64 (by omega) (by omega)))) ?_
       refine lw_v (.slice Ax lx cx) (dv_move (T rfl f37)) ?_
       refine lw_v (.int .i64 ((j : Int) - 1)) (dv_move (T rfl f40)) ?_
       obtain ⟨g55, o56, rfl⟩ := Wd.at hwq (by first | omega | (simp; done) | (simp; omega))
       refine lw_v (.pointer (some ⟨g55, o56 + (j - 1), none⟩)) (dv_indexW (g := g55) (o := o56) (l := lx) (c := cx) (i := (j - 1)) (j := (j : Int) - 1) us63 sz95 (T rfl rfl) (T rfl rfl) (by omega) (by first | omega | (simp; done) | (simp; omega))) ?_
       refine lw_v (.int .u32 (xs.getD ((j - 1)) 0)) (dv_load agt95 (T rfl rfl) (Wd.cell hwq (by first | omega | (simp; done) | (simp; omega)))) ?_
       refine lw_v (.int .u64 (xs.getD ((j - 1)) 0)) (dv_conv (a := xs.getD ((j - 1)) 0) (z := xs.getD ((j - 1)) 0) ui95 ui24 (T rfl rfl) (wn_u64 (by omega) (by omega))) ?_
       refine lw_v (.int .u64 ((xs.getD ((j - 1)) 0) + (r * 4294967296))) (dv_or (a := r * 4294967296) (b := xs.getD ((j - 1)) 0) (z := (xs.getD ((j - 1)) 0) + (r * 4294967296)) (T rfl rfl) (T rfl rfl) (or_add (k := .u64) (a := xs.getD ((j - 1)) 0) (b := r * 4294967296) (i := 32) rfl (by omega) (by omega) (by omega) (by omega) (lt64 (by omega)) (lt64 (by omega))).2) ?_
       refine lw_v (.int .u64 ((xs.getD ((j - 1)) 0) + (r * 4294967296))) (dv_assign (T rfl rfl)) ?_
       refine lw_nil ?_
       refine rk_seq ?_
       refine rk_reg ?_
       refine lw_v (.slice (some ⟨b22, 0, none⟩) lx lx) (dv_move (T rfl f38)) ?_
       refine lw_v (.int .i64 ((j : Int) - 1)) (dv_move (T rfl f40)) ?_
       refine lw_v (.int .u64 ((xs.getD ((j - 1)) 0) + (r * 4294967296))) (dv_move (T rfl rfl)) ?_
       refine lw_v (.int .u64 (((xs.getD ((j - 1)) 0) + (r * 4294967296)) / 10)) (dv_quo (a := (xs.getD ((j - 1)) 0) + (r * 4294967296)) (b := 10) (z := ((xs.getD ((j - 1)) 0) + (r * 4294967296)) / 10) (T rfl rfl) C (by decide) (quo_c (by omega) (by decide) (wn_u64 (by omega) (by omega)))) ?_
       refine lw_v (.int .u32 ((((xs.getD ((j - 1)) 0) + (r * 4294967296)) / 10) % 4294967296)) (dv_conv (a := ((xs.getD ((j - 1)) 0) + (r * 4294967296)) / 10) (z := (((xs.getD ((j - 1)) 0) + (r * 4294967296)) / 10) % 4294967296) ui24 ui95 (T rfl rfl) (wr_u32 _)) ?_
       refine lw_v (.pointer (some ⟨b22, ((j - 1)), none⟩)) (dv_indexO (g := b22) (l := lx) (c := lx) (i := (j - 1)) (j := (j : Int) - 1) us63 sz95 (T rfl rfl) (T rfl rfl) (by omega) (by first | omega | (simp; done) | (simp; omega))) ?_
       refine lw_e (oe_storeW (L := L) (i := (j - 1)) (z := (((xs.getD ((j - 1)) 0) + (r * 4294967296)) / 10) % 4294967296) sz95 (T rfl rfl) (T rfl rfl) H52 (by first | omega | (simp; done) | (simp; omega)) ?_)
       intro w57 s58 H59
       have E60 := below_st E50 N25 s58
       refine lw_nil ?_
       refine rk_reg ?_
       refine lw_v (.int .u64 ((xs.getD ((j - 1)) 0) + (r * 4294967296))) (dv_move (T rfl rfl)) ?_
       refine lw_v (.int .u64 (((xs.getD ((j - 1)) 0) + (r * 4294967296)) % 10)) (dv_rem (a := (xs.getD ((j - 1)) 0) + (r * 4294967296)) (b := 10) (z := ((xs.getD ((j - 1)) 0) + (r * 4294967296)) % 10) (T rfl rfl) C (by decide) (rem_c (by omega) rfl)) ?_
       refine lw_v (.int .u64 (((xs.getD ((j - 1)) 0) + (r * 4294967296)) % 10)) (dv_assign (T rfl rfl)) ?_
       refine lw_nil ?_
       refine rk_inBlock ?_
       refine rk_reg ?_
       refine lw_v (.int .i64 ((j : Int) - 1)) (dv_move (T rfl f40)) ?_
       refine lw_v (.int .i64 (((j : Int) - 1) - 1)) (dv_sub (a := (j : Int) - 1) (b := 1) (z := ((j : Int) - 1) - 1) (T rfl rfl) C (wr_i64 (by omega) (by omega))) ?_
       refine lw_v (.int .i64 (((j : Int) - 1) - 1)) (dv_assign (T rfl rfl)) ?_
       refine lw_nil ?_
       have hq61 : ((xs.getD ((j - 1)) 0) + (r * 4294967296)) / 10 % 4294967296 = ((xs.getD ((j - 1)) 0) + (r * 4294967296)) / 10 := by omega
       have H62 := (s58.blk H51 (by omega))
       exact ih31 (((j - 1))) _ _ (by rw [hd53]; omega) ⟨(j - 1), (L.set ((j - 1)) ((((xs.getD ((j - 1)) 0) + (r * 4294967296)) / 10) % 4294967296)), (((xs.getD ((j - 1)) 0) + (r * 4294967296)) % 10), rfl, f34, f35, f36, f37, f38, rfl, (vi (by omega)), f41, f42, f43, f44, f45, f46, f47, f48, f49, E60, H62, H59, (by omega), (by simp [hLl]), (okW.set hok (by omega) (by omega) _), (by rw [hq61]; exact (ten_step (by omega) (by omega) (by omega) hLv hrv).1), (ten_step (by omega) (by omega) (by omega) hLv hrv).2, (below_st hE2 hb5 s58)⟩
     · refine rk_cf (T rfl (congrArg Value.bool (decide_eq_false hb54))) ?_
       refine rk_exit rfl ?_
       refine rk_seq ?_
       have hj0 : j = 0 := by omega
       have hL0 := hLv
       rw [hj0, List.drop_zero, List.drop_zero, ← hxv] at hL0
       have hr0 := hrv
       rw [hj0, List.drop_zero, ← hxv] at hr0
       refine rk_reg ?_
       refine lw_v (.int .u64 r) (dv_move (T rfl f39)) ?_
       refine lw_v (.int .u64 (48 + r)) (dv_add (a := 48) (b := r) (z := 48 + r) C (T rfl rfl) (wn_u64 (by omega) (by omega))) ?_
       refine lw_v (.int .u8 ((48 + r) % 256)) (dv_conv (a := 48 + r) (z := (48 + r) % 256) ui24 ui5 (T rfl rfl) (wr_u8 _)) ?_
       refine lw_e (oe_buildSlice (pv := [(0, .int .u8 ((48 + r) % 256))]) (init := [.int .u8 0]) (l := [.int .u8 ((48 + r) % 256)]) us22 sz5 rfl rfl zc5 (by kernel_rfl) ⟨rfl, (T rfl rfl), trivial⟩ rfl ?_)
       intro b63 w64 n65
       have N66 : w.heap.size ≤ b63 := n65.eq ▸ E50.size
       have : b22 < b63 := n65.eq ▸ lt_of_blk H52
       have E67 := below_ext E50 E50.size n65.ext
       refine lw_v (.string (bOf ([(48 + r) % 256]))) (dv_convBS (L := [(48 + r) % 256]) (A := some ⟨b63, 0, none⟩) (l := 1) (c := 1) us22 ui5 ut9 (by exact (T rfl rfl)) (Wd.ownW (xs := [(48 + r) % 256]) n65.blk) (by first | rfl | omega | (simp; done) | (simp; omega))) ?_
       refine lw_v (.string (bOf M)) (dv_move (T rfl f36)) ?_
       refine lw_v (.string (bOf (([(48 + r) % 256]) ++ M))) (dv_addS (L := ([(48 + r) % 256])) (M := M) (T rfl rfl) (T rfl rfl) (by simp; omega)) ?_
       refine lw_v (.string (bOf (([(48 + r) % 256]) ++ M))) (dv_assign (T rfl rfl)) ?_
       refine lw_nil ?_
       refine rk_reg ?_
       refine lw_v (.slice (some ⟨b22, 0, none⟩) lx lx) (dv_move (T rfl f38)) ?_
       have H68 := (n65.ext.blk H52)
       refine lw_e (oe_callf (vs := [.bool false, .slice (some ⟨b22, 0, none⟩) lx lx]) co75 (ar2 C (T rfl rfl)) (l1Trim_num (s := (32 * lx)) (neg := false) (⟨L, (by first | rfl | omega | (simp; done) | (simp; omega)), (by first | rfl | omega | (simp; done) | (simp; omega)), Wd.ownW H68, hok, rfl⟩ : Ws _ _ _ _ _ _ _ _) (by first | omega | (simp; done) | (simp; omega)) (valB_sz hok (by first | rfl | omega | (simp; done) | (simp; omega)))) ?_)
       rintro _ w74 ⟨nb69, A70, n71, c72, rfl, e75, hn73⟩
       have E76 := below_ext E67 E67.size e75
       have lhn73 := Num.len (by decide) hn73
       refine lw_v (.slice A70 n71 c72) (dv_field (v := .slice A70 n71 c72) fb65_1 agt63 (T rfl rfl) rfl) ?_
       refine lw_v (.slice A70 n71 c72) (dv_assign (T rfl rfl)) ?_
       refine lw_nil ?_
       refine rk_inBlock ?_
       have hvn : (0 : Int) ≤ valB (2 ^ 32) L := valB_nonneg (by decide) hok
       have hz77 : ((sg false (valB (2 ^ 32) L)).natAbs : Int) = X / 10 := by simp only [sg_false]; omega
       have H78 := (e75.blk (n65.ext.blk H51))
       exact ih10 (((X / 10)).toNat) _ _ (by rw [hd20]; omega) ⟨A70, n71, c72, (X / 10), ((([(48 + r) % 256]) ++ M)), rfl, f34, f35, rfl, rfl, E76, H78, (Wc.eq hn73.wc hz77), (by have h := txt_step (by omega) hM; rw [show ((48 + r) % 256 : Int) = 48 + X % 10 by omega]; exact h), (by omega)⟩
   · refine rk_cf (T rfl (congrArg Value.bool (decide_eq_false hb21))) ?_
     refine rk_exit rfl ?_
     refine rk_seq ?_
     refine rk_seq ?_
     have hX0 : X = 0 := by omega
     have hM2 := hM
     rw [hX0, show (0 : Int).toNat = 0 from rfl, dg_zero, List.reverse_nil, List.nil_append] at hM2
     refine rk_reg ?_
     refine lw_v (.pointer (some ⟨b1, 0, none⟩)) (dv_fieldAddr (a := ⟨b1, 0, none⟩) (a' := ⟨b1, 0, none⟩) fo65_0 (T rfl f13) rfl) ?_
     refine lw_v (.bool na) (dv_load1 (b := b1) (o := 0) agt4 (T rfl rfl) H18 rfl) ?_
     refine lw_nil ?_
     rcases Bool.eq_false_or_eq_true (na) with hb79 | hb79
     · refine rk_ct (T rfl (congrArg Value.bool hb79)) ?_
       refine rk_seq ?_
       refine rk_reg ?_
       refine lw_v (.string (bOf M)) (dv_move (T rfl f15)) ?_
       refine lw_v (.string (bOf ([45] ++ M))) (dv_addS (L := [45]) (M := M) C (T rfl rfl) (by simp; omega)) ?_
       refine lw_v (.string (bOf ([45] ++ M))) (dv_assign (T rfl rfl)) ?_
       refine lw_nil ?_
       refine rk_ret Try.func67 (v := .string (bOf ([45] ++ M))) (res1 Try.results67 (rv_tmp rfl rfl)) ⟨_, rfl, ?_⟩
       have hp0 := ha.wc.pos
       have hneg := ha.neg_iff
       exact ⟨congrArg (fun l => Value.string (bOf l)) (by have h1 := txt_top hM2 (by omega); rw [if_pos (hneg.1 (by assumption))] at h1; exact h1), E17⟩
     · refine rk_cf (T rfl (congrArg Value.bool hb79)) ?_
       refine rk_skip ?_
       refine rk_seq ?_
       refine rk_reg ?_
       refine lw_v (.string (bOf M)) (dv_move (T rfl f15)) ?_
       refine lw_v (.string (bOf M)) (dv_assign (T rfl rfl)) ?_
       refine lw_nil ?_
       refine rk_ret Try.func67 (v := .string (bOf M)) (res1 Try.results67 (rv_tmp rfl rfl)) ⟨_, rfl, ?_⟩
       have hp0 := ha.wc.pos
       have hneg := ha.neg_iff
       exact ⟨congrArg (fun l => Value.string (bOf l)) (by have h1 := txt_top hM2 (by omega); rw [if_neg (fun hh => by have := hneg.2 hh; simp_all)] at h1; exact h1), E17⟩
end Go.Proofs.Ytfmkadgjoechnaa.W
set_option linter.unusedVariables false
set_option linter.unusedSimpArgs false
namespace Go.Proofs.Ytfmkadgjoechnaa.W
open Go Go.RowKit Go.Proofs.Ytfmkadgjoechnaa.Fw
attribute [local irreducible] RunK LW AW DV OE Ct
theorem co56 : callOk Try.prog 56 = true := by kernel_rfl
theorem co59 : callOk Try.prog 59 = true := by kernel_rfl
theorem co66 : callOk Try.prog 66 = true := by kernel_rfl
theorem co78 : callOk Try.prog 78 = true := by kernel_rfl
set_option maxHeartbeats 1000000 in
theorem readNum_ok {w : World} {L : List Int} {S : Nat} (hL : okW 256 L) (hl : L.length ≤ 1048576) (hS : 400 ≤ S ∧ S ≤ 1000) : Ct Try.prog 59 [.string (bOf L)] w fun v w1 => ∃ nr A' n c' z, v = .tuple #[.agg #[.bool nr, .slice A' n c'], .bool (decide (canD L ∧ L.length ≤ 100))] ∧ Ext w w1 ∧ Num 64 24 .u64 w1 nr A' n c' z S ∧ (canD L ∧ L.length ≤ 100 → z = numD L) := by
 refine ct_run (n := 65) Try.func59 rfl Try.ntmps59 rfl ?_
 have E0 : Below w.heap.size w w := Below.refl _ _
 refine rk_seq ?_
 refine rk_reg ?_
 refine lw_e (oe_alloc ze59 ?_)
 intro b1 w2 n3
 have N4 : w.heap.size ≤ b1 := n3.eq ▸ E0.size
 have E5 := below_ext E0 E0.size n3.ext
 refine lw_v (.bool false) (dv_assign C) ?_
 refine lw_nil ?_
 refine rk_seq ?_
 refine rk_reg ?_
 refine lw_v (.string (bOf L)) (dv_move (T rfl rfl)) ?_
 refine lw_v (.string (bOf L)) (dv_assign (T rfl rfl)) ?_
 refine lw_v (.bool false) (dv_assign C) ?_
 refine lw_nil ?_
 refine rk_seq ?_
 refine rk_join (fun fr wl => ∃ (D : List Int) (ng : Bool), fr 0 = .string (bOf L) ∧ fr 2 = .pointer (some ⟨b1, 0, none⟩) ∧ fr 3 = .bool false ∧ fr 4 = .string (bOf D) ∧ fr 5 = .bool ng ∧ Below w.heap.size w wl ∧ wl.heap[b1]? = some (.cells #[.bool false, .slice none 0 0] 59) ∧ (digD L = D) ∧ (negD L = ng) ∧ (D.length ≤ L.length)) ?_ (fun hj8 => ?_)
 · intro fr9 w6 hI7
   obtain ⟨D, ng, f10, f11, f12, f13, f14, E15, H16, hD, hng, hDl⟩ := hI7
   refine rk_seq ?_
   refine rk_seq ?_
   refine rk_reg ?_
   refine lw_v (.string (bOf D)) (dv_move (T rfl f13)) ?_
   refine lw_v (.int .i64 ((D.length : Int))) (dv_lenS (L := D) ut9 (T rfl rfl)) ?_
   refine lw_v (.bool (decide (((D.length : Int)) = 0))) (dv_eql (a := (D.length : Int)) (b := 0) (T rfl rfl) C) ?_
   refine lw_v (.bool (decide (((D.length : Int)) = 0))) (dv_move (T rfl rfl)) ?_
   by_cases hb17 : ((D.length : Int)) = 0
   · refine lw_no (d := 22) rfl rfl (congrArg Value.bool (decide_eq_true hb17)) ?_
     refine lw_no (d := 22) rfl rfl (congrArg Value.bool (decide_eq_true hb17)) ?_
     refine lw_no (d := 22) rfl rfl (congrArg Value.bool (decide_eq_true hb17)) ?_
     refine lw_v (.bool true) (dv_pick_t (T rfl (congrArg Value.bool (decide_eq_true hb17))) C) ?_
     refine lw_nil ?_
     refine rk_ct (T rfl rfl) ?_
     refine rk_seq ?_
     refine rk_reg ?_
     refine lw_v (.agg #[.bool false, .slice none 0 0]) (dv_build (pv := []) (l := [.bool false, .slice none 0 0]) zc59 pl59 trivial rfl) ?_
     refine lw_e (oe_store (v := .agg #[.bool false, .slice none 0 0]) (vs := [.bool false, .slice none 0 0]) (l := [.bool false, .slice none 0 0]) (T rfl f11) (T rfl rfl) sz59 rfl rfl rfl H16 rfl ?_)
     intro w18 s19 H20
     have E21 := below_st E15 N4 s19
     refine lw_v (.bool false) (dv_assign C) ?_
     refine lw_nil ?_
     refine rk_ret Try.func59 (v := .tuple #[.agg #[.bool false, .slice none 0 0], .bool false]) (res2 Try.results59 (rv_cells (l := [.bool false, .slice none 0 0]) agt59 sz59 rfl f11 H20 rfl) (rv_tmp rfl rfl)) ⟨_, rfl, ?_⟩
     have hno : ¬ (canD L ∧ L.length ≤ 100) := (fun hh => by have h1 := (form_of_canD hh.1).1; rw [hD] at h1; have h2 := hh.2; omega)
     exact ⟨_, _, _, _, 0, tu2 rfl (vf hno), E21, Num.zero, fun hh => absurd hh hno⟩
   · refine lw_vy (.string (bOf L)) (d := 22) rfl rfl (congrArg Value.bool (decide_eq_false hb17)) (dv_move (T rfl f10)) ?_
     refine lw_vy (.int .i64 ((L.length : Int))) (d := 22) rfl rfl (congrArg Value.bool (decide_eq_false hb17)) (dv_lenS (L := L) ut9 (T rfl rfl)) ?_
     refine lw_vy (.bool (decide (100 < ((L.length : Int))))) (d := 22) rfl rfl (congrArg Value.bool (decide_eq_false hb17)) (dv_gtr (a := (L.length : Int)) (b := 100) (T rfl rfl) C) ?_
     refine lw_v (.bool (decide (100 < ((L.length : Int))))) (dv_pick_f (T rfl (congrArg Value.bool (decide_eq_false hb17))) (T rfl rfl)) ?_
     refine lw_nil ?_
     by_cases hb22 : 100 < ((L.length : Int))
     · refine rk_ct (T rfl (congrArg Value.bool (decide_eq_true hb22))) ?_
       refine rk_seq ?_
       refine rk_reg ?_
       refine lw_v (.agg #[.bool false, .slice none 0 0]) (dv_build (pv := []) (l := [.bool false, .slice none 0 0]) zc59 pl59 trivial rfl) ?_
       refine lw_e (oe_store (v := .agg #[.bool false, .slice none 0 0]) (vs := [.bool false, .slice none 0 0]) (l := [.bool false, .slice none 0 0]) (T rfl f11) (T rfl rfl) sz59 rfl rfl rfl H16 rfl ?_)
       intro w23 s24 H25
       have E26 := below_st E15 N4 s24
       refine lw_v (.bool false) (dv_assign C) ?_
       refine lw_nil ?_
       refine rk_ret Try.func59 (v := .tuple #[.agg #[.bool false, .slice none 0 0], .bool false]) (res2 Try.results59 (rv_cells (l := [.bool false, .slice none 0 0]) agt59 sz59 rfl f11 H25 rfl) (rv_tmp rfl rfl)) ⟨_, rfl, ?_⟩
       have hno : ¬ (canD L ∧ L.length ≤ 100) := (fun hh => by have h1 := (form_of_canD hh.1).1; rw [hD] at h1; have h2 := hh.2; omega)
       exact ⟨_, _, _, _, 0, tu2 rfl (vf hno), E26, Num.zero, fun hh => absurd hh hno⟩
     · refine rk_cf (T rfl (congrArg Value.bool (decide_eq_false hb22))) ?_
       refine rk_skip ?_
       refine rk_seq ?_
       refine rk_reg ?_
       refine lw_v (.agg #[.bool false, .slice none 0 0]) (dv_build (pv := []) (l := [.bool false, .slice none 0 0]) zc59 pl59 trivial rfl) ?_
       refine lw_e (oe_alloc ze59 ?_)
       intro b27 w28 n29
       have N30 : w.heap.size ≤ b27 := n29.eq ▸ E15.size
       have : b1 < b27 := n29.eq ▸ lt_of_blk H16
       have E31 := below_ext E15 E15.size n29.ext
       refine lw_e (oe_store (v := .agg #[.bool false, .slice none 0 0]) (vs := [.bool false, .slice none 0 0]) (l := [.bool false, .slice none 0 0]) (T rfl rfl) (T rfl rfl) sz59 rfl rfl rfl n29.blk rfl ?_)
       intro w32 s33 H34
       have E35 := below_st E31 N30 s33
       refine lw_nil ?_
       refine rk_seq ?_
       refine rk_seq ?_
       refine rk_reg ?_
       refine lw_v (.string (bOf D)) (dv_move (T rfl f13)) ?_
       refine lw_v (.int .i64 ((D.length : Int))) (dv_lenS (L := D) ut9 (T rfl rfl)) ?_
       refine lw_v (.int .i64 0) (dv_move C) ?_
       refine lw_nil ?_
       refine rk_block ?_
       have H36 := (s33.blk (n29.ext.blk H16) (by omega))
       refine rk_loop (fun dm_ fr wl => ∃ (i : Nat) (nz : Bool) (Az : Option Addr) (lz cz : Nat), dm_ = D.length - i ∧ fr 0 = .string (bOf L) ∧ fr 2 = .pointer (some ⟨b1, 0, none⟩) ∧ fr 4 = .string (bOf D) ∧ fr 5 = .bool ng ∧ fr 6 = .pointer (some ⟨b27, 0, none⟩) ∧ fr 30 = .int .i64 ((D.length : Int)) ∧ fr 31 = .int .i64 ((i : Int)) ∧ Below w.heap.size w wl ∧ wl.heap[b1]? = some (.cells #[.bool false, .slice none 0 0] 59) ∧ wl.heap[b27]? = some (.cells #[.bool nz, .slice Az lz cz] 59) ∧ Num 64 24 .u64 wl nz Az lz cz (valD (D.take i)) S ∧ (i ≤ D.length) ∧ (∀ c ∈ D.take i, isD c)) (D.length - 0) ⟨0, false, none, 0, 0, rfl, f10, f11, f13, f14, rfl, rfl, (vi (by omega)), E35, H36, H34, Num.zero, (Nat.zero_le _), (fun c hc => by cases hc)⟩ ?_
       intro d41 fr40 w37 hI38 ih39
       obtain ⟨i, nz, Az, lz, cz, hd53, f42, f43, f44, f45, f46, f47, f48, E49, H50, H51, h52, hi, hdg⟩ := hI38
       have lh52 := Num.len (by decide) h52
       refine rk_seq ?_
       refine rk_reg ?_
       refine lw_v (.bool (decide (((i : Int)) < ((D.length : Int))))) (dv_lss (a := (i : Int)) (b := (D.length : Int)) (T rfl f48) (T rfl f47)) ?_
       refine lw_nil ?_
       refine rk_seq ?_
       by_cases hb54 : ((i : Int)) < ((D.length : Int))
       · refine rk_ct (T rfl (congrArg Value.bool (decide_eq_true hb54))) ?_
         refine rk_skip ?_
         refine rk_seq ?_
         refine rk_block ?_
         refine rk_seq ?_
         refine rk_reg ?_
         refine lw_v (.int .i64 ((i : Int))) (dv_move (T rfl f48)) ?_
         refine lw_v (.int .i64 ((i : Int))) (dv_assign (T rfl rfl)) ?_
         refine lw_nil ?_
         refine rk_seq ?_
         refine rk_seq ?_
         refine rk_reg ?_
         refine lw_v (.string (bOf D)) (dv_move (T rfl f44)) ?_
         refine lw_v (.int .i64 ((i : Int))) (dv_move (T rfl rfl)) ?_
         have bg55 := okW.getD (okD hD hL) (by decide) i
         refine lw_v (.int .u8 (D.getD i 0)) (dv_indexS (L := D) (i := i) (j := (i : Int)) ut9 (T rfl rfl) (T rfl rfl) (okD hD hL) (by omega) (by first | omega | (simp; done) | (simp; omega))) ?_
         refine lw_v (.bool (decide ((D.getD i 0) < 48))) (dv_lss (a := D.getD i 0) (b := 48) (T rfl rfl) C) ?_
         refine lw_v (.bool (decide ((D.getD i 0) < 48))) (dv_move (T rfl rfl)) ?_
         by_cases hb56 : (D.getD i 0) < 48
         · refine lw_no (d := 38) rfl rfl (congrArg Value.bool (decide_eq_true hb56)) ?_
           refine lw_no (d := 38) rfl rfl (congrArg Value.bool (decide_eq_true hb56)) ?_
           refine lw_no (d := 38) rfl rfl (congrArg Value.bool (decide_eq_true hb56)) ?_
           refine lw_no (d := 38) rfl rfl (congrArg Value.bool (decide_eq_true hb56)) ?_
           refine lw_v (.bool true) (dv_pick_t (T rfl (congrArg Value.bool (decide_eq_true hb56))) C) ?_
           refine lw_nil ?_
           refine rk_ct (T rfl rfl) ?_
           refine rk_seq ?_
           refine rk_reg ?_
           refine lw_v (.agg #[.bool false, .slice none 0 0]) (dv_build (pv := []) (l := [.bool false, .slice none 0 0]) zc59 pl59 trivial rfl) ?_
           refine lw_e (oe_store (v := .agg #[.bool false, .slice none 0 0]) (vs := [.bool false, .slice none 0 0]) (l := [.bool false, .slice none 0 0]) (T rfl f43) (T rfl rfl) sz59 rfl rfl rfl H50 rfl ?_)
           intro w57 s58 H59
           have E60 := below_st E49 N4 s58
           refine lw_v (.bool false) (dv_assign C) ?_
           refine lw_nil ?_
           refine rk_ret Try.func59 (v := .tuple #[.agg #[.bool false, .slice none 0 0], .bool false]) (res2 Try.results59 (rv_cells (l := [.bool false, .slice none 0 0]) agt59 sz59 rfl f43 H59 rfl) (rv_tmp rfl rfl)) ⟨_, rfl, ?_⟩
           have hno : ¬ (canD L ∧ L.length ≤ 100) := (fun hh => not_formD hD (i := i) (by omega) (fun hd => by unfold isD at hd; omega) (form_of_canD hh.1))
           exact ⟨_, _, _, _, 0, tu2 rfl (vf hno), E60, Num.zero, fun hh => absurd hh hno⟩
         · refine lw_vy (.string (bOf D)) (d := 38) rfl rfl (congrArg Value.bool (decide_eq_false hb56)) (dv_move (T rfl f44)) ?_
           refine lw_vy (.int .i64 ((i : Int))) (d := 38) rfl rfl (congrArg Value.bool (decide_eq_false hb56)) (dv_move (T rfl rfl)) ?_
           have bg61 := okW.getD (okD hD hL) (by decide) i
           refine lw_vy (.int .u8 (D.getD i 0)) (d := 38) rfl rfl (congrArg Value.bool (decide_eq_false hb56)) (dv_indexS (L := D) (i := i) (j := (i : Int)) ut9 (T rfl rfl) (T rfl rfl) (okD hD hL) (by omega) (by first | omega | (simp; done) | (simp; omega))) ?_
           refine lw_vy (.bool (decide (57 < (D.getD i 0)))) (d := 38) rfl rfl (congrArg Value.bool (decide_eq_false hb56)) (dv_gtr (a := D.getD i 0) (b := 57) (T rfl rfl) C) ?_
           refine lw_v (.bool (decide (57 < (D.getD i 0)))) (dv_pick_f (T rfl (congrArg Value.bool (decide_eq_false hb56))) (T rfl rfl)) ?_
           refine lw_nil ?_
           by_cases hb62 : 57 < (D.getD i 0)
           · refine rk_ct (T rfl (congrArg Value.bool (decide_eq_true hb62))) ?_
             refine rk_seq ?_
             refine rk_reg ?_
             refine lw_v (.agg #[.bool false, .slice none 0 0]) (dv_build (pv := []) (l := [.bool false, .slice none 0 0]) zc59 pl59 trivial rfl) ?_
             refine lw_e (oe_store (v := .agg #[.bool false, .slice none 0 0]) (vs := [.bool false, .slice none 0 0]) (l := [.bool false, .slice none 0 0]) (T rfl f43) (T rfl rfl) sz59 rfl rfl rfl H50 rfl ?_)
             intro w63 s64 H65
             have E66 := below_st E49 N4 s64
             refine lw_v (.bool false) (dv_assign C) ?_
             refine lw_nil ?_
             refine rk_ret Try.func59 (v := .tuple #[.agg #[.bool false, .slice none 0 0], .bool false]) (res2 Try.results59 (rv_cells (l := [.bool false, .slice none 0 0]) agt59 sz59 rfl f43 H65 rfl) (rv_tmp rfl rfl)) ⟨_, rfl, ?_⟩
             have hno : ¬ (canD L ∧ L.length ≤ 100) := (fun hh => not_formD hD (i := i) (by omega) (fun hd => by unfold isD at hd; omega) (form_of_canD hh.1))
             exact ⟨_, _, _, _, 0, tu2 rfl (vf hno), E66, Num.zero, fun hh => absurd hh hno⟩
           · refine rk_cf (T rfl (congrArg Value.bool (decide_eq_false hb62))) ?_
             refine rk_skip ?_
             refine rk_any (fun w => w.heap[b27]? = some (.cells #[.bool nz, .slice Az lz cz] 59)) [10] mo ?_
             intro w67 d68
             have E69 := below_ext E49 E49.size d68.ext
             have H70 := (d68.ext.blk H51)
             refine aw_load 0 (.agg #[.bool nz, .slice Az lz cz]) rfl (by kernel_rfl) .none H70 (fun _ s => dv_loads (l := [.bool nz, .slice Az lz cz]) agt59 sz59 (T rfl f46) s rfl) ?_
             refine aw_pure 3 (.string (bOf D)) rfl (by kernel_rfl) .none H70 (fun _ => dv_move (T rfl f44)) ?_
             refine aw_pure 4 (.int .i64 ((i : Int))) rfl (by kernel_rfl) .none H70 (fun _ => dv_move (T rfl rfl)) ?_
             have bg71 := okW.getD (okD hD hL) (by decide) i
             refine aw_pure 5 (.int .u8 (D.getD i 0)) rfl (by kernel_rfl) .none H70 (fun _ => dv_indexS (L := D) (i := i) (j := (i : Int)) ut9 (T rfl rfl) (T rfl rfl) (okD hD hL) (by omega) (by first | omega | (simp; done) | (simp; omega))) ?_
             refine aw_pure 6 (.int .u8 ((D.getD i 0) - 48)) rfl (by kernel_rfl) .none H70 (fun _ => dv_sub (a := D.getD i 0) (b := 48) (z := (D.getD i 0) - 48) (T rfl rfl) C (wn_u8 (by omega) (by omega))) ?_
             refine aw_pure 7 (.int .i64 ((D.getD i 0) - 48)) rfl (by kernel_rfl) .none H70 (fun _ => dv_conv (a := (D.getD i 0) - 48) (z := (D.getD i 0) - 48) ui5 ui2 (T rfl rfl) (wr_i64 (by omega) (by omega))) ?_
             refine aw_one 1 rfl (by kernel_rfl) .none (oe_callf (vs := [.int .i64 10]) co57 (ar1 C) (whole_ok  (by omega)) ?_)
             rintro _ w77 ⟨nr72, A73, n74, c75, rfl, e78, h76⟩
             have E79 := below_ext E69 E69.size e78
             have lh76 := Num.len (by decide) h76
             have H80 := (e78.blk H70)
             refine ⟨.inr H80, ?_⟩
             have h81 := ((h52.ext d68.ext).ext e78)
             refine aw_one 2 rfl (by kernel_rfl) .none (oe_callf (vs := [.agg #[.bool nz, .slice Az lz cz], .agg #[.bool nr72, .slice A73 n74 c75]]) co56 (ar2 (T rfl rfl) (T rfl rfl)) (nby_ok h81 h76 (by first | decide | omega) (by first | decide | omega)) ?_)
             rintro _ w87 ⟨nr82, A83, n84, c85, rfl, e88, h86⟩
             have E89 := below_ext E79 E79.size e88
             have lh86 := Num.len (by decide) h86
             have H90 := (e88.blk H80)
             refine ⟨.inr H90, ?_⟩
             refine aw_one 8 rfl (by kernel_rfl) .none (oe_callf (vs := [.int .i64 ((D.getD i 0) - 48)]) co57 (ar1 (T rfl rfl)) (whole_ok  (by omega)) ?_)
             rintro _ w96 ⟨nr91, A92, n93, c94, rfl, e97, h95⟩
             have E98 := below_ext E89 E89.size e97
             have lh95 := Num.len (by decide) h95
             have H99 := (e97.blk H90)
             refine ⟨.inr H99, ?_⟩
             have h100 := (h86.ext e97)
             refine aw_one 9 rfl (by kernel_rfl) .none (oe_callf (vs := [.agg #[.bool nr82, .slice A83 n84 c85], .agg #[.bool nr91, .slice A92 n93 c94]]) co53 (ar2 (T rfl rfl) (T rfl rfl)) (plus_ok h100 h95 (by first | decide | omega) (by first | decide | omega)) ?_)
             rintro _ w106 ⟨nr101, A102, n103, c104, rfl, e107, h105⟩
             have E108 := below_ext E98 E98.size e107
             have lh105 := Num.len (by decide) h105
             have H109 := (e107.blk H99)
             refine ⟨.inr H109, ?_⟩
             refine aw_one 10 rfl (by kernel_rfl) .none (oe_store (v := .agg #[.bool nr101, .slice A102 n103 c104]) (vs := [.bool nr101, .slice A102 n103 c104]) (l := [.bool nr101, .slice A102 n103 c104]) (T rfl f46) (T rfl rfl) sz59 rfl rfl rfl H109 rfl ?_)
             intro w110 s111 H112
             have E113 := below_st E108 N30 s111
             refine ⟨.inl rfl, ?_⟩
             refine aw_done (by kernel_rfl) ?_
             refine rk_inBlock ?_
             refine rk_reg ?_
             refine lw_v (.int .i64 (((i : Int)) + 1)) (dv_add (a := (i : Int)) (b := 1) (z := ((i : Int)) + 1) (T rfl f48) C (wr_i64 (by omega) (by omega))) ?_
             refine lw_v (.int .i64 (((i : Int)) + 1)) (dv_move (T rfl rfl)) ?_
             refine lw_nil ?_
             have h114 := (h105.st s111 H109 (by decide))
             have hd115 : ∀ c ∈ D.take (i + 1), isD c := isD_take (by omega) hdg ⟨by omega, by omega⟩
             have H116 := (s111.blk (e107.blk (e97.blk (e88.blk (e78.blk (d68.ext.blk H50))))) (by omega))
             exact ih39 (D.length - ((i + 1))) _ _ (by rw [hd53]; omega) ⟨(i + 1), nr101, A102, n103, c104, rfl, f42, f43, f44, f45, f46, f47, (vi (by omega)), E113, H116, H112, (h114.tight (valD_take (by omega)).symm (valD_sz hd115 (by simp; omega))), (by omega), hd115⟩
       · refine rk_cf (T rfl (congrArg Value.bool (decide_eq_false hb54))) ?_
         refine rk_exit rfl ?_
         refine rk_seq ?_
         refine rk_reg ?_
         refine lw_v (.bool ng) (dv_move (T rfl f45)) ?_
         refine lw_v (.pointer (some ⟨b27, 1, none⟩)) (dv_fieldAddr (a := ⟨b27, 0, none⟩) (a' := ⟨b27, 1, none⟩) fo59_1 (T rfl f46) rfl) ?_
         refine lw_v (.slice Az lz cz) (dv_load1 (b := b27) (o := 1) agt57 (T rfl rfl) H51 rfl) ?_
         refine lw_e (oe_callf (vs := [.bool ng, .slice Az lz cz]) co81 (ar2 (T rfl rfl) (T rfl rfl)) (made_num (s := S) (neg := ng) h52.wc.ws (by first | omega | (simp; done) | (simp; omega)) h52.ltI) ?_)
         rintro _ w120 ⟨nb117, n118, rfl, e121, hn119⟩
         have E122 := below_ext E49 E49.size e121
         have lhn119 := Num.len (by decide) hn119
         have H123 := (e121.blk H51)
         refine lw_e (oe_store (v := .agg #[.bool nb117, .slice Az n118 cz]) (vs := [.bool nb117, .slice Az n118 cz]) (l := [.bool nb117, .slice Az n118 cz]) (T rfl f46) (T rfl rfl) sz59 rfl rfl rfl H123 rfl ?_)
         intro w124 s125 H126
         have E127 := below_st E122 N30 s125
         refine lw_nil ?_
         refine rk_seq ?_
         refine rk_any (fun w => w.heap[b27]? = some (.cells #[.bool nb117, .slice Az n118 cz] 59)) [6] mo ?_
         intro w128 d129
         have E130 := below_ext E127 E127.size d129.ext
         have H131 := (d129.ext.blk H126)
         refine aw_load 0 (.agg #[.bool nb117, .slice Az n118 cz]) rfl (by kernel_rfl) .none H131 (fun _ s => dv_loads (l := [.bool nb117, .slice Az n118 cz]) agt59 sz59 (T rfl f46) s rfl) ?_
         refine aw_load 1 (.agg #[.bool nb117, .slice Az n118 cz]) rfl (by kernel_rfl) .none H131 (fun _ s => dv_loads (l := [.bool nb117, .slice Az n118 cz]) agt59 sz59 (T rfl f46) s rfl) ?_
         refine aw_pure 3 (.string (bOf L)) rfl (by kernel_rfl) .none H131 (fun _ => dv_move (T rfl f42)) ?_
         have h132 := ((hn119.st s125 H123 (by decide)).ext d129.ext)
         refine aw_one 2 rfl (by kernel_rfl) .none (oe_callf (vs := [.agg #[.bool nb117, .slice Az n118 cz]]) co66 (ar1 (T rfl rfl)) (ntext_ok h132 (by first | decide | omega)) ?_)
         rintro _ w134 ⟨rfl, e135⟩
         have E136 := below_ext E130 E130.size e135
         have ht133 := txt_len (h132).lt
         have H137 := (e135.blk H131)
         refine ⟨.inr H137, ?_⟩
         refine aw_pure 4 (.bool (decide ((((txtL (sg ng (((valD (D.take i)).natAbs : Int))))) : List Int) = L))) rfl (by kernel_rfl) .none H137 (fun _ => dv_eqS (L := (txtL (sg ng (((valD (D.take i)).natAbs : Int))))) (M := L) (T rfl rfl) (T rfl rfl) ((okC_txt _)) ((hL))) ?_
         have H138 := (e135.blk (d129.ext.blk (s125.blk (e121.blk H50) (by omega))))
         refine aw_one 5 rfl (by kernel_rfl) .none (oe_store (v := .agg #[.bool nb117, .slice Az n118 cz]) (vs := [.bool nb117, .slice Az n118 cz]) (l := [.bool nb117, .slice Az n118 cz]) (T rfl f43) (T rfl rfl) sz59 rfl rfl rfl H138 rfl ?_)
         intro w139 s140 H141
         have E142 := below_st E136 N4 s140
         have H143 := (s140.blk H137 (by omega))
         refine ⟨.inr H143, ?_⟩
         refine aw_last 6 (.bool (decide ((((txtL (sg ng (((valD (D.take i)).natAbs : Int))))) : List Int) = L))) rfl (by kernel_rfl) .none (fun _ => dv_assign (T rfl rfl)) ?_
         refine aw_done (by kernel_rfl) ?_
         refine rk_ret Try.func59 (v := .tuple #[.agg #[.bool nb117, .slice Az n118 cz], .bool (decide ((((txtL (sg ng (((valD (D.take i)).natAbs : Int))))) : List Int) = L))]) (res2 Try.results59 (rv_cells (l := [.bool nb117, .slice Az n118 cz]) agt59 sz59 rfl f43 H141 rfl) (rv_tmp rfl rfl)) ⟨_, rfl, ?_⟩
         have h144 := ((h132.ext e135).st s140 H138 (by decide))
         obtain ⟨hz1, hz2⟩ := numD_of (i := i) hD hng (by omega) hdg
         exact ⟨_, _, _, _, _, tu2 rfl (vb (by rw [hz1]; exact ⟨fun hh => ⟨hh, by omega⟩, fun hh => hh.1⟩)), E142, h144, fun _ => hz1⟩
 · refine rk_seq ?_
   refine rk_reg ?_
   refine lw_v (.string (bOf L)) (dv_move (T rfl rfl)) ?_
   refine lw_v (.int .i64 ((L.length : Int))) (dv_lenS (L := L) ut9 (T rfl rfl)) ?_
   refine lw_v (.bool (decide (0 < ((L.length : Int))))) (dv_gtr (a := (L.length : Int)) (b := 0) (T rfl rfl) C) ?_
   refine lw_v (.bool (decide (0 < ((L.length : Int))))) (dv_move (T rfl rfl)) ?_
   by_cases hb145 : 0 < ((L.length : Int))
   · refine lw_vy (.string (bOf L)) (d := 12) rfl rfl (congrArg Value.bool (decide_eq_true hb145)) (dv_move (T rfl rfl)) ?_
     have bg146 := okW.getD (hL) (by decide) 0
     refine lw_vy (.int .u8 (L.getD 0 0)) (d := 12) rfl rfl (congrArg Value.bool (decide_eq_true hb145)) (dv_indexS (L := L) (i := 0) (j := 0) ut9 (T rfl rfl) C (hL) (by omega) (by first | omega | (simp; done) | (simp; omega))) ?_
     refine lw_vy (.bool (decide ((L.getD 0 0) = 45))) (d := 12) rfl rfl (congrArg Value.bool (decide_eq_true hb145)) (dv_eql (a := L.getD 0 0) (b := 45) (T rfl rfl) C) ?_
     refine lw_v (.bool (decide ((L.getD 0 0) = 45))) (dv_pick_t (T rfl (congrArg Value.bool (decide_eq_true hb145))) (T rfl rfl)) ?_
     refine lw_nil ?_
     by_cases hb147 : (L.getD 0 0) = 45
     · refine rk_ct (T rfl (congrArg Value.bool (decide_eq_true hb147))) ?_
       refine rk_reg ?_
       refine lw_v (.string (bOf L)) (dv_move (T rfl rfl)) ?_
       refine lw_v (.string (bOf (L.drop 1))) (dv_sliceSl (L := L) (i := 1) (j := 1) ut9 (T rfl rfl) C (by omega) (by first | omega | (simp; done) | (simp; omega))) ?_
       refine lw_v (.string (bOf (L.drop 1))) (dv_assign (T rfl rfl)) ?_
       refine lw_v (.bool true) (dv_assign C) ?_
       refine lw_nil ?_
       exact hj8 _ _ ⟨(L.drop 1), true, rfl, rfl, rfl, rfl, rfl, E5, n3.blk, (digD_t (by assumption)).1, (digD_t (by assumption)).2, (by simp)⟩
     · refine rk_cf (T rfl (congrArg Value.bool (decide_eq_false hb147))) ?_
       refine rk_skip ?_
       exact hj8 _ _ ⟨L, false, rfl, rfl, rfl, rfl, rfl, E5, n3.blk, (digD_f (by assumption)).1, (digD_f (by assumption)).2, (Nat.le_refl _)⟩
   · refine lw_no (d := 12) rfl rfl (congrArg Value.bool (decide_eq_false hb145)) ?_
     refine lw_no (d := 12) rfl rfl (congrArg Value.bool (decide_eq_false hb145)) ?_
     refine lw_no (d := 12) rfl rfl (congrArg Value.bool (decide_eq_false hb145)) ?_
     refine lw_v (.bool false) (dv_pick_f (T rfl (congrArg Value.bool (decide_eq_false hb145))) C) ?_
     refine lw_nil ?_
     refine rk_cf (T rfl rfl) ?_
     refine rk_skip ?_
     exact hj8 _ _ ⟨L, false, rfl, rfl, rfl, rfl, rfl, E5, n3.blk, (digD_f (getD0 (by assumption))).1, (digD_f (getD0 (by assumption))).2, (Nat.le_refl _)⟩
set_option maxHeartbeats 1000000 in
theorem iReadWide_ok {w : World} {L : List Int} (hL : okW 256 L) (hl : L.length ≤ 1048576) : Ct Try.prog 24 [.string (bOf L)] w fun v w1 => v = .tuple #[.agg #[.int .u64 (wv3 (rdZ L)), .int .u64 (wv2 (rdZ L)), .int .u64 (wv1 (rdZ L)), .int .u64 (wv0 (rdZ L))], .bool (decide (rdS L))] ∧ Ext w w1 := by
 refine ct_run (n := 18) Try.func24 rfl Try.ntmps24 rfl ?_
 have E0 : Below w.heap.size w w := Below.refl _ _
 refine rk_seq ?_
 refine rk_reg ?_
 refine lw_e (oe_alloc ze26 ?_)
 intro b1 w2 n3
 have N4 : w.heap.size ≤ b1 := n3.eq ▸ E0.size
 have E5 := below_ext E0 E0.size n3.ext
 refine lw_v (.bool false) (dv_assign C) ?_
 refine lw_nil ?_
 refine rk_seq ?_
 refine rk_reg ?_
 refine lw_v (.string (bOf L)) (dv_move (T rfl rfl)) ?_
 refine lw_e (oe_callf (vs := [.string (bOf L)]) co59 (ar1 (T rfl rfl)) (readNum_ok (S := 400) (hL) (by first | omega | (simp; done) | (simp; omega)) (by decide)) ?_)
 rintro _ w13 ⟨nr6, A7, n8, c9, zr10, rfl, e14, h11, hzr12⟩
 have E15 := below_ext E5 E5.size e14
 have lh11 := Num.len (by decide) h11
 refine lw_v (.tuple #[.agg #[.bool nr6, .slice A7 n8 c9], .bool (decide (canD L ∧ L.length ≤ 100))]) (dv_move (T rfl rfl)) ?_
 refine lw_v (.agg #[.bool nr6, .slice A7 n8 c9]) (dv_extract (vs := #[.agg #[.bool nr6, .slice A7 n8 c9], .bool (decide (canD L ∧ L.length ≤ 100))]) (T rfl rfl) rfl) ?_
 refine lw_v (.bool (decide (canD L ∧ L.length ≤ 100))) (dv_extract (vs := #[.agg #[.bool nr6, .slice A7 n8 c9], .bool (decide (canD L ∧ L.length ≤ 100))]) (T rfl rfl) rfl) ?_
 refine lw_e (oe_alloc ze59 ?_)
 intro b16 w17 n18
 have N19 : w.heap.size ≤ b16 := n18.eq ▸ E15.size
 have H20 := (e14.blk n3.blk)
 have : b1 < b16 := n18.eq ▸ lt_of_blk H20
 have E21 := below_ext E15 E15.size n18.ext
 refine lw_e (oe_store (v := .agg #[.bool nr6, .slice A7 n8 c9]) (vs := [.bool nr6, .slice A7 n8 c9]) (l := [.bool nr6, .slice A7 n8 c9]) (T rfl rfl) (T rfl rfl) sz59 rfl rfl rfl n18.blk rfl ?_)
 intro w22 s23 H24
 have E25 := below_st E21 N19 s23
 refine lw_v (.bool (decide (canD L ∧ L.length ≤ 100))) (dv_assign (T rfl rfl)) ?_
 refine lw_nil ?_
 refine rk_seq ?_
 refine rk_seq ?_
 refine rk_reg ?_
 refine lw_v (.bool (decide (canD L ∧ L.length ≤ 100))) (dv_move (T rfl rfl)) ?_
 refine lw_v (.bool (decide (¬ (canD L ∧ L.length ≤ 100)))) (dv_notd (p := canD L ∧ L.length ≤ 100) (T rfl rfl)) ?_
 refine lw_nil ?_
 by_cases hb26 : canD L ∧ L.length ≤ 100
 · refine rk_cf (T rfl (congrArg Value.bool (decide_eq_false (not_not_intro hb26)))) ?_
   refine rk_skip ?_
   refine rk_seq ?_
   refine rk_reg ?_
   refine lw_v (.agg #[.bool nr6, .slice A7 n8 c9]) (dv_loads (l := [.bool nr6, .slice A7 n8 c9]) agt59 sz59 (T rfl rfl) H24 rfl) ?_
   have h27 := ((h11.ext n18.ext).st s23 n18.blk (by decide))
   refine lw_e (oe_callf (vs := [.agg #[.bool nr6, .slice A7 n8 c9]]) co51 (ar1 (T rfl rfl)) (nwide_ok h27 (by first | decide | omega)) ?_)
   rintro _ w29 ⟨rfl, e30⟩
   have E31 := below_ext E25 E25.size e30
   have bw28 := w_rg (zr10)
   refine lw_v (.agg #[.int .u64 (wv3 zr10), .int .u64 (wv2 zr10), .int .u64 (wv1 zr10), .int .u64 (wv0 zr10)]) (dv_extract (vs := #[.agg #[.int .u64 (wv3 zr10), .int .u64 (wv2 zr10), .int .u64 (wv1 zr10), .int .u64 (wv0 zr10)], .bool (decide (fits zr10))]) (T rfl rfl) rfl) ?_
   refine lw_v (.bool (decide (fits zr10))) (dv_extract (vs := #[.agg #[.int .u64 (wv3 zr10), .int .u64 (wv2 zr10), .int .u64 (wv1 zr10), .int .u64 (wv0 zr10)], .bool (decide (fits zr10))]) (T rfl rfl) rfl) ?_
   have H32 := (e30.blk (s23.blk (n18.ext.blk H20) (by omega)))
   refine lw_e (oe_store (v := .agg #[.int .u64 (wv3 zr10), .int .u64 (wv2 zr10), .int .u64 (wv1 zr10), .int .u64 (wv0 zr10)]) (vs := [.int .u64 (wv3 zr10), .int .u64 (wv2 zr10), .int .u64 (wv1 zr10), .int .u64 (wv0 zr10)]) (l := [.int .u64 (wv3 zr10), .int .u64 (wv2 zr10), .int .u64 (wv1 zr10), .int .u64 (wv0 zr10)]) (T rfl rfl) (T rfl rfl) sz26 rfl rfl rfl H32 rfl ?_)
   intro w33 s34 H35
   have E36 := below_st E31 N4 s34
   refine lw_v (.bool (decide (fits zr10))) (dv_assign (T rfl rfl)) ?_
   refine lw_nil ?_
   refine rk_ret Try.func24 (v := .tuple #[.agg #[.int .u64 (wv3 zr10), .int .u64 (wv2 zr10), .int .u64 (wv1 zr10), .int .u64 (wv0 zr10)], .bool (decide (fits zr10))]) (res2 Try.results24 (rv_cells (l := [.int .u64 (wv3 zr10), .int .u64 (wv2 zr10), .int .u64 (wv1 zr10), .int .u64 (wv0 zr10)]) agt26 sz26 rfl rfl H35 rfl) (rv_tmp rfl rfl)) ⟨_, rfl, ?_⟩
   have hP := hzr12 (by assumption)
   have hi : fits zr10 ↔ rdS L := by rw [hP]; exact ⟨fun hh => rd_impl.1 ⟨by assumption, hh⟩, fun hh => hh.2⟩
   have hc : canD L := (by assumption : canD L ∧ L.length ≤ 100).1
   exact ⟨(tu2 (ag4 (vi (by rw [hP]; exact wq3 hc)) (vi (by rw [hP]; exact wq2 hc)) (vi (by rw [hP]; exact wq1 hc)) (vi (by rw [hP]; exact wq0 hc))) (vb hi)), E36⟩
 · refine rk_ct (T rfl (congrArg Value.bool (decide_eq_true hb26))) ?_
   refine rk_seq ?_
   refine rk_reg ?_
   refine lw_v (.agg #[.int .u64 0, .int .u64 0, .int .u64 0, .int .u64 0]) (dv_build (pv := []) (l := [.int .u64 0, .int .u64 0, .int .u64 0, .int .u64 0]) zc26 pl26 trivial rfl) ?_
   have H37 := (s23.blk (n18.ext.blk H20) (by omega))
   refine lw_e (oe_store (v := .agg #[.int .u64 0, .int .u64 0, .int .u64 0, .int .u64 0]) (vs := [.int .u64 0, .int .u64 0, .int .u64 0, .int .u64 0]) (l := [.int .u64 0, .int .u64 0, .int .u64 0, .int .u64 0]) (T rfl rfl) (T rfl rfl) sz26 rfl rfl rfl H37 rfl ?_)
   intro w38 s39 H40
   have E41 := below_st E25 N4 s39
   refine lw_v (.bool false) (dv_assign C) ?_
   refine lw_nil ?_
   refine rk_ret Try.func24 (v := .tuple #[.agg #[.int .u64 0, .int .u64 0, .int .u64 0, .int .u64 0], .bool false]) (res2 Try.results24 (rv_cells (l := [.int .u64 0, .int .u64 0, .int .u64 0, .int .u64 0]) agt26 sz26 rfl rfl H40 rfl) (rv_tmp rfl rfl)) ⟨_, rfl, ?_⟩
   have hS : ¬ rdS L := fun hh => absurd (rd_impl.2 hh).1 (by assumption)
   exact ⟨(tu2 (ag4 (vi (wf3 hS)) (vi (wf2 hS)) (vi (wf1 hS)) (vi (wf0 hS))) (vf hS)), E41⟩
end Go.Proofs.Ytfmkadgjoechnaa.W
set_option linter.unusedVariables false
set_option linter.unusedSimpArgs false
namespace Go.Proofs.Ytfmkadgjoechnaa.W
open Go Go.RowKit Go.Proofs.Ytfmkadgjoechnaa.Fw
attribute [local irreducible] RunK LW AW DV OE Ct
theorem agt22 : aggB Try.prog 22 = some false := by kernel_rfl
theorem agt3 : aggB Try.prog 3 = some false := by kernel_rfl
theorem co24 : callOk Try.prog 24 = true := by kernel_rfl
theorem co31 : callOk Try.prog 31 = true := by kernel_rfl
theorem co60 : callOk Try.prog 60 = true := by kernel_rfl
theorem co61 : callOk Try.prog 61 = true := by kernel_rfl
theorem co67 : callOk Try.prog 67 = true := by kernel_rfl
theorem co77 : callOk Try.prog 77 = true := by kernel_rfl
theorem co97 : callOk Try.prog 97 = true := by kernel_rfl
theorem fo91_0 : fieldOffB Try.prog 91 0 = some 0 := by kernel_rfl
theorem fo91_1 : fieldOffB Try.prog 91 1 = some 1 := by kernel_rfl
theorem sz3 : sizeB Try.prog 3 = some 1 := by kernel_rfl
set_option maxHeartbeats 1000000 in
theorem rnext_ok {w : World}  {br : Nat} {A : Option Addr} {l c : Nat} {xs : List Int} {p : Int} (hx : RdI w .u8 A xs) (hxl : xs.length = l) (hl : l ≤ 1048576) (ok : okW 256 xs) (hAb : xs = [] ∨ ∀ g o, A = some ⟨g, o, none⟩ → g ≠ br) (hB : w.heap[br]? = some (.cells #[.slice A l c, .int .i64 p] 91)) (hp : 0 ≤ p ∧ p ≤ l)  : Ct Try.prog 97 [.pointer (some ⟨br, 0, none⟩)] w fun v w1 => ∃ (z : Int) (p' : Int), v = .int .i64 z ∧ Bx br w w1 ∧ w1.heap[br]? = some (.cells #[.slice A l c, .int .i64 p'] 91) ∧ (0 ≤ p' ∧ p' ≤ l) ∧ 0 ≤ z ∧ z < 256 := by
 refine ct_run (n := 32) Try.func97 rfl Try.ntmps97 rfl ?_
 have E0 : Bx br w w := Bx.refl _ _
 obtain ⟨q, rfl⟩ : ∃ q : Nat, p = q := ⟨p.toNat, by omega⟩
 refine rk_seq ?_
 refine rk_reg ?_
 refine lw_v (.int .i64 0) (dv_assign C) ?_
 refine lw_nil ?_
 refine rk_seq ?_
 refine rk_seq ?_
 refine rk_any (fun w => w.heap[br]? = some (.cells #[.slice A l c, .int .i64 ((q : Int))] 91)) [] mo ?_
 intro w1 d2
 have E3 := bx_ext E0 d2.ext
 have H4 := (d2.ext.blk hB)
 refine aw_pure 0 (.pointer (some ⟨br, 0, none⟩)) rfl (by kernel_rfl) .none H4 (fun _ => dv_move (T rfl rfl)) ?_
 refine aw_pure 1 (.pointer (some ⟨br, 0, none⟩)) rfl (by kernel_rfl) .none H4 (fun _ => dv_nilCheck (T rfl rfl)) ?_
 refine aw_pure 2 (.pointer (some ⟨br, 1, none⟩)) rfl (by kernel_rfl) .none H4 (fun _ => dv_fieldAddr (a := ⟨br, 0, none⟩) (a' := ⟨br, 1, none⟩) fo91_1 (T rfl rfl) rfl) ?_
 refine aw_load 3 (.int .i64 ((q : Int))) rfl (by kernel_rfl) .none H4 (fun _ s => dv_load1 (b := br) (o := 1) agt3 (T rfl rfl) s rfl) ?_
 refine aw_pure 4 (.pointer (some ⟨br, 0, none⟩)) rfl (by kernel_rfl) .none H4 (fun _ => dv_move (T rfl rfl)) ?_
 refine aw_pure 5 (.pointer (some ⟨br, 0, none⟩)) rfl (by kernel_rfl) .none H4 (fun _ => dv_nilCheck (T rfl rfl)) ?_
 refine aw_pure 6 (.pointer (some ⟨br, 0, none⟩)) rfl (by kernel_rfl) .none H4 (fun _ => dv_fieldAddr (a := ⟨br, 0, none⟩) (a' := ⟨br, 0, none⟩) fo91_0 (T rfl rfl) rfl) ?_
 refine aw_load 7 (.slice A l c) rfl (by kernel_rfl) .none H4 (fun _ s => dv_load1 (b := br) (o := 0) agt22 (T rfl rfl) s rfl) ?_
 refine aw_pure 8 (.int .i64 ((l : Int))) rfl (by kernel_rfl) .none H4 (fun _ => dv_len (ad := A) (l := l) (c := c) us22 (T rfl rfl)) ?_
 refine aw_pure 9 (.bool (decide (((l : Int)) ≤ ((q : Int))))) rfl (by kernel_rfl) .none H4 (fun _ => dv_geq (a := (q : Int)) (b := (l : Int)) (T rfl rfl) (T rfl rfl)) ?_
 refine aw_done (by kernel_rfl) ?_
 by_cases hb5 : ((l : Int)) ≤ ((q : Int))
 · refine rk_ct (T rfl (congrArg Value.bool (decide_eq_true hb5))) ?_
   refine rk_seq ?_
   refine rk_reg ?_
   refine lw_v (.int .i64 0) (dv_assign C) ?_
   refine lw_nil ?_
   refine rk_ret Try.func97 (v := .int .i64 0) (res1 Try.results97 (rv_tmp rfl rfl)) ⟨_, rfl, ?_⟩
   exact ⟨0, (q : Int), rfl, E3, H4, (by omega), (by first | omega | exact okW.getD ok (by decide) _)⟩
 · refine rk_cf (T rfl (congrArg Value.bool (decide_eq_false hb5))) ?_
   refine rk_skip ?_
   refine rk_seq ?_
   refine rk_reg ?_
   refine lw_v (.pointer (some ⟨br, 0, none⟩)) (dv_move (T rfl rfl)) ?_
   refine lw_v (.pointer (some ⟨br, 0, none⟩)) (dv_nilCheck (T rfl rfl)) ?_
   refine lw_v (.pointer (some ⟨br, 1, none⟩)) (dv_fieldAddr (a := ⟨br, 0, none⟩) (a' := ⟨br, 1, none⟩) fo91_1 (T rfl rfl) rfl) ?_
   refine lw_v (.int .i64 ((q : Int))) (dv_load1 (b := br) (o := 1) agt3 (T rfl rfl) H4 rfl) ?_
   refine lw_v (.int .i64 (((q : Int)) + 1)) (dv_add (a := (q : Int)) (b := 1) (z := ((q : Int)) + 1) (T rfl rfl) C (wr_i64 (by omega) (by omega))) ?_
   refine lw_v (.pointer (some ⟨br, 0, none⟩)) (dv_nilCheck (T rfl rfl)) ?_
   refine lw_v (.pointer (some ⟨br, 1, none⟩)) (dv_fieldAddr (a := ⟨br, 0, none⟩) (a' := ⟨br, 1, none⟩) fo91_1 (T rfl rfl) rfl) ?_
   refine lw_e (oe_store (v := .int .i64 (((q : Int)) + 1)) (vs := [.int .i64 (((q : Int)) + 1)]) (l := [.slice A l c, .int .i64 (((q : Int)) + 1)]) (T rfl rfl) (T rfl rfl) sz3 rfl rfl rfl H4 rfl ?_)
   intro w6 s7 H8
   have E9 := bx_st E3 s7
   refine lw_nil ?_
   refine rk_seq ?_
   have h10 := hx.bx E9 hAb
   refine rk_any (fun w => w.heap[br]? = some (.cells #[.slice A l c, .int .i64 (((q : Int)) + 1)] 91) ∧ RdI w .u8 A xs) [12] mo ?_
   intro w11 d12
   have E13 := bx_ext E9 d12.ext
   have H14 := (d12.ext.blk H8)
   have h15 := (h10.ext d12.ext)
   refine aw_pure 0 (.pointer (some ⟨br, 0, none⟩)) rfl (by kernel_rfl) .none ⟨H14, h15⟩ (fun _ => dv_move (T rfl rfl)) ?_
   refine aw_pure 1 (.pointer (some ⟨br, 0, none⟩)) rfl (by kernel_rfl) .none ⟨H14, h15⟩ (fun _ => dv_nilCheck (T rfl rfl)) ?_
   refine aw_pure 2 (.pointer (some ⟨br, 0, none⟩)) rfl (by kernel_rfl) .none ⟨H14, h15⟩ (fun _ => dv_fieldAddr (a := ⟨br, 0, none⟩) (a' := ⟨br, 0, none⟩) fo91_0 (T rfl rfl) rfl) ?_
   refine aw_load 3 (.slice A l c) rfl (by kernel_rfl) .none ⟨H14, h15⟩ (fun _ s => dv_load1 (b := br) (o := 0) agt22 (T rfl rfl) s.1 rfl) ?_
   refine aw_pure 4 (.pointer (some ⟨br, 0, none⟩)) rfl (by kernel_rfl) .none ⟨H14, h15⟩ (fun _ => dv_move (T rfl rfl)) ?_
   refine aw_pure 5 (.pointer (some ⟨br, 0, none⟩)) rfl (by kernel_rfl) .none ⟨H14, h15⟩ (fun _ => dv_nilCheck (T rfl rfl)) ?_
   refine aw_pure 6 (.pointer (some ⟨br, 1, none⟩)) rfl (by kernel_rfl) .none ⟨H14, h15⟩ (fun _ => dv_fieldAddr (a := ⟨br, 0, none⟩) (a' := ⟨br, 1, none⟩) fo91_1 (T rfl rfl) rfl) ?_
   refine aw_load 7 (.int .i64 (((q : Int)) + 1)) rfl (by kernel_rfl) .none ⟨H14, h15⟩ (fun _ s => dv_load1 (b := br) (o := 1) agt3 (T rfl rfl) s.1 rfl) ?_
   refine aw_pure 8 (.int .i64 ((((q : Int)) + 1) - 1)) rfl (by kernel_rfl) .none ⟨H14, h15⟩ (fun _ => dv_sub (a := ((q : Int)) + 1) (b := 1) (z := (((q : Int)) + 1) - 1) (T rfl rfl) C (wr_i64 (by omega) (by omega))) ?_
   obtain ⟨g16, o17, rfl⟩ := RdI.at h15 (by first | omega | (simp; done) | (simp; omega))
   refine aw_pure 9 (.pointer (some ⟨g16, o17 + (((q) + 1) - 1), none⟩)) rfl (by kernel_rfl) .none ⟨H14, h15⟩ (fun _ => dv_indexW (g := g16) (o := o17) (l := l) (c := c) (i := (((q) + 1) - 1)) (j := (((q : Int)) + 1) - 1) us22 sz5 (T rfl rfl) (T rfl rfl) (by omega) (by first | omega | (simp; done) | (simp; omega))) ?_
   have := okW.getD ok (by decide) ((((q) + 1) - 1))
   refine aw_load 10 (.int .u8 (xs.getD ((((q) + 1) - 1)) 0)) rfl (by kernel_rfl) .none ⟨H14, h15⟩ (fun _ s => dv_load agt5 (T rfl rfl) (RdI.cell s.2 (by first | omega | (simp; done) | (simp; omega)))) ?_
   refine aw_pure 11 (.int .i64 (xs.getD ((((q) + 1) - 1)) 0)) rfl (by kernel_rfl) .none ⟨H14, h15⟩ (fun _ => dv_conv (a := xs.getD ((((q) + 1) - 1)) 0) (z := xs.getD ((((q) + 1) - 1)) 0) ui5 ui3 (T rfl rfl) (wr_i64 (by omega) (by omega))) ?_
   refine aw_last 12 (.int .i64 (xs.getD ((((q) + 1) - 1)) 0)) rfl (by kernel_rfl) .none (fun _ => dv_assign (T rfl rfl)) ?_
   refine aw_done (by kernel_rfl) ?_
   refine rk_ret Try.func97 (v := .int .i64 (xs.getD ((((q) + 1) - 1)) 0)) (res1 Try.results97 (rv_tmp rfl rfl)) ⟨_, rfl, ?_⟩
   exact ⟨xs.getD ((((q) + 1) - 1)) 0, ((q : Int)) + 1, rfl, E13, H14, (by omega), (by first | omega | exact okW.getD ok (by decide) _)⟩
set_option maxHeartbeats 1000000 in
theorem rbelow_ok {w : World} {n : Int} {br : Nat} {A : Option Addr} {l c : Nat} {xs : List Int} {p : Int} (hx : RdI w .u8 A xs) (hxl : xs.length = l) (hl : l ≤ 1048576) (ok : okW 256 xs) (hAb : xs = [] ∨ ∀ g o, A = some ⟨g, o, none⟩ → g ≠ br) (hB : w.heap[br]? = some (.cells #[.slice A l c, .int .i64 p] 91)) (hp : 0 ≤ p ∧ p ≤ l)  : Ct Try.prog 61 [.pointer (some ⟨br, 0, none⟩), .int .i64 n] w fun v w1 => ∃ (z : Int) (p' : Int), v = .int .i64 z ∧ Bx br w w1 ∧ w1.heap[br]? = some (.cells #[.slice A l c, .int .i64 p'] 91) ∧ (0 ≤ p' ∧ p' ≤ l) ∧ 0 ≤ z ∧ (z < n ∨ z ≤ 0) := by
 refine ct_run (n := 24) Try.func61 rfl Try.ntmps61 rfl ?_
 have E0 : Bx br w w := Bx.refl _ _
 refine rk_seq ?_
 refine rk_reg ?_
 refine lw_v (.int .i64 0) (dv_assign C) ?_
 refine lw_nil ?_
 refine rk_seq ?_
 refine rk_seq ?_
 refine rk_reg ?_
 refine lw_v (.int .i64 n) (dv_move (T rfl rfl)) ?_
 refine lw_v (.bool (decide (n ≤ 1))) (dv_leq (a := n) (b := 1) (T rfl rfl) C) ?_
 refine lw_nil ?_
 by_cases hb1 : n ≤ 1
 · refine rk_ct (T rfl (congrArg Value.bool (decide_eq_true hb1))) ?_
   refine rk_seq ?_
   refine rk_reg ?_
   refine lw_v (.int .i64 0) (dv_assign C) ?_
   refine lw_nil ?_
   refine rk_ret Try.func61 (v := .int .i64 0) (res1 Try.results61 (rv_tmp rfl rfl)) ⟨_, rfl, ?_⟩
   exact ⟨0, p, rfl, E0, hB, (by omega), (by omega)⟩
 · refine rk_cf (T rfl (congrArg Value.bool (decide_eq_false hb1))) ?_
   refine rk_skip ?_
   refine rk_seq ?_
   refine rk_seq ?_
   refine rk_reg ?_
   refine lw_v (.int .i64 n) (dv_move (T rfl rfl)) ?_
   refine lw_v (.bool (decide (n ≤ 256))) (dv_leq (a := n) (b := 256) (T rfl rfl) C) ?_
   refine lw_nil ?_
   by_cases hb2 : n ≤ 256
   · refine rk_ct (T rfl (congrArg Value.bool (decide_eq_true hb2))) ?_
     refine rk_seq ?_
     refine rk_reg ?_
     refine lw_v (.pointer (some ⟨br, 0, none⟩)) (dv_move (T rfl rfl)) ?_
     refine lw_e (oe_callf (vs := [.pointer (some ⟨br, 0, none⟩)]) co97 (ar1 (T rfl rfl)) (rnext_ok  hx (by first | omega | (simp; done) | (simp; omega)) (by first | omega | (simp; done) | (simp; omega)) ok hAb hB (by omega) ) ?_)
     rintro _ w9 ⟨zi3, p4, rfl, e10, H6, hp7, hz8⟩
     have E11 := E0.trans e10
     refine lw_v (.int .i64 n) (dv_move (T rfl rfl)) ?_
     have := Int.emod_nonneg zi3 (show n ≠ 0 by omega); have := Int.emod_lt_of_pos zi3 (show 0 < n by omega)
     refine lw_v (.int .i64 (zi3 % n)) (dv_rem (a := zi3) (b := n) (z := zi3 % n) (T rfl rfl) (T rfl rfl) (by omega) (rem_c (by omega) rfl)) ?_
     refine lw_v (.int .i64 (zi3 % n)) (dv_assign (T rfl rfl)) ?_
     refine lw_nil ?_
     refine rk_ret Try.func61 (v := .int .i64 (zi3 % n)) (res1 Try.results61 (rv_tmp rfl rfl)) ⟨_, rfl, ?_⟩
     exact ⟨zi3 % n, p4, rfl, E11, H6, (by omega), (by omega)⟩
   · refine rk_cf (T rfl (congrArg Value.bool (decide_eq_false hb2))) ?_
     refine rk_skip ?_
     refine rk_seq ?_
     refine rk_reg ?_
     refine lw_v (.pointer (some ⟨br, 0, none⟩)) (dv_move (T rfl rfl)) ?_
     refine lw_e (oe_callf (vs := [.pointer (some ⟨br, 0, none⟩)]) co97 (ar1 (T rfl rfl)) (rnext_ok  hx (by first | omega | (simp; done) | (simp; omega)) (by first | omega | (simp; done) | (simp; omega)) ok hAb hB (by omega) ) ?_)
     rintro _ w18 ⟨zi12, p13, rfl, e19, H15, hp16, hz17⟩
     have E20 := E0.trans e19
     refine lw_v (.int .i64 (zi12 * 256)) (dv_mul (a := zi12) (b := 256) (z := zi12 * 256) (T rfl rfl) C (wr_i64 (by omega) (by omega))) ?_
     refine lw_v (.int .i64 (zi12 * 256)) (dv_assign (T rfl rfl)) ?_
     refine lw_nil ?_
     refine rk_seq ?_
     refine rk_reg ?_
     refine lw_v (.int .i64 (zi12 * 256)) (dv_move (T rfl rfl)) ?_
     refine lw_v (.pointer (some ⟨br, 0, none⟩)) (dv_move (T rfl rfl)) ?_
     have h21 := hx.bx E20 hAb
     refine lw_e (oe_callf (vs := [.pointer (some ⟨br, 0, none⟩)]) co97 (ar1 (T rfl rfl)) (rnext_ok  h21 (by first | omega | (simp; done) | (simp; omega)) (by first | omega | (simp; done) | (simp; omega)) ok hAb H15 (by omega) ) ?_)
     rintro _ w28 ⟨zi22, p23, rfl, e29, H25, hp26, hz27⟩
     have E30 := E20.trans e29
     refine lw_v (.int .i64 ((zi12 * 256) + zi22)) (dv_add (a := zi12 * 256) (b := zi22) (z := (zi12 * 256) + zi22) (T rfl rfl) (T rfl rfl) (wr_i64 (by omega) (by omega))) ?_
     refine lw_v (.int .i64 ((zi12 * 256) + zi22)) (dv_assign (T rfl rfl)) ?_
     refine lw_nil ?_
     refine rk_seq ?_
     refine rk_reg ?_
     refine lw_v (.int .i64 ((zi12 * 256) + zi22)) (dv_move (T rfl rfl)) ?_
     refine lw_v (.int .i64 n) (dv_move (T rfl rfl)) ?_
     have := Int.emod_nonneg ((zi12 * 256) + zi22) (show n ≠ 0 by omega); have := Int.emod_lt_of_pos ((zi12 * 256) + zi22) (show 0 < n by omega)
     refine lw_v (.int .i64 (((zi12 * 256) + zi22) % n)) (dv_rem (a := (zi12 * 256) + zi22) (b := n) (z := ((zi12 * 256) + zi22) % n) (T rfl rfl) (T rfl rfl) (by omega) (rem_c (by omega) rfl)) ?_
     refine lw_v (.int .i64 (((zi12 * 256) + zi22) % n)) (dv_assign (T rfl rfl)) ?_
     refine lw_nil ?_
     refine rk_ret Try.func61 (v := .int .i64 (((zi12 * 256) + zi22) % n)) (res1 Try.results61 (rv_tmp rfl rfl)) ⟨_, rfl, ?_⟩
     exact ⟨((zi12 * 256) + zi22) % n, p23, rfl, E30, H25, (by omega), (by omega)⟩
set_option maxHeartbeats 1000000 in
theorem ronce_ok {w : World} {n : Int} {br : Nat} {A : Option Addr} {l c : Nat} {xs : List Int} {p : Int} (hx : RdI w .u8 A xs) (hxl : xs.length = l) (hl : l ≤ 1048576) (ok : okW 256 xs) (hAb : xs = [] ∨ ∀ g o, A = some ⟨g, o, none⟩ → g ≠ br) (hB : w.heap[br]? = some (.cells #[.slice A l c, .int .i64 p] 91)) (hp : 0 ≤ p ∧ p ≤ l) (hn : -1000000 ≤ n ∧ n ≤ 1000000) : Ct Try.prog 45 [.pointer (some ⟨br, 0, none⟩), .int .i64 n] w fun v w1 => ∃ (z : Bool) (p' : Int), v = .bool z ∧ Bx br w w1 ∧ w1.heap[br]? = some (.cells #[.slice A l c, .int .i64 p'] 91) ∧ (0 ≤ p' ∧ p' ≤ l) ∧ True := by
 refine ct_run (n := 11) Try.func45 rfl Try.ntmps45 rfl ?_
 have E0 : Bx br w w := Bx.refl _ _
 refine rk_seq ?_
 refine rk_reg ?_
 refine lw_v (.bool false) (dv_assign C) ?_
 refine lw_nil ?_
 refine rk_seq ?_
 refine rk_reg ?_
 refine lw_v (.pointer (some ⟨br, 0, none⟩)) (dv_move (T rfl rfl)) ?_
 refine lw_v (.int .i64 n) (dv_move (T rfl rfl)) ?_
 refine lw_e (oe_callf (vs := [.pointer (some ⟨br, 0, none⟩), .int .i64 n]) co61 (ar2 (T rfl rfl) (T rfl rfl)) (rbelow_ok (n := n) hx (by first | omega | (simp; done) | (simp; omega)) (by first | omega | (simp; done) | (simp; omega)) ok hAb hB (by omega) ) ?_)
 rintro _ w7 ⟨zi1, p2, rfl, e8, H4, hp5, hz6⟩
 have E9 := E0.trans e8
 refine lw_v (.int .i64 n) (dv_move (T rfl rfl)) ?_
 refine lw_v (.int .i64 (n - 1)) (dv_sub (a := n) (b := 1) (z := n - 1) (T rfl rfl) C (wr_i64 (by omega) (by omega))) ?_
 refine lw_v (.bool (decide (zi1 = (n - 1)))) (dv_eql (a := zi1) (b := n - 1) (T rfl rfl) (T rfl rfl)) ?_
 refine lw_v (.bool (decide (zi1 = (n - 1)))) (dv_assign (T rfl rfl)) ?_
 refine lw_nil ?_
 refine rk_ret Try.func45 (v := .bool (decide (zi1 = (n - 1)))) (res1 Try.results45 (rv_tmp rfl rfl)) ⟨_, rfl, ?_⟩
 exact ⟨decide (zi1 = (n - 1)), p2, rfl, E9, H4, (by omega), trivial⟩
set_option maxHeartbeats 1000000 in
theorem rword_ok {w : World}  {br : Nat} {A : Option Addr} {l c : Nat} {xs : List Int} {p : Int} (hx : RdI w .u8 A xs) (hxl : xs.length = l) (hl : l ≤ 1048576) (ok : okW 256 xs) (hAb : xs = [] ∨ ∀ g o, A = some ⟨g, o, none⟩ → g ≠ br) (hB : w.heap[br]? = some (.cells #[.slice A l c, .int .i64 p] 91)) (hp : 0 ≤ p ∧ p ≤ l)  : Ct Try.prog 77 [.pointer (some ⟨br, 0, none⟩)] w fun v w1 => ∃ (z : Int) (p' : Int), v = .int .u64 z ∧ Bx br w w1 ∧ w1.heap[br]? = some (.cells #[.slice A l c, .int .i64 p'] 91) ∧ (0 ≤ p' ∧ p' ≤ l) ∧ 0 ≤ z ∧ z < 18446744073709551616 := by
 refine ct_run (n := 16) Try.func77 rfl Try.ntmps77 rfl ?_
 have E0 : Bx br w w := Bx.refl _ _
 refine rk_seq ?_
 refine rk_reg ?_
 refine lw_v (.int .u64 0) (dv_assign C) ?_
 refine lw_nil ?_
 refine rk_seq ?_
 refine rk_reg ?_
 refine lw_v (.int .u64 0) (dv_assign C) ?_
 refine lw_nil ?_
 refine rk_seq ?_
 refine rk_seq ?_
 refine rk_reg ?_
 refine lw_v (.int .i64 0) (dv_assign C) ?_
 refine lw_nil ?_
 refine rk_block ?_
 refine rk_loop (fun dm_ fr wl => ∃ (i : Nat) (z p : Int), dm_ = 8 - i ∧ fr 0 = .pointer (some ⟨br, 0, none⟩) ∧ fr 2 = .int .u64 0 ∧ fr 3 = .int .u64 z ∧ fr 4 = .int .i64 ((i : Int)) ∧ Bx br w wl ∧ wl.heap[br]? = some (.cells #[.slice A l c, .int .i64 p] 91) ∧ (i ≤ 8) ∧ (0 ≤ z ∧ z < 18446744073709551616) ∧ (0 ≤ p ∧ p ≤ l)) (8 - 0) ⟨0, 0, p, rfl, rfl, rfl, rfl, (vi (by omega)), E0, hB, (Nat.zero_le _), (by decide), (by omega)⟩ ?_
 intro d5 fr4 w1 hI2 ih3
 obtain ⟨i, z, p, hd12, f6, f7, f8, f9, E10, H11, hi, hz, hp⟩ := hI2
 refine rk_seq ?_
 refine rk_seq ?_
 refine rk_reg ?_
 refine lw_v (.int .i64 ((i : Int))) (dv_move (T rfl f9)) ?_
 refine lw_v (.bool (decide (((i : Int)) < 8))) (dv_lss (a := (i : Int)) (b := 8) (T rfl rfl) C) ?_
 refine lw_nil ?_
 by_cases hb13 : ((i : Int)) < 8
 · refine rk_ct (T rfl (congrArg Value.bool (decide_eq_true hb13))) ?_
   refine rk_skip ?_
   refine rk_seq ?_
   refine rk_block ?_
   refine rk_reg ?_
   refine lw_v (.int .u64 z) (dv_move (T rfl f8)) ?_
   refine lw_v (.int .u64 ((z * 256) % 18446744073709551616)) (dv_shl (a := z) (b := 8) (z := (z * 256) % 18446744073709551616) (T rfl rfl) C (by decide) (shl_c (m := 256) (n := 8) (by decide) (wr_u64 _))) ?_
   refine lw_v (.pointer (some ⟨br, 0, none⟩)) (dv_move (T rfl f6)) ?_
   have h14 := hx.bx E10 hAb
   refine lw_e (oe_callf (vs := [.pointer (some ⟨br, 0, none⟩)]) co97 (ar1 (T rfl rfl)) (rnext_ok  h14 (by first | omega | (simp; done) | (simp; omega)) (by first | omega | (simp; done) | (simp; omega)) ok hAb H11 (by omega) ) ?_)
   rintro _ w21 ⟨zi15, p16, rfl, e22, H18, hp19, hz20⟩
   have E23 := E10.trans e22
   refine lw_v (.int .u64 ((zi15) % 18446744073709551616)) (dv_conv (a := zi15) (z := (zi15) % 18446744073709551616) ui3 ui24 (T rfl rfl) (wr_u64 _)) ?_
   refine lw_v (.int .u64 (bitV .u64 .or ((z * 256) % 18446744073709551616) ((zi15) % 18446744073709551616))) (dv_or (a := (z * 256) % 18446744073709551616) (b := (zi15) % 18446744073709551616) (z := bitV .u64 .or ((z * 256) % 18446744073709551616) ((zi15) % 18446744073709551616)) (T rfl rfl) (T rfl rfl) rfl) ?_
   refine lw_v (.int .u64 (bitV .u64 .or ((z * 256) % 18446744073709551616) ((zi15) % 18446744073709551616))) (dv_assign (T rfl rfl)) ?_
   refine lw_nil ?_
   refine rk_inBlock ?_
   refine rk_reg ?_
   refine lw_v (.int .i64 ((i : Int))) (dv_move (T rfl f9)) ?_
   refine lw_v (.int .i64 (((i : Int)) + 1)) (dv_add (a := (i : Int)) (b := 1) (z := ((i : Int)) + 1) (T rfl rfl) C (wr_i64 (by omega) (by omega))) ?_
   refine lw_v (.int .i64 (((i : Int)) + 1)) (dv_assign (T rfl rfl)) ?_
   refine lw_nil ?_
   have hzr : 0 ≤ bitV .u64 .or ((z * 256) % 18446744073709551616) ((zi15) % 18446744073709551616) ∧ bitV .u64 .or ((z * 256) % 18446744073709551616) ((zi15) % 18446744073709551616) < 18446744073709551616 := by first | omega | exact or_rg64 _ _
   exact ih3 (8 - ((i + 1))) _ _ (by rw [hd12]; omega) ⟨(i + 1), (bitV .u64 .or ((z * 256) % 18446744073709551616) ((zi15) % 18446744073709551616)), p16, rfl, f6, f7, rfl, (vi (by omega)), E23, H18, (by omega), hzr, (by omega)⟩
 · refine rk_cf (T rfl (congrArg Value.bool (decide_eq_false hb13))) ?_
   refine rk_exit rfl ?_
   refine rk_seq ?_
   refine rk_reg ?_
   refine lw_v (.int .u64 z) (dv_move (T rfl f8)) ?_
   refine lw_v (.int .u64 z) (dv_assign (T rfl rfl)) ?_
   refine lw_nil ?_
   refine rk_ret Try.func77 (v := .int .u64 z) (res1 Try.results77 (rv_tmp rfl rfl)) ⟨_, rfl, ?_⟩
   exact ⟨z, p, rfl, E10, H11, (by omega), (by first | omega | exact or_rg64 _ _)⟩
set_option maxHeartbeats 1000000 in
theorem rnear_ok {w : World} {lo hi : Int} {br : Nat} {A : Option Addr} {l c : Nat} {xs : List Int} {p : Int} (hx : RdI w .u8 A xs) (hxl : xs.length = l) (hl : l ≤ 1048576) (ok : okW 256 xs) (hAb : xs = [] ∨ ∀ g o, A = some ⟨g, o, none⟩ → g ≠ br) (hB : w.heap[br]? = some (.cells #[.slice A l c, .int .i64 p] 91)) (hp : 0 ≤ p ∧ p ≤ l) (hlo : -2000000000 ≤ lo ∧ lo ≤ 2000000000) (hhi : -2000000000 ≤ hi ∧ hi ≤ 2000000000) : Ct Try.prog 80 [.pointer (some ⟨br, 0, none⟩), .int .i64 lo, .int .i64 hi] w fun v w1 => ∃ (z : Int) (p' : Int), v = .int .i64 z ∧ Bx br w w1 ∧ w1.heap[br]? = some (.cells #[.slice A l c, .int .i64 p'] 91) ∧ (0 ≤ p' ∧ p' ≤ l) ∧ -2000000000 ≤ z ∧ z ≤ 2000000000 := by
 refine ct_run (n := 31) Try.func80 rfl Try.ntmps80 rfl ?_
 have E0 : Bx br w w := Bx.refl _ _
 refine rk_seq ?_
 refine rk_reg ?_
 refine lw_v (.int .i64 0) (dv_assign C) ?_
 refine lw_nil ?_
 refine rk_seq ?_
 refine rk_seq ?_
 refine rk_reg ?_
 refine lw_v (.pointer (some ⟨br, 0, none⟩)) (dv_move (T rfl rfl)) ?_
 refine lw_e (oe_callf (vs := [.pointer (some ⟨br, 0, none⟩), .int .i64 8]) co61 (ar2 (T rfl rfl) C) (rbelow_ok (n := 8) hx (by first | omega | (simp; done) | (simp; omega)) (by first | omega | (simp; done) | (simp; omega)) ok hAb hB (by omega) ) ?_)
 rintro _ w7 ⟨zi1, p2, rfl, e8, H4, hp5, hz6⟩
 have E9 := E0.trans e8
 refine lw_nil ?_
 refine rk_block ?_
 refine rk_seq ?_
 refine rk_reg ?_
 refine lw_v (.bool (decide (zi1 = 0))) (dv_eql (a := zi1) (b := 0) (T rfl rfl) C) ?_
 refine lw_v (.bool (decide (zi1 = 0))) (dv_assign (T rfl rfl)) ?_
 refine lw_nil ?_
 by_cases hb10 : zi1 = 0
 · refine rk_ct (T rfl (congrArg Value.bool (decide_eq_true hb10))) ?_
   refine rk_seq ?_
   refine rk_reg ?_
   refine lw_v (.int .i64 lo) (dv_move (T rfl rfl)) ?_
   refine lw_v (.int .i64 lo) (dv_assign (T rfl rfl)) ?_
   refine lw_nil ?_
   refine rk_ret Try.func80 (v := .int .i64 lo) (res1 Try.results80 (rv_tmp rfl rfl)) ⟨_, rfl, ?_⟩
   exact ⟨lo, p2, rfl, E9, H4, (by omega), (by omega)⟩
 · refine rk_cf (T rfl (congrArg Value.bool (decide_eq_false hb10))) ?_
   refine rk_seq ?_
   refine rk_reg ?_
   refine lw_v (.bool (decide (zi1 = 1))) (dv_eql (a := zi1) (b := 1) (T rfl rfl) C) ?_
   refine lw_v (.bool (decide (zi1 = 1))) (dv_assign (T rfl rfl)) ?_
   refine lw_nil ?_
   by_cases hb11 : zi1 = 1
   · refine rk_ct (T rfl (congrArg Value.bool (decide_eq_true hb11))) ?_
     refine rk_seq ?_
     refine rk_reg ?_
     refine lw_v (.int .i64 hi) (dv_move (T rfl rfl)) ?_
     refine lw_v (.int .i64 hi) (dv_assign (T rfl rfl)) ?_
     refine lw_nil ?_
     refine rk_ret Try.func80 (v := .int .i64 hi) (res1 Try.results80 (rv_tmp rfl rfl)) ⟨_, rfl, ?_⟩
     exact ⟨hi, p2, rfl, E9, H4, (by omega), (by omega)⟩
   · refine rk_cf (T rfl (congrArg Value.bool (decide_eq_false hb11))) ?_
     refine rk_skip ?_
     refine rk_inBlock ?_
     refine rk_seq ?_
     refine rk_seq ?_
     refine rk_reg ?_
     refine lw_v (.int .i64 hi) (dv_move (T rfl rfl)) ?_
     refine lw_v (.int .i64 lo) (dv_move (T rfl rfl)) ?_
     refine lw_v (.bool (decide (hi < lo))) (dv_lss (a := hi) (b := lo) (T rfl rfl) (T rfl rfl)) ?_
     refine lw_nil ?_
     by_cases hb12 : hi < lo
     · refine rk_ct (T rfl (congrArg Value.bool (decide_eq_true hb12))) ?_
       refine rk_seq ?_
       refine rk_reg ?_
       refine lw_v (.int .i64 lo) (dv_move (T rfl rfl)) ?_
       refine lw_v (.int .i64 lo) (dv_assign (T rfl rfl)) ?_
       refine lw_nil ?_
       refine rk_ret Try.func80 (v := .int .i64 lo) (res1 Try.results80 (rv_tmp rfl rfl)) ⟨_, rfl, ?_⟩
       exact ⟨lo, p2, rfl, E9, H4, (by omega), (by omega)⟩
     · refine rk_cf (T rfl (congrArg Value.bool (decide_eq_false hb12))) ?_
       refine rk_skip ?_
       refine rk_seq ?_
       refine rk_reg ?_
       refine lw_v (.int .i64 lo) (dv_move (T rfl rfl)) ?_
       refine lw_v (.pointer (some ⟨br, 0, none⟩)) (dv_move (T rfl rfl)) ?_
       have h13 := hx.bx E9 hAb
       refine lw_e (oe_callf (vs := [.pointer (some ⟨br, 0, none⟩)]) co77 (ar1 (T rfl rfl)) (rword_ok  h13 (by first | omega | (simp; done) | (simp; omega)) (by first | omega | (simp; done) | (simp; omega)) ok hAb H4 (by omega) ) ?_)
       rintro _ w20 ⟨zu14, p15, rfl, e21, H17, hp18, hz19⟩
       have E22 := E9.trans e21
       refine lw_v (.int .u64 (zu14 / 2)) (dv_shr (a := zu14) (b := 1) (z := zu14 / 2) (T rfl rfl) C (by decide) (shr_c (n := 1) (by omega) (by decide))) ?_
       refine lw_v (.int .i64 hi) (dv_move (T rfl rfl)) ?_
       refine lw_v (.int .i64 lo) (dv_move (T rfl rfl)) ?_
       refine lw_v (.int .i64 (hi - lo)) (dv_sub (a := hi) (b := lo) (z := hi - lo) (T rfl rfl) (T rfl rfl) (wr_i64 (by omega) (by omega))) ?_
       refine lw_v (.int .i64 ((hi - lo) + 1)) (dv_add (a := hi - lo) (b := 1) (z := (hi - lo) + 1) (T rfl rfl) C (wr_i64 (by omega) (by omega))) ?_
       refine lw_v (.int .u64 ((hi - lo) + 1)) (dv_conv (a := (hi - lo) + 1) (z := (hi - lo) + 1) ui2 ui24 (T rfl rfl) (wn_u64 (by omega) (by omega))) ?_
       have := Int.emod_nonneg (zu14 / 2) (show ((hi - lo) + 1) ≠ 0 by omega); have := Int.emod_lt_of_pos (zu14 / 2) (show 0 < ((hi - lo) + 1) by omega)
       refine lw_v (.int .u64 ((zu14 / 2) % ((hi - lo) + 1))) (dv_rem (a := zu14 / 2) (b := (hi - lo) + 1) (z := (zu14 / 2) % ((hi - lo) + 1)) (T rfl rfl) (T rfl rfl) (by omega) (rem_c (by omega) rfl)) ?_
       refine lw_v (.int .i64 ((zu14 / 2) % ((hi - lo) + 1))) (dv_conv (a := (zu14 / 2) % ((hi - lo) + 1)) (z := (zu14 / 2) % ((hi - lo) + 1)) ui24 ui2 (T rfl rfl) (wr_i64 (by omega) (by omega))) ?_
       refine lw_v (.int .i64 (lo + ((zu14 / 2) % ((hi - lo) + 1)))) (dv_add (a := lo) (b := (zu14 / 2) % ((hi - lo) + 1)) (z := lo + ((zu14 / 2) % ((hi - lo) + 1))) (T rfl rfl) (T rfl rfl) (wr_i64 (by omega) (by omega))) ?_
       refine lw_v (.int .i64 (lo + ((zu14 / 2) % ((hi - lo) + 1)))) (dv_assign (T rfl rfl)) ?_
       refine lw_nil ?_
       refine rk_ret Try.func80 (v := .int .i64 (lo + ((zu14 / 2) % ((hi - lo) + 1)))) (res1 Try.results80 (rv_tmp rfl rfl)) ⟨_, rfl, ?_⟩
       exact ⟨lo + ((zu14 / 2) % ((hi - lo) + 1)), p15, rfl, E22, H17, (by omega), (by omega)⟩
end Go.Proofs.Ytfmkadgjoechnaa.W
set_option linter.unusedVariables false
set_option linter.unusedSimpArgs false
namespace Go.Proofs.Ytfmkadgjoechnaa.W
open Go Go.RowKit Go.Proofs.Ytfmkadgjoechnaa.Fw
attribute [local irreducible] RunK LW AW DV OE Ct
theorem agt2 : aggB Try.prog 2 = some false := by kernel_rfl
theorem co45 : callOk Try.prog 45 = true := by kernel_rfl
theorem co80 : callOk Try.prog 80 = true := by kernel_rfl
theorem pl91 : placesB Try.prog 91 = some [(0, 1), (1, 1)] := by kernel_rfl
theorem sz2 : sizeB Try.prog 2 = some 1 := by kernel_rfl
theorem us33 : Try.prog.underlying 33 = some (.slice 26) := by kernel_rfl
theorem us92 : Try.prog.underlying 92 = some (.slice 2) := by kernel_rfl
theorem zc2 : zcB Try.prog 2 = some [.int .i64 0] := by kernel_rfl
theorem zc91 : zcB Try.prog 91 = some [.slice none 0 0, .int .i64 0] := by kernel_rfl
set_option maxHeartbeats 1000000 in
theorem sWideOf_ok {w : World} {x : Int}  (hx : -9223372036854775808 ≤ x ∧ x < 9223372036854775808) : Ct Try.prog 60 [.int .i64 x] w fun v w1 => v = .agg #[.int .u64 (wv3 x), .int .u64 (wv2 x), .int .u64 (wv1 x), .int .u64 (wv0 x)] ∧ Ext w w1 := by
 refine ct_run (n := 12) Try.func60 rfl Try.ntmps60 rfl ?_
 have E0 : Below w.heap.size w w := Below.refl _ _
 refine rk_seq ?_
 refine rk_reg ?_
 refine lw_e (oe_alloc ze26 ?_)
 intro b1 w2 n3
 have N4 : w.heap.size ≤ b1 := n3.eq ▸ E0.size
 have E5 := below_ext E0 E0.size n3.ext
 refine lw_nil ?_
 refine rk_seq ?_
 refine rk_reg ?_
 refine lw_v (.int .i64 x) (dv_move (T rfl rfl)) ?_
 refine lw_e (oe_callf (vs := [.int .i64 x]) co79 (ar1 (T rfl rfl)) (l1Int_ok  (by omega)) ?_)
 rintro _ w11 ⟨nr6, A7, n8, c9, rfl, e12, h10⟩
 have E13 := below_ext E5 E5.size e12
 have lh10 := Num.len (by decide) h10
 refine lw_e (oe_callf (vs := [.agg #[.bool nr6, .slice A7 n8 c9]]) co54 (ar1 (T rfl rfl)) (l1Wide_ok h10 (by first | decide | omega)) ?_)
 rintro _ w15 ⟨rfl, e16⟩
 have E17 := below_ext E13 E13.size e16
 have bw14 := w_rg (x)
 refine lw_v (.tuple #[.agg #[.int .u64 (wv3 x), .int .u64 (wv2 x), .int .u64 (wv1 x), .int .u64 (wv0 x)], .bool (decide (fits x))]) (dv_move (T rfl rfl)) ?_
 refine lw_v (.agg #[.int .u64 (wv3 x), .int .u64 (wv2 x), .int .u64 (wv1 x), .int .u64 (wv0 x)]) (dv_extract (vs := #[.agg #[.int .u64 (wv3 x), .int .u64 (wv2 x), .int .u64 (wv1 x), .int .u64 (wv0 x)], .bool (decide (fits x))]) (T rfl rfl) rfl) ?_
 refine lw_v (.bool (decide (fits x))) (dv_extract (vs := #[.agg #[.int .u64 (wv3 x), .int .u64 (wv2 x), .int .u64 (wv1 x), .int .u64 (wv0 x)], .bool (decide (fits x))]) (T rfl rfl) rfl) ?_
 refine lw_e (oe_alloc ze26 ?_)
 intro b18 w19 n20
 have N21 : w.heap.size ≤ b18 := n20.eq ▸ E17.size
 have H22 := (e16.blk (e12.blk n3.blk))
 have : b1 < b18 := n20.eq ▸ lt_of_blk H22
 have E23 := below_ext E17 E17.size n20.ext
 refine lw_e (oe_store (v := .agg #[.int .u64 (wv3 x), .int .u64 (wv2 x), .int .u64 (wv1 x), .int .u64 (wv0 x)]) (vs := [.int .u64 (wv3 x), .int .u64 (wv2 x), .int .u64 (wv1 x), .int .u64 (wv0 x)]) (l := [.int .u64 (wv3 x), .int .u64 (wv2 x), .int .u64 (wv1 x), .int .u64 (wv0 x)]) (T rfl rfl) (T rfl rfl) sz26 rfl rfl rfl n20.blk rfl ?_)
 intro w24 s25 H26
 have E27 := below_st E23 N21 s25
 refine lw_v (.bool (decide (fits x))) (dv_assign (T rfl rfl)) ?_
 refine lw_nil ?_
 refine rk_seq ?_
 refine rk_reg ?_
 refine lw_v (.agg #[.int .u64 (wv3 x), .int .u64 (wv2 x), .int .u64 (wv1 x), .int .u64 (wv0 x)]) (dv_loads (l := [.int .u64 (wv3 x), .int .u64 (wv2 x), .int .u64 (wv1 x), .int .u64 (wv0 x)]) agt26 sz26 (T rfl rfl) H26 rfl) ?_
 have H28 := (s25.blk (n20.ext.blk H22) (by omega))
 refine lw_e (oe_store (v := .agg #[.int .u64 (wv3 x), .int .u64 (wv2 x), .int .u64 (wv1 x), .int .u64 (wv0 x)]) (vs := [.int .u64 (wv3 x), .int .u64 (wv2 x), .int .u64 (wv1 x), .int .u64 (wv0 x)]) (l := [.int .u64 (wv3 x), .int .u64 (wv2 x), .int .u64 (wv1 x), .int .u64 (wv0 x)]) (T rfl rfl) (T rfl rfl) sz26 rfl rfl rfl H28 rfl ?_)
 intro w29 s30 H31
 have E32 := below_st E27 N4 s30
 refine lw_nil ?_
 refine rk_ret Try.func60 (v := .agg #[.int .u64 (wv3 x), .int .u64 (wv2 x), .int .u64 (wv1 x), .int .u64 (wv0 x)]) (res1 Try.results60 (rv_cells (l := [.int .u64 (wv3 x), .int .u64 (wv2 x), .int .u64 (wv1 x), .int .u64 (wv0 x)]) agt26 sz26 rfl rfl H31 rfl)) ⟨_, rfl, ?_⟩
 exact ⟨rfl, E32⟩
set_option maxHeartbeats 1000000 in
theorem rwide_ok {w : World}  {br : Nat} {A : Option Addr} {l c : Nat} {xs : List Int} {p : Int} (hx : RdI w .u8 A xs) (hxl : xs.length = l) (hl : l ≤ 1048576) (ok : okW 256 xs) (hAb : xs = [] ∨ ∀ g o, A = some ⟨g, o, none⟩ → g ≠ br) (hB : w.heap[br]? = some (.cells #[.slice A l c, .int .i64 p] 91)) (hp : 0 ≤ p ∧ p ≤ l)  : Ct Try.prog 44 [.pointer (some ⟨br, 0, none⟩)] w fun v w1 => ∃ (z : Int) (p' : Int), v = .agg #[.int .u64 (wv3 z), .int .u64 (wv2 z), .int .u64 (wv1 z), .int .u64 (wv0 z)] ∧ Bx br w w1 ∧ w1.heap[br]? = some (.cells #[.slice A l c, .int .i64 p'] 91) ∧ (0 ≤ p' ∧ p' ≤ l) ∧ fits z := by
 refine ct_run (n := 85) Try.func44 rfl Try.ntmps44 rfl ?_
 have E0 : Bx br w w := Bx.refl _ _
 refine rk_seq ?_
 refine rk_reg ?_
 refine lw_e (oe_alloc ze26 ?_)
 intro b1 w2 n3
 have N4 : w.heap.size ≤ b1 := n3.eq ▸ E0.size
 have : br < b1 := n3.eq ▸ lt_of_blk hB
 have E5 := bx_ext E0 n3.ext
 refine lw_nil ?_
 refine rk_seq ?_
 refine rk_seq ?_
 refine rk_reg ?_
 refine lw_v (.pointer (some ⟨br, 0, none⟩)) (dv_move (T rfl rfl)) ?_
 have h6 := (hx.ext n3.ext)
 have H7 := (n3.ext.blk hB)
 refine lw_e (oe_callf (vs := [.pointer (some ⟨br, 0, none⟩), .int .i64 9]) co61 (ar2 (T rfl rfl) C) (rbelow_ok (n := 9) h6 (by first | omega | (simp; done) | (simp; omega)) (by first | omega | (simp; done) | (simp; omega)) ok hAb H7 (by omega) ) ?_)
 rintro _ w14 ⟨zi8, p9, rfl, e15, H11, hp12, hz13⟩
 have E16 := E5.trans e15
 refine lw_nil ?_
 refine rk_block ?_
 refine rk_seq ?_
 refine rk_reg ?_
 refine lw_v (.bool (decide (zi8 = 0))) (dv_eql (a := zi8) (b := 0) (T rfl rfl) C) ?_
 refine lw_v (.bool (decide (zi8 = 0))) (dv_assign (T rfl rfl)) ?_
 refine lw_nil ?_
 by_cases hb17 : zi8 = 0
 · refine rk_ct (T rfl (congrArg Value.bool (decide_eq_true hb17))) ?_
   refine rk_seq ?_
   refine rk_reg ?_
   refine lw_e (oe_buildSlice (pv := [(0, .int .i64 0), (1, .int .i64 1), (2, .int .i64 (-1)), (3, .int .i64 2), (4, .int .i64 10), (5, .int .i64 (-9223372036854775808)), (6, .int .i64 9223372036854775807)]) (init := [.int .i64 0, .int .i64 0, .int .i64 0, .int .i64 0, .int .i64 0, .int .i64 0, .int .i64 0]) (l := [.int .i64 0, .int .i64 1, .int .i64 (-1), .int .i64 2, .int .i64 10, .int .i64 (-9223372036854775808), .int .i64 9223372036854775807]) us92 sz2 rfl rfl zc2 (by kernel_rfl) ⟨rfl, C, ⟨rfl, C, ⟨rfl, C, ⟨rfl, C, ⟨rfl, C, ⟨rfl, C, ⟨rfl, C, trivial⟩⟩⟩⟩⟩⟩⟩ rfl ?_)
   intro b18 w19 n20
   have N21 : w.heap.size ≤ b18 := n20.eq ▸ E16.size
   have H22 := (bx_blk e15 n3.blk (by omega))
   have : b1 < b18 := n20.eq ▸ lt_of_blk H22
   have E23 := bx_ext E16 n20.ext
   refine lw_v (.pointer (some ⟨br, 0, none⟩)) (dv_move (T rfl rfl)) ?_
   have h24 := hx.bx E23 hAb
   have H25 := (n20.ext.blk H11)
   refine lw_e (oe_callf (vs := [.pointer (some ⟨br, 0, none⟩), .int .i64 7]) co61 (ar2 (T rfl rfl) C) (rbelow_ok (n := 7) h24 (by first | omega | (simp; done) | (simp; omega)) (by first | omega | (simp; done) | (simp; omega)) ok hAb H25 (by omega) ) ?_)
   rintro _ w32 ⟨zi26, p27, rfl, e33, H29, hp30, hz31⟩
   have E34 := E23.trans e33
   refine lw_v (.pointer (some ⟨b18, zi26.toNat, none⟩)) (dv_indexO (g := b18) (l := 7) (c := 7) (i := zi26.toNat) (j := zi26) us92 sz2 (T rfl rfl) (T rfl rfl) (by omega) (by first | omega | (simp; done) | (simp; omega))) ?_
   have := lit_rg (lo := -9223372036854775808) (hi := 9223372036854775807) (L := [0, 1, (-1), 2, 10, (-9223372036854775808), 9223372036854775807]) (by decide) (by decide) zi26.toNat
   have H35 := (bx_blk e33 n20.blk (by omega))
   refine lw_v (.int .i64 (([0, 1, (-1), 2, 10, (-9223372036854775808), 9223372036854775807]).getD zi26.toNat 0)) (dv_loadW (L := [0, 1, (-1), 2, 10, (-9223372036854775808), 9223372036854775807]) (v := ([0, 1, (-1), 2, 10, (-9223372036854775808), 9223372036854775807]).getD zi26.toNat 0) agt2 (T rfl rfl) H35 (by first | omega | (simp; done) | (simp; omega)) rfl) ?_
   refine lw_e (oe_callf (vs := [.int .i64 (([0, 1, (-1), 2, 10, (-9223372036854775808), 9223372036854775807]).getD zi26.toNat 0)]) co60 (ar1 (T rfl rfl)) (sWideOf_ok (x := ([0, 1, (-1), 2, 10, (-9223372036854775808), 9223372036854775807]).getD zi26.toNat 0)  (by omega)) ?_)
   rintro _ w36 ⟨rfl, e37⟩
   have E38 := bx_ext E34 e37
   have H39 := (e37.blk (bx_blk e33 (n20.ext.blk H22) (by omega)))
   refine lw_e (oe_store (v := .agg #[.int .u64 (wv3 (([0, 1, (-1), 2, 10, (-9223372036854775808), 9223372036854775807]).getD zi26.toNat 0)), .int .u64 (wv2 (([0, 1, (-1), 2, 10, (-9223372036854775808), 9223372036854775807]).getD zi26.toNat 0)), .int .u64 (wv1 (([0, 1, (-1), 2, 10, (-9223372036854775808), 9223372036854775807]).getD zi26.toNat 0)), .int .u64 (wv0 (([0, 1, (-1), 2, 10, (-9223372036854775808), 9223372036854775807]).getD zi26.toNat 0))]) (vs := [.int .u64 (wv3 (([0, 1, (-1), 2, 10, (-9223372036854775808), 9223372036854775807]).getD zi26.toNat 0)), .int .u64 (wv2 (([0, 1, (-1), 2, 10, (-9223372036854775808), 9223372036854775807]).getD zi26.toNat 0)), .int .u64 (wv1 (([0, 1, (-1), 2, 10, (-9223372036854775808), 9223372036854775807]).getD zi26.toNat 0)), .int .u64 (wv0 (([0, 1, (-1), 2, 10, (-9223372036854775808), 9223372036854775807]).getD zi26.toNat 0))]) (l := [.int .u64 (wv3 (([0, 1, (-1), 2, 10, (-9223372036854775808), 9223372036854775807]).getD zi26.toNat 0)), .int .u64 (wv2 (([0, 1, (-1), 2, 10, (-9223372036854775808), 9223372036854775807]).getD zi26.toNat 0)), .int .u64 (wv1 (([0, 1, (-1), 2, 10, (-9223372036854775808), 9223372036854775807]).getD zi26.toNat 0)), .int .u64 (wv0 (([0, 1, (-1), 2, 10, (-9223372036854775808), 9223372036854775807]).getD zi26.toNat 0))]) (T rfl rfl) (T rfl rfl) sz26 rfl rfl rfl H39 rfl ?_)
   intro w40 s41 H42
   have E43 := bx_stN E38 N4 s41
   refine lw_nil ?_
   refine rk_ret Try.func44 (v := .agg #[.int .u64 (wv3 (([0, 1, (-1), 2, 10, (-9223372036854775808), 9223372036854775807]).getD zi26.toNat 0)), .int .u64 (wv2 (([0, 1, (-1), 2, 10, (-9223372036854775808), 9223372036854775807]).getD zi26.toNat 0)), .int .u64 (wv1 (([0, 1, (-1), 2, 10, (-9223372036854775808), 9223372036854775807]).getD zi26.toNat 0)), .int .u64 (wv0 (([0, 1, (-1), 2, 10, (-9223372036854775808), 9223372036854775807]).getD zi26.toNat 0))]) (res1 Try.results44 (rv_cells (l := [.int .u64 (wv3 (([0, 1, (-1), 2, 10, (-9223372036854775808), 9223372036854775807]).getD zi26.toNat 0)), .int .u64 (wv2 (([0, 1, (-1), 2, 10, (-9223372036854775808), 9223372036854775807]).getD zi26.toNat 0)), .int .u64 (wv1 (([0, 1, (-1), 2, 10, (-9223372036854775808), 9223372036854775807]).getD zi26.toNat 0)), .int .u64 (wv0 (([0, 1, (-1), 2, 10, (-9223372036854775808), 9223372036854775807]).getD zi26.toNat 0))]) agt26 sz26 rfl rfl H42 rfl)) ⟨_, rfl, ?_⟩
   have H44 := (s41.blk (e37.blk H29) (by omega))
   exact ⟨([0, 1, (-1), 2, 10, (-9223372036854775808), 9223372036854775807]).getD zi26.toNat 0, p27, (ag4 rfl rfl rfl rfl), E43, H44, (by omega), (fits_i (by omega))⟩
 · refine rk_cf (T rfl (congrArg Value.bool (decide_eq_false hb17))) ?_
   refine rk_seq ?_
   refine rk_reg ?_
   refine lw_v (.bool (decide (zi8 = 1))) (dv_eql (a := zi8) (b := 1) (T rfl rfl) C) ?_
   refine lw_v (.bool (decide (zi8 = 1))) (dv_assign (T rfl rfl)) ?_
   refine lw_nil ?_
   by_cases hb45 : zi8 = 1
   · refine rk_ct (T rfl (congrArg Value.bool (decide_eq_true hb45))) ?_
     refine rk_seq ?_
     refine rk_reg ?_
     refine lw_v (.agg #[.int .u64 9223372036854775808, .int .u64 0, .int .u64 0, .int .u64 0]) (dv_build (pv := [(0, .int .u64 9223372036854775808)]) (l := [.int .u64 9223372036854775808, .int .u64 0, .int .u64 0, .int .u64 0]) zc26 pl26 ⟨rfl, C, trivial⟩ rfl) ?_
     refine lw_v (.agg #[.int .u64 9223372036854775807, .int .u64 18446744073709551615, .int .u64 18446744073709551615, .int .u64 18446744073709551615]) (dv_build (pv := [(0, .int .u64 9223372036854775807), (1, .int .u64 18446744073709551615), (2, .int .u64 18446744073709551615), (3, .int .u64 18446744073709551615)]) (l := [.int .u64 9223372036854775807, .int .u64 18446744073709551615, .int .u64 18446744073709551615, .int .u64 18446744073709551615]) zc26 pl26 ⟨rfl, C, ⟨rfl, C, ⟨rfl, C, ⟨rfl, C, trivial⟩⟩⟩⟩ rfl) ?_
     refine lw_v (.agg #[.int .u64 9223372036854775808, .int .u64 0, .int .u64 0, .int .u64 1]) (dv_build (pv := [(0, .int .u64 9223372036854775808), (3, .int .u64 1)]) (l := [.int .u64 9223372036854775808, .int .u64 0, .int .u64 0, .int .u64 1]) zc26 pl26 ⟨rfl, C, ⟨rfl, C, trivial⟩⟩ rfl) ?_
     refine lw_v (.agg #[.int .u64 4611686018427387904, .int .u64 0, .int .u64 0, .int .u64 0]) (dv_build (pv := [(0, .int .u64 4611686018427387904)]) (l := [.int .u64 4611686018427387904, .int .u64 0, .int .u64 0, .int .u64 0]) zc26 pl26 ⟨rfl, C, trivial⟩ rfl) ?_
     refine lw_v (.agg #[.int .u64 0, .int .u64 1, .int .u64 0, .int .u64 0]) (dv_build (pv := [(1, .int .u64 1)]) (l := [.int .u64 0, .int .u64 1, .int .u64 0, .int .u64 0]) zc26 pl26 ⟨rfl, C, trivial⟩ rfl) ?_
     refine lw_v (.agg #[.int .u64 0, .int .u64 0, .int .u64 1, .int .u64 0]) (dv_build (pv := [(2, .int .u64 1)]) (l := [.int .u64 0, .int .u64 0, .int .u64 1, .int .u64 0]) zc26 pl26 ⟨rfl, C, trivial⟩ rfl) ?_
     refine lw_e (oe_buildSlice (pv := [(0, .agg #[.int .u64 9223372036854775808, .int .u64 0, .int .u64 0, .int .u64 0]), (1, .agg #[.int .u64 9223372036854775807, .int .u64 18446744073709551615, .int .u64 18446744073709551615, .int .u64 18446744073709551615]), (2, .agg #[.int .u64 9223372036854775808, .int .u64 0, .int .u64 0, .int .u64 1]), (3, .agg #[.int .u64 4611686018427387904, .int .u64 0, .int .u64 0, .int .u64 0]), (4, .agg #[.int .u64 0, .int .u64 1, .int .u64 0, .int .u64 0]), (5, .agg #[.int .u64 0, .int .u64 0, .int .u64 1, .int .u64 0])]) (init := [.int .u64 0, .int .u64 0, .int .u64 0, .int .u64 0, .int .u64 0, .int .u64 0, .int .u64 0, .int .u64 0, .int .u64 0, .int .u64 0, .int .u64 0, .int .u64 0, .int .u64 0, .int .u64 0, .int .u64 0, .int .u64 0, .int .u64 0, .int .u64 0, .int .u64 0, .int .u64 0, .int .u64 0, .int .u64 0, .int .u64 0, .int .u64 0]) (l := [.int .u64 9223372036854775808, .int .u64 0, .int .u64 0, .int .u64 0, .int .u64 9223372036854775807, .int .u64 18446744073709551615, .int .u64 18446744073709551615, .int .u64 18446744073709551615, .int .u64 9223372036854775808, .int .u64 0, .int .u64 0, .int .u64 1, .int .u64 4611686018427387904, .int .u64 0, .int .u64 0, .int .u64 0, .int .u64 0, .int .u64 1, .int .u64 0, .int .u64 0, .int .u64 0, .int .u64 0, .int .u64 1, .int .u64 0]) us33 sz26 rfl rfl zc26 (by kernel_rfl) ⟨rfl, (T rfl rfl), ⟨rfl, (T rfl rfl), ⟨rfl, (T rfl rfl), ⟨rfl, (T rfl rfl), ⟨rfl, (T rfl rfl), ⟨rfl, (T rfl rfl), trivial⟩⟩⟩⟩⟩⟩ rfl ?_)
     intro b46 w47 n48
     have N49 : w.heap.size ≤ b46 := n48.eq ▸ E16.size
     have H50 := (bx_blk e15 n3.blk (by omega))
     have : b1 < b46 := n48.eq ▸ lt_of_blk H50
     have E51 := bx_ext E16 n48.ext
     refine lw_v (.pointer (some ⟨br, 0, none⟩)) (dv_move (T rfl rfl)) ?_
     have h52 := hx.bx E51 hAb
     have H53 := (n48.ext.blk H11)
     refine lw_e (oe_callf (vs := [.pointer (some ⟨br, 0, none⟩), .int .i64 6]) co61 (ar2 (T rfl rfl) C) (rbelow_ok (n := 6) h52 (by first | omega | (simp; done) | (simp; omega)) (by first | omega | (simp; done) | (simp; omega)) ok hAb H53 (by omega) ) ?_)
     rintro _ w60 ⟨zi54, p55, rfl, e61, H57, hp58, hz59⟩
     have E62 := E51.trans e61
     refine lw_v (.pointer (some ⟨b46, (zi54.toNat * 4), none⟩)) (dv_indexOM (g := b46) (l := 6) (c := 6) (i := zi54.toNat) (j := zi54) (m := 4) us33 sz26 (T rfl rfl) (T rfl rfl) (by omega) (by first | omega | (simp; done) | (simp; omega))) ?_
     have H63 := (bx_blk e61 n48.blk (by omega))
     refine lw_v (.agg #[.int .u64 (([9223372036854775808, 0, 0, 0, 9223372036854775807, 18446744073709551615, 18446744073709551615, 18446744073709551615, 9223372036854775808, 0, 0, 1, 4611686018427387904, 0, 0, 0, 0, 1, 0, 0, 0, 0, 1, 0]).getD (zi54.toNat * 4) 0), .int .u64 (([9223372036854775808, 0, 0, 0, 9223372036854775807, 18446744073709551615, 18446744073709551615, 18446744073709551615, 9223372036854775808, 0, 0, 1, 4611686018427387904, 0, 0, 0, 0, 1, 0, 0, 0, 0, 1, 0]).getD (zi54.toNat * 4 + 1) 0), .int .u64 (([9223372036854775808, 0, 0, 0, 9223372036854775807, 18446744073709551615, 18446744073709551615, 18446744073709551615, 9223372036854775808, 0, 0, 1, 4611686018427387904, 0, 0, 0, 0, 1, 0, 0, 0, 0, 1, 0]).getD (zi54.toNat * 4 + 2) 0), .int .u64 (([9223372036854775808, 0, 0, 0, 9223372036854775807, 18446744073709551615, 18446744073709551615, 18446744073709551615, 9223372036854775808, 0, 0, 1, 4611686018427387904, 0, 0, 0, 0, 1, 0, 0, 0, 0, 1, 0]).getD (zi54.toNat * 4 + 3) 0)]) (dv_loadsO (i := zi54.toNat * 4) (m := 4) (k := .u64) (L := [9223372036854775808, 0, 0, 0, 9223372036854775807, 18446744073709551615, 18446744073709551615, 18446744073709551615, 9223372036854775808, 0, 0, 1, 4611686018427387904, 0, 0, 0, 0, 1, 0, 0, 0, 0, 1, 0]) (l := [.int .u64 (([9223372036854775808, 0, 0, 0, 9223372036854775807, 18446744073709551615, 18446744073709551615, 18446744073709551615, 9223372036854775808, 0, 0, 1, 4611686018427387904, 0, 0, 0, 0, 1, 0, 0, 0, 0, 1, 0]).getD (zi54.toNat * 4) 0), .int .u64 (([9223372036854775808, 0, 0, 0, 9223372036854775807, 18446744073709551615, 18446744073709551615, 18446744073709551615, 9223372036854775808, 0, 0, 1, 4611686018427387904, 0, 0, 0, 0, 1, 0, 0, 0, 0, 1, 0]).getD (zi54.toNat * 4 + 1) 0), .int .u64 (([9223372036854775808, 0, 0, 0, 9223372036854775807, 18446744073709551615, 18446744073709551615, 18446744073709551615, 9223372036854775808, 0, 0, 1, 4611686018427387904, 0, 0, 0, 0, 1, 0, 0, 0, 0, 1, 0]).getD (zi54.toNat * 4 + 2) 0), .int .u64 (([9223372036854775808, 0, 0, 0, 9223372036854775807, 18446744073709551615, 18446744073709551615, 18446744073709551615, 9223372036854775808, 0, 0, 1, 4611686018427387904, 0, 0, 0, 0, 1, 0, 0, 0, 0, 1, 0]).getD (zi54.toNat * 4 + 3) 0)]) agt26 sz26 (T rfl rfl) H63 (by first | omega | (simp; done) | (simp; omega)) rfl) ?_
     have H64 := (bx_blk e61 (n48.ext.blk H50) (by omega))
     refine lw_e (oe_store (v := .agg #[.int .u64 (([9223372036854775808, 0, 0, 0, 9223372036854775807, 18446744073709551615, 18446744073709551615, 18446744073709551615, 9223372036854775808, 0, 0, 1, 4611686018427387904, 0, 0, 0, 0, 1, 0, 0, 0, 0, 1, 0]).getD (zi54.toNat * 4) 0), .int .u64 (([9223372036854775808, 0, 0, 0, 9223372036854775807, 18446744073709551615, 18446744073709551615, 18446744073709551615, 9223372036854775808, 0, 0, 1, 4611686018427387904, 0, 0, 0, 0, 1, 0, 0, 0, 0, 1, 0]).getD (zi54.toNat * 4 + 1) 0), .int .u64 (([9223372036854775808, 0, 0, 0, 9223372036854775807, 18446744073709551615, 18446744073709551615, 18446744073709551615, 9223372036854775808, 0, 0, 1, 4611686018427387904, 0, 0, 0, 0, 1, 0, 0, 0, 0, 1, 0]).getD (zi54.toNat * 4 + 2) 0), .int .u64 (([9223372036854775808, 0, 0, 0, 9223372036854775807, 18446744073709551615, 18446744073709551615, 18446744073709551615, 9223372036854775808, 0, 0, 1, 4611686018427387904, 0, 0, 0, 0, 1, 0, 0, 0, 0, 1, 0]).getD (zi54.toNat * 4 + 3) 0)]) (vs := [.int .u64 (([9223372036854775808, 0, 0, 0, 9223372036854775807, 18446744073709551615, 18446744073709551615, 18446744073709551615, 9223372036854775808, 0, 0, 1, 4611686018427387904, 0, 0, 0, 0, 1, 0, 0, 0, 0, 1, 0]).getD (zi54.toNat * 4) 0), .int .u64 (([9223372036854775808, 0, 0, 0, 9223372036854775807, 18446744073709551615, 18446744073709551615, 18446744073709551615, 9223372036854775808, 0, 0, 1, 4611686018427387904, 0, 0, 0, 0, 1, 0, 0, 0, 0, 1, 0]).getD (zi54.toNat * 4 + 1) 0), .int .u64 (([9223372036854775808, 0, 0, 0, 9223372036854775807, 18446744073709551615, 18446744073709551615, 18446744073709551615, 9223372036854775808, 0, 0, 1, 4611686018427387904, 0, 0, 0, 0, 1, 0, 0, 0, 0, 1, 0]).getD (zi54.toNat * 4 + 2) 0), .int .u64 (([9223372036854775808, 0, 0, 0, 9223372036854775807, 18446744073709551615, 18446744073709551615, 18446744073709551615, 9223372036854775808, 0, 0, 1, 4611686018427387904, 0, 0, 0, 0, 1, 0, 0, 0, 0, 1, 0]).getD (zi54.toNat * 4 + 3) 0)]) (l := [.int .u64 (([9223372036854775808, 0, 0, 0, 9223372036854775807, 18446744073709551615, 18446744073709551615, 18446744073709551615, 9223372036854775808, 0, 0, 1, 4611686018427387904, 0, 0, 0, 0, 1, 0, 0, 0, 0, 1, 0]).getD (zi54.toNat * 4) 0), .int .u64 (([9223372036854775808, 0, 0, 0, 9223372036854775807, 18446744073709551615, 18446744073709551615, 18446744073709551615, 9223372036854775808, 0, 0, 1, 4611686018427387904, 0, 0, 0, 0, 1, 0, 0, 0, 0, 1, 0]).getD (zi54.toNat * 4 + 1) 0), .int .u64 (([9223372036854775808, 0, 0, 0, 9223372036854775807, 18446744073709551615, 18446744073709551615, 18446744073709551615, 9223372036854775808, 0, 0, 1, 4611686018427387904, 0, 0, 0, 0, 1, 0, 0, 0, 0, 1, 0]).getD (zi54.toNat * 4 + 2) 0), .int .u64 (([9223372036854775808, 0, 0, 0, 9223372036854775807, 18446744073709551615, 18446744073709551615, 18446744073709551615, 9223372036854775808, 0, 0, 1, 4611686018427387904, 0, 0, 0, 0, 1, 0, 0, 0, 0, 1, 0]).getD (zi54.toNat * 4 + 3) 0)]) (T rfl rfl) (T rfl rfl) sz26 rfl rfl rfl H64 rfl ?_)
     intro w65 s66 H67
     have E68 := bx_stN E62 N4 s66
     refine lw_nil ?_
     refine rk_ret Try.func44 (v := .agg #[.int .u64 (([9223372036854775808, 0, 0, 0, 9223372036854775807, 18446744073709551615, 18446744073709551615, 18446744073709551615, 9223372036854775808, 0, 0, 1, 4611686018427387904, 0, 0, 0, 0, 1, 0, 0, 0, 0, 1, 0]).getD (zi54.toNat * 4) 0), .int .u64 (([9223372036854775808, 0, 0, 0, 9223372036854775807, 18446744073709551615, 18446744073709551615, 18446744073709551615, 9223372036854775808, 0, 0, 1, 4611686018427387904, 0, 0, 0, 0, 1, 0, 0, 0, 0, 1, 0]).getD (zi54.toNat * 4 + 1) 0), .int .u64 (([9223372036854775808, 0, 0, 0, 9223372036854775807, 18446744073709551615, 18446744073709551615, 18446744073709551615, 9223372036854775808, 0, 0, 1, 4611686018427387904, 0, 0, 0, 0, 1, 0, 0, 0, 0, 1, 0]).getD (zi54.toNat * 4 + 2) 0), .int .u64 (([9223372036854775808, 0, 0, 0, 9223372036854775807, 18446744073709551615, 18446744073709551615, 18446744073709551615, 9223372036854775808, 0, 0, 1, 4611686018427387904, 0, 0, 0, 0, 1, 0, 0, 0, 0, 1, 0]).getD (zi54.toNat * 4 + 3) 0)]) (res1 Try.results44 (rv_cells (l := [.int .u64 (([9223372036854775808, 0, 0, 0, 9223372036854775807, 18446744073709551615, 18446744073709551615, 18446744073709551615, 9223372036854775808, 0, 0, 1, 4611686018427387904, 0, 0, 0, 0, 1, 0, 0, 0, 0, 1, 0]).getD (zi54.toNat * 4) 0), .int .u64 (([9223372036854775808, 0, 0, 0, 9223372036854775807, 18446744073709551615, 18446744073709551615, 18446744073709551615, 9223372036854775808, 0, 0, 1, 4611686018427387904, 0, 0, 0, 0, 1, 0, 0, 0, 0, 1, 0]).getD (zi54.toNat * 4 + 1) 0), .int .u64 (([9223372036854775808, 0, 0, 0, 9223372036854775807, 18446744073709551615, 18446744073709551615, 18446744073709551615, 9223372036854775808, 0, 0, 1, 4611686018427387904, 0, 0, 0, 0, 1, 0, 0, 0, 0, 1, 0]).getD (zi54.toNat * 4 + 2) 0), .int .u64 (([9223372036854775808, 0, 0, 0, 9223372036854775807, 18446744073709551615, 18446744073709551615, 18446744073709551615, 9223372036854775808, 0, 0, 1, 4611686018427387904, 0, 0, 0, 0, 1, 0, 0, 0, 0, 1, 0]).getD (zi54.toNat * 4 + 3) 0)]) agt26 sz26 rfl rfl H67 rfl)) ⟨_, rfl, ?_⟩
     have H69 := (s66.blk H57 (by omega))
     obtain ⟨zw70, hf75, he71, he72, he73, he74⟩ := words_z (a3 := ([9223372036854775808, 0, 0, 0, 9223372036854775807, 18446744073709551615, 18446744073709551615, 18446744073709551615, 9223372036854775808, 0, 0, 1, 4611686018427387904, 0, 0, 0, 0, 1, 0, 0, 0, 0, 1, 0]).getD (zi54.toNat * 4) 0) (a2 := ([9223372036854775808, 0, 0, 0, 9223372036854775807, 18446744073709551615, 18446744073709551615, 18446744073709551615, 9223372036854775808, 0, 0, 1, 4611686018427387904, 0, 0, 0, 0, 1, 0, 0, 0, 0, 1, 0]).getD (zi54.toNat * 4 + 1) 0) (a1 := ([9223372036854775808, 0, 0, 0, 9223372036854775807, 18446744073709551615, 18446744073709551615, 18446744073709551615, 9223372036854775808, 0, 0, 1, 4611686018427387904, 0, 0, 0, 0, 1, 0, 0, 0, 0, 1, 0]).getD (zi54.toNat * 4 + 2) 0) (a0 := ([9223372036854775808, 0, 0, 0, 9223372036854775807, 18446744073709551615, 18446744073709551615, 18446744073709551615, 9223372036854775808, 0, 0, 1, 4611686018427387904, 0, 0, 0, 0, 1, 0, 0, 0, 0, 1, 0]).getD (zi54.toNat * 4 + 3) 0) (by first | omega | exact (w_rg _).1 | exact (w_rg _).2.1 | exact (w_rg _).2.2.1 | exact (w_rg _).2.2.2 | exact shr_rg (by omega) | exact okW.getD (okW_lit (by decide)) (by decide) _) (by first | omega | exact (w_rg _).1 | exact (w_rg _).2.1 | exact (w_rg _).2.2.1 | exact (w_rg _).2.2.2 | exact shr_rg (by omega) | exact okW.getD (okW_lit (by decide)) (by decide) _) (by first | omega | exact (w_rg _).1 | exact (w_rg _).2.1 | exact (w_rg _).2.2.1 | exact (w_rg _).2.2.2 | exact shr_rg (by omega) | exact okW.getD (okW_lit (by decide)) (by decide) _) (by first | omega | exact (w_rg _).1 | exact (w_rg _).2.1 | exact (w_rg _).2.2.1 | exact (w_rg _).2.2.2 | exact shr_rg (by omega) | exact okW.getD (okW_lit (by decide)) (by decide) _)
     exact ⟨zw70, p55, (ag4 (vi he71) (vi he72) (vi he73) (vi he74)), E68, H69, (by omega), hf75⟩
   · refine rk_cf (T rfl (congrArg Value.bool (decide_eq_false hb45))) ?_
     refine rk_seq ?_
     refine rk_reg ?_
     refine lw_v (.bool (decide (zi8 = 2))) (dv_eql (a := zi8) (b := 2) (T rfl rfl) C) ?_
     refine lw_v (.bool (decide (zi8 = 2))) (dv_assign (T rfl rfl)) ?_
     refine lw_nil ?_
     by_cases hb76 : zi8 = 2
     · refine rk_ct (T rfl (congrArg Value.bool (decide_eq_true hb76))) ?_
       refine rk_seq ?_
       refine rk_reg ?_
       refine lw_v (.pointer (some ⟨br, 0, none⟩)) (dv_move (T rfl rfl)) ?_
       have h77 := hx.bx E16 hAb
       refine lw_e (oe_callf (vs := [.pointer (some ⟨br, 0, none⟩), .int .i64 2]) co45 (ar2 (T rfl rfl) C) (ronce_ok (n := 2) h77 (by first | omega | (simp; done) | (simp; omega)) (by first | omega | (simp; done) | (simp; omega)) ok hAb H11 (by omega) (by omega)) ?_)
       rintro _ w84 ⟨zb78, p79, rfl, e85, H81, hp82, _⟩
       have E86 := E16.trans e85
       refine lw_e (oe_buildSlice (pv := [(0, .int .u32 1)]) (init := [.int .u32 0]) (l := [.int .u32 1]) us63 sz95 rfl rfl zc95 (by kernel_rfl) ⟨rfl, C, trivial⟩ rfl ?_)
       intro b87 w88 n89
       have N90 : w.heap.size ≤ b87 := n89.eq ▸ E86.size
       have H91 := (bx_blk e85 (bx_blk e15 n3.blk (by omega)) (by omega))
       have : b1 < b87 := n89.eq ▸ lt_of_blk H91
       have E92 := bx_ext E86 n89.ext
       refine lw_v (.pointer (some ⟨br, 0, none⟩)) (dv_move (T rfl rfl)) ?_
       have h93 := hx.bx E92 hAb
       have H94 := (n89.ext.blk H81)
       refine lw_e (oe_callf (vs := [.pointer (some ⟨br, 0, none⟩), .int .i64 255]) co61 (ar2 (T rfl rfl) C) (rbelow_ok (n := 255) h93 (by first | omega | (simp; done) | (simp; omega)) (by first | omega | (simp; done) | (simp; omega)) ok hAb H94 (by omega) ) ?_)
       rintro _ w101 ⟨zi95, p96, rfl, e102, H98, hp99, hz100⟩
       have E103 := E92.trans e102
       have H104 := (bx_blk e102 n89.blk (by omega))
       refine lw_e (oe_callf (vs := [.slice (some ⟨b87, 0, none⟩) 1 1, .int .i64 zi95]) co76 (ar2 (T rfl rfl) (T rfl rfl)) (l1Left_ws (N := zi95.toNat) (j := zi95) (⟨[1], rfl, Nat.le_refl _, Wd.ownW H104, (okW_lit (by simp <;> omega)), rfl⟩ : Ws _ _ _ _ _ _ _ _) (by first | omega | (simp; done) | (simp; omega)) (by first | omega | (simp; done) | (simp; omega)) (valB_sz (m := 32) (xs := [1]) (n := 1) (okW_lit (by simp <;> omega)) rfl) (by omega)) ?_)
       rintro _ w109 ⟨A105, n106, c107, rfl, e110, h108⟩
       have E111 := bx_ext E103 e110
       have lh108 := Wc.len (by decide) h108 (left_sz (m := zi95.toNat) (s := 32) rfl (valB_sz (m := 32) (xs := [1]) (n := 1) (okW_lit (by simp <;> omega)) rfl))
       refine lw_e (oe_callf (vs := [.bool zb78, .slice A105 n106 c107]) co75 (ar2 (T rfl rfl) (T rfl rfl)) (l1Trim_num (s := (32 + zi95.toNat)) (neg := zb78) h108.ws (by first | omega | (simp; done) | (simp; omega)) (left_sz (m := zi95.toNat) (s := 32) rfl (valB_sz (m := 32) (xs := [1]) (n := 1) (okW_lit (by simp <;> omega)) rfl))) ?_)
       rintro _ w117 ⟨nb112, A113, n114, c115, rfl, e118, hn116⟩
       have E119 := bx_ext E111 e118
       have lhn116 := Num.len (by decide) hn116
       refine lw_e (oe_callf (vs := [.agg #[.bool nb112, .slice A113 n114 c115]]) co54 (ar1 (T rfl rfl)) (l1Wide_ok hn116 (by first | decide | omega)) ?_)
       rintro _ w121 ⟨rfl, e122⟩
       have E123 := bx_ext E119 e122
       have bw120 := w_rg (sg zb78 (2 ^ zi95.toNat * (valB (2 ^ 32) [1])))
       refine lw_v (.tuple #[.agg #[.int .u64 (wv3 (sg zb78 (2 ^ zi95.toNat * (valB (2 ^ 32) [1])))), .int .u64 (wv2 (sg zb78 (2 ^ zi95.toNat * (valB (2 ^ 32) [1])))), .int .u64 (wv1 (sg zb78 (2 ^ zi95.toNat * (valB (2 ^ 32) [1])))), .int .u64 (wv0 (sg zb78 (2 ^ zi95.toNat * (valB (2 ^ 32) [1]))))], .bool (decide (fits (sg zb78 (2 ^ zi95.toNat * (valB (2 ^ 32) [1])))))]) (dv_move (T rfl rfl)) ?_
       refine lw_v (.agg #[.int .u64 (wv3 (sg zb78 (2 ^ zi95.toNat * (valB (2 ^ 32) [1])))), .int .u64 (wv2 (sg zb78 (2 ^ zi95.toNat * (valB (2 ^ 32) [1])))), .int .u64 (wv1 (sg zb78 (2 ^ zi95.toNat * (valB (2 ^ 32) [1])))), .int .u64 (wv0 (sg zb78 (2 ^ zi95.toNat * (valB (2 ^ 32) [1]))))]) (dv_extract (vs := #[.agg #[.int .u64 (wv3 (sg zb78 (2 ^ zi95.toNat * (valB (2 ^ 32) [1])))), .int .u64 (wv2 (sg zb78 (2 ^ zi95.toNat * (valB (2 ^ 32) [1])))), .int .u64 (wv1 (sg zb78 (2 ^ zi95.toNat * (valB (2 ^ 32) [1])))), .int .u64 (wv0 (sg zb78 (2 ^ zi95.toNat * (valB (2 ^ 32) [1]))))], .bool (decide (fits (sg zb78 (2 ^ zi95.toNat * (valB (2 ^ 32) [1])))))]) (T rfl rfl) rfl) ?_
       refine lw_v (.bool (decide (fits (sg zb78 (2 ^ zi95.toNat * (valB (2 ^ 32) [1])))))) (dv_extract (vs := #[.agg #[.int .u64 (wv3 (sg zb78 (2 ^ zi95.toNat * (valB (2 ^ 32) [1])))), .int .u64 (wv2 (sg zb78 (2 ^ zi95.toNat * (valB (2 ^ 32) [1])))), .int .u64 (wv1 (sg zb78 (2 ^ zi95.toNat * (valB (2 ^ 32) [1])))), .int .u64 (wv0 (sg zb78 (2 ^ zi95.toNat * (valB (2 ^ 32) [1]))))], .bool (decide (fits (sg zb78 (2 ^ zi95.toNat * (valB (2 ^ 32) [1])))))]) (T rfl rfl) rfl) ?_
       refine lw_e (oe_alloc ze26 ?_)
       intro b124 w125 n126
       have N127 : w.heap.size ≤ b124 := n126.eq ▸ E123.size
       have H128 := (e122.blk (e118.blk (e110.blk H104)))
       have : b87 < b124 := n126.eq ▸ lt_of_blk H128
       have E129 := bx_ext E123 n126.ext
       refine lw_e (oe_store (v := .agg #[.int .u64 (wv3 (sg zb78 (2 ^ zi95.toNat * (valB (2 ^ 32) [1])))), .int .u64 (wv2 (sg zb78 (2 ^ zi95.toNat * (valB (2 ^ 32) [1])))), .int .u64 (wv1 (sg zb78 (2 ^ zi95.toNat * (valB (2 ^ 32) [1])))), .int .u64 (wv0 (sg zb78 (2 ^ zi95.toNat * (valB (2 ^ 32) [1]))))]) (vs := [.int .u64 (wv3 (sg zb78 (2 ^ zi95.toNat * (valB (2 ^ 32) [1])))), .int .u64 (wv2 (sg zb78 (2 ^ zi95.toNat * (valB (2 ^ 32) [1])))), .int .u64 (wv1 (sg zb78 (2 ^ zi95.toNat * (valB (2 ^ 32) [1])))), .int .u64 (wv0 (sg zb78 (2 ^ zi95.toNat * (valB (2 ^ 32) [1]))))]) (l := [.int .u64 (wv3 (sg zb78 (2 ^ zi95.toNat * (valB (2 ^ 32) [1])))), .int .u64 (wv2 (sg zb78 (2 ^ zi95.toNat * (valB (2 ^ 32) [1])))), .int .u64 (wv1 (sg zb78 (2 ^ zi95.toNat * (valB (2 ^ 32) [1])))), .int .u64 (wv0 (sg zb78 (2 ^ zi95.toNat * (valB (2 ^ 32) [1]))))]) (T rfl rfl) (T rfl rfl) sz26 rfl rfl rfl n126.blk rfl ?_)
       intro w130 s131 H132
       have E133 := bx_stN E129 N127 s131
       refine lw_v (.bool (decide (fits (sg zb78 (2 ^ zi95.toNat * (valB (2 ^ 32) [1])))))) (dv_assign (T rfl rfl)) ?_
       refine lw_nil ?_
       refine rk_seq ?_
       refine rk_reg ?_
       refine lw_v (.agg #[.int .u64 (wv3 (sg zb78 (2 ^ zi95.toNat * (valB (2 ^ 32) [1])))), .int .u64 (wv2 (sg zb78 (2 ^ zi95.toNat * (valB (2 ^ 32) [1])))), .int .u64 (wv1 (sg zb78 (2 ^ zi95.toNat * (valB (2 ^ 32) [1])))), .int .u64 (wv0 (sg zb78 (2 ^ zi95.toNat * (valB (2 ^ 32) [1]))))]) (dv_loads (l := [.int .u64 (wv3 (sg zb78 (2 ^ zi95.toNat * (valB (2 ^ 32) [1])))), .int .u64 (wv2 (sg zb78 (2 ^ zi95.toNat * (valB (2 ^ 32) [1])))), .int .u64 (wv1 (sg zb78 (2 ^ zi95.toNat * (valB (2 ^ 32) [1])))), .int .u64 (wv0 (sg zb78 (2 ^ zi95.toNat * (valB (2 ^ 32) [1]))))]) agt26 sz26 (T rfl rfl) H132 rfl) ?_
       have H134 := (s131.blk (n126.ext.blk (e122.blk (e118.blk (e110.blk (bx_blk e102 (n89.ext.blk H91) (by omega)))))) (by omega))
       refine lw_e (oe_store (v := .agg #[.int .u64 (wv3 (sg zb78 (2 ^ zi95.toNat * (valB (2 ^ 32) [1])))), .int .u64 (wv2 (sg zb78 (2 ^ zi95.toNat * (valB (2 ^ 32) [1])))), .int .u64 (wv1 (sg zb78 (2 ^ zi95.toNat * (valB (2 ^ 32) [1])))), .int .u64 (wv0 (sg zb78 (2 ^ zi95.toNat * (valB (2 ^ 32) [1]))))]) (vs := [.int .u64 (wv3 (sg zb78 (2 ^ zi95.toNat * (valB (2 ^ 32) [1])))), .int .u64 (wv2 (sg zb78 (2 ^ zi95.toNat * (valB (2 ^ 32) [1])))), .int .u64 (wv1 (sg zb78 (2 ^ zi95.toNat * (valB (2 ^ 32) [1])))), .int .u64 (wv0 (sg zb78 (2 ^ zi95.toNat * (valB (2 ^ 32) [1]))))]) (l := [.int .u64 (wv3 (sg zb78 (2 ^ zi95.toNat * (valB (2 ^ 32) [1])))), .int .u64 (wv2 (sg zb78 (2 ^ zi95.toNat * (valB (2 ^ 32) [1])))), .int .u64 (wv1 (sg zb78 (2 ^ zi95.toNat * (valB (2 ^ 32) [1])))), .int .u64 (wv0 (sg zb78 (2 ^ zi95.toNat * (valB (2 ^ 32) [1]))))]) (T rfl rfl) (T rfl rfl) sz26 rfl rfl rfl H134 rfl ?_)
       intro w135 s136 H137
       have E138 := bx_stN E133 N4 s136
       refine lw_nil ?_
       refine rk_ret Try.func44 (v := .agg #[.int .u64 (wv3 (sg zb78 (2 ^ zi95.toNat * (valB (2 ^ 32) [1])))), .int .u64 (wv2 (sg zb78 (2 ^ zi95.toNat * (valB (2 ^ 32) [1])))), .int .u64 (wv1 (sg zb78 (2 ^ zi95.toNat * (valB (2 ^ 32) [1])))), .int .u64 (wv0 (sg zb78 (2 ^ zi95.toNat * (valB (2 ^ 32) [1]))))]) (res1 Try.results44 (rv_cells (l := [.int .u64 (wv3 (sg zb78 (2 ^ zi95.toNat * (valB (2 ^ 32) [1])))), .int .u64 (wv2 (sg zb78 (2 ^ zi95.toNat * (valB (2 ^ 32) [1])))), .int .u64 (wv1 (sg zb78 (2 ^ zi95.toNat * (valB (2 ^ 32) [1])))), .int .u64 (wv0 (sg zb78 (2 ^ zi95.toNat * (valB (2 ^ 32) [1]))))]) agt26 sz26 rfl rfl H137 rfl)) ⟨_, rfl, ?_⟩
       have H139 := (s136.blk (s131.blk (n126.ext.blk (e122.blk (e118.blk (e110.blk H98)))) (by omega)) (by omega))
       obtain ⟨zw140, hf145, he141, he142, he143, he144⟩ := words_z (a3 := wv3 (sg zb78 (2 ^ zi95.toNat * (valB (2 ^ 32) [1])))) (a2 := wv2 (sg zb78 (2 ^ zi95.toNat * (valB (2 ^ 32) [1])))) (a1 := wv1 (sg zb78 (2 ^ zi95.toNat * (valB (2 ^ 32) [1])))) (a0 := wv0 (sg zb78 (2 ^ zi95.toNat * (valB (2 ^ 32) [1])))) (by first | omega | exact (w_rg _).1 | exact (w_rg _).2.1 | exact (w_rg _).2.2.1 | exact (w_rg _).2.2.2 | exact shr_rg (by omega) | exact okW.getD (okW_lit (by decide)) (by decide) _) (by first | omega | exact (w_rg _).1 | exact (w_rg _).2.1 | exact (w_rg _).2.2.1 | exact (w_rg _).2.2.2 | exact shr_rg (by omega) | exact okW.getD (okW_lit (by decide)) (by decide) _) (by first | omega | exact (w_rg _).1 | exact (w_rg _).2.1 | exact (w_rg _).2.2.1 | exact (w_rg _).2.2.2 | exact shr_rg (by omega) | exact okW.getD (okW_lit (by decide)) (by decide) _) (by first | omega | exact (w_rg _).1 | exact (w_rg _).2.1 | exact (w_rg _).2.2.1 | exact (w_rg _).2.2.2 | exact shr_rg (by omega) | exact okW.getD (okW_lit (by decide)) (by decide) _)
       exact ⟨zw140, p96, (ag4 (vi he141) (vi he142) (vi he143) (vi he144)), E138, H139, (by omega), hf145⟩
     · refine rk_cf (T rfl (congrArg Value.bool (decide_eq_false hb76))) ?_
       refine rk_seq ?_
       refine rk_reg ?_
       refine lw_v (.bool (decide (zi8 = 3))) (dv_eql (a := zi8) (b := 3) (T rfl rfl) C) ?_
       refine lw_v (.bool (decide (zi8 = 3))) (dv_assign (T rfl rfl)) ?_
       refine lw_nil ?_
       by_cases hb146 : zi8 = 3
       · refine rk_ct (T rfl (congrArg Value.bool (decide_eq_true hb146))) ?_
         refine rk_seq ?_
         refine rk_reg ?_
         refine lw_v (.pointer (some ⟨br, 0, none⟩)) (dv_move (T rfl rfl)) ?_
         have h147 := hx.bx E16 hAb
         refine lw_e (oe_callf (vs := [.pointer (some ⟨br, 0, none⟩)]) co77 (ar1 (T rfl rfl)) (rword_ok  h147 (by first | omega | (simp; done) | (simp; omega)) (by first | omega | (simp; done) | (simp; omega)) ok hAb H11 (by omega) ) ?_)
         rintro _ w154 ⟨zu148, p149, rfl, e155, H151, hp152, hz153⟩
         have E156 := E16.trans e155
         refine lw_v (.pointer (some ⟨br, 0, none⟩)) (dv_move (T rfl rfl)) ?_
         have h157 := hx.bx E156 hAb
         refine lw_e (oe_callf (vs := [.pointer (some ⟨br, 0, none⟩)]) co77 (ar1 (T rfl rfl)) (rword_ok  h157 (by first | omega | (simp; done) | (simp; omega)) (by first | omega | (simp; done) | (simp; omega)) ok hAb H151 (by omega) ) ?_)
         rintro _ w164 ⟨zu158, p159, rfl, e165, H161, hp162, hz163⟩
         have E166 := E156.trans e165
         refine lw_v (.pointer (some ⟨br, 0, none⟩)) (dv_move (T rfl rfl)) ?_
         have h167 := hx.bx E166 hAb
         refine lw_e (oe_callf (vs := [.pointer (some ⟨br, 0, none⟩)]) co77 (ar1 (T rfl rfl)) (rword_ok  h167 (by first | omega | (simp; done) | (simp; omega)) (by first | omega | (simp; done) | (simp; omega)) ok hAb H161 (by omega) ) ?_)
         rintro _ w174 ⟨zu168, p169, rfl, e175, H171, hp172, hz173⟩
         have E176 := E166.trans e175
         refine lw_v (.pointer (some ⟨br, 0, none⟩)) (dv_move (T rfl rfl)) ?_
         have h177 := hx.bx E176 hAb
         refine lw_e (oe_callf (vs := [.pointer (some ⟨br, 0, none⟩)]) co77 (ar1 (T rfl rfl)) (rword_ok  h177 (by first | omega | (simp; done) | (simp; omega)) (by first | omega | (simp; done) | (simp; omega)) ok hAb H171 (by omega) ) ?_)
         rintro _ w184 ⟨zu178, p179, rfl, e185, H181, hp182, hz183⟩
         have E186 := E176.trans e185
         refine lw_v (.agg #[.int .u64 zu148, .int .u64 zu158, .int .u64 zu168, .int .u64 zu178]) (dv_build (pv := [(0, .int .u64 zu148), (1, .int .u64 zu158), (2, .int .u64 zu168), (3, .int .u64 zu178)]) (l := [.int .u64 zu148, .int .u64 zu158, .int .u64 zu168, .int .u64 zu178]) zc26 pl26 ⟨rfl, (T rfl rfl), ⟨rfl, (T rfl rfl), ⟨rfl, (T rfl rfl), ⟨rfl, (T rfl rfl), trivial⟩⟩⟩⟩ rfl) ?_
         have H187 := (bx_blk e185 (bx_blk e175 (bx_blk e165 (bx_blk e155 (bx_blk e15 n3.blk (by omega)) (by omega)) (by omega)) (by omega)) (by omega))
         refine lw_e (oe_store (v := .agg #[.int .u64 zu148, .int .u64 zu158, .int .u64 zu168, .int .u64 zu178]) (vs := [.int .u64 zu148, .int .u64 zu158, .int .u64 zu168, .int .u64 zu178]) (l := [.int .u64 zu148, .int .u64 zu158, .int .u64 zu168, .int .u64 zu178]) (T rfl rfl) (T rfl rfl) sz26 rfl rfl rfl H187 rfl ?_)
         intro w188 s189 H190
         have E191 := bx_stN E186 N4 s189
         refine lw_nil ?_
         refine rk_ret Try.func44 (v := .agg #[.int .u64 zu148, .int .u64 zu158, .int .u64 zu168, .int .u64 zu178]) (res1 Try.results44 (rv_cells (l := [.int .u64 zu148, .int .u64 zu158, .int .u64 zu168, .int .u64 zu178]) agt26 sz26 rfl rfl H190 rfl)) ⟨_, rfl, ?_⟩
         have H192 := (s189.blk H181 (by omega))
         obtain ⟨zw193, hf198, he194, he195, he196, he197⟩ := words_z (a3 := zu148) (a2 := zu158) (a1 := zu168) (a0 := zu178) (by first | omega | exact (w_rg _).1 | exact (w_rg _).2.1 | exact (w_rg _).2.2.1 | exact (w_rg _).2.2.2 | exact shr_rg (by omega) | exact okW.getD (okW_lit (by decide)) (by decide) _) (by first | omega | exact (w_rg _).1 | exact (w_rg _).2.1 | exact (w_rg _).2.2.1 | exact (w_rg _).2.2.2 | exact shr_rg (by omega) | exact okW.getD (okW_lit (by decide)) (by decide) _) (by first | omega | exact (w_rg _).1 | exact (w_rg _).2.1 | exact (w_rg _).2.2.1 | exact (w_rg _).2.2.2 | exact shr_rg (by omega) | exact okW.getD (okW_lit (by decide)) (by decide) _) (by first | omega | exact (w_rg _).1 | exact (w_rg _).2.1 | exact (w_rg _).2.2.1 | exact (w_rg _).2.2.2 | exact shr_rg (by omega) | exact okW.getD (okW_lit (by decide)) (by decide) _)
         exact ⟨zw193, p179, (ag4 (vi he194) (vi he195) (vi he196) (vi he197)), E191, H192, (by omega), hf198⟩
       · refine rk_cf (T rfl (congrArg Value.bool (decide_eq_false hb146))) ?_
         refine rk_seq ?_
         refine rk_reg ?_
         refine lw_v (.bool (decide (zi8 = 4))) (dv_eql (a := zi8) (b := 4) (T rfl rfl) C) ?_
         refine lw_v (.bool (decide (zi8 = 4))) (dv_assign (T rfl rfl)) ?_
         refine lw_nil ?_
         by_cases hb199 : zi8 = 4
         · refine rk_ct (T rfl (congrArg Value.bool (decide_eq_true hb199))) ?_
           refine rk_seq ?_
           refine rk_reg ?_
           refine lw_v (.pointer (some ⟨br, 0, none⟩)) (dv_move (T rfl rfl)) ?_
           have h200 := hx.bx E16 hAb
           refine lw_e (oe_callf (vs := [.pointer (some ⟨br, 0, none⟩)]) co77 (ar1 (T rfl rfl)) (rword_ok  h200 (by first | omega | (simp; done) | (simp; omega)) (by first | omega | (simp; done) | (simp; omega)) ok hAb H11 (by omega) ) ?_)
           rintro _ w207 ⟨zu201, p202, rfl, e208, H204, hp205, hz206⟩
           have E209 := E16.trans e208
           refine lw_v (.pointer (some ⟨br, 0, none⟩)) (dv_move (T rfl rfl)) ?_
           have h210 := hx.bx E209 hAb
           refine lw_e (oe_callf (vs := [.pointer (some ⟨br, 0, none⟩), .int .i64 64]) co61 (ar2 (T rfl rfl) C) (rbelow_ok (n := 64) h210 (by first | omega | (simp; done) | (simp; omega)) (by first | omega | (simp; done) | (simp; omega)) ok hAb H204 (by omega) ) ?_)
           rintro _ w217 ⟨zi211, p212, rfl, e218, H214, hp215, hz216⟩
           have E219 := E209.trans e218
           refine lw_v (.int .u64 zi211) (dv_conv (a := zi211) (z := zi211) ui3 ui97 (T rfl rfl) (wn_u64 (by omega) (by omega))) ?_
           refine lw_v (.int .u64 (zu201 / 2 ^ zi211.toNat)) (dv_shr (a := zu201) (b := zi211) (z := zu201 / 2 ^ zi211.toNat) (T rfl rfl) (T rfl rfl) (by omega) (shr_v (K := zi211.toNat) (by omega) (show _ ≤ 64 by omega))) ?_
           refine lw_v (.pointer (some ⟨br, 0, none⟩)) (dv_move (T rfl rfl)) ?_
           have h220 := hx.bx E219 hAb
           refine lw_e (oe_callf (vs := [.pointer (some ⟨br, 0, none⟩)]) co77 (ar1 (T rfl rfl)) (rword_ok  h220 (by first | omega | (simp; done) | (simp; omega)) (by first | omega | (simp; done) | (simp; omega)) ok hAb H214 (by omega) ) ?_)
           rintro _ w227 ⟨zu221, p222, rfl, e228, H224, hp225, hz226⟩
           have E229 := E219.trans e228
           refine lw_v (.agg #[.int .u64 0, .int .u64 0, .int .u64 (zu201 / 2 ^ zi211.toNat), .int .u64 zu221]) (dv_build (pv := [(2, .int .u64 (zu201 / 2 ^ zi211.toNat)), (3, .int .u64 zu221)]) (l := [.int .u64 0, .int .u64 0, .int .u64 (zu201 / 2 ^ zi211.toNat), .int .u64 zu221]) zc26 pl26 ⟨rfl, (T rfl rfl), ⟨rfl, (T rfl rfl), trivial⟩⟩ rfl) ?_
           have H230 := (bx_blk e228 (bx_blk e218 (bx_blk e208 (bx_blk e15 n3.blk (by omega)) (by omega)) (by omega)) (by omega))
           refine lw_e (oe_store (v := .agg #[.int .u64 0, .int .u64 0, .int .u64 (zu201 / 2 ^ zi211.toNat), .int .u64 zu221]) (vs := [.int .u64 0, .int .u64 0, .int .u64 (zu201 / 2 ^ zi211.toNat), .int .u64 zu221]) (l := [.int .u64 0, .int .u64 0, .int .u64 (zu201 / 2 ^ zi211.toNat), .int .u64 zu221]) (T rfl rfl) (T rfl rfl) sz26 rfl rfl rfl H230 rfl ?_)
           intro w231 s232 H233
           have E234 := bx_stN E229 N4 s232
           refine lw_nil ?_
           refine rk_ret Try.func44 (v := .agg #[.int .u64 0, .int .u64 0, .int .u64 (zu201 / 2 ^ zi211.toNat), .int .u64 zu221]) (res1 Try.results44 (rv_cells (l := [.int .u64 0, .int .u64 0, .int .u64 (zu201 / 2 ^ zi211.toNat), .int .u64 zu221]) agt26 sz26 rfl rfl H233 rfl)) ⟨_, rfl, ?_⟩
           have H235 := (s232.blk H224 (by omega))
           obtain ⟨zw236, hf241, he237, he238, he239, he240⟩ := words_z (a3 := 0) (a2 := 0) (a1 := zu201 / 2 ^ zi211.toNat) (a0 := zu221) (by first | omega | exact (w_rg _).1 | exact (w_rg _).2.1 | exact (w_rg _).2.2.1 | exact (w_rg _).2.2.2 | exact shr_rg (by omega) | exact okW.getD (okW_lit (by decide)) (by decide) _) (by first | omega | exact (w_rg _).1 | exact (w_rg _).2.1 | exact (w_rg _).2.2.1 | exact (w_rg _).2.2.2 | exact shr_rg (by omega) | exact okW.getD (okW_lit (by decide)) (by decide) _) (by first | omega | exact (w_rg _).1 | exact (w_rg _).2.1 | exact (w_rg _).2.2.1 | exact (w_rg _).2.2.2 | exact shr_rg (by omega) | exact okW.getD (okW_lit (by decide)) (by decide) _) (by first | omega | exact (w_rg _).1 | exact (w_rg _).2.1 | exact (w_rg _).2.2.1 | exact (w_rg _).2.2.2 | exact shr_rg (by omega) | exact okW.getD (okW_lit (by decide)) (by decide) _)
           exact ⟨zw236, p222, (ag4 (vi he237) (vi he238) (vi he239) (vi he240)), E234, H235, (by omega), hf241⟩
         · refine rk_cf (T rfl (congrArg Value.bool (decide_eq_false hb199))) ?_
           refine rk_seq ?_
           refine rk_reg ?_
           refine lw_v (.bool (decide (zi8 = 5))) (dv_eql (a := zi8) (b := 5) (T rfl rfl) C) ?_
           refine lw_v (.bool (decide (zi8 = 5))) (dv_assign (T rfl rfl)) ?_
           refine lw_nil ?_
           by_cases hb242 : zi8 = 5
           · refine rk_ct (T rfl (congrArg Value.bool (decide_eq_true hb242))) ?_
             refine rk_seq ?_
             refine rk_reg ?_
             refine lw_v (.pointer (some ⟨br, 0, none⟩)) (dv_move (T rfl rfl)) ?_
             have h243 := hx.bx E16 hAb
             refine lw_e (oe_callf (vs := [.pointer (some ⟨br, 0, none⟩)]) co77 (ar1 (T rfl rfl)) (rword_ok  h243 (by first | omega | (simp; done) | (simp; omega)) (by first | omega | (simp; done) | (simp; omega)) ok hAb H11 (by omega) ) ?_)
             rintro _ w250 ⟨zu244, p245, rfl, e251, H247, hp248, hz249⟩
             have E252 := E16.trans e251
             have := wrap_rgi zu244
             refine lw_v (.int .i64 (IntKind.i64.wrap zu244)) (dv_conv (a := zu244) (z := IntKind.i64.wrap zu244) ui24 ui2 (T rfl rfl) rfl) ?_
             refine lw_e (oe_callf (vs := [.int .i64 (IntKind.i64.wrap zu244)]) co79 (ar1 (T rfl rfl)) (l1Int_ok  (by omega)) ?_)
             rintro _ w258 ⟨nr253, A254, n255, c256, rfl, e259, h257⟩
             have E260 := bx_ext E252 e259
             have lh257 := Num.len (by decide) h257
             refine lw_v (.pointer (some ⟨br, 0, none⟩)) (dv_move (T rfl rfl)) ?_
             have h261 := hx.bx E260 hAb
             have H262 := (e259.blk H247)
             refine lw_e (oe_callf (vs := [.pointer (some ⟨br, 0, none⟩)]) co77 (ar1 (T rfl rfl)) (rword_ok  h261 (by first | omega | (simp; done) | (simp; omega)) (by first | omega | (simp; done) | (simp; omega)) ok hAb H262 (by omega) ) ?_)
             rintro _ w269 ⟨zu263, p264, rfl, e270, H266, hp267, hz268⟩
             have E271 := E260.trans e270
             have := wrap_rgi zu263
             refine lw_v (.int .i64 (IntKind.i64.wrap zu263)) (dv_conv (a := zu263) (z := IntKind.i64.wrap zu263) ui24 ui2 (T rfl rfl) rfl) ?_
             refine lw_e (oe_callf (vs := [.int .i64 (IntKind.i64.wrap zu263)]) co79 (ar1 (T rfl rfl)) (l1Int_ok  (by omega)) ?_)
             rintro _ w277 ⟨nr272, A273, n274, c275, rfl, e278, h276⟩
             have E279 := bx_ext E271 e278
             have lh276 := Num.len (by decide) h276
             have h280 := ((h257.bx e270 H262 (by decide)).ext e278)
             refine lw_e (oe_callf (vs := [.agg #[.bool nr253, .slice A254 n255 c256], .agg #[.bool nr272, .slice A273 n274 c275]]) co78 (ar2 (T rfl rfl) (T rfl rfl)) (l1Mul_ok h280 h276 (by first | decide | omega) (by first | decide | omega)) ?_)
             rintro _ w286 ⟨nr281, A282, n283, c284, rfl, e287, h285⟩
             have E288 := bx_ext E279 e287
             have lh285 := Num.len (by decide) h285
             refine lw_e (oe_callf (vs := [.agg #[.bool nr281, .slice A282 n283 c284]]) co54 (ar1 (T rfl rfl)) (l1Wide_ok h285 (by first | decide | omega)) ?_)
             rintro _ w290 ⟨rfl, e291⟩
             have E292 := bx_ext E288 e291
             have bw289 := w_rg ((IntKind.i64.wrap zu244) * (IntKind.i64.wrap zu263))
             refine lw_v (.tuple #[.agg #[.int .u64 (wv3 ((IntKind.i64.wrap zu244) * (IntKind.i64.wrap zu263))), .int .u64 (wv2 ((IntKind.i64.wrap zu244) * (IntKind.i64.wrap zu263))), .int .u64 (wv1 ((IntKind.i64.wrap zu244) * (IntKind.i64.wrap zu263))), .int .u64 (wv0 ((IntKind.i64.wrap zu244) * (IntKind.i64.wrap zu263)))], .bool (decide (fits ((IntKind.i64.wrap zu244) * (IntKind.i64.wrap zu263))))]) (dv_move (T rfl rfl)) ?_
             refine lw_v (.agg #[.int .u64 (wv3 ((IntKind.i64.wrap zu244) * (IntKind.i64.wrap zu263))), .int .u64 (wv2 ((IntKind.i64.wrap zu244) * (IntKind.i64.wrap zu263))), .int .u64 (wv1 ((IntKind.i64.wrap zu244) * (IntKind.i64.wrap zu263))), .int .u64 (wv0 ((IntKind.i64.wrap zu244) * (IntKind.i64.wrap zu263)))]) (dv_extract (vs := #[.agg #[.int .u64 (wv3 ((IntKind.i64.wrap zu244) * (IntKind.i64.wrap zu263))), .int .u64 (wv2 ((IntKind.i64.wrap zu244) * (IntKind.i64.wrap zu263))), .int .u64 (wv1 ((IntKind.i64.wrap zu244) * (IntKind.i64.wrap zu263))), .int .u64 (wv0 ((IntKind.i64.wrap zu244) * (IntKind.i64.wrap zu263)))], .bool (decide (fits ((IntKind.i64.wrap zu244) * (IntKind.i64.wrap zu263))))]) (T rfl rfl) rfl) ?_
             refine lw_v (.bool (decide (fits ((IntKind.i64.wrap zu244) * (IntKind.i64.wrap zu263))))) (dv_extract (vs := #[.agg #[.int .u64 (wv3 ((IntKind.i64.wrap zu244) * (IntKind.i64.wrap zu263))), .int .u64 (wv2 ((IntKind.i64.wrap zu244) * (IntKind.i64.wrap zu263))), .int .u64 (wv1 ((IntKind.i64.wrap zu244) * (IntKind.i64.wrap zu263))), .int .u64 (wv0 ((IntKind.i64.wrap zu244) * (IntKind.i64.wrap zu263)))], .bool (decide (fits ((IntKind.i64.wrap zu244) * (IntKind.i64.wrap zu263))))]) (T rfl rfl) rfl) ?_
             refine lw_e (oe_alloc ze26 ?_)
             intro b293 w294 n295
             have N296 : w.heap.size ≤ b293 := n295.eq ▸ E292.size
             have H297 := (e291.blk (e287.blk (e278.blk (bx_blk e270 (e259.blk (bx_blk e251 (bx_blk e15 n3.blk (by omega)) (by omega))) (by omega)))))
             have : b1 < b293 := n295.eq ▸ lt_of_blk H297
             have E298 := bx_ext E292 n295.ext
             refine lw_e (oe_store (v := .agg #[.int .u64 (wv3 ((IntKind.i64.wrap zu244) * (IntKind.i64.wrap zu263))), .int .u64 (wv2 ((IntKind.i64.wrap zu244) * (IntKind.i64.wrap zu263))), .int .u64 (wv1 ((IntKind.i64.wrap zu244) * (IntKind.i64.wrap zu263))), .int .u64 (wv0 ((IntKind.i64.wrap zu244) * (IntKind.i64.wrap zu263)))]) (vs := [.int .u64 (wv3 ((IntKind.i64.wrap zu244) * (IntKind.i64.wrap zu263))), .int .u64 (wv2 ((IntKind.i64.wrap zu244) * (IntKind.i64.wrap zu263))), .int .u64 (wv1 ((IntKind.i64.wrap zu244) * (IntKind.i64.wrap zu263))), .int .u64 (wv0 ((IntKind.i64.wrap zu244) * (IntKind.i64.wrap zu263)))]) (l := [.int .u64 (wv3 ((IntKind.i64.wrap zu244) * (IntKind.i64.wrap zu263))), .int .u64 (wv2 ((IntKind.i64.wrap zu244) * (IntKind.i64.wrap zu263))), .int .u64 (wv1 ((IntKind.i64.wrap zu244) * (IntKind.i64.wrap zu263))), .int .u64 (wv0 ((IntKind.i64.wrap zu244) * (IntKind.i64.wrap zu263)))]) (T rfl rfl) (T rfl rfl) sz26 rfl rfl rfl n295.blk rfl ?_)
             intro w299 s300 H301
             have E302 := bx_stN E298 N296 s300
             refine lw_v (.bool (decide (fits ((IntKind.i64.wrap zu244) * (IntKind.i64.wrap zu263))))) (dv_assign (T rfl rfl)) ?_
             refine lw_nil ?_
             refine rk_seq ?_
             refine rk_reg ?_
             refine lw_v (.agg #[.int .u64 (wv3 ((IntKind.i64.wrap zu244) * (IntKind.i64.wrap zu263))), .int .u64 (wv2 ((IntKind.i64.wrap zu244) * (IntKind.i64.wrap zu263))), .int .u64 (wv1 ((IntKind.i64.wrap zu244) * (IntKind.i64.wrap zu263))), .int .u64 (wv0 ((IntKind.i64.wrap zu244) * (IntKind.i64.wrap zu263)))]) (dv_loads (l := [.int .u64 (wv3 ((IntKind.i64.wrap zu244) * (IntKind.i64.wrap zu263))), .int .u64 (wv2 ((IntKind.i64.wrap zu244) * (IntKind.i64.wrap zu263))), .int .u64 (wv1 ((IntKind.i64.wrap zu244) * (IntKind.i64.wrap zu263))), .int .u64 (wv0 ((IntKind.i64.wrap zu244) * (IntKind.i64.wrap zu263)))]) agt26 sz26 (T rfl rfl) H301 rfl) ?_
             have H303 := (s300.blk (n295.ext.blk H297) (by omega))
             refine lw_e (oe_store (v := .agg #[.int .u64 (wv3 ((IntKind.i64.wrap zu244) * (IntKind.i64.wrap zu263))), .int .u64 (wv2 ((IntKind.i64.wrap zu244) * (IntKind.i64.wrap zu263))), .int .u64 (wv1 ((IntKind.i64.wrap zu244) * (IntKind.i64.wrap zu263))), .int .u64 (wv0 ((IntKind.i64.wrap zu244) * (IntKind.i64.wrap zu263)))]) (vs := [.int .u64 (wv3 ((IntKind.i64.wrap zu244) * (IntKind.i64.wrap zu263))), .int .u64 (wv2 ((IntKind.i64.wrap zu244) * (IntKind.i64.wrap zu263))), .int .u64 (wv1 ((IntKind.i64.wrap zu244) * (IntKind.i64.wrap zu263))), .int .u64 (wv0 ((IntKind.i64.wrap zu244) * (IntKind.i64.wrap zu263)))]) (l := [.int .u64 (wv3 ((IntKind.i64.wrap zu244) * (IntKind.i64.wrap zu263))), .int .u64 (wv2 ((IntKind.i64.wrap zu244) * (IntKind.i64.wrap zu263))), .int .u64 (wv1 ((IntKind.i64.wrap zu244) * (IntKind.i64.wrap zu263))), .int .u64 (wv0 ((IntKind.i64.wrap zu244) * (IntKind.i64.wrap zu263)))]) (T rfl rfl) (T rfl rfl) sz26 rfl rfl rfl H303 rfl ?_)
             intro w304 s305 H306
             have E307 := bx_stN E302 N4 s305
             refine lw_nil ?_
             refine rk_ret Try.func44 (v := .agg #[.int .u64 (wv3 ((IntKind.i64.wrap zu244) * (IntKind.i64.wrap zu263))), .int .u64 (wv2 ((IntKind.i64.wrap zu244) * (IntKind.i64.wrap zu263))), .int .u64 (wv1 ((IntKind.i64.wrap zu244) * (IntKind.i64.wrap zu263))), .int .u64 (wv0 ((IntKind.i64.wrap zu244) * (IntKind.i64.wrap zu263)))]) (res1 Try.results44 (rv_cells (l := [.int .u64 (wv3 ((IntKind.i64.wrap zu244) * (IntKind.i64.wrap zu263))), .int .u64 (wv2 ((IntKind.i64.wrap zu244) * (IntKind.i64.wrap zu263))), .int .u64 (wv1 ((IntKind.i64.wrap zu244) * (IntKind.i64.wrap zu263))), .int .u64 (wv0 ((IntKind.i64.wrap zu244) * (IntKind.i64.wrap zu263)))]) agt26 sz26 rfl rfl H306 rfl)) ⟨_, rfl, ?_⟩
             have H308 := (s305.blk (s300.blk (n295.ext.blk (e291.blk (e287.blk (e278.blk H266)))) (by omega)) (by omega))
             obtain ⟨zw309, hf314, he310, he311, he312, he313⟩ := words_z (a3 := wv3 ((IntKind.i64.wrap zu244) * (IntKind.i64.wrap zu263))) (a2 := wv2 ((IntKind.i64.wrap zu244) * (IntKind.i64.wrap zu263))) (a1 := wv1 ((IntKind.i64.wrap zu244) * (IntKind.i64.wrap zu263))) (a0 := wv0 ((IntKind.i64.wrap zu244) * (IntKind.i64.wrap zu263))) (by first | omega | exact (w_rg _).1 | exact (w_rg _).2.1 | exact (w_rg _).2.2.1 | exact (w_rg _).2.2.2 | exact shr_rg (by omega) | exact okW.getD (okW_lit (by decide)) (by decide) _) (by first | omega | exact (w_rg _).1 | exact (w_rg _).2.1 | exact (w_rg _).2.2.1 | exact (w_rg _).2.2.2 | exact shr_rg (by omega) | exact okW.getD (okW_lit (by decide)) (by decide) _) (by first | omega | exact (w_rg _).1 | exact (w_rg _).2.1 | exact (w_rg _).2.2.1 | exact (w_rg _).2.2.2 | exact shr_rg (by omega) | exact okW.getD (okW_lit (by decide)) (by decide) _) (by first | omega | exact (w_rg _).1 | exact (w_rg _).2.1 | exact (w_rg _).2.2.1 | exact (w_rg _).2.2.2 | exact shr_rg (by omega) | exact okW.getD (okW_lit (by decide)) (by decide) _)
             exact ⟨zw309, p264, (ag4 (vi he310) (vi he311) (vi he312) (vi he313)), E307, H308, (by omega), hf314⟩
           · refine rk_cf (T rfl (congrArg Value.bool (decide_eq_false hb242))) ?_
             refine rk_skip ?_
             refine rk_inBlock ?_
             refine rk_seq ?_
             refine rk_reg ?_
             refine lw_v (.pointer (some ⟨br, 0, none⟩)) (dv_move (T rfl rfl)) ?_
             have h315 := hx.bx E16 hAb
             refine lw_e (oe_callf (vs := [.pointer (some ⟨br, 0, none⟩), .int .i64 (-60), .int .i64 60]) co80 (ar3 (T rfl rfl) C C) (rnear_ok (lo := -60) (hi := 60) h315 (by first | omega | (simp; done) | (simp; omega)) (by first | omega | (simp; done) | (simp; omega)) ok hAb H11 (by omega) (by omega) (by omega)) ?_)
             rintro _ w322 ⟨zi316, p317, rfl, e323, H319, hp320, hz321⟩
             have E324 := E16.trans e323
             refine lw_e (oe_callf (vs := [.int .i64 zi316]) co60 (ar1 (T rfl rfl)) (sWideOf_ok (x := zi316)  (by omega)) ?_)
             rintro _ w325 ⟨rfl, e326⟩
             have E327 := bx_ext E324 e326
             have H328 := (e326.blk (bx_blk e323 (bx_blk e15 n3.blk (by omega)) (by omega)))
             refine lw_e (oe_store (v := .agg #[.int .u64 (wv3 zi316), .int .u64 (wv2 zi316), .int .u64 (wv1 zi316), .int .u64 (wv0 zi316)]) (vs := [.int .u64 (wv3 zi316), .int .u64 (wv2 zi316), .int .u64 (wv1 zi316), .int .u64 (wv0 zi316)]) (l := [.int .u64 (wv3 zi316), .int .u64 (wv2 zi316), .int .u64 (wv1 zi316), .int .u64 (wv0 zi316)]) (T rfl rfl) (T rfl rfl) sz26 rfl rfl rfl H328 rfl ?_)
             intro w329 s330 H331
             have E332 := bx_stN E327 N4 s330
             refine lw_nil ?_
             refine rk_ret Try.func44 (v := .agg #[.int .u64 (wv3 zi316), .int .u64 (wv2 zi316), .int .u64 (wv1 zi316), .int .u64 (wv0 zi316)]) (res1 Try.results44 (rv_cells (l := [.int .u64 (wv3 zi316), .int .u64 (wv2 zi316), .int .u64 (wv1 zi316), .int .u64 (wv0 zi316)]) agt26 sz26 rfl rfl H331 rfl)) ⟨_, rfl, ?_⟩
             have H333 := (s330.blk (e326.blk H319) (by omega))
             exact ⟨zi316, p317, (ag4 rfl rfl rfl rfl), E332, H333, (by omega), (fits_i (by omega))⟩
set_option maxHeartbeats 1000000 in
theorem l1Open_ok {w : World} {A : Option Addr} {l c : Nat} : Ct Try.prog 43 [.slice A l c] w fun v w1 => ∃ b, v = .pointer (some ⟨b, 0, none⟩) ∧ Ext w w1 ∧ w1.heap[b]? = some (.cells #[.slice A l c, .int .i64 0] 91) ∧ w.heap.size ≤ b := by
 refine ct_run (n := 6) Try.func43 rfl Try.ntmps43 rfl ?_
 have E0 : Below w.heap.size w w := Below.refl _ _
 refine rk_seq ?_
 refine rk_reg ?_
 refine lw_v (.pointer none) (dv_assign C) ?_
 refine lw_nil ?_
 refine rk_seq ?_
 refine rk_reg ?_
 refine lw_v (.slice A l c) (dv_move (T rfl rfl)) ?_
 refine lw_v (.agg #[.slice A l c, .int .i64 0]) (dv_build (pv := [(0, .slice A l c)]) (l := [.slice A l c, .int .i64 0]) zc91 pl91 ⟨rfl, (T rfl rfl), trivial⟩ rfl) ?_
 refine lw_e (oe_box (v := .agg #[.slice A l c, .int .i64 0]) (cs := #[.slice A l c, .int .i64 0]) (T rfl rfl) rfl ?_)
 intro b1 w2 n3
 have N4 : w.heap.size ≤ b1 := n3.eq ▸ E0.size
 have E5 := below_ext E0 E0.size n3.ext
 refine lw_v (.pointer (some ⟨b1, 0, none⟩)) (dv_assign (T rfl rfl)) ?_
 refine lw_nil ?_
 refine rk_ret Try.func43 (v := .pointer (some ⟨b1, 0, none⟩)) (res1 Try.results43 (rv_tmp rfl rfl)) ⟨_, rfl, ?_⟩
 exact ⟨_, rfl, E5, n3.blk, N4⟩
end Go.Proofs.Ytfmkadgjoechnaa.W
set_option linter.unusedVariables false
set_option linter.unusedSimpArgs false
namespace Go.Proofs.Ytfmkadgjoechnaa.W
open Go Go.RowKit Go.Proofs.Ytfmkadgjoechnaa.Fw
attribute [local irreducible] RunK LW AW DV OE Ct
theorem co43 : callOk Try.prog 43 = true := by kernel_rfl
theorem co44 : callOk Try.prog 44 = true := by kernel_rfl
set_option maxHeartbeats 1000000 in
theorem iWideAdd_ok {w : World} {x y : Int} (fx_ : fits x) (fy_ : fits y)  : Ct Try.prog 19 [.agg #[.int .u64 (wv3 x), .int .u64 (wv2 x), .int .u64 (wv1 x), .int .u64 (wv0 x)], .agg #[.int .u64 (wv3 y), .int .u64 (wv2 y), .int .u64 (wv1 y), .int .u64 (wv0 y)]] w fun v w1 => v = .tuple #[.agg #[.int .u64 (wv3 (fz (x + y))), .int .u64 (wv2 (fz (x + y))), .int .u64 (wv1 (fz (x + y))), .int .u64 (wv0 (fz (x + y)))], .bool (decide (fits (x + y)))] ∧ Ext w w1 := by
 refine ct_run (n := 14) Try.func19 rfl Try.ntmps19 rfl ?_
 have E0 : Below w.heap.size w w := Below.refl _ _
 refine rk_seq ?_
 refine rk_reg ?_
 refine lw_e (oe_box (v := .agg #[.int .u64 (wv3 x), .int .u64 (wv2 x), .int .u64 (wv1 x), .int .u64 (wv0 x)]) (cs := #[.int .u64 (wv3 x), .int .u64 (wv2 x), .int .u64 (wv1 x), .int .u64 (wv0 x)]) (T rfl rfl) rfl ?_)
 intro b1 w2 n3
 have N4 : w.heap.size ≤ b1 := n3.eq ▸ E0.size
 have E5 := below_ext E0 E0.size n3.ext
 refine lw_e (oe_box (v := .agg #[.int .u64 (wv3 y), .int .u64 (wv2 y), .int .u64 (wv1 y), .int .u64 (wv0 y)]) (cs := #[.int .u64 (wv3 y), .int .u64 (wv2 y), .int .u64 (wv1 y), .int .u64 (wv0 y)]) (T rfl rfl) rfl ?_)
 intro b6 w7 n8
 have N9 : w.heap.size ≤ b6 := n8.eq ▸ E5.size
 have : b1 < b6 := n8.eq ▸ lt_of_blk n3.blk
 have E10 := below_ext E5 E5.size n8.ext
 refine lw_e (oe_alloc ze26 ?_)
 intro b11 w12 n13
 have N14 : w.heap.size ≤ b11 := n13.eq ▸ E10.size
 have : b6 < b11 := n13.eq ▸ lt_of_blk n8.blk
 have E15 := below_ext E10 E10.size n13.ext
 refine lw_v (.bool false) (dv_assign C) ?_
 refine lw_nil ?_
 refine rk_seq ?_
 refine rk_any (fun w => w.heap[b1]? = some (.cells #[.int .u64 (wv3 x), .int .u64 (wv2 x), .int .u64 (wv1 x), .int .u64 (wv0 x)] 26) ∧ w.heap[b6]? = some (.cells #[.int .u64 (wv3 y), .int .u64 (wv2 y), .int .u64 (wv1 y), .int .u64 (wv0 y)] 26)) [9] mo ?_
 intro w16 d17
 have E18 := below_ext E15 E15.size d17.ext
 have H19 := (d17.ext.blk (n13.ext.blk (n8.ext.blk n3.blk)))
 have H20 := (d17.ext.blk (n13.ext.blk n8.blk))
 refine aw_load 0 (.agg #[.int .u64 (wv3 x), .int .u64 (wv2 x), .int .u64 (wv1 x), .int .u64 (wv0 x)]) rfl (by kernel_rfl) .none ⟨H19, H20⟩ (fun _ s => dv_loads (l := [.int .u64 (wv3 x), .int .u64 (wv2 x), .int .u64 (wv1 x), .int .u64 (wv0 x)]) agt26 sz26 (T rfl rfl) s.1 rfl) ?_
 refine aw_load 2 (.agg #[.int .u64 (wv3 y), .int .u64 (wv2 y), .int .u64 (wv1 y), .int .u64 (wv0 y)]) rfl (by kernel_rfl) .none ⟨H19, H20⟩ (fun _ s => dv_loads (l := [.int .u64 (wv3 y), .int .u64 (wv2 y), .int .u64 (wv1 y), .int .u64 (wv0 y)]) agt26 sz26 (T rfl rfl) s.2 rfl) ?_
 refine aw_one 1 rfl (by kernel_rfl) .none (oe_callf (vs := [.agg #[.int .u64 (wv3 x), .int .u64 (wv2 x), .int .u64 (wv1 x), .int .u64 (wv0 x)]]) co46 (ar1 (T rfl rfl)) (wnumz_ok (z := x) fx_) ?_)
 rintro _ w26 ⟨nr21, A22, n23, c24, rfl, e27, h25⟩
 have E28 := below_ext E18 E18.size e27
 have lh25 := Num.len (by decide) h25
 have H29 := (e27.blk H19)
 have H30 := (e27.blk H20)
 refine ⟨.inr ⟨H29, H30⟩, ?_⟩
 refine aw_one 3 rfl (by kernel_rfl) .none (oe_callf (vs := [.agg #[.int .u64 (wv3 y), .int .u64 (wv2 y), .int .u64 (wv1 y), .int .u64 (wv0 y)]]) co46 (ar1 (T rfl rfl)) (wnumz_ok (z := y) fy_) ?_)
 rintro _ w36 ⟨nr31, A32, n33, c34, rfl, e37, h35⟩
 have E38 := below_ext E28 E28.size e37
 have lh35 := Num.len (by decide) h35
 have H39 := (e37.blk H29)
 have H40 := (e37.blk H30)
 refine ⟨.inr ⟨H39, H40⟩, ?_⟩
 have h41 := (h25.ext e37)
 refine aw_one 4 rfl (by kernel_rfl) .none (oe_callf (vs := [.agg #[.bool nr21, .slice A22 n23 c24], .agg #[.bool nr31, .slice A32 n33 c34]]) co53 (ar2 (T rfl rfl) (T rfl rfl)) (plus_ok h41 h35 (by first | decide | omega) (by first | decide | omega)) ?_)
 rintro _ w47 ⟨nr42, A43, n44, c45, rfl, e48, h46⟩
 have E49 := below_ext E38 E38.size e48
 have lh46 := Num.len (by decide) h46
 have H50 := (e48.blk H39)
 have H51 := (e48.blk H40)
 refine ⟨.inr ⟨H50, H51⟩, ?_⟩
 refine aw_one 5 rfl (by kernel_rfl) .none (oe_callf (vs := [.agg #[.bool nr42, .slice A43 n44 c45]]) co51 (ar1 (T rfl rfl)) (nwide_ok h46 (by first | decide | omega)) ?_)
 rintro _ w53 ⟨rfl, e54⟩
 have E55 := below_ext E49 E49.size e54
 have bw52 := w_rg (x + y)
 have H56 := (e54.blk H50)
 have H57 := (e54.blk H51)
 refine ⟨.inr ⟨H56, H57⟩, ?_⟩
 refine aw_pure 6 (.agg #[.int .u64 (wv3 (x + y)), .int .u64 (wv2 (x + y)), .int .u64 (wv1 (x + y)), .int .u64 (wv0 (x + y))]) rfl (by kernel_rfl) .none ⟨H56, H57⟩ (fun _ => dv_extract (vs := #[.agg #[.int .u64 (wv3 (x + y)), .int .u64 (wv2 (x + y)), .int .u64 (wv1 (x + y)), .int .u64 (wv0 (x + y))], .bool (decide (fits (x + y)))]) (T rfl rfl) rfl) ?_
 refine aw_pure 7 (.bool (decide (fits (x + y)))) rfl (by kernel_rfl) .none ⟨H56, H57⟩ (fun _ => dv_extract (vs := #[.agg #[.int .u64 (wv3 (x + y)), .int .u64 (wv2 (x + y)), .int .u64 (wv1 (x + y)), .int .u64 (wv0 (x + y))], .bool (decide (fits (x + y)))]) (T rfl rfl) rfl) ?_
 have H58 := (e54.blk (e48.blk (e37.blk (e27.blk (d17.ext.blk n13.blk)))))
 refine aw_one 8 rfl (by kernel_rfl) .none (oe_store (v := .agg #[.int .u64 (wv3 (x + y)), .int .u64 (wv2 (x + y)), .int .u64 (wv1 (x + y)), .int .u64 (wv0 (x + y))]) (vs := [.int .u64 (wv3 (x + y)), .int .u64 (wv2 (x + y)), .int .u64 (wv1 (x + y)), .int .u64 (wv0 (x + y))]) (l := [.int .u64 (wv3 (x + y)), .int .u64 (wv2 (x + y)), .int .u64 (wv1 (x + y)), .int .u64 (wv0 (x + y))]) (T rfl rfl) (T rfl rfl) sz26 rfl rfl rfl H58 rfl ?_)
 intro w59 s60 H61
 have E62 := below_st E55 N14 s60
 have H63 := (s60.blk H56 (by omega))
 have H64 := (s60.blk H57 (by omega))
 refine ⟨.inr ⟨H63, H64⟩, ?_⟩
 refine aw_last 9 (.bool (decide (fits (x + y)))) rfl (by kernel_rfl) .none (fun _ => dv_assign (T rfl rfl)) ?_
 refine aw_done (by kernel_rfl) ?_
 refine rk_ret Try.func19 (v := .tuple #[.agg #[.int .u64 (wv3 (x + y)), .int .u64 (wv2 (x + y)), .int .u64 (wv1 (x + y)), .int .u64 (wv0 (x + y))], .bool (decide (fits (x + y)))]) (res2 Try.results19 (rv_cells (l := [.int .u64 (wv3 (x + y)), .int .u64 (wv2 (x + y)), .int .u64 (wv1 (x + y)), .int .u64 (wv0 (x + y))]) agt26 sz26 rfl rfl H61 rfl) (rv_tmp rfl rfl)) ⟨_, rfl, ?_⟩
 exact ⟨(tu2 (ag4 (vi wp3) (vi wp2) (vi wp1) (vi wp0)) rfl), E62⟩
set_option maxHeartbeats 1000000 in
theorem iWideSign_ok {w : World} {x : Int} (fx_ : fits x)  : Ct Try.prog 17 [.agg #[.int .u64 (wv3 x), .int .u64 (wv2 x), .int .u64 (wv1 x), .int .u64 (wv0 x)]] w fun v w1 => v = .int .i64 (sgnI x) ∧ Ext w w1 := by
 refine ct_run (n := 6) Try.func17 rfl Try.ntmps17 rfl ?_
 have E0 : Below w.heap.size w w := Below.refl _ _
 refine rk_seq ?_
 refine rk_reg ?_
 refine lw_e (oe_box (v := .agg #[.int .u64 (wv3 x), .int .u64 (wv2 x), .int .u64 (wv1 x), .int .u64 (wv0 x)]) (cs := #[.int .u64 (wv3 x), .int .u64 (wv2 x), .int .u64 (wv1 x), .int .u64 (wv0 x)]) (T rfl rfl) rfl ?_)
 intro b1 w2 n3
 have N4 : w.heap.size ≤ b1 := n3.eq ▸ E0.size
 have E5 := below_ext E0 E0.size n3.ext
 refine lw_v (.int .i64 0) (dv_assign C) ?_
 refine lw_nil ?_
 refine rk_seq ?_
 refine rk_reg ?_
 refine lw_v (.agg #[.int .u64 (wv3 x), .int .u64 (wv2 x), .int .u64 (wv1 x), .int .u64 (wv0 x)]) (dv_loads (l := [.int .u64 (wv3 x), .int .u64 (wv2 x), .int .u64 (wv1 x), .int .u64 (wv0 x)]) agt26 sz26 (T rfl rfl) n3.blk rfl) ?_
 refine lw_e (oe_callf (vs := [.agg #[.int .u64 (wv3 x), .int .u64 (wv2 x), .int .u64 (wv1 x), .int .u64 (wv0 x)]]) co46 (ar1 (T rfl rfl)) (wnumz_ok (z := x) fx_) ?_)
 rintro _ w11 ⟨nr6, A7, n8, c9, rfl, e12, h10⟩
 have E13 := below_ext E5 E5.size e12
 have lh10 := Num.len (by decide) h10
 refine lw_e (oe_callf (vs := [.agg #[.bool nr6, .slice A7 n8 c9]]) co52 (ar1 (T rfl rfl)) (nsign_ok h10 ) ?_)
 rintro _ w14 ⟨rfl, e15⟩
 have E16 := below_ext E13 E13.size e15
 refine lw_v (.int .i64 (sgnI x)) (dv_assign (T rfl rfl)) ?_
 refine lw_nil ?_
 refine rk_ret Try.func17 (v := .int .i64 (sgnI x)) (res1 Try.results17 (rv_tmp rfl rfl)) ⟨_, rfl, ?_⟩
 exact ⟨rfl, E16⟩
set_option maxHeartbeats 1000000 in
theorem iWideBits_ok {w : World} {x : Int} (fx_ : fits x)  : Ct Try.prog 34 [.agg #[.int .u64 (wv3 x), .int .u64 (wv2 x), .int .u64 (wv1 x), .int .u64 (wv0 x)]] w fun v w1 => v = .int .i64 ((nbits x.natAbs : Int)) ∧ Ext w w1 := by
 refine ct_run (n := 6) Try.func34 rfl Try.ntmps34 rfl ?_
 have E0 : Below w.heap.size w w := Below.refl _ _
 refine rk_seq ?_
 refine rk_reg ?_
 refine lw_e (oe_box (v := .agg #[.int .u64 (wv3 x), .int .u64 (wv2 x), .int .u64 (wv1 x), .int .u64 (wv0 x)]) (cs := #[.int .u64 (wv3 x), .int .u64 (wv2 x), .int .u64 (wv1 x), .int .u64 (wv0 x)]) (T rfl rfl) rfl ?_)
 intro b1 w2 n3
 have N4 : w.heap.size ≤ b1 := n3.eq ▸ E0.size
 have E5 := below_ext E0 E0.size n3.ext
 refine lw_v (.int .i64 0) (dv_assign C) ?_
 refine lw_nil ?_
 refine rk_seq ?_
 refine rk_reg ?_
 refine lw_v (.agg #[.int .u64 (wv3 x), .int .u64 (wv2 x), .int .u64 (wv1 x), .int .u64 (wv0 x)]) (dv_loads (l := [.int .u64 (wv3 x), .int .u64 (wv2 x), .int .u64 (wv1 x), .int .u64 (wv0 x)]) agt26 sz26 (T rfl rfl) n3.blk rfl) ?_
 refine lw_e (oe_callf (vs := [.agg #[.int .u64 (wv3 x), .int .u64 (wv2 x), .int .u64 (wv1 x), .int .u64 (wv0 x)]]) co46 (ar1 (T rfl rfl)) (wnumz_ok (z := x) fx_) ?_)
 rintro _ w11 ⟨nr6, A7, n8, c9, rfl, e12, h10⟩
 have E13 := below_ext E5 E5.size e12
 have lh10 := Num.len (by decide) h10
 refine lw_e (oe_callf (vs := [.agg #[.bool nr6, .slice A7 n8 c9]]) co68 (ar1 (T rfl rfl)) (nsize_num h10 (by first | omega | (simp; done) | (simp; omega))) ?_)
 rintro _ w14 ⟨rfl, e15⟩
 have E16 := below_ext E13 E13.size e15
 refine lw_v (.int .i64 ((nbits (x).natAbs : Int))) (dv_assign (T rfl rfl)) ?_
 refine lw_nil ?_
 refine rk_ret Try.func34 (v := .int .i64 ((nbits (x).natAbs : Int))) (res1 Try.results34 (rv_tmp rfl rfl)) ⟨_, rfl, ?_⟩
 exact ⟨rfl, E16⟩
set_option maxHeartbeats 1000000 in
theorem lbig_ok {w : World} {A : Option Addr} {l c : Nat}  : Ct Try.prog 11 [.slice A l c] w fun v w1 => v = .bool (decide (1048576 < (l : Int))) ∧ Ext w w1 := by
 refine ct_run (n := 6) Try.func11 rfl Try.ntmps11 rfl ?_
 have E0 : Below w.heap.size w w := Below.refl _ _
 refine rk_seq ?_
 refine rk_reg ?_
 refine lw_v (.bool false) (dv_assign C) ?_
 refine lw_nil ?_
 refine rk_seq ?_
 refine rk_reg ?_
 refine lw_v (.slice A l c) (dv_move (T rfl rfl)) ?_
 refine lw_v (.int .i64 ((l : Int))) (dv_len (ad := A) (l := l) (c := c) us22 (T rfl rfl)) ?_
 refine lw_v (.bool (decide (1048576 < ((l : Int))))) (dv_gtr (a := (l : Int)) (b := 1048576) (T rfl rfl) C) ?_
 refine lw_v (.bool (decide (1048576 < ((l : Int))))) (dv_assign (T rfl rfl)) ?_
 refine lw_nil ?_
 refine rk_ret Try.func11 (v := .bool (decide (1048576 < ((l : Int))))) (res1 Try.results11 (rv_tmp rfl rfl)) ⟨_, rfl, ?_⟩
 exact ⟨(vb (by rfl)), E0⟩
set_option maxHeartbeats 1000000 in
theorem drawWideText_ok {w : World} {A : Option Addr} {l c : Nat} {xs : List Int} (hx : RdI w .u8 A xs) (hxl : xs.length = l) (hl : l ≤ 1048576) (ok : okW 256 xs) : Ct Try.prog 30 [.slice A l c] w fun v w1 => ∃ (x0_ : Int), v = .agg #[.int .u64 (wv3 x0_), .int .u64 (wv2 x0_), .int .u64 (wv1 x0_), .int .u64 (wv0 x0_)] ∧ Ext w w1 ∧ fits x0_ := by
 refine ct_run (n := 8) Try.func30 rfl Try.ntmps30 rfl ?_
 have E0 : Below w.heap.size w w := Below.refl _ _
 refine rk_seq ?_
 refine rk_reg ?_
 refine lw_e (oe_alloc ze26 ?_)
 intro b1 w2 n3
 have N4 : w.heap.size ≤ b1 := n3.eq ▸ E0.size
 have E5 := below_ext E0 E0.size n3.ext
 refine lw_nil ?_
 refine rk_seq ?_
 refine rk_reg ?_
 refine lw_v (.slice A l c) (dv_move (T rfl rfl)) ?_
 have : b1 < w2.heap.size := lt_of_blk n3.blk
 have : w.heap.size ≤ w2.heap.size := E5.size
 refine lw_e (oe_callf (vs := [.slice A l c]) co43 (ar1 (T rfl rfl)) (l1Open_ok) ?_)
 rintro _ w9 ⟨b6, rfl, e10, H7, hN8⟩
 have E11 := below_ext E5 E5.size e10
 have : b1 < b6 := by omega
 have N12 : w.heap.size ≤ b6 := by omega
 refine lw_v (.pointer (some ⟨b6, 0, none⟩)) (dv_assign (T rfl rfl)) ?_
 refine lw_nil ?_
 refine rk_seq ?_
 refine rk_reg ?_
 refine lw_v (.pointer (some ⟨b6, 0, none⟩)) (dv_move (T rfl rfl)) ?_
 have h13 := ((hx.ext n3.ext).ext e10)
 refine lw_e (oe_callf (vs := [.pointer (some ⟨b6, 0, none⟩)]) co44 (ar1 (T rfl rfl)) (rwide_ok  h13 (by first | omega | (simp; done) | (simp; omega)) (by first | omega | (simp; done) | (simp; omega)) ok (hx.ne N12) H7 (by omega) ) ?_)
 rintro _ w20 ⟨zd14, p15, rfl, e21, H17, hp18, hz19⟩
 have E22 := below_bx E11 N12 e21
 have H23 := (bx_blk e21 (e10.blk n3.blk) (by omega))
 refine lw_e (oe_store (v := .agg #[.int .u64 (wv3 zd14), .int .u64 (wv2 zd14), .int .u64 (wv1 zd14), .int .u64 (wv0 zd14)]) (vs := [.int .u64 (wv3 zd14), .int .u64 (wv2 zd14), .int .u64 (wv1 zd14), .int .u64 (wv0 zd14)]) (l := [.int .u64 (wv3 zd14), .int .u64 (wv2 zd14), .int .u64 (wv1 zd14), .int .u64 (wv0 zd14)]) (T rfl rfl) (T rfl rfl) sz26 rfl rfl rfl H23 rfl ?_)
 intro w24 s25 H26
 have E27 := below_st E22 N4 s25
 refine lw_nil ?_
 refine rk_ret Try.func30 (v := .agg #[.int .u64 (wv3 zd14), .int .u64 (wv2 zd14), .int .u64 (wv1 zd14), .int .u64 (wv0 zd14)]) (res1 Try.results30 (rv_cells (l := [.int .u64 (wv3 zd14), .int .u64 (wv2 zd14), .int .u64 (wv1 zd14), .int .u64 (wv0 zd14)]) agt26 sz26 rfl rfl H26 rfl)) ⟨_, rfl, ?_⟩
 exact ⟨zd14, (ag4 rfl rfl rfl rfl), E27, hz19⟩
end Go.Proofs.Ytfmkadgjoechnaa.W
set_option linter.unusedVariables false
set_option linter.unusedSimpArgs false
namespace Go.Proofs.Ytfmkadgjoechnaa.W
open Go Go.RowKit Go.Proofs.Ytfmkadgjoechnaa.Fw
attribute [local irreducible] RunK LW AW DV OE Ct
theorem agt9 : aggB Try.prog 9 = some false := by kernel_rfl
theorem co11 : callOk Try.prog 11 = true := by kernel_rfl
theorem co17 : callOk Try.prog 17 = true := by kernel_rfl
theorem co19 : callOk Try.prog 19 = true := by kernel_rfl
theorem co32 : callOk Try.prog 32 = true := by kernel_rfl
theorem co34 : callOk Try.prog 34 = true := by kernel_rfl
theorem sz9 : sizeB Try.prog 9 = some 1 := by kernel_rfl
theorem us83 : Try.prog.underlying 83 = some (.slice 9) := by kernel_rfl
theorem zc9 : zcB Try.prog 9 = some [.string ⟨#[]⟩] := by kernel_rfl
set_option maxHeartbeats 1000000 in
theorem iWideText_ok {w : World} {x : Int} (fx_ : fits x)  : Ct Try.prog 31 [.agg #[.int .u64 (wv3 x), .int .u64 (wv2 x), .int .u64 (wv1 x), .int .u64 (wv0 x)]] w fun v w1 => v = .string (bOf (txtL x)) ∧ Ext w w1 := by
 refine ct_run (n := 6) Try.func31 rfl Try.ntmps31 rfl ?_
 have E0 : Below w.heap.size w w := Below.refl _ _
 refine rk_seq ?_
 refine rk_reg ?_
 refine lw_e (oe_box (v := .agg #[.int .u64 (wv3 x), .int .u64 (wv2 x), .int .u64 (wv1 x), .int .u64 (wv0 x)]) (cs := #[.int .u64 (wv3 x), .int .u64 (wv2 x), .int .u64 (wv1 x), .int .u64 (wv0 x)]) (T rfl rfl) rfl ?_)
 intro b1 w2 n3
 have N4 : w.heap.size ≤ b1 := n3.eq ▸ E0.size
 have E5 := below_ext E0 E0.size n3.ext
 refine lw_v (.string (bOf [])) (dv_assign C) ?_
 refine lw_nil ?_
 refine rk_seq ?_
 refine rk_reg ?_
 refine lw_v (.agg #[.int .u64 (wv3 x), .int .u64 (wv2 x), .int .u64 (wv1 x), .int .u64 (wv0 x)]) (dv_loads (l := [.int .u64 (wv3 x), .int .u64 (wv2 x), .int .u64 (wv1 x), .int .u64 (wv0 x)]) agt26 sz26 (T rfl rfl) n3.blk rfl) ?_
 refine lw_e (oe_callf (vs := [.agg #[.int .u64 (wv3 x), .int .u64 (wv2 x), .int .u64 (wv1 x), .int .u64 (wv0 x)]]) co46 (ar1 (T rfl rfl)) (wnumz_ok (z := x) fx_) ?_)
 rintro _ w11 ⟨nr6, A7, n8, c9, rfl, e12, h10⟩
 have E13 := below_ext E5 E5.size e12
 have lh10 := Num.len (by decide) h10
 refine lw_e (oe_callf (vs := [.agg #[.bool nr6, .slice A7 n8 c9]]) co66 (ar1 (T rfl rfl)) (ntext_ok h10 (by first | decide | omega)) ?_)
 rintro _ w15 ⟨rfl, e16⟩
 have E17 := below_ext E13 E13.size e16
 have ht14 := txt_len (h10).lt
 refine lw_v (.string (bOf (txtL x))) (dv_assign (T rfl rfl)) ?_
 refine lw_nil ?_
 refine rk_ret Try.func31 (v := .string (bOf (txtL x))) (res1 Try.results31 (rv_tmp rfl rfl)) ⟨_, rfl, ?_⟩
 exact ⟨rfl, E17⟩
set_option maxHeartbeats 1000000 in
theorem sWideText_ok {w : World} {x : Int} (fx_ : fits x)  : Ct Try.prog 32 [.agg #[.int .u64 (wv3 x), .int .u64 (wv2 x), .int .u64 (wv1 x), .int .u64 (wv0 x)]] w fun v w1 => v = .string (bOf (txtL x)) ∧ Ext w w1 := by
 refine ct_run (n := 6) Try.func32 rfl Try.ntmps32 rfl ?_
 have E0 : Below w.heap.size w w := Below.refl _ _
 refine rk_seq ?_
 refine rk_reg ?_
 refine lw_e (oe_box (v := .agg #[.int .u64 (wv3 x), .int .u64 (wv2 x), .int .u64 (wv1 x), .int .u64 (wv0 x)]) (cs := #[.int .u64 (wv3 x), .int .u64 (wv2 x), .int .u64 (wv1 x), .int .u64 (wv0 x)]) (T rfl rfl) rfl ?_)
 intro b1 w2 n3
 have N4 : w.heap.size ≤ b1 := n3.eq ▸ E0.size
 have E5 := below_ext E0 E0.size n3.ext
 refine lw_v (.string (bOf [])) (dv_assign C) ?_
 refine lw_nil ?_
 refine rk_seq ?_
 refine rk_reg ?_
 refine lw_v (.agg #[.int .u64 (wv3 x), .int .u64 (wv2 x), .int .u64 (wv1 x), .int .u64 (wv0 x)]) (dv_loads (l := [.int .u64 (wv3 x), .int .u64 (wv2 x), .int .u64 (wv1 x), .int .u64 (wv0 x)]) agt26 sz26 (T rfl rfl) n3.blk rfl) ?_
 refine lw_e (oe_callf (vs := [.agg #[.int .u64 (wv3 x), .int .u64 (wv2 x), .int .u64 (wv1 x), .int .u64 (wv0 x)]]) co49 (ar1 (T rfl rfl)) (l1Fromz_ok (z := x) fx_) ?_)
 rintro _ w11 ⟨nr6, A7, n8, c9, rfl, e12, h10⟩
 have E13 := below_ext E5 E5.size e12
 have lh10 := Num.len (by decide) h10
 refine lw_e (oe_callf (vs := [.agg #[.bool nr6, .slice A7 n8 c9]]) co67 (ar1 (T rfl rfl)) (l1Text_ok h10 (by first | decide | omega)) ?_)
 rintro _ w15 ⟨rfl, e16⟩
 have E17 := below_ext E13 E13.size e16
 have ht14 := txt_len (h10).lt
 refine lw_v (.string (bOf (txtL x))) (dv_assign (T rfl rfl)) ?_
 refine lw_nil ?_
 refine rk_ret Try.func32 (v := .string (bOf (txtL x))) (res1 Try.results32 (rv_tmp rfl rfl)) ⟨_, rfl, ?_⟩
 exact ⟨rfl, E17⟩
set_option maxHeartbeats 1000000 in
theorem drawText_ok {w : World} {A : Option Addr} {l c : Nat} {xs : List Int} (hx : RdI w .u8 A xs) (hxl : xs.length = l) (hl : l ≤ 1048576) (ok : okW 256 xs) : Ct Try.prog 33 [.slice A l c] w fun v w1 => ∃ L, v = .string (bOf L) ∧ Ext w w1 ∧ okW 256 L ∧ L.length ≤ 1000000 := by
 refine ct_run (n := 37) Try.func33 rfl Try.ntmps33 rfl ?_
 have E0 : Below w.heap.size w w := Below.refl _ _
 refine rk_seq ?_
 refine rk_reg ?_
 refine lw_v (.string (bOf [])) (dv_assign C) ?_
 refine lw_nil ?_
 refine rk_seq ?_
 refine rk_reg ?_
 refine lw_v (.slice A l c) (dv_move (T rfl rfl)) ?_
 have : w.heap.size ≤ w.heap.size := E0.size
 refine lw_e (oe_callf (vs := [.slice A l c]) co43 (ar1 (T rfl rfl)) (l1Open_ok) ?_)
 rintro _ w4 ⟨b1, rfl, e5, H2, hN3⟩
 have E6 := below_ext E0 E0.size e5
 have N7 : w.heap.size ≤ b1 := by omega
 refine lw_v (.pointer (some ⟨b1, 0, none⟩)) (dv_assign (T rfl rfl)) ?_
 refine lw_nil ?_
 refine rk_seq ?_
 refine rk_reg ?_
 refine lw_v (.pointer (some ⟨b1, 0, none⟩)) (dv_move (T rfl rfl)) ?_
 have h8 := (hx.ext e5)
 refine lw_e (oe_callf (vs := [.pointer (some ⟨b1, 0, none⟩)]) co44 (ar1 (T rfl rfl)) (rwide_ok  h8 (by first | omega | (simp; done) | (simp; omega)) (by first | omega | (simp; done) | (simp; omega)) ok (hx.ne N7) H2 (by omega) ) ?_)
 rintro _ w15 ⟨zd9, p10, rfl, e16, H12, hp13, hz14⟩
 have E17 := below_bx E6 N7 e16
 refine lw_e (oe_callf (vs := [.agg #[.int .u64 (wv3 zd9), .int .u64 (wv2 zd9), .int .u64 (wv1 zd9), .int .u64 (wv0 zd9)]]) co32 (ar1 (T rfl rfl)) (sWideText_ok (x := zd9) hz14 ) ?_)
 rintro _ w18 ⟨rfl, e19⟩
 have E20 := below_ext E17 E17.size e19
 refine lw_v (.string (bOf (txtL zd9))) (dv_assign (T rfl rfl)) ?_
 refine lw_nil ?_
 refine rk_seq ?_
 refine rk_seq ?_
 refine rk_reg ?_
 refine lw_v (.pointer (some ⟨b1, 0, none⟩)) (dv_move (T rfl rfl)) ?_
 have h21 := hx.ext E20
 have H22 := (e19.blk H12)
 refine lw_e (oe_callf (vs := [.pointer (some ⟨b1, 0, none⟩), .int .i64 10]) co61 (ar2 (T rfl rfl) C) (rbelow_ok (n := 10) h21 (by first | omega | (simp; done) | (simp; omega)) (by first | omega | (simp; done) | (simp; omega)) ok (hx.ne N7) H22 (by omega) ) ?_)
 rintro _ w29 ⟨zi23, p24, rfl, e30, H26, hp27, hz28⟩
 have E31 := below_bx E20 N7 e30
 refine lw_nil ?_
 refine rk_block ?_
 refine rk_seq ?_
 refine rk_reg ?_
 refine lw_v (.bool (decide (zi23 = 0))) (dv_eql (a := zi23) (b := 0) (T rfl rfl) C) ?_
 refine lw_v (.bool (decide (zi23 = 0))) (dv_assign (T rfl rfl)) ?_
 refine lw_nil ?_
 by_cases hb32 : zi23 = 0
 · refine rk_ct (T rfl (congrArg Value.bool (decide_eq_true hb32))) ?_
   refine rk_seq ?_
   refine rk_reg ?_
   refine lw_v (.string (bOf (txtL zd9))) (dv_move (T rfl rfl)) ?_
   refine lw_v (.string (bOf ([48] ++ (txtL zd9)))) (dv_addS (L := [48]) (M := (txtL zd9)) C (T rfl rfl) (by first | omega | (simp; done) | (simp; omega) | (have := txt_len78 (by assumption); simp; omega))) ?_
   refine lw_v (.string (bOf ([48] ++ (txtL zd9)))) (dv_assign (T rfl rfl)) ?_
   refine lw_nil ?_
   refine rk_ret Try.func33 (v := .string (bOf ([48] ++ (txtL zd9)))) (res1 Try.results33 (rv_tmp rfl rfl)) ⟨_, rfl, ?_⟩
   have htl := txt_len78 hz14
   exact ⟨([48] ++ (txtL zd9)), rfl, E31, (okC_app (okC_lit [48] (by decide)) (okC_txt _)), (by first | omega | (simp; omega))⟩
 · refine rk_cf (T rfl (congrArg Value.bool (decide_eq_false hb32))) ?_
   refine rk_seq ?_
   refine rk_reg ?_
   refine lw_v (.bool (decide (zi23 = 1))) (dv_eql (a := zi23) (b := 1) (T rfl rfl) C) ?_
   refine lw_v (.bool (decide (zi23 = 1))) (dv_assign (T rfl rfl)) ?_
   refine lw_nil ?_
   by_cases hb33 : zi23 = 1
   · refine rk_ct (T rfl (congrArg Value.bool (decide_eq_true hb33))) ?_
     refine rk_seq ?_
     refine rk_reg ?_
     refine lw_v (.string (bOf (txtL zd9))) (dv_move (T rfl rfl)) ?_
     refine lw_v (.string (bOf ([45] ++ (txtL zd9)))) (dv_addS (L := [45]) (M := (txtL zd9)) C (T rfl rfl) (by first | omega | (simp; done) | (simp; omega) | (have := txt_len78 (by assumption); simp; omega))) ?_
     refine lw_v (.string (bOf ([45] ++ (txtL zd9)))) (dv_assign (T rfl rfl)) ?_
     refine lw_nil ?_
     refine rk_ret Try.func33 (v := .string (bOf ([45] ++ (txtL zd9)))) (res1 Try.results33 (rv_tmp rfl rfl)) ⟨_, rfl, ?_⟩
     have htl := txt_len78 hz14
     exact ⟨([45] ++ (txtL zd9)), rfl, E31, (okC_app (okC_lit [45] (by decide)) (okC_txt _)), (by first | omega | (simp; omega))⟩
   · refine rk_cf (T rfl (congrArg Value.bool (decide_eq_false hb33))) ?_
     refine rk_seq ?_
     refine rk_reg ?_
     refine lw_v (.bool (decide (zi23 = 2))) (dv_eql (a := zi23) (b := 2) (T rfl rfl) C) ?_
     refine lw_v (.bool (decide (zi23 = 2))) (dv_assign (T rfl rfl)) ?_
     refine lw_nil ?_
     by_cases hb34 : zi23 = 2
     · refine rk_ct (T rfl (congrArg Value.bool (decide_eq_true hb34))) ?_
       refine rk_seq ?_
       refine rk_reg ?_
       refine lw_v (.string (bOf (txtL zd9))) (dv_move (T rfl rfl)) ?_
       refine lw_e (oe_buildSlice (pv := [(0, .string (bOf [])), (1, .string (bOf [32])), (2, .string (bOf [97])), (3, .string (bOf [48]))]) (init := [.string ⟨#[]⟩, .string ⟨#[]⟩, .string ⟨#[]⟩, .string ⟨#[]⟩]) (l := [.string (bOf []), .string (bOf [32]), .string (bOf [97]), .string (bOf [48])]) us83 sz9 rfl rfl zc9 (by kernel_rfl) ⟨rfl, C, ⟨rfl, C, ⟨rfl, C, ⟨rfl, C, trivial⟩⟩⟩⟩ rfl ?_)
       intro b35 w36 n37
       have N38 : w.heap.size ≤ b35 := n37.eq ▸ E31.size
       have : b1 < b35 := n37.eq ▸ lt_of_blk H26
       have E39 := below_ext E31 E31.size n37.ext
       refine lw_v (.pointer (some ⟨b1, 0, none⟩)) (dv_move (T rfl rfl)) ?_
       have h40 := hx.ext E39
       have H41 := (n37.ext.blk H26)
       refine lw_e (oe_callf (vs := [.pointer (some ⟨b1, 0, none⟩), .int .i64 4]) co61 (ar2 (T rfl rfl) C) (rbelow_ok (n := 4) h40 (by first | omega | (simp; done) | (simp; omega)) (by first | omega | (simp; done) | (simp; omega)) ok (hx.ne N7) H41 (by omega) ) ?_)
       rintro _ w48 ⟨zi42, p43, rfl, e49, H45, hp46, hz47⟩
       have E50 := below_bx E39 N7 e49
       refine lw_v (.pointer (some ⟨b35, zi42.toNat, none⟩)) (dv_indexO (g := b35) (l := 4) (c := 4) (i := zi42.toNat) (j := zi42) us83 sz9 (T rfl rfl) (T rfl rfl) (by omega) (by first | omega | (simp; done) | (simp; omega))) ?_
       obtain ⟨M51, hM52, okM53, lM54⟩ := okLs (L := [[], [32], [97], [48]]) (by decide) zi42.toNat
       have H55 := (bx_blk e49 n37.blk (by omega))
       refine lw_v (.string (bOf M51)) (dv_loadSt (L := [[], [32], [97], [48]]) (M := M51) agt9 (T rfl rfl) H55 rfl (by first | omega | (simp; done) | (simp; omega)) hM52) ?_
       refine lw_v (.string (bOf ((txtL zd9) ++ M51))) (dv_addS (L := (txtL zd9)) (M := M51) (T rfl rfl) (T rfl rfl) (by first | omega | (simp; done) | (simp; omega) | (have := txt_len78 (by assumption); simp; omega))) ?_
       refine lw_v (.string (bOf ((txtL zd9) ++ M51))) (dv_assign (T rfl rfl)) ?_
       refine lw_nil ?_
       refine rk_ret Try.func33 (v := .string (bOf ((txtL zd9) ++ M51))) (res1 Try.results33 (rv_tmp rfl rfl)) ⟨_, rfl, ?_⟩
       have htl := txt_len78 hz14
       exact ⟨((txtL zd9) ++ M51), rfl, E50, (okC_app (okC_txt _) (okM53)), (by first | omega | (simp; omega))⟩
     · refine rk_cf (T rfl (congrArg Value.bool (decide_eq_false hb34))) ?_
       refine rk_seq ?_
       refine rk_reg ?_
       refine lw_v (.bool (decide (zi23 = 3))) (dv_eql (a := zi23) (b := 3) (T rfl rfl) C) ?_
       refine lw_v (.bool (decide (zi23 = 3))) (dv_assign (T rfl rfl)) ?_
       refine lw_nil ?_
       by_cases hb56 : zi23 = 3
       · refine rk_ct (T rfl (congrArg Value.bool (decide_eq_true hb56))) ?_
         refine rk_seq ?_
         refine rk_reg ?_
         refine lw_e (oe_buildSlice (pv := [(0, .string (bOf [])), (1, .string (bOf [45])), (2, .string (bOf [45, 48])), (3, .string (bOf [43, 49])), (4, .string (bOf [53, 55, 56, 57, 54, 48, 52, 52, 54, 49, 56, 54, 53, 56, 48, 57, 55, 55, 49, 49, 55, 56, 53, 52, 57, 50, 53, 48, 52, 51, 52, 51, 57, 53, 51, 57, 50, 54, 54, 51, 52, 57, 57, 50, 51, 51, 50, 56, 50, 48, 50, 56, 50, 48, 49, 57, 55, 50, 56, 55, 57, 50, 48, 48, 51, 57, 53, 54, 53, 54, 52, 56, 49, 57, 57, 54, 56])), (5, .string (bOf [45, 53, 55, 56, 57, 54, 48, 52, 52, 54, 49, 56, 54, 53, 56, 48, 57, 55, 55, 49, 49, 55, 56, 53, 52, 57, 50, 53, 48, 52, 51, 52, 51, 57, 53, 51, 57, 50, 54, 54, 51, 52, 57, 57, 50, 51, 51, 50, 56, 50, 48, 50, 56, 50, 48, 49, 57, 55, 50, 56, 55, 57, 50, 48, 48, 51, 57, 53, 54, 53, 54, 52, 56, 49, 57, 57, 54, 56])), (6, .string (bOf [45, 53, 55, 56, 57, 54, 48, 52, 52, 54, 49, 56, 54, 53, 56, 48, 57, 55, 55, 49, 49, 55, 56, 53, 52, 57, 50, 53, 48, 52, 51, 52, 51, 57, 53, 51, 57, 50, 54, 54, 51, 52, 57, 57, 50, 51, 51, 50, 56, 50, 48, 50, 56, 50, 48, 49, 57, 55, 50, 56, 55, 57, 50, 48, 48, 51, 57, 53, 54, 53, 54, 52, 56, 49, 57, 57, 54, 57]))]) (init := [.string ⟨#[]⟩, .string ⟨#[]⟩, .string ⟨#[]⟩, .string ⟨#[]⟩, .string ⟨#[]⟩, .string ⟨#[]⟩, .string ⟨#[]⟩]) (l := [.string (bOf []), .string (bOf [45]), .string (bOf [45, 48]), .string (bOf [43, 49]), .string (bOf [53, 55, 56, 57, 54, 48, 52, 52, 54, 49, 56, 54, 53, 56, 48, 57, 55, 55, 49, 49, 55, 56, 53, 52, 57, 50, 53, 48, 52, 51, 52, 51, 57, 53, 51, 57, 50, 54, 54, 51, 52, 57, 57, 50, 51, 51, 50, 56, 50, 48, 50, 56, 50, 48, 49, 57, 55, 50, 56, 55, 57, 50, 48, 48, 51, 57, 53, 54, 53, 54, 52, 56, 49, 57, 57, 54, 56]), .string (bOf [45, 53, 55, 56, 57, 54, 48, 52, 52, 54, 49, 56, 54, 53, 56, 48, 57, 55, 55, 49, 49, 55, 56, 53, 52, 57, 50, 53, 48, 52, 51, 52, 51, 57, 53, 51, 57, 50, 54, 54, 51, 52, 57, 57, 50, 51, 51, 50, 56, 50, 48, 50, 56, 50, 48, 49, 57, 55, 50, 56, 55, 57, 50, 48, 48, 51, 57, 53, 54, 53, 54, 52, 56, 49, 57, 57, 54, 56]), .string (bOf [45, 53, 55, 56, 57, 54, 48, 52, 52, 54, 49, 56, 54, 53, 56, 48, 57, 55, 55, 49, 49, 55, 56, 53, 52, 57, 50, 53, 48, 52, 51, 52, 51, 57, 53, 51, 57, 50, 54, 54, 51, 52, 57, 57, 50, 51, 51, 50, 56, 50, 48, 50, 56, 50, 48, 49, 57, 55, 50, 56, 55, 57, 50, 48, 48, 51, 57, 53, 54, 53, 54, 52, 56, 49, 57, 57, 54, 57])]) us83 sz9 rfl rfl zc9 (by kernel_rfl) ⟨rfl, C, ⟨rfl, C, ⟨rfl, C, ⟨rfl, C, ⟨rfl, C, ⟨rfl, C, ⟨rfl, C, trivial⟩⟩⟩⟩⟩⟩⟩ rfl ?_)
         intro b57 w58 n59
         have N60 : w.heap.size ≤ b57 := n59.eq ▸ E31.size
         have : b1 < b57 := n59.eq ▸ lt_of_blk H26
         have E61 := below_ext E31 E31.size n59.ext
         refine lw_v (.pointer (some ⟨b1, 0, none⟩)) (dv_move (T rfl rfl)) ?_
         have h62 := hx.ext E61
         have H63 := (n59.ext.blk H26)
         refine lw_e (oe_callf (vs := [.pointer (some ⟨b1, 0, none⟩), .int .i64 7]) co61 (ar2 (T rfl rfl) C) (rbelow_ok (n := 7) h62 (by first | omega | (simp; done) | (simp; omega)) (by first | omega | (simp; done) | (simp; omega)) ok (hx.ne N7) H63 (by omega) ) ?_)
         rintro _ w70 ⟨zi64, p65, rfl, e71, H67, hp68, hz69⟩
         have E72 := below_bx E61 N7 e71
         refine lw_v (.pointer (some ⟨b57, zi64.toNat, none⟩)) (dv_indexO (g := b57) (l := 7) (c := 7) (i := zi64.toNat) (j := zi64) us83 sz9 (T rfl rfl) (T rfl rfl) (by omega) (by first | omega | (simp; done) | (simp; omega))) ?_
         obtain ⟨M73, hM74, okM75, lM76⟩ := okLs (L := [[], [45], [45, 48], [43, 49], [53, 55, 56, 57, 54, 48, 52, 52, 54, 49, 56, 54, 53, 56, 48, 57, 55, 55, 49, 49, 55, 56, 53, 52, 57, 50, 53, 48, 52, 51, 52, 51, 57, 53, 51, 57, 50, 54, 54, 51, 52, 57, 57, 50, 51, 51, 50, 56, 50, 48, 50, 56, 50, 48, 49, 57, 55, 50, 56, 55, 57, 50, 48, 48, 51, 57, 53, 54, 53, 54, 52, 56, 49, 57, 57, 54, 56], [45, 53, 55, 56, 57, 54, 48, 52, 52, 54, 49, 56, 54, 53, 56, 48, 57, 55, 55, 49, 49, 55, 56, 53, 52, 57, 50, 53, 48, 52, 51, 52, 51, 57, 53, 51, 57, 50, 54, 54, 51, 52, 57, 57, 50, 51, 51, 50, 56, 50, 48, 50, 56, 50, 48, 49, 57, 55, 50, 56, 55, 57, 50, 48, 48, 51, 57, 53, 54, 53, 54, 52, 56, 49, 57, 57, 54, 56], [45, 53, 55, 56, 57, 54, 48, 52, 52, 54, 49, 56, 54, 53, 56, 48, 57, 55, 55, 49, 49, 55, 56, 53, 52, 57, 50, 53, 48, 52, 51, 52, 51, 57, 53, 51, 57, 50, 54, 54, 51, 52, 57, 57, 50, 51, 51, 50, 56, 50, 48, 50, 56, 50, 48, 49, 57, 55, 50, 56, 55, 57, 50, 48, 48, 51, 57, 53, 54, 53, 54, 52, 56, 49, 57, 57, 54, 57]]) (by decide) zi64.toNat
         have H77 := (bx_blk e71 n59.blk (by omega))
         refine lw_v (.string (bOf M73)) (dv_loadSt (L := [[], [45], [45, 48], [43, 49], [53, 55, 56, 57, 54, 48, 52, 52, 54, 49, 56, 54, 53, 56, 48, 57, 55, 55, 49, 49, 55, 56, 53, 52, 57, 50, 53, 48, 52, 51, 52, 51, 57, 53, 51, 57, 50, 54, 54, 51, 52, 57, 57, 50, 51, 51, 50, 56, 50, 48, 50, 56, 50, 48, 49, 57, 55, 50, 56, 55, 57, 50, 48, 48, 51, 57, 53, 54, 53, 54, 52, 56, 49, 57, 57, 54, 56], [45, 53, 55, 56, 57, 54, 48, 52, 52, 54, 49, 56, 54, 53, 56, 48, 57, 55, 55, 49, 49, 55, 56, 53, 52, 57, 50, 53, 48, 52, 51, 52, 51, 57, 53, 51, 57, 50, 54, 54, 51, 52, 57, 57, 50, 51, 51, 50, 56, 50, 48, 50, 56, 50, 48, 49, 57, 55, 50, 56, 55, 57, 50, 48, 48, 51, 57, 53, 54, 53, 54, 52, 56, 49, 57, 57, 54, 56], [45, 53, 55, 56, 57, 54, 48, 52, 52, 54, 49, 56, 54, 53, 56, 48, 57, 55, 55, 49, 49, 55, 56, 53, 52, 57, 50, 53, 48, 52, 51, 52, 51, 57, 53, 51, 57, 50, 54, 54, 51, 52, 57, 57, 50, 51, 51, 50, 56, 50, 48, 50, 56, 50, 48, 49, 57, 55, 50, 56, 55, 57, 50, 48, 48, 51, 57, 53, 54, 53, 54, 52, 56, 49, 57, 57, 54, 57]]) (M := M73) agt9 (T rfl rfl) H77 rfl (by first | omega | (simp; done) | (simp; omega)) hM74) ?_
         refine lw_v (.string (bOf M73)) (dv_assign (T rfl rfl)) ?_
         refine lw_nil ?_
         refine rk_ret Try.func33 (v := .string (bOf M73)) (res1 Try.results33 (rv_tmp rfl rfl)) ⟨_, rfl, ?_⟩
         have htl := txt_len78 hz14
         exact ⟨M73, rfl, E72, (okM75), (by first | omega | (simp; omega))⟩
       · refine rk_cf (T rfl (congrArg Value.bool (decide_eq_false hb56))) ?_
         refine rk_skip ?_
         refine rk_inBlock ?_
         refine rk_seq ?_
         refine rk_reg ?_
         refine lw_v (.string (bOf (txtL zd9))) (dv_move (T rfl rfl)) ?_
         refine lw_v (.string (bOf (txtL zd9))) (dv_assign (T rfl rfl)) ?_
         refine lw_nil ?_
         refine rk_ret Try.func33 (v := .string (bOf (txtL zd9))) (res1 Try.results33 (rv_tmp rfl rfl)) ⟨_, rfl, ?_⟩
         have htl := txt_len78 hz14
         exact ⟨(txtL zd9), rfl, E31, (okC_txt _), (by first | omega | (simp; omega))⟩
end Go.Proofs.Ytfmkadgjoechnaa.W
set_option linter.unusedVariables false
set_option linter.unusedSimpArgs false
namespace Go.Proofs.Ytfmkadgjoechnaa.W
open Go Go.RowKit Go.Proofs.Ytfmkadgjoechnaa.Fw
attribute [local irreducible] RunK LW AW DV OE Ct
theorem co30 : callOk Try.prog 30 = true := by kernel_rfl
theorem co33 : callOk Try.prog 33 = true := by kernel_rfl
set_option maxRecDepth 100000 in
set_option maxHeartbeats 1000000 in
theorem lawWideTexts_ok {w : World} {A : Option Addr} {l c : Nat} {xs : List Int} (hx : RdI w .u8 A xs) (hxl : xs.length = l) (hlc : l ≤ c) (hcm : c ≤ 9223372036854775807) (ok : okW 256 xs) : Ct Try.prog 7 [.slice A l c] w fun v w1 => v = .bool true ∧ Ext w w1 := by
 refine ct_run (n := 71) Try.func7 rfl Try.ntmps7 rfl ?_
 have E0 : Below w.heap.size w w := Below.refl _ _
 refine rk_seq ?_
 refine rk_reg ?_
 refine lw_v (.bool false) (dv_assign C) ?_
 refine lw_nil ?_
 refine rk_seq ?_
 refine rk_seq ?_
 refine rk_reg ?_
 refine lw_v (.slice A l c) (dv_move (T rfl rfl)) ?_
 refine lw_e (oe_callf (vs := [.slice A l c]) co11 (ar1 (T rfl rfl)) (lbig_ok ) ?_)
 rintro _ w1 ⟨rfl, e2⟩
 have E3 := below_ext E0 E0.size e2
 refine lw_nil ?_
 by_cases hb4 : 1048576 < (l : Int)
 · refine rk_ct (T rfl (congrArg Value.bool (decide_eq_true hb4))) ?_
   refine rk_seq ?_
   refine rk_reg ?_
   refine lw_v (.bool true) (dv_assign C) ?_
   refine lw_nil ?_
   refine rk_ret Try.func7 (v := .bool true) (res1 Try.results7 (rv_tmp rfl rfl)) ⟨_, rfl, ?_⟩
   exact ⟨rfl, E3⟩
 · refine rk_cf (T rfl (congrArg Value.bool (decide_eq_false hb4))) ?_
   refine rk_skip ?_
   refine rk_seq ?_
   refine rk_reg ?_
   refine lw_v (.slice A l c) (dv_move (T rfl rfl)) ?_
   have h5 := (hx.ext e2)
   refine lw_e (oe_callf (vs := [.slice A l c]) co30 (ar1 (T rfl rfl)) (drawWideText_ok (l := l) (c := c) (xs := xs) h5 (by first | omega | (simp; done) | (simp; omega)) (by first | omega | (simp; done) | (simp; omega)) ok) ?_)
   rintro _ w8 ⟨zd6, rfl, e9, hz7⟩
   have E10 := below_ext E3 E3.size e9
   refine lw_e (oe_alloc ze26 ?_)
   intro b11 w12 n13
   have N14 : w.heap.size ≤ b11 := n13.eq ▸ E10.size
   have E15 := below_ext E10 E10.size n13.ext
   refine lw_e (oe_store (v := .agg #[.int .u64 (wv3 zd6), .int .u64 (wv2 zd6), .int .u64 (wv1 zd6), .int .u64 (wv0 zd6)]) (vs := [.int .u64 (wv3 zd6), .int .u64 (wv2 zd6), .int .u64 (wv1 zd6), .int .u64 (wv0 zd6)]) (l := [.int .u64 (wv3 zd6), .int .u64 (wv2 zd6), .int .u64 (wv1 zd6), .int .u64 (wv0 zd6)]) (T rfl rfl) (T rfl rfl) sz26 rfl rfl rfl n13.blk rfl ?_)
   intro w16 s17 H18
   have E19 := below_st E15 N14 s17
   refine lw_nil ?_
   refine rk_seq ?_
   refine rk_reg ?_
   refine lw_v (.agg #[.int .u64 (wv3 zd6), .int .u64 (wv2 zd6), .int .u64 (wv1 zd6), .int .u64 (wv0 zd6)]) (dv_loads (l := [.int .u64 (wv3 zd6), .int .u64 (wv2 zd6), .int .u64 (wv1 zd6), .int .u64 (wv0 zd6)]) agt26 sz26 (T rfl rfl) H18 rfl) ?_
   refine lw_e (oe_callf (vs := [.agg #[.int .u64 (wv3 zd6), .int .u64 (wv2 zd6), .int .u64 (wv1 zd6), .int .u64 (wv0 zd6)]]) co31 (ar1 (T rfl rfl)) (iWideText_ok (x := zd6) hz7 ) ?_)
   rintro _ w20 ⟨rfl, e21⟩
   have E22 := below_ext E19 E19.size e21
   refine lw_v (.string (bOf (txtL zd6))) (dv_assign (T rfl rfl)) ?_
   refine lw_nil ?_
   refine rk_seq ?_
   refine rk_reg ?_
   refine lw_v (.string (bOf (txtL zd6))) (dv_move (T rfl rfl)) ?_
   refine lw_e (oe_callf (vs := [.string (bOf (txtL zd6))]) co24 (ar1 (T rfl rfl)) (iReadWide_ok (okC_txt _) (by first | omega | exact Nat.le_trans (txt_len78 (by assumption)) (by decide) | (simp; done) | (simp; omega))) ?_)
   rintro _ w23 ⟨rfl, e24⟩
   have E25 := below_ext E22 E22.size e24
   refine lw_v (.tuple #[.agg #[.int .u64 (wv3 (rdZ (txtL zd6))), .int .u64 (wv2 (rdZ (txtL zd6))), .int .u64 (wv1 (rdZ (txtL zd6))), .int .u64 (wv0 (rdZ (txtL zd6)))], .bool (decide (rdS (txtL zd6)))]) (dv_move (T rfl rfl)) ?_
   refine lw_v (.agg #[.int .u64 (wv3 (rdZ (txtL zd6))), .int .u64 (wv2 (rdZ (txtL zd6))), .int .u64 (wv1 (rdZ (txtL zd6))), .int .u64 (wv0 (rdZ (txtL zd6)))]) (dv_extract (vs := #[.agg #[.int .u64 (wv3 (rdZ (txtL zd6))), .int .u64 (wv2 (rdZ (txtL zd6))), .int .u64 (wv1 (rdZ (txtL zd6))), .int .u64 (wv0 (rdZ (txtL zd6)))], .bool (decide (rdS (txtL zd6)))]) (T rfl rfl) rfl) ?_
   refine lw_v (.bool (decide (rdS (txtL zd6)))) (dv_extract (vs := #[.agg #[.int .u64 (wv3 (rdZ (txtL zd6))), .int .u64 (wv2 (rdZ (txtL zd6))), .int .u64 (wv1 (rdZ (txtL zd6))), .int .u64 (wv0 (rdZ (txtL zd6)))], .bool (decide (rdS (txtL zd6)))]) (T rfl rfl) rfl) ?_
   refine lw_e (oe_alloc ze26 ?_)
   intro b26 w27 n28
   have N29 : w.heap.size ≤ b26 := n28.eq ▸ E25.size
   have H30 := (e24.blk (e21.blk H18))
   have : b11 < b26 := n28.eq ▸ lt_of_blk H30
   have E31 := below_ext E25 E25.size n28.ext
   refine lw_e (oe_store (v := .agg #[.int .u64 (wv3 (rdZ (txtL zd6))), .int .u64 (wv2 (rdZ (txtL zd6))), .int .u64 (wv1 (rdZ (txtL zd6))), .int .u64 (wv0 (rdZ (txtL zd6)))]) (vs := [.int .u64 (wv3 (rdZ (txtL zd6))), .int .u64 (wv2 (rdZ (txtL zd6))), .int .u64 (wv1 (rdZ (txtL zd6))), .int .u64 (wv0 (rdZ (txtL zd6)))]) (l := [.int .u64 (wv3 (rdZ (txtL zd6))), .int .u64 (wv2 (rdZ (txtL zd6))), .int .u64 (wv1 (rdZ (txtL zd6))), .int .u64 (wv0 (rdZ (txtL zd6)))]) (T rfl rfl) (T rfl rfl) sz26 rfl rfl rfl n28.blk rfl ?_)
   intro w32 s33 H34
   have E35 := below_st E31 N29 s33
   refine lw_v (.bool (decide (rdS (txtL zd6)))) (dv_assign (T rfl rfl)) ?_
   refine lw_nil ?_
   refine rk_seq ?_
   refine rk_seq ?_
   refine rk_reg ?_
   refine lw_v (.string (bOf (txtL zd6))) (dv_move (T rfl rfl)) ?_
   have H36 := (s33.blk (n28.ext.blk H30) (by omega))
   refine lw_v (.agg #[.int .u64 (wv3 zd6), .int .u64 (wv2 zd6), .int .u64 (wv1 zd6), .int .u64 (wv0 zd6)]) (dv_loads (l := [.int .u64 (wv3 zd6), .int .u64 (wv2 zd6), .int .u64 (wv1 zd6), .int .u64 (wv0 zd6)]) agt26 sz26 (T rfl rfl) H36 rfl) ?_
   refine lw_e (oe_callf (vs := [.agg #[.int .u64 (wv3 zd6), .int .u64 (wv2 zd6), .int .u64 (wv1 zd6), .int .u64 (wv0 zd6)]]) co32 (ar1 (T rfl rfl)) (sWideText_ok (x := zd6) hz7 ) ?_)
   rintro _ w37 ⟨rfl, e38⟩
   have E39 := below_ext E35 E35.size e38
   refine lw_v (.bool (decide ((((txtL zd6)) : List Int) ≠ ((txtL zd6))))) (dv_neS (L := (txtL zd6)) (M := (txtL zd6)) (T rfl rfl) (T rfl rfl) ((okC_txt _)) ((okC_txt _))) ?_
   refine lw_v (.bool (decide ((((txtL zd6)) : List Int) ≠ ((txtL zd6))))) (dv_move (T rfl rfl)) ?_
   by_cases hb40 : (((txtL zd6)) : List Int) ≠ ((txtL zd6))
   · refine lw_no (d := 27) rfl rfl (congrArg Value.bool (decide_eq_true hb40)) ?_
     refine lw_no (d := 27) rfl rfl (congrArg Value.bool (decide_eq_true hb40)) ?_
     refine lw_v (.bool true) (dv_pick_t (T rfl (congrArg Value.bool (decide_eq_true hb40))) C) ?_
     refine lw_v (.bool true) (dv_move (T rfl rfl)) ?_
     refine lw_no (d := 31) rfl rfl (rfl) ?_
     refine lw_no (d := 31) rfl rfl (rfl) ?_
     refine lw_no (d := 31) rfl rfl (rfl) ?_
     refine lw_v (.bool true) (dv_pick_t (T rfl rfl) C) ?_
     refine lw_nil ?_
     refine rk_ct (T rfl rfl) ?_
     refine rk_seq ?_
     refine rk_reg ?_
     refine lw_v (.bool false) (dv_assign C) ?_
     refine lw_nil ?_
     refine rk_ret Try.func7 (v := .bool false) (res1 Try.results7 (rv_tmp rfl rfl)) ⟨_, rfl, ?_⟩
     skip
     exact ⟨(by exfalso; exact absurd rfl hb40), E39⟩
   · refine lw_vy (.bool (decide (rdS (txtL zd6)))) (d := 27) rfl rfl (congrArg Value.bool (decide_eq_false hb40)) (dv_move (T rfl rfl)) ?_
     refine lw_vy (.bool (decide (¬ (rdS (txtL zd6))))) (d := 27) rfl rfl (congrArg Value.bool (decide_eq_false hb40)) (dv_notd (p := rdS (txtL zd6)) (T rfl rfl)) ?_
     refine lw_v (.bool (decide (¬ (rdS (txtL zd6))))) (dv_pick_f (T rfl (congrArg Value.bool (decide_eq_false hb40))) (T rfl rfl)) ?_
     refine lw_v (.bool (decide (¬ (rdS (txtL zd6))))) (dv_move (T rfl rfl)) ?_
     by_cases hb41 : rdS (txtL zd6)
     · have H42 := (e38.blk H34)
       refine lw_vy (.agg #[.int .u64 (wv3 (rdZ (txtL zd6))), .int .u64 (wv2 (rdZ (txtL zd6))), .int .u64 (wv1 (rdZ (txtL zd6))), .int .u64 (wv0 (rdZ (txtL zd6)))]) (d := 31) rfl rfl (congrArg Value.bool (decide_eq_false (not_not_intro hb41))) (dv_loads (l := [.int .u64 (wv3 (rdZ (txtL zd6))), .int .u64 (wv2 (rdZ (txtL zd6))), .int .u64 (wv1 (rdZ (txtL zd6))), .int .u64 (wv0 (rdZ (txtL zd6)))]) agt26 sz26 (T rfl rfl) H42 rfl) ?_
       have H43 := (e38.blk H36)
       refine lw_vy (.agg #[.int .u64 (wv3 zd6), .int .u64 (wv2 zd6), .int .u64 (wv1 zd6), .int .u64 (wv0 zd6)]) (d := 31) rfl rfl (congrArg Value.bool (decide_eq_false (not_not_intro hb41))) (dv_loads (l := [.int .u64 (wv3 zd6), .int .u64 (wv2 zd6), .int .u64 (wv1 zd6), .int .u64 (wv0 zd6)]) agt26 sz26 (T rfl rfl) H43 rfl) ?_
       refine lw_vy (.bool (decide (([wv3 (rdZ (txtL zd6)), wv2 (rdZ (txtL zd6)), wv1 (rdZ (txtL zd6)), wv0 (rdZ (txtL zd6))] : List Int) ≠ [wv3 zd6, wv2 zd6, wv1 zd6, wv0 zd6]))) (d := 31) rfl rfl (congrArg Value.bool (decide_eq_false (not_not_intro hb41))) (dv_neqs (k := .u64) (la := [wv3 (rdZ (txtL zd6)), wv2 (rdZ (txtL zd6)), wv1 (rdZ (txtL zd6)), wv0 (rdZ (txtL zd6))]) (lb := [wv3 zd6, wv2 zd6, wv1 zd6, wv0 zd6]) fl26 eg26 (T rfl rfl) (T rfl rfl) rfl rfl) ?_
       refine lw_v (.bool (decide (([wv3 (rdZ (txtL zd6)), wv2 (rdZ (txtL zd6)), wv1 (rdZ (txtL zd6)), wv0 (rdZ (txtL zd6))] : List Int) ≠ [wv3 zd6, wv2 zd6, wv1 zd6, wv0 zd6]))) (dv_pick_f (T rfl (congrArg Value.bool (decide_eq_false (not_not_intro hb41)))) (T rfl rfl)) ?_
       refine lw_nil ?_
       by_cases hb44 : ([wv3 (rdZ (txtL zd6)), wv2 (rdZ (txtL zd6)), wv1 (rdZ (txtL zd6)), wv0 (rdZ (txtL zd6))] : List Int) ≠ [wv3 zd6, wv2 zd6, wv1 zd6, wv0 zd6]
       · have hz45 := fun hh => hb44 ((wl_eq (rdZ_f _) hz7).2 hh)
         refine rk_ct (T rfl (congrArg Value.bool (decide_eq_true hb44))) ?_
         refine rk_seq ?_
         refine rk_reg ?_
         refine lw_v (.bool false) (dv_assign C) ?_
         refine lw_nil ?_
         refine rk_ret Try.func7 (v := .bool false) (res1 Try.results7 (rv_tmp rfl rfl)) ⟨_, rfl, ?_⟩
         skip
         exact ⟨(by exfalso; exact hb44 (by rw [(rdS_txt hz7).2])), E39⟩
       · have hz46 := (wl_eq (rdZ_f _) hz7).1 (Decidable.not_not.1 hb44)
         refine rk_cf (T rfl (congrArg Value.bool (decide_eq_false hb44))) ?_
         refine rk_skip ?_
         refine rk_seq ?_
         refine rk_reg ?_
         refine lw_v (.slice A l c) (dv_move (T rfl rfl)) ?_
         have h47 := hx.ext E39
         refine lw_e (oe_callf (vs := [.slice A l c]) co33 (ar1 (T rfl rfl)) (drawText_ok (l := l) (c := c) (xs := xs) h47 (by first | omega | (simp; done) | (simp; omega)) (by first | omega | (simp; done) | (simp; omega)) ok) ?_)
         rintro _ w51 ⟨M48, rfl, e52, okM49, lM50⟩
         have E53 := below_ext E39 E39.size e52
         refine lw_v (.string (bOf M48)) (dv_assign (T rfl rfl)) ?_
         refine lw_nil ?_
         refine rk_seq ?_
         refine rk_reg ?_
         refine lw_v (.string (bOf M48)) (dv_move (T rfl rfl)) ?_
         refine lw_e (oe_callf (vs := [.string (bOf M48)]) co24 (ar1 (T rfl rfl)) (iReadWide_ok (okM49) (by first | omega | exact Nat.le_trans (txt_len78 (by assumption)) (by decide) | (simp; done) | (simp; omega))) ?_)
         rintro _ w54 ⟨rfl, e55⟩
         have E56 := below_ext E53 E53.size e55
         refine lw_v (.tuple #[.agg #[.int .u64 (wv3 (rdZ M48)), .int .u64 (wv2 (rdZ M48)), .int .u64 (wv1 (rdZ M48)), .int .u64 (wv0 (rdZ M48))], .bool (decide (rdS M48))]) (dv_move (T rfl rfl)) ?_
         refine lw_v (.agg #[.int .u64 (wv3 (rdZ M48)), .int .u64 (wv2 (rdZ M48)), .int .u64 (wv1 (rdZ M48)), .int .u64 (wv0 (rdZ M48))]) (dv_extract (vs := #[.agg #[.int .u64 (wv3 (rdZ M48)), .int .u64 (wv2 (rdZ M48)), .int .u64 (wv1 (rdZ M48)), .int .u64 (wv0 (rdZ M48))], .bool (decide (rdS M48))]) (T rfl rfl) rfl) ?_
         refine lw_v (.bool (decide (rdS M48))) (dv_extract (vs := #[.agg #[.int .u64 (wv3 (rdZ M48)), .int .u64 (wv2 (rdZ M48)), .int .u64 (wv1 (rdZ M48)), .int .u64 (wv0 (rdZ M48))], .bool (decide (rdS M48))]) (T rfl rfl) rfl) ?_
         refine lw_e (oe_alloc ze26 ?_)
         intro b57 w58 n59
         have N60 : w.heap.size ≤ b57 := n59.eq ▸ E56.size
         have H61 := (e55.blk (e52.blk H42))
         have : b26 < b57 := n59.eq ▸ lt_of_blk H61
         have E62 := below_ext E56 E56.size n59.ext
         refine lw_e (oe_store (v := .agg #[.int .u64 (wv3 (rdZ M48)), .int .u64 (wv2 (rdZ M48)), .int .u64 (wv1 (rdZ M48)), .int .u64 (wv0 (rdZ M48))]) (vs := [.int .u64 (wv3 (rdZ M48)), .int .u64 (wv2 (rdZ M48)), .int .u64 (wv1 (rdZ M48)), .int .u64 (wv0 (rdZ M48))]) (l := [.int .u64 (wv3 (rdZ M48)), .int .u64 (wv2 (rdZ M48)), .int .u64 (wv1 (rdZ M48)), .int .u64 (wv0 (rdZ M48))]) (T rfl rfl) (T rfl rfl) sz26 rfl rfl rfl n59.blk rfl ?_)
         intro w63 s64 H65
         have E66 := below_st E62 N60 s64
         refine lw_v (.bool (decide (rdS M48))) (dv_assign (T rfl rfl)) ?_
         refine lw_nil ?_
         refine rk_seq ?_
         refine rk_seq ?_
         refine rk_reg ?_
         refine lw_v (.bool (decide (rdS M48))) (dv_move (T rfl rfl)) ?_
         refine lw_v (.bool (decide (rdS M48))) (dv_move (T rfl rfl)) ?_
         by_cases hb67 : rdS M48
         · refine lw_vy (.agg #[.int .u64 (wv3 (rdZ M48)), .int .u64 (wv2 (rdZ M48)), .int .u64 (wv1 (rdZ M48)), .int .u64 (wv0 (rdZ M48))]) (d := 44) rfl rfl (congrArg Value.bool (decide_eq_true hb67)) (dv_loads (l := [.int .u64 (wv3 (rdZ M48)), .int .u64 (wv2 (rdZ M48)), .int .u64 (wv1 (rdZ M48)), .int .u64 (wv0 (rdZ M48))]) agt26 sz26 (T rfl rfl) H65 rfl) ?_
           refine lw_ey (d := 44) rfl rfl (congrArg Value.bool (decide_eq_true hb67)) (oe_callf (vs := [.agg #[.int .u64 (wv3 (rdZ M48)), .int .u64 (wv2 (rdZ M48)), .int .u64 (wv1 (rdZ M48)), .int .u64 (wv0 (rdZ M48))]]) co31 (ar1 (T rfl rfl)) (iWideText_ok (x := rdZ M48) (rdZ_f _) ) ?_)
           rintro _ w68 ⟨rfl, e69⟩
           have E70 := below_ext E66 E66.size e69
           refine lw_vy (.string (bOf M48)) (d := 44) rfl rfl (congrArg Value.bool (decide_eq_true hb67)) (dv_move (T rfl rfl)) ?_
           refine lw_vy (.bool (decide ((((txtL (rdZ M48))) : List Int) ≠ M48))) (d := 44) rfl rfl (congrArg Value.bool (decide_eq_true hb67)) (dv_neS (L := (txtL (rdZ M48))) (M := M48) (T rfl rfl) (T rfl rfl) ((okC_txt _)) ((okM49))) ?_
           refine lw_v (.bool (decide ((((txtL (rdZ M48))) : List Int) ≠ M48))) (dv_pick_t (T rfl (congrArg Value.bool (decide_eq_true hb67))) (T rfl rfl)) ?_
           refine lw_nil ?_
           by_cases hb71 : (((txtL (rdZ M48))) : List Int) ≠ M48
           · refine rk_ct (T rfl (congrArg Value.bool (decide_eq_true hb71))) ?_
             refine rk_seq ?_
             refine rk_reg ?_
             refine lw_v (.bool false) (dv_assign C) ?_
             refine lw_nil ?_
             refine rk_ret Try.func7 (v := .bool false) (res1 Try.results7 (rv_tmp rfl rfl)) ⟨_, rfl, ?_⟩
             skip
             exact ⟨(by exfalso; exact hb71 (cT1 hb67)), E70⟩
           · refine rk_cf (T rfl (congrArg Value.bool (decide_eq_false hb71))) ?_
             refine rk_skip ?_
             refine rk_seq ?_
             refine rk_reg ?_
             have H72 := (e69.blk (s64.blk (n59.ext.blk (e55.blk (e52.blk H43))) (by omega)))
             refine lw_v (.agg #[.int .u64 (wv3 zd6), .int .u64 (wv2 zd6), .int .u64 (wv1 zd6), .int .u64 (wv0 zd6)]) (dv_loads (l := [.int .u64 (wv3 zd6), .int .u64 (wv2 zd6), .int .u64 (wv1 zd6), .int .u64 (wv0 zd6)]) agt26 sz26 (T rfl rfl) H72 rfl) ?_
             refine lw_v (.agg #[.int .u64 (wv3 zd6), .int .u64 (wv2 zd6), .int .u64 (wv1 zd6), .int .u64 (wv0 zd6)]) (dv_loads (l := [.int .u64 (wv3 zd6), .int .u64 (wv2 zd6), .int .u64 (wv1 zd6), .int .u64 (wv0 zd6)]) agt26 sz26 (T rfl rfl) H72 rfl) ?_
             refine lw_e (oe_callf (vs := [.agg #[.int .u64 (wv3 zd6), .int .u64 (wv2 zd6), .int .u64 (wv1 zd6), .int .u64 (wv0 zd6)], .agg #[.int .u64 (wv3 zd6), .int .u64 (wv2 zd6), .int .u64 (wv1 zd6), .int .u64 (wv0 zd6)]]) co19 (ar2 (T rfl rfl) (T rfl rfl)) (iWideAdd_ok (x := zd6) (y := zd6) hz7 hz7 ) ?_)
             rintro _ w73 ⟨rfl, e74⟩
             have E75 := below_ext E70 E70.size e74
             refine lw_v (.tuple #[.agg #[.int .u64 (wv3 (fz (zd6 + zd6))), .int .u64 (wv2 (fz (zd6 + zd6))), .int .u64 (wv1 (fz (zd6 + zd6))), .int .u64 (wv0 (fz (zd6 + zd6)))], .bool (decide (fits (zd6 + zd6)))]) (dv_move (T rfl rfl)) ?_
             refine lw_v (.agg #[.int .u64 (wv3 (fz (zd6 + zd6))), .int .u64 (wv2 (fz (zd6 + zd6))), .int .u64 (wv1 (fz (zd6 + zd6))), .int .u64 (wv0 (fz (zd6 + zd6)))]) (dv_extract (vs := #[.agg #[.int .u64 (wv3 (fz (zd6 + zd6))), .int .u64 (wv2 (fz (zd6 + zd6))), .int .u64 (wv1 (fz (zd6 + zd6))), .int .u64 (wv0 (fz (zd6 + zd6)))], .bool (decide (fits (zd6 + zd6)))]) (T rfl rfl) rfl) ?_
             refine lw_v (.bool (decide (fits (zd6 + zd6)))) (dv_extract (vs := #[.agg #[.int .u64 (wv3 (fz (zd6 + zd6))), .int .u64 (wv2 (fz (zd6 + zd6))), .int .u64 (wv1 (fz (zd6 + zd6))), .int .u64 (wv0 (fz (zd6 + zd6)))], .bool (decide (fits (zd6 + zd6)))]) (T rfl rfl) rfl) ?_
             refine lw_e (oe_alloc ze26 ?_)
             intro b76 w77 n78
             have N79 : w.heap.size ≤ b76 := n78.eq ▸ E75.size
             have H80 := (e74.blk (e69.blk H65))
             have : b57 < b76 := n78.eq ▸ lt_of_blk H80
             have E81 := below_ext E75 E75.size n78.ext
             refine lw_e (oe_store (v := .agg #[.int .u64 (wv3 (fz (zd6 + zd6))), .int .u64 (wv2 (fz (zd6 + zd6))), .int .u64 (wv1 (fz (zd6 + zd6))), .int .u64 (wv0 (fz (zd6 + zd6)))]) (vs := [.int .u64 (wv3 (fz (zd6 + zd6))), .int .u64 (wv2 (fz (zd6 + zd6))), .int .u64 (wv1 (fz (zd6 + zd6))), .int .u64 (wv0 (fz (zd6 + zd6)))]) (l := [.int .u64 (wv3 (fz (zd6 + zd6))), .int .u64 (wv2 (fz (zd6 + zd6))), .int .u64 (wv1 (fz (zd6 + zd6))), .int .u64 (wv0 (fz (zd6 + zd6)))]) (T rfl rfl) (T rfl rfl) sz26 rfl rfl rfl n78.blk rfl ?_)
             intro w82 s83 H84
             have E85 := below_st E81 N79 s83
             refine lw_v (.bool (decide (fits (zd6 + zd6)))) (dv_assign (T rfl rfl)) ?_
             refine lw_nil ?_
             refine rk_seq ?_
             refine rk_any (fun w => w.heap[b11]? = some (.cells #[.int .u64 (wv3 zd6), .int .u64 (wv2 zd6), .int .u64 (wv1 zd6), .int .u64 (wv0 zd6)] 26) ∧ w.heap[b76]? = some (.cells #[.int .u64 (wv3 (fz (zd6 + zd6))), .int .u64 (wv2 (fz (zd6 + zd6))), .int .u64 (wv1 (fz (zd6 + zd6))), .int .u64 (wv0 (fz (zd6 + zd6)))] 26)) [15] mo ?_
             intro w86 d87
             have E88 := below_ext E85 E85.size d87.ext
             have H89 := (d87.ext.blk (s83.blk (n78.ext.blk (e74.blk H72)) (by omega)))
             have H90 := (d87.ext.blk H84)
             refine aw_pure 0 (.bool (decide (fits (zd6 + zd6)))) rfl (by kernel_rfl) .none ⟨H89, H90⟩ (fun _ => dv_move (T rfl rfl)) ?_
             refine aw_pure 1 (.bool (decide (¬ (fits (zd6 + zd6))))) rfl (by kernel_rfl) .none ⟨H89, H90⟩ (fun _ => dv_notd (p := fits (zd6 + zd6)) (T rfl rfl)) ?_
             refine aw_pure 2 (.bool (decide (¬ (fits (zd6 + zd6))))) rfl (by kernel_rfl) .none ⟨H89, H90⟩ (fun _ => dv_move (T rfl rfl)) ?_
             by_cases hb91 : fits (zd6 + zd6)
             · refine aw_load 3 (.agg #[.int .u64 (wv3 zd6), .int .u64 (wv2 zd6), .int .u64 (wv1 zd6), .int .u64 (wv0 zd6)]) rfl (by kernel_rfl) (.yes (d := 58) rfl rfl (congrArg Value.bool (decide_eq_false (not_not_intro hb91)))) ⟨H89, H90⟩ (fun _ s => dv_loads (l := [.int .u64 (wv3 zd6), .int .u64 (wv2 zd6), .int .u64 (wv1 zd6), .int .u64 (wv0 zd6)]) agt26 sz26 (T rfl rfl) s.1 rfl) ?_
               refine aw_one 4 rfl (by kernel_rfl) (.yes (d := 58) rfl rfl (congrArg Value.bool (decide_eq_false (not_not_intro hb91)))) (oe_callf (vs := [.agg #[.int .u64 (wv3 zd6), .int .u64 (wv2 zd6), .int .u64 (wv1 zd6), .int .u64 (wv0 zd6)]]) co17 (ar1 (T rfl rfl)) (iWideSign_ok (x := zd6) hz7 ) ?_)
               rintro _ w92 ⟨rfl, e93⟩
               have E94 := below_ext E88 E88.size e93
               have := sgnI_rg zd6
               have H95 := (e93.blk H89)
               have H96 := (e93.blk H90)
               refine ⟨.inr ⟨H95, H96⟩, ?_⟩
               refine aw_pure 5 (.bool (decide ((sgnI zd6) = 0))) rfl (by kernel_rfl) (.yes (d := 58) rfl rfl (congrArg Value.bool (decide_eq_false (not_not_intro hb91)))) ⟨H95, H96⟩ (fun _ => dv_eql (a := sgnI zd6) (b := 0) (T rfl rfl) C) ?_
               refine aw_pure 6 (.bool (decide ((sgnI zd6) = 0))) rfl (by kernel_rfl) .none ⟨H95, H96⟩ (fun _ => dv_pick_f (T rfl (congrArg Value.bool (decide_eq_false (not_not_intro hb91)))) (T rfl rfl)) ?_
               refine aw_pure 7 (.bool (decide ((sgnI zd6) = 0))) rfl (by kernel_rfl) .none ⟨H95, H96⟩ (fun _ => dv_move (T rfl rfl)) ?_
               by_cases hb97 : (sgnI zd6) = 0
               · refine aw_no 8 rfl (by kernel_rfl) (d := 63) rfl rfl (congrArg Value.bool (decide_eq_true hb97)) ⟨H95, H96⟩ ?_
                 refine aw_no 9 rfl (by kernel_rfl) (d := 63) rfl rfl (congrArg Value.bool (decide_eq_true hb97)) ⟨H95, H96⟩ ?_
                 refine aw_no 10 rfl (by kernel_rfl) (d := 63) rfl rfl (congrArg Value.bool (decide_eq_true hb97)) ⟨H95, H96⟩ ?_
                 refine aw_no 11 rfl (by kernel_rfl) (d := 63) rfl rfl (congrArg Value.bool (decide_eq_true hb97)) ⟨H95, H96⟩ ?_
                 refine aw_no 12 rfl (by kernel_rfl) (d := 63) rfl rfl (congrArg Value.bool (decide_eq_true hb97)) ⟨H95, H96⟩ ?_
                 refine aw_no 13 rfl (by kernel_rfl) (d := 63) rfl rfl (congrArg Value.bool (decide_eq_true hb97)) ⟨H95, H96⟩ ?_
                 refine aw_pure 14 (.bool true) rfl (by kernel_rfl) .none ⟨H95, H96⟩ (fun _ => dv_pick_t (T rfl (congrArg Value.bool (decide_eq_true hb97))) C) ?_
                 refine aw_last 15 (.bool true) rfl (by kernel_rfl) .none (fun _ => dv_assign (T rfl rfl)) ?_
                 refine aw_done (by kernel_rfl) ?_
                 refine rk_ret Try.func7 (v := .bool true) (res1 Try.results7 (rv_tmp rfl rfl)) ⟨_, rfl, ?_⟩
                 exact ⟨rfl, E94⟩
               · refine aw_load 8 (.agg #[.int .u64 (wv3 (fz (zd6 + zd6))), .int .u64 (wv2 (fz (zd6 + zd6))), .int .u64 (wv1 (fz (zd6 + zd6))), .int .u64 (wv0 (fz (zd6 + zd6)))]) rfl (by kernel_rfl) (.yes (d := 63) rfl rfl (congrArg Value.bool (decide_eq_false hb97))) ⟨H95, H96⟩ (fun _ s => dv_loads (l := [.int .u64 (wv3 (fz (zd6 + zd6))), .int .u64 (wv2 (fz (zd6 + zd6))), .int .u64 (wv1 (fz (zd6 + zd6))), .int .u64 (wv0 (fz (zd6 + zd6)))]) agt26 sz26 (T rfl rfl) s.2 rfl) ?_
                 refine aw_load 10 (.agg #[.int .u64 (wv3 zd6), .int .u64 (wv2 zd6), .int .u64 (wv1 zd6), .int .u64 (wv0 zd6)]) rfl (by kernel_rfl) (.yes (d := 63) rfl rfl (congrArg Value.bool (decide_eq_false hb97))) ⟨H95, H96⟩ (fun _ s => dv_loads (l := [.int .u64 (wv3 zd6), .int .u64 (wv2 zd6), .int .u64 (wv1 zd6), .int .u64 (wv0 zd6)]) agt26 sz26 (T rfl rfl) s.1 rfl) ?_
                 refine aw_one 9 rfl (by kernel_rfl) (.yes (d := 63) rfl rfl (congrArg Value.bool (decide_eq_false hb97))) (oe_callf (vs := [.agg #[.int .u64 (wv3 (fz (zd6 + zd6))), .int .u64 (wv2 (fz (zd6 + zd6))), .int .u64 (wv1 (fz (zd6 + zd6))), .int .u64 (wv0 (fz (zd6 + zd6)))]]) co34 (ar1 (T rfl rfl)) (iWideBits_ok (x := fz (zd6 + zd6)) (fz_f _) ) ?_)
                 rintro _ w98 ⟨rfl, e99⟩
                 have E100 := below_ext E94 E94.size e99
                 have := nb_fits ((fz_f _) : fits (fz (zd6 + zd6)))
                 have H101 := (e99.blk H95)
                 have H102 := (e99.blk H96)
                 refine ⟨.inr ⟨H101, H102⟩, ?_⟩
                 refine aw_one 11 rfl (by kernel_rfl) (.yes (d := 63) rfl rfl (congrArg Value.bool (decide_eq_false hb97))) (oe_callf (vs := [.agg #[.int .u64 (wv3 zd6), .int .u64 (wv2 zd6), .int .u64 (wv1 zd6), .int .u64 (wv0 zd6)]]) co34 (ar1 (T rfl rfl)) (iWideBits_ok (x := zd6) hz7 ) ?_)
                 rintro _ w103 ⟨rfl, e104⟩
                 have E105 := below_ext E100 E100.size e104
                 have := nb_fits (hz7 : fits zd6)
                 have H106 := (e104.blk H101)
                 have H107 := (e104.blk H102)
                 refine ⟨.inr ⟨H106, H107⟩, ?_⟩
                 refine aw_pure 12 (.int .i64 (((nbits zd6.natAbs : Int)) + 1)) rfl (by kernel_rfl) (.yes (d := 63) rfl rfl (congrArg Value.bool (decide_eq_false hb97))) ⟨H106, H107⟩ (fun _ => dv_add (a := (nbits zd6.natAbs : Int)) (b := 1) (z := ((nbits zd6.natAbs : Int)) + 1) (T rfl rfl) C (wr_i64 (by omega) (by omega))) ?_
                 refine aw_pure 13 (.bool (decide (((nbits (fz (zd6 + zd6)).natAbs : Int)) = (((nbits zd6.natAbs : Int)) + 1)))) rfl (by kernel_rfl) (.yes (d := 63) rfl rfl (congrArg Value.bool (decide_eq_false hb97))) ⟨H106, H107⟩ (fun _ => dv_eql (a := (nbits (fz (zd6 + zd6)).natAbs : Int)) (b := ((nbits zd6.natAbs : Int)) + 1) (T rfl rfl) (T rfl rfl)) ?_
                 refine aw_pure 14 (.bool (decide (((nbits (fz (zd6 + zd6)).natAbs : Int)) = (((nbits zd6.natAbs : Int)) + 1)))) rfl (by kernel_rfl) .none ⟨H106, H107⟩ (fun _ => dv_pick_f (T rfl (congrArg Value.bool (decide_eq_false hb97))) (T rfl rfl)) ?_
                 refine aw_last 15 (.bool (decide (((nbits (fz (zd6 + zd6)).natAbs : Int)) = (((nbits zd6.natAbs : Int)) + 1)))) rfl (by kernel_rfl) .none (fun _ => dv_assign (T rfl rfl)) ?_
                 refine aw_done (by kernel_rfl) ?_
                 refine rk_ret Try.func7 (v := .bool (decide (((nbits (fz (zd6 + zd6)).natAbs : Int)) = (((nbits zd6.natAbs : Int)) + 1)))) (res1 Try.results7 (rv_tmp rfl rfl)) ⟨_, rfl, ?_⟩
                 skip
                 exact ⟨(vbt (by exact cT2 hb91 hb97)), E105⟩
             · refine aw_no 3 rfl (by kernel_rfl) (d := 58) rfl rfl (congrArg Value.bool (decide_eq_true hb91)) ⟨H89, H90⟩ ?_
               refine aw_no 4 rfl (by kernel_rfl) (d := 58) rfl rfl (congrArg Value.bool (decide_eq_true hb91)) ⟨H89, H90⟩ ?_
               refine aw_no 5 rfl (by kernel_rfl) (d := 58) rfl rfl (congrArg Value.bool (decide_eq_true hb91)) ⟨H89, H90⟩ ?_
               refine aw_pure 6 (.bool true) rfl (by kernel_rfl) .none ⟨H89, H90⟩ (fun _ => dv_pick_t (T rfl (congrArg Value.bool (decide_eq_true hb91))) C) ?_
               refine aw_pure 7 (.bool true) rfl (by kernel_rfl) .none ⟨H89, H90⟩ (fun _ => dv_move (T rfl rfl)) ?_
               refine aw_no 8 rfl (by kernel_rfl) (d := 63) rfl rfl (rfl) ⟨H89, H90⟩ ?_
               refine aw_no 9 rfl (by kernel_rfl) (d := 63) rfl rfl (rfl) ⟨H89, H90⟩ ?_
               refine aw_no 10 rfl (by kernel_rfl) (d := 63) rfl rfl (rfl) ⟨H89, H90⟩ ?_
               refine aw_no 11 rfl (by kernel_rfl) (d := 63) rfl rfl (rfl) ⟨H89, H90⟩ ?_
               refine aw_no 12 rfl (by kernel_rfl) (d := 63) rfl rfl (rfl) ⟨H89, H90⟩ ?_
               refine aw_no 13 rfl (by kernel_rfl) (d := 63) rfl rfl (rfl) ⟨H89, H90⟩ ?_
               refine aw_pure 14 (.bool true) rfl (by kernel_rfl) .none ⟨H89, H90⟩ (fun _ => dv_pick_t (T rfl rfl) C) ?_
               refine aw_last 15 (.bool true) rfl (by kernel_rfl) .none (fun _ => dv_assign (T rfl rfl)) ?_
               refine aw_done (by kernel_rfl) ?_
               refine rk_ret Try.func7 (v := .bool true) (res1 Try.results7 (rv_tmp rfl rfl)) ⟨_, rfl, ?_⟩
               exact ⟨rfl, E88⟩
         · refine lw_no (d := 44) rfl rfl (congrArg Value.bool (decide_eq_false hb67)) ?_
           refine lw_no (d := 44) rfl rfl (congrArg Value.bool (decide_eq_false hb67)) ?_
           refine lw_no (d := 44) rfl rfl (congrArg Value.bool (decide_eq_false hb67)) ?_
           refine lw_no (d := 44) rfl rfl (congrArg Value.bool (decide_eq_false hb67)) ?_
           refine lw_v (.bool false) (dv_pick_f (T rfl (congrArg Value.bool (decide_eq_false hb67))) C) ?_
           refine lw_nil ?_
           refine rk_cf (T rfl rfl) ?_
           refine rk_skip ?_
           refine rk_seq ?_
           refine rk_reg ?_
           have H108 := (s64.blk (n59.ext.blk (e55.blk (e52.blk H43))) (by omega))
           refine lw_v (.agg #[.int .u64 (wv3 zd6), .int .u64 (wv2 zd6), .int .u64 (wv1 zd6), .int .u64 (wv0 zd6)]) (dv_loads (l := [.int .u64 (wv3 zd6), .int .u64 (wv2 zd6), .int .u64 (wv1 zd6), .int .u64 (wv0 zd6)]) agt26 sz26 (T rfl rfl) H108 rfl) ?_
           refine lw_v (.agg #[.int .u64 (wv3 zd6), .int .u64 (wv2 zd6), .int .u64 (wv1 zd6), .int .u64 (wv0 zd6)]) (dv_loads (l := [.int .u64 (wv3 zd6), .int .u64 (wv2 zd6), .int .u64 (wv1 zd6), .int .u64 (wv0 zd6)]) agt26 sz26 (T rfl rfl) H108 rfl) ?_
           refine lw_e (oe_callf (vs := [.agg #[.int .u64 (wv3 zd6), .int .u64 (wv2 zd6), .int .u64 (wv1 zd6), .int .u64 (wv0 zd6)], .agg #[.int .u64 (wv3 zd6), .int .u64 (wv2 zd6), .int .u64 (wv1 zd6), .int .u64 (wv0 zd6)]]) co19 (ar2 (T rfl rfl) (T rfl rfl)) (iWideAdd_ok (x := zd6) (y := zd6) hz7 hz7 ) ?_)
           rintro _ w109 ⟨rfl, e110⟩
           have E111 := below_ext E66 E66.size e110
           refine lw_v (.tuple #[.agg #[.int .u64 (wv3 (fz (zd6 + zd6))), .int .u64 (wv2 (fz (zd6 + zd6))), .int .u64 (wv1 (fz (zd6 + zd6))), .int .u64 (wv0 (fz (zd6 + zd6)))], .bool (decide (fits (zd6 + zd6)))]) (dv_move (T rfl rfl)) ?_
           refine lw_v (.agg #[.int .u64 (wv3 (fz (zd6 + zd6))), .int .u64 (wv2 (fz (zd6 + zd6))), .int .u64 (wv1 (fz (zd6 + zd6))), .int .u64 (wv0 (fz (zd6 + zd6)))]) (dv_extract (vs := #[.agg #[.int .u64 (wv3 (fz (zd6 + zd6))), .int .u64 (wv2 (fz (zd6 + zd6))), .int .u64 (wv1 (fz (zd6 + zd6))), .int .u64 (wv0 (fz (zd6 + zd6)))], .bool (decide (fits (zd6 + zd6)))]) (T rfl rfl) rfl) ?_
           refine lw_v (.bool (decide (fits (zd6 + zd6)))) (dv_extract (vs := #[.agg #[.int .u64 (wv3 (fz (zd6 + zd6))), .int .u64 (wv2 (fz (zd6 + zd6))), .int .u64 (wv1 (fz (zd6 + zd6))), .int .u64 (wv0 (fz (zd6 + zd6)))], .bool (decide (fits (zd6 + zd6)))]) (T rfl rfl) rfl) ?_
           refine lw_e (oe_alloc ze26 ?_)
           intro b112 w113 n114
           have N115 : w.heap.size ≤ b112 := n114.eq ▸ E111.size
           have H116 := (e110.blk H65)
           have : b57 < b112 := n114.eq ▸ lt_of_blk H116
           have E117 := below_ext E111 E111.size n114.ext
           refine lw_e (oe_store (v := .agg #[.int .u64 (wv3 (fz (zd6 + zd6))), .int .u64 (wv2 (fz (zd6 + zd6))), .int .u64 (wv1 (fz (zd6 + zd6))), .int .u64 (wv0 (fz (zd6 + zd6)))]) (vs := [.int .u64 (wv3 (fz (zd6 + zd6))), .int .u64 (wv2 (fz (zd6 + zd6))), .int .u64 (wv1 (fz (zd6 + zd6))), .int .u64 (wv0 (fz (zd6 + zd6)))]) (l := [.int .u64 (wv3 (fz (zd6 + zd6))), .int .u64 (wv2 (fz (zd6 + zd6))), .int .u64 (wv1 (fz (zd6 + zd6))), .int .u64 (wv0 (fz (zd6 + zd6)))]) (T rfl rfl) (T rfl rfl) sz26 rfl rfl rfl n114.blk rfl ?_)
           intro w118 s119 H120
           have E121 := below_st E117 N115 s119
           refine lw_v (.bool (decide (fits (zd6 + zd6)))) (dv_assign (T rfl rfl)) ?_
           refine lw_nil ?_
           refine rk_seq ?_
           refine rk_any (fun w => w.heap[b11]? = some (.cells #[.int .u64 (wv3 zd6), .int .u64 (wv2 zd6), .int .u64 (wv1 zd6), .int .u64 (wv0 zd6)] 26) ∧ w.heap[b112]? = some (.cells #[.int .u64 (wv3 (fz (zd6 + zd6))), .int .u64 (wv2 (fz (zd6 + zd6))), .int .u64 (wv1 (fz (zd6 + zd6))), .int .u64 (wv0 (fz (zd6 + zd6)))] 26)) [15] mo ?_
           intro w122 d123
           have E124 := below_ext E121 E121.size d123.ext
           have H125 := (d123.ext.blk (s119.blk (n114.ext.blk (e110.blk H108)) (by omega)))
           have H126 := (d123.ext.blk H120)
           refine aw_pure 0 (.bool (decide (fits (zd6 + zd6)))) rfl (by kernel_rfl) .none ⟨H125, H126⟩ (fun _ => dv_move (T rfl rfl)) ?_
           refine aw_pure 1 (.bool (decide (¬ (fits (zd6 + zd6))))) rfl (by kernel_rfl) .none ⟨H125, H126⟩ (fun _ => dv_notd (p := fits (zd6 + zd6)) (T rfl rfl)) ?_
           refine aw_pure 2 (.bool (decide (¬ (fits (zd6 + zd6))))) rfl (by kernel_rfl) .none ⟨H125, H126⟩ (fun _ => dv_move (T rfl rfl)) ?_
           by_cases hb127 : fits (zd6 + zd6)
           · refine aw_load 3 (.agg #[.int .u64 (wv3 zd6), .int .u64 (wv2 zd6), .int .u64 (wv1 zd6), .int .u64 (wv0 zd6)]) rfl (by kernel_rfl) (.yes (d := 58) rfl rfl (congrArg Value.bool (decide_eq_false (not_not_intro hb127)))) ⟨H125, H126⟩ (fun _ s => dv_loads (l := [.int .u64 (wv3 zd6), .int .u64 (wv2 zd6), .int .u64 (wv1 zd6), .int .u64 (wv0 zd6)]) agt26 sz26 (T rfl rfl) s.1 rfl) ?_
             refine aw_one 4 rfl (by kernel_rfl) (.yes (d := 58) rfl rfl (congrArg Value.bool (decide_eq_false (not_not_intro hb127)))) (oe_callf (vs := [.agg #[.int .u64 (wv3 zd6), .int .u64 (wv2 zd6), .int .u64 (wv1 zd6), .int .u64 (wv0 zd6)]]) co17 (ar1 (T rfl rfl)) (iWideSign_ok (x := zd6) hz7 ) ?_)
             rintro _ w128 ⟨rfl, e129⟩
             have E130 := below_ext E124 E124.size e129
             have := sgnI_rg zd6
             have H131 := (e129.blk H125)
             have H132 := (e129.blk H126)
             refine ⟨.inr ⟨H131, H132⟩, ?_⟩
             refine aw_pure 5 (.bool (decide ((sgnI zd6) = 0))) rfl (by kernel_rfl) (.yes (d := 58) rfl rfl (congrArg Value.bool (decide_eq_false (not_not_intro hb127)))) ⟨H131, H132⟩ (fun _ => dv_eql (a := sgnI zd6) (b := 0) (T rfl rfl) C) ?_
             refine aw_pure 6 (.bool (decide ((sgnI zd6) = 0))) rfl (by kernel_rfl) .none ⟨H131, H132⟩ (fun _ => dv_pick_f (T rfl (congrArg Value.bool (decide_eq_false (not_not_intro hb127)))) (T rfl rfl)) ?_
             refine aw_pure 7 (.bool (decide ((sgnI zd6) = 0))) rfl (by kernel_rfl) .none ⟨H131, H132⟩ (fun _ => dv_move (T rfl rfl)) ?_
             by_cases hb133 : (sgnI zd6) = 0
             · refine aw_no 8 rfl (by kernel_rfl) (d := 63) rfl rfl (congrArg Value.bool (decide_eq_true hb133)) ⟨H131, H132⟩ ?_
               refine aw_no 9 rfl (by kernel_rfl) (d := 63) rfl rfl (congrArg Value.bool (decide_eq_true hb133)) ⟨H131, H132⟩ ?_
               refine aw_no 10 rfl (by kernel_rfl) (d := 63) rfl rfl (congrArg Value.bool (decide_eq_true hb133)) ⟨H131, H132⟩ ?_
               refine aw_no 11 rfl (by kernel_rfl) (d := 63) rfl rfl (congrArg Value.bool (decide_eq_true hb133)) ⟨H131, H132⟩ ?_
               refine aw_no 12 rfl (by kernel_rfl) (d := 63) rfl rfl (congrArg Value.bool (decide_eq_true hb133)) ⟨H131, H132⟩ ?_
               refine aw_no 13 rfl (by kernel_rfl) (d := 63) rfl rfl (congrArg Value.bool (decide_eq_true hb133)) ⟨H131, H132⟩ ?_
               refine aw_pure 14 (.bool true) rfl (by kernel_rfl) .none ⟨H131, H132⟩ (fun _ => dv_pick_t (T rfl (congrArg Value.bool (decide_eq_true hb133))) C) ?_
               refine aw_last 15 (.bool true) rfl (by kernel_rfl) .none (fun _ => dv_assign (T rfl rfl)) ?_
               refine aw_done (by kernel_rfl) ?_
               refine rk_ret Try.func7 (v := .bool true) (res1 Try.results7 (rv_tmp rfl rfl)) ⟨_, rfl, ?_⟩
               exact ⟨rfl, E130⟩
             · refine aw_load 8 (.agg #[.int .u64 (wv3 (fz (zd6 + zd6))), .int .u64 (wv2 (fz (zd6 + zd6))), .int .u64 (wv1 (fz (zd6 + zd6))), .int .u64 (wv0 (fz (zd6 + zd6)))]) rfl (by kernel_rfl) (.yes (d := 63) rfl rfl (congrArg Value.bool (decide_eq_false hb133))) ⟨H131, H132⟩ (fun _ s => dv_loads (l := [.int .u64 (wv3 (fz (zd6 + zd6))), .int .u64 (wv2 (fz (zd6 + zd6))), .int .u64 (wv1 (fz (zd6 + zd6))), .int .u64 (wv0 (fz (zd6 + zd6)))]) agt26 sz26 (T rfl rfl) s.2 rfl) ?_
               refine aw_load 10 (.agg #[.int .u64 (wv3 zd6), .int .u64 (wv2 zd6), .int .u64 (wv1 zd6), .int .u64 (wv0 zd6)]) rfl (by kernel_rfl) (.yes (d := 63) rfl rfl (congrArg Value.bool (decide_eq_false hb133))) ⟨H131, H132⟩ (fun _ s => dv_loads (l := [.int .u64 (wv3 zd6), .int .u64 (wv2 zd6), .int .u64 (wv1 zd6), .int .u64 (wv0 zd6)]) agt26 sz26 (T rfl rfl) s.1 rfl) ?_
               refine aw_one 9 rfl (by kernel_rfl) (.yes (d := 63) rfl rfl (congrArg Value.bool (decide_eq_false hb133))) (oe_callf (vs := [.agg #[.int .u64 (wv3 (fz (zd6 + zd6))), .int .u64 (wv2 (fz (zd6 + zd6))), .int .u64 (wv1 (fz (zd6 + zd6))), .int .u64 (wv0 (fz (zd6 + zd6)))]]) co34 (ar1 (T rfl rfl)) (iWideBits_ok (x := fz (zd6 + zd6)) (fz_f _) ) ?_)
               rintro _ w134 ⟨rfl, e135⟩
               have E136 := below_ext E130 E130.size e135
               have := nb_fits ((fz_f _) : fits (fz (zd6 + zd6)))
               have H137 := (e135.blk H131)
               have H138 := (e135.blk H132)
               refine ⟨.inr ⟨H137, H138⟩, ?_⟩
               refine aw_one 11 rfl (by kernel_rfl) (.yes (d := 63) rfl rfl (congrArg Value.bool (decide_eq_false hb133))) (oe_callf (vs := [.agg #[.int .u64 (wv3 zd6), .int .u64 (wv2 zd6), .int .u64 (wv1 zd6), .int .u64 (wv0 zd6)]]) co34 (ar1 (T rfl rfl)) (iWideBits_ok (x := zd6) hz7 ) ?_)
               rintro _ w139 ⟨rfl, e140⟩
               have E141 := below_ext E136 E136.size e140
               have := nb_fits (hz7 : fits zd6)
               have H142 := (e140.blk H137)
               have H143 := (e140.blk H138)
               refine ⟨.inr ⟨H142, H143⟩, ?_⟩
               refine aw_pure 12 (.int .i64 (((nbits zd6.natAbs : Int)) + 1)) rfl (by kernel_rfl) (.yes (d := 63) rfl rfl (congrArg Value.bool (decide_eq_false hb133))) ⟨H142, H143⟩ (fun _ => dv_add (a := (nbits zd6.natAbs : Int)) (b := 1) (z := ((nbits zd6.natAbs : Int)) + 1) (T rfl rfl) C (wr_i64 (by omega) (by omega))) ?_
               refine aw_pure 13 (.bool (decide (((nbits (fz (zd6 + zd6)).natAbs : Int)) = (((nbits zd6.natAbs : Int)) + 1)))) rfl (by kernel_rfl) (.yes (d := 63) rfl rfl (congrArg Value.bool (decide_eq_false hb133))) ⟨H142, H143⟩ (fun _ => dv_eql (a := (nbits (fz (zd6 + zd6)).natAbs : Int)) (b := ((nbits zd6.natAbs : Int)) + 1) (T rfl rfl) (T rfl rfl)) ?_
               refine aw_pure 14 (.bool (decide (((nbits (fz (zd6 + zd6)).natAbs : Int)) = (((nbits zd6.natAbs : Int)) + 1)))) rfl (by kernel_rfl) .none ⟨H142, H143⟩ (fun _ => dv_pick_f (T rfl (congrArg Value.bool (decide_eq_false hb133))) (T rfl rfl)) ?_
               refine aw_last 15 (.bool (decide (((nbits (fz (zd6 + zd6)).natAbs : Int)) = (((nbits zd6.natAbs : Int)) + 1)))) rfl (by kernel_rfl) .none (fun _ => dv_assign (T rfl rfl)) ?_
               refine aw_done (by kernel_rfl) ?_
               refine rk_ret Try.func7 (v := .bool (decide (((nbits (fz (zd6 + zd6)).natAbs : Int)) = (((nbits zd6.natAbs : Int)) + 1)))) (res1 Try.results7 (rv_tmp rfl rfl)) ⟨_, rfl, ?_⟩
               skip
               exact ⟨(vbt (by exact cT2 hb127 hb133)), E141⟩
           · refine aw_no 3 rfl (by kernel_rfl) (d := 58) rfl rfl (congrArg Value.bool (decide_eq_true hb127)) ⟨H125, H126⟩ ?_
             refine aw_no 4 rfl (by kernel_rfl) (d := 58) rfl rfl (congrArg Value.bool (decide_eq_true hb127)) ⟨H125, H126⟩ ?_
             refine aw_no 5 rfl (by kernel_rfl) (d := 58) rfl rfl (congrArg Value.bool (decide_eq_true hb127)) ⟨H125, H126⟩ ?_
             refine aw_pure 6 (.bool true) rfl (by kernel_rfl) .none ⟨H125, H126⟩ (fun _ => dv_pick_t (T rfl (congrArg Value.bool (decide_eq_true hb127))) C) ?_
             refine aw_pure 7 (.bool true) rfl (by kernel_rfl) .none ⟨H125, H126⟩ (fun _ => dv_move (T rfl rfl)) ?_
             refine aw_no 8 rfl (by kernel_rfl) (d := 63) rfl rfl (rfl) ⟨H125, H126⟩ ?_
             refine aw_no 9 rfl (by kernel_rfl) (d := 63) rfl rfl (rfl) ⟨H125, H126⟩ ?_
             refine aw_no 10 rfl (by kernel_rfl) (d := 63) rfl rfl (rfl) ⟨H125, H126⟩ ?_
             refine aw_no 11 rfl (by kernel_rfl) (d := 63) rfl rfl (rfl) ⟨H125, H126⟩ ?_
             refine aw_no 12 rfl (by kernel_rfl) (d := 63) rfl rfl (rfl) ⟨H125, H126⟩ ?_
             refine aw_no 13 rfl (by kernel_rfl) (d := 63) rfl rfl (rfl) ⟨H125, H126⟩ ?_
             refine aw_pure 14 (.bool true) rfl (by kernel_rfl) .none ⟨H125, H126⟩ (fun _ => dv_pick_t (T rfl rfl) C) ?_
             refine aw_last 15 (.bool true) rfl (by kernel_rfl) .none (fun _ => dv_assign (T rfl rfl)) ?_
             refine aw_done (by kernel_rfl) ?_
             refine rk_ret Try.func7 (v := .bool true) (res1 Try.results7 (rv_tmp rfl rfl)) ⟨_, rfl, ?_⟩
             exact ⟨rfl, E124⟩
     · refine lw_no (d := 31) rfl rfl (congrArg Value.bool (decide_eq_true hb41)) ?_
       refine lw_no (d := 31) rfl rfl (congrArg Value.bool (decide_eq_true hb41)) ?_
       refine lw_no (d := 31) rfl rfl (congrArg Value.bool (decide_eq_true hb41)) ?_
       refine lw_v (.bool true) (dv_pick_t (T rfl (congrArg Value.bool (decide_eq_true hb41))) C) ?_
       refine lw_nil ?_
       refine rk_ct (T rfl rfl) ?_
       refine rk_seq ?_
       refine rk_reg ?_
       refine lw_v (.bool false) (dv_assign C) ?_
       refine lw_nil ?_
       refine rk_ret Try.func7 (v := .bool false) (res1 Try.results7 (rv_tmp rfl rfl)) ⟨_, rfl, ?_⟩
       skip
       exact ⟨(by exfalso; exact hb41 (rdS_txt hz7).1), E39⟩
end Go.Proofs.Ytfmkadgjoechnaa.W
