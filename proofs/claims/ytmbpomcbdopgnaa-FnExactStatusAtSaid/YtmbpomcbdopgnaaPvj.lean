/- Walks and plain mathematics, packed by a program of this session: declarations that the rows reach. -/
import Derived.Test.YtmbpomcbdopgnaaPvi
set_option linter.unusedVariables false
set_option linter.unusedSimpArgs false
namespace Go.Proofs.Ytmbpomcbdopgnaa.W
open Go Go.RowKit Go.Proofs.Ytmbpomcbdopgnaa.Fw
attribute [local irreducible] RunK LW AW DV OE Ct
theorem co121 : callOk Try.prog 121 = true := by kernel_rfl
theorem co141 : callOk Try.prog 141 = true := by kernel_rfl
theorem co142 : callOk Try.prog 142 = true := by kernel_rfl
theorem co151 : callOk Try.prog 151 = true := by kernel_rfl
theorem co152 : callOk Try.prog 152 = true := by kernel_rfl
set_option maxHeartbeats 1000000 in
theorem swapR_ok {w : World} {g l c gn : Nat} {cb : Array Value} {L : List Int} {a b n : Nat} (hO : Ow w g 2 .i64 (some ⟨g, 0, none⟩) c L) (hLl : L.length = l) (hl : l ≤ 1048576) (hab : a + n ≤ b) (hb : b + n ≤ l) : Ct Try.prog 152 [.slice (some ⟨g, 0, none⟩) l c, .int .i64 ((a : Int)), .int .i64 ((b : Int)), .int .i64 ((n : Int)), .func (.func gn) #[] cb] w fun v w1 => ∃ M, v = .tuple #[] ∧ Bx g w w1 ∧ Ow w1 g 2 .i64 (some ⟨g, 0, none⟩) c M ∧ M.length = l ∧ gF M = srF (gF L) a b n := by
 refine ct_run (n := 38) Try.func152 rfl Try.ntmps152 rfl ?_
 have E0 : Bx g w w := Bx.refl _ _
 refine rk_seq <| rk_reg <| lw_v (qi 0) (dv_assign C) <| lw_nil <| rk_block <| rk_loop (fun dm_ fr wl => ∃ (i : Nat) (M : List Int), dm_ = n - i ∧ fr 0 = .slice (some ⟨g, 0, none⟩) l c ∧ fr 1 = qi (a : Int) ∧ fr 2 = qi (b : Int) ∧ fr 3 = qi (n : Int) ∧ fr 10 = qi (i : Int) ∧ Bx g w wl ∧ Ow wl g 2 .i64 (some ⟨g, 0, none⟩) c M ∧ (i ≤ n) ∧ (M.length = l) ∧ (gF M = srF (gF L) a b i)) (n - 0) ⟨0, L, rfl, rfl, rfl, rfl, rfl, (vi (by omega)), E0, hO, (Nat.zero_le _), hLl, (srF_0 _ _ _).symm⟩ ?_
 intro d5 fr4 w1 hI2 ih3
 obtain ⟨i, M, hd13, f6, f7, f8, f9, f10, E11, h12, hi, hMl, hMf⟩ := hI2
 refine rk_seq <| rk_seq <| rk_reg <| qm (qi (i : Int)) rfl f10 <| qm (qi (n : Int)) rfl f9 <| lw_v _ (dv_lss (a := (i : Int)) (b := (n : Int)) (Z rfl) (Z rfl)) <| lw_nil ?_
 by_cases hb14 : ((i : Int)) < ((n : Int))
 · refine rk_ct (T rfl (qT hb14)) <| rk_skip <| rk_seq <| rk_block <| rk_st2 21 23 [.slice (some ⟨g, 0, none⟩) l c, qi (a : Int), qi (i : Int), qi ((a : Int) + (i : Int)), .slice (some ⟨g, 0, none⟩) l c, qi (b : Int), qi (i : Int), qi ((b : Int) + (i : Int)), .slice (some ⟨g, 0, none⟩) l c, qi (b : Int), qi (i : Int), qi ((b : Int) + (i : Int)), .pointer (some ⟨g, 0 + (((b) + (i))), none⟩), qi (M.getD (((b) + (i))) 0), .slice (some ⟨g, 0, none⟩) l c, qi (a : Int), qi (i : Int), qi ((a : Int) + (i : Int)), .pointer (some ⟨g, 0 + (((a) + (i))), none⟩), qi (M.getD (((a) + (i))) 0), .pointer (some ⟨g, 0 + (((a) + (i))), none⟩), undef, .pointer (some ⟨g, 0 + (((b) + (i))), none⟩), undef] (fun wk => ∃ wd, Drew w1 wd ∧ Bx g wd wk ∧ Ow wk g 2 .i64 (some ⟨g, 0, none⟩) c (M.set (((a) + (i))) (M.getD (((b) + (i))) 0))) (fun wk => ∃ wd, Drew w1 wd ∧ Bx g wd wk ∧ Ow wk g 2 .i64 (some ⟨g, 0, none⟩) c (((M.set (((a) + (i))) (M.getD (((b) + (i))) 0))).set (((b) + (i))) (M.getD (((a) + (i))) 0))) mo (by kernel_rfl) ?_ ?_
   · intro w15 d16
     have E17 := bx_ext E11 d16.ext
     refine ⟨?_, ?_, ?_, ?_, ?_, ?_, ?_, ?_, ?_, ?_, ?_, ?_, ?_, ?_, ?_, ?_, ?_, ?_, ?_, ?_, ?_, ?_, ?_, ?_, trivial⟩
     · intro fr18 w19 hB20 hM21 hF22 hD23
       obtain rfl := hB20 (.inr (by kernel_rfl))
       exact DV.oe (dv_move (T rfl ((hF22 0 (by kernel_rfl)).trans f6))) (by rw [if_neg (by decide), if_neg (by decide)]; exact ⟨rfl, rfl⟩)
     · intro fr24 w25 hB26 hM27 hF28 hD29
       obtain rfl := hB26 (.inr (by kernel_rfl))
       exact DV.oe (dv_move (T rfl ((hF28 1 (by kernel_rfl)).trans f7))) (by rw [if_neg (by decide), if_neg (by decide)]; exact ⟨rfl, rfl⟩)
     · intro fr30 w31 hB32 hM33 hF34 hD35
       obtain rfl := hB32 (.inr (by kernel_rfl))
       exact DV.oe (dv_move (T rfl ((hF34 10 (by kernel_rfl)).trans f10))) (by rw [if_neg (by decide), if_neg (by decide)]; exact ⟨rfl, rfl⟩)
     · intro fr36 w37 hB38 hM39 hF40 hD41
       obtain rfl := hB38 (.inr (by kernel_rfl))
       have hv42 : fr36 17 = qi (a : Int) := hD41 1 _ (by decide) rfl (by kernel_rfl)
       have hv43 : fr36 18 = qi (i : Int) := hD41 2 _ (by decide) rfl (by kernel_rfl)
       exact DV.oe (dv_add (a := (a : Int)) (b := (i : Int)) (z := ((a : Int)) + ((i : Int))) (T rfl hv42) (T rfl hv43) (wr_i64 (by omega) (by omega))) (by rw [if_neg (by decide), if_neg (by decide)]; exact ⟨rfl, rfl⟩)
     · intro fr44 w45 hB46 hM47 hF48 hD49
       exact DV.oe (dv_move (T rfl ((hF48 0 (by kernel_rfl)).trans f6))) (by rw [if_neg (by decide), if_neg (by decide)]; exact ⟨rfl, rfl⟩)
     · intro fr50 w51 hB52 hM53 hF54 hD55
       exact DV.oe (dv_move (T rfl ((hF54 2 (by kernel_rfl)).trans f8))) (by rw [if_neg (by decide), if_neg (by decide)]; exact ⟨rfl, rfl⟩)
     · intro fr56 w57 hB58 hM59 hF60 hD61
       exact DV.oe (dv_move (T rfl ((hF60 10 (by kernel_rfl)).trans f10))) (by rw [if_neg (by decide), if_neg (by decide)]; exact ⟨rfl, rfl⟩)
     · intro fr62 w63 hB64 hM65 hF66 hD67
       have hv68 : fr62 21 = qi (b : Int) := hD67 5 _ (by decide) rfl (by kernel_rfl)
       have hv69 : fr62 22 = qi (i : Int) := hD67 6 _ (by decide) rfl (by kernel_rfl)
       exact DV.oe (dv_add (a := (b : Int)) (b := (i : Int)) (z := ((b : Int)) + ((i : Int))) (T rfl hv68) (T rfl hv69) (wr_i64 (by omega) (by omega))) (by rw [if_neg (by decide), if_neg (by decide)]; exact ⟨rfl, rfl⟩)
     · intro fr70 w71 hB72 hM73 hF74 hD75
       obtain rfl := hB72 (.inr (by kernel_rfl))
       exact DV.oe (dv_move (T rfl ((hF74 0 (by kernel_rfl)).trans f6))) (by rw [if_neg (by decide), if_neg (by decide)]; exact ⟨rfl, rfl⟩)
     · intro fr76 w77 hB78 hM79 hF80 hD81
       obtain rfl := hB78 (.inr (by kernel_rfl))
       exact DV.oe (dv_move (T rfl ((hF80 2 (by kernel_rfl)).trans f8))) (by rw [if_neg (by decide), if_neg (by decide)]; exact ⟨rfl, rfl⟩)
     · intro fr82 w83 hB84 hM85 hF86 hD87
       obtain rfl := hB84 (.inr (by kernel_rfl))
       exact DV.oe (dv_move (T rfl ((hF86 10 (by kernel_rfl)).trans f10))) (by rw [if_neg (by decide), if_neg (by decide)]; exact ⟨rfl, rfl⟩)
     · intro fr88 w89 hB90 hM91 hF92 hD93
       obtain rfl := hB90 (.inr (by kernel_rfl))
       have hv94 : fr88 25 = qi (b : Int) := hD93 9 _ (by decide) rfl (by kernel_rfl)
       have hv95 : fr88 26 = qi (i : Int) := hD93 10 _ (by decide) rfl (by kernel_rfl)
       exact DV.oe (dv_add (a := (b : Int)) (b := (i : Int)) (z := ((b : Int)) + ((i : Int))) (T rfl hv94) (T rfl hv95) (wr_i64 (by omega) (by omega))) (by rw [if_neg (by decide), if_neg (by decide)]; exact ⟨rfl, rfl⟩)
     · intro fr96 w97 hB98 hM99 hF100 hD101
       obtain rfl := hB98 (.inr (by kernel_rfl))
       have hv102 : fr96 24 = .slice (some ⟨g, 0, none⟩) l c := hD101 8 _ (by decide) rfl (by kernel_rfl)
       have hv103 : fr96 27 = qi ((b : Int) + (i : Int)) := hD101 11 _ (by decide) rfl (by kernel_rfl)
       exact DV.oe (dv_indexW (g := g) (o := 0) (l := l) (c := c) (i := ((b) + (i))) (j := ((b : Int)) + ((i : Int))) us50 sz2 (T rfl hv102) (T rfl hv103) (by omega) (by first | omega | simp <;> omega)) (by rw [if_neg (by decide), if_neg (by decide)]; exact ⟨rfl, rfl⟩)
     · intro fr104 w105 hB106 hM107 hF108 hD109
       obtain rfl := hB106 (.inr (by kernel_rfl))
       have hv110 : fr104 28 = .pointer (some ⟨g, 0 + (((b) + (i))), none⟩) := hD109 12 _ (by decide) rfl (by kernel_rfl)
       have h111 := (h12.ext d16.ext)
       exact DV.oe (dv_load agt2 (T rfl hv110) (Wd.cell h111.wd (by first | omega | simp <;> omega))) (by rw [if_neg (by decide), if_neg (by decide)]; exact ⟨rfl, rfl⟩)
     · intro fr112 w113 hB114 hM115 hF116 hD117
       exact DV.oe (dv_move (T rfl ((hF116 0 (by kernel_rfl)).trans f6))) (by rw [if_neg (by decide), if_neg (by decide)]; exact ⟨rfl, rfl⟩)
     · intro fr118 w119 hB120 hM121 hF122 hD123
       exact DV.oe (dv_move (T rfl ((hF122 1 (by kernel_rfl)).trans f7))) (by rw [if_neg (by decide), if_neg (by decide)]; exact ⟨rfl, rfl⟩)
     · intro fr124 w125 hB126 hM127 hF128 hD129
       exact DV.oe (dv_move (T rfl ((hF128 10 (by kernel_rfl)).trans f10))) (by rw [if_neg (by decide), if_neg (by decide)]; exact ⟨rfl, rfl⟩)
     · intro fr130 w131 hB132 hM133 hF134 hD135
       have hv136 : fr130 31 = qi (a : Int) := hD135 15 _ (by decide) rfl (by kernel_rfl)
       have hv137 : fr130 32 = qi (i : Int) := hD135 16 _ (by decide) rfl (by kernel_rfl)
       exact DV.oe (dv_add (a := (a : Int)) (b := (i : Int)) (z := ((a : Int)) + ((i : Int))) (T rfl hv136) (T rfl hv137) (wr_i64 (by omega) (by omega))) (by rw [if_neg (by decide), if_neg (by decide)]; exact ⟨rfl, rfl⟩)
     · intro fr138 w139 hB140 hM141 hF142 hD143
       have hv144 : fr138 30 = .slice (some ⟨g, 0, none⟩) l c := hD143 14 _ (by decide) rfl (by kernel_rfl)
       have hv145 : fr138 33 = qi ((a : Int) + (i : Int)) := hD143 17 _ (by decide) rfl (by kernel_rfl)
       exact DV.oe (dv_indexW (g := g) (o := 0) (l := l) (c := c) (i := ((a) + (i))) (j := ((a : Int)) + ((i : Int))) us50 sz2 (T rfl hv144) (T rfl hv145) (by omega) (by first | omega | simp <;> omega)) (by rw [if_neg (by decide), if_neg (by decide)]; exact ⟨rfl, rfl⟩)
     · intro fr146 w147 hB148 hM149 hF150 hD151
       obtain rfl := hB148 (.inr (by kernel_rfl))
       have hv152 : fr146 34 = .pointer (some ⟨g, 0 + (((a) + (i))), none⟩) := hD151 18 _ (by decide) rfl (by kernel_rfl)
       have h153 := (h12.ext d16.ext)
       exact DV.oe (dv_load agt2 (T rfl hv152) (Wd.cell h153.wd (by first | omega | simp <;> omega))) (by rw [if_neg (by decide), if_neg (by decide)]; exact ⟨rfl, rfl⟩)
     · intro fr154 w155 hB156 hM157 hF158 hD159
       obtain rfl := hB156 (.inr (by kernel_rfl))
       have hv160 : fr154 16 = .slice (some ⟨g, 0, none⟩) l c := hD159 0 _ (by decide) rfl (by kernel_rfl)
       have hv161 : fr154 19 = qi ((a : Int) + (i : Int)) := hD159 3 _ (by decide) rfl (by kernel_rfl)
       exact DV.oe (dv_indexW (g := g) (o := 0) (l := l) (c := c) (i := ((a) + (i))) (j := ((a : Int)) + ((i : Int))) us50 sz2 (T rfl hv160) (T rfl hv161) (by omega) (by first | omega | simp <;> omega)) (by rw [if_neg (by decide), if_neg (by decide)]; exact ⟨rfl, rfl⟩)
     · intro fr162 w163 hB164 hM165 hF166 hD167
       obtain rfl := hB164 (.inl rfl)
       have hv168 : fr162 29 = qi (M.getD (((b) + (i))) 0) := hD167 13 _ (by decide) rfl (by kernel_rfl)
       have hv169 : fr162 36 = .pointer (some ⟨g, 0 + (((a) + (i))), none⟩) := hD167 20 _ (by decide) rfl (by kernel_rfl)
       have h170 := (h12.ext d16.ext)
       refine oe_storeOwS (base := g) (L := M) (g := g) (o := 0) (i := ((a) + (i))) (z := M.getD (((b) + (i))) 0) sz2 (T rfl hv169) (T rfl hv168) h170 (by first | omega | simp <;> omega) ?_
       intro w171 hO172 x173 hs174
       have E175 := E17.trans (bx_st (Bx.refl _ _) hs174)
       rw [if_pos rfl]
       exact ⟨_, d16, (bx_st (Bx.refl _ _) hs174), hO172⟩
     · intro fr176 w177 hB178 hM179 hF180 hD181
       have hv182 : fr176 20 = .slice (some ⟨g, 0, none⟩) l c := hD181 4 _ (by decide) rfl (by kernel_rfl)
       have hv183 : fr176 23 = qi ((b : Int) + (i : Int)) := hD181 7 _ (by decide) rfl (by kernel_rfl)
       exact DV.oe (dv_indexW (g := g) (o := 0) (l := l) (c := c) (i := ((b) + (i))) (j := ((b : Int)) + ((i : Int))) us50 sz2 (T rfl hv182) (T rfl hv183) (by omega) (by first | omega | simp <;> omega)) (by rw [if_neg (by decide), if_neg (by decide)]; exact ⟨rfl, rfl⟩)
     intro fr184 w185 hB186 hM187 hF188 hD189
     obtain ⟨w190, d191, x192, hO193⟩ := hM187 rfl
     have E194 := bx_ext E11 d191.ext
     have E195 := E194.trans x192
     have hv196 : fr184 35 = qi (M.getD (((a) + (i))) 0) := hD189 19 _ (by decide) rfl (by kernel_rfl)
     have hv197 : fr184 37 = .pointer (some ⟨g, 0 + (((b) + (i))), none⟩) := hD189 22 _ (by decide) rfl (by kernel_rfl)
     refine oe_storeOwS (base := g) (L := (M.set (((a) + (i))) (M.getD (((b) + (i))) 0))) (g := g) (o := 0) (i := ((b) + (i))) (z := M.getD (((a) + (i))) 0) sz2 (T rfl hv197) (T rfl hv196) hO193 (by first | omega | simp <;> omega) ?_
     intro w198 hO199 x200 hs201
     have E202 := E195.trans (bx_st (Bx.refl _ _) hs201)
     rw [if_neg (by decide), if_pos rfl]
     exact ⟨_, d191, x192.trans (bx_st (Bx.refl _ _) hs201), hO199⟩
   intro fr203 w204 hK205 hF206 hP207
   obtain ⟨w208, d209, x210, hO211⟩ := hK205
   have E212 := bx_ext E11 d209.ext
   have E213 := E212.trans x210
   obtain ⟨p214, p215, p216, p217, p218, p219, p220, p221, p222, p223, p224, p225, p226, p227, p228, p229, p230, p231, p232, p233, p234, _, p235, _, _⟩ := hP207
   have hv236 : fr203 16 = .slice (some ⟨g, 0, none⟩) l c := p214.resolve_left (by decide)
   have hv237 : fr203 17 = qi (a : Int) := p215.resolve_left (by decide)
   have hv238 : fr203 18 = qi (i : Int) := p216.resolve_left (by decide)
   have hv239 : fr203 19 = qi ((a : Int) + (i : Int)) := p217.resolve_left (by decide)
   have hv240 : fr203 20 = .slice (some ⟨g, 0, none⟩) l c := p218.resolve_left (by decide)
   have hv241 : fr203 21 = qi (b : Int) := p219.resolve_left (by decide)
   have hv242 : fr203 22 = qi (i : Int) := p220.resolve_left (by decide)
   have hv243 : fr203 23 = qi ((b : Int) + (i : Int)) := p221.resolve_left (by decide)
   have hv244 : fr203 24 = .slice (some ⟨g, 0, none⟩) l c := p222.resolve_left (by decide)
   have hv245 : fr203 25 = qi (b : Int) := p223.resolve_left (by decide)
   have hv246 : fr203 26 = qi (i : Int) := p224.resolve_left (by decide)
   have hv247 : fr203 27 = qi ((b : Int) + (i : Int)) := p225.resolve_left (by decide)
   have hv248 : fr203 28 = .pointer (some ⟨g, 0 + (((b) + (i))), none⟩) := p226.resolve_left (by decide)
   have hv249 : fr203 29 = qi (M.getD (((b) + (i))) 0) := p227.resolve_left (by decide)
   have hv250 : fr203 30 = .slice (some ⟨g, 0, none⟩) l c := p228.resolve_left (by decide)
   have hv251 : fr203 31 = qi (a : Int) := p229.resolve_left (by decide)
   have hv252 : fr203 32 = qi (i : Int) := p230.resolve_left (by decide)
   have hv253 : fr203 33 = qi ((a : Int) + (i : Int)) := p231.resolve_left (by decide)
   have hv254 : fr203 34 = .pointer (some ⟨g, 0 + (((a) + (i))), none⟩) := p232.resolve_left (by decide)
   have hv255 : fr203 35 = qi (M.getD (((a) + (i))) 0) := p233.resolve_left (by decide)
   have hv256 : fr203 36 = .pointer (some ⟨g, 0 + (((a) + (i))), none⟩) := p234.resolve_left (by decide)
   have hv257 : fr203 37 = .pointer (some ⟨g, 0 + (((b) + (i))), none⟩) := p235.resolve_left (by decide)
   refine rk_inBlock <| rk_reg <| qm (qi (i : Int)) rfl ((hF206 10 rfl).trans f10) <| lw_v _ (dv_add (a := (i : Int)) (b := 1) (z := (i : Int) + 1) (Z rfl) C (wr_i64 (by omega) (by omega))) <| qs (qi ((i : Int) + 1)) rfl rfl <| lw_nil <| ih3 (n - (i + 1)) _ _ (by rw [hd13]; omega) ⟨(i + 1), (((M.set (((a) + (i))) (M.getD (((b) + (i))) 0))).set (((b) + (i))) (M.getD (((a) + (i))) 0)), rfl, ((hF206 0 rfl).trans f6), ((hF206 1 rfl).trans f7), ((hF206 2 rfl).trans f8), ((hF206 3 rfl).trans f9), (vi (by omega)), E213, hO211, (by omega), (by simp [hMl]), (by rw [gF_swap _ (by omega) (by omega), hMf, srF_step (n := n) hab (by omega)])⟩
 refine rk_cf (T rfl (qF hb14)) <| rk_exit rfl <| rk_end Try.func152 (v := .tuple #[]) (res0 Try.results152) ⟨_, rfl, ?_⟩
 obtain rfl : i = n := by omega
 exact ⟨M, rfl, E11, h12, hMl, hMf⟩
theorem swapR_c {w : World} {g l c gn : Nat} {cb : Array Value} {L : List Int} {a b n : Nat} (hO : Ow w g 2 .i64 (some ⟨g, 0, none⟩) c L) (hLl : L.length = l) (hl : l ≤ 1048576) (hab : a + n ≤ b) (hb : b + n ≤ l) {xa xb xn : Int} (ea : xa = (a : Int)) (eb : xb = (b : Int)) (en : xn = (n : Int)) : Ct Try.prog 152 [.slice (some ⟨g, 0, none⟩) l c, .int .i64 xa, .int .i64 xb, .int .i64 xn, .func (.func gn) #[] cb] w fun v w1 => ∃ M, v = .tuple #[] ∧ Bx g w w1 ∧ Ow w1 g 2 .i64 (some ⟨g, 0, none⟩) c M ∧ M.length = l ∧ gF M = srF (gF L) a b n := by
 subst ea eb en
 exact swapR_ok hO hLl hl hab hb
set_option maxHeartbeats 1000000 in
theorem rotR_ok {w : World} {g l c gn : Nat} {cb : Array Value} {L : List Int} {a m b : Nat} (hO : Ow w g 2 .i64 (some ⟨g, 0, none⟩) c L) (hLl : L.length = l) (hl : l ≤ 1048576) (ham : a < m) (hmb : m < b) (hb : b ≤ l) : Ct Try.prog 151 [.slice (some ⟨g, 0, none⟩) l c, .int .i64 ((a : Int)), .int .i64 ((m : Int)), .int .i64 ((b : Int)), .func (.func gn) #[] cb] w fun v w1 => ∃ M, v = .tuple #[] ∧ Bx g w w1 ∧ Ow w1 g 2 .i64 (some ⟨g, 0, none⟩) c M ∧ M.length = l ∧ gF M = roF (gF L) a m b := by
 refine ct_run (n := 58) Try.func151 rfl Try.ntmps151 rfl ?_
 have E0 : Bx g w w := Bx.refl _ _
 refine rk_seq <| rk_reg <| qm (qi (m : Int)) rfl rfl <| qm (qi (a : Int)) rfl rfl <| lw_v _ (dv_sub (a := (m : Int)) (b := (a : Int)) (z := (m : Int) - (a : Int)) (Z rfl) (Z rfl) (wr_i64 (by omega) (by omega))) <| qs (qi ((m : Int) - (a : Int))) rfl rfl <| qN <| qm (qi (b : Int)) rfl rfl <| qm (qi (m : Int)) rfl rfl <| lw_v _ (dv_sub (a := (b : Int)) (b := (m : Int)) (z := (b : Int) - (m : Int)) (Z rfl) (Z rfl) (wr_i64 (by omega) (by omega))) <| qs (qi ((b : Int) - (m : Int))) rfl rfl <| lw_nil <| rk_seq <| rk_block <| rk_loop (fun dm_ fr wl => ∃ (i j : Nat) (M : List Int), dm_ = i + j ∧ fr 0 = .slice (some ⟨g, 0, none⟩) l c ∧ fr 2 = qi (m : Int) ∧ fr 4 = .func (.func gn) #[] cb ∧ fr 10 = qi (i : Int) ∧ fr 11 = qi (j : Int) ∧ Bx g w wl ∧ Ow wl g 2 .i64 (some ⟨g, 0, none⟩) c M ∧ (0 < i ∧ i ≤ m - a) ∧ (0 < j ∧ j ≤ b - m) ∧ (M.length = l) ∧ (roF (gF M) (m - i) m (m + j) = roF (gF L) a m b)) ((m - a) + (b - m)) ⟨(m - a), (b - m), L, rfl, rfl, rfl, rfl, (vi (by omega)), (vi (by omega)), E0, hO, (by omega), (by omega), hLl, (by rw [show m - (m - a) = a by omega, show m + (b - m) = b by omega])⟩ ?_
 intro d5 fr4 w1 hI2 ih3
 obtain ⟨i, j, M, hd13, f6, f7, f8, f9, f10, E11, h12, hi, hj, hMl, hMf⟩ := hI2
 refine rk_seq <| rk_seq <| rk_reg <| qm (qi (i : Int)) rfl f9 <| qm (qi (j : Int)) rfl f10 <| lw_v _ (dv_neq (a := (i : Int)) (b := (j : Int)) (Z rfl) (Z rfl)) <| lw_nil ?_
 by_cases hb14 : ((i : Int)) ≠ ((j : Int))
 · refine rk_ct (T rfl (qT hb14)) <| rk_skip <| rk_block <| rk_seq <| rk_reg <| qm (qi (i : Int)) rfl f9 <| qm (qi (j : Int)) rfl f10 <| lw_v _ (dv_gtr (a := (i : Int)) (b := (j : Int)) (Z rfl) (Z rfl)) <| lw_nil ?_
   by_cases hb15 : ((j : Int)) < ((i : Int))
   · refine rk_ct (T rfl (qT hb15)) <| rk_seq <| rk_reg <| qm (.slice (some ⟨g, 0, none⟩) l c) rfl f6 <| qm (qi (m : Int)) rfl f7 <| qm (qi (i : Int)) rfl f9 <| lw_v _ (dv_sub (a := (m : Int)) (b := (i : Int)) (z := (m : Int) - (i : Int)) (Z rfl) (Z rfl) (wr_i64 (by omega) (by omega))) <| qm (qi (m : Int)) rfl f7 <| qm (qi (j : Int)) rfl f10 <| qm (.func (.func gn) #[] cb) rfl f8 <| lw_e (oe_callf (vs := [.slice (some ⟨g, 0, none⟩) l c, qi ((m : Int) - (i : Int)), qi (m : Int), qi (j : Int), .func (.func gn) #[] cb]) co152 (ar5 (Z rfl) (Z rfl) (Z rfl) (Z rfl) (Z rfl)) (swapR_c (a := (m) - (i)) (b := m) (n := j) h12 (by omega) hl (by omega) (by omega) (by omega) (by omega) (by omega)) ?_)
     rintro _ w20 ⟨M16, rfl, e21, hO17, hMl18, hMf19⟩
     have E22 := E11.trans e21
     refine lw_nil <| rk_reg <| qm (qi (i : Int)) rfl f9 <| qm (qi (j : Int)) rfl f10 <| lw_v _ (dv_sub (a := (i : Int)) (b := (j : Int)) (z := (i : Int) - (j : Int)) (Z rfl) (Z rfl) (wr_i64 (by omega) (by omega))) <| qs (qi ((i : Int) - (j : Int))) rfl rfl <| lw_nil <| rk_inBlock <| ih3 ((i - j) + j) _ _ (by rw [hd13]; omega) ⟨(i - j), j, M16, rfl, f6, f7, f8, (vi (by omega)), (f10.trans (vi (by omega))), E22, hO17, (by omega), (by omega), hMl18, (by rw [hMf19, show m - (i - j) = (m - i) + j by omega, roF_l (i := i) (j := j) (by omega) (by omega) (by omega) (by omega) (by omega) (by omega), hMf])⟩
   refine rk_cf (T rfl (qF hb15)) <| rk_seq <| rk_reg <| qm (.slice (some ⟨g, 0, none⟩) l c) rfl f6 <| qm (qi (m : Int)) rfl f7 <| qm (qi (i : Int)) rfl f9 <| lw_v _ (dv_sub (a := (m : Int)) (b := (i : Int)) (z := (m : Int) - (i : Int)) (Z rfl) (Z rfl) (wr_i64 (by omega) (by omega))) <| qm (qi (m : Int)) rfl f7 <| qm (qi (j : Int)) rfl f10 <| lw_v _ (dv_add (a := (m : Int)) (b := (j : Int)) (z := (m : Int) + (j : Int)) (Z rfl) (Z rfl) (wr_i64 (by omega) (by omega))) <| qm (qi (i : Int)) rfl f9 <| lw_v _ (dv_sub (a := (m : Int) + (j : Int)) (b := (i : Int)) (z := ((m : Int) + (j : Int)) - (i : Int)) (Z rfl) (Z rfl) (wr_i64 (by omega) (by omega))) <| qm (qi (i : Int)) rfl f9 <| qm (.func (.func gn) #[] cb) rfl f8 <| lw_e (oe_callf (vs := [.slice (some ⟨g, 0, none⟩) l c, qi ((m : Int) - (i : Int)), qi (((m : Int) + (j : Int)) - (i : Int)), qi (i : Int), .func (.func gn) #[] cb]) co152 (ar5 (Z rfl) (Z rfl) (Z rfl) (Z rfl) (Z rfl)) (swapR_c (a := (m) - (i)) (b := ((m) + (j)) - (i)) (n := i) h12 (by omega) hl (by omega) (by omega) (by omega) (by omega) (by omega)) ?_)
   rintro _ w27 ⟨M23, rfl, e28, hO24, hMl25, hMf26⟩
   have E29 := E11.trans e28
   refine lw_nil <| rk_reg <| qm (qi (j : Int)) rfl f10 <| qm (qi (i : Int)) rfl f9 <| lw_v _ (dv_sub (a := (j : Int)) (b := (i : Int)) (z := (j : Int) - (i : Int)) (Z rfl) (Z rfl) (wr_i64 (by omega) (by omega))) <| qs (qi ((j : Int) - (i : Int))) rfl rfl <| lw_nil <| rk_inBlock <| ih3 (i + (j - i)) _ _ (by rw [hd13]; omega) ⟨i, (j - i), M23, rfl, f6, f7, f8, (f9.trans (vi (by omega))), (vi (by omega)), E29, hO24, (by omega), (by omega), hMl25, (by rw [hMf26, show m + (j - i) = m + j - i by omega, roF_r (i := i) (j := j) (by omega) (by omega) (by omega) (by omega) (by omega) (by omega), hMf])⟩
 refine rk_cf (T rfl (qF hb14)) <| rk_exit rfl <| rk_reg <| qm (.slice (some ⟨g, 0, none⟩) l c) rfl f6 <| qm (qi (m : Int)) rfl f7 <| qm (qi (i : Int)) rfl f9 <| lw_v _ (dv_sub (a := (m : Int)) (b := (i : Int)) (z := (m : Int) - (i : Int)) (Z rfl) (Z rfl) (wr_i64 (by omega) (by omega))) <| qm (qi (m : Int)) rfl f7 <| qm (qi (i : Int)) rfl f9 <| qm (.func (.func gn) #[] cb) rfl f8 <| lw_e (oe_callf (vs := [.slice (some ⟨g, 0, none⟩) l c, qi ((m : Int) - (i : Int)), qi (m : Int), qi (i : Int), .func (.func gn) #[] cb]) co152 (ar5 (Z rfl) (Z rfl) (Z rfl) (Z rfl) (Z rfl)) (swapR_c (a := (m) - (i)) (b := m) (n := i) h12 (by omega) hl (by omega) (by omega) (by omega) (by omega) (by omega)) ?_)
 rintro _ w34 ⟨M30, rfl, e35, hO31, hMl32, hMf33⟩
 have E36 := E11.trans e35
 refine lw_nil <| rk_end Try.func151 (v := .tuple #[]) (res0 Try.results151) ⟨_, rfl, ?_⟩
 obtain rfl : i = j := by omega
 exact ⟨_, rfl, E36, hO31, hMl32, by rw [hMf33, roF_e (b := m + i) (by omega) (by omega) (by omega) (by omega), hMf]⟩
theorem rotR_c {w : World} {g l c gn : Nat} {cb : Array Value} {L : List Int} {a m b : Nat} (hO : Ow w g 2 .i64 (some ⟨g, 0, none⟩) c L) (hLl : L.length = l) (hl : l ≤ 1048576) (ham : a < m) (hmb : m < b) (hb : b ≤ l) {xa xm xb : Int} (ea : xa = (a : Int)) (em : xm = (m : Int)) (eb : xb = (b : Int)) : Ct Try.prog 151 [.slice (some ⟨g, 0, none⟩) l c, .int .i64 xa, .int .i64 xm, .int .i64 xb, .func (.func gn) #[] cb] w fun v w1 => ∃ M, v = .tuple #[] ∧ Bx g w w1 ∧ Ow w1 g 2 .i64 (some ⟨g, 0, none⟩) c M ∧ M.length = l ∧ gF M = roF (gF L) a m b := by
 subst ea em eb
 exact rotR_ok hO hLl hl ham hmb hb
set_option maxHeartbeats 1000000 in
theorem insS_ok {w : World} {g l c gn : Nat} {cb : Array Value} {L : List Int} {a b : Nat} (hO : Ow w g 2 .i64 (some ⟨g, 0, none⟩) c L) (hLl : L.length = l) (hl : l ≤ 1048576) (hab : a ≤ b) (hb : b ≤ l) {V : Int → Prop} {cf : Int → Int → Int} (hC : CmpOk Try.prog gn cb V cf g w) (hTO : TO V cf) (hV : ∀ k, k < l → V (gF L k)) (hI : inj (gF L) a b) : Ct Try.prog 141 [.slice (some ⟨g, 0, none⟩) l c, .int .i64 ((a : Int)), .int .i64 ((b : Int)), .func (.func gn) #[] cb] w fun v w1 => ∃ M, v = .tuple #[] ∧ Bx g w w1 ∧ Ow w1 g 2 .i64 (some ⟨g, 0, none⟩) c M ∧ M.length = l ∧ PM a b (gF L) (gF M) ∧ srt cf (gF M) a b := by
 refine ct_run (n := 53) Try.func141 rfl Try.ntmps141 rfl ?_
 have E0 : Bx g w w := Bx.refl _ _
 refine rk_seq <| rk_reg <| qm (qi (a : Int)) rfl rfl <| lw_v _ (dv_add (a := (a : Int)) (b := 1) (z := (a : Int) + 1) (Z rfl) C (wr_i64 (by omega) (by omega))) <| qs (qi ((a : Int) + 1)) rfl rfl <| lw_nil <| rk_block <| rk_loop (fun dm_ fr wl => ∃ (i : Nat) (M : List Int), dm_ = b - i ∧ fr 0 = .slice (some ⟨g, 0, none⟩) l c ∧ fr 1 = qi (a : Int) ∧ fr 2 = qi (b : Int) ∧ fr 3 = .func (.func gn) #[] cb ∧ fr 8 = qi (i : Int) ∧ Bx g w wl ∧ Ow wl g 2 .i64 (some ⟨g, 0, none⟩) c M ∧ (a < i ∧ (i ≤ b ∨ i = a + 1)) ∧ (M.length = l) ∧ (PM a b (gF L) (gF M)) ∧ (srt cf (gF M) a i)) (b - (a + 1)) ⟨(a + 1), L, rfl, rfl, rfl, rfl, rfl, (vi (by omega)), E0, hO, (by omega), hLl, (PM.refl _ _ _), (srt_1 (Nat.le_refl _))⟩ ?_
 intro d5 fr4 w1 hI2 ih3
 obtain ⟨i, M, hd13, f6, f7, f8, f9, f10, E11, h12, hi, hMl, hP, hS⟩ := hI2
 refine rk_seq <| rk_seq <| rk_reg <| qm (qi (i : Int)) rfl f10 <| qm (qi (b : Int)) rfl f8 <| lw_v _ (dv_lss (a := (i : Int)) (b := (b : Int)) (Z rfl) (Z rfl)) <| lw_nil ?_
 by_cases hb14 : ((i : Int)) < ((b : Int))
 · refine rk_ct (T rfl (qT hb14)) <| rk_skip <| rk_seq <| rk_block <| rk_seq <| rk_reg <| qm (qi (i : Int)) rfl f10 <| qs (qi (i : Int)) rfl rfl <| lw_nil <| rk_block <| rk_loop (fun dm_ fr wl => ∃ (j : Nat) (N : List Int), dm_ = j ∧ fr 0 = .slice (some ⟨g, 0, none⟩) l c ∧ fr 1 = qi (a : Int) ∧ fr 2 = qi (b : Int) ∧ fr 3 = .func (.func gn) #[] cb ∧ fr 8 = qi (i : Int) ∧ fr 9 = qi (j : Int) ∧ fr 12 = qi (i : Int) ∧ fr 13 = qi (b : Int) ∧ fr 14 = qd ((i : Int) < (b : Int)) ∧ fr 17 = qi (i : Int) ∧ Bx g w wl ∧ Ow wl g 2 .i64 (some ⟨g, 0, none⟩) c N ∧ (a ≤ j ∧ j ≤ i) ∧ (N.length = l) ∧ (PM a b (gF L) (gF N)) ∧ (insI cf (gF N) a i j)) (i) ⟨i, M, rfl, f6, f7, f8, f9, f10, (vi (by omega)), rfl, rfl, rfl, rfl, E11, h12, (by omega), hMl, hP, (insI_0 hS)⟩ ?_
   intro d19 fr18 w15 hI16 ih17
   obtain ⟨j, N, hd32, f20, f21, f22, f23, f24, f25, f26, f27, f28, f29, E30, h31, hj, hNl, hPN, hS2⟩ := hI16
   have hVN := hPN.V hb hV; have hIN := hPN.inj hI (Nat.le_refl _) (Nat.le_refl _)
   refine rk_seq <| rk_seq <| rk_any (fun w => Wd w 2 .i64 (some ⟨g, 0, none⟩) N) [] mo ?_
   intro w33 d34
   have E35 := bx_ext E30 d34.ext
   have h36 := (h31.ext d34.ext)
   refine aw_pure 0 (qi (j : Int)) rfl (by kernel_rfl) .none h36.wd (fun _ => dv_move (T rfl f25)) <| aw_pure 1 (qi (a : Int)) rfl (by kernel_rfl) .none h36.wd (fun _ => dv_move (T rfl f21)) <| aw_pure 2 (qd ((a : Int) < (j : Int))) rfl (by kernel_rfl) .none h36.wd (fun _ => dv_gtr (a := (j : Int)) (b := (a : Int)) (Z rfl) (Z rfl)) <| aw_pure 3 (qd ((a : Int) < (j : Int))) rfl (by kernel_rfl) .none h36.wd (fun _ => dv_move (Z rfl)) ?_
   by_cases hb37 : ((a : Int)) < ((j : Int))
   · refine aw_pure 4 (.func (.func gn) #[] cb) rfl (by kernel_rfl) (.yes (d := 21) rfl rfl (qT hb37)) h36.wd (fun _ => dv_move (T rfl f23)) <| aw_pure 5 (.slice (some ⟨g, 0, none⟩) l c) rfl (by kernel_rfl) (.yes (d := 21) rfl rfl (qT hb37)) h36.wd (fun _ => dv_move (T rfl f20)) <| aw_pure 6 (qi (j : Int)) rfl (by kernel_rfl) (.yes (d := 21) rfl rfl (qT hb37)) h36.wd (fun _ => dv_move (T rfl f25)) <| aw_pure 7 (.pointer (some ⟨g, 0 + j, none⟩)) rfl (by kernel_rfl) (.yes (d := 21) rfl rfl (qT hb37)) h36.wd (fun _ => dv_indexW (g := g) (o := 0) (l := l) (c := c) (i := j) (j := (j : Int)) us50 sz2 (Z rfl) (Z rfl) (by omega) (by first | omega | simp <;> omega)) <| aw_load 8 (qi (N.getD j 0)) rfl (by kernel_rfl) (.yes (d := 21) rfl rfl (qT hb37)) h36.wd (fun _ s => dv_load agt2 (Z rfl) (Wd.cell s (by first | omega | simp <;> omega))) <| aw_pure 9 (.slice (some ⟨g, 0, none⟩) l c) rfl (by kernel_rfl) (.yes (d := 21) rfl rfl (qT hb37)) h36.wd (fun _ => dv_move (T rfl f20)) <| aw_pure 10 (qi (j : Int)) rfl (by kernel_rfl) (.yes (d := 21) rfl rfl (qT hb37)) h36.wd (fun _ => dv_move (T rfl f25)) <| aw_pure 11 (qi ((j : Int) - 1)) rfl (by kernel_rfl) (.yes (d := 21) rfl rfl (qT hb37)) h36.wd (fun _ => dv_sub (a := (j : Int)) (b := 1) (z := (j : Int) - 1) (Z rfl) C (wr_i64 (by omega) (by omega))) <| aw_pure 12 (.pointer (some ⟨g, 0 + (((j) - 1)), none⟩)) rfl (by kernel_rfl) (.yes (d := 21) rfl rfl (qT hb37)) h36.wd (fun _ => dv_indexW (g := g) (o := 0) (l := l) (c := c) (i := ((j) - 1)) (j := (j : Int) - 1) us50 sz2 (Z rfl) (Z rfl) (by omega) (by first | omega | simp <;> omega)) <| aw_load 13 (qi (N.getD (((j) - 1)) 0)) rfl (by kernel_rfl) (.yes (d := 21) rfl rfl (qT hb37)) h36.wd (fun _ s => dv_load agt2 (Z rfl) (Wd.cell s (by first | omega | simp <;> omega))) <| aw_one 14 rfl (by kernel_rfl) (.yes (d := 21) rfl rfl (qT hb37)) (oe_callc (vs := [qi (N.getD j 0), qi (N.getD (((j) - 1)) 0)]) (Z rfl) hC.ok (ar2 (Z rfl) (Z rfl)) (hC.call _ _ _ (hVN j (by omega)) (hVN ((((j) - 1))) (by omega)) E35) ?_)
     rintro _ w38 ⟨rfl, e39⟩
     have E40 := bx_ext E35 e39
     have h41 := (h36.ext e39)
     refine ⟨.inr h41.wd, ?_⟩
     refine aw_pure 15 (qd ((cf (N.getD j 0) (N.getD (((j) - 1)) 0)) < 0)) rfl (by kernel_rfl) (.yes (d := 21) rfl rfl (qT hb37)) h41.wd (fun _ => dv_lss (a := cf (N.getD j 0) (N.getD (((j) - 1)) 0)) (b := 0) (Z rfl) C) <| aw_pure 16 (qd ((cf (N.getD j 0) (N.getD (((j) - 1)) 0)) < 0)) rfl (by kernel_rfl) .none h41.wd (fun _ => dv_pick_t (T rfl (qT hb37)) (Z rfl)) <| aw_done (by kernel_rfl) ?_
     by_cases hb42 : (cf (N.getD j 0) (N.getD (((j) - 1)) 0)) < 0
     · refine rk_ct (T rfl (qT hb42)) <| rk_skip <| rk_seq <| rk_block <| rk_st2 15 17 [.slice (some ⟨g, 0, none⟩) l c, qi (j : Int), .slice (some ⟨g, 0, none⟩) l c, qi (j : Int), qi ((j : Int) - 1), .slice (some ⟨g, 0, none⟩) l c, qi (j : Int), qi ((j : Int) - 1), .pointer (some ⟨g, 0 + (((j) - 1)), none⟩), qi (N.getD (((j) - 1)) 0), .slice (some ⟨g, 0, none⟩) l c, qi (j : Int), .pointer (some ⟨g, 0 + j, none⟩), qi (N.getD j 0), .pointer (some ⟨g, 0 + j, none⟩), undef, .pointer (some ⟨g, 0 + (((j) - 1)), none⟩), undef] (fun wk => ∃ wd, Drew w38 wd ∧ Bx g wd wk ∧ Ow wk g 2 .i64 (some ⟨g, 0, none⟩) c (N.set j (N.getD (((j) - 1)) 0))) (fun wk => ∃ wd, Drew w38 wd ∧ Bx g wd wk ∧ Ow wk g 2 .i64 (some ⟨g, 0, none⟩) c (((N.set j (N.getD (((j) - 1)) 0))).set (((j) - 1)) (N.getD j 0))) mo (by kernel_rfl) ?_ ?_
       · intro w43 d44
         have E45 := bx_ext E40 d44.ext
         refine ⟨?_, ?_, ?_, ?_, ?_, ?_, ?_, ?_, ?_, ?_, ?_, ?_, ?_, ?_, ?_, ?_, ?_, ?_, trivial⟩
         · intro fr46 w47 hB48 hM49 hF50 hD51
           obtain rfl := hB48 (.inr (by kernel_rfl))
           exact DV.oe (dv_move (T rfl ((hF50 0 (by kernel_rfl)).trans f20))) (by rw [if_neg (by decide), if_neg (by decide)]; exact ⟨rfl, rfl⟩)
         · intro fr52 w53 hB54 hM55 hF56 hD57
           obtain rfl := hB54 (.inr (by kernel_rfl))
           exact DV.oe (dv_move (T rfl ((hF56 9 (by kernel_rfl)).trans f25))) (by rw [if_neg (by decide), if_neg (by decide)]; exact ⟨rfl, rfl⟩)
         · intro fr58 w59 hB60 hM61 hF62 hD63
           exact DV.oe (dv_move (T rfl ((hF62 0 (by kernel_rfl)).trans f20))) (by rw [if_neg (by decide), if_neg (by decide)]; exact ⟨rfl, rfl⟩)
         · intro fr64 w65 hB66 hM67 hF68 hD69
           exact DV.oe (dv_move (T rfl ((hF68 9 (by kernel_rfl)).trans f25))) (by rw [if_neg (by decide), if_neg (by decide)]; exact ⟨rfl, rfl⟩)
         · intro fr70 w71 hB72 hM73 hF74 hD75
           have hv76 : fr70 40 = qi (j : Int) := hD75 3 _ (by decide) rfl (by kernel_rfl)
           exact DV.oe (dv_sub (a := (j : Int)) (b := 1) (z := ((j : Int)) - 1) (T rfl hv76) C (wr_i64 (by omega) (by omega))) (by rw [if_neg (by decide), if_neg (by decide)]; exact ⟨rfl, rfl⟩)
         · intro fr77 w78 hB79 hM80 hF81 hD82
           obtain rfl := hB79 (.inr (by kernel_rfl))
           exact DV.oe (dv_move (T rfl ((hF81 0 (by kernel_rfl)).trans f20))) (by rw [if_neg (by decide), if_neg (by decide)]; exact ⟨rfl, rfl⟩)
         · intro fr83 w84 hB85 hM86 hF87 hD88
           obtain rfl := hB85 (.inr (by kernel_rfl))
           exact DV.oe (dv_move (T rfl ((hF87 9 (by kernel_rfl)).trans f25))) (by rw [if_neg (by decide), if_neg (by decide)]; exact ⟨rfl, rfl⟩)
         · intro fr89 w90 hB91 hM92 hF93 hD94
           obtain rfl := hB91 (.inr (by kernel_rfl))
           have hv95 : fr89 43 = qi (j : Int) := hD94 6 _ (by decide) rfl (by kernel_rfl)
           exact DV.oe (dv_sub (a := (j : Int)) (b := 1) (z := ((j : Int)) - 1) (T rfl hv95) C (wr_i64 (by omega) (by omega))) (by rw [if_neg (by decide), if_neg (by decide)]; exact ⟨rfl, rfl⟩)
         · intro fr96 w97 hB98 hM99 hF100 hD101
           obtain rfl := hB98 (.inr (by kernel_rfl))
           have hv102 : fr96 42 = .slice (some ⟨g, 0, none⟩) l c := hD101 5 _ (by decide) rfl (by kernel_rfl)
           have hv103 : fr96 44 = qi ((j : Int) - 1) := hD101 7 _ (by decide) rfl (by kernel_rfl)
           exact DV.oe (dv_indexW (g := g) (o := 0) (l := l) (c := c) (i := ((j) - 1)) (j := ((j : Int)) - 1) us50 sz2 (T rfl hv102) (T rfl hv103) (by omega) (by first | omega | simp <;> omega)) (by rw [if_neg (by decide), if_neg (by decide)]; exact ⟨rfl, rfl⟩)
         · intro fr104 w105 hB106 hM107 hF108 hD109
           obtain rfl := hB106 (.inr (by kernel_rfl))
           have hv110 : fr104 45 = .pointer (some ⟨g, 0 + (((j) - 1)), none⟩) := hD109 8 _ (by decide) rfl (by kernel_rfl)
           have h111 := (h41.ext d44.ext)
           exact DV.oe (dv_load agt2 (T rfl hv110) (Wd.cell h111.wd (by first | omega | simp <;> omega))) (by rw [if_neg (by decide), if_neg (by decide)]; exact ⟨rfl, rfl⟩)
         · intro fr112 w113 hB114 hM115 hF116 hD117
           exact DV.oe (dv_move (T rfl ((hF116 0 (by kernel_rfl)).trans f20))) (by rw [if_neg (by decide), if_neg (by decide)]; exact ⟨rfl, rfl⟩)
         · intro fr118 w119 hB120 hM121 hF122 hD123
           exact DV.oe (dv_move (T rfl ((hF122 9 (by kernel_rfl)).trans f25))) (by rw [if_neg (by decide), if_neg (by decide)]; exact ⟨rfl, rfl⟩)
         · intro fr124 w125 hB126 hM127 hF128 hD129
           have hv130 : fr124 47 = .slice (some ⟨g, 0, none⟩) l c := hD129 10 _ (by decide) rfl (by kernel_rfl)
           have hv131 : fr124 48 = qi (j : Int) := hD129 11 _ (by decide) rfl (by kernel_rfl)
           exact DV.oe (dv_indexW (g := g) (o := 0) (l := l) (c := c) (i := j) (j := (j : Int)) us50 sz2 (T rfl hv130) (T rfl hv131) (by omega) (by first | omega | simp <;> omega)) (by rw [if_neg (by decide), if_neg (by decide)]; exact ⟨rfl, rfl⟩)
         · intro fr132 w133 hB134 hM135 hF136 hD137
           obtain rfl := hB134 (.inr (by kernel_rfl))
           have hv138 : fr132 49 = .pointer (some ⟨g, 0 + j, none⟩) := hD137 12 _ (by decide) rfl (by kernel_rfl)
           have h139 := (h41.ext d44.ext)
           exact DV.oe (dv_load agt2 (T rfl hv138) (Wd.cell h139.wd (by first | omega | simp <;> omega))) (by rw [if_neg (by decide), if_neg (by decide)]; exact ⟨rfl, rfl⟩)
         · intro fr140 w141 hB142 hM143 hF144 hD145
           obtain rfl := hB142 (.inr (by kernel_rfl))
           have hv146 : fr140 37 = .slice (some ⟨g, 0, none⟩) l c := hD145 0 _ (by decide) rfl (by kernel_rfl)
           have hv147 : fr140 38 = qi (j : Int) := hD145 1 _ (by decide) rfl (by kernel_rfl)
           exact DV.oe (dv_indexW (g := g) (o := 0) (l := l) (c := c) (i := j) (j := (j : Int)) us50 sz2 (T rfl hv146) (T rfl hv147) (by omega) (by first | omega | simp <;> omega)) (by rw [if_neg (by decide), if_neg (by decide)]; exact ⟨rfl, rfl⟩)
         · intro fr148 w149 hB150 hM151 hF152 hD153
           obtain rfl := hB150 (.inl rfl)
           have hv154 : fr148 46 = qi (N.getD (((j) - 1)) 0) := hD153 9 _ (by decide) rfl (by kernel_rfl)
           have hv155 : fr148 51 = .pointer (some ⟨g, 0 + j, none⟩) := hD153 14 _ (by decide) rfl (by kernel_rfl)
           have h156 := (h41.ext d44.ext)
           refine oe_storeOwS (base := g) (L := N) (g := g) (o := 0) (i := j) (z := N.getD (((j) - 1)) 0) sz2 (T rfl hv155) (T rfl hv154) h156 (by first | omega | simp <;> omega) ?_
           intro w157 hO158 x159 hs160
           have E161 := E45.trans (bx_st (Bx.refl _ _) hs160)
           rw [if_pos rfl]
           exact ⟨_, d44, (bx_st (Bx.refl _ _) hs160), hO158⟩
         · intro fr162 w163 hB164 hM165 hF166 hD167
           have hv168 : fr162 39 = .slice (some ⟨g, 0, none⟩) l c := hD167 2 _ (by decide) rfl (by kernel_rfl)
           have hv169 : fr162 41 = qi ((j : Int) - 1) := hD167 4 _ (by decide) rfl (by kernel_rfl)
           exact DV.oe (dv_indexW (g := g) (o := 0) (l := l) (c := c) (i := ((j) - 1)) (j := ((j : Int)) - 1) us50 sz2 (T rfl hv168) (T rfl hv169) (by omega) (by first | omega | simp <;> omega)) (by rw [if_neg (by decide), if_neg (by decide)]; exact ⟨rfl, rfl⟩)
         intro fr170 w171 hB172 hM173 hF174 hD175
         obtain ⟨w176, d177, x178, hO179⟩ := hM173 rfl
         have E180 := bx_ext E40 d177.ext
         have E181 := E180.trans x178
         have hv182 : fr170 50 = qi (N.getD j 0) := hD175 13 _ (by decide) rfl (by kernel_rfl)
         have hv183 : fr170 52 = .pointer (some ⟨g, 0 + (((j) - 1)), none⟩) := hD175 16 _ (by decide) rfl (by kernel_rfl)
         refine oe_storeOwS (base := g) (L := (N.set j (N.getD (((j) - 1)) 0))) (g := g) (o := 0) (i := ((j) - 1)) (z := N.getD j 0) sz2 (T rfl hv183) (T rfl hv182) hO179 (by first | omega | simp <;> omega) ?_
         intro w184 hO185 x186 hs187
         have E188 := E181.trans (bx_st (Bx.refl _ _) hs187)
         rw [if_neg (by decide), if_pos rfl]
         exact ⟨_, d177, x178.trans (bx_st (Bx.refl _ _) hs187), hO185⟩
       intro fr189 w190 hK191 hF192 hP193
       obtain ⟨w194, d195, x196, hO197⟩ := hK191
       have E198 := bx_ext E40 d195.ext
       have E199 := E198.trans x196
       obtain ⟨p200, p201, p202, p203, p204, p205, p206, p207, p208, p209, p210, p211, p212, p213, p214, _, p215, _, _⟩ := hP193
       have hv216 : fr189 37 = .slice (some ⟨g, 0, none⟩) l c := p200.resolve_left (by decide)
       have hv217 : fr189 38 = qi (j : Int) := p201.resolve_left (by decide)
       have hv218 : fr189 39 = .slice (some ⟨g, 0, none⟩) l c := p202.resolve_left (by decide)
       have hv219 : fr189 40 = qi (j : Int) := p203.resolve_left (by decide)
       have hv220 : fr189 41 = qi ((j : Int) - 1) := p204.resolve_left (by decide)
       have hv221 : fr189 42 = .slice (some ⟨g, 0, none⟩) l c := p205.resolve_left (by decide)
       have hv222 : fr189 43 = qi (j : Int) := p206.resolve_left (by decide)
       have hv223 : fr189 44 = qi ((j : Int) - 1) := p207.resolve_left (by decide)
       have hv224 : fr189 45 = .pointer (some ⟨g, 0 + (((j) - 1)), none⟩) := p208.resolve_left (by decide)
       have hv225 : fr189 46 = qi (N.getD (((j) - 1)) 0) := p209.resolve_left (by decide)
       have hv226 : fr189 47 = .slice (some ⟨g, 0, none⟩) l c := p210.resolve_left (by decide)
       have hv227 : fr189 48 = qi (j : Int) := p211.resolve_left (by decide)
       have hv228 : fr189 49 = .pointer (some ⟨g, 0 + j, none⟩) := p212.resolve_left (by decide)
       have hv229 : fr189 50 = qi (N.getD j 0) := p213.resolve_left (by decide)
       have hv230 : fr189 51 = .pointer (some ⟨g, 0 + j, none⟩) := p214.resolve_left (by decide)
       have hv231 : fr189 52 = .pointer (some ⟨g, 0 + (((j) - 1)), none⟩) := p215.resolve_left (by decide)
       refine rk_inBlock <| rk_reg <| qm (qi (j : Int)) rfl ((hF192 9 rfl).trans f25) <| lw_v _ (dv_sub (a := (j : Int)) (b := 1) (z := (j : Int) - 1) (Z rfl) C (wr_i64 (by omega) (by omega))) <| qs (qi ((j : Int) - 1)) rfl rfl <| lw_nil <| ih17 (j - 1) _ _ (by rw [hd32]; omega) ⟨(j - 1), (((N.set j (N.getD (((j) - 1)) 0))).set (((j) - 1)) (N.getD j 0)), rfl, ((hF192 0 rfl).trans f20), ((hF192 1 rfl).trans f21), ((hF192 2 rfl).trans f22), ((hF192 3 rfl).trans f23), ((hF192 8 rfl).trans f24), (vi (by omega)), ((hF192 12 rfl).trans f26), ((hF192 13 rfl).trans f27), ((hF192 14 rfl).trans f28), ((hF192 17 rfl).trans f29), E199, hO197, (by omega), (by simp [hNl]), (hPN.trans (by rw [gF_swap _ (by omega) (by omega)]; exact PM.swap _ (by omega) (by omega))), (by rw [gF_swap _ (by omega) (by omega)]; exact insI_step hS2 (by omega) (by omega) (by assumption))⟩
     refine rk_cf (T rfl (qF hb42)) <| rk_exit rfl <| rk_inBlock <| rk_reg <| qm (qi (i : Int)) rfl f24 <| lw_v _ (dv_add (a := (i : Int)) (b := 1) (z := (i : Int) + 1) (Z rfl) C (wr_i64 (by omega) (by omega))) <| qs (qi ((i : Int) + 1)) rfl rfl <| lw_nil <| ih3 (b - (i + 1)) _ _ (by rw [hd13]; omega) ⟨(i + 1), N, rfl, f20, f21, f22, f23, (vi (by omega)), E40, h41, (by omega), hNl, hPN, (by first | exact insI_end1 hS2 (by omega) | exact insI_end2 hTO hVN (by omega) (hIN.sub (Nat.le_refl _) (by omega)) hS2 (by omega) (by omega) (by assumption))⟩
   refine aw_no 4 rfl (by kernel_rfl) (d := 21) rfl rfl (qF hb37) h36.wd <| aw_no 5 rfl (by kernel_rfl) (d := 21) rfl rfl (qF hb37) h36.wd <| aw_no 6 rfl (by kernel_rfl) (d := 21) rfl rfl (qF hb37) h36.wd <| aw_no 7 rfl (by kernel_rfl) (d := 21) rfl rfl (qF hb37) h36.wd <| aw_no 8 rfl (by kernel_rfl) (d := 21) rfl rfl (qF hb37) h36.wd <| aw_no 9 rfl (by kernel_rfl) (d := 21) rfl rfl (qF hb37) h36.wd <| aw_no 10 rfl (by kernel_rfl) (d := 21) rfl rfl (qF hb37) h36.wd <| aw_no 11 rfl (by kernel_rfl) (d := 21) rfl rfl (qF hb37) h36.wd <| aw_no 12 rfl (by kernel_rfl) (d := 21) rfl rfl (qF hb37) h36.wd <| aw_no 13 rfl (by kernel_rfl) (d := 21) rfl rfl (qF hb37) h36.wd <| aw_no 14 rfl (by kernel_rfl) (d := 21) rfl rfl (qF hb37) h36.wd <| aw_no 15 rfl (by kernel_rfl) (d := 21) rfl rfl (qF hb37) h36.wd <| aw_pure 16 (.bool false) rfl (by kernel_rfl) .none h36.wd (fun _ => dv_pick_f (T rfl (qF hb37)) C) <| aw_done (by kernel_rfl) <| rk_cf (Z rfl) <| rk_exit rfl <| rk_inBlock <| rk_reg <| qm (qi (i : Int)) rfl f24 <| lw_v _ (dv_add (a := (i : Int)) (b := 1) (z := (i : Int) + 1) (Z rfl) C (wr_i64 (by omega) (by omega))) <| qs (qi ((i : Int) + 1)) rfl rfl <| lw_nil <| ih3 (b - (i + 1)) _ _ (by rw [hd13]; omega) ⟨(i + 1), N, rfl, f20, f21, f22, f23, (vi (by omega)), E35, h36, (by omega), hNl, hPN, (by first | exact insI_end1 hS2 (by omega) | exact insI_end2 hTO hVN (by omega) (hIN.sub (Nat.le_refl _) (by omega)) hS2 (by omega) (by omega) (by assumption))⟩
 refine rk_cf (T rfl (qF hb14)) <| rk_exit rfl <| rk_end Try.func141 (v := .tuple #[]) (res0 Try.results141) ⟨_, rfl, ?_⟩
 exact ⟨M, rfl, E11, h12, hMl, hP, hS.sub (Nat.le_refl _) (by omega)⟩
theorem insS_c {w : World} {g l c gn : Nat} {cb : Array Value} {L : List Int} {a b : Nat} (hO : Ow w g 2 .i64 (some ⟨g, 0, none⟩) c L) (hLl : L.length = l) (hl : l ≤ 1048576) (hab : a ≤ b) (hb : b ≤ l) {V : Int → Prop} {cf : Int → Int → Int} (hC : CmpOk Try.prog gn cb V cf g w) (hTO : TO V cf) (hV : ∀ k, k < l → V (gF L k)) (hI : inj (gF L) a b) {xa xb : Int} (ea : xa = (a : Int)) (eb : xb = (b : Int)) : Ct Try.prog 141 [.slice (some ⟨g, 0, none⟩) l c, .int .i64 xa, .int .i64 xb, .func (.func gn) #[] cb] w fun v w1 => ∃ M, v = .tuple #[] ∧ Bx g w w1 ∧ Ow w1 g 2 .i64 (some ⟨g, 0, none⟩) c M ∧ M.length = l ∧ PM a b (gF L) (gF M) ∧ srt cf (gF M) a b := by
 subst ea eb
 exact insS_ok hO hLl hl hab hb hC hTO hV hI
set_option maxRecDepth 100000 in
set_option maxHeartbeats 8000000 in
theorem symM_ok {w : World} {g l c gn : Nat} {cb : Array Value} {L : List Int} {a m b : Nat} (hO : Ow w g 2 .i64 (some ⟨g, 0, none⟩) c L) (hLl : L.length = l) (hl : l ≤ 1048576) {V : Int → Prop} {cf : Int → Int → Int} (hC : CmpOk Try.prog gn cb V cf g w) (hTO : TO V cf) (hV : ∀ k, k < l → V (gF L k)) (hI : inj (gF L) a b) (ham : a < m) (hmb : m < b) (hb : b ≤ l) (hs1 : srt cf (gF L) a m) (hs2 : srt cf (gF L) m b) (ih : ∀ d', d' < b - a → SymP Try.prog 142 2 gn cb V cf g l c d') : Ct Try.prog 142 [.slice (some ⟨g, 0, none⟩) l c, .int .i64 ((a : Int)), .int .i64 ((m : Int)), .int .i64 ((b : Int)), .func (.func gn) #[] cb] w fun v w1 => ∃ M, v = .tuple #[] ∧ Bx g w w1 ∧ Ow w1 g 2 .i64 (some ⟨g, 0, none⟩) c M ∧ M.length = l ∧ PM a b (gF L) (gF M) ∧ srt cf (gF M) a b := by
 refine ct_run (n := 220) Try.func142 rfl Try.ntmps142 rfl ?_
 have E0 : Bx g w w := Bx.refl _ _
 refine rk_seq <| rk_seq <| rk_reg <| qm (qi (m : Int)) rfl rfl <| qm (qi (a : Int)) rfl rfl <| lw_v _ (dv_sub (a := (m : Int)) (b := (a : Int)) (z := (m : Int) - (a : Int)) (Z rfl) (Z rfl) (wr_i64 (by omega) (by omega))) <| lw_v _ (dv_eql (a := (m : Int) - (a : Int)) (b := 1) (Z rfl) C) <| lw_nil ?_
 by_cases hb1 : (((m : Int)) - ((a : Int))) = 1
 · refine rk_ct (T rfl (qT hb1)) <| rk_seq <| rk_reg <| qm (qi (m : Int)) rfl rfl <| qs (qi (m : Int)) rfl rfl <| qN <| qm (qi (b : Int)) rfl rfl <| qs (qi (b : Int)) rfl rfl <| lw_nil <| rk_seq <| rk_block <| rk_loop (fun dm_ fr wl => ∃ (i j : Nat), dm_ = j - i ∧ fr 0 = .slice (some ⟨g, 0, none⟩) l c ∧ fr 1 = qi (a : Int) ∧ fr 2 = qi (m : Int) ∧ fr 3 = qi (b : Int) ∧ fr 4 = .func (.func gn) #[] cb ∧ fr 10 = qi (i : Int) ∧ fr 11 = qi (j : Int) ∧ Bx g w wl ∧ Ow wl g 2 .i64 (some ⟨g, 0, none⟩) c L ∧ (m ≤ i ∧ i ≤ j ∧ j ≤ b) ∧ (i = m ∨ cf (gF L (i - 1)) (gF L a) < 0) ∧ (j = b ∨ ¬ cf (gF L j) (gF L a) < 0)) (b - m) ⟨m, b, rfl, rfl, rfl, rfl, rfl, rfl, (vi (by omega)), (vi (by omega)), E0, hO, (by omega), (.inl rfl), (.inl rfl)⟩ ?_
   intro d6 fr5 w2 hI3 ih4
   obtain ⟨i, j, hd16, f7, f8, f9, f10, f11, f12, f13, E14, h15, hij, hx, hy⟩ := hI3
   refine rk_seq <| rk_seq <| rk_reg <| qm (qi (i : Int)) rfl f12 <| qm (qi (j : Int)) rfl f13 <| lw_v _ (dv_lss (a := (i : Int)) (b := (j : Int)) (Z rfl) (Z rfl)) <| lw_nil ?_
   by_cases hb17 : ((i : Int)) < ((j : Int))
   · refine rk_ct (T rfl (qT hb17)) <| rk_skip <| rk_block <| rk_seq <| rk_reg <| qm (qi (i : Int)) rfl f12 <| qm (qi (j : Int)) rfl f13 <| lw_v _ (dv_add (a := (i : Int)) (b := (j : Int)) (z := (i : Int) + (j : Int)) (Z rfl) (Z rfl) (wr_i64 (by omega) (by omega))) <| lw_v (qu ((i : Int) + (j : Int))) (dv_conv (a := (i : Int) + (j : Int)) (z := (i : Int) + (j : Int)) ui3 ui158 (Z rfl) (wn_u64 (by omega) (by omega))) <| lw_v (qu (((i : Int) + (j : Int)) / 2)) (dv_shr (a := (i : Int) + (j : Int)) (b := 1) (z := ((i : Int) + (j : Int)) / 2) (Z rfl) C (by decide) (shr_c (n := 1) (by omega) (by decide))) <| lw_v (qi (((i : Int) + (j : Int)) / 2)) (dv_conv (a := ((i : Int) + (j : Int)) / 2) (z := ((i : Int) + (j : Int)) / 2) ui158 ui3 (Z rfl) (wr_i64 (by omega) (by omega))) <| qs (qi (((i : Int) + (j : Int)) / 2)) rfl rfl <| lw_nil <| rk_seq <| rk_any (fun w => Wd w 2 .i64 (some ⟨g, 0, none⟩) L) [] mo ?_
     intro w18 d19
     have E20 := bx_ext E14 d19.ext
     have h21 := (h15.ext d19.ext)
     refine aw_pure 0 (.func (.func gn) #[] cb) rfl (by kernel_rfl) .none h21.wd (fun _ => dv_move (T rfl f11)) <| aw_pure 1 (.slice (some ⟨g, 0, none⟩) l c) rfl (by kernel_rfl) .none h21.wd (fun _ => dv_move (T rfl f7)) <| aw_pure 2 (qi (((i : Int) + (j : Int)) / 2)) rfl (by kernel_rfl) .none h21.wd (fun _ => dv_move (Z rfl)) <| aw_pure 3 (.pointer (some ⟨g, 0 + ((((i) + (j)) / 2)), none⟩)) rfl (by kernel_rfl) .none h21.wd (fun _ => dv_indexW (g := g) (o := 0) (l := l) (c := c) (i := (((i) + (j)) / 2)) (j := ((i : Int) + (j : Int)) / 2) us50 sz2 (Z rfl) (Z rfl) (by omega) (by first | omega | simp <;> omega)) <| aw_load 4 (qi (L.getD ((((i) + (j)) / 2)) 0)) rfl (by kernel_rfl) .none h21.wd (fun _ s => dv_load agt2 (Z rfl) (Wd.cell s (by first | omega | simp <;> omega))) <| aw_pure 5 (.slice (some ⟨g, 0, none⟩) l c) rfl (by kernel_rfl) .none h21.wd (fun _ => dv_move (T rfl f7)) <| aw_pure 6 (qi (a : Int)) rfl (by kernel_rfl) .none h21.wd (fun _ => dv_move (T rfl f8)) <| aw_pure 7 (.pointer (some ⟨g, 0 + a, none⟩)) rfl (by kernel_rfl) .none h21.wd (fun _ => dv_indexW (g := g) (o := 0) (l := l) (c := c) (i := a) (j := (a : Int)) us50 sz2 (Z rfl) (Z rfl) (by omega) (by first | omega | simp <;> omega)) <| aw_load 8 (qi (L.getD a 0)) rfl (by kernel_rfl) .none h21.wd (fun _ s => dv_load agt2 (Z rfl) (Wd.cell s (by first | omega | simp <;> omega))) <| aw_one 9 rfl (by kernel_rfl) .none (oe_callc (vs := [qi (L.getD ((((i) + (j)) / 2)) 0), qi (L.getD a 0)]) (Z rfl) hC.ok (ar2 (Z rfl) (Z rfl)) (hC.call _ _ _ (hV (((((i) + (j)) / 2))) (by omega)) (hV a (by omega)) E20) ?_)
     rintro _ w22 ⟨rfl, e23⟩
     have E24 := bx_ext E20 e23
     have h25 := (h21.ext e23)
     refine ⟨.inr h25.wd, ?_⟩
     refine aw_pure 10 (qd ((cf (L.getD ((((i) + (j)) / 2)) 0) (L.getD a 0)) < 0)) rfl (by kernel_rfl) .none h25.wd (fun _ => dv_lss (a := cf (L.getD ((((i) + (j)) / 2)) 0) (L.getD a 0)) (b := 0) (Z rfl) C) <| aw_done (by kernel_rfl) ?_
     by_cases hb26 : (cf (L.getD ((((i) + (j)) / 2)) 0) (L.getD a 0)) < 0
     · refine rk_ct (T rfl (qT hb26)) <| rk_reg <| qm (qi (((i : Int) + (j : Int)) / 2)) rfl rfl <| lw_v _ (dv_add (a := ((i : Int) + (j : Int)) / 2) (b := 1) (z := (((i : Int) + (j : Int)) / 2) + 1) (Z rfl) C (wr_i64 (by omega) (by omega))) <| qs (qi ((((i : Int) + (j : Int)) / 2) + 1)) rfl rfl <| lw_nil <| rk_inBlock <| ih4 (j - ((((i + j) / 2) + 1))) _ _ (by rw [hd16]; omega) ⟨(((i + j) / 2) + 1), j, rfl, f7, f8, f9, f10, f11, (vi (by omega)), (f13.trans (vi (by omega))), E24, h25, (by omega), (.inr (cf_ix (f := gF L) hb26 (by omega) (by omega))), hy⟩
     refine rk_cf (T rfl (qF hb26)) <| rk_reg <| qm (qi (((i : Int) + (j : Int)) / 2)) rfl rfl <| qs (qi (((i : Int) + (j : Int)) / 2)) rfl rfl <| lw_nil <| rk_inBlock <| ih4 ((((i + j) / 2)) - i) _ _ (by rw [hd16]; omega) ⟨i, ((i + j) / 2), rfl, f7, f8, f9, f10, f11, (f12.trans (vi (by omega))), (vi (by omega)), E24, h25, (by omega), hx, (.inr (cf_ixn (f := gF L) hb26 (by omega) (by omega)))⟩
   refine rk_cf (T rfl (qF hb17)) <| rk_exit rfl <| rk_seq <| rk_seq <| rk_reg <| qm (qi (a : Int)) rfl f8 <| qs (qi (a : Int)) rfl rfl <| lw_nil <| rk_block <| rk_loop (fun dm_ fr wl => ∃ (k : Nat) (M : List Int), dm_ = i - 1 - k ∧ fr 0 = .slice (some ⟨g, 0, none⟩) l c ∧ fr 1 = qi (a : Int) ∧ fr 2 = qi (m : Int) ∧ fr 3 = qi (b : Int) ∧ fr 4 = .func (.func gn) #[] cb ∧ fr 10 = qi (i : Int) ∧ fr 13 = qi (k : Int) ∧ Bx g w wl ∧ Ow wl g 2 .i64 (some ⟨g, 0, none⟩) c M ∧ (a ≤ k ∧ k ≤ i - 1) ∧ (M.length = l) ∧ (gF M = roF (gF L) a (a + 1) (k + 1))) (i - 1 - a) ⟨a, L, rfl, f7, f8, f9, f10, f11, f12, (vi (by omega)), E14, h15, (by omega), hLl, (roF_nr (Nat.le_succ _)).symm⟩ ?_
   intro d31 fr30 w27 hI28 ih29
   obtain ⟨k, M, hd41, f32, f33, f34, f35, f36, f37, f38, E39, h40, hk, hMl, hMf⟩ := hI28
   refine rk_seq <| rk_seq <| rk_reg <| qm (qi (k : Int)) rfl f38 <| qm (qi (i : Int)) rfl f37 <| lw_v _ (dv_sub (a := (i : Int)) (b := 1) (z := (i : Int) - 1) (Z rfl) C (wr_i64 (by omega) (by omega))) <| lw_v _ (dv_lss (a := (k : Int)) (b := (i : Int) - 1) (Z rfl) (Z rfl)) <| lw_nil ?_
   by_cases hb42 : ((k : Int)) < (((i : Int)) - 1)
   · refine rk_ct (T rfl (qT hb42)) <| rk_skip <| rk_seq <| rk_block <| rk_st2 15 17 [.slice (some ⟨g, 0, none⟩) l c, qi (k : Int), .slice (some ⟨g, 0, none⟩) l c, qi (k : Int), qi ((k : Int) + 1), .slice (some ⟨g, 0, none⟩) l c, qi (k : Int), qi ((k : Int) + 1), .pointer (some ⟨g, 0 + (((k) + 1)), none⟩), qi (M.getD (((k) + 1)) 0), .slice (some ⟨g, 0, none⟩) l c, qi (k : Int), .pointer (some ⟨g, 0 + k, none⟩), qi (M.getD k 0), .pointer (some ⟨g, 0 + k, none⟩), undef, .pointer (some ⟨g, 0 + (((k) + 1)), none⟩), undef] (fun wk => ∃ wd, Drew w27 wd ∧ Bx g wd wk ∧ Ow wk g 2 .i64 (some ⟨g, 0, none⟩) c (M.set k (M.getD (((k) + 1)) 0))) (fun wk => ∃ wd, Drew w27 wd ∧ Bx g wd wk ∧ Ow wk g 2 .i64 (some ⟨g, 0, none⟩) c (((M.set k (M.getD (((k) + 1)) 0))).set (((k) + 1)) (M.getD k 0))) mo (by kernel_rfl) ?_ ?_
     · intro w43 d44
       have E45 := bx_ext E39 d44.ext
       refine ⟨?_, ?_, ?_, ?_, ?_, ?_, ?_, ?_, ?_, ?_, ?_, ?_, ?_, ?_, ?_, ?_, ?_, ?_, trivial⟩
       · intro fr46 w47 hB48 hM49 hF50 hD51
         obtain rfl := hB48 (.inr (by kernel_rfl))
         exact DV.oe (dv_move (T rfl ((hF50 0 (by kernel_rfl)).trans f32))) (by rw [if_neg (by decide), if_neg (by decide)]; exact ⟨rfl, rfl⟩)
       · intro fr52 w53 hB54 hM55 hF56 hD57
         obtain rfl := hB54 (.inr (by kernel_rfl))
         exact DV.oe (dv_move (T rfl ((hF56 13 (by kernel_rfl)).trans f38))) (by rw [if_neg (by decide), if_neg (by decide)]; exact ⟨rfl, rfl⟩)
       · intro fr58 w59 hB60 hM61 hF62 hD63
         exact DV.oe (dv_move (T rfl ((hF62 0 (by kernel_rfl)).trans f32))) (by rw [if_neg (by decide), if_neg (by decide)]; exact ⟨rfl, rfl⟩)
       · intro fr64 w65 hB66 hM67 hF68 hD69
         exact DV.oe (dv_move (T rfl ((hF68 13 (by kernel_rfl)).trans f38))) (by rw [if_neg (by decide), if_neg (by decide)]; exact ⟨rfl, rfl⟩)
       · intro fr70 w71 hB72 hM73 hF74 hD75
         have hv76 : fr70 64 = qi (k : Int) := hD75 3 _ (by decide) rfl (by kernel_rfl)
         exact DV.oe (dv_add (a := (k : Int)) (b := 1) (z := ((k : Int)) + 1) (T rfl hv76) C (wr_i64 (by omega) (by omega))) (by rw [if_neg (by decide), if_neg (by decide)]; exact ⟨rfl, rfl⟩)
       · intro fr77 w78 hB79 hM80 hF81 hD82
         obtain rfl := hB79 (.inr (by kernel_rfl))
         exact DV.oe (dv_move (T rfl ((hF81 0 (by kernel_rfl)).trans f32))) (by rw [if_neg (by decide), if_neg (by decide)]; exact ⟨rfl, rfl⟩)
       · intro fr83 w84 hB85 hM86 hF87 hD88
         obtain rfl := hB85 (.inr (by kernel_rfl))
         exact DV.oe (dv_move (T rfl ((hF87 13 (by kernel_rfl)).trans f38))) (by rw [if_neg (by decide), if_neg (by decide)]; exact ⟨rfl, rfl⟩)
       · intro fr89 w90 hB91 hM92 hF93 hD94
         obtain rfl := hB91 (.inr (by kernel_rfl))
         have hv95 : fr89 67 = qi (k : Int) := hD94 6 _ (by decide) rfl (by kernel_rfl)
         exact DV.oe (dv_add (a := (k : Int)) (b := 1) (z := ((k : Int)) + 1) (T rfl hv95) C (wr_i64 (by omega) (by omega))) (by rw [if_neg (by decide), if_neg (by decide)]; exact ⟨rfl, rfl⟩)
       · intro fr96 w97 hB98 hM99 hF100 hD101
         obtain rfl := hB98 (.inr (by kernel_rfl))
         have hv102 : fr96 66 = .slice (some ⟨g, 0, none⟩) l c := hD101 5 _ (by decide) rfl (by kernel_rfl)
         have hv103 : fr96 68 = qi ((k : Int) + 1) := hD101 7 _ (by decide) rfl (by kernel_rfl)
         exact DV.oe (dv_indexW (g := g) (o := 0) (l := l) (c := c) (i := ((k) + 1)) (j := ((k : Int)) + 1) us50 sz2 (T rfl hv102) (T rfl hv103) (by omega) (by first | omega | simp <;> omega)) (by rw [if_neg (by decide), if_neg (by decide)]; exact ⟨rfl, rfl⟩)
       · intro fr104 w105 hB106 hM107 hF108 hD109
         obtain rfl := hB106 (.inr (by kernel_rfl))
         have hv110 : fr104 69 = .pointer (some ⟨g, 0 + (((k) + 1)), none⟩) := hD109 8 _ (by decide) rfl (by kernel_rfl)
         have h111 := (h40.ext d44.ext)
         exact DV.oe (dv_load agt2 (T rfl hv110) (Wd.cell h111.wd (by first | omega | simp <;> omega))) (by rw [if_neg (by decide), if_neg (by decide)]; exact ⟨rfl, rfl⟩)
       · intro fr112 w113 hB114 hM115 hF116 hD117
         exact DV.oe (dv_move (T rfl ((hF116 0 (by kernel_rfl)).trans f32))) (by rw [if_neg (by decide), if_neg (by decide)]; exact ⟨rfl, rfl⟩)
       · intro fr118 w119 hB120 hM121 hF122 hD123
         exact DV.oe (dv_move (T rfl ((hF122 13 (by kernel_rfl)).trans f38))) (by rw [if_neg (by decide), if_neg (by decide)]; exact ⟨rfl, rfl⟩)
       · intro fr124 w125 hB126 hM127 hF128 hD129
         have hv130 : fr124 71 = .slice (some ⟨g, 0, none⟩) l c := hD129 10 _ (by decide) rfl (by kernel_rfl)
         have hv131 : fr124 72 = qi (k : Int) := hD129 11 _ (by decide) rfl (by kernel_rfl)
         exact DV.oe (dv_indexW (g := g) (o := 0) (l := l) (c := c) (i := k) (j := (k : Int)) us50 sz2 (T rfl hv130) (T rfl hv131) (by omega) (by first | omega | simp <;> omega)) (by rw [if_neg (by decide), if_neg (by decide)]; exact ⟨rfl, rfl⟩)
       · intro fr132 w133 hB134 hM135 hF136 hD137
         obtain rfl := hB134 (.inr (by kernel_rfl))
         have hv138 : fr132 73 = .pointer (some ⟨g, 0 + k, none⟩) := hD137 12 _ (by decide) rfl (by kernel_rfl)
         have h139 := (h40.ext d44.ext)
         exact DV.oe (dv_load agt2 (T rfl hv138) (Wd.cell h139.wd (by first | omega | simp <;> omega))) (by rw [if_neg (by decide), if_neg (by decide)]; exact ⟨rfl, rfl⟩)
       · intro fr140 w141 hB142 hM143 hF144 hD145
         obtain rfl := hB142 (.inr (by kernel_rfl))
         have hv146 : fr140 61 = .slice (some ⟨g, 0, none⟩) l c := hD145 0 _ (by decide) rfl (by kernel_rfl)
         have hv147 : fr140 62 = qi (k : Int) := hD145 1 _ (by decide) rfl (by kernel_rfl)
         exact DV.oe (dv_indexW (g := g) (o := 0) (l := l) (c := c) (i := k) (j := (k : Int)) us50 sz2 (T rfl hv146) (T rfl hv147) (by omega) (by first | omega | simp <;> omega)) (by rw [if_neg (by decide), if_neg (by decide)]; exact ⟨rfl, rfl⟩)
       · intro fr148 w149 hB150 hM151 hF152 hD153
         obtain rfl := hB150 (.inl rfl)
         have hv154 : fr148 70 = qi (M.getD (((k) + 1)) 0) := hD153 9 _ (by decide) rfl (by kernel_rfl)
         have hv155 : fr148 75 = .pointer (some ⟨g, 0 + k, none⟩) := hD153 14 _ (by decide) rfl (by kernel_rfl)
         have h156 := (h40.ext d44.ext)
         refine oe_storeOwS (base := g) (L := M) (g := g) (o := 0) (i := k) (z := M.getD (((k) + 1)) 0) sz2 (T rfl hv155) (T rfl hv154) h156 (by first | omega | simp <;> omega) ?_
         intro w157 hO158 x159 hs160
         have E161 := E45.trans (bx_st (Bx.refl _ _) hs160)
         rw [if_pos rfl]
         exact ⟨_, d44, (bx_st (Bx.refl _ _) hs160), hO158⟩
       · intro fr162 w163 hB164 hM165 hF166 hD167
         have hv168 : fr162 63 = .slice (some ⟨g, 0, none⟩) l c := hD167 2 _ (by decide) rfl (by kernel_rfl)
         have hv169 : fr162 65 = qi ((k : Int) + 1) := hD167 4 _ (by decide) rfl (by kernel_rfl)
         exact DV.oe (dv_indexW (g := g) (o := 0) (l := l) (c := c) (i := ((k) + 1)) (j := ((k : Int)) + 1) us50 sz2 (T rfl hv168) (T rfl hv169) (by omega) (by first | omega | simp <;> omega)) (by rw [if_neg (by decide), if_neg (by decide)]; exact ⟨rfl, rfl⟩)
       intro fr170 w171 hB172 hM173 hF174 hD175
       obtain ⟨w176, d177, x178, hO179⟩ := hM173 rfl
       have E180 := bx_ext E39 d177.ext
       have E181 := E180.trans x178
       have hv182 : fr170 74 = qi (M.getD k 0) := hD175 13 _ (by decide) rfl (by kernel_rfl)
       have hv183 : fr170 76 = .pointer (some ⟨g, 0 + (((k) + 1)), none⟩) := hD175 16 _ (by decide) rfl (by kernel_rfl)
       refine oe_storeOwS (base := g) (L := (M.set k (M.getD (((k) + 1)) 0))) (g := g) (o := 0) (i := ((k) + 1)) (z := M.getD k 0) sz2 (T rfl hv183) (T rfl hv182) hO179 (by first | omega | simp <;> omega) ?_
       intro w184 hO185 x186 hs187
       have E188 := E181.trans (bx_st (Bx.refl _ _) hs187)
       rw [if_neg (by decide), if_pos rfl]
       exact ⟨_, d177, x178.trans (bx_st (Bx.refl _ _) hs187), hO185⟩
     intro fr189 w190 hK191 hF192 hP193
     obtain ⟨w194, d195, x196, hO197⟩ := hK191
     have E198 := bx_ext E39 d195.ext
     have E199 := E198.trans x196
     obtain ⟨p200, p201, p202, p203, p204, p205, p206, p207, p208, p209, p210, p211, p212, p213, p214, _, p215, _, _⟩ := hP193
     have hv216 : fr189 61 = .slice (some ⟨g, 0, none⟩) l c := p200.resolve_left (by decide)
     have hv217 : fr189 62 = qi (k : Int) := p201.resolve_left (by decide)
     have hv218 : fr189 63 = .slice (some ⟨g, 0, none⟩) l c := p202.resolve_left (by decide)
     have hv219 : fr189 64 = qi (k : Int) := p203.resolve_left (by decide)
     have hv220 : fr189 65 = qi ((k : Int) + 1) := p204.resolve_left (by decide)
     have hv221 : fr189 66 = .slice (some ⟨g, 0, none⟩) l c := p205.resolve_left (by decide)
     have hv222 : fr189 67 = qi (k : Int) := p206.resolve_left (by decide)
     have hv223 : fr189 68 = qi ((k : Int) + 1) := p207.resolve_left (by decide)
     have hv224 : fr189 69 = .pointer (some ⟨g, 0 + (((k) + 1)), none⟩) := p208.resolve_left (by decide)
     have hv225 : fr189 70 = qi (M.getD (((k) + 1)) 0) := p209.resolve_left (by decide)
     have hv226 : fr189 71 = .slice (some ⟨g, 0, none⟩) l c := p210.resolve_left (by decide)
     have hv227 : fr189 72 = qi (k : Int) := p211.resolve_left (by decide)
     have hv228 : fr189 73 = .pointer (some ⟨g, 0 + k, none⟩) := p212.resolve_left (by decide)
     have hv229 : fr189 74 = qi (M.getD k 0) := p213.resolve_left (by decide)
     have hv230 : fr189 75 = .pointer (some ⟨g, 0 + k, none⟩) := p214.resolve_left (by decide)
     have hv231 : fr189 76 = .pointer (some ⟨g, 0 + (((k) + 1)), none⟩) := p215.resolve_left (by decide)
     refine rk_inBlock <| rk_reg <| qm (qi (k : Int)) rfl ((hF192 13 rfl).trans f38) <| lw_v _ (dv_add (a := (k : Int)) (b := 1) (z := (k : Int) + 1) (Z rfl) C (wr_i64 (by omega) (by omega))) <| qs (qi ((k : Int) + 1)) rfl rfl <| lw_nil <| ih29 (i - 1 - (k + 1)) _ _ (by rw [hd41]; omega) ⟨(k + 1), (((M.set k (M.getD (((k) + 1)) 0))).set (((k) + 1)) (M.getD k 0)), rfl, ((hF192 0 rfl).trans f32), ((hF192 1 rfl).trans f33), ((hF192 2 rfl).trans f34), ((hF192 3 rfl).trans f35), ((hF192 4 rfl).trans f36), ((hF192 10 rfl).trans f37), (vi (by omega)), E199, hO197, (by omega), (by simp [hMl]), (by rw [gF_swap _ (by omega) (by omega), hMf, roF_step1 (by omega)])⟩
   refine rk_cf (T rfl (qF hb42)) <| rk_exit rfl <| rk_ret Try.func142 (v := .tuple #[]) (res0 Try.results142) ⟨_, rfl, ?_⟩
   obtain rfl : i = j := by omega
   have hmm : m = a + 1 := by omega
   subst hmm
   have hkk : k + 1 = i := by omega
   rw [hkk] at hMf
   exact ⟨M, rfl, E39, h40, hMl, by rw [hMf]; exact (PM.ro _ (by omega) (by omega)).mono (Nat.le_refl _) (by omega), by rw [hMf]; exact one_l hTO hV hb hI hs2 (by omega) hx hy⟩
 refine rk_cf (T rfl (qF hb1)) <| rk_skip <| rk_seq <| rk_seq <| rk_reg <| qm (qi (b : Int)) rfl rfl <| qm (qi (m : Int)) rfl rfl <| lw_v _ (dv_sub (a := (b : Int)) (b := (m : Int)) (z := (b : Int) - (m : Int)) (Z rfl) (Z rfl) (wr_i64 (by omega) (by omega))) <| lw_v _ (dv_eql (a := (b : Int) - (m : Int)) (b := 1) (Z rfl) C) <| lw_nil ?_
 by_cases hb232 : (((b : Int)) - ((m : Int))) = 1
 · refine rk_ct (T rfl (qT hb232)) <| rk_seq <| rk_reg <| qm (qi (a : Int)) rfl rfl <| qs (qi (a : Int)) rfl rfl <| qN <| qm (qi (m : Int)) rfl rfl <| qs (qi (m : Int)) rfl rfl <| lw_nil <| rk_seq <| rk_block <| rk_loop (fun dm_ fr wl => ∃ (i j : Nat), dm_ = j - i ∧ fr 0 = .slice (some ⟨g, 0, none⟩) l c ∧ fr 1 = qi (a : Int) ∧ fr 2 = qi (m : Int) ∧ fr 3 = qi (b : Int) ∧ fr 4 = .func (.func gn) #[] cb ∧ fr 14 = qi (i : Int) ∧ fr 15 = qi (j : Int) ∧ Bx g w wl ∧ Ow wl g 2 .i64 (some ⟨g, 0, none⟩) c L ∧ (a ≤ i ∧ i ≤ j ∧ j ≤ m) ∧ (i = a ∨ ¬ cf (gF L m) (gF L (i - 1)) < 0) ∧ (j = m ∨ cf (gF L m) (gF L j) < 0)) (m - a) ⟨a, m, rfl, rfl, rfl, rfl, rfl, rfl, (vi (by omega)), (vi (by omega)), E0, hO, (by omega), (.inl rfl), (.inl rfl)⟩ ?_
   intro d237 fr236 w233 hI234 ih235
   obtain ⟨i, j, hd247, f238, f239, f240, f241, f242, f243, f244, E245, h246, hij, hx, hy⟩ := hI234
   refine rk_seq <| rk_seq <| rk_reg <| qm (qi (i : Int)) rfl f243 <| qm (qi (j : Int)) rfl f244 <| lw_v _ (dv_lss (a := (i : Int)) (b := (j : Int)) (Z rfl) (Z rfl)) <| lw_nil ?_
   by_cases hb248 : ((i : Int)) < ((j : Int))
   · refine rk_ct (T rfl (qT hb248)) <| rk_skip <| rk_block <| rk_seq <| rk_reg <| qm (qi (i : Int)) rfl f243 <| qm (qi (j : Int)) rfl f244 <| lw_v _ (dv_add (a := (i : Int)) (b := (j : Int)) (z := (i : Int) + (j : Int)) (Z rfl) (Z rfl) (wr_i64 (by omega) (by omega))) <| lw_v (qu ((i : Int) + (j : Int))) (dv_conv (a := (i : Int) + (j : Int)) (z := (i : Int) + (j : Int)) ui3 ui158 (Z rfl) (wn_u64 (by omega) (by omega))) <| lw_v (qu (((i : Int) + (j : Int)) / 2)) (dv_shr (a := (i : Int) + (j : Int)) (b := 1) (z := ((i : Int) + (j : Int)) / 2) (Z rfl) C (by decide) (shr_c (n := 1) (by omega) (by decide))) <| lw_v (qi (((i : Int) + (j : Int)) / 2)) (dv_conv (a := ((i : Int) + (j : Int)) / 2) (z := ((i : Int) + (j : Int)) / 2) ui158 ui3 (Z rfl) (wr_i64 (by omega) (by omega))) <| qs (qi (((i : Int) + (j : Int)) / 2)) rfl rfl <| lw_nil <| rk_seq <| rk_any (fun w => Wd w 2 .i64 (some ⟨g, 0, none⟩) L) [] mo ?_
     intro w249 d250
     have E251 := bx_ext E245 d250.ext
     have h252 := (h246.ext d250.ext)
     refine aw_pure 0 (.func (.func gn) #[] cb) rfl (by kernel_rfl) .none h252.wd (fun _ => dv_move (T rfl f242)) <| aw_pure 1 (.slice (some ⟨g, 0, none⟩) l c) rfl (by kernel_rfl) .none h252.wd (fun _ => dv_move (T rfl f238)) <| aw_pure 2 (qi (m : Int)) rfl (by kernel_rfl) .none h252.wd (fun _ => dv_move (T rfl f240)) <| aw_pure 3 (.pointer (some ⟨g, 0 + m, none⟩)) rfl (by kernel_rfl) .none h252.wd (fun _ => dv_indexW (g := g) (o := 0) (l := l) (c := c) (i := m) (j := (m : Int)) us50 sz2 (Z rfl) (Z rfl) (by omega) (by first | omega | simp <;> omega)) <| aw_load 4 (qi (L.getD m 0)) rfl (by kernel_rfl) .none h252.wd (fun _ s => dv_load agt2 (Z rfl) (Wd.cell s (by first | omega | simp <;> omega))) <| aw_pure 5 (.slice (some ⟨g, 0, none⟩) l c) rfl (by kernel_rfl) .none h252.wd (fun _ => dv_move (T rfl f238)) <| aw_pure 6 (qi (((i : Int) + (j : Int)) / 2)) rfl (by kernel_rfl) .none h252.wd (fun _ => dv_move (Z rfl)) <| aw_pure 7 (.pointer (some ⟨g, 0 + ((((i) + (j)) / 2)), none⟩)) rfl (by kernel_rfl) .none h252.wd (fun _ => dv_indexW (g := g) (o := 0) (l := l) (c := c) (i := (((i) + (j)) / 2)) (j := ((i : Int) + (j : Int)) / 2) us50 sz2 (Z rfl) (Z rfl) (by omega) (by first | omega | simp <;> omega)) <| aw_load 8 (qi (L.getD ((((i) + (j)) / 2)) 0)) rfl (by kernel_rfl) .none h252.wd (fun _ s => dv_load agt2 (Z rfl) (Wd.cell s (by first | omega | simp <;> omega))) <| aw_one 9 rfl (by kernel_rfl) .none (oe_callc (vs := [qi (L.getD m 0), qi (L.getD ((((i) + (j)) / 2)) 0)]) (Z rfl) hC.ok (ar2 (Z rfl) (Z rfl)) (hC.call _ _ _ (hV m (by omega)) (hV (((((i) + (j)) / 2))) (by omega)) E251) ?_)
     rintro _ w253 ⟨rfl, e254⟩
     have E255 := bx_ext E251 e254
     have h256 := (h252.ext e254)
     refine ⟨.inr h256.wd, ?_⟩
     refine aw_pure 10 (qd ((cf (L.getD m 0) (L.getD ((((i) + (j)) / 2)) 0)) < 0)) rfl (by kernel_rfl) .none h256.wd (fun _ => dv_lss (a := cf (L.getD m 0) (L.getD ((((i) + (j)) / 2)) 0)) (b := 0) (Z rfl) C) <| aw_pure 11 (qd (¬ ((cf (L.getD m 0) (L.getD ((((i) + (j)) / 2)) 0)) < 0))) rfl (by kernel_rfl) .none h256.wd (fun _ => dv_notd (p := (cf (L.getD m 0) (L.getD ((((i) + (j)) / 2)) 0)) < 0) (Z rfl)) <| aw_done (by kernel_rfl) ?_
     by_cases hb257 : (cf (L.getD m 0) (L.getD ((((i) + (j)) / 2)) 0)) < 0
     · refine rk_cf (T rfl (congrArg Value.bool (decide_eq_false (not_not_intro hb257)))) <| rk_reg <| qm (qi (((i : Int) + (j : Int)) / 2)) rfl rfl <| qs (qi (((i : Int) + (j : Int)) / 2)) rfl rfl <| lw_nil <| rk_inBlock <| ih235 ((((i + j) / 2)) - i) _ _ (by rw [hd247]; omega) ⟨i, ((i + j) / 2), rfl, f238, f239, f240, f241, f242, (f243.trans (vi (by omega))), (vi (by omega)), E255, h256, (by omega), hx, (.inr (cf_ix (f := gF L) hb257 (by omega) (by omega)))⟩
     refine rk_ct (T rfl (qT hb257)) <| rk_reg <| qm (qi (((i : Int) + (j : Int)) / 2)) rfl rfl <| lw_v _ (dv_add (a := ((i : Int) + (j : Int)) / 2) (b := 1) (z := (((i : Int) + (j : Int)) / 2) + 1) (Z rfl) C (wr_i64 (by omega) (by omega))) <| qs (qi ((((i : Int) + (j : Int)) / 2) + 1)) rfl rfl <| lw_nil <| rk_inBlock <| ih235 (j - ((((i + j) / 2) + 1))) _ _ (by rw [hd247]; omega) ⟨(((i + j) / 2) + 1), j, rfl, f238, f239, f240, f241, f242, (vi (by omega)), (f244.trans (vi (by omega))), E255, h256, (by omega), (.inr (cf_ixn (f := gF L) hb257 (by omega) (by omega))), hy⟩
   refine rk_cf (T rfl (qF hb248)) <| rk_exit rfl <| rk_seq <| rk_seq <| rk_reg <| qm (qi (m : Int)) rfl f240 <| qs (qi (m : Int)) rfl rfl <| lw_nil <| rk_block <| rk_loop (fun dm_ fr wl => ∃ (k : Nat) (M : List Int), dm_ = k ∧ fr 0 = .slice (some ⟨g, 0, none⟩) l c ∧ fr 1 = qi (a : Int) ∧ fr 2 = qi (m : Int) ∧ fr 3 = qi (b : Int) ∧ fr 4 = .func (.func gn) #[] cb ∧ fr 14 = qi (i : Int) ∧ fr 17 = qi (k : Int) ∧ Bx g w wl ∧ Ow wl g 2 .i64 (some ⟨g, 0, none⟩) c M ∧ (i ≤ k ∧ k ≤ m) ∧ (M.length = l) ∧ (gF M = roF (gF L) k m (m + 1))) (m) ⟨m, L, rfl, f238, f239, f240, f241, f242, f243, (vi (by omega)), E245, h246, (by omega), hLl, (roF_nl (Nat.le_succ _)).symm⟩ ?_
   intro d262 fr261 w258 hI259 ih260
   obtain ⟨k, M, hd272, f263, f264, f265, f266, f267, f268, f269, E270, h271, hk, hMl, hMf⟩ := hI259
   refine rk_seq <| rk_seq <| rk_reg <| qm (qi (k : Int)) rfl f269 <| qm (qi (i : Int)) rfl f268 <| lw_v _ (dv_gtr (a := (k : Int)) (b := (i : Int)) (Z rfl) (Z rfl)) <| lw_nil ?_
   by_cases hb273 : ((i : Int)) < ((k : Int))
   · refine rk_ct (T rfl (qT hb273)) <| rk_skip <| rk_seq <| rk_block <| rk_st2 15 17 [.slice (some ⟨g, 0, none⟩) l c, qi (k : Int), .slice (some ⟨g, 0, none⟩) l c, qi (k : Int), qi ((k : Int) - 1), .slice (some ⟨g, 0, none⟩) l c, qi (k : Int), qi ((k : Int) - 1), .pointer (some ⟨g, 0 + (((k) - 1)), none⟩), qi (M.getD (((k) - 1)) 0), .slice (some ⟨g, 0, none⟩) l c, qi (k : Int), .pointer (some ⟨g, 0 + k, none⟩), qi (M.getD k 0), .pointer (some ⟨g, 0 + k, none⟩), undef, .pointer (some ⟨g, 0 + (((k) - 1)), none⟩), undef] (fun wk => ∃ wd, Drew w258 wd ∧ Bx g wd wk ∧ Ow wk g 2 .i64 (some ⟨g, 0, none⟩) c (M.set k (M.getD (((k) - 1)) 0))) (fun wk => ∃ wd, Drew w258 wd ∧ Bx g wd wk ∧ Ow wk g 2 .i64 (some ⟨g, 0, none⟩) c (((M.set k (M.getD (((k) - 1)) 0))).set (((k) - 1)) (M.getD k 0))) mo (by kernel_rfl) ?_ ?_
     · intro w274 d275
       have E276 := bx_ext E270 d275.ext
       refine ⟨?_, ?_, ?_, ?_, ?_, ?_, ?_, ?_, ?_, ?_, ?_, ?_, ?_, ?_, ?_, ?_, ?_, ?_, trivial⟩
       · intro fr277 w278 hB279 hM280 hF281 hD282
         obtain rfl := hB279 (.inr (by kernel_rfl))
         exact DV.oe (dv_move (T rfl ((hF281 0 (by kernel_rfl)).trans f263))) (by rw [if_neg (by decide), if_neg (by decide)]; exact ⟨rfl, rfl⟩)
       · intro fr283 w284 hB285 hM286 hF287 hD288
         obtain rfl := hB285 (.inr (by kernel_rfl))
         exact DV.oe (dv_move (T rfl ((hF287 17 (by kernel_rfl)).trans f269))) (by rw [if_neg (by decide), if_neg (by decide)]; exact ⟨rfl, rfl⟩)
       · intro fr289 w290 hB291 hM292 hF293 hD294
         exact DV.oe (dv_move (T rfl ((hF293 0 (by kernel_rfl)).trans f263))) (by rw [if_neg (by decide), if_neg (by decide)]; exact ⟨rfl, rfl⟩)
       · intro fr295 w296 hB297 hM298 hF299 hD300
         exact DV.oe (dv_move (T rfl ((hF299 17 (by kernel_rfl)).trans f269))) (by rw [if_neg (by decide), if_neg (by decide)]; exact ⟨rfl, rfl⟩)
       · intro fr301 w302 hB303 hM304 hF305 hD306
         have hv307 : fr301 116 = qi (k : Int) := hD306 3 _ (by decide) rfl (by kernel_rfl)
         exact DV.oe (dv_sub (a := (k : Int)) (b := 1) (z := ((k : Int)) - 1) (T rfl hv307) C (wr_i64 (by omega) (by omega))) (by rw [if_neg (by decide), if_neg (by decide)]; exact ⟨rfl, rfl⟩)
       · intro fr308 w309 hB310 hM311 hF312 hD313
         obtain rfl := hB310 (.inr (by kernel_rfl))
         exact DV.oe (dv_move (T rfl ((hF312 0 (by kernel_rfl)).trans f263))) (by rw [if_neg (by decide), if_neg (by decide)]; exact ⟨rfl, rfl⟩)
       · intro fr314 w315 hB316 hM317 hF318 hD319
         obtain rfl := hB316 (.inr (by kernel_rfl))
         exact DV.oe (dv_move (T rfl ((hF318 17 (by kernel_rfl)).trans f269))) (by rw [if_neg (by decide), if_neg (by decide)]; exact ⟨rfl, rfl⟩)
       · intro fr320 w321 hB322 hM323 hF324 hD325
         obtain rfl := hB322 (.inr (by kernel_rfl))
         have hv326 : fr320 119 = qi (k : Int) := hD325 6 _ (by decide) rfl (by kernel_rfl)
         exact DV.oe (dv_sub (a := (k : Int)) (b := 1) (z := ((k : Int)) - 1) (T rfl hv326) C (wr_i64 (by omega) (by omega))) (by rw [if_neg (by decide), if_neg (by decide)]; exact ⟨rfl, rfl⟩)
       · intro fr327 w328 hB329 hM330 hF331 hD332
         obtain rfl := hB329 (.inr (by kernel_rfl))
         have hv333 : fr327 118 = .slice (some ⟨g, 0, none⟩) l c := hD332 5 _ (by decide) rfl (by kernel_rfl)
         have hv334 : fr327 120 = qi ((k : Int) - 1) := hD332 7 _ (by decide) rfl (by kernel_rfl)
         exact DV.oe (dv_indexW (g := g) (o := 0) (l := l) (c := c) (i := ((k) - 1)) (j := ((k : Int)) - 1) us50 sz2 (T rfl hv333) (T rfl hv334) (by omega) (by first | omega | simp <;> omega)) (by rw [if_neg (by decide), if_neg (by decide)]; exact ⟨rfl, rfl⟩)
       · intro fr335 w336 hB337 hM338 hF339 hD340
         obtain rfl := hB337 (.inr (by kernel_rfl))
         have hv341 : fr335 121 = .pointer (some ⟨g, 0 + (((k) - 1)), none⟩) := hD340 8 _ (by decide) rfl (by kernel_rfl)
         have h342 := (h271.ext d275.ext)
         exact DV.oe (dv_load agt2 (T rfl hv341) (Wd.cell h342.wd (by first | omega | simp <;> omega))) (by rw [if_neg (by decide), if_neg (by decide)]; exact ⟨rfl, rfl⟩)
       · intro fr343 w344 hB345 hM346 hF347 hD348
         exact DV.oe (dv_move (T rfl ((hF347 0 (by kernel_rfl)).trans f263))) (by rw [if_neg (by decide), if_neg (by decide)]; exact ⟨rfl, rfl⟩)
       · intro fr349 w350 hB351 hM352 hF353 hD354
         exact DV.oe (dv_move (T rfl ((hF353 17 (by kernel_rfl)).trans f269))) (by rw [if_neg (by decide), if_neg (by decide)]; exact ⟨rfl, rfl⟩)
       · intro fr355 w356 hB357 hM358 hF359 hD360
         have hv361 : fr355 123 = .slice (some ⟨g, 0, none⟩) l c := hD360 10 _ (by decide) rfl (by kernel_rfl)
         have hv362 : fr355 124 = qi (k : Int) := hD360 11 _ (by decide) rfl (by kernel_rfl)
         exact DV.oe (dv_indexW (g := g) (o := 0) (l := l) (c := c) (i := k) (j := (k : Int)) us50 sz2 (T rfl hv361) (T rfl hv362) (by omega) (by first | omega | simp <;> omega)) (by rw [if_neg (by decide), if_neg (by decide)]; exact ⟨rfl, rfl⟩)
       · intro fr363 w364 hB365 hM366 hF367 hD368
         obtain rfl := hB365 (.inr (by kernel_rfl))
         have hv369 : fr363 125 = .pointer (some ⟨g, 0 + k, none⟩) := hD368 12 _ (by decide) rfl (by kernel_rfl)
         have h370 := (h271.ext d275.ext)
         exact DV.oe (dv_load agt2 (T rfl hv369) (Wd.cell h370.wd (by first | omega | simp <;> omega))) (by rw [if_neg (by decide), if_neg (by decide)]; exact ⟨rfl, rfl⟩)
       · intro fr371 w372 hB373 hM374 hF375 hD376
         obtain rfl := hB373 (.inr (by kernel_rfl))
         have hv377 : fr371 113 = .slice (some ⟨g, 0, none⟩) l c := hD376 0 _ (by decide) rfl (by kernel_rfl)
         have hv378 : fr371 114 = qi (k : Int) := hD376 1 _ (by decide) rfl (by kernel_rfl)
         exact DV.oe (dv_indexW (g := g) (o := 0) (l := l) (c := c) (i := k) (j := (k : Int)) us50 sz2 (T rfl hv377) (T rfl hv378) (by omega) (by first | omega | simp <;> omega)) (by rw [if_neg (by decide), if_neg (by decide)]; exact ⟨rfl, rfl⟩)
       · intro fr379 w380 hB381 hM382 hF383 hD384
         obtain rfl := hB381 (.inl rfl)
         have hv385 : fr379 122 = qi (M.getD (((k) - 1)) 0) := hD384 9 _ (by decide) rfl (by kernel_rfl)
         have hv386 : fr379 127 = .pointer (some ⟨g, 0 + k, none⟩) := hD384 14 _ (by decide) rfl (by kernel_rfl)
         have h387 := (h271.ext d275.ext)
         refine oe_storeOwS (base := g) (L := M) (g := g) (o := 0) (i := k) (z := M.getD (((k) - 1)) 0) sz2 (T rfl hv386) (T rfl hv385) h387 (by first | omega | simp <;> omega) ?_
         intro w388 hO389 x390 hs391
         have E392 := E276.trans (bx_st (Bx.refl _ _) hs391)
         rw [if_pos rfl]
         exact ⟨_, d275, (bx_st (Bx.refl _ _) hs391), hO389⟩
       · intro fr393 w394 hB395 hM396 hF397 hD398
         have hv399 : fr393 115 = .slice (some ⟨g, 0, none⟩) l c := hD398 2 _ (by decide) rfl (by kernel_rfl)
         have hv400 : fr393 117 = qi ((k : Int) - 1) := hD398 4 _ (by decide) rfl (by kernel_rfl)
         exact DV.oe (dv_indexW (g := g) (o := 0) (l := l) (c := c) (i := ((k) - 1)) (j := ((k : Int)) - 1) us50 sz2 (T rfl hv399) (T rfl hv400) (by omega) (by first | omega | simp <;> omega)) (by rw [if_neg (by decide), if_neg (by decide)]; exact ⟨rfl, rfl⟩)
       intro fr401 w402 hB403 hM404 hF405 hD406
       obtain ⟨w407, d408, x409, hO410⟩ := hM404 rfl
       have E411 := bx_ext E270 d408.ext
       have E412 := E411.trans x409
       have hv413 : fr401 126 = qi (M.getD k 0) := hD406 13 _ (by decide) rfl (by kernel_rfl)
       have hv414 : fr401 128 = .pointer (some ⟨g, 0 + (((k) - 1)), none⟩) := hD406 16 _ (by decide) rfl (by kernel_rfl)
       refine oe_storeOwS (base := g) (L := (M.set k (M.getD (((k) - 1)) 0))) (g := g) (o := 0) (i := ((k) - 1)) (z := M.getD k 0) sz2 (T rfl hv414) (T rfl hv413) hO410 (by first | omega | simp <;> omega) ?_
       intro w415 hO416 x417 hs418
       have E419 := E412.trans (bx_st (Bx.refl _ _) hs418)
       rw [if_neg (by decide), if_pos rfl]
       exact ⟨_, d408, x409.trans (bx_st (Bx.refl _ _) hs418), hO416⟩
     intro fr420 w421 hK422 hF423 hP424
     obtain ⟨w425, d426, x427, hO428⟩ := hK422
     have E429 := bx_ext E270 d426.ext
     have E430 := E429.trans x427
     obtain ⟨p431, p432, p433, p434, p435, p436, p437, p438, p439, p440, p441, p442, p443, p444, p445, _, p446, _, _⟩ := hP424
     have hv447 : fr420 113 = .slice (some ⟨g, 0, none⟩) l c := p431.resolve_left (by decide)
     have hv448 : fr420 114 = qi (k : Int) := p432.resolve_left (by decide)
     have hv449 : fr420 115 = .slice (some ⟨g, 0, none⟩) l c := p433.resolve_left (by decide)
     have hv450 : fr420 116 = qi (k : Int) := p434.resolve_left (by decide)
     have hv451 : fr420 117 = qi ((k : Int) - 1) := p435.resolve_left (by decide)
     have hv452 : fr420 118 = .slice (some ⟨g, 0, none⟩) l c := p436.resolve_left (by decide)
     have hv453 : fr420 119 = qi (k : Int) := p437.resolve_left (by decide)
     have hv454 : fr420 120 = qi ((k : Int) - 1) := p438.resolve_left (by decide)
     have hv455 : fr420 121 = .pointer (some ⟨g, 0 + (((k) - 1)), none⟩) := p439.resolve_left (by decide)
     have hv456 : fr420 122 = qi (M.getD (((k) - 1)) 0) := p440.resolve_left (by decide)
     have hv457 : fr420 123 = .slice (some ⟨g, 0, none⟩) l c := p441.resolve_left (by decide)
     have hv458 : fr420 124 = qi (k : Int) := p442.resolve_left (by decide)
     have hv459 : fr420 125 = .pointer (some ⟨g, 0 + k, none⟩) := p443.resolve_left (by decide)
     have hv460 : fr420 126 = qi (M.getD k 0) := p444.resolve_left (by decide)
     have hv461 : fr420 127 = .pointer (some ⟨g, 0 + k, none⟩) := p445.resolve_left (by decide)
     have hv462 : fr420 128 = .pointer (some ⟨g, 0 + (((k) - 1)), none⟩) := p446.resolve_left (by decide)
     refine rk_inBlock <| rk_reg <| qm (qi (k : Int)) rfl ((hF423 17 rfl).trans f269) <| lw_v _ (dv_sub (a := (k : Int)) (b := 1) (z := (k : Int) - 1) (Z rfl) C (wr_i64 (by omega) (by omega))) <| qs (qi ((k : Int) - 1)) rfl rfl <| lw_nil <| ih260 (k - 1) _ _ (by rw [hd272]; omega) ⟨(k - 1), (((M.set k (M.getD (((k) - 1)) 0))).set (((k) - 1)) (M.getD k 0)), rfl, ((hF423 0 rfl).trans f263), ((hF423 1 rfl).trans f264), ((hF423 2 rfl).trans f265), ((hF423 3 rfl).trans f266), ((hF423 4 rfl).trans f267), ((hF423 14 rfl).trans f268), (vi (by omega)), E430, hO428, (by omega), (by simp [hMl]), (by rw [gF_swap _ (by omega) (by omega), hMf, roF_step2 (by omega) (by omega)])⟩
   refine rk_cf (T rfl (qF hb273)) <| rk_exit rfl <| rk_ret Try.func142 (v := .tuple #[]) (res0 Try.results142) ⟨_, rfl, ?_⟩
   obtain rfl : i = j := by omega
   obtain rfl : k = i := by omega
   have hmm : b = m + 1 := by omega
   subst hmm
   exact ⟨M, rfl, E270, h271, hMl, by rw [hMf]; exact (PM.ro _ (by omega) (by omega)).mono (by omega) (Nat.le_refl _), by rw [hMf]; exact one_r hTO hV hb hI hs1 (by omega) hx hy⟩
 refine rk_cf (T rfl (qF hb232)) <| rk_skip <| rk_seq <| rk_reg <| qm (qi (a : Int)) rfl rfl <| qm (qi (b : Int)) rfl rfl <| lw_v _ (dv_add (a := (a : Int)) (b := (b : Int)) (z := (a : Int) + (b : Int)) (Z rfl) (Z rfl) (wr_i64 (by omega) (by omega))) <| lw_v (qu ((a : Int) + (b : Int))) (dv_conv (a := (a : Int) + (b : Int)) (z := (a : Int) + (b : Int)) ui3 ui158 (Z rfl) (wn_u64 (by omega) (by omega))) <| lw_v (qu (((a : Int) + (b : Int)) / 2)) (dv_shr (a := (a : Int) + (b : Int)) (b := 1) (z := ((a : Int) + (b : Int)) / 2) (Z rfl) C (by decide) (shr_c (n := 1) (by omega) (by decide))) <| lw_v (qi (((a : Int) + (b : Int)) / 2)) (dv_conv (a := ((a : Int) + (b : Int)) / 2) (z := ((a : Int) + (b : Int)) / 2) ui158 ui3 (Z rfl) (wr_i64 (by omega) (by omega))) <| qs (qi (((a : Int) + (b : Int)) / 2)) rfl rfl <| qN <| qm (qi (((a : Int) + (b : Int)) / 2)) rfl rfl <| qm (qi (m : Int)) rfl rfl <| lw_v _ (dv_add (a := ((a : Int) + (b : Int)) / 2) (b := (m : Int)) (z := (((a : Int) + (b : Int)) / 2) + (m : Int)) (Z rfl) (Z rfl) (wr_i64 (by omega) (by omega))) <| qs (qi ((((a : Int) + (b : Int)) / 2) + (m : Int))) rfl rfl <| qN <| lw_v (qi 0) (dv_assign C) <| lw_v (qi 0) (dv_assign C) <| lw_nil <| rk_seq <| rk_seq <| rk_reg <| qm (qi (m : Int)) rfl rfl <| qm (qi (((a : Int) + (b : Int)) / 2)) rfl rfl <| lw_v _ (dv_gtr (a := (m : Int)) (b := ((a : Int) + (b : Int)) / 2) (Z rfl) (Z rfl)) <| lw_nil <| rk_join (fun fr wl => ∃ (s0 r0 : Nat), fr 0 = .slice (some ⟨g, 0, none⟩) l c ∧ fr 1 = qi (a : Int) ∧ fr 2 = qi (m : Int) ∧ fr 3 = qi (b : Int) ∧ fr 4 = .func (.func gn) #[] cb ∧ fr 18 = qi (((a : Int) + (b : Int)) / 2) ∧ fr 19 = qi ((((a : Int) + (b : Int)) / 2) + (m : Int)) ∧ fr 20 = qi (s0 : Int) ∧ fr 21 = qi (r0 : Int) ∧ Bx g w wl ∧ Ow wl g 2 .i64 (some ⟨g, 0, none⟩) c L ∧ (a ≤ s0 ∧ s0 ≤ r0 ∧ r0 ≤ m ∧ r0 ≤ ((a + b) / 2) ∧ ((a + b) / 2) + m ≤ s0 + b ∧ (s0 = a ∨ ((a + b) / 2) + m = s0 + b) ∧ (r0 = m ∨ r0 = ((a + b) / 2)))) ?_ (fun hj465 => ?_)
 · intro fr466 w463 hI464
   obtain ⟨s0, r0, f467, f468, f469, f470, f471, f472, f473, f474, f475, E476, h477, hsr⟩ := hI464
   refine rk_seq <| rk_reg <| qm (qi ((((a : Int) + (b : Int)) / 2) + (m : Int))) rfl f473 <| lw_v _ (dv_sub (a := (((a : Int) + (b : Int)) / 2) + (m : Int)) (b := 1) (z := ((((a : Int) + (b : Int)) / 2) + (m : Int)) - 1) (Z rfl) C (wr_i64 (by omega) (by omega))) <| qs (qi (((((a : Int) + (b : Int)) / 2) + (m : Int)) - 1)) rfl rfl <| lw_nil <| rk_seq <| rk_block <| rk_loop (fun dm_ fr wl => ∃ (s r : Nat), dm_ = r - s ∧ fr 0 = .slice (some ⟨g, 0, none⟩) l c ∧ fr 1 = qi (a : Int) ∧ fr 2 = qi (m : Int) ∧ fr 3 = qi (b : Int) ∧ fr 4 = .func (.func gn) #[] cb ∧ fr 18 = qi (((a : Int) + (b : Int)) / 2) ∧ fr 19 = qi ((((a : Int) + (b : Int)) / 2) + (m : Int)) ∧ fr 20 = qi (s : Int) ∧ fr 21 = qi (r : Int) ∧ fr 22 = qi (((((a : Int) + (b : Int)) / 2) + (m : Int)) - 1) ∧ Bx g w wl ∧ Ow wl g 2 .i64 (some ⟨g, 0, none⟩) c L ∧ (s0 ≤ s ∧ s ≤ r ∧ r ≤ r0) ∧ (s = s0 ∨ ¬ cf (gF L (((a + b) / 2) + m - s)) (gF L (s - 1)) < 0) ∧ (r = r0 ∨ cf (gF L (((a + b) / 2) + m - 1 - r)) (gF L r) < 0)) (r0 - s0) ⟨s0, r0, rfl, f467, f468, f469, f470, f471, f472, f473, (f474.trans (vi (by omega))), (f475.trans (vi (by omega))), rfl, E476, h477, (by omega), (.inl rfl), (.inl rfl)⟩ ?_
   intro d482 fr481 w478 hI479 ih480
   obtain ⟨s, r, hd495, f483, f484, f485, f486, f487, f488, f489, f490, f491, f492, E493, h494, hss, hx, hy⟩ := hI479
   refine rk_seq <| rk_seq <| rk_reg <| qm (qi (s : Int)) rfl f490 <| qm (qi (r : Int)) rfl f491 <| lw_v _ (dv_lss (a := (s : Int)) (b := (r : Int)) (Z rfl) (Z rfl)) <| lw_nil ?_
   by_cases hb496 : ((s : Int)) < ((r : Int))
   · refine rk_ct (T rfl (qT hb496)) <| rk_skip <| rk_block <| rk_seq <| rk_reg <| qm (qi (s : Int)) rfl f490 <| qm (qi (r : Int)) rfl f491 <| lw_v _ (dv_add (a := (s : Int)) (b := (r : Int)) (z := (s : Int) + (r : Int)) (Z rfl) (Z rfl) (wr_i64 (by omega) (by omega))) <| lw_v (qu ((s : Int) + (r : Int))) (dv_conv (a := (s : Int) + (r : Int)) (z := (s : Int) + (r : Int)) ui3 ui158 (Z rfl) (wn_u64 (by omega) (by omega))) <| lw_v (qu (((s : Int) + (r : Int)) / 2)) (dv_shr (a := (s : Int) + (r : Int)) (b := 1) (z := ((s : Int) + (r : Int)) / 2) (Z rfl) C (by decide) (shr_c (n := 1) (by omega) (by decide))) <| lw_v (qi (((s : Int) + (r : Int)) / 2)) (dv_conv (a := ((s : Int) + (r : Int)) / 2) (z := ((s : Int) + (r : Int)) / 2) ui158 ui3 (Z rfl) (wr_i64 (by omega) (by omega))) <| qs (qi (((s : Int) + (r : Int)) / 2)) rfl rfl <| lw_nil <| rk_seq <| rk_any (fun w => Wd w 2 .i64 (some ⟨g, 0, none⟩) L) [] mo ?_
     intro w497 d498
     have E499 := bx_ext E493 d498.ext
     have h500 := (h494.ext d498.ext)
     refine aw_pure 0 (.func (.func gn) #[] cb) rfl (by kernel_rfl) .none h500.wd (fun _ => dv_move (T rfl f487)) <| aw_pure 1 (.slice (some ⟨g, 0, none⟩) l c) rfl (by kernel_rfl) .none h500.wd (fun _ => dv_move (T rfl f483)) <| aw_pure 2 (qi (((((a : Int) + (b : Int)) / 2) + (m : Int)) - 1)) rfl (by kernel_rfl) .none h500.wd (fun _ => dv_move (T rfl f492)) <| aw_pure 3 (qi (((s : Int) + (r : Int)) / 2)) rfl (by kernel_rfl) .none h500.wd (fun _ => dv_move (Z rfl)) <| aw_pure 4 (qi ((((((a : Int) + (b : Int)) / 2) + (m : Int)) - 1) - (((s : Int) + (r : Int)) / 2))) rfl (by kernel_rfl) .none h500.wd (fun _ => dv_sub (a := ((((a : Int) + (b : Int)) / 2) + (m : Int)) - 1) (b := ((s : Int) + (r : Int)) / 2) (z := (((((a : Int) + (b : Int)) / 2) + (m : Int)) - 1) - (((s : Int) + (r : Int)) / 2)) (Z rfl) (Z rfl) (wr_i64 (by omega) (by omega))) <| aw_pure 5 (.pointer (some ⟨g, 0 + (((((((a) + (b)) / 2) + (m)) - 1) - (((s) + (r)) / 2))), none⟩)) rfl (by kernel_rfl) .none h500.wd (fun _ => dv_indexW (g := g) (o := 0) (l := l) (c := c) (i := ((((((a) + (b)) / 2) + (m)) - 1) - (((s) + (r)) / 2))) (j := (((((a : Int) + (b : Int)) / 2) + (m : Int)) - 1) - (((s : Int) + (r : Int)) / 2)) us50 sz2 (Z rfl) (Z rfl) (by omega) (by first | omega | simp <;> omega)) <| aw_load 6 (qi (L.getD (((((((a) + (b)) / 2) + (m)) - 1) - (((s) + (r)) / 2))) 0)) rfl (by kernel_rfl) .none h500.wd (fun _ s => dv_load agt2 (Z rfl) (Wd.cell s (by first | omega | simp <;> omega))) <| aw_pure 7 (.slice (some ⟨g, 0, none⟩) l c) rfl (by kernel_rfl) .none h500.wd (fun _ => dv_move (T rfl f483)) <| aw_pure 8 (qi (((s : Int) + (r : Int)) / 2)) rfl (by kernel_rfl) .none h500.wd (fun _ => dv_move (Z rfl)) <| aw_pure 9 (.pointer (some ⟨g, 0 + ((((s) + (r)) / 2)), none⟩)) rfl (by kernel_rfl) .none h500.wd (fun _ => dv_indexW (g := g) (o := 0) (l := l) (c := c) (i := (((s) + (r)) / 2)) (j := ((s : Int) + (r : Int)) / 2) us50 sz2 (Z rfl) (Z rfl) (by omega) (by first | omega | simp <;> omega)) <| aw_load 10 (qi (L.getD ((((s) + (r)) / 2)) 0)) rfl (by kernel_rfl) .none h500.wd (fun _ s => dv_load agt2 (Z rfl) (Wd.cell s (by first | omega | simp <;> omega))) <| aw_one 11 rfl (by kernel_rfl) .none (oe_callc (vs := [qi (L.getD (((((((a) + (b)) / 2) + (m)) - 1) - (((s) + (r)) / 2))) 0), qi (L.getD ((((s) + (r)) / 2)) 0)]) (Z rfl) hC.ok (ar2 (Z rfl) (Z rfl)) (hC.call _ _ _ (hV ((((((((a) + (b)) / 2) + (m)) - 1) - (((s) + (r)) / 2)))) (by omega)) (hV (((((s) + (r)) / 2))) (by omega)) E499) ?_)
     rintro _ w501 ⟨rfl, e502⟩
     have E503 := bx_ext E499 e502
     have h504 := (h500.ext e502)
     refine ⟨.inr h504.wd, ?_⟩
     refine aw_pure 12 (qd ((cf (L.getD (((((((a) + (b)) / 2) + (m)) - 1) - (((s) + (r)) / 2))) 0) (L.getD ((((s) + (r)) / 2)) 0)) < 0)) rfl (by kernel_rfl) .none h504.wd (fun _ => dv_lss (a := cf (L.getD (((((((a) + (b)) / 2) + (m)) - 1) - (((s) + (r)) / 2))) 0) (L.getD ((((s) + (r)) / 2)) 0)) (b := 0) (Z rfl) C) <| aw_pure 13 (qd (¬ ((cf (L.getD (((((((a) + (b)) / 2) + (m)) - 1) - (((s) + (r)) / 2))) 0) (L.getD ((((s) + (r)) / 2)) 0)) < 0))) rfl (by kernel_rfl) .none h504.wd (fun _ => dv_notd (p := (cf (L.getD (((((((a) + (b)) / 2) + (m)) - 1) - (((s) + (r)) / 2))) 0) (L.getD ((((s) + (r)) / 2)) 0)) < 0) (Z rfl)) <| aw_done (by kernel_rfl) ?_
     by_cases hb505 : (cf (L.getD (((((((a) + (b)) / 2) + (m)) - 1) - (((s) + (r)) / 2))) 0) (L.getD ((((s) + (r)) / 2)) 0)) < 0
     · refine rk_cf (T rfl (congrArg Value.bool (decide_eq_false (not_not_intro hb505)))) <| rk_reg <| qm (qi (((s : Int) + (r : Int)) / 2)) rfl rfl <| qs (qi (((s : Int) + (r : Int)) / 2)) rfl rfl <| lw_nil <| rk_inBlock <| ih480 ((((s + r) / 2)) - s) _ _ (by rw [hd495]; omega) ⟨s, ((s + r) / 2), rfl, f483, f484, f485, f486, f487, f488, f489, (f490.trans (vi (by omega))), (vi (by omega)), f492, E503, h504, (by omega), hx, (.inr (cf_ix (f := gF L) hb505 (by omega) (by omega)))⟩
     refine rk_ct (T rfl (qT hb505)) <| rk_reg <| qm (qi (((s : Int) + (r : Int)) / 2)) rfl rfl <| lw_v _ (dv_add (a := ((s : Int) + (r : Int)) / 2) (b := 1) (z := (((s : Int) + (r : Int)) / 2) + 1) (Z rfl) C (wr_i64 (by omega) (by omega))) <| qs (qi ((((s : Int) + (r : Int)) / 2) + 1)) rfl rfl <| lw_nil <| rk_inBlock <| ih480 (r - ((((s + r) / 2) + 1))) _ _ (by rw [hd495]; omega) ⟨(((s + r) / 2) + 1), r, rfl, f483, f484, f485, f486, f487, f488, f489, (vi (by omega)), (f491.trans (vi (by omega))), f492, E503, h504, (by omega), (.inr (cf_ixn (f := gF L) hb505 (by omega) (by omega))), hy⟩
   refine rk_cf (T rfl (qF hb496)) <| rk_exit rfl <| rk_seq ?_
   obtain rfl : s = r := by omega
   have hx1 : a < s → (((a + b) / 2) + m - s) < b → ¬ cf (gF L (((a + b) / 2) + m - s)) (gF L (s - 1)) < 0 := fun u1_ u2_ => hx.elim (fun h_ => absurd h_ (by omega)) (fun h_ => h_)
   have hy1 : s < m → m < (((a + b) / 2) + m - s) → cf (gF L ((((a + b) / 2) + m - s) - 1)) (gF L s) < 0 := fun u1_ u2_ => hy.elim (fun h_ => absurd h_ (by omega)) (fun h_ => cf_ix (f := gF L) h_ (by omega) rfl)
   obtain ⟨q1, q2, q3, q4, q5⟩ := ro_parts (mid := ((a + b) / 2)) (st := s) (en := (((a + b) / 2) + m - s)) hTO hV hb hI hs1 hs2 (by omega) (by omega) (by omega) hx1 hy1
   refine rk_reg <| qm (qi ((((a : Int) + (b : Int)) / 2) + (m : Int))) rfl f489 <| qm (qi (s : Int)) rfl f490 <| lw_v _ (dv_sub (a := (((a : Int) + (b : Int)) / 2) + (m : Int)) (b := (s : Int)) (z := ((((a : Int) + (b : Int)) / 2) + (m : Int)) - (s : Int)) (Z rfl) (Z rfl) (wr_i64 (by omega) (by omega))) <| qs (qi (((((a : Int) + (b : Int)) / 2) + (m : Int)) - (s : Int))) rfl rfl <| lw_nil <| rk_seq <| rk_seq <| rk_reg <| qm (qi (s : Int)) rfl f490 <| qm (qi (m : Int)) rfl f485 <| lw_v _ (dv_lss (a := (s : Int)) (b := (m : Int)) (Z rfl) (Z rfl)) <| qm (qd ((s : Int) < (m : Int))) rfl rfl ?_
   by_cases hb506 : ((s : Int)) < ((m : Int))
   · refine lw_vy (qi (m : Int)) (d := 181) rfl rfl (qT hb506) (dv_move (T rfl f485)) <| lw_vy (qi (((((a : Int) + (b : Int)) / 2) + (m : Int)) - (s : Int))) (d := 181) rfl rfl (qT hb506) (dv_move (Z rfl)) <| lw_vy (qd ((m : Int) < (((((a : Int) + (b : Int)) / 2) + (m : Int)) - (s : Int)))) (d := 181) rfl rfl (qT hb506) (dv_lss (a := (m : Int)) (b := ((((a : Int) + (b : Int)) / 2) + (m : Int)) - (s : Int)) (Z rfl) (Z rfl)) <| lw_v (qd ((m : Int) < (((((a : Int) + (b : Int)) / 2) + (m : Int)) - (s : Int)))) (dv_pick_t (T rfl (qT hb506)) (Z rfl)) <| lw_nil <| rk_join (fun fr wl => ∃ (M1 : List Int), fr 0 = .slice (some ⟨g, 0, none⟩) l c ∧ fr 1 = qi (a : Int) ∧ fr 3 = qi (b : Int) ∧ fr 4 = .func (.func gn) #[] cb ∧ fr 18 = qi (((a : Int) + (b : Int)) / 2) ∧ fr 20 = qi (s : Int) ∧ fr 24 = qi (((((a : Int) + (b : Int)) / 2) + (m : Int)) - (s : Int)) ∧ Bx g w wl ∧ Ow wl g 2 .i64 (some ⟨g, 0, none⟩) c M1 ∧ (M1.length = l) ∧ (gF M1 = roF (gF L) s m (((a + b) / 2) + m - s))) ?_ (fun hj509 => ?_)
     · intro fr510 w507 hI508
       obtain ⟨M1, f511, f512, f513, f514, f515, f516, f517, E518, h519, hM1l, hM1f⟩ := hI508
       refine rk_seq <| rk_seq ?_
       rw [← hM1f] at q1 q2 q3 q4 q5
       have hP1 : PM a b (gF L) (gF M1) := by rw [hM1f]; exact (PM.ro (gF L) (a := s) (m := m) (b := (((a + b) / 2) + m - s)) (by omega) (by omega)).mono (by omega) (by omega)
       have hV1 := hP1.V hb hV; have hI1 := hP1.inj hI (Nat.le_refl _) (Nat.le_refl _)
       refine rk_reg <| qm (qi (a : Int)) rfl f512 <| qm (qi (s : Int)) rfl f516 <| lw_v _ (dv_lss (a := (a : Int)) (b := (s : Int)) (Z rfl) (Z rfl)) <| qm (qd ((a : Int) < (s : Int))) rfl rfl ?_
       by_cases hb520 : ((a : Int)) < ((s : Int))
       · refine lw_vy (qi (s : Int)) (d := 195) rfl rfl (qT hb520) (dv_move (T rfl f516)) <| lw_vy (qi (((a : Int) + (b : Int)) / 2)) (d := 195) rfl rfl (qT hb520) (dv_move (T rfl f515)) <| lw_vy (qd ((s : Int) < (((a : Int) + (b : Int)) / 2))) (d := 195) rfl rfl (qT hb520) (dv_lss (a := (s : Int)) (b := ((a : Int) + (b : Int)) / 2) (Z rfl) (Z rfl)) <| lw_v (qd ((s : Int) < (((a : Int) + (b : Int)) / 2))) (dv_pick_t (T rfl (qT hb520)) (Z rfl)) <| lw_nil <| rk_join (fun fr wl => ∃ (M2 : List Int), fr 0 = .slice (some ⟨g, 0, none⟩) l c ∧ fr 3 = qi (b : Int) ∧ fr 4 = .func (.func gn) #[] cb ∧ fr 18 = qi (((a : Int) + (b : Int)) / 2) ∧ fr 24 = qi (((((a : Int) + (b : Int)) / 2) + (m : Int)) - (s : Int)) ∧ Bx g w wl ∧ Ow wl g 2 .i64 (some ⟨g, 0, none⟩) c M2 ∧ (M2.length = l) ∧ (PM a ((a + b) / 2) (gF M1) (gF M2)) ∧ (srt cf (gF M2) a ((a + b) / 2))) ?_ (fun hj523 => ?_)
         · intro fr524 w521 hI522
           obtain ⟨M2, f525, f526, f527, f528, f529, E530, h531, hM2l, hP2, hS2⟩ := hI522
           refine rk_seq ?_
           have hV2 := hP2.V (by omega) hV1; have hI2 := hP2.inj hI1 (Nat.le_refl _) (by omega)
           have r3 : srt cf (gF M2) ((a + b) / 2) (((a + b) / 2) + m - s) := q3.congr (fun k_ h1_ h2_ => hP2.out (.inr h1_)); have r4 : srt cf (gF M2) (((a + b) / 2) + m - s) b := q4.congr (fun k_ h1_ h2_ => hP2.out (.inr (by omega)))
           refine rk_reg <| qm (qi (((a : Int) + (b : Int)) / 2)) rfl f528 <| qm (qi (((((a : Int) + (b : Int)) / 2) + (m : Int)) - (s : Int))) rfl f529 <| lw_v _ (dv_lss (a := ((a : Int) + (b : Int)) / 2) (b := ((((a : Int) + (b : Int)) / 2) + (m : Int)) - (s : Int)) (Z rfl) (Z rfl)) <| qm (qd ((((a : Int) + (b : Int)) / 2) < (((((a : Int) + (b : Int)) / 2) + (m : Int)) - (s : Int)))) rfl rfl ?_
           by_cases hb532 : ((((a : Int)) + ((b : Int))) / 2) < ((((((a : Int)) + ((b : Int))) / 2) + ((m : Int))) - ((s : Int)))
           · refine lw_vy (qi (((((a : Int) + (b : Int)) / 2) + (m : Int)) - (s : Int))) (d := 209) rfl rfl (qT hb532) (dv_move (T rfl f529)) <| lw_vy (qi (b : Int)) (d := 209) rfl rfl (qT hb532) (dv_move (T rfl f526)) <| lw_vy (qd ((((((a : Int) + (b : Int)) / 2) + (m : Int)) - (s : Int)) < (b : Int))) (d := 209) rfl rfl (qT hb532) (dv_lss (a := ((((a : Int) + (b : Int)) / 2) + (m : Int)) - (s : Int)) (b := (b : Int)) (Z rfl) (Z rfl)) <| lw_v (qd ((((((a : Int) + (b : Int)) / 2) + (m : Int)) - (s : Int)) < (b : Int))) (dv_pick_t (T rfl (qT hb532)) (Z rfl)) <| lw_nil ?_
             by_cases hb533 : ((((((a : Int)) + ((b : Int))) / 2) + ((m : Int))) - ((s : Int))) < ((b : Int))
             · refine rk_ct (T rfl (qT hb533)) <| rk_reg <| qm (.slice (some ⟨g, 0, none⟩) l c) rfl f525 <| qm (qi (((a : Int) + (b : Int)) / 2)) rfl f528 <| qm (qi (((((a : Int) + (b : Int)) / 2) + (m : Int)) - (s : Int))) rfl f529 <| qm (qi (b : Int)) rfl f526 <| qm (.func (.func gn) #[] cb) rfl f527 <| lw_e (oe_callf (vs := [.slice (some ⟨g, 0, none⟩) l c, qi (((a : Int) + (b : Int)) / 2), qi (((((a : Int) + (b : Int)) / 2) + (m : Int)) - (s : Int)), qi (b : Int), .func (.func gn) #[] cb]) co142 (ar5 (Z rfl) (Z rfl) (Z rfl) (Z rfl) (Z rfl)) (ih _ (by omega) _ _ ((a + b) / 2) (((a + b) / 2) + m - s) b _ _ _ (Nat.le_refl _) h531 hM2l (hC.bx E530) hV2 (hI2.sub (by omega) (Nat.le_refl _)) (by omega) (by omega) (by omega) r3 r4 (by omega) (by omega) (by omega)) ?_)
               rintro _ w538 ⟨M534, rfl, e539, hO535, hMl536, hMf537⟩
               have E540 := E530.trans e539
               refine lw_nil <| rk_end Try.func142 (v := .tuple #[]) (res0 Try.results142) ⟨_, rfl, ?_⟩
               have hP3 : PM ((a + b) / 2) b (gF M2) (gF M534) := hMf537.1
               have hS3 : srt cf (gF M534) ((a + b) / 2) b := hMf537.2
               exact ⟨M534, rfl, E540, hO535, hMl536, (hP1.trans (hP2.mono (Nat.le_refl _) (by omega))).trans (hP3.mono (by omega) (Nat.le_refl _)), srt_join (mid := ((a + b) / 2)) (by omega) q5 hP2 hS2 hP3 hS3⟩
             refine rk_cf (T rfl (qF hb533)) <| rk_skip <| rk_end Try.func142 (v := .tuple #[]) (res0 Try.results142) ⟨_, rfl, ?_⟩
             have hP3 : PM ((a + b) / 2) b (gF M2) (gF M2) := (PM.refl _ _ _)
             have hS3 : srt cf (gF M2) ((a + b) / 2) b := (by first | exact r4.sub (by omega) (Nat.le_refl _) | exact r3.sub (Nat.le_refl _) (by omega))
             exact ⟨M2, rfl, E530, h531, hM2l, (hP1.trans (hP2.mono (Nat.le_refl _) (by omega))).trans (hP3.mono (by omega) (Nat.le_refl _)), srt_join (mid := ((a + b) / 2)) (by omega) q5 hP2 hS2 hP3 hS3⟩
           refine lw_no (d := 209) rfl rfl (qF hb532) <| lw_no (d := 209) rfl rfl (qF hb532) <| lw_no (d := 209) rfl rfl (qF hb532) <| lw_v (.bool false) (dv_pick_f (T rfl (qF hb532)) C) <| lw_nil <| rk_cf (Z rfl) <| rk_skip <| rk_end Try.func142 (v := .tuple #[]) (res0 Try.results142) ⟨_, rfl, ?_⟩
           have hP3 : PM ((a + b) / 2) b (gF M2) (gF M2) := (PM.refl _ _ _)
           have hS3 : srt cf (gF M2) ((a + b) / 2) b := (by first | exact r4.sub (by omega) (Nat.le_refl _) | exact r3.sub (Nat.le_refl _) (by omega))
           exact ⟨M2, rfl, E530, h531, hM2l, (hP1.trans (hP2.mono (Nat.le_refl _) (by omega))).trans (hP3.mono (by omega) (Nat.le_refl _)), srt_join (mid := ((a + b) / 2)) (by omega) q5 hP2 hS2 hP3 hS3⟩
         by_cases hb541 : ((s : Int)) < ((((a : Int)) + ((b : Int))) / 2)
         · refine rk_ct (T rfl (qT hb541)) <| rk_reg <| qm (.slice (some ⟨g, 0, none⟩) l c) rfl f511 <| qm (qi (a : Int)) rfl f512 <| qm (qi (s : Int)) rfl f516 <| qm (qi (((a : Int) + (b : Int)) / 2)) rfl f515 <| qm (.func (.func gn) #[] cb) rfl f514 <| lw_e (oe_callf (vs := [.slice (some ⟨g, 0, none⟩) l c, qi (a : Int), qi (s : Int), qi (((a : Int) + (b : Int)) / 2), .func (.func gn) #[] cb]) co142 (ar5 (Z rfl) (Z rfl) (Z rfl) (Z rfl) (Z rfl)) (ih _ (by omega) _ _ a s ((a + b) / 2) _ _ _ (Nat.le_refl _) h519 hM1l (hC.bx E518) hV1 (hI1.sub (Nat.le_refl _) (by omega)) (by omega) (by omega) (by omega) q1 q2 (by omega) (by omega) (by omega)) ?_)
           rintro _ w546 ⟨M542, rfl, e547, hO543, hMl544, hMf545⟩
           have E548 := E518.trans e547
           refine lw_nil <| hj523 _ _ ⟨M542, f511, f513, f514, f515, f517, E548, hO543, hMl544, hMf545.1, hMf545.2⟩
         refine rk_cf (T rfl (qF hb541)) <| rk_skip <| hj523 _ _ ⟨M1, f511, f513, f514, f515, f517, E518, h519, hM1l, (PM.refl _ _ _), (by first | exact q2.sub (by omega) (Nat.le_refl _) | exact q1.sub (Nat.le_refl _) (by omega))⟩
       refine lw_no (d := 195) rfl rfl (qF hb520) <| lw_no (d := 195) rfl rfl (qF hb520) <| lw_no (d := 195) rfl rfl (qF hb520) <| lw_v (.bool false) (dv_pick_f (T rfl (qF hb520)) C) <| lw_nil <| rk_join (fun fr wl => ∃ (M2 : List Int), fr 0 = .slice (some ⟨g, 0, none⟩) l c ∧ fr 3 = qi (b : Int) ∧ fr 4 = .func (.func gn) #[] cb ∧ fr 18 = qi (((a : Int) + (b : Int)) / 2) ∧ fr 24 = qi (((((a : Int) + (b : Int)) / 2) + (m : Int)) - (s : Int)) ∧ Bx g w wl ∧ Ow wl g 2 .i64 (some ⟨g, 0, none⟩) c M2 ∧ (M2.length = l) ∧ (PM a ((a + b) / 2) (gF M1) (gF M2)) ∧ (srt cf (gF M2) a ((a + b) / 2))) ?_ (fun hj551 => ?_)
       · intro fr552 w549 hI550
         obtain ⟨M2, f553, f554, f555, f556, f557, E558, h559, hM2l, hP2, hS2⟩ := hI550
         refine rk_seq ?_
         have hV2 := hP2.V (by omega) hV1; have hI2 := hP2.inj hI1 (Nat.le_refl _) (by omega)
         have r3 : srt cf (gF M2) ((a + b) / 2) (((a + b) / 2) + m - s) := q3.congr (fun k_ h1_ h2_ => hP2.out (.inr h1_)); have r4 : srt cf (gF M2) (((a + b) / 2) + m - s) b := q4.congr (fun k_ h1_ h2_ => hP2.out (.inr (by omega)))
         refine rk_reg <| qm (qi (((a : Int) + (b : Int)) / 2)) rfl f556 <| qm (qi (((((a : Int) + (b : Int)) / 2) + (m : Int)) - (s : Int))) rfl f557 <| lw_v _ (dv_lss (a := ((a : Int) + (b : Int)) / 2) (b := ((((a : Int) + (b : Int)) / 2) + (m : Int)) - (s : Int)) (Z rfl) (Z rfl)) <| qm (qd ((((a : Int) + (b : Int)) / 2) < (((((a : Int) + (b : Int)) / 2) + (m : Int)) - (s : Int)))) rfl rfl ?_
         by_cases hb560 : ((((a : Int)) + ((b : Int))) / 2) < ((((((a : Int)) + ((b : Int))) / 2) + ((m : Int))) - ((s : Int)))
         · refine lw_vy (qi (((((a : Int) + (b : Int)) / 2) + (m : Int)) - (s : Int))) (d := 209) rfl rfl (qT hb560) (dv_move (T rfl f557)) <| lw_vy (qi (b : Int)) (d := 209) rfl rfl (qT hb560) (dv_move (T rfl f554)) <| lw_vy (qd ((((((a : Int) + (b : Int)) / 2) + (m : Int)) - (s : Int)) < (b : Int))) (d := 209) rfl rfl (qT hb560) (dv_lss (a := ((((a : Int) + (b : Int)) / 2) + (m : Int)) - (s : Int)) (b := (b : Int)) (Z rfl) (Z rfl)) <| lw_v (qd ((((((a : Int) + (b : Int)) / 2) + (m : Int)) - (s : Int)) < (b : Int))) (dv_pick_t (T rfl (qT hb560)) (Z rfl)) <| lw_nil ?_
           by_cases hb561 : ((((((a : Int)) + ((b : Int))) / 2) + ((m : Int))) - ((s : Int))) < ((b : Int))
           · refine rk_ct (T rfl (qT hb561)) <| rk_reg <| qm (.slice (some ⟨g, 0, none⟩) l c) rfl f553 <| qm (qi (((a : Int) + (b : Int)) / 2)) rfl f556 <| qm (qi (((((a : Int) + (b : Int)) / 2) + (m : Int)) - (s : Int))) rfl f557 <| qm (qi (b : Int)) rfl f554 <| qm (.func (.func gn) #[] cb) rfl f555 <| lw_e (oe_callf (vs := [.slice (some ⟨g, 0, none⟩) l c, qi (((a : Int) + (b : Int)) / 2), qi (((((a : Int) + (b : Int)) / 2) + (m : Int)) - (s : Int)), qi (b : Int), .func (.func gn) #[] cb]) co142 (ar5 (Z rfl) (Z rfl) (Z rfl) (Z rfl) (Z rfl)) (ih _ (by omega) _ _ ((a + b) / 2) (((a + b) / 2) + m - s) b _ _ _ (Nat.le_refl _) h559 hM2l (hC.bx E558) hV2 (hI2.sub (by omega) (Nat.le_refl _)) (by omega) (by omega) (by omega) r3 r4 (by omega) (by omega) (by omega)) ?_)
             rintro _ w566 ⟨M562, rfl, e567, hO563, hMl564, hMf565⟩
             have E568 := E558.trans e567
             refine lw_nil <| rk_end Try.func142 (v := .tuple #[]) (res0 Try.results142) ⟨_, rfl, ?_⟩
             have hP3 : PM ((a + b) / 2) b (gF M2) (gF M562) := hMf565.1
             have hS3 : srt cf (gF M562) ((a + b) / 2) b := hMf565.2
             exact ⟨M562, rfl, E568, hO563, hMl564, (hP1.trans (hP2.mono (Nat.le_refl _) (by omega))).trans (hP3.mono (by omega) (Nat.le_refl _)), srt_join (mid := ((a + b) / 2)) (by omega) q5 hP2 hS2 hP3 hS3⟩
           refine rk_cf (T rfl (qF hb561)) <| rk_skip <| rk_end Try.func142 (v := .tuple #[]) (res0 Try.results142) ⟨_, rfl, ?_⟩
           have hP3 : PM ((a + b) / 2) b (gF M2) (gF M2) := (PM.refl _ _ _)
           have hS3 : srt cf (gF M2) ((a + b) / 2) b := (by first | exact r4.sub (by omega) (Nat.le_refl _) | exact r3.sub (Nat.le_refl _) (by omega))
           exact ⟨M2, rfl, E558, h559, hM2l, (hP1.trans (hP2.mono (Nat.le_refl _) (by omega))).trans (hP3.mono (by omega) (Nat.le_refl _)), srt_join (mid := ((a + b) / 2)) (by omega) q5 hP2 hS2 hP3 hS3⟩
         refine lw_no (d := 209) rfl rfl (qF hb560) <| lw_no (d := 209) rfl rfl (qF hb560) <| lw_no (d := 209) rfl rfl (qF hb560) <| lw_v (.bool false) (dv_pick_f (T rfl (qF hb560)) C) <| lw_nil <| rk_cf (Z rfl) <| rk_skip <| rk_end Try.func142 (v := .tuple #[]) (res0 Try.results142) ⟨_, rfl, ?_⟩
         have hP3 : PM ((a + b) / 2) b (gF M2) (gF M2) := (PM.refl _ _ _)
         have hS3 : srt cf (gF M2) ((a + b) / 2) b := (by first | exact r4.sub (by omega) (Nat.le_refl _) | exact r3.sub (Nat.le_refl _) (by omega))
         exact ⟨M2, rfl, E558, h559, hM2l, (hP1.trans (hP2.mono (Nat.le_refl _) (by omega))).trans (hP3.mono (by omega) (Nat.le_refl _)), srt_join (mid := ((a + b) / 2)) (by omega) q5 hP2 hS2 hP3 hS3⟩
       refine rk_cf (Z rfl) <| rk_skip <| hj551 _ _ ⟨M1, f511, f513, f514, f515, f517, E518, h519, hM1l, (PM.refl _ _ _), (by first | exact q2.sub (by omega) (Nat.le_refl _) | exact q1.sub (Nat.le_refl _) (by omega))⟩
     by_cases hb569 : ((m : Int)) < ((((((a : Int)) + ((b : Int))) / 2) + ((m : Int))) - ((s : Int)))
     · refine rk_ct (T rfl (qT hb569)) <| rk_reg <| qm (.slice (some ⟨g, 0, none⟩) l c) rfl f483 <| qm (qi (s : Int)) rfl f490 <| qm (qi (m : Int)) rfl f485 <| qm (qi (((((a : Int) + (b : Int)) / 2) + (m : Int)) - (s : Int))) rfl rfl <| qm (.func (.func gn) #[] cb) rfl f487 <| lw_e (oe_callf (vs := [.slice (some ⟨g, 0, none⟩) l c, qi (s : Int), qi (m : Int), qi (((((a : Int) + (b : Int)) / 2) + (m : Int)) - (s : Int)), .func (.func gn) #[] cb]) co151 (ar5 (Z rfl) (Z rfl) (Z rfl) (Z rfl) (Z rfl)) (rotR_c (a := s) (m := m) (b := ((((a) + (b)) / 2) + (m)) - (s)) h494 (by omega) hl (by omega) (by omega) (by omega) (by omega) (by omega) (by omega)) ?_)
       rintro _ w574 ⟨M570, rfl, e575, hO571, hMl572, hMf573⟩
       have E576 := E493.trans e575
       refine lw_nil <| hj509 _ _ ⟨M570, f483, f484, f486, f487, f488, f490, rfl, E576, hO571, hMl572, hMf573⟩
     refine rk_cf (T rfl (qF hb569)) <| rk_skip ?_
     exact hj509 _ _ ⟨L, f483, f484, f486, f487, f488, f490, rfl, E493, h494, hLl, (by first | rw [show s = m by omega, roF_nl (by omega)] | rw [show (((a + b) / 2) + m - s) = m by omega, roF_nr (by omega)])⟩
   refine lw_no (d := 181) rfl rfl (qF hb506) <| lw_no (d := 181) rfl rfl (qF hb506) <| lw_no (d := 181) rfl rfl (qF hb506) <| lw_v (.bool false) (dv_pick_f (T rfl (qF hb506)) C) <| lw_nil <| rk_join (fun fr wl => ∃ (M1 : List Int), fr 0 = .slice (some ⟨g, 0, none⟩) l c ∧ fr 1 = qi (a : Int) ∧ fr 3 = qi (b : Int) ∧ fr 4 = .func (.func gn) #[] cb ∧ fr 18 = qi (((a : Int) + (b : Int)) / 2) ∧ fr 20 = qi (s : Int) ∧ fr 24 = qi (((((a : Int) + (b : Int)) / 2) + (m : Int)) - (s : Int)) ∧ Bx g w wl ∧ Ow wl g 2 .i64 (some ⟨g, 0, none⟩) c M1 ∧ (M1.length = l) ∧ (gF M1 = roF (gF L) s m (((a + b) / 2) + m - s))) ?_ (fun hj579 => ?_)
   · intro fr580 w577 hI578
     obtain ⟨M1, f581, f582, f583, f584, f585, f586, f587, E588, h589, hM1l, hM1f⟩ := hI578
     refine rk_seq <| rk_seq ?_
     rw [← hM1f] at q1 q2 q3 q4 q5
     have hP1 : PM a b (gF L) (gF M1) := by rw [hM1f]; exact (PM.ro (gF L) (a := s) (m := m) (b := (((a + b) / 2) + m - s)) (by omega) (by omega)).mono (by omega) (by omega)
     have hV1 := hP1.V hb hV; have hI1 := hP1.inj hI (Nat.le_refl _) (Nat.le_refl _)
     refine rk_reg <| qm (qi (a : Int)) rfl f582 <| qm (qi (s : Int)) rfl f586 <| lw_v _ (dv_lss (a := (a : Int)) (b := (s : Int)) (Z rfl) (Z rfl)) <| qm (qd ((a : Int) < (s : Int))) rfl rfl ?_
     by_cases hb590 : ((a : Int)) < ((s : Int))
     · refine lw_vy (qi (s : Int)) (d := 195) rfl rfl (qT hb590) (dv_move (T rfl f586)) <| lw_vy (qi (((a : Int) + (b : Int)) / 2)) (d := 195) rfl rfl (qT hb590) (dv_move (T rfl f585)) <| lw_vy (qd ((s : Int) < (((a : Int) + (b : Int)) / 2))) (d := 195) rfl rfl (qT hb590) (dv_lss (a := (s : Int)) (b := ((a : Int) + (b : Int)) / 2) (Z rfl) (Z rfl)) <| lw_v (qd ((s : Int) < (((a : Int) + (b : Int)) / 2))) (dv_pick_t (T rfl (qT hb590)) (Z rfl)) <| lw_nil <| rk_join (fun fr wl => ∃ (M2 : List Int), fr 0 = .slice (some ⟨g, 0, none⟩) l c ∧ fr 3 = qi (b : Int) ∧ fr 4 = .func (.func gn) #[] cb ∧ fr 18 = qi (((a : Int) + (b : Int)) / 2) ∧ fr 24 = qi (((((a : Int) + (b : Int)) / 2) + (m : Int)) - (s : Int)) ∧ Bx g w wl ∧ Ow wl g 2 .i64 (some ⟨g, 0, none⟩) c M2 ∧ (M2.length = l) ∧ (PM a ((a + b) / 2) (gF M1) (gF M2)) ∧ (srt cf (gF M2) a ((a + b) / 2))) ?_ (fun hj593 => ?_)
       · intro fr594 w591 hI592
         obtain ⟨M2, f595, f596, f597, f598, f599, E600, h601, hM2l, hP2, hS2⟩ := hI592
         refine rk_seq ?_
         have hV2 := hP2.V (by omega) hV1; have hI2 := hP2.inj hI1 (Nat.le_refl _) (by omega)
         have r3 : srt cf (gF M2) ((a + b) / 2) (((a + b) / 2) + m - s) := q3.congr (fun k_ h1_ h2_ => hP2.out (.inr h1_)); have r4 : srt cf (gF M2) (((a + b) / 2) + m - s) b := q4.congr (fun k_ h1_ h2_ => hP2.out (.inr (by omega)))
         refine rk_reg <| qm (qi (((a : Int) + (b : Int)) / 2)) rfl f598 <| qm (qi (((((a : Int) + (b : Int)) / 2) + (m : Int)) - (s : Int))) rfl f599 <| lw_v _ (dv_lss (a := ((a : Int) + (b : Int)) / 2) (b := ((((a : Int) + (b : Int)) / 2) + (m : Int)) - (s : Int)) (Z rfl) (Z rfl)) <| qm (qd ((((a : Int) + (b : Int)) / 2) < (((((a : Int) + (b : Int)) / 2) + (m : Int)) - (s : Int)))) rfl rfl ?_
         by_cases hb602 : ((((a : Int)) + ((b : Int))) / 2) < ((((((a : Int)) + ((b : Int))) / 2) + ((m : Int))) - ((s : Int)))
         · refine lw_vy (qi (((((a : Int) + (b : Int)) / 2) + (m : Int)) - (s : Int))) (d := 209) rfl rfl (qT hb602) (dv_move (T rfl f599)) <| lw_vy (qi (b : Int)) (d := 209) rfl rfl (qT hb602) (dv_move (T rfl f596)) <| lw_vy (qd ((((((a : Int) + (b : Int)) / 2) + (m : Int)) - (s : Int)) < (b : Int))) (d := 209) rfl rfl (qT hb602) (dv_lss (a := ((((a : Int) + (b : Int)) / 2) + (m : Int)) - (s : Int)) (b := (b : Int)) (Z rfl) (Z rfl)) <| lw_v (qd ((((((a : Int) + (b : Int)) / 2) + (m : Int)) - (s : Int)) < (b : Int))) (dv_pick_t (T rfl (qT hb602)) (Z rfl)) <| lw_nil ?_
           by_cases hb603 : ((((((a : Int)) + ((b : Int))) / 2) + ((m : Int))) - ((s : Int))) < ((b : Int))
           · refine rk_ct (T rfl (qT hb603)) <| rk_reg <| qm (.slice (some ⟨g, 0, none⟩) l c) rfl f595 <| qm (qi (((a : Int) + (b : Int)) / 2)) rfl f598 <| qm (qi (((((a : Int) + (b : Int)) / 2) + (m : Int)) - (s : Int))) rfl f599 <| qm (qi (b : Int)) rfl f596 <| qm (.func (.func gn) #[] cb) rfl f597 <| lw_e (oe_callf (vs := [.slice (some ⟨g, 0, none⟩) l c, qi (((a : Int) + (b : Int)) / 2), qi (((((a : Int) + (b : Int)) / 2) + (m : Int)) - (s : Int)), qi (b : Int), .func (.func gn) #[] cb]) co142 (ar5 (Z rfl) (Z rfl) (Z rfl) (Z rfl) (Z rfl)) (ih _ (by omega) _ _ ((a + b) / 2) (((a + b) / 2) + m - s) b _ _ _ (Nat.le_refl _) h601 hM2l (hC.bx E600) hV2 (hI2.sub (by omega) (Nat.le_refl _)) (by omega) (by omega) (by omega) r3 r4 (by omega) (by omega) (by omega)) ?_)
             rintro _ w608 ⟨M604, rfl, e609, hO605, hMl606, hMf607⟩
             have E610 := E600.trans e609
             refine lw_nil <| rk_end Try.func142 (v := .tuple #[]) (res0 Try.results142) ⟨_, rfl, ?_⟩
             have hP3 : PM ((a + b) / 2) b (gF M2) (gF M604) := hMf607.1
             have hS3 : srt cf (gF M604) ((a + b) / 2) b := hMf607.2
             exact ⟨M604, rfl, E610, hO605, hMl606, (hP1.trans (hP2.mono (Nat.le_refl _) (by omega))).trans (hP3.mono (by omega) (Nat.le_refl _)), srt_join (mid := ((a + b) / 2)) (by omega) q5 hP2 hS2 hP3 hS3⟩
           refine rk_cf (T rfl (qF hb603)) <| rk_skip <| rk_end Try.func142 (v := .tuple #[]) (res0 Try.results142) ⟨_, rfl, ?_⟩
           have hP3 : PM ((a + b) / 2) b (gF M2) (gF M2) := (PM.refl _ _ _)
           have hS3 : srt cf (gF M2) ((a + b) / 2) b := (by first | exact r4.sub (by omega) (Nat.le_refl _) | exact r3.sub (Nat.le_refl _) (by omega))
           exact ⟨M2, rfl, E600, h601, hM2l, (hP1.trans (hP2.mono (Nat.le_refl _) (by omega))).trans (hP3.mono (by omega) (Nat.le_refl _)), srt_join (mid := ((a + b) / 2)) (by omega) q5 hP2 hS2 hP3 hS3⟩
         refine lw_no (d := 209) rfl rfl (qF hb602) <| lw_no (d := 209) rfl rfl (qF hb602) <| lw_no (d := 209) rfl rfl (qF hb602) <| lw_v (.bool false) (dv_pick_f (T rfl (qF hb602)) C) <| lw_nil <| rk_cf (Z rfl) <| rk_skip <| rk_end Try.func142 (v := .tuple #[]) (res0 Try.results142) ⟨_, rfl, ?_⟩
         have hP3 : PM ((a + b) / 2) b (gF M2) (gF M2) := (PM.refl _ _ _)
         have hS3 : srt cf (gF M2) ((a + b) / 2) b := (by first | exact r4.sub (by omega) (Nat.le_refl _) | exact r3.sub (Nat.le_refl _) (by omega))
         exact ⟨M2, rfl, E600, h601, hM2l, (hP1.trans (hP2.mono (Nat.le_refl _) (by omega))).trans (hP3.mono (by omega) (Nat.le_refl _)), srt_join (mid := ((a + b) / 2)) (by omega) q5 hP2 hS2 hP3 hS3⟩
       by_cases hb611 : ((s : Int)) < ((((a : Int)) + ((b : Int))) / 2)
       · refine rk_ct (T rfl (qT hb611)) <| rk_reg <| qm (.slice (some ⟨g, 0, none⟩) l c) rfl f581 <| qm (qi (a : Int)) rfl f582 <| qm (qi (s : Int)) rfl f586 <| qm (qi (((a : Int) + (b : Int)) / 2)) rfl f585 <| qm (.func (.func gn) #[] cb) rfl f584 <| lw_e (oe_callf (vs := [.slice (some ⟨g, 0, none⟩) l c, qi (a : Int), qi (s : Int), qi (((a : Int) + (b : Int)) / 2), .func (.func gn) #[] cb]) co142 (ar5 (Z rfl) (Z rfl) (Z rfl) (Z rfl) (Z rfl)) (ih _ (by omega) _ _ a s ((a + b) / 2) _ _ _ (Nat.le_refl _) h589 hM1l (hC.bx E588) hV1 (hI1.sub (Nat.le_refl _) (by omega)) (by omega) (by omega) (by omega) q1 q2 (by omega) (by omega) (by omega)) ?_)
         rintro _ w616 ⟨M612, rfl, e617, hO613, hMl614, hMf615⟩
         have E618 := E588.trans e617
         refine lw_nil <| hj593 _ _ ⟨M612, f581, f583, f584, f585, f587, E618, hO613, hMl614, hMf615.1, hMf615.2⟩
       refine rk_cf (T rfl (qF hb611)) <| rk_skip <| hj593 _ _ ⟨M1, f581, f583, f584, f585, f587, E588, h589, hM1l, (PM.refl _ _ _), (by first | exact q2.sub (by omega) (Nat.le_refl _) | exact q1.sub (Nat.le_refl _) (by omega))⟩
     refine lw_no (d := 195) rfl rfl (qF hb590) <| lw_no (d := 195) rfl rfl (qF hb590) <| lw_no (d := 195) rfl rfl (qF hb590) <| lw_v (.bool false) (dv_pick_f (T rfl (qF hb590)) C) <| lw_nil <| rk_join (fun fr wl => ∃ (M2 : List Int), fr 0 = .slice (some ⟨g, 0, none⟩) l c ∧ fr 3 = qi (b : Int) ∧ fr 4 = .func (.func gn) #[] cb ∧ fr 18 = qi (((a : Int) + (b : Int)) / 2) ∧ fr 24 = qi (((((a : Int) + (b : Int)) / 2) + (m : Int)) - (s : Int)) ∧ Bx g w wl ∧ Ow wl g 2 .i64 (some ⟨g, 0, none⟩) c M2 ∧ (M2.length = l) ∧ (PM a ((a + b) / 2) (gF M1) (gF M2)) ∧ (srt cf (gF M2) a ((a + b) / 2))) ?_ (fun hj621 => ?_)
     · intro fr622 w619 hI620
       obtain ⟨M2, f623, f624, f625, f626, f627, E628, h629, hM2l, hP2, hS2⟩ := hI620
       refine rk_seq ?_
       have hV2 := hP2.V (by omega) hV1; have hI2 := hP2.inj hI1 (Nat.le_refl _) (by omega)
       have r3 : srt cf (gF M2) ((a + b) / 2) (((a + b) / 2) + m - s) := q3.congr (fun k_ h1_ h2_ => hP2.out (.inr h1_)); have r4 : srt cf (gF M2) (((a + b) / 2) + m - s) b := q4.congr (fun k_ h1_ h2_ => hP2.out (.inr (by omega)))
       refine rk_reg <| qm (qi (((a : Int) + (b : Int)) / 2)) rfl f626 <| qm (qi (((((a : Int) + (b : Int)) / 2) + (m : Int)) - (s : Int))) rfl f627 <| lw_v _ (dv_lss (a := ((a : Int) + (b : Int)) / 2) (b := ((((a : Int) + (b : Int)) / 2) + (m : Int)) - (s : Int)) (Z rfl) (Z rfl)) <| qm (qd ((((a : Int) + (b : Int)) / 2) < (((((a : Int) + (b : Int)) / 2) + (m : Int)) - (s : Int)))) rfl rfl ?_
       by_cases hb630 : ((((a : Int)) + ((b : Int))) / 2) < ((((((a : Int)) + ((b : Int))) / 2) + ((m : Int))) - ((s : Int)))
       · refine lw_vy (qi (((((a : Int) + (b : Int)) / 2) + (m : Int)) - (s : Int))) (d := 209) rfl rfl (qT hb630) (dv_move (T rfl f627)) <| lw_vy (qi (b : Int)) (d := 209) rfl rfl (qT hb630) (dv_move (T rfl f624)) <| lw_vy (qd ((((((a : Int) + (b : Int)) / 2) + (m : Int)) - (s : Int)) < (b : Int))) (d := 209) rfl rfl (qT hb630) (dv_lss (a := ((((a : Int) + (b : Int)) / 2) + (m : Int)) - (s : Int)) (b := (b : Int)) (Z rfl) (Z rfl)) <| lw_v (qd ((((((a : Int) + (b : Int)) / 2) + (m : Int)) - (s : Int)) < (b : Int))) (dv_pick_t (T rfl (qT hb630)) (Z rfl)) <| lw_nil ?_
         by_cases hb631 : ((((((a : Int)) + ((b : Int))) / 2) + ((m : Int))) - ((s : Int))) < ((b : Int))
         · refine rk_ct (T rfl (qT hb631)) <| rk_reg <| qm (.slice (some ⟨g, 0, none⟩) l c) rfl f623 <| qm (qi (((a : Int) + (b : Int)) / 2)) rfl f626 <| qm (qi (((((a : Int) + (b : Int)) / 2) + (m : Int)) - (s : Int))) rfl f627 <| qm (qi (b : Int)) rfl f624 <| qm (.func (.func gn) #[] cb) rfl f625 <| lw_e (oe_callf (vs := [.slice (some ⟨g, 0, none⟩) l c, qi (((a : Int) + (b : Int)) / 2), qi (((((a : Int) + (b : Int)) / 2) + (m : Int)) - (s : Int)), qi (b : Int), .func (.func gn) #[] cb]) co142 (ar5 (Z rfl) (Z rfl) (Z rfl) (Z rfl) (Z rfl)) (ih _ (by omega) _ _ ((a + b) / 2) (((a + b) / 2) + m - s) b _ _ _ (Nat.le_refl _) h629 hM2l (hC.bx E628) hV2 (hI2.sub (by omega) (Nat.le_refl _)) (by omega) (by omega) (by omega) r3 r4 (by omega) (by omega) (by omega)) ?_)
           rintro _ w636 ⟨M632, rfl, e637, hO633, hMl634, hMf635⟩
           have E638 := E628.trans e637
           refine lw_nil <| rk_end Try.func142 (v := .tuple #[]) (res0 Try.results142) ⟨_, rfl, ?_⟩
           have hP3 : PM ((a + b) / 2) b (gF M2) (gF M632) := hMf635.1
           have hS3 : srt cf (gF M632) ((a + b) / 2) b := hMf635.2
           exact ⟨M632, rfl, E638, hO633, hMl634, (hP1.trans (hP2.mono (Nat.le_refl _) (by omega))).trans (hP3.mono (by omega) (Nat.le_refl _)), srt_join (mid := ((a + b) / 2)) (by omega) q5 hP2 hS2 hP3 hS3⟩
         refine rk_cf (T rfl (qF hb631)) <| rk_skip <| rk_end Try.func142 (v := .tuple #[]) (res0 Try.results142) ⟨_, rfl, ?_⟩
         have hP3 : PM ((a + b) / 2) b (gF M2) (gF M2) := (PM.refl _ _ _)
         have hS3 : srt cf (gF M2) ((a + b) / 2) b := (by first | exact r4.sub (by omega) (Nat.le_refl _) | exact r3.sub (Nat.le_refl _) (by omega))
         exact ⟨M2, rfl, E628, h629, hM2l, (hP1.trans (hP2.mono (Nat.le_refl _) (by omega))).trans (hP3.mono (by omega) (Nat.le_refl _)), srt_join (mid := ((a + b) / 2)) (by omega) q5 hP2 hS2 hP3 hS3⟩
       refine lw_no (d := 209) rfl rfl (qF hb630) <| lw_no (d := 209) rfl rfl (qF hb630) <| lw_no (d := 209) rfl rfl (qF hb630) <| lw_v (.bool false) (dv_pick_f (T rfl (qF hb630)) C) <| lw_nil <| rk_cf (Z rfl) <| rk_skip <| rk_end Try.func142 (v := .tuple #[]) (res0 Try.results142) ⟨_, rfl, ?_⟩
       have hP3 : PM ((a + b) / 2) b (gF M2) (gF M2) := (PM.refl _ _ _)
       have hS3 : srt cf (gF M2) ((a + b) / 2) b := (by first | exact r4.sub (by omega) (Nat.le_refl _) | exact r3.sub (Nat.le_refl _) (by omega))
       exact ⟨M2, rfl, E628, h629, hM2l, (hP1.trans (hP2.mono (Nat.le_refl _) (by omega))).trans (hP3.mono (by omega) (Nat.le_refl _)), srt_join (mid := ((a + b) / 2)) (by omega) q5 hP2 hS2 hP3 hS3⟩
     refine rk_cf (Z rfl) <| rk_skip <| hj621 _ _ ⟨M1, f581, f583, f584, f585, f587, E588, h589, hM1l, (PM.refl _ _ _), (by first | exact q2.sub (by omega) (Nat.le_refl _) | exact q1.sub (Nat.le_refl _) (by omega))⟩
   refine rk_cf (Z rfl) <| rk_skip ?_
   exact hj579 _ _ ⟨L, f483, f484, f486, f487, f488, f490, rfl, E493, h494, hLl, (by first | rw [show s = m by omega, roF_nl (by omega)] | rw [show (((a + b) / 2) + m - s) = m by omega, roF_nr (by omega)])⟩
 by_cases hb639 : ((((a : Int)) + ((b : Int))) / 2) < ((m : Int))
 · refine rk_ct (T rfl (qT hb639)) <| rk_seq <| rk_reg <| qm (qi ((((a : Int) + (b : Int)) / 2) + (m : Int))) rfl rfl <| qm (qi (b : Int)) rfl rfl <| lw_v _ (dv_sub (a := (((a : Int) + (b : Int)) / 2) + (m : Int)) (b := (b : Int)) (z := ((((a : Int) + (b : Int)) / 2) + (m : Int)) - (b : Int)) (Z rfl) (Z rfl) (wr_i64 (by omega) (by omega))) <| qs (qi (((((a : Int) + (b : Int)) / 2) + (m : Int)) - (b : Int))) rfl rfl <| lw_nil <| rk_reg <| qm (qi (((a : Int) + (b : Int)) / 2)) rfl rfl <| qs (qi (((a : Int) + (b : Int)) / 2)) rfl rfl <| lw_nil <| hj465 _ _ ⟨((((((a) + (b)) / 2) + (m)) - (b))), ((((a) + (b)) / 2)), rfl, rfl, rfl, rfl, rfl, rfl, rfl, (vi (by omega)), (vi (by omega)), E0, hO, (by omega)⟩
 refine rk_cf (T rfl (qF hb639)) <| rk_seq <| rk_reg <| qm (qi (a : Int)) rfl rfl <| qs (qi (a : Int)) rfl rfl <| lw_nil <| rk_reg <| qm (qi (m : Int)) rfl rfl <| qs (qi (m : Int)) rfl rfl <| lw_nil <| hj465 _ _ ⟨(a), (m), rfl, rfl, rfl, rfl, rfl, rfl, rfl, (vi (by omega)), (vi (by omega)), E0, hO, (by omega)⟩
theorem symM_all {g l c gn : Nat} {cb : Array Value} {V : Int → Prop} {cf : Int → Int → Int} (hTO : TO V cf) (hl : l ≤ 1048576) (d : Nat) : SymP Try.prog 142 2 gn cb V cf g l c d := by
 induction d using Nat.strongRecOn with
 | _ d ih =>
  intro w L a m b xa xm xb hd hO hLl hC hV hI ham hmb hb hs1 hs2 ea em eb
  subst ea em eb
  exact symM_ok hO hLl hl hC hTO hV hI ham hmb hb hs1 hs2 (fun d2 h2 => ih d2 (by omega))
set_option maxHeartbeats 4000000 in
theorem stbS_ok {w : World} {g l c gn : Nat} {cb : Array Value} {L : List Int} (hO : Ow w g 2 .i64 (some ⟨g, 0, none⟩) c L) (hLl : L.length = l) (hl : l ≤ 1048576) {V : Int → Prop} {cf : Int → Int → Int} (hC : CmpOk Try.prog gn cb V cf g w) (hTO : TO V cf) (hV : ∀ k, k < l → V (gF L k)) (hI : inj (gF L) 0 l) (h40 : l ≤ 40)  : Ct Try.prog 121 [.slice (some ⟨g, 0, none⟩) l c, .int .i64 ((l : Int)), .func (.func gn) #[] cb] w fun v w1 => ∃ M, v = .tuple #[] ∧ Bx g w w1 ∧ Ow w1 g 2 .i64 (some ⟨g, 0, none⟩) c M ∧ M.length = l ∧ PM 0 l (gF L) (gF M) ∧ srt cf (gF M) 0 l := by
 refine ct_run (n := 63) Try.func121 rfl Try.ntmps121 rfl ?_
 have E0 : Bx g w w := Bx.refl _ _
 refine rk_seq <| rk_reg <| lw_v (qi 20) (dv_assign C) <| qN <| qm (qi 20) rfl rfl <| lw_v (qi 0) (dv_assign C) <| qs (qi 20) rfl rfl <| lw_nil <| rk_seq <| rk_block <| rk_loop (fun dm_ fr wl => ∃ (p q : Nat) (M : List Int), dm_ = l + 60 - q ∧ fr 0 = .slice (some ⟨g, 0, none⟩) l c ∧ fr 1 = qi (l : Int) ∧ fr 2 = .func (.func gn) #[] cb ∧ fr 6 = qi 20 ∧ fr 7 = qi (p : Int) ∧ fr 8 = qi (q : Int) ∧ Bx g w wl ∧ Ow wl g 2 .i64 (some ⟨g, 0, none⟩) c M ∧ ((p = 0 ∧ q = 20) ∨ (p = 20 ∧ q = 40 ∧ 20 ≤ l) ∨ (p = 40 ∧ q = 60 ∧ l = 40)) ∧ (M.length = l) ∧ (PM 0 l (gF L) (gF M)) ∧ (20 ≤ p → srt cf (gF M) 0 20) ∧ (40 ≤ p → srt cf (gF M) 20 40)) (l + 60 - 20) ⟨0, 20, L, rfl, rfl, rfl, rfl, rfl, (vi (by omega)), (vi (by omega)), E0, hO, (.inl ⟨rfl, rfl⟩), hLl, (PM.refl _ _ _), (fun h_ => absurd h_ (by omega)), (fun h_ => absurd h_ (by omega))⟩ ?_
 intro d5 fr4 w1 hI2 ih3
 obtain ⟨p, q, M, hd14, f6, f7, f8, f9, f10, f11, E12, h13, hpq, hMl, hP, hS1, hS2⟩ := hI2
 refine rk_seq <| rk_seq <| rk_reg <| qm (qi (q : Int)) rfl f11 <| qm (qi (l : Int)) rfl f7 <| lw_v _ (dv_leq (a := (q : Int)) (b := (l : Int)) (Z rfl) (Z rfl)) <| lw_nil ?_
 by_cases hb15 : ((q : Int)) ≤ ((l : Int))
 · refine rk_ct (T rfl (qT hb15)) <| rk_skip <| rk_block <| rk_seq <| rk_reg <| qm (.slice (some ⟨g, 0, none⟩) l c) rfl f6 <| qm (qi (p : Int)) rfl f10 <| qm (qi (q : Int)) rfl f11 <| qm (.func (.func gn) #[] cb) rfl f8 <| lw_e (oe_callf (vs := [.slice (some ⟨g, 0, none⟩) l c, qi (p : Int), qi (q : Int), .func (.func gn) #[] cb]) co141 (ar4 (Z rfl) (Z rfl) (Z rfl) (Z rfl)) (insS_c (a := p) (b := q) h13 hMl hl (by omega) (by omega) (hC.bx E12) hTO (hP.V (Nat.le_refl _) hV) ((hP.inj hI (Nat.le_refl _) (Nat.le_refl _)).sub (by omega) (by omega)) (by omega) (by omega)) ?_)
   rintro _ w20 ⟨M16, rfl, e21, hO17, hMl18, hMf19⟩
   have E22 := E12.trans e21
   refine qN <| qm (qi (q : Int)) rfl f11 <| qs (qi (q : Int)) rfl rfl <| lw_nil <| rk_reg <| qm (qi (q : Int)) rfl f11 <| qm (qi 20) rfl f9 <| lw_v _ (dv_add (a := (q : Int)) (b := 20) (z := (q : Int) + 20) (Z rfl) (Z rfl) (wr_i64 (by omega) (by omega))) <| qs (qi ((q : Int) + 20)) rfl rfl <| lw_nil <| rk_inBlock <| ih3 (l + 60 - (q + 20)) _ _ (by rw [hd14]; omega) ⟨q, (q + 20), M16, rfl, f6, f7, f8, f9, (vi (by omega)), (vi (by omega)), E22, hO17, (by omega), hMl18, (hP.trans (hMf19.1.mono (Nat.zero_le _) (by omega))), (fun _ => by rcases hpq with ⟨h1_, h2_⟩ | ⟨h1_, h2_, h3_⟩ | ⟨h1_, h2_, h3_⟩ <;> subst h1_ <;> subst h2_ <;> first | exact hMf19.2 | exact (hS1 (by omega)).congr (fun k_ _ _ => hMf19.1.out (by omega)) | (exfalso; omega)), (fun _ => by rcases hpq with ⟨h1_, h2_⟩ | ⟨h1_, h2_, h3_⟩ | ⟨h1_, h2_, h3_⟩ <;> subst h1_ <;> subst h2_ <;> first | exact hMf19.2 | (exfalso; omega))⟩
 refine rk_cf (T rfl (qF hb15)) <| rk_exit rfl <| rk_seq <| rk_reg <| qm (.slice (some ⟨g, 0, none⟩) l c) rfl f6 <| qm (qi (p : Int)) rfl f10 <| qm (qi (l : Int)) rfl f7 <| qm (.func (.func gn) #[] cb) rfl f8 <| lw_e (oe_callf (vs := [.slice (some ⟨g, 0, none⟩) l c, qi (p : Int), qi (l : Int), .func (.func gn) #[] cb]) co141 (ar4 (Z rfl) (Z rfl) (Z rfl) (Z rfl)) (insS_c (a := p) (b := l) h13 hMl hl (by omega) (by omega) (hC.bx E12) hTO (hP.V (Nat.le_refl _) hV) ((hP.inj hI (Nat.le_refl _) (Nat.le_refl _)).sub (by omega) (by omega)) (by omega) (by omega)) ?_)
 rintro _ w27 ⟨M23, rfl, e28, hO24, hMl25, hMf26⟩
 have E29 := E12.trans e28
 refine lw_nil <| rk_block ?_
 have hT : srt cf (gF M23) 0 (min 20 l) ∧ srt cf (gF M23) 20 l := by
  rcases hpq with ⟨h1_, h2_⟩ | ⟨h1_, h2_, h3_⟩ | ⟨h1_, h2_, h3_⟩
  · subst h1_; exact ⟨hMf26.2.sub (Nat.le_refl _) (by omega), srt_1 (by omega)⟩
  · subst h1_; exact ⟨((hS1 (by omega)).congr (fun k_ _ _ => hMf26.1.out (by omega))).sub (Nat.le_refl _) (by omega), hMf26.2⟩
  subst h1_; exact ⟨((hS1 (by omega)).congr (fun k_ _ _ => hMf26.1.out (by omega))).sub (Nat.le_refl _) (by omega), ((hS2 (by omega)).congr (fun k_ _ _ => hMf26.1.out (by omega))).sub (Nat.le_refl _) (by omega)⟩
 refine rk_loop (fun dm_ fr wl => ∃ (s : Nat) (M2 : List Int), dm_ = 80 - s ∧ fr 0 = .slice (some ⟨g, 0, none⟩) l c ∧ fr 1 = qi (l : Int) ∧ fr 2 = .func (.func gn) #[] cb ∧ fr 6 = qi (s : Int) ∧ Bx g w wl ∧ Ow wl g 2 .i64 (some ⟨g, 0, none⟩) c M2 ∧ (s = 20 ∨ s = 40) ∧ (M2.length = l) ∧ (PM 0 l (gF L) (gF M2)) ∧ (s = 20 → srt cf (gF M2) 0 (min 20 l) ∧ srt cf (gF M2) 20 l) ∧ (s = 40 → srt cf (gF M2) 0 l)) (80 - 20) ⟨20, M23, rfl, f6, f7, f8, (f9.trans (vi (by omega))), E29, hO24, (.inl rfl), hMl25, (hP.trans (hMf26.1.mono (Nat.zero_le _) (Nat.le_refl _))), (fun _ => hT), (fun h_ => absurd h_ (by omega))⟩ ?_
 intro d34 fr33 w30 hI31 ih32
 obtain ⟨s, M2, hd41, f35, f36, f37, f38, E39, h40, hs, hM2l, hP2, hT1, hT2⟩ := hI31
 refine rk_seq <| rk_seq <| rk_reg <| qm (qi (s : Int)) rfl f38 <| qm (qi (l : Int)) rfl f36 <| lw_v _ (dv_lss (a := (s : Int)) (b := (l : Int)) (Z rfl) (Z rfl)) <| lw_nil ?_
 by_cases hb42 : ((s : Int)) < ((l : Int))
 · refine rk_ct (T rfl (qT hb42)) <| rk_skip <| rk_block <| rk_seq <| rk_reg <| qm (qi (s : Int)) rfl f38 <| lw_v _ (dv_mul (a := 2) (b := (s : Int)) (z := 2 * (s : Int)) C (Z rfl) (wr_i64 (by omega) (by omega))) <| lw_v (qi 0) (dv_assign C) <| qs (qi (2 * (s : Int))) rfl rfl <| lw_nil <| rk_seq <| rk_block ?_
   have hT3 := (hT1 (by omega)).1; rw [Nat.min_eq_left (by omega)] at hT3
   refine rk_loop (fun dm_ fr wl => ∃ (p4 q4 : Nat) (M3 : List Int), dm_ = 80 - q4 ∧ fr 0 = .slice (some ⟨g, 0, none⟩) l c ∧ fr 1 = qi (l : Int) ∧ fr 2 = .func (.func gn) #[] cb ∧ fr 6 = qi (s : Int) ∧ fr 7 = qi (p4 : Int) ∧ fr 8 = qi (q4 : Int) ∧ fr 28 = qi (s : Int) ∧ fr 29 = qi (l : Int) ∧ fr 30 = qd ((s : Int) < (l : Int)) ∧ fr 31 = qi (s : Int) ∧ fr 32 = qi (2 * (s : Int)) ∧ Bx g w wl ∧ Ow wl g 2 .i64 (some ⟨g, 0, none⟩) c M3 ∧ ((p4 = 0 ∧ q4 = 40) ∨ (p4 = 40 ∧ q4 = 80 ∧ l = 40)) ∧ (M3.length = l) ∧ (PM 0 l (gF L) (gF M3)) ∧ (p4 = 0 → srt cf (gF M3) 0 20 ∧ srt cf (gF M3) 20 l) ∧ (p4 = 40 → srt cf (gF M3) 0 l)) (80 - 40) ⟨0, 40, M2, rfl, f35, f36, f37, f38, (vi (by omega)), (vi (by omega)), rfl, rfl, rfl, rfl, rfl, E39, h40, (.inl ⟨rfl, rfl⟩), hM2l, hP2, (fun _ => ⟨hT3, (hT1 (by omega)).2⟩), (fun h_ => absurd h_ (by omega))⟩ ?_
   intro d47 fr46 w43 hI44 ih45
   obtain ⟨p4, q4, M3, hd61, f48, f49, f50, f51, f52, f53, f54, f55, f56, f57, f58, E59, h60, hpq2, hM3l, hP3, hU1, hU2⟩ := hI44
   refine rk_seq <| rk_seq <| rk_reg <| qm (qi (q4 : Int)) rfl f53 <| qm (qi (l : Int)) rfl f49 <| lw_v _ (dv_leq (a := (q4 : Int)) (b := (l : Int)) (Z rfl) (Z rfl)) <| lw_nil ?_
   by_cases hb62 : ((q4 : Int)) ≤ ((l : Int))
   · refine rk_ct (T rfl (qT hb62)) <| rk_skip <| rk_block <| rk_seq <| rk_reg <| qm (.slice (some ⟨g, 0, none⟩) l c) rfl f48 <| qm (qi (p4 : Int)) rfl f52 <| qm (qi (p4 : Int)) rfl f52 <| qm (qi (s : Int)) rfl f51 <| lw_v _ (dv_add (a := (p4 : Int)) (b := (s : Int)) (z := (p4 : Int) + (s : Int)) (Z rfl) (Z rfl) (wr_i64 (by omega) (by omega))) <| qm (qi (q4 : Int)) rfl f53 <| qm (.func (.func gn) #[] cb) rfl f50 <| lw_e (oe_callf (vs := [.slice (some ⟨g, 0, none⟩) l c, qi (p4 : Int), qi ((p4 : Int) + (s : Int)), qi (q4 : Int), .func (.func gn) #[] cb]) co142 (ar5 (Z rfl) (Z rfl) (Z rfl) (Z rfl) (Z rfl)) (symM_all hTO hl _ _ _ 0 20 40 _ _ _ (Nat.le_refl _) h60 hM3l (hC.bx E59) (hP3.V (Nat.le_refl _) hV) ((hP3.inj hI (Nat.le_refl _) (Nat.le_refl _)).sub (Nat.le_refl _) (by omega)) (by omega) (by omega) (by omega) (hU1 (by omega)).1 ((hU1 (by omega)).2.sub (Nat.le_refl _) (by omega)) (by omega) (by omega) (by omega)) ?_)
     rintro _ w67 ⟨M63, rfl, e68, hO64, hMl65, hMf66⟩
     have E69 := E59.trans e68
     refine qN <| qm (qi (q4 : Int)) rfl f53 <| qs (qi (q4 : Int)) rfl rfl <| lw_nil <| rk_reg <| qm (qi (q4 : Int)) rfl f53 <| qm (qi (s : Int)) rfl f51 <| lw_v _ (dv_mul (a := 2) (b := (s : Int)) (z := 2 * (s : Int)) C (Z rfl) (wr_i64 (by omega) (by omega))) <| lw_v _ (dv_add (a := (q4 : Int)) (b := 2 * (s : Int)) (z := (q4 : Int) + (2 * (s : Int))) (Z rfl) (Z rfl) (wr_i64 (by omega) (by omega))) <| qs (qi ((q4 : Int) + (2 * (s : Int)))) rfl rfl <| lw_nil <| rk_inBlock <| ih45 (80 - 80) _ _ (by rw [hd61]; omega) ⟨40, 80, M63, rfl, f48, f49, f50, f51, (vi (by omega)), (vi (by omega)), f54, f55, f56, f57, f58, E69, hO64, (.inr ⟨rfl, rfl, by omega⟩), hMl65, (hP3.trans (hMf66.1.mono (Nat.le_refl _) (by omega))), (fun h_ => absurd h_ (by omega)), (fun _ => hMf66.2.sub (Nat.le_refl _) (by omega))⟩
   refine rk_cf (T rfl (qF hb62)) <| rk_exit rfl <| rk_seq <| rk_seq <| rk_reg <| qm (qi (p4 : Int)) rfl f52 <| qm (qi (s : Int)) rfl f51 <| lw_v _ (dv_add (a := (p4 : Int)) (b := (s : Int)) (z := (p4 : Int) + (s : Int)) (Z rfl) (Z rfl) (wr_i64 (by omega) (by omega))) <| qs (qi ((p4 : Int) + (s : Int))) rfl rfl <| qN <| qm (qi ((p4 : Int) + (s : Int))) rfl rfl <| qm (qi (l : Int)) rfl f49 <| lw_v _ (dv_lss (a := (p4 : Int) + (s : Int)) (b := (l : Int)) (Z rfl) (Z rfl)) <| lw_nil ?_
   by_cases hb70 : (((p4 : Int)) + ((s : Int))) < ((l : Int))
   · refine rk_ct (T rfl (qT hb70)) <| rk_reg <| qm (.slice (some ⟨g, 0, none⟩) l c) rfl f48 <| qm (qi (p4 : Int)) rfl f52 <| qm (qi ((p4 : Int) + (s : Int))) rfl rfl <| qm (qi (l : Int)) rfl f49 <| qm (.func (.func gn) #[] cb) rfl f50 <| lw_e (oe_callf (vs := [.slice (some ⟨g, 0, none⟩) l c, qi (p4 : Int), qi ((p4 : Int) + (s : Int)), qi (l : Int), .func (.func gn) #[] cb]) co142 (ar5 (Z rfl) (Z rfl) (Z rfl) (Z rfl) (Z rfl)) (symM_all hTO hl _ _ _ 0 20 l _ _ _ (Nat.le_refl _) h60 hM3l (hC.bx E59) (hP3.V (Nat.le_refl _) hV) ((hP3.inj hI (Nat.le_refl _) (Nat.le_refl _)).sub (Nat.le_refl _) (by omega)) (by omega) (by omega) (by omega) (hU1 (by omega)).1 ((hU1 (by omega)).2.sub (Nat.le_refl _) (by omega)) (by omega) (by omega) (by omega)) ?_)
     rintro _ w75 ⟨M71, rfl, e76, hO72, hMl73, hMf74⟩
     have E77 := E59.trans e76
     refine lw_nil <| rk_reg <| qm (qi (s : Int)) rfl f51 <| lw_v _ (dv_mul (a := (s : Int)) (b := 2) (z := (s : Int) * 2) (Z rfl) C (wr_i64 (by omega) (by omega))) <| qs (qi ((s : Int) * 2)) rfl rfl <| lw_nil <| rk_inBlock <| ih32 (80 - 40) _ _ (by rw [hd41]; omega) ⟨40, M71, rfl, f48, f49, f50, (vi (by omega)), E77, hO72, (.inr rfl), hMl73, (hP3.trans (hMf74.1.mono (Nat.le_refl _) (Nat.le_refl _))), (fun h_ => absurd h_ (by omega)), (fun _ => hMf74.2)⟩
   refine rk_cf (T rfl (qF hb70)) <| rk_skip <| rk_reg <| qm (qi (s : Int)) rfl f51 <| lw_v _ (dv_mul (a := (s : Int)) (b := 2) (z := (s : Int) * 2) (Z rfl) C (wr_i64 (by omega) (by omega))) <| qs (qi ((s : Int) * 2)) rfl rfl <| lw_nil <| rk_inBlock <| ih32 (80 - 40) _ _ (by rw [hd41]; omega) ⟨40, M3, rfl, f48, f49, f50, (vi (by omega)), E59, h60, (.inr rfl), hM3l, hP3, (fun h_ => absurd h_ (by omega)), (fun _ => hU2 (by omega))⟩
 refine rk_cf (T rfl (qF hb42)) <| rk_exit rfl <| rk_end Try.func121 (v := .tuple #[]) (res0 Try.results121) ⟨_, rfl, ?_⟩
 exact ⟨M2, rfl, E39, h40, hM2l, hP2, by rcases hs with hs | hs <;> first | exact hT2 hs | exact (hT1 hs).1.sub (Nat.le_refl _) (by omega)⟩
set_option maxHeartbeats 1000000 in
theorem srtStb_ok {w : World} {g l c gn : Nat} {cb : Array Value} {L : List Int} (hO : Ow w g 2 .i64 (some ⟨g, 0, none⟩) c L) (hLl : L.length = l) (hl : l ≤ 1048576) {V : Int → Prop} {cf : Int → Int → Int} (hC : CmpOk Try.prog gn cb V cf g w) (hTO : TO V cf) (hV : ∀ k, k < l → V (gF L k)) (hI : inj (gF L) 0 l) (h40 : l ≤ 40)  : Ct Try.prog 75 [.slice (some ⟨g, 0, none⟩) l c, .func (.func gn) #[] cb] w fun v w1 => ∃ M, v = .tuple #[] ∧ Bx g w w1 ∧ Ow w1 g 2 .i64 (some ⟨g, 0, none⟩) c M ∧ M.length = l ∧ PM 0 l (gF L) (gF M) ∧ srt cf (gF M) 0 l := by
 refine ct_run (n := 9) Try.func75 rfl Try.ntmps75 rfl ?_
 have E0 : Bx g w w := Bx.refl _ _
 refine rk_reg <| qm (.slice (some ⟨g, 0, none⟩) l c) rfl rfl <| qm (.slice (some ⟨g, 0, none⟩) l c) rfl rfl <| lw_v (qi (l : Int)) (dv_len (ad := some ⟨g, 0, none⟩) (l := l) (c := c) us50 (Z rfl)) <| qm (.func (.func gn) #[] cb) rfl rfl <| lw_e (oe_callf (vs := [.slice (some ⟨g, 0, none⟩) l c, qi (l : Int), .func (.func gn) #[] cb]) co121 (ar3 (Z rfl) (Z rfl) (Z rfl)) (stbS_ok hO hLl hl hC hTO hV hI h40) ?_)
 rintro _ w5 ⟨M1, rfl, e6, hO2, hMl3, hMf4⟩
 have E7 := E0.trans e6
 refine lw_nil <| rk_end Try.func75 (v := .tuple #[]) (res0 Try.results75) ⟨_, rfl, ?_⟩
 exact ⟨_, rfl, E7, hO2, hMl3, hMf4⟩
set_option maxHeartbeats 1000000 in
theorem ircmp_ok {w : World}  {na : Bool} {Aa : Option Addr} {la ca : Nat} {x : Int} {sx : Nat} (ha : Num 64 36 .u64 w na Aa la ca x sx) {nb : Bool} {Ab : Option Addr} {lb cb : Nat} {y : Int} {sy : Nat} (hb : Num 64 36 .u64 w nb Ab lb cb y sy) {nm : Bool} {Am : Option Addr} {lm cm : Nat} {p : Int} {sp : Nat} (hm : Num 64 36 .u64 w nm Am lm cm p sp) {nn : Bool} {An : Option Addr} {ln cn : Nat} {q : Int} {sq : Nat} (hn : Num 64 36 .u64 w nn An ln cn q sq) (hbsx : sx ≤ 100000) (hbsy : sy ≤ 100000) (hbsp : sp ≤ 100000) (hbsq : sq ≤ 100000)  : Ct Try.prog 78 [.agg #[.bool na, .slice Aa la ca, .bool nb, .slice Ab lb cb], .agg #[.bool nm, .slice Am lm cm, .bool nn, .slice An ln cn]] w fun v w1 => v = .int .i64 (sgnI (x * q - p * y)) ∧ Ext w w1 := by
 refine ct_run (n := 16) Try.func78 rfl Try.ntmps78 rfl ?_
 have E0 : Below w.heap.size w w := Below.refl _ _
 have lha := ql ha
 have lhb := ql hb
 have lhm := ql hm
 have lhn := ql hn
 refine rk_seq <| rk_reg <| lw_e (oe_box (v := .agg #[.bool na, .slice Aa la ca, .bool nb, .slice Ab lb cb]) (cs := #[.bool na, .slice Aa la ca, .bool nb, .slice Ab lb cb]) (Z rfl) rfl ?_)
 intro b1 w2 n3
 have N4 : w.heap.size ≤ b1 := n3.eq ▸ E0.size
 have E5 := qe E0 n3.ext
 refine lw_e (oe_box (v := .agg #[.bool nm, .slice Am lm cm, .bool nn, .slice An ln cn]) (cs := #[.bool nm, .slice Am lm cm, .bool nn, .slice An ln cn]) (Z rfl) rfl ?_)
 intro b6 w7 n8
 have N9 : w.heap.size ≤ b6 := n8.eq ▸ E5.size
 have : b1 < b6 := n8.eq ▸ lt_of_blk n3.blk
 have E10 := qe E5 n8.ext
 refine lw_v (qi 0) (dv_assign C) <| lw_nil <| rk_seq <| rk_any (fun w => w.heap[b1]? = some (.cells #[.bool na, .slice Aa la ca, .bool nb, .slice Ab lb cb] 115) ∧ w.heap[b6]? = some (.cells #[.bool nm, .slice Am lm cm, .bool nn, .slice An ln cn] 115)) [11] mo ?_
 intro w11 d12
 have E13 := qe E10 d12.ext
 have H14 := (d12.ext.blk (n8.ext.blk n3.blk))
 have H15 := (d12.ext.blk n8.blk)
 refine aw_pure 0 (.pointer (some ⟨b1, 0, none⟩)) rfl (by kernel_rfl) .none ⟨H14, H15⟩ (fun _ => dv_fieldAddr (a := ⟨b1, 0, none⟩) (a' := ⟨b1, 0, none⟩) fo115_0 (Z rfl) rfl) <| aw_load 1 (.agg #[.bool na, .slice Aa la ca]) rfl (by kernel_rfl) .none ⟨H14, H15⟩ (fun _ s => dv_loads (l := [.bool na, .slice Aa la ca]) agt107 sz107 (Z rfl) s.1 rfl) <| aw_pure 2 (.pointer (some ⟨b6, 2, none⟩)) rfl (by kernel_rfl) .none ⟨H14, H15⟩ (fun _ => dv_fieldAddr (a := ⟨b6, 0, none⟩) (a' := ⟨b6, 2, none⟩) fo115_1 (Z rfl) rfl) <| aw_load 3 (.agg #[.bool nn, .slice An ln cn]) rfl (by kernel_rfl) .none ⟨H14, H15⟩ (fun _ s => dv_loads (l := [.bool nn, .slice An ln cn]) agt107 sz107 (Z rfl) s.2 rfl) <| aw_pure 5 (.pointer (some ⟨b6, 0, none⟩)) rfl (by kernel_rfl) .none ⟨H14, H15⟩ (fun _ => dv_fieldAddr (a := ⟨b6, 0, none⟩) (a' := ⟨b6, 0, none⟩) fo115_0 (Z rfl) rfl) <| aw_load 6 (.agg #[.bool nm, .slice Am lm cm]) rfl (by kernel_rfl) .none ⟨H14, H15⟩ (fun _ s => dv_loads (l := [.bool nm, .slice Am lm cm]) agt107 sz107 (Z rfl) s.2 rfl) <| aw_pure 7 (.pointer (some ⟨b1, 2, none⟩)) rfl (by kernel_rfl) .none ⟨H14, H15⟩ (fun _ => dv_fieldAddr (a := ⟨b1, 0, none⟩) (a' := ⟨b1, 2, none⟩) fo115_1 (Z rfl) rfl) <| aw_load 8 (.agg #[.bool nb, .slice Ab lb cb]) rfl (by kernel_rfl) .none ⟨H14, H15⟩ (fun _ s => dv_loads (l := [.bool nb, .slice Ab lb cb]) agt107 sz107 (Z rfl) s.1 rfl) ?_
 have h16 := (((ha.ext n3.ext).ext n8.ext).ext d12.ext)
 have h17 := (((hn.ext n3.ext).ext n8.ext).ext d12.ext)
 refine aw_one 4 rfl (by kernel_rfl) .none (oe_callf (vs := [.agg #[.bool na, .slice Aa la ca], .agg #[.bool nn, .slice An ln cn]]) co71 (ar2 (Z rfl) (Z rfl)) (nby_ok h16 h17 (by first | decide | omega) (by first | decide | omega)) ?_)
 rintro _ w23 ⟨nr18, A19, n20, c21, rfl, e24, h22⟩
 have E25 := qe E13 e24
 have lh22 := ql h22
 have H26 := (e24.blk H14)
 have H27 := (e24.blk H15)
 refine ⟨.inr ⟨H26, H27⟩, ?_⟩
 have h28 := ((((hm.ext n3.ext).ext n8.ext).ext d12.ext).ext e24)
 have h29 := ((((hb.ext n3.ext).ext n8.ext).ext d12.ext).ext e24)
 refine aw_one 9 rfl (by kernel_rfl) .none (oe_callf (vs := [.agg #[.bool nm, .slice Am lm cm], .agg #[.bool nb, .slice Ab lb cb]]) co71 (ar2 (Z rfl) (Z rfl)) (nby_ok h28 h29 (by first | decide | omega) (by first | decide | omega)) ?_)
 rintro _ w35 ⟨nr30, A31, n32, c33, rfl, e36, h34⟩
 have E37 := qe E25 e36
 have lh34 := ql h34
 have H38 := (e36.blk H26)
 have H39 := (e36.blk H27)
 refine ⟨.inr ⟨H38, H39⟩, ?_⟩
 have h40 := (h22.ext e36)
 refine aw_one 10 rfl (by kernel_rfl) .none (oe_callf (vs := [.agg #[.bool nr18, .slice A19 n20 c21], .agg #[.bool nr30, .slice A31 n32 c33]]) co69 (ar2 (Z rfl) (Z rfl)) (ncmp_ok h40 h34 (by first | decide | omega) (by first | decide | omega)) ?_)
 rintro _ w41 ⟨rfl, e42⟩
 have E43 := qe E37 e42
 have H44 := (e42.blk H38)
 have H45 := (e42.blk H39)
 refine ⟨.inr ⟨H44, H45⟩, ?_⟩
 refine aw_last 11 (qi (sgnI ((x * q) - (p * y)))) rfl (by kernel_rfl) .none (fun _ => dv_assign (Z rfl)) <| aw_done (by kernel_rfl) <| rk_ret Try.func78 (v := qi (sgnI ((x * q) - (p * y)))) (res1 Try.results78 (rv_tmp rfl rfl)) ⟨_, rfl, ?_⟩
 exact ⟨(vi (by rfl)), E43⟩
end Go.Proofs.Ytmbpomcbdopgnaa.W
