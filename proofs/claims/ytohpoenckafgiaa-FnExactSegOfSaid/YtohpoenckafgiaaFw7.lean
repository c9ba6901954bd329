/- Small equations between values. -/
import Derived.Test.YtohpoenckafgiaaFw6
set_option linter.unusedVariables false
namespace Go.Proofs.Ytohpoenckafgiaa.Fw
open Go Go.RowKit
theorem vt {q : Prop} [Decidable q] (h : q) : Value.bool true = Value.bool (decide q) := by rw [decide_eq_true h]
theorem vf {q : Prop} [Decidable q] (h : ¬ q) : Value.bool false = Value.bool (decide q) := by rw [decide_eq_false h]
theorem vb {p q : Prop} [Decidable p] [Decidable q] (h : p ↔ q) : Value.bool (decide p) = Value.bool (decide q) := by congr 1; exact decide_eq_decide.2 h
theorem vbb {b : Bool} {q : Prop} [Decidable q] (h : b = true ↔ q) : Value.bool b = Value.bool (decide q) := by
  congr 1
  by_cases hq : q
  · rw [decide_eq_true hq]; exact h.2 hq
  · rw [decide_eq_false hq, ← Bool.not_eq_true]; exact fun hb => hq (h.1 hb)
theorem vbt {p : Prop} [Decidable p] (h : p) : Value.bool (decide p) = Value.bool true := by rw [decide_eq_true h]
theorem vbf {p : Prop} [Decidable p] (h : ¬ p) : Value.bool (decide p) = Value.bool false := by rw [decide_eq_false h]
theorem vi {k : IntKind} {a b : Int} (h : a = b) : Value.int k a = Value.int k b := by rw [h]
theorem tu2 {a b a' b' : Value} (h1 : a = a') (h2 : b = b') : Value.tuple #[a, b] = Value.tuple #[a', b'] := by rw [h1, h2]
theorem tu3 {a b c a' b' c' : Value} (h1 : a = a') (h2 : b = b') (h3 : c = c') : Value.tuple #[a, b, c] = Value.tuple #[a', b', c'] := by rw [h1, h2, h3]
theorem ag1 {a a' : Value} (h1 : a = a') : Value.agg #[a] = Value.agg #[a'] := by rw [h1]
theorem ag2 {a b a' b' : Value} (h1 : a = a') (h2 : b = b') : Value.agg #[a, b] = Value.agg #[a', b'] := by rw [h1, h2]
theorem ag3 {a b c a' b' c' : Value} (h1 : a = a') (h2 : b = b') (h3 : c = c') : Value.agg #[a, b, c] = Value.agg #[a', b', c'] := by rw [h1, h2, h3]
theorem ag4 {a b c d a' b' c' d' : Value} (h1 : a = a') (h2 : b = b') (h3 : c = c') (h4 : d = d') : Value.agg #[a, b, c, d] = Value.agg #[a', b', c', d'] := by rw [h1, h2, h3, h4]
theorem ag8 {a b c d e f g h a' b' c' d' e' f' g' h' : Value} (h1 : a = a') (h2 : b = b') (h3 : c = c') (h4 : d = d') (h5 : e = e') (h6 : f = f') (h7 : g = g') (h8 : h = h') :
    Value.agg #[a, b, c, d, e, f, g, h] = Value.agg #[a', b', c', d', e', f', g', h'] := by rw [h1, h2, h3, h4, h5, h6, h7, h8]
theorem ag12 {a b c d e f g h i j k l a' b' c' d' e' f' g' h' i' j' k' l' : Value} (h1 : a = a') (h2 : b = b') (h3 : c = c') (h4 : d = d') (h5 : e = e') (h6 : f = f') (h7 : g = g') (h8 : h = h') (h9 : i = i') (h10 : j = j') (h11 : k = k') (h12 : l = l') :
    Value.agg #[a, b, c, d, e, f, g, h, i, j, k, l] = Value.agg #[a', b', c', d', e', f', g', h', i', j', k', l'] := by rw [h1, h2, h3, h4, h5, h6, h7, h8, h9, h10, h11, h12]
theorem wr_i64 {x : Int} (h0 : -9223372036854775808 ≤ x) (h1 : x ≤ 9223372036854775807) : IntKind.i64.wrap x = x := by rw [IntKind.wrap_i64]; omega
end Go.Proofs.Ytohpoenckafgiaa.Fw
