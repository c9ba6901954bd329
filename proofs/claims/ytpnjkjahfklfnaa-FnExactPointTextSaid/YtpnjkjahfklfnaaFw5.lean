/- From a walk of a law to its row: arguments that are structs of whole numbers, and what is read again behind the call. Generic over the program. -/
import Derived.Test.YtpnjkjahfklfnaaFw4
import Derived.ProofKit
import Derived.OpenShut
import Derived.ShutString
import Derived.ChangeOld
import Derived.SizedLaws
import Derived.ReadAgain
import Derived.ChangeBears
set_option linter.unusedVariables false
set_option linter.unusedSimpArgs false
namespace Go.Proofs.Ytpnjkjahfklfnaa.Fw
open Go Go.RowKit Go.ChangeShapes Go.WideShapes Go.ChangeAt

theorem trod_again {H : Type} {enc : TypeId × Value → H} {P : Program} {W W' : World} {sp : Nat → Bool} (K : Kids P (· < P.types.size))
    (hz : ∀ t e, t < P.types.size → P.underlying t = some (.slice e) → 0 < P.cellsOf e) (hb : Below W.heap.size W W') :
    ∀ {ts : List TypeId} {vs : List Value} {ds : List (DataW H)} {ps : List MemPlace}, (∀ t ∈ ts, t < P.types.size) → DataW.TrodAll enc P W 0 (fun _ => true) true ts vs ds ps →
      (∀ p ∈ ps, p.block < W.heap.size) → (∀ p ∈ ps, sp p.block = true) → DataW.TrodAll enc P W' 0 sp true ts vs ds ps
  | [], [], [], _, _, h, _, _ => h
  | t :: ts, v :: vs, d :: ds, _, hT, ⟨p, q, h1, h2, e⟩, hlt, hs => by
    subst e
    refine ⟨p, q, ?_, trod_again K hz hb (fun t ht => hT t (List.mem_cons_of_mem _ ht)) h2 (fun x hx => hlt x (List.mem_append_right _ hx)) (fun x hx => hs x (List.mem_append_right _ hx)), rfl⟩
    obtain ⟨n, hn⟩ := h1.respare K hz (hT t (by simp)) (spare' := sp) (fun x hx => hs x (List.mem_append_left _ hx))
    exact ⟨n, DataW.trod_carry n _ _ _ hn fun x hx => hb.same (hlt x (List.mem_append_left _ hx))⟩

theorem law_post {H : Type} {enc : TypeId × Value → H} {P : Program} {f : Func} {s : ChangeSpec} {bt : TypeId} {W W' : World} {args : Array Value} {ds gs : List (DataW H)} {before : List MemPlace}
    (hl : laidOutB P = true) (hm : mapsRowed P = true)
    (hz : ((List.range P.types.size).all fun t => match P.underlying t with | some (.slice e) => decide (0 < P.cellsOf e) | _ => true) = true)
    (hpt : f.params.toList.all (fun t => decide (t < P.types.size)) = true) (hv : s.vars = []) (hr : f.resultTypes = #[bt]) (hbt : P.underlying bt = some .bool)
    (hW : DataW.Whole enc P f.params.toList s.vars false W args.toList ds gs before) (hfn : s.fn H (ds ++ gs) = { results := [.lit (.bool true)], args := ds })
    (hb : Below W.heap.size W W') : s.post enc P f false true false false W args (.bool true) W' := by
  have hlt : ∀ p ∈ before, p.block < W.heap.size := fun p hp => hW.lt p hp
  have hW' := hW
  obtain ⟨p, q, hA, hV, rfl, hfz, hnd⟩ := hW
  have hq : gs = [] ∧ q = [] := by
    rw [hv] at hV
    cases gs with
    | nil => exact ⟨rfl, hV⟩
    | cons g gs => cases hV
  obtain ⟨rfl, rfl⟩ := hq
  have hag := trod_again (sp := fun b => decide (b < W.heap.size)) (kids_rows hl hm) (slices_full_of P hz) hb (fun t ht => by
    have := List.all_eq_true.1 hpt t ht
    simpa using this) hA (fun x hx => hlt x (by simpa using hx)) (fun x hx => by
    have := hlt x (by simpa using hx)
    simpa using this)
  refine ⟨ds, [], p ++ [], [], p, [], hW', ?_, ?_, ?_, hb.frame _, fun h => by cases h⟩
  · rw [hfn, hr]
    exact trodAll_mk1 (shut_bool hbt _)
  · rw [hfn]
    exact hag
  · rw [hfn, hv]
    rfl

/-- A struct all of whose cells are whole numbers. -/
theorem ok_ints {P : Program} {w : World} {r : Reach} {base : Nat} {t : TypeId} {v : Value} {fs : Array Field} {ts : List TypeId} {ks : List IntKind} (ht : P.underlying t = some (.struct fs)) (hc : P.cellTypes P.depth t = some ts)
    (hk : ts.map (fun u => P.underlying u) = ks.map fun k => some (TypeDesc.int k)) (hs : P.cellsOf t = ts.length) (h : Value.okWide P w r base t v) :
    ∃ ns : List Int, v = .agg (List.zipWith (fun k x => Value.int k x) ks ns).toArray ∧ ns.length = ks.length ∧ ∀ (i : Nat) (k : IntKind) (x : Int), ks[i]? = some k → ns[i]? = some x → k.has x := by
  unfold Value.okWide at h
  rw [ht] at h
  obtain ⟨cs, rfl, hsz, ts', hts', ⟨_, hall⟩⟩ := h
  obtain rfl : ts = ts' := by rw [hc] at hts'; simpa using hts'
  have hlen : ts.length = ks.length := by have := congrArg List.length hk; simpa using this
  have hcell : ∀ i, i < ks.length → ∃ k x, ks[i]? = some k ∧ cs[i]? = some (.int k x) ∧ k.has x := by
    intro i hi
    have hics : i < cs.size := by rw [hsz, hs, hlen]; exact hi
    obtain ⟨u, hu, hok⟩ := hall i cs[i] (by simp [hics])
    rw [Nat.mod_eq_of_lt (by omega)] at hu
    have hki : P.underlying u = some (.int ks[i]) := by
      have h1 := congrArg (fun l => l[i]?) hk
      simp only [List.getElem?_map, hu, Option.map_some, List.getElem?_eq_getElem hi, Option.some.injEq] at h1
      exact h1
    refine ⟨ks[i], ?_⟩
    unfold Cell.okWide at hok
    rw [hki] at hok
    simp only at hok
    unfold Cell.ok at hok
    rw [hki] at hok
    cases hv : cs[i] <;> rw [hv] at hok <;> simp only at hok
    obtain ⟨rfl, hh⟩ := hok
    refine ⟨_, List.getElem?_eq_getElem hi, ?_, hh⟩
    rw [Array.getElem?_eq_getElem hics, hv]
  refine ⟨cs.toList.map (fun v => match v with | .int _ x => x | _ => 0), ?_, ?_, ?_⟩
  · congr 1
    apply Array.ext_getElem?
    intro i
    by_cases hi : i < ks.length
    · obtain ⟨k, x, h1, h2, h3⟩ := hcell i hi
      have h2' : cs.toList[i]? = some (.int k x) := by simpa using h2
      simp [List.getElem?_zipWith, h1, h2, h2']
    · have : cs.size ≤ i := by rw [hsz, hs, hlen]; omega
      simp [List.getElem?_zipWith, this, Nat.le_of_not_lt hi]
  · simp [hsz, hs, hlen]
  · intro i k x hki hxi
    have hi := (List.getElem?_eq_some_iff.1 hki).1
    obtain ⟨k', x', h1, h2, h3⟩ := hcell i hi
    have h2' : cs.toList[i]? = some (.int k' x') := by simpa using h2
    rw [hki] at h1
    obtain rfl : k = k' := by simpa using h1
    simp only [List.getElem?_map, h2', Option.map_some, Option.some.injEq] at hxi
    subst hxi
    exact h3
end Go.Proofs.Ytpnjkjahfklfnaa.Fw
