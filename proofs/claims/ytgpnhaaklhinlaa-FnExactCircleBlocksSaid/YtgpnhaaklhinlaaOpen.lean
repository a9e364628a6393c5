/- A slice of slices of whole numbers that came in, read as a list of lists. Conditions: none but those that each lemma states. -/
import Derived.Test.YtgpnhaaklhinlaaWWords
import Derived.Deep.Matrix
import Derived.SizedLaws
namespace Go.Proofs.Ytgpnhaaklhinlaa.Open2
open Go.RowKit Go.ChangeShapes Go.WideShapes Go.Proofs.YtgpnhaaklhinlaaW.PrintWords
theorem rows_open {H : Type} {enc : TypeId × Value → H} {P : Program} {w : World} {base : Nat} {held : Bool} {t e q : TypeId} {k : IntKind} {a : Option Addr} {len cap : Nat} {d : DataW H} {p : List MemPlace} {ts : List TypeId} {ds : List (DataW H)} {j B : Nat}
    (hsz : (DataW.weightsEach P ts ds).all (· ≤ reachBytes) = true) (hts : ts[j]? = some t) (hds : ds[j]? = some d)
    (ht : P.underlying t = some (.slice e)) (he : P.underlying e = some (.slice q)) (hq : P.underlying q = some (.int k)) (ce : P.cellsOf e = 1) (cq : P.cellsOf q = 1) (hB : P.bytesOf e = B)
    (h : DataW.Trod enc P w base (fun _ => true) held t (.slice a len cap) d p) :
    ∃ z : List (List Int), len = z.length ∧ z.length ≤ cap ∧ Kd.C (Kd.slice q (Kd.int k)) w a z.length z ∧ z.length * B ≤ 140737488351232 ∧ (∀ x ∈ z, x.length ≤ maxLen) ∧ ∀ x ∈ z, ∀ y ∈ x, (Lit.int k y).wf = true := by
  obtain ⟨fuel, hf⟩ := h
  rcases Go.Deep.open_int_rows ht he hq ce cq hf with ⟨hcs, hx⟩ | ⟨a', len', cap', A, L, C, Z, hcs, hb, hl, hm, hx, hr⟩
  · simp [Value.cells] at hcs
    obtain ⟨rfl, rfl, rfl⟩ := hcs
    exact ⟨[], rfl, Nat.zero_le _, Kd.C_nil _ _, by simp, by simp, by simp⟩
  · simp [Value.cells] at hcs
    obtain ⟨rfl, rfl, rfl⟩ := hcs
    obtain ⟨hx, _⟩ := Prod.mk.inj hx
    subst hx
    have z := sized_slice hsz hts hds ht
    rw [hB] at z
    simp only [List.length_map, List.length_range] at z
    have hlen : ∀ r, r < len → ((Z r).take (L r)).length = L r := fun r hr' => by
      obtain ⟨_, h1, _, h2, _⟩ := hr r (by omega)
      rw [List.length_take]
      omega
    refine ⟨(List.range len).map fun r => (Z r).take (L r), by simp, by simpa using hl, ?_, ?_, ?_, ?_⟩
    · have hmx : len ≤ 9223372036854775807 := by unfold maxLen at hm; omega
      refine ⟨rfl, by simpa using hmx, fun hn => ⟨a', rfl, fun r x hj => ?_⟩⟩
      obtain ⟨hl', hv⟩ := List.getElem?_eq_some_iff.1 hj
      simp only [List.length_map, List.length_range] at hl'
      have hv' : (Z r).take (L r) = x := by simpa using hv
      subst hv'
      obtain ⟨hc, h1, h2, h3, h4, h5, h6⟩ := hr r (by omega)
      refine ⟨[.slice (A r) (L r) (C r)], rfl, ⟨A r, C r, by rw [hlen r hl'], by rw [hlen r hl']; exact h1, ?_⟩, fun i u hu => ?_⟩
      · rw [hlen r hl']
        refine Kd.C_of_reads (d := (0 : Int)) (h1 := fun _ => rfl) ⟨hlen r hl', by unfold maxLen at h2; omega, fun hp => ?_⟩
        cases hA : A r with
        | none => have := h5 hA; omega
        | some a2 =>
          refine ⟨a2, rfl, fun c hc' => ?_⟩
          rw [(h6 a2 hA).2 c (by omega)]
          simp [List.getD_eq_getElem?_getD, hc']
      · cases i with
        | zero =>
          have : Value.slice (A r) (L r) (C r) = u := by simpa using hu
          subst this
          simpa [Kd.slice] using hc
        | succ i => simp at hu
    · simp only [List.length_map, List.length_range]
      have : len * B ≤ (len + (cap - len)) * B := Nat.mul_le_mul_right _ (by omega)
      exact Nat.le_trans this (by unfold reachBytes at z; exact z)
    · intro x hx
      simp only [List.mem_map, List.mem_range] at hx
      obtain ⟨r, hr', rfl⟩ := hx
      rw [hlen r hr']
      obtain ⟨_, h1, h2, _⟩ := hr r (by omega)
      omega
    · intro x hx y hy
      simp only [List.mem_map, List.mem_range] at hx
      obtain ⟨r, hr', rfl⟩ := hx
      obtain ⟨_, _, _, _, h4, _⟩ := hr r (by omega)
      exact h4 y (List.mem_of_mem_take hy)
end Go.Proofs.Ytgpnhaaklhinlaa.Open2
