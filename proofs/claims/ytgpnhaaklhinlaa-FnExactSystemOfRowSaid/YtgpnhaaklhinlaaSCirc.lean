/- What a circle lists ahead of its sort: plain lists. Conditions: none but those that each lemma states. -/
import Derived.Test.YtgpnhaaklhinlaaSPut
namespace Go.Proofs.Ytgpnhaaklhinlaa.Search
open Go.RowKit Go.Proofs.YtgpnhaaklhinlaaW.PrintWords
/-- Three numbers in order. -/
def ins3 (a b c : Int) : List Int := if b < a then (if c < a then (if c < b then [c, b, a] else [b, c, a]) else [b, a, c]) else (if c < b then (if c < a then [c, a, b] else [a, c, b]) else [a, b, c])
theorem ins3_len (a b c : Int) : (ins3 a b c).length = 3 := by
  unfold ins3
  repeat' split
  all_goals rfl
/-- A block of a triple: k, k + the first, k + the first and the second, round a circle of v, in order. -/
def circRow (v : Int) (t : List Int) (k : Int) : List Int := ins3 k (Int.tmod (k + rd t 0) v) (Int.tmod (k + rd t 0 + rd t 1) v)
def circRows (v : Int) (t : List Int) : Nat → Int → List (List Int)
  | 0, _ => []
  | n + 1, k => circRow v t k :: circRows v t n (k + 1)
/-- All blocks, triple behind triple, not yet sorted. -/
def circAll (v : Int) (L : List (List Int)) : List (List Int) := L.flatMap fun t => circRows v t v.toNat 0
theorem circRows_len (v : Int) (t : List Int) : ∀ (n : Nat) (k : Int), (circRows v t n k).length = n
  | 0, _ => rfl
  | n + 1, k => by simp [circRows, circRows_len v t n]
theorem circRows_small (v : Int) (t : List Int) : ∀ (n : Nat) (k : Int), ∀ x ∈ circRows v t n k, x.length = 3
  | 0, _, x, h => by simp [circRows] at h
  | n + 1, k, x, h => by
    rcases List.mem_cons.1 h with rfl | h
    · exact ins3_len _ _ _
    · exact circRows_small v t n (k + 1) x h
theorem putAll_append (l : List (List Int)) : ∀ a b : List (List Int), putAll l (a ++ b) = putAll (putAll l a) b
  | a, b => by
    induction a generalizing l with
    | nil => rfl
    | cons x a ih => exact ih (putL x l)
theorem putAll_all3 {t l : List (List Int)} (ht : ∀ x ∈ t, x.length = 3) (hl : ∀ x ∈ l, x.length = 3) : ∀ x ∈ putAll l t, x.length = 3 := fun x hx => by
  rcases List.mem_append.1 ((putAll_perm t l).mem_iff.1 hx) with h | h
  · exact ht x h
  · exact hl x h
theorem putAll_len (t l : List (List Int)) : (putAll l t).length = t.length + l.length := by
  rw [(putAll_perm t l).length_eq, List.length_append]
end Go.Proofs.Ytgpnhaaklhinlaa.Search
