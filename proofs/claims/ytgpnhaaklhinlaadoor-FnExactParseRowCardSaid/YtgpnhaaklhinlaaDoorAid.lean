/- Small lemmas on lists, whole numbers and rounds, for the seat's pure proofs. Conditions: none but those that each lemma states. -/
import Derived.Test.YtgpnhaaklhinlaaDoorWWords
import Derived.Test.YtgpnhaaklhinlaaDoorWSized
/-- The printed rows of laws name this lemma without the seat's prefix. -/
abbrev Go.Proofs.YtgpnhaaklhinlaaDoor.PrintWords.sized_ints := @Go.Proofs.YtgpnhaaklhinlaaDoorW.PrintWords.sized_ints
namespace Go.Proofs.YtgpnhaaklhinlaaDoorW.PrintWords
theorem Ev.cast {α : Type} {g : Nat → Option α} {r r' : α} (h : Ev g r) (e : r = r') : Ev g r' := e ▸ h
end Go.Proofs.YtgpnhaaklhinlaaDoorW.PrintWords
namespace Go.Proofs.YtgpnhaaklhinlaaDoor.Aid
open Go.RowKit Go.Proofs.YtgpnhaaklhinlaaDoorW.PrintWords
theorem w64 {n : Int} (h0 : -9223372036854775808 ≤ n) (h1 : n ≤ 9223372036854775807) : wrap64 n = n := by unfold wrap64; omega
theorem w64s {i : Nat} (h : i < 4611686018427387904) : wrap64 ((i : Int) + 1) = ((i + 1 : Nat) : Int) := by unfold wrap64; omega
theorem w64p {i : Nat} (h : i < 4611686018427387904) (h0 : 0 < i) : wrap64 ((i : Int) - 1) = ((i - 1 : Nat) : Int) := by unfold wrap64; omega
theorem w64q {j : Nat} (h : j < 4611686018427387904) : wrap64 (((j + 1 : Nat) : Int) - 1) = (j : Int) := by unfold wrap64; omega
theorem wf_bounds {x : Int} (h : (Lit.int .i64 x).wf = true) : -9223372036854775808 ≤ x ∧ x ≤ 9223372036854775807 := by
  simp [Lit.wf, IntKind.min, IntKind.max, IntKind.signed, IntKind.bits] at h
  omega
theorem Ev.of1 {α : Type} {g : Nat → Option α} {r : α} (h : ∀ k, g (k + 1) = some r) : Ev g r := ⟨1, fun k hk => by
  obtain ⟨m, rfl⟩ : ∃ m, k = m + 1 := ⟨k - 1, by omega⟩
  exact h m⟩
theorem Ev.all {α : Type} {g : Nat → Option α} {r : α} (h : ∀ k, g k = some r) : Ev g r := ⟨0, fun k _ => h k⟩
theorem dropNil {α : Type} {xs : List α} {i : Nat} (h : xs.drop i = []) : xs.length ≤ i := by simpa using h
theorem dropLt {α : Type} {xs : List α} {i : Nat} {x : α} {t : List α} (h : xs.drop i = x :: t) : i < xs.length := by
  rcases Nat.lt_or_ge i xs.length with h' | h'
  · exact h'
  · rw [List.drop_eq_nil_of_le h'] at h; cases h
theorem dropSucc {α : Type} {xs : List α} {i : Nat} {x : α} {t : List α} (h : xs.drop i = x :: t) : xs.drop (i + 1) = t := by
  rw [← List.drop_drop, h]; rfl
theorem dropGet {α : Type} {xs : List α} {i : Nat} {x : α} {t : List α} (h : xs.drop i = x :: t) : xs[i]? = some x := by
  have : (xs.drop i)[0]? = some x := by rw [h]; rfl
  simpa using this
theorem rd_get {xs : List Int} {i : Nat} {x : Int} (h : xs[i]? = some x) : rd xs (i : Int) = x := by
  simp [rd, List.getD_eq_getElem?_getD, h]
theorem rdOf_get {α : Type} {d : α} {xs : List α} {i : Nat} {x : α} (h : xs[i]? = some x) : rdOf d xs (i : Int) = x := by
  simp [rdOf, List.getD_eq_getElem?_getD, h]
theorem dropCons {xs : List Int} {i : Nat} {x : Int} {t : List Int} (h : xs.drop i = x :: t) : i < xs.length ∧ rd xs (i : Int) = x ∧ xs.drop (i + 1) = t := ⟨dropLt h, rd_get (dropGet h), dropSucc h⟩
theorem dropConsOf {α : Type} {d : α} {xs : List α} {i : Nat} {x : α} {t : List α} (h : xs.drop i = x :: t) : i < xs.length ∧ rdOf d xs (i : Int) = x ∧ xs.drop (i + 1) = t := ⟨dropLt h, rdOf_get (dropGet h), dropSucc h⟩
theorem rd_lt {xs : List Int} {i : Nat} (h : i < xs.length) : rd xs (i : Int) = xs[i] := by
  simp [rd, List.getD_eq_getElem?_getD, h]
theorem toNat_cast (i : Nat) : ((i : Int)).toNat = i := rfl
/-- The numbers k, k + 1, .., n of them. -/
def upFrom : Nat → Int → List Int
  | 0, _ => []
  | n + 1, k => k :: upFrom n (k + 1)
theorem upFrom_length : ∀ (n : Nat) (k : Int), (upFrom n k).length = n
  | 0, _ => rfl
  | n + 1, k => by simp [upFrom, upFrom_length n]
theorem set_at {α : Type} : ∀ (ys : List α) (i : Nat) (v : α) (y : α) (t : List α), ys.drop i = y :: t → ys.set i v = ys.take i ++ v :: t
  | [], i, v, y, t, h => by simp at h
  | z :: ys, 0, v, y, t, h => by simp at h; simp [h.2]
  | z :: ys, i + 1, v, y, t, h => by
    simp at h
    simp [set_at ys i v y t h]
theorem take_succ_at {α : Type} {ys : List α} {i : Nat} {y : α} {t : List α} (h : ys.drop i = y :: t) : ys.take (i + 1) = ys.take i ++ [y] := by
  rw [List.take_add_one, dropGet h]; rfl
end Go.Proofs.YtgpnhaaklhinlaaDoor.Aid
