/- A store into a row of a list of rows that lie apart. Conditions: none but those that each lemma states. -/
import Derived.Test.YtgpnhaaklhinlaaSIndex
namespace Go.Proofs.Ytgpnhaaklhinlaa.Search
open Go.RowKit Go.Proofs.YtgpnhaaklhinlaaW.PrintWords Go.Proofs.YtgpnhaaklhinlaaW.PrintLast Go.Proofs.YtgpnhaaklhinlaaW.PrintMore
set_option linter.unusedVariables false
set_option linter.unusedSimpArgs false
theorem store_row {w : World} {base : Nat} {ok : Nat → Prop} {g n c : Nat} {L : List (List Int)} (h : Kd.S (Kd.slice 3 (Kd.int .i64)) 22 w base ok (.slice (some ⟨g, 0, none⟩) n c) L) (i : Nat) (hi : i < L.length) (j : Nat) (hj : j < (L.getD i []).length) (x : Int) :
    ∃ b c2, w.cell? ⟨g, i, none⟩ = some (.slice (some ⟨b, 0, none⟩) (L.getD i []).length c2) ∧ b ≠ g ∧ base ≤ b ∧ ok b ∧ b < w.heap.size ∧
      (∀ m, m < (L.getD i []).length → w.cell? ⟨b, m, none⟩ = some (.int .i64 (rd (L.getD i []) (m : Int)))) ∧ (∀ m, w.frozen? ⟨b, m, none⟩ = false) ∧
      Kd.S (Kd.slice 3 (Kd.int .i64)) 22 (w.setCell ⟨b, j, none⟩ (.int .i64 x)) base ok (.slice (some ⟨g, 0, none⟩) n c) (L.set i ((L.getD i []).set j x)) := by
  have hn := (Kd.S_reads' h).1
  obtain ⟨oki, cs, hcl, hM, hcc, hok, hback⟩ := Kd.S_borrow h [] (i : Int) (by omega) (by omega)
  rw [Int.toNat_natCast] at hM hcc hback
  obtain ⟨u, hu, hR⟩ := hM
  have hR : Kd.R (Kd.int .i64) 3 w base oki u (L.getD i []) := hR
  subst hu
  obtain ⟨b, c2, rfl, hb, hlt, cells, hh⟩ := Kd.R_form hR (by omega)
  have hob : oki b := hR.1 b rfl
  have hne := (hok b hob).2
  have hg := Kd.R_putg hR (j : Int) x
  rw [Int.toNat_natCast] at hg
  refine ⟨b, c2, ?_, ?_, hb, (hok b hob).1, hlt, fun m hm => ?_, fun m => frozen_of_row w b m _ _ hh, ?_⟩
  · have := hcc 0 _ rfl
    rw [add_at] at this
    simpa [Kd.slice] using this
  · intro e
    subst e
    exact hne rfl
  · obtain ⟨ad, e, h1⟩ := Kd.at_int (Kd.R_reads' hR).2.2 (m : Int) (by omega) (by omega)
    injection e with e
    subst e
    rw [add_at] at h1
    simpa using h1
  · exact hback hg.2 (fun k e => by injection e with e; subst e; exact hob) ⟨_, rfl, hg.1⟩
theorem part_len (f : List Int → List Int) (L : List (List Int)) (i : Nat) : ((L.take i).map f ++ L.drop i).length = L.length := by simp; omega
theorem part_get (f : List Int → List Int) (L : List (List Int)) (i : Nat) (hi : i < L.length) : ((L.take i).map f ++ L.drop i).getD i [] = L[i] := by
  rw [List.getD_eq_getElem?_getD, List.getElem?_append_right (by simp; omega)]
  simp [List.getElem?_drop, Nat.min_eq_left (Nat.le_of_lt hi), hi]
theorem part_set (f : List Int → List Int) (L : List (List Int)) (i : Nat) (hi : i < L.length) : ((L.take i).map f ++ L.drop i).set i (f L[i]) = (L.take (i + 1)).map f ++ L.drop (i + 1) := by
  have h1 : ((L.take i).map f).length = i := by simp; omega
  rw [List.set_append_right _ _ (by omega), h1, Nat.sub_self, List.drop_eq_getElem_cons hi, List.set_cons_zero, List.take_succ_eq_append_getElem hi, List.map_append, List.append_assoc]
  rfl
theorem part_same (f : List Int → List Int) (L : List (List Int)) (i : Nat) (hi : i < L.length) (h : f L[i] = L[i]) : (L.take i).map f ++ L.drop i = (L.take (i + 1)).map f ++ L.drop (i + 1) := by
  rw [List.drop_eq_getElem_cons hi, List.take_succ_eq_append_getElem hi, List.map_append, List.append_assoc, List.map_cons, h]
  rfl
theorem all_three {L : List (List Int)} (h : (L.all fun t => decide (t.length = 3)) = true) (i : Nat) (hi : i < L.length) : L[i].length = 3 := of_decide_eq_true (List.all_eq_true.1 h _ (List.getElem_mem hi))
end Go.Proofs.Ytgpnhaaklhinlaa.Search
