/- Order: lists by the keys of their numbers. Plain. -/
import Derived.Test.YthaelmnblgollaaGreatDoorSp1
set_option linter.unusedVariables false
set_option linter.unusedSimpArgs false
namespace Go.Ulp
open Go.RowKit
/-- one more, in order -/
def insK (x : Nat) : List Nat → List Nat
  | [] => [x]
  | y :: L => if okey (x : Int) < okey (y : Int) then x :: y :: L else y :: insK x L
def sortK (L : List Nat) : List Nat := L.foldl (fun s x => insK x s) []
theorem insK_perm (x : Nat) : ∀ L, (insK x L).Perm (x :: L)
  | [] => List.Perm.refl _
  | y :: L => by
    unfold insK
    split
    · exact List.Perm.refl _
    · exact ((insK_perm x L).cons y).trans (List.Perm.swap x y L)
theorem insK_len (x : Nat) (L : List Nat) : (insK x L).length = L.length + 1 := (insK_perm x L).length_eq
def SortedK (L : List Nat) : Prop := L.Pairwise fun (a b : Nat) => okey (a : Int) ≤ okey (b : Int)
theorem insK_sorted (x : Nat) : ∀ L, SortedK L → SortedK (insK x L)
  | [], _ => List.pairwise_cons.2 ⟨(fun z hz => by cases hz), List.Pairwise.nil⟩
  | y :: L, h => by
    obtain ⟨h1, h2⟩ := List.pairwise_cons.1 h
    unfold insK
    split
    · rename_i hc
      refine List.pairwise_cons.2 ⟨fun z hz => ?_, h⟩
      rcases List.mem_cons.1 hz with rfl | hz
      · omega
      · have := h1 z hz; omega
    · rename_i hc
      refine List.pairwise_cons.2 ⟨fun z hz => ?_, insK_sorted x L h2⟩
      rcases List.mem_cons.1 ((insK_perm x L).mem_iff.1 hz) with rfl | hz
      · omega
      · exact h1 z hz
theorem foldl_ins (L : List Nat) : ∀ s, SortedK s → SortedK (L.foldl (fun s x => insK x s) s) ∧ (L.foldl (fun s x => insK x s) s).Perm (s ++ L) := by
  induction L with
  | nil => intro s h; exact ⟨h, by rw [List.append_nil]; exact List.Perm.refl _⟩
  | cons x L ih =>
    intro s h
    obtain ⟨h1, h2⟩ := ih (insK x s) (insK_sorted x s h)
    refine ⟨h1, h2.trans ?_⟩
    have h3 : (insK x s ++ L).Perm (x :: s ++ L) := (insK_perm x s).append_right L
    exact h3.trans (List.perm_middle (a := x) (l₁ := s) (l₂ := L)).symm
theorem sortK_sorted (L : List Nat) : SortedK (sortK L) := (foldl_ins L [] List.Pairwise.nil).1
theorem sortK_perm (L : List Nat) : (sortK L).Perm L := (foldl_ins L [] List.Pairwise.nil).2
theorem sortK_len (L : List Nat) : (sortK L).length = L.length := (sortK_perm L).length_eq
theorem sortK_snoc (L : List Nat) (x : Nat) : sortK (L ++ [x]) = insK x (sortK L) := by unfold sortK; rw [List.foldl_append]; rfl
theorem okey_inj (a b : Nat) (h : okey (a : Int) = okey (b : Int)) : a = b := by
  unfold okey at h
  split at h <;> split at h <;> omega
theorem sorted_uniq {A B : List Nat} (hA : SortedK A) (hB : SortedK B) (h : A.Perm B) : A = B :=
  List.Perm.eq_of_pairwise (le := fun a b : Nat => okey (a : Int) ≤ okey (b : Int)) (fun a b _ _ h1 h2 => okey_inj a b (by omega)) hA hB h
/-- whether a number stands above another one -/
def abvB (x y : Int) : Bool := decide (okey y < okey x)
theorem abvB_tell (x y : Int) (hx : U64 x) (hy : U64 y) : abvB x y = if negB x = negB y then (if negB x = true then decide (x < y) else decide (y < x)) else negB y := by
  obtain ⟨x0, x1⟩ := hx
  obtain ⟨y0, y1⟩ := hy
  unfold abvB okey negB
  by_cases a : 9223372036854775808 ≤ x <;> by_cases b : 9223372036854775808 ≤ y <;> simp [a, b] <;> omega
/-- the loop's state: what is behind it is still to be told -/
theorem ins_step (x y : Nat) (R : List Nat) : insK x (y :: R) = if abvB (y : Int) (x : Int) = true then x :: y :: R else y :: insK x R := by
  unfold abvB
  by_cases h : okey (x : Int) < okey (y : Int)
  · rw [if_pos (decide_eq_true h)]; unfold insK; rw [if_pos h]
  · rw [if_neg (fun h9 => h (of_decide_eq_true h9))]
    conv => lhs; unfold insK
    rw [if_neg h]
def tailK (done : Bool) (x : Nat) (R : List Nat) : List Nat := if done = true then R else insK x R
theorem tail_put {x y : Nat} {R Q I : List Nat} (h : Q ++ tailK false x (y :: R) = I) (ha : abvB (y : Int) (x : Int) = true) : (Q ++ [x] ++ [y]) ++ tailK true x R = I := by
  rw [← h]
  show Q ++ [x] ++ [y] ++ R = Q ++ insK x (y :: R)
  rw [ins_step, if_pos ha]; simp
theorem tail_pass {x y : Nat} {R Q I : List Nat} (h : Q ++ tailK false x (y :: R) = I) (ha : abvB (y : Int) (x : Int) = false) : (Q ++ [y]) ++ tailK false x R = I := by
  rw [← h]
  show Q ++ [y] ++ insK x R = Q ++ insK x (y :: R)
  rw [ins_step, if_neg (by rw [ha]; simp)]; simp
theorem tail_done {x y : Nat} {R Q I : List Nat} (h : Q ++ tailK true x (y :: R) = I) : (Q ++ [y]) ++ tailK true x R = I := by
  rw [← h]
  show Q ++ [y] ++ R = Q ++ y :: R
  simp
theorem tail_end {x : Nat} {Q I : List Nat} (h : Q ++ tailK false x [] = I) : Q ++ [x] = I := h
theorem tail_end2 {x : Nat} {Q I : List Nat} (h : Q ++ tailK true x [] = I) : Q = I := by rw [← h]; show Q = Q ++ []; simp
end Go.Ulp
