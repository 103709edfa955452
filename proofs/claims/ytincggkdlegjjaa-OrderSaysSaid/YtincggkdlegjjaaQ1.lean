/- The reference's numbers over a power of two. -/
import Derived.Test.YtincggkdlegjjaaZ6
namespace Go.Ulp
open Go.RowKit
theorem zl_len_bits (x : Int) (k : Nat) (h : x.natAbs < 2 ^ k) : (zl x).length ≤ k := by
  unfold zl
  exact (digs_len_le 10000 (by omega) _ _).2 (Nat.lt_of_lt_of_le h (Nat.pow_le_pow_left (by omega) k))
theorem zl_len_pow (n : Nat) : (zl ((2 ^ n : Nat) : Int)).length ≤ n + 1 :=
  zl_len_bits _ _ (by rw [Int.natAbs_natCast]; exact Nat.pow_lt_pow_right (by omega) (by omega))
theorem zl_len_pw (n : Nat) : (zl (pw n)).length ≤ n + 1 := zl_len_pow n
end Go.Ulp
namespace Go.Proofs.Ytincggkdlegjjaa
open Go.RowKit Go.Ulp
set_option linter.unusedVariables false
set_option linter.unusedSimpArgs false
set_option maxHeartbeats 1000000
set_option maxRecDepth 100000
end Go.Proofs.Ytincggkdlegjjaa
namespace Go.Ulp
open Go.RowKit
theorem Ns.drop {k : IntKind} {w : World} {b off cap : Nat} {L : List Nat} (h : Ns k w (some ⟨b, off, none⟩) cap L) (n : Nat) (hn : n ≤ L.length) : Ns k w (some ⟨b, off + n, none⟩) (cap - n) (L.drop n) := by
  obtain ⟨h1, h2, h3⟩ := h
  refine ⟨by rw [List.length_drop]; omega, by omega, fun hp => ?_⟩
  rw [List.length_drop] at hp
  obtain ⟨b', off', e, hc⟩ := h3 (by omega)
  obtain ⟨rfl, rfl⟩ : b = b' ∧ off = off' := by simpa using e
  refine ⟨b, off + n, rfl, fun i hi => ?_⟩
  rw [List.length_drop] at hi
  have := hc (n + i) (by omega)
  rw [Nat.add_assoc, this]
  unfold lb
  rw [getD_in L (n + i) (by omega), getD_in (L.drop n) i (by rw [List.length_drop]; omega), List.getElem_drop]
theorem Lim.take {L : List Nat} (h : Lim L) (k : Nat) : Lim (L.take k) := AllLt.take h k
theorem Lim.drop {L : List Nat} (h : Lim L) (k : Nat) : Lim (L.drop k) := AllLt.drop h k
theorem zl_len_lval (L : List Nat) (h : Lim L) : (zl (lval L : Int)).length ≤ 32 * L.length := by
  refine zl_len_bits _ _ ?_
  rw [Int.natAbs_natCast, Nat.pow_mul]; exact lval_lt L h
theorem lval_cut (L : List Nat) (h : Nat) (hh : h ≤ L.length) : (lval (L.take h) : Int) + (lval (L.drop h) : Int) * pw (32 * h) = (lval L : Int) := by
  rw [pw_nat, ← Int.natCast_mul, ← Int.natCast_add]
  congr 1
  rw [show lval L = lval (L.take h) + 4294967296 ^ h * lval (L.drop h) from val_take_drop _ L h hh, Nat.pow_mul, Nat.mul_comm (lval (L.drop h))]
end Go.Ulp
namespace Go.Proofs.Ytincggkdlegjjaa
open Go.RowKit Go.Ulp
set_option linter.unusedVariables false
set_option linter.unusedSimpArgs false
set_option maxHeartbeats 1000000
set_option maxRecDepth 100000
end Go.Proofs.Ytincggkdlegjjaa
namespace Go.Ulp
open Go.RowKit
/-- what a call leaves that hands back a number over a power of two -/
def RetQ (t : TypeId) (w : World) (x : Int) (n : Int) (e : Ending) (w' : World) : Prop :=
  ∃ ao cap, e = .returned (.agg #[.bool (zneg x), .slice ao (zl x).length cap, .int .i64 n]) ∧ Nz t w' ao cap (zl x) ∧ Below w.heap.size w w'
/-- block g is a variable of type Q (number t) -/
def QL (t : TypeId) (w : World) (g : Nat) (n : Bool) (v : Value) (k : Int) : Prop :=
  ZL t w g n v ∧ w.cell? ⟨g, 2, none⟩ = some (.int .i64 k) ∧ w.frozen? ⟨g, 2, none⟩ = false
theorem QL.lt {t : TypeId} {w : World} {g : Nat} {n : Bool} {v : Value} {k : Int} (h : QL t w g n v k) : g < w.heap.size := h.1.lt
theorem QL.belowB {t : TypeId} {B : Nat} {w w' : World} {g : Nat} {n : Bool} {v : Value} {k : Int} (h : QL t w g n v k) (hb : Below B w w') (hB : g < B) : QL t w' g n v k :=
  ⟨h.1.belowB hb hB, (hb.cell (p := ⟨g, 2, none⟩) hB).trans h.2.1, (hb.frozen (p := ⟨g, 2, none⟩) hB).trans h.2.2⟩
theorem QL.below {t : TypeId} {w w' : World} {g : Nat} {n : Bool} {v : Value} {k : Int} (h : QL t w g n v k) (hb : Below w.heap.size w w') : QL t w' g n v k := h.belowB hb h.lt
theorem QL.alloc {t : TypeId} {w : World} {g : Nat} {n : Bool} {v : Value} {k : Int} (h : QL t w g n v k) (o : Obj) : QL t (w.alloc o) g n v k := h.below (below_alloc _ _)
theorem QL.drew {t : TypeId} {w : World} {g : Nat} {n : Bool} {v : Value} {k : Int} (h : QL t w g n v k) : QL t w.drew g n v k := h
theorem QL.drewN {t : TypeId} {w : World} {g : Nat} {n : Bool} {v : Value} {k : Int} (h : QL t w g n v k) (j : Nat) : QL t (w.drewN j) g n v k := h
theorem QL.made {t : TypeId} {w : World} {g : Nat} {n : Bool} {v : Value} {k : Int} (hg : g = w.heap.size) : QL t (w.alloc (.cells #[.bool n, v, .int .i64 k] t)) g n v k := by
  subst hg
  refine ⟨⟨?_, ?_, ?_, ?_, ElemIs.made _ _ _⟩, ?_, ?_⟩
  · rw [World.cell?_alloc_at (hn := rfl)]; rfl
  · rw [World.cell?_alloc_at (hn := rfl)]; rfl
  · unfold World.frozen?; rw [heap_alloc_new]; simp
  · unfold World.frozen?; rw [heap_alloc_new]; simp
  · rw [World.cell?_alloc_at (hn := rfl)]; rfl
  · unfold World.frozen?; rw [heap_alloc_new]; simp
end Go.Ulp
namespace Go.Proofs.Ytincggkdlegjjaa
open Go.RowKit Go.Ulp
set_option linter.unusedVariables false
set_option linter.unusedSimpArgs false
set_option maxHeartbeats 1000000
set_option maxRecDepth 100000
end Go.Proofs.Ytincggkdlegjjaa
