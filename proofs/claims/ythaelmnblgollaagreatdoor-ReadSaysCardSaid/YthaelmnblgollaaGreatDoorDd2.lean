/- Dyads as they are handed in: their sign, the reference's DyadRight. -/
import Derived.Test.YthaelmnblgollaaGreatDoorNat11
import Derived.Test.YthaelmnblgollaaGreatDoorQ1
import Derived.Test.YthaelmnblgollaaGreatDoorFloat
set_option linter.unusedVariables false
set_option linter.unusedSimpArgs false
namespace Go.Ulp
open Go.RowKit
/-- within the bounds? -/
def dyB (n : Nat) (e : Int) : Bool := decide (n ≤ 400 ∧ -10000 ≤ e ∧ e ≤ 10000)
def bndE (n : Nat) (e : Int) : Int := if dyB n e = true then 0 else 2
/-- what is wrong with a Dyad -/
def dyadE (neg : Bool) (L : List Nat) (e : Int) : Int :=
  if dyB L.length e = false then 2 else if L.length = 0 then (if neg = true ∨ e ≠ 0 then 3 else 0) else if L.getD (L.length - 1) 0 = 0 ∨ L.getD 0 0 % 2 = 0 then 3 else 0
theorem dyB_true {n : Nat} {e : Int} (h : dyB n e = true) : n ≤ 400 ∧ -10000 ≤ e ∧ e ≤ 10000 := by simpa [dyB] using h
/-- the ways a Dyad may be -/
theorem dyad_cases (neg : Bool) (ao : Option Addr) (cap : Nat) (L : List Nat) (e : Int) (w : World) (hN : Ns .u32 w ao cap L) (hl : Lim L) :
    (dyB L.length e = false ∧ Hid (dyadE neg L e = 2)) ∨
    (dyB L.length e = true ∧ L.length = 0 ∧ neg = true ∧ Hid (dyadE neg L e = 3)) ∨
    (dyB L.length e = true ∧ L.length = 0 ∧ neg = false ∧ (e == 0) = false ∧ (e != 0) = true ∧ Hid (dyadE neg L e = 3)) ∨
    (dyB L.length e = true ∧ L.length = 0 ∧ neg = false ∧ e = 0 ∧ Hid (dyadE neg L e = 0)) ∨
    (dyB L.length e = true ∧ ∃ n b off x y, L.length = n ∧ ao = some ⟨b, off, none⟩ ∧ 0 < n ∧ n ≤ 400 ∧ w.cell? ⟨b, off, none⟩ = some (.int .u32 x) ∧ w.cell? ⟨b, off + (n - 1), none⟩ = some (.int .u32 y) ∧ 0 ≤ x ∧ x < 4294967296 ∧
      ((((x % 2 == 0) = true ∨ ((x % 2 == 0) = false ∧ (y == 0) = true)) ∧ Hid (dyadE neg L e = 3)) ∨ ((x % 2 == 0) = false ∧ (y == 0) = false ∧ Hid (dyadE neg L e = 0)))) := by
  by_cases hB : dyB L.length e = false
  · exact .inl ⟨hB, by unfold dyadE; rw [if_pos hB]; exact hid rfl⟩
  have hB2 : dyB L.length e = true := by simpa using hB
  by_cases h0 : L.length = 0
  · cases neg
    · by_cases he : e = 0
      · exact .inr (.inr (.inr (.inl ⟨hB2, h0, rfl, he, by unfold dyadE; rw [if_neg hB, if_pos h0, if_neg (by simp [he])]; exact hid rfl⟩)))
      · exact .inr (.inr (.inl ⟨hB2, h0, rfl, beq_eq_false_iff_ne.2 he, by simp [he], by unfold dyadE; rw [if_neg hB, if_pos h0, if_pos (.inr he)]; exact hid rfl⟩))
    · exact .inr (.inl ⟨hB2, h0, rfl, by unfold dyadE; rw [if_neg hB, if_pos h0, if_pos (.inl rfl)]; exact hid rfl⟩)
  · obtain ⟨b, off, rfl, hc⟩ := hN.2.2 (by omega)
    have h1 := hc 0 (by omega)
    have h2 := hc (L.length - 1) (by omega)
    unfold lb at h1 h2
    have hx := hl.getD (by omega) 0
    have hn4 := (dyB_true hB2).1
    refine .inr (.inr (.inr (.inr ⟨hB2, _, b, off, _, _, rfl, rfl, by omega, hn4, h1, h2, by omega, by omega, ?_⟩)))
    have hE : dyadE neg L e = if L.getD (L.length - 1) 0 = 0 ∨ L.getD 0 0 % 2 = 0 then 3 else 0 := by unfold dyadE; rw [if_neg hB, if_neg h0]
    rw [hE]
    by_cases hx2 : L.getD 0 0 % 2 = 0
    · exact .inl ⟨.inl (beq_iff_eq.2 (by omega)), by rw [if_pos (.inr hx2)]; exact hid rfl⟩
    · by_cases hy : L.getD (L.length - 1) 0 = 0
      · exact .inl ⟨.inr ⟨beq_eq_false_iff_ne.2 (by omega), beq_iff_eq.2 (by omega)⟩, by rw [if_pos (.inl hy)]; exact hid rfl⟩
      · exact .inr ⟨beq_eq_false_iff_ne.2 (by omega), beq_eq_false_iff_ne.2 (by omega), by rw [if_neg (fun h => h.elim hy hx2)]; exact hid rfl⟩
/-- a Dyad that is right -/
theorem dyadE_zero {neg : Bool} {L : List Nat} {e : Int} (hl : Lim L) (h : dyadE neg L e = 0) : L.length ≤ 400 ∧ -10000 ≤ e ∧ e ≤ 10000 ∧ L = limbs (lval L) ∧ (lval L = 0 → neg = false ∧ e = 0) ∧ (lval L ≠ 0 → lval L % 2 = 1) := by
  unfold dyadE at h
  by_cases hB : dyB L.length e = false
  · rw [if_pos hB] at h; omega
  rw [if_neg hB] at h
  obtain ⟨b1, b2, b3⟩ := dyB_true (by simpa using hB)
  by_cases h0 : L.length = 0
  · have := List.length_eq_zero_iff.1 h0
    subst this
    rw [if_pos h0] at h
    by_cases hq : neg = true ∨ e ≠ 0
    · rw [if_pos hq] at h; omega
    · refine ⟨b1, b2, b3, rfl, fun _ => ?_, fun h => absurd rfl h⟩
      constructor
      · cases neg
        · rfl
        · exact absurd (.inl rfl) hq
      · exact Classical.byContradiction fun he => hq (.inr he)
  · rw [if_neg h0] at h
    by_cases hq : L.getD (L.length - 1) 0 = 0 ∨ L.getD 0 0 % 2 = 0
    · rw [if_pos hq] at h; omega
    · have ht : Trim L := (trim_iff L).2 (.inr (fun h => hq (.inl h)))
      have hs := limbs_self hl ht
      have h1 := val_drop 4294967296 L 0 (by omega)
      rw [List.drop_zero] at h1
      have hod : lval L % 2 = 1 := by
        have : ¬ L.getD 0 0 % 2 = 0 := fun h => hq (.inr h)
        unfold lval; omega
      exact ⟨b1, b2, b3, hs.symm, fun h => by omega, fun _ => hod⟩
end Go.Ulp
namespace Go.Proofs.YthaelmnblgollaaGreatDoor
open Go.RowKit Go.Ulp
set_option linter.unusedVariables false
set_option linter.unusedSimpArgs false
set_option maxHeartbeats 1000000
set_option maxRecDepth 100000
theorem dyadBounds_any (neg : Bool) (v : Option Addr) (n cap : Nat) (e : Int) (w : World) :
    Calls Tryz.prog 169 #[.agg #[.bool neg, .slice v n cap, .int .i64 e]] w fun en w' => en = .returned (.bool (dyB n e)) ∧ Below w.heap.size w w' := by
  by_cases h4 : n ≤ 400
  · have h5 : ((n : Int) ≤ 400) := by omega
    have H := hid (show (decide (-10000 ≤ e) && decide (e ≤ 10000)) = dyB n e by rw [Bool.eq_iff_iff]; simp [dyB]; omega)
    clear h4
    go_enter Tryz.func169, Tryz.ntmps169
    go_wp2_with (go_at_call 40; refine (between_any _ _ _ _).mono ?_; rintro e w' ⟨rfl, rfl⟩)
    go_ret
    exact ⟨ret_bool H.out, below_alloc _ _⟩
  · have h5 : ¬ ((n : Int) ≤ 400) := by omega
    have H := hid (show false = dyB n e by unfold dyB; rw [eq_comm, decide_eq_false_iff_not]; omega)
    clear h4
    go_enter Tryz.func169, Tryz.ntmps169
    go_wp2_with (go_at_call 40; refine (between_any _ _ _ _).mono ?_; rintro e w' ⟨rfl, rfl⟩)
    go_ret
    exact ⟨ret_bool H.out, below_alloc _ _⟩
theorem bndE_true {n : Nat} {e : Int} (h : dyB n e = true) : bndE n e = 0 := by unfold bndE; rw [if_pos h]
theorem bndE_false {n : Nat} {e : Int} (h : dyB n e = false) : bndE n e = 2 := by unfold bndE; rw [h]; rfl
end Go.Proofs.YthaelmnblgollaaGreatDoor
set_option linter.unusedVariables false
set_option linter.unusedSimpArgs false
namespace Go.Ulp
open Go.RowKit
/-- a Dyad in three cells -/
def DC (w : World) (g o : Nat) (neg : Bool) (v : Value) (e : Int) : Prop := w.cell? ⟨g, o, none⟩ = some (.bool neg) ∧ w.cell? ⟨g, o + 1, none⟩ = some v ∧ w.cell? ⟨g, o + 2, none⟩ = some (.int .i64 e)
theorem DC.below {w w' : World} {g o : Nat} {neg : Bool} {v : Value} {e : Int} (h : DC w g o neg v e) (hb : Below w.heap.size w w') : DC w' g o neg v e := by
  obtain ⟨h1, h2, h3⟩ := h
  exact ⟨(hb.cell (World.block_lt_of_cell? _ _ h1)).trans h1, (hb.cell (World.block_lt_of_cell? _ _ h2)).trans h2, (hb.cell (World.block_lt_of_cell? _ _ h3)).trans h3⟩
theorem cell_set_ne {w : World} {g o o' : Nat} {u : Value} (h : o ≠ o') : (w.setCell ⟨g, o, none⟩ u).cell? ⟨g, o', none⟩ = w.cell? ⟨g, o', none⟩ := by
  rw [World.cell?_setCell_other]
  intro e
  injection e with _ e2 _
  exact h e2
theorem Ns.set3 {t : TypeId} {w : World} {ao : Option Addr} {cap : Nat} {L : List Nat} {g : Nat} {n : Bool} {v : Value} {k : Int} (h : Ns .u32 w ao cap L) (z : QL t w g n v k) (hv : ∀ x, v ≠ .int .u32 x) (u0 u1 u2 : Value) :
    Ns .u32 (((w.setCell ⟨g, 0, none⟩ u0).setCell ⟨g, 1, none⟩ u1).setCell ⟨g, 2, none⟩ u2) ao cap L := by
  have h1 := Ns.setCell_kind h ⟨g, 0, none⟩ u0 (.bool n) z.1.1 (by intro x e; cases e)
  have h2 := Ns.setCell_kind h1 ⟨g, 1, none⟩ u1 v ((cell_set_ne (by omega)).trans z.1.2.1) hv
  exact Ns.setCell_kind h2 ⟨g, 2, none⟩ u2 (.int .i64 k) ((cell_set_ne (by omega)).trans ((cell_set_ne (by omega)).trans z.2.1)) (by intro x e; cases e)
def dyadE2 (x y : Int) : Int := if x = 0 then y else x
def dSign (neg : Bool) (n : Nat) : Int := if n = 0 then 0 else if neg = true then -1 else 1
end Go.Ulp
namespace Go.Proofs.YthaelmnblgollaaGreatDoor
open Go.RowKit Go.Ulp
set_option linter.unusedVariables false
set_option linter.unusedSimpArgs false
set_option maxHeartbeats 1000000
set_option maxRecDepth 100000
theorem dyadSign_any (neg : Bool) (ao : Option Addr) (n cap : Nat) (e : Int) (w : World) :
    Calls Tryz.prog 61 #[.agg #[.bool neg, .slice ao n cap, .int .i64 e]] w fun en w' => en = .returned (.int .i64 (dSign neg n)) ∧ Below w.heap.size w w' := by
  by_cases h0 : n = 0
  · subst h0
    go_enter Tryz.func61, Tryz.ntmps61
    go_wp2_with fail
    go_ret
    exact ⟨ret_int (by simp [dSign]), below_alloc _ _⟩
  · have H := hid (show dSign neg n = if neg = true then -1 else 1 by unfold dSign; rw [if_neg h0])
    have hb : ((n : Int) == 0) = false := beq_eq_false_iff_ne.2 (by omega)
    clear h0
    cases neg
    · go_enter Tryz.func61, Tryz.ntmps61
      go_wp2_with fail
      go_ret
      exact ⟨ret_int (by rw [H.out]; rfl), below_alloc _ _⟩
    · go_enter Tryz.func61, Tryz.ntmps61
      go_wp2_with fail
      go_ret
      exact ⟨ret_int (by rw [H.out]; rfl), below_alloc _ _⟩
theorem dyadRight1_any (g : Nat) (n0 : Bool) (a0 : Option Addr) (c0 : Nat) (L0 : List Nat) (e0 : Int) (w : World) (k0 : DC w g 0 n0 (.slice a0 L0.length c0) e0) (h0 : Ns .u32 w a0 c0 L0) (l0 : Lim L0) :
    Calls Tryz.prog 80 #[.slice (some ⟨g, 0, none⟩) 1 1] w fun en w' => en = .returned (.int .i64 (dyadE n0 L0 e0)) ∧ Below w.heap.size w w' := by
  have K0 := hid (dyad_cases n0 a0 c0 L0 e0 w h0 l0)
  have C0 := hid k0
  have hcap := h0.1
  have hcap2 := h0.2.1
  unfold maxLen at hcap2
  clear h0 k0
  obtain ⟨E0, hE0⟩ : ∃ E, E = dyadE n0 L0 e0 := ⟨_, rfl⟩
  rw [← hE0] at K0 ⊢
  clear hE0
  go_enter Tryz.func80, Tryz.ntmps80
  go_wp2_with fail
  go_loopw [8] (fun s8 wr => ∃ i : Nat, s8 = .int .i64 (i : Int) ∧ i ≤ 1 ∧ (1 ≤ i → E0 = 0) ∧ Below w.heap.size w wr) (fun s8 _ => 1 - (intOf s8).toNat)
  case atStart => exact ⟨0, rfl, by omega, by omega, Below.refl _ _⟩
  case round =>
    obtain ⟨i, rfl, hi, h1, hb⟩ := hrel
    rcases (show i = 0 ∨ i = 1 by omega) with rfl | rfl
    · clear h1
      rcases K0.out with ⟨hB, HE⟩ | ⟨hB, h0, rfl, HE⟩ | ⟨hB, h0, rfl, he1, he2, HE⟩ | ⟨hB, h0, rfl, rfl, HE⟩ | ⟨hB, n, b, off, x, y, hn, ha, hn0, hn4, hc1, hc2, hx0, hx1, hxy⟩
      · have BD := hid (fun w => dyadBounds_any n0 a0 L0.length c0 e0 w)
        rw [hB] at BD
        obtain ⟨j0, j1, j2⟩ := C0.out.below hb
        clear hB
        go_wp2_with (go_at_call 169; (with_reducible refine (BD.out _).mono ?_); rintro en w1 ⟨rfl, hb1⟩)
        go_ret
        exact ⟨ret_int (by exact HE.out.symm), below_trans (below_trans hb (below_alloc _ _)) hb1⟩
      · have BD := hid (fun w => dyadBounds_any true a0 0 c0 e0 w)
        have hB2 := hB
        rw [h0] at hB2
        rw [hB2] at BD
        obtain ⟨j0, j1, j2⟩ := C0.out.below hb
        rw [h0] at j1
        clear hB hB2 h0
        go_upto_region 6 with (go_at_call 169; (with_reducible refine (BD.out _).mono ?_); rintro en w1 ⟨rfl, hb1⟩)
        have zA := QL.below (QL.made (w := wr) (t := 26) (n := true) (v := .slice a0 0 c0) (k := e0) rfl) hb1
        obtain ⟨⟨i0, i1, -, -, -⟩, i2, -⟩ := zA
        go_wp2_with fail
        all_goals
          go_ret
          exact ⟨ret_int (by exact HE.out.symm), below_trans (below_trans hb (below_alloc _ _)) hb1⟩
      · have BD := hid (fun w => dyadBounds_any false a0 0 c0 e0 w)
        have hB2 := hB
        rw [h0] at hB2
        rw [hB2] at BD
        obtain ⟨j0, j1, j2⟩ := C0.out.below hb
        rw [h0] at j1
        clear hB hB2 h0
        go_upto_region 6 with (go_at_call 169; (with_reducible refine (BD.out _).mono ?_); rintro en w1 ⟨rfl, hb1⟩)
        have zA := QL.below (QL.made (w := wr) (t := 26) (n := false) (v := .slice a0 0 c0) (k := e0) rfl) hb1
        obtain ⟨⟨i0, i1, -, -, -⟩, i2, -⟩ := zA
        go_wp2_with fail
        all_goals
          go_ret
          exact ⟨ret_int (by exact HE.out.symm), below_trans (below_trans hb (below_alloc _ _)) hb1⟩
      · have BD := hid (fun w => dyadBounds_any false a0 0 c0 0 w)
        have hB2 := hB
        rw [h0] at hB2
        rw [hB2] at BD
        obtain ⟨j0, j1, j2⟩ := C0.out.below hb
        rw [h0] at j1
        clear hB hB2 h0
        go_upto_region 6 with (go_at_call 169; (with_reducible refine (BD.out _).mono ?_); rintro en w1 ⟨rfl, hb1⟩)
        have zA := QL.below (QL.made (w := wr) (t := 26) (n := false) (v := .slice a0 0 c0) (k := 0) rfl) hb1
        obtain ⟨⟨i0, i1, -, -, -⟩, i2, -⟩ := zA
        go_wp2_with fail
        go_roundw
        case rel => exact ⟨1, by go_num, by omega, fun _ => HE.out, below_trans (below_trans hb (below_alloc _ _)) hb1⟩
        case measure => simp [intOf]
      · have BD := hid (fun w => dyadBounds_any n0 a0 n c0 e0 w)
        have hB2 := hB
        rw [hn] at hB2
        rw [hB2] at BD
        subst ha
        obtain ⟨j0, j1, j2⟩ := C0.out.below hb
        rw [hn] at j1
        have hcast : ((n : Int) - 1).toNat = n - 1 := by omega
        clear hB hB2 hn
        rcases hxy with ⟨hx | ⟨hx, hy⟩, HE⟩ | ⟨hx, hy, HE⟩
        · go_upto_region 6 with (go_at_call 169; (with_reducible refine (BD.out _).mono ?_); rintro en w1 ⟨rfl, hb1⟩)
          have zA := QL.below (QL.made (w := wr) (t := 26) (n := n0) (v := .slice (some ⟨b, off, none⟩) n c0) (k := e0) rfl) hb1
          obtain ⟨⟨i0, i1, -, -, -⟩, i2, -⟩ := zA
          have y1 := below_trans (below_trans hb (below_alloc _ _)) hb1
          have hc3 := (y1.cell (World.block_lt_of_cell? _ _ hc1)).trans hc1
          have hc4 := (y1.cell (World.block_lt_of_cell? _ _ hc2)).trans hc2
          go_wp2_with fail
          all_goals
            go_ret
            exact ⟨ret_int (by exact HE.out.symm), below_trans (below_trans hb (below_alloc _ _)) hb1⟩
        · go_upto_region 6 with (go_at_call 169; (with_reducible refine (BD.out _).mono ?_); rintro en w1 ⟨rfl, hb1⟩)
          have zA := QL.below (QL.made (w := wr) (t := 26) (n := n0) (v := .slice (some ⟨b, off, none⟩) n c0) (k := e0) rfl) hb1
          obtain ⟨⟨i0, i1, -, -, -⟩, i2, -⟩ := zA
          have y1 := below_trans (below_trans hb (below_alloc _ _)) hb1
          have hc3 := (y1.cell (World.block_lt_of_cell? _ _ hc1)).trans hc1
          have hc4 := (y1.cell (World.block_lt_of_cell? _ _ hc2)).trans hc2
          go_wp2_with fail
          go_ret
          exact ⟨ret_int (by exact HE.out.symm), below_trans (below_trans hb (below_alloc _ _)) hb1⟩
        · go_upto_region 6 with (go_at_call 169; (with_reducible refine (BD.out _).mono ?_); rintro en w1 ⟨rfl, hb1⟩)
          have zA := QL.below (QL.made (w := wr) (t := 26) (n := n0) (v := .slice (some ⟨b, off, none⟩) n c0) (k := e0) rfl) hb1
          obtain ⟨⟨i0, i1, -, -, -⟩, i2, -⟩ := zA
          have y1 := below_trans (below_trans hb (below_alloc _ _)) hb1
          have hc3 := (y1.cell (World.block_lt_of_cell? _ _ hc1)).trans hc1
          have hc4 := (y1.cell (World.block_lt_of_cell? _ _ hc2)).trans hc2
          go_wp2_with fail
          go_roundw
          case rel => exact ⟨1, by go_num, by omega, fun _ => HE.out, below_trans (below_trans hb (below_alloc _ _)) hb1⟩
          case measure => simp [intOf]
    · have g1 := hid (h1 (by omega))
      clear h1
      go_wp2_with fail
      go_ret
      exact ⟨ret_int (by rw [g1.out]), hb⟩
theorem dyadRight2_any (g : Nat) (n0 : Bool) (a0 : Option Addr) (c0 : Nat) (L0 : List Nat) (e0 : Int) (n1 : Bool) (a1 : Option Addr) (c1 : Nat) (L1 : List Nat) (e1 : Int) (w : World) (k0 : DC w g 0 n0 (.slice a0 L0.length c0) e0) (h0 : Ns .u32 w a0 c0 L0) (l0 : Lim L0) (k1 : DC w g 3 n1 (.slice a1 L1.length c1) e1) (h1 : Ns .u32 w a1 c1 L1) (l1 : Lim L1) :
    Calls Tryz.prog 80 #[.slice (some ⟨g, 0, none⟩) 2 2] w fun en w' => en = .returned (.int .i64 (dyadE2 (dyadE n0 L0 e0) (dyadE n1 L1 e1))) ∧ Below w.heap.size w w' := by
  have K0 := hid (dyad_cases n0 a0 c0 L0 e0 w h0 l0)
  have K1 := hid (dyad_cases n1 a1 c1 L1 e1 w h1 l1)
  have C0 := hid k0
  have C1 := hid k1
  have hcap := h0.1
  have hcap2 := h0.2.1
  have hcap3 := h1.1
  have hcap4 := h1.2.1
  unfold maxLen at hcap2 hcap4
  clear h0 k0 h1 k1
  obtain ⟨E0, hE0⟩ : ∃ E, E = dyadE n0 L0 e0 := ⟨_, rfl⟩
  obtain ⟨E1, hE1⟩ : ∃ E, E = dyadE n1 L1 e1 := ⟨_, rfl⟩
  rw [← hE0] at K0 ⊢
  rw [← hE1] at K1 ⊢
  have HE2 := hid (show dyadE2 E0 E1 = if E0 = 0 then E1 else E0 from rfl)
  generalize dyadE2 E0 E1 = E2 at HE2 ⊢
  clear hE0 hE1
  go_enter Tryz.func80, Tryz.ntmps80
  go_wp2_with fail
  go_loopw [8] (fun s8 wr => ∃ i : Nat, s8 = .int .i64 (i : Int) ∧ i ≤ 2 ∧ (1 ≤ i → E0 = 0) ∧ (2 ≤ i → E1 = 0) ∧ Below w.heap.size w wr) (fun s8 _ => 2 - (intOf s8).toNat)
  case atStart => exact ⟨0, rfl, by omega, by omega, by omega, Below.refl _ _⟩
  case round =>
    obtain ⟨i, rfl, hi, h1, h2, hb⟩ := hrel
    rcases (show i = 0 ∨ i = 1 ∨ i = 2 by omega) with rfl | rfl | rfl
    · clear h1 h2
      rcases K0.out with ⟨hB, HE⟩ | ⟨hB, h0, rfl, HE⟩ | ⟨hB, h0, rfl, he1, he2, HE⟩ | ⟨hB, h0, rfl, rfl, HE⟩ | ⟨hB, n, b, off, x, y, hn, ha, hn0, hn4, hc1, hc2, hx0, hx1, hxy⟩
      · have BD := hid (fun w => dyadBounds_any n0 a0 L0.length c0 e0 w)
        rw [hB] at BD
        obtain ⟨j0, j1, j2⟩ := C0.out.below hb
        clear hB
        go_wp2_with (go_at_call 169; (with_reducible refine (BD.out _).mono ?_); rintro en w1 ⟨rfl, hb1⟩)
        go_ret
        exact ⟨ret_int (by rw [HE2.out, HE.out]; rfl), below_trans (below_trans hb (below_alloc _ _)) hb1⟩
      · have BD := hid (fun w => dyadBounds_any true a0 0 c0 e0 w)
        have hB2 := hB
        rw [h0] at hB2
        rw [hB2] at BD
        obtain ⟨j0, j1, j2⟩ := C0.out.below hb
        rw [h0] at j1
        clear hB hB2 h0
        go_upto_region 6 with (go_at_call 169; (with_reducible refine (BD.out _).mono ?_); rintro en w1 ⟨rfl, hb1⟩)
        have zA := QL.below (QL.made (w := wr) (t := 26) (n := true) (v := .slice a0 0 c0) (k := e0) rfl) hb1
        obtain ⟨⟨i0, i1, -, -, -⟩, i2, -⟩ := zA
        go_wp2_with fail
        all_goals
          go_ret
          exact ⟨ret_int (by rw [HE2.out, HE.out]; rfl), below_trans (below_trans hb (below_alloc _ _)) hb1⟩
      · have BD := hid (fun w => dyadBounds_any false a0 0 c0 e0 w)
        have hB2 := hB
        rw [h0] at hB2
        rw [hB2] at BD
        obtain ⟨j0, j1, j2⟩ := C0.out.below hb
        rw [h0] at j1
        clear hB hB2 h0
        go_upto_region 6 with (go_at_call 169; (with_reducible refine (BD.out _).mono ?_); rintro en w1 ⟨rfl, hb1⟩)
        have zA := QL.below (QL.made (w := wr) (t := 26) (n := false) (v := .slice a0 0 c0) (k := e0) rfl) hb1
        obtain ⟨⟨i0, i1, -, -, -⟩, i2, -⟩ := zA
        go_wp2_with fail
        all_goals
          go_ret
          exact ⟨ret_int (by rw [HE2.out, HE.out]; rfl), below_trans (below_trans hb (below_alloc _ _)) hb1⟩
      · have BD := hid (fun w => dyadBounds_any false a0 0 c0 0 w)
        have hB2 := hB
        rw [h0] at hB2
        rw [hB2] at BD
        obtain ⟨j0, j1, j2⟩ := C0.out.below hb
        rw [h0] at j1
        clear hB hB2 h0
        go_upto_region 6 with (go_at_call 169; (with_reducible refine (BD.out _).mono ?_); rintro en w1 ⟨rfl, hb1⟩)
        have zA := QL.below (QL.made (w := wr) (t := 26) (n := false) (v := .slice a0 0 c0) (k := 0) rfl) hb1
        obtain ⟨⟨i0, i1, -, -, -⟩, i2, -⟩ := zA
        go_wp2_with fail
        go_roundw
        case rel => exact ⟨1, by go_num, by omega, fun _ => HE.out, by omega, below_trans (below_trans hb (below_alloc _ _)) hb1⟩
        case measure => simp [intOf]
      · have BD := hid (fun w => dyadBounds_any n0 a0 n c0 e0 w)
        have hB2 := hB
        rw [hn] at hB2
        rw [hB2] at BD
        subst ha
        obtain ⟨j0, j1, j2⟩ := C0.out.below hb
        rw [hn] at j1
        have hcast : ((n : Int) - 1).toNat = n - 1 := by omega
        clear hB hB2 hn
        rcases hxy with ⟨hx | ⟨hx, hy⟩, HE⟩ | ⟨hx, hy, HE⟩
        · go_upto_region 6 with (go_at_call 169; (with_reducible refine (BD.out _).mono ?_); rintro en w1 ⟨rfl, hb1⟩)
          have zA := QL.below (QL.made (w := wr) (t := 26) (n := n0) (v := .slice (some ⟨b, off, none⟩) n c0) (k := e0) rfl) hb1
          obtain ⟨⟨i0, i1, -, -, -⟩, i2, -⟩ := zA
          have y1 := below_trans (below_trans hb (below_alloc _ _)) hb1
          have hc3 := (y1.cell (World.block_lt_of_cell? _ _ hc1)).trans hc1
          have hc4 := (y1.cell (World.block_lt_of_cell? _ _ hc2)).trans hc2
          go_wp2_with fail
          all_goals
            go_ret
            exact ⟨ret_int (by rw [HE2.out, HE.out]; rfl), below_trans (below_trans hb (below_alloc _ _)) hb1⟩
        · go_upto_region 6 with (go_at_call 169; (with_reducible refine (BD.out _).mono ?_); rintro en w1 ⟨rfl, hb1⟩)
          have zA := QL.below (QL.made (w := wr) (t := 26) (n := n0) (v := .slice (some ⟨b, off, none⟩) n c0) (k := e0) rfl) hb1
          obtain ⟨⟨i0, i1, -, -, -⟩, i2, -⟩ := zA
          have y1 := below_trans (below_trans hb (below_alloc _ _)) hb1
          have hc3 := (y1.cell (World.block_lt_of_cell? _ _ hc1)).trans hc1
          have hc4 := (y1.cell (World.block_lt_of_cell? _ _ hc2)).trans hc2
          go_wp2_with fail
          go_ret
          exact ⟨ret_int (by rw [HE2.out, HE.out]; rfl), below_trans (below_trans hb (below_alloc _ _)) hb1⟩
        · go_upto_region 6 with (go_at_call 169; (with_reducible refine (BD.out _).mono ?_); rintro en w1 ⟨rfl, hb1⟩)
          have zA := QL.below (QL.made (w := wr) (t := 26) (n := n0) (v := .slice (some ⟨b, off, none⟩) n c0) (k := e0) rfl) hb1
          obtain ⟨⟨i0, i1, -, -, -⟩, i2, -⟩ := zA
          have y1 := below_trans (below_trans hb (below_alloc _ _)) hb1
          have hc3 := (y1.cell (World.block_lt_of_cell? _ _ hc1)).trans hc1
          have hc4 := (y1.cell (World.block_lt_of_cell? _ _ hc2)).trans hc2
          go_wp2_with fail
          go_roundw
          case rel => exact ⟨1, by go_num, by omega, fun _ => HE.out, by omega, below_trans (below_trans hb (below_alloc _ _)) hb1⟩
          case measure => simp [intOf]
    · have G0 := hid (h1 (by omega))
      clear h1 h2
      rcases K1.out with ⟨hB, HE⟩ | ⟨hB, h0, rfl, HE⟩ | ⟨hB, h0, rfl, he1, he2, HE⟩ | ⟨hB, h0, rfl, rfl, HE⟩ | ⟨hB, n, b, off, x, y, hn, ha, hn0, hn4, hc1, hc2, hx0, hx1, hxy⟩
      · have BD := hid (fun w => dyadBounds_any n1 a1 L1.length c1 e1 w)
        rw [hB] at BD
        obtain ⟨j0, j1, j2⟩ := C1.out.below hb
        clear hB
        go_wp2_with (go_at_call 169; (with_reducible refine (BD.out _).mono ?_); rintro en w1 ⟨rfl, hb1⟩)
        go_ret
        exact ⟨ret_int (by rw [HE2.out, G0.out, HE.out]; rfl), below_trans (below_trans hb (below_alloc _ _)) hb1⟩
      · have BD := hid (fun w => dyadBounds_any true a1 0 c1 e1 w)
        have hB2 := hB
        rw [h0] at hB2
        rw [hB2] at BD
        obtain ⟨j0, j1, j2⟩ := C1.out.below hb
        rw [h0] at j1
        clear hB hB2 h0
        go_upto_region 6 with (go_at_call 169; (with_reducible refine (BD.out _).mono ?_); rintro en w1 ⟨rfl, hb1⟩)
        have zA := QL.below (QL.made (w := wr) (t := 26) (n := true) (v := .slice a1 0 c1) (k := e1) rfl) hb1
        obtain ⟨⟨i0, i1, -, -, -⟩, i2, -⟩ := zA
        go_wp2_with fail
        all_goals
          go_ret
          exact ⟨ret_int (by rw [HE2.out, G0.out, HE.out]; rfl), below_trans (below_trans hb (below_alloc _ _)) hb1⟩
      · have BD := hid (fun w => dyadBounds_any false a1 0 c1 e1 w)
        have hB2 := hB
        rw [h0] at hB2
        rw [hB2] at BD
        obtain ⟨j0, j1, j2⟩ := C1.out.below hb
        rw [h0] at j1
        clear hB hB2 h0
        go_upto_region 6 with (go_at_call 169; (with_reducible refine (BD.out _).mono ?_); rintro en w1 ⟨rfl, hb1⟩)
        have zA := QL.below (QL.made (w := wr) (t := 26) (n := false) (v := .slice a1 0 c1) (k := e1) rfl) hb1
        obtain ⟨⟨i0, i1, -, -, -⟩, i2, -⟩ := zA
        go_wp2_with fail
        all_goals
          go_ret
          exact ⟨ret_int (by rw [HE2.out, G0.out, HE.out]; rfl), below_trans (below_trans hb (below_alloc _ _)) hb1⟩
      · have BD := hid (fun w => dyadBounds_any false a1 0 c1 0 w)
        have hB2 := hB
        rw [h0] at hB2
        rw [hB2] at BD
        obtain ⟨j0, j1, j2⟩ := C1.out.below hb
        rw [h0] at j1
        clear hB hB2 h0
        go_upto_region 6 with (go_at_call 169; (with_reducible refine (BD.out _).mono ?_); rintro en w1 ⟨rfl, hb1⟩)
        have zA := QL.below (QL.made (w := wr) (t := 26) (n := false) (v := .slice a1 0 c1) (k := 0) rfl) hb1
        obtain ⟨⟨i0, i1, -, -, -⟩, i2, -⟩ := zA
        go_wp2_with fail
        go_roundw
        case rel => exact ⟨2, by go_num, by omega, fun _ => G0.out, fun _ => HE.out, below_trans (below_trans hb (below_alloc _ _)) hb1⟩
        case measure => simp [intOf]
      · have BD := hid (fun w => dyadBounds_any n1 a1 n c1 e1 w)
        have hB2 := hB
        rw [hn] at hB2
        rw [hB2] at BD
        subst ha
        obtain ⟨j0, j1, j2⟩ := C1.out.below hb
        rw [hn] at j1
        have hcast : ((n : Int) - 1).toNat = n - 1 := by omega
        clear hB hB2 hn
        rcases hxy with ⟨hx | ⟨hx, hy⟩, HE⟩ | ⟨hx, hy, HE⟩
        · go_upto_region 6 with (go_at_call 169; (with_reducible refine (BD.out _).mono ?_); rintro en w1 ⟨rfl, hb1⟩)
          have zA := QL.below (QL.made (w := wr) (t := 26) (n := n1) (v := .slice (some ⟨b, off, none⟩) n c1) (k := e1) rfl) hb1
          obtain ⟨⟨i0, i1, -, -, -⟩, i2, -⟩ := zA
          have y1 := below_trans (below_trans hb (below_alloc _ _)) hb1
          have hc3 := (y1.cell (World.block_lt_of_cell? _ _ hc1)).trans hc1
          have hc4 := (y1.cell (World.block_lt_of_cell? _ _ hc2)).trans hc2
          go_wp2_with fail
          all_goals
            go_ret
            exact ⟨ret_int (by rw [HE2.out, G0.out, HE.out]; rfl), below_trans (below_trans hb (below_alloc _ _)) hb1⟩
        · go_upto_region 6 with (go_at_call 169; (with_reducible refine (BD.out _).mono ?_); rintro en w1 ⟨rfl, hb1⟩)
          have zA := QL.below (QL.made (w := wr) (t := 26) (n := n1) (v := .slice (some ⟨b, off, none⟩) n c1) (k := e1) rfl) hb1
          obtain ⟨⟨i0, i1, -, -, -⟩, i2, -⟩ := zA
          have y1 := below_trans (below_trans hb (below_alloc _ _)) hb1
          have hc3 := (y1.cell (World.block_lt_of_cell? _ _ hc1)).trans hc1
          have hc4 := (y1.cell (World.block_lt_of_cell? _ _ hc2)).trans hc2
          go_wp2_with fail
          go_ret
          exact ⟨ret_int (by rw [HE2.out, G0.out, HE.out]; rfl), below_trans (below_trans hb (below_alloc _ _)) hb1⟩
        · go_upto_region 6 with (go_at_call 169; (with_reducible refine (BD.out _).mono ?_); rintro en w1 ⟨rfl, hb1⟩)
          have zA := QL.below (QL.made (w := wr) (t := 26) (n := n1) (v := .slice (some ⟨b, off, none⟩) n c1) (k := e1) rfl) hb1
          obtain ⟨⟨i0, i1, -, -, -⟩, i2, -⟩ := zA
          have y1 := below_trans (below_trans hb (below_alloc _ _)) hb1
          have hc3 := (y1.cell (World.block_lt_of_cell? _ _ hc1)).trans hc1
          have hc4 := (y1.cell (World.block_lt_of_cell? _ _ hc2)).trans hc2
          go_wp2_with fail
          go_roundw
          case rel => exact ⟨2, by go_num, by omega, fun _ => G0.out, fun _ => HE.out, below_trans (below_trans hb (below_alloc _ _)) hb1⟩
          case measure => simp [intOf]
    · have G0 := hid (h1 (by omega))
      have G1 := hid (h2 (by omega))
      clear h1 h2
      go_wp2_with fail
      go_ret
      exact ⟨ret_int (by rw [HE2.out, G0.out, G1.out]; rfl), hb⟩
end Go.Proofs.YthaelmnblgollaaGreatDoor
