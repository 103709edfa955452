/- Rounding, the program's side: Known, Beside. -/
import Derived.Test.YtdoiobdomngccaaRn3
import Derived.Test.YtdoiobdomngccaaRd
import Derived.Test.YtdoiobdomngccaaDd2
namespace Go.Ulp
open Go.RowKit
def knownB (mode : Int) : Bool := decide (0 ≤ mode ∧ mode ≤ 4)
/-- what a call leaves that hands back a Dyad: its fields in memory, nothing old turned -/
def RetDy (w : World) (neg : Bool) (m : Nat) (x : Int) (e : Ending) (w' : World) : Prop :=
  ∃ am cm, e = .returned (.agg #[.bool neg, .slice am (limbs m).length cm, .int .i64 x]) ∧ Ns .u32 w' am cm (limbs m) ∧ Below w.heap.size w w'
theorem limbs_len_shl (m k j : Nat) (h : k < 32 * (j + 1)) : (limbs (m * 2 ^ k)).length ≤ (limbs m).length + (j + 1) := by
  refine limbs_len_mul m (2 ^ k) _ _ (Nat.le_refl _) ((digs_len_le 4294967296 (by omega) _ _).2 ?_)
  rw [show (4294967296 : Nat) = 2 ^ 32 by decide, ← Nat.pow_mul]
  exact Nat.pow_lt_pow_right (by omega) h
theorem cell_set_ne {w : World} {g o o' : Nat} {u : Value} (h : o ≠ o') : (w.setCell ⟨g, o, none⟩ u).cell? ⟨g, o', none⟩ = w.cell? ⟨g, o', none⟩ := by
  rw [World.cell?_setCell_other]
  intro e
  injection e with _ e2 _
  exact h e2
theorem Ns.set3 {t : TypeId} {w : World} {ao : Option Addr} {cap : Nat} {L : List Nat} {g : Nat} {n : Bool} {v : Value} {k : Int} (h : Ns .u32 w ao cap L) (z : QL t w g n v k) (hv : ∀ x, v ≠ .int .u32 x) (u0 u1 u2 : Value) :
    Ns .u32 (((w.setCell ⟨g, 0, none⟩ u0).setCell ⟨g, 1, none⟩ u1).setCell ⟨g, 2, none⟩ u2) ao cap L := by
  have h1 := Ns.setCell_kind h ⟨g, 0, none⟩ u0 (.bool n) z.1.1 (by intro x e; cases e)
  have h2 := Ns.setCell_kind h1 ⟨g, 1, none⟩ u1 v ((cell_set_ne (by omega)).trans z.1.2.1) hv
  exact Ns.setCell_kind h2 ⟨g, 2, none⟩ u2 (.int .i64 k) ((cell_set_ne (by omega)).trans ((cell_set_ne (by omega)).trans z.2.1)) (by intro x e; cases e)
end Go.Ulp
namespace Go.Proofs.Ytdoiobdomngccaa
open Go.RowKit Go.Ulp
set_option linter.unusedVariables false
set_option linter.unusedSimpArgs false
set_option maxHeartbeats 1000000
set_option maxRecDepth 100000
theorem known_any (mode : Int) (w : World) : Calls Try.prog 104 #[.int .i64 mode] w fun e w' => e = .returned (.bool (knownB mode)) ∧ w = w' := by
  by_cases h : 0 ≤ mode
  · have H := hid (show decide (mode ≤ 4) = knownB mode by unfold knownB; rw [decide_eq_decide]; omega)
    go_enter Try.func104, Try.ntmps104
    go_wp2_with fail
    go_ret
    exact ⟨ret_bool H.out, rfl⟩
  · have H := hid (show false = knownB mode by unfold knownB; rw [eq_comm, decide_eq_false_iff_not]; omega)
    go_enter Try.func104, Try.ntmps104
    go_wp2_with fail
    go_ret
    exact ⟨ret_bool H.out, rfl⟩
theorem beside_any (neg : Bool) (m : Nat) (am : Option Addr) (cm : Nat) (e side : Int) (w : World) (h0 : Ns .u32 w am cm (limbs m)) (hm : (limbs m).length ≤ 10000) (he : -100000 ≤ e ∧ e ≤ 100000) :
    Calls Try.prog 106 #[.agg #[.bool neg, .slice am (limbs m).length cm, .int .i64 e], .int .i64 side] w (RetDy w (besNeg neg m side) (besM neg m side) (besE m e side)) := by
  have H := hid h0
  have zA0 : QL 82 ((w.alloc (.cells #[.bool neg, .slice am (limbs m).length cm, .int .i64 e] 82)).alloc (.cells #[.bool false, .slice none 0 0, .int .i64 0] 82)) w.heap.size neg (.slice am (limbs m).length cm) e := (QL.made rfl).alloc _
  have zR0 : QL 82 ((w.alloc (.cells #[.bool neg, .slice am (limbs m).length cm, .int .i64 e] 82)).alloc (.cells #[.bool false, .slice none 0 0, .int .i64 0] 82)) (w.heap.size + 1) false (.slice none 0 0) 0 := QL.made (by first | omega | (simp; done) | (simp; omega))
  have yb0 : Below w.heap.size w ((w.alloc (.cells #[.bool neg, .slice am (limbs m).length cm, .int .i64 e] 82)).alloc (.cells #[.bool false, .slice none 0 0, .int .i64 0] 82)) := by (repeat' (first | (with_reducible assumption) | (with_reducible exact Below.refl _ _) | (with_reducible refine below_al ?_ _) | (with_reducible refine below_drewN ?_ _) | (with_reducible refine Below.drew ?_) | (with_reducible refine Below.alloc ?_ ?_ _) | (with_reducible refine Below.setCell ?_ ?_ _) | (refine below_trans ?_ (by assumption)) | go_size))
  have hcap := h0.1
  have hcap2 := h0.2.1
  unfold maxLen at hcap2
  clear h0
  by_cases hs : side = 0
  · subst hs
    have E1 : besNeg neg m 0 = neg := by unfold besNeg; rw [if_pos rfl]
    have E2 : besM neg m 0 = m := by unfold besM; rw [if_pos rfl]
    have E3 : besE m e 0 = e := by unfold besE; rw [if_pos rfl]
    rw [E1, E2, E3]
    clear E1 E2 E3
    go_enter Try.func106, Try.ntmps106
    go_wp2_with fail
    refine bodyPost_ret (by simp [results, Try.results106, go_sem]; try rfl) rfl ?_
    exact ⟨_, _, rfl, H.out.below (below_trans (below_alloc _ _) (below_alloc _ _)), below_trans (below_alloc _ _) (below_alloc _ _)⟩
  have hsb : (side == 0) = false := beq_eq_false_iff_ne.2 hs
  have OF := hid (show ∀ w, Calls Try.prog 69 #[.int .u64 1] w fun e w' => RetN w 1 e w' from fun w => natOf_any 1 (by omega) w)
  by_cases hz : m = 0
  · subst hz
    have E1 := hid (show besNeg neg 0 side = decide (side < 0) by unfold besNeg; rw [if_neg hs, if_pos rfl])
    have E2 := hid (show besM neg 0 side = 1 by unfold besM; rw [if_neg hs, if_pos rfl])
    have E3 := hid (show besE 0 e side = -2000 by unfold besE; rw [if_neg hs, if_pos rfl])
    rw [E1.out, E2.out, E3.out]
    rw [limbs_zero] at zA0 zR0 yb0 ⊢
    clear hs
    go_enter Try.func106, Try.ntmps106
    go_upto_region 4 with fail
    go_wp2_with (go_at_call 69; (with_reducible refine (OF.out _).mono ?_); rintro en w1 ⟨a1, rfl, hN1, hb1⟩; have zR := zR0.below hb1; have yb := below_trans yb0 hb1; have k0 := zR.1.1; have k1 := zR.1.2.1; have k2 := zR.2.1; have f0 := zR.1.2.2.1; have f1 := zR.1.2.2.2.1; have f2 := zR.2.2)
    refine bodyPost_ret (by simp [results, Try.results106, go_sem, k0, k1, k2]; try rfl) rfl ?_
    exact ⟨_, _, rfl, hN1.set3 zR (by intro x h; cases h) _ _ _, ((yb.setCell (by first | omega | (simp; done) | (simp; omega)) _).setCell (by first | omega | (simp; done) | (simp; omega)) _).setCell (by first | omega | (simp; done) | (simp; omega)) _⟩
  · have hlen : (limbs m).length ≠ 0 := fun h => hz ((limbs_nil m).1 (List.length_eq_zero_iff.1 h))
    have hlb : (((limbs m).length : Int) == 0) = false := beq_eq_false_iff_ne.2 (by omega)
    have E1 := hid (show besNeg neg m side = neg by unfold besNeg; rw [if_neg hs, if_neg hz])
    have E2 := hid (show besM neg m side = if (decide (0 < side) != neg) = true then m * 2 ^ 64 + 1 else m * 2 ^ 64 - 1 by unfold besM; rw [if_neg hs, if_neg hz])
    have E3 := hid (show besE m e side = e - 64 by unfold besE; rw [if_neg hs, if_neg hz])
    obtain ⟨M, hM⟩ : ∃ M, M = m * 2 ^ 64 := ⟨_, rfl⟩
    have hM1 : 1 ≤ M := by rw [hM]; exact Nat.mul_pos (by omega) (Nat.two_pow_pos 64)
    have hMl : (limbs M).length ≤ 20000 := by
      rw [hM]
      have := limbs_len_shl m 64 2 (by omega)
      omega
    have LF := hid (show ∀ a c w, Ns .u32 w a c (limbs m) → Calls Try.prog 136 #[.slice a (limbs m).length c, .int .i64 64] w fun e w' => RetN w M e w' from fun a c w h => by rw [hM]; exact leftN_any a c m 64 w h (by omega) (by omega))
    have hone : (limbs 1).length ≤ 4294967296 := by
      have : (limbs 1).length ≤ 1 := (digs_len_le 4294967296 (by omega) 1 1).2 (by omega)
      omega
    have PL := hid (show ∀ a b c d w, Ns .u32 w a c (limbs M) → Ns .u32 w b d (limbs 1) → Calls Try.prog 118 #[.slice a (limbs M).length c, .slice b (limbs 1).length d] w fun e w' => RetN w (M + 1) e w' from fun a b c d w k0 k1 => plus_any a b c d M 1 w k0 k1 (by omega) hone)
    have MI := hid (show ∀ a b c d w, Ns .u32 w a c (limbs M) → Ns .u32 w b d (limbs 1) → Calls Try.prog 119 #[.slice a (limbs M).length c, .slice b (limbs 1).length d] w fun e w' => RetN w (M - 1) e w' from fun a b c d w k0 k1 => minus_any a b c d M 1 w k0 k1 (by omega) hM1)
    rw [← hM] at E2
    rw [E1.out, E2.out, E3.out]
    obtain ⟨q, hq⟩ : ∃ q, q = (decide (0 < side) != neg) := ⟨_, rfl⟩
    have HQ := hid hq
    rw [← hq]
    clear hs hz hM hM1 hMl hlen hone hq E1 E2 E3
    go_enter Try.func106, Try.ntmps106
    go_upto_region 6 with (go_at_call 136; (with_reducible refine (LF.out _ _ _ (H.out.below yb0)).mono ?_); rintro en w1 ⟨a1, rfl, hN1, hb1⟩)
    have zA := zA0.below hb1
    have zR := zR0.below hb1
    have yb := below_trans yb0 hb1
    obtain ⟨⟨j0, j1, -, -, -⟩, j2, -⟩ := id zA
    clear zA0 zR0 yb0 hb1
    by_cases hp : 0 < side
    · have hd : decide (0 < side) = true := decide_eq_true hp
      cases neg
      · obtain rfl : q = true := by rw [HQ.out, hd]; rfl
        clear HQ
        go_upto_region 9 with (first
          | (go_at_call 69; (with_reducible refine (OF.out _).mono ?_); rintro en w8 ⟨a8, rfl, hN8, hb8⟩)
          | (go_at_call 118; (with_reducible refine (PL.out _ _ _ _ _ (hN1.below hb8) hN8).mono ?_); rintro en w9 ⟨a9, rfl, hN9, hb9⟩))
        have zR9 := (zR.below hb8).below hb9
        have yb9 := below_trans (below_trans yb hb8) hb9
        have zA9 := (zA.below hb8).below hb9
        clear j0 j1 j2
        obtain ⟨⟨j0, j1, -, -, -⟩, j2, -⟩ := id zA9
        obtain ⟨⟨k0, k1, f0, f1, hs2⟩, k2, f2⟩ := id zR9
        go_wp2_with fail
        refine bodyPost_ret (by simp [results, Try.results106, go_sem, k0, k1, k2]; try rfl) rfl ?_
        exact ⟨_, _, rfl, hN9.set3 zR9 (by intro x h; cases h) _ _ _, ((yb9.setCell (by first | omega | (simp; done) | (simp; omega)) _).setCell (by first | omega | (simp; done) | (simp; omega)) _).setCell (by first | omega | (simp; done) | (simp; omega)) _⟩
      · obtain rfl : q = false := by rw [HQ.out, hd]; rfl
        clear HQ
        go_upto_region 9 with (first
          | (go_at_call 69; (with_reducible refine (OF.out _).mono ?_); rintro en w8 ⟨a8, rfl, hN8, hb8⟩)
          | (go_at_call 119; (with_reducible refine (MI.out _ _ _ _ _ (hN1.below hb8) hN8).mono ?_); rintro en w9 ⟨a9, rfl, hN9, hb9⟩))
        have zR9 := (zR.below hb8).below hb9
        have yb9 := below_trans (below_trans yb hb8) hb9
        have zA9 := (zA.below hb8).below hb9
        clear j0 j1 j2
        obtain ⟨⟨j0, j1, -, -, -⟩, j2, -⟩ := id zA9
        obtain ⟨⟨k0, k1, f0, f1, hs2⟩, k2, f2⟩ := id zR9
        go_wp2_with fail
        refine bodyPost_ret (by simp [results, Try.results106, go_sem, k0, k1, k2]; try rfl) rfl ?_
        exact ⟨_, _, rfl, hN9.set3 zR9 (by intro x h; cases h) _ _ _, ((yb9.setCell (by first | omega | (simp; done) | (simp; omega)) _).setCell (by first | omega | (simp; done) | (simp; omega)) _).setCell (by first | omega | (simp; done) | (simp; omega)) _⟩
    · have hd : decide (0 < side) = false := decide_eq_false hp
      cases neg
      · obtain rfl : q = false := by rw [HQ.out, hd]; rfl
        clear HQ
        go_upto_region 9 with (first
          | (go_at_call 69; (with_reducible refine (OF.out _).mono ?_); rintro en w8 ⟨a8, rfl, hN8, hb8⟩)
          | (go_at_call 119; (with_reducible refine (MI.out _ _ _ _ _ (hN1.below hb8) hN8).mono ?_); rintro en w9 ⟨a9, rfl, hN9, hb9⟩))
        have zR9 := (zR.below hb8).below hb9
        have yb9 := below_trans (below_trans yb hb8) hb9
        have zA9 := (zA.below hb8).below hb9
        clear j0 j1 j2
        obtain ⟨⟨j0, j1, -, -, -⟩, j2, -⟩ := id zA9
        obtain ⟨⟨k0, k1, f0, f1, hs2⟩, k2, f2⟩ := id zR9
        go_wp2_with fail
        refine bodyPost_ret (by simp [results, Try.results106, go_sem, k0, k1, k2]; try rfl) rfl ?_
        exact ⟨_, _, rfl, hN9.set3 zR9 (by intro x h; cases h) _ _ _, ((yb9.setCell (by first | omega | (simp; done) | (simp; omega)) _).setCell (by first | omega | (simp; done) | (simp; omega)) _).setCell (by first | omega | (simp; done) | (simp; omega)) _⟩
      · obtain rfl : q = true := by rw [HQ.out, hd]; rfl
        clear HQ
        go_upto_region 9 with (first
          | (go_at_call 69; (with_reducible refine (OF.out _).mono ?_); rintro en w8 ⟨a8, rfl, hN8, hb8⟩)
          | (go_at_call 118; (with_reducible refine (PL.out _ _ _ _ _ (hN1.below hb8) hN8).mono ?_); rintro en w9 ⟨a9, rfl, hN9, hb9⟩))
        have zR9 := (zR.below hb8).below hb9
        have yb9 := below_trans (below_trans yb hb8) hb9
        have zA9 := (zA.below hb8).below hb9
        clear j0 j1 j2
        obtain ⟨⟨j0, j1, -, -, -⟩, j2, -⟩ := id zA9
        obtain ⟨⟨k0, k1, f0, f1, hs2⟩, k2, f2⟩ := id zR9
        go_wp2_with fail
        refine bodyPost_ret (by simp [results, Try.results106, go_sem, k0, k1, k2]; try rfl) rfl ?_
        exact ⟨_, _, rfl, hN9.set3 zR9 (by intro x h; cases h) _ _ _, ((yb9.setCell (by first | omega | (simp; done) | (simp; omega)) _).setCell (by first | omega | (simp; done) | (simp; omega)) _).setCell (by first | omega | (simp; done) | (simp; omega)) _⟩
end Go.Proofs.Ytdoiobdomngccaa
