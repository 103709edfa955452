/- dyad: the value of a number, the opposite. -/
import Derived.Test.YteaakbeemhmciaaDoorDn1
import Derived.Test.YteaakbeemhmciaaDoorQ4
namespace Go.Ulp
open Go.RowKit
theorem or_hidden (f : Int) (h0 : 0 ≤ f) (h1 : f < 4503599627370496) : bits .or .u64 f 4503599627370496 = f + 4503599627370496 := by
  rw [bits_comm_or f _ h0 (by omega) (by omega) (by omega), or_join52 4503599627370496 f (by omega) (by omega) h0 (by omega) (by omega) h1]; omega
end Go.Ulp
namespace Go.Proofs.YteaakbeemhmciaaDoor
open Go.RowKit Go.Ulp
set_option linter.unusedVariables false
set_option linter.unusedSimpArgs false
set_option maxHeartbeats 1000000
set_option maxRecDepth 100000
theorem value_any (x : Int) (h0 : 0 ≤ x) (h1 : x < 18446744073709551616) (w : World) (hT : Tab 0 w) :
    Calls Tryd.prog 96 #[.int .u64 x] w (RetVD w (fv x)) := by
  have PA := hid (fun w => parts_any x h0 h1 w)
  have hfb := fracOf_bd x
  have heb := expOf_bd x
  have hmb := mantOf_bd x
  obtain ⟨m, hm⟩ := Int.eq_ofNat_of_zero_le hmb.1
  have OF := hid (fun w => natOf_any m (by omega) w)
  have hml : (limbs m).length ≤ 1000000 := by
    have : (limbs m).length ≤ 2 := (digs_len_le 4294967296 (by omega) m 2).2 (by omega)
    omega
  have hdb := dexp_bd x
  have NO := hid (show ∀ a c w, Ns .u32 w a c (limbs m) → Tab 0 w → Calls Tryd.prog 99 #[.bool (negB x), .slice a (limbs m).length c, .int .i64 (max (expOf x) 1 - 1075)] w (RetVD w (fv x)) from fun a c w k t => by
    have := normD_any (negB x) a c m (dexp x) w k hml (by omega) t
    unfold fv; rw [hm]; exact this)
  have yb0 := below_alloc w (.cells #[.bool false, .slice none 0 0, .int .i64 0] 25)
  have zR0 : QL 25 (w.alloc (.cells #[.bool false, .slice none 0 0, .int .i64 0] 25)) w.heap.size false (.slice none 0 0) 0 := QL.made rfl
  have HT := hid hT
  by_cases hp : 0 < expOf x
  · have hor := or_hidden (fracOf x) hfb.1 hfb.2
    have hmv : fracOf x + 4503599627370496 = (m : Int) := by
      have := hm; unfold mantOf at this; rw [if_pos hp] at this; exact this
    generalize fracOf x = fr at *
    generalize negB x = ng at *
    generalize expOf x = ex at *
    generalize fv x = D at *
    clear hT hm hmb hml hdb
    go_enter Tryd.func96, Tryd.ntmps96
    go_wp2_with (first
      | (go_at_call 156; (with_reducible refine (PA.out _).mono ?_); rintro en w1 ⟨rfl, rfl⟩)
      | (go_at_call 133; (with_reducible refine (OF.out _).mono ?_); rintro en w2 ⟨a2, rfl, hN2, hb2⟩; have yb2 := below_trans yb0 hb2; have zR2 := zR0.below hb2)
      | (go_at_call 99; (with_reducible refine (NO.out _ _ _ hN2 (HT.out.below yb2)).mono ?_); rintro en w3 ⟨v3, rfl, ⟨a3, c3, rfl, hN3⟩, hb3⟩; have yb3 := below_trans yb2 hb3; have zR3 := zR2.below hb3; obtain ⟨⟨k0, k1, f0, f1, hs2⟩, k2, f2⟩ := id zR3))
    refine bodyPost_ret (by simp [results, Tryd.results96, go_sem, k0, k1, k2]; try rfl) rfl ?_
    exact ⟨_, rfl, ⟨a3, c3, rfl, hN3.set3 zR3 (by intro x h; cases h) _ _ _⟩, ((yb3.setCell (by first | omega | (simp; done) | (simp; omega)) _).setCell (by first | omega | (simp; done) | (simp; omega)) _).setCell (by first | omega | (simp; done) | (simp; omega)) _⟩
  · have hmv : fracOf x = (m : Int) := by
      have := hm; unfold mantOf at this; rw [if_neg hp] at this; exact this
    generalize fracOf x = fr at *
    generalize negB x = ng at *
    generalize expOf x = ex at *
    generalize fv x = D at *
    clear hT hm hmb hml hdb
    subst hmv
    go_enter Tryd.func96, Tryd.ntmps96
    go_wp2_with (first
      | (go_at_call 156; (with_reducible refine (PA.out _).mono ?_); rintro en w1 ⟨rfl, rfl⟩)
      | (go_at_call 133; (with_reducible refine (OF.out _).mono ?_); rintro en w2 ⟨a2, rfl, hN2, hb2⟩; have yb2 := below_trans yb0 hb2; have zR2 := zR0.below hb2)
      | (go_at_call 99; (with_reducible refine (NO.out _ _ _ hN2 (HT.out.below yb2)).mono ?_); rintro en w3 ⟨v3, rfl, ⟨a3, c3, rfl, hN3⟩, hb3⟩; have yb3 := below_trans yb2 hb3; have zR3 := zR2.below hb3; obtain ⟨⟨k0, k1, f0, f1, hs2⟩, k2, f2⟩ := id zR3))
    refine bodyPost_ret (by simp [results, Tryd.results96, go_sem, k0, k1, k2]; try rfl) rfl ?_
    exact ⟨_, rfl, ⟨a3, c3, rfl, hN3.set3 zR3 (by intro x h; cases h) _ _ _⟩, ((yb3.setCell (by first | omega | (simp; done) | (simp; omega)) _).setCell (by first | omega | (simp; done) | (simp; omega)) _).setCell (by first | omega | (simp; done) | (simp; omega)) _⟩
end Go.Proofs.YteaakbeemhmciaaDoor
