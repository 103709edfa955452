/- CoinLaplace: the law's walk. -/
import Derived.Test.YtdoiobdomngccaaCo10
set_option linter.unusedVariables false
set_option linter.unusedSimpArgs false
set_option linter.unnecessarySimpa false
namespace Go.Ulp
open Go.RowKit
/-- two variables of numbers, side by side -/
def BX2 (w : World) (g : Nat) (a b : Int) : Prop := w.cell? ⟨g, 0, none⟩ = some (.int .i64 a) ∧ w.cell? ⟨g + 1, 0, none⟩ = some (.int .i64 b)
theorem BX2.below {w w' : World} {g : Nat} {a b : Int} (h : BX2 w g a b) (hb : Below w.heap.size w w') : BX2 w' g a b :=
  ⟨(hb.cell (World.block_lt_of_cell? w _ h.1)).trans h.1, (hb.cell (World.block_lt_of_cell? w _ h.2)).trans h.2⟩
theorem BX2.set {w : World} {g c : Nat} {a b : Int} {v : Value} (h : BX2 w g a b) (hc : g + 1 < c) : BX2 (w.setCell ⟨c, 0, none⟩ v) g a b := by
  obtain ⟨h1, h2⟩ := h
  refine ⟨?_, ?_⟩
  · rw [World.cell?_setCell_other (h := fun e => by injection e with e; omega)]; exact h1
  · rw [World.cell?_setCell_other (h := fun e => by injection e with e; omega)]; exact h2
theorem BX2.made (w : World) (a b : Int) (t u : TypeId) : BX2 ((w.alloc (.cells #[.int .i64 a] t)).alloc (.cells #[.int .i64 b] u)) w.heap.size a b := by
  have h1 : (w.alloc (.cells #[.int .i64 a] t)).cell? ⟨w.heap.size, 0, none⟩ = some (.int .i64 a) := by rw [World.cell?_alloc_at (hn := rfl)]; rfl
  have h2 : ((w.alloc (.cells #[.int .i64 a] t)).alloc (.cells #[.int .i64 b] u)).cell? ⟨w.heap.size + 1, 0, none⟩ = some (.int .i64 b) := by rw [World.cell?_alloc_at (hn := by simp)]; rfl
  refine ⟨?_, h2⟩
  rw [(below_alloc _ _).cell (by simp)]; exact h1
end Go.Ulp
namespace Go.Proofs.Ytdoiobdomngccaa
open Go.RowKit Go.Ulp
set_option linter.unusedVariables false
set_option linter.unusedSimpArgs false
set_option linter.unnecessarySimpa false
set_option maxHeartbeats 2000000
set_option maxRecDepth 100000
theorem coinLaplace_walk (a b : Int) (s : ByteArray) (at' : Int) (ha : -9223372036854775808 ≤ a ∧ a ≤ 9223372036854775807) (hb : -9223372036854775808 ≤ b ∧ b ≤ 9223372036854775807) (hs0 : s.size ≤ maxLen) (hat : -9223372036854775808 ≤ at' ∧ at' ≤ 9223372036854775807) (W : World) :
    Calls Try.prog 7 #[.int .i64 a, .int .i64 b, .string s, .int .i64 at'] W fun e w' => e = .returned (.bool true) ∧ Below W.heap.size W w' := by
  have hmf : ∀ fn first cap w, (Instr.makeFunc fn first cap).run Try.prog w = .ok (.func fn first cap) w := fun _ _ _ _ => rfl
  have hs : s.size ≤ 9223372036854775807 := hs0
  have SB := hid (fun w => count_says a b s at' w hs)
  have SP := hid (fun w => laplace_says a b s at' w hs)
  have TR := hid (fun ok w => tapeRight_any s at' ok hs w)
  have TRt : Hid (∀ w, Calls Try.prog 29 #[.string s, .int .i64 at', .bool true] w fun e w' => e = .returned (.int .i64 (tapeE s.size at' true)) ∧ w = w') := hid (fun w => tapeRight_any s at' true hs w)
  have B4 : Hid (∀ w, Calls Try.prog 18 #[.int .i64 b, .int .i64 1, .int .i64 1000] w fun e w' => e = .returned (.bool (decide (1 ≤ b ∧ b ≤ 1000))) ∧ w = w') := hid (fun w => between_any b 1 1000 w)
  have B5 : Hid (∀ w, Calls Try.prog 18 #[.int .i64 a, .int .i64 1, .int .i64 1000] w fun e w' => e = .returned (.bool (decide (1 ≤ a ∧ a ≤ 1000))) ∧ w = w') := hid (fun w => between_any a 1 1000 w)
  go_enter Try.func7, Try.ntmps7
  go_upto_region 1 with fail
  have hx0 := BX2.made W a b 3 3
  have hb0 := (below_alloc W (.cells #[.int .i64 a] 3)).trans ((below_alloc _ (.cells #[.int .i64 b] 3)).mono (by simp))
  have hz0 : ((W.alloc (.cells #[.int .i64 a] 3)).alloc (.cells #[.int .i64 b] 3)).heap.size = W.heap.size + 2 := by simp
  generalize (W.alloc (.cells #[.int .i64 a] 3)).alloc (.cells #[.int .i64 b] 3) = w0 at *
  obtain ⟨c1, c2⟩ := id hx0
  go_upto_region 2 with (go_at_call 38; (with_reducible refine (SB.out _).mono ?_); rintro e w1 ⟨v1, k1, u1, rfl, hb1, h11, h12⟩)
  have hx1 := hx0.below hb1
  have hz1 := hb1.size
  have hB1 := hb0.trans (hb1.mono (by omega))
  clear hb1 hx0 hb0
  obtain ⟨c1, c2⟩ := id hx1
  go_upto_region 3 with (go_at_call 39; (with_reducible refine (SP.out _).mono ?_); rintro e w2 ⟨v2, k2, u2, rfl, hb2, h21, h22⟩)
  have hx2 := hx1.below hb2
  have hz2 := hb2.size
  have hB2 := hB1.trans (hb2.mono (by omega))
  clear hb2 hx1 hB1 c1 c2
  obtain ⟨c1, c2⟩ := id hx2
  obtain ⟨o1, ho1⟩ : ∃ o1, o1 = okSmall a b := ⟨_, rfl⟩
  rw [← ho1] at h11 h12 h21 h22
  have HO := hid ho1
  go_cut [15] (fun s15 wx => s15 = .int .i64 (tapeE s.size at' o1) ∧ wx = w2)
  case first => as_aux_lemma =>
    unfold okSmall at ho1
    rw [Bool.and_comm] at ho1
    generalize decide (1 ≤ b ∧ b ≤ 1000) = c4 at B4 ho1
    generalize decide (1 ≤ a ∧ a ≤ 1000) = c5 at B5 ho1
    clear HO
    cases c4
    all_goals
      simp only [Bool.true_and, Bool.false_and] at ho1
      subst ho1
      go_wp2_with (first
        | (go_at_call 18; (first | (with_reducible refine (B4.out _).mono ?_) | (with_reducible refine (B5.out _).mono ?_)); rintro e w8 ⟨rfl, rfl⟩)
        | (go_at_call 29; (with_reducible refine (TR.out _ _).mono ?_); rintro e w8 ⟨rfl, rfl⟩))
      go_meet
      exact ⟨rfl, rfl⟩
  case rest =>
  obtain ⟨rfl, rfl⟩ := hcut
  clear ho1
  clear c1 c2
  go_upto_region 5 with fail
  have hx4 := hx2.below (below_alloc wc (.cells #[.slice none 0 0] 24))
  have hv4 := NV.made wc 24
  have hz4 : (wc.alloc (.cells #[.slice none 0 0] 24)).heap.size = wc.heap.size + 1 := by simp
  have hB4 := hB2.trans ((below_alloc wc (.cells #[.slice none 0 0] 24)).mono (by omega))
  have hgz : W.heap.size + 1 < wc.heap.size := by omega
  clear hz1 hz2 hz0 hx2 hB2
  generalize wc.alloc (.cells #[.slice none 0 0] 24) = w4 at *
  generalize wc.heap.size = g at *
  obtain ⟨t1, ht1⟩ : ∃ t1, t1 = tapeE s.size at' true := ⟨_, rfl⟩
  rw [← ht1] at TRt
  have HT1 := hid ht1
  clear ht1
  go_upto_if 47 with (go_at_call 29; refine (TRt.out _).mono ?_; rintro e w' ⟨rfl, rfl⟩)
  go_cut [] (fun wx => BX2 wx W.heap.size a b ∧ Below W.heap.size W wx ∧ (t1 = 0 → BT wx g s at'.toNat))
  case first => as_aux_lemma =>
    by_cases ht : t1 = 0
    · have hz := tapeE_zero (HT1.out.symm.trans ht)
      obtain ⟨h64, ha0, ha8⟩ := hz
      obtain ⟨p, rfl⟩ : ∃ p : Nat, at' = (p : Int) := ⟨at'.toNat, by omega⟩
      have hp8 : p ≤ 8 * s.size := by omega
      have TA := hid (fun w => tape_any s h64 w)
      subst ht
      go_wp2_with (go_at_call 30; (with_reducible refine (TA.out _).mono ?_); rintro e w5 ⟨ao, cap, rfl, hN, hsh, hb5⟩; obtain ⟨ao', cap', hrun, hN', hsh'⟩ := cut_from rfl hN hsh p (by rw [tb_len]; exact hp8); have hv5 := hv4.below hb5; obtain ⟨n1, n2⟩ := id hv5)
      go_meet
      refine ⟨(hx4.below hb5).set hgz, (hB4.trans (hb5.mono (by omega))).setCell (by simp; omega) _, fun _ => ?_⟩
      rw [tb_len]
      exact BT.stored hv5 hp8 h64 (hN' w5 hN) hsh'
    · have hb : (t1 == 0) = false := by simpa using ht
      go_wp2_with fail
      go_meet
      exact ⟨hx4, hB4, fun h => absurd h ht⟩
  case rest =>
    obtain ⟨hx, hB, hT⟩ := hcut
    clear hx4 hv4 hz4 hB4 hgz TRt SB SP
    obtain ⟨x1, x2⟩ := id hx
    have hT2 : ∀ ok, tapeE s.size at' ok = 0 → BT wc g s at'.toNat := fun ok h => hT (HT1.out.trans (tapeE_and h).1)
    have hok : tapeE s.size at' o1 = 0 → 1 ≤ a ∧ a ≤ 1000 ∧ 1 ≤ b ∧ b ≤ 1000 := fun h => by have := (tapeE_and h).2; rw [HO.out] at this; simpa [okSmall, and_assoc] using this
    have D1 := hid (drawn_count a.toNat b.toNat W.heap.size (W.heap.size + 1) g s at' (tapeE s.size at' o1) v1 k1 u1 wc (fun h => (tapeE_zero h).2.1) h11 h12 (hT2 _) (fun h => by have := hok h; omega) (fun h => by have := hok h; rw [show ((a.toNat : Nat) : Int) = a by omega]; exact x1) (fun h => by have := hok h; rw [show ((b.toNat : Nat) : Int) = b by omega]; exact x2))
    have D2 := hid (drawn_laplace a.toNat b.toNat W.heap.size (W.heap.size + 1) g s at' (tapeE s.size at' o1) v2 k2 u2 wc (fun h => (tapeE_zero h).2.1) h21 h22 (hT2 _) (fun h => by have := hok h; omega) (fun h => by have := hok h; rw [show ((a.toNat : Nat) : Int) = a by omega]; exact x1) (fun h => by have := hok h; rw [show ((b.toNat : Nat) : Int) = b by omega]; exact x2))
    clear h11 h12 h21 h22 hT hT2 HT1 hx HO hok
    generalize tapeE s.size at' o1 = t8 at *
    go_wp2_with (go_at_call 31; (first | (with_reducible refine D1.out.mono ?_) | (with_reducible refine D2.out.mono ?_)); rintro e w8 ⟨rfl, rfl⟩)
    go_ret
    exact ⟨rfl, hB⟩
end Go.Proofs.Ytdoiobdomngccaa
