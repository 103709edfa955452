/- CoinSays: the law's walk. -/
import Derived.Test.YtdoiobdomngccaaCo8
import Derived.Test.YtdoiobdomngccaaCo9
set_option linter.unusedVariables false
set_option linter.unusedSimpArgs false
set_option linter.unnecessarySimpa false
namespace Go.Ulp
open Go.RowKit
/-- three variables of numbers, side by side -/
def BX3 (w : World) (g : Nat) (n a b : Int) : Prop := w.cell? ⟨g, 0, none⟩ = some (.int .i64 n) ∧ w.cell? ⟨g + 1, 0, none⟩ = some (.int .i64 a) ∧ w.cell? ⟨g + 2, 0, none⟩ = some (.int .i64 b)
theorem BX3.below {w w' : World} {g : Nat} {n a b : Int} (h : BX3 w g n a b) (hb : Below w.heap.size w w') : BX3 w' g n a b :=
  ⟨(hb.cell (World.block_lt_of_cell? w _ h.1)).trans h.1, (hb.cell (World.block_lt_of_cell? w _ h.2.1)).trans h.2.1, (hb.cell (World.block_lt_of_cell? w _ h.2.2)).trans h.2.2⟩
theorem BX3.set {w : World} {g c : Nat} {n a b : Int} {v : Value} (h : BX3 w g n a b) (hc : g + 2 < c) : BX3 (w.setCell ⟨c, 0, none⟩ v) g n a b := by
  obtain ⟨h1, h2, h3⟩ := h
  refine ⟨?_, ?_, ?_⟩
  · rw [World.cell?_setCell_other (h := fun e => by injection e with e; omega)]; exact h1
  · rw [World.cell?_setCell_other (h := fun e => by injection e with e; omega)]; exact h2
  · rw [World.cell?_setCell_other (h := fun e => by injection e with e; omega)]; exact h3
theorem BX3.made (w : World) (n a b : Int) (t u v : TypeId) : BX3 (((w.alloc (.cells #[.int .i64 n] t)).alloc (.cells #[.int .i64 a] u)).alloc (.cells #[.int .i64 b] v)) w.heap.size n a b := by
  have h1 : (w.alloc (.cells #[.int .i64 n] t)).cell? ⟨w.heap.size, 0, none⟩ = some (.int .i64 n) := by rw [World.cell?_alloc_at (hn := rfl)]; rfl
  have h2 : ((w.alloc (.cells #[.int .i64 n] t)).alloc (.cells #[.int .i64 a] u)).cell? ⟨w.heap.size + 1, 0, none⟩ = some (.int .i64 a) := by rw [World.cell?_alloc_at (hn := by simp)]; rfl
  have h3 : (((w.alloc (.cells #[.int .i64 n] t)).alloc (.cells #[.int .i64 a] u)).alloc (.cells #[.int .i64 b] v)).cell? ⟨w.heap.size + 2, 0, none⟩ = some (.int .i64 b) := by rw [World.cell?_alloc_at (hn := by simp)]; rfl
  refine ⟨?_, ?_, h3⟩
  · rw [(below_alloc _ _).cell (by simp; omega), (below_alloc _ _).cell (by simp)]; exact h1
  · rw [(below_alloc _ _).cell (by simp)]; exact h2
/-- a variable of bits, as it is made -/
def NV (w : World) (g : Nat) : Prop := w.cell? ⟨g, 0, none⟩ = some (.slice none 0 0) ∧ w.frozen? ⟨g, 0, none⟩ = false
theorem NV.made (w : World) (t : TypeId) : NV (w.alloc (.cells #[.slice none 0 0] t)) w.heap.size := by
  refine ⟨?_, ?_⟩
  · rw [World.cell?_alloc_at (hn := rfl)]; rfl
  · unfold World.frozen?; rw [heap_alloc_new]; simp
theorem NV.below {w w' : World} {g : Nat} (h : NV w g) (hb : Below w.heap.size w w') : NV w' g :=
  ⟨(hb.cell (World.block_lt_of_cell? w _ h.1)).trans h.1, (hb.frozen (World.block_lt_of_cell? w _ h.1)).trans h.2⟩
theorem BT.stored {w : World} {g p : Nat} {s : ByteArray} {ao : Option Addr} {cap : Nat} (h : NV w g) (hp : p ≤ 8 * s.size) (hs : s.size ≤ 64) (hN : Ns .i64 w ao cap ((tb s).drop p)) (hsh : SH ao cap) : BT (w.setCell ⟨g, 0, none⟩ (.slice ao (8 * s.size - p) cap)) g s p :=
  ⟨hp, hs, ao, cap, World.cell?_setCell_same (w := w) _ _ h.1, hN.setCell_kind _ _ _ h.1 (fun n e => by cases e), hsh⟩
theorem tapeE_and {sz : Nat} {at' : Int} {ok : Bool} (h : tapeE sz at' ok = 0) : tapeE sz at' true = 0 ∧ ok = true := by
  unfold tapeE at *
  split at h
  · cases h
  · rename_i h64
    rw [if_neg h64]
    split at h
    · rename_i h2
      exact ⟨if_pos ⟨h2.1, h2.2.1, rfl⟩, h2.2.2⟩
    · cases h
theorem tapeE_zero {sz : Nat} {at' : Int} {ok : Bool} (h : tapeE sz at' ok = 0) : sz ≤ 64 ∧ 0 ≤ at' ∧ at' ≤ 8 * (sz : Int) := by
  unfold tapeE at h
  split at h
  · cases h
  · split at h
    · rename_i h2; exact ⟨by omega, h2.1, h2.2.1⟩
    · cases h
end Go.Ulp
namespace Go.Proofs.Ytdoiobdomngccaa
open Go.RowKit Go.Ulp
set_option linter.unusedVariables false
set_option linter.unusedSimpArgs false
set_option linter.unnecessarySimpa false
set_option maxHeartbeats 2000000
set_option maxRecDepth 100000
theorem coinSays_walk (n a b : Int) (s : ByteArray) (at' : Int) (hn : -9223372036854775808 ≤ n ∧ n ≤ 9223372036854775807) (ha : -9223372036854775808 ≤ a ∧ a ≤ 9223372036854775807) (hb : -9223372036854775808 ≤ b ∧ b ≤ 9223372036854775807) (hs0 : s.size ≤ maxLen) (hat : -9223372036854775808 ≤ at' ∧ at' ≤ 9223372036854775807) (W : World) :
    Calls Try.prog 6 #[.int .i64 n, .int .i64 a, .int .i64 b, .string s, .int .i64 at'] W fun e w' => e = .returned (.bool true) ∧ Below W.heap.size W w' := by
  have hmf : ∀ fn first cap w, (Instr.makeFunc fn first cap).run Try.prog w = .ok (.func fn first cap) w := fun _ _ _ _ => rfl
  have hs : s.size ≤ 9223372036854775807 := hs0
  have SB := hid (fun w => below_says n s at' w hs)
  have SP := hid (fun w => part_says a b s at' w hs)
  have SE := hid (fun w => exp_says a b s at' w hs)
  have TR := hid (fun ok w => tapeRight_any s at' ok hs w)
  have TRt : Hid (∀ w, Calls Try.prog 29 #[.string s, .int .i64 at', .bool true] w fun e w' => e = .returned (.int .i64 (tapeE s.size at' true)) ∧ w = w') := hid (fun w => tapeRight_any s at' true hs w)
  have B1 : Hid (∀ w, Calls Try.prog 18 #[.int .i64 n, .int .i64 1, .int .i64 1000000] w fun e w' => e = .returned (.bool (okBelow n)) ∧ w = w') := hid (fun w => between_any n 1 1000000 w)
  have B2 : Hid (∀ w, Calls Try.prog 18 #[.int .i64 b, .int .i64 1, .int .i64 1000000] w fun e w' => e = .returned (.bool (decide (1 ≤ b ∧ b ≤ 1000000))) ∧ w = w') := hid (fun w => between_any b 1 1000000 w)
  have B3 : Hid (∀ w, Calls Try.prog 18 #[.int .i64 a, .int .i64 0, .int .i64 b] w fun e w' => e = .returned (.bool (decide (0 ≤ a ∧ a ≤ b))) ∧ w = w') := hid (fun w => between_any a 0 b w)
  have B4 : Hid (∀ w, Calls Try.prog 18 #[.int .i64 b, .int .i64 1, .int .i64 1000] w fun e w' => e = .returned (.bool (decide (1 ≤ b ∧ b ≤ 1000))) ∧ w = w') := hid (fun w => between_any b 1 1000 w)
  have B5 : Hid (∀ w, Calls Try.prog 18 #[.int .i64 a, .int .i64 0, .int .i64 (1000 * b)] w fun e w' => e = .returned (.bool (decide (0 ≤ a ∧ a ≤ 1000 * b))) ∧ w = w') := hid (fun w => between_any a 0 (1000 * b) w)
  go_enter Try.func6, Try.ntmps6
  go_upto_region 1 with fail
  have hx0 := BX3.made W n a b 3 3 3
  have hb0 := ((below_alloc W (.cells #[.int .i64 n] 3)).trans ((below_alloc _ (.cells #[.int .i64 a] 3)).mono (by simp))).trans ((below_alloc _ (.cells #[.int .i64 b] 3)).mono (by simp; omega))
  have hz0 : (((W.alloc (.cells #[.int .i64 n] 3)).alloc (.cells #[.int .i64 a] 3)).alloc (.cells #[.int .i64 b] 3)).heap.size = W.heap.size + 3 := by simp
  generalize ((W.alloc (.cells #[.int .i64 n] 3)).alloc (.cells #[.int .i64 a] 3)).alloc (.cells #[.int .i64 b] 3) = w0 at *
  obtain ⟨c1, c2, c3⟩ := id hx0
  go_upto_region 2 with (go_at_call 26; (with_reducible refine (SB.out _).mono ?_); rintro e w1 ⟨v1, k1, u1, rfl, hb1, h11, h12⟩)
  have hx1 := hx0.below hb1
  have hz1 := hb1.size
  have hB1 := hb0.trans (hb1.mono (by omega))
  clear hb1 hx0 hb0
  obtain ⟨c1, c2, c3⟩ := id hx1
  go_upto_region 3 with (go_at_call 27; (with_reducible refine (SP.out _).mono ?_); rintro e w2 ⟨v2, k2, u2, rfl, hb2, h21, h22⟩)
  have hx2 := hx1.below hb2
  have hz2 := hb2.size
  have hB2 := hB1.trans (hb2.mono (by omega))
  clear hb2 hx1 hB1 c1 c2 c3
  obtain ⟨c1, c2, c3⟩ := id hx2
  go_upto_region 4 with (go_at_call 28; (with_reducible refine (SE.out _).mono ?_); rintro e w3 ⟨v3, k3, u3, rfl, hb3, h31, h32⟩)
  have hx3 := hx2.below hb3
  have hz3 := hb3.size
  have hB3 := hB2.trans (hb3.mono (by omega))
  clear hb3 hx2 hB2 c1 c2 c3
  go_upto_region 5 with fail
  have hx4 := hx3.below (below_alloc w3 (.cells #[.slice none 0 0] 24))
  have hv4 := NV.made w3 24
  have hz4 : (w3.alloc (.cells #[.slice none 0 0] 24)).heap.size = w3.heap.size + 1 := by simp
  have hB4 := hB3.trans ((below_alloc w3 (.cells #[.slice none 0 0] 24)).mono (by omega))
  have hgz : W.heap.size + 2 < w3.heap.size := by omega
  clear hz1 hz2 hz3 hz0 hx3 hB3
  generalize w3.alloc (.cells #[.slice none 0 0] 24) = w4 at *
  generalize w3.heap.size = g at *
  obtain ⟨t1, ht1⟩ : ∃ t1, t1 = tapeE s.size at' true := ⟨_, rfl⟩
  rw [← ht1] at TRt
  have HT1 := hid ht1
  clear ht1
  go_upto_if 50 with (go_at_call 29; refine (TRt.out _).mono ?_; rintro e w' ⟨rfl, rfl⟩)
  go_cut [] (fun wx => BX3 wx W.heap.size n a b ∧ Below W.heap.size W wx ∧ (t1 = 0 → BT wx g s at'.toNat))
  case first => as_aux_lemma =>
    by_cases ht : t1 = 0
    · have hz := tapeE_zero (HT1.out.symm.trans ht)
      obtain ⟨h64, ha0, ha8⟩ := hz
      obtain ⟨p, rfl⟩ : ∃ p : Nat, at' = (p : Int) := ⟨at'.toNat, by omega⟩
      have hp8 : p ≤ 8 * s.size := by omega
      have TA := hid (fun w => tape_any s h64 w)
      subst ht
      go_wp2_with (go_at_call 30; (with_reducible refine (TA.out _).mono ?_); rintro e w5 ⟨ao, cap, rfl, hN, hsh, hb5⟩; obtain ⟨ao', cap', hrun, hN', hsh'⟩ := cut_from rfl hN hsh p (by rw [tb_len]; exact hp8); have hv5 := hv4.below hb5; obtain ⟨n1, n2⟩ := id hv5)
      go_meet
      refine ⟨(hx4.below hb5).set hgz, (hB4.trans (hb5.mono (by omega))).setCell (by simp; omega) _, fun _ => ?_⟩
      rw [tb_len]
      exact BT.stored hv5 hp8 h64 (hN' w5 hN) hsh'
    · have hb : (t1 == 0) = false := by simpa using ht
      go_wp2_with fail
      go_meet
      exact ⟨hx4, hB4, fun h => absurd h ht⟩
  case rest =>
    obtain ⟨hx, hB, hT⟩ := hcut
    clear hx4 hv4 hz4 hB4 hgz TRt SB SP SE
    obtain ⟨x1, x2, x3⟩ := id hx
    have hT2 : ∀ ok, tapeE s.size at' ok = 0 → BT wc g s at'.toNat := fun ok h => hT (HT1.out.trans (tapeE_and h).1)
    have D1 := hid (drawn_below n.toNat W.heap.size g s at' (tapeE s.size at' (okBelow n)) v1 k1 u1 wc (fun h => (tapeE_zero h).2.1) h11 h12 (hT2 _) (fun h => by have := (tapeE_and h).2; simp [okBelow] at this; omega) (fun h => by have := (tapeE_and h).2; simp [okBelow] at this; rw [show ((n.toNat : Nat) : Int) = n by omega]; exact x1))
    have D2 := hid (drawn_part a.toNat b.toNat (W.heap.size + 1) (W.heap.size + 2) g s at' (tapeE s.size at' (okPart a b)) k2 u2 v2 wc (fun h => (tapeE_zero h).2.1) h21 h22 (hT2 _) (fun h => by have := (tapeE_and h).2; simp [okPart] at this; omega) (fun h => by have := (tapeE_and h).2; simp [okPart] at this; rw [show ((a.toNat : Nat) : Int) = a by omega]; exact x2) (fun h => by have := (tapeE_and h).2; simp [okPart] at this; rw [show ((b.toNat : Nat) : Int) = b by omega]; exact x3))
    have D3 := hid (drawn_exp a.toNat b.toNat (W.heap.size + 1) (W.heap.size + 2) g s at' (tapeE s.size at' (okExp a b)) k3 u3 v3 wc (fun h => (tapeE_zero h).2.1) h31 h32 (hT2 _) (fun h => by have := (tapeE_and h).2; simp [okExp] at this; omega) (fun h => by have := (tapeE_and h).2; simp [okExp] at this; rw [show ((a.toNat : Nat) : Int) = a by omega]; exact x2) (fun h => by have := (tapeE_and h).2; simp [okExp] at this; rw [show ((b.toNat : Nat) : Int) = b by omega]; exact x3))
    clear h11 h12 h21 h22 h31 h32 hT hT2 HT1 hx
    obtain ⟨o2, ho2⟩ : ∃ o2, o2 = okPart a b := ⟨_, rfl⟩
    obtain ⟨o3, ho3⟩ : ∃ o3, o3 = okExp a b := ⟨_, rfl⟩
    rw [← ho2] at D2
    rw [← ho3] at D3
    unfold okPart at ho2
    unfold okExp at ho3
    have hmul : decide (1 ≤ b ∧ b ≤ 1000) = true → IntKind.i64.wrap (1000 * b) = 1000 * b := fun h => by rw [IntWalk.i64_in _ (by simp at h; omega)]
    generalize okBelow n = o1 at D1 B1
    generalize decide (1 ≤ b ∧ b ≤ 1000000) = c2 at B2 ho2
    generalize decide (0 ≤ a ∧ a ≤ b) = c3 at B3 ho2
    generalize decide (1 ≤ b ∧ b ≤ 1000) = c4 at B4 ho3 hmul
    generalize decide (0 ≤ a ∧ a ≤ 1000 * b) = c5 at B5 ho3
    cases c2 <;> cases c4
    all_goals
      simp only [Bool.true_and, Bool.false_and] at ho2 ho3
      subst ho2 ho3
      first | (have hm := hmul rfl) | skip
      clear hmul
      as_aux_lemma =>
      go_wp2_with (first
        | (go_at_call 18; (first | (with_reducible refine (B1.out _).mono ?_) | (with_reducible refine (B2.out _).mono ?_) | (with_reducible refine (B3.out _).mono ?_) | (with_reducible refine (B4.out _).mono ?_) | (with_reducible refine (B5.out _).mono ?_)); rintro e w8 ⟨rfl, rfl⟩)
        | (go_at_call 29; (with_reducible refine (TR.out _ _).mono ?_); rintro e w8 ⟨rfl, rfl⟩)
        | (go_at_call 31; (with_reducible refine D1.out.mono ?_); rintro e w8 ⟨rfl, rfl⟩)
        | (go_at_call 34; (first | (with_reducible refine D2.out.mono ?_) | (with_reducible refine D3.out.mono ?_)); rintro e w8 ⟨rfl, rfl⟩))
      go_ret
      exact ⟨rfl, hB⟩
end Go.Proofs.Ytdoiobdomngccaa
