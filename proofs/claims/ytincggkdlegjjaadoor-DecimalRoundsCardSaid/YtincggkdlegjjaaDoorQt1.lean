/- nat.Sqrt. -/
import Derived.Test.YtincggkdlegjjaaDoorRn1
import Derived.Test.YtincggkdlegjjaaDoorSh
set_option linter.unusedVariables false
set_option linter.unusedSimpArgs false
namespace Go.Ulp
open Go.RowKit
/-- one step of Newton's loop stays at or above the root -/
theorem newton_up (a x : Nat) (hx : 0 < x) (h : a < (x + 1) * (x + 1)) : a < ((x + a / x) / 2 + 1) * ((x + a / x) / 2 + 1) := by
  have h1 : a < x * (a / x + 1) := by
    have := Nat.div_add_mod a x
    have := Nat.mod_lt a hx
    rw [Nat.mul_add]; omega
  obtain ⟨d, hd⟩ : ∃ d, d = a / x := ⟨_, rfl⟩
  obtain ⟨y, hy⟩ : ∃ y, y = (x + d) / 2 := ⟨_, rfl⟩
  rw [← hd] at h1 ⊢
  rw [← hy]
  have h2 : x + (d + 1) ≤ 2 * (y + 1) := by omega
  have h3 : (x + (d + 1)) * (x + (d + 1)) ≤ 2 * (y + 1) * (2 * (y + 1)) := Nat.mul_le_mul h2 h2
  have h4 : 4 * (x * (d + 1)) ≤ (x + (d + 1)) * (x + (d + 1)) := by
    obtain ⟨e, he⟩ : ∃ e, e = d + 1 := ⟨_, rfl⟩
    rw [← he]
    rcases Nat.le_total x e with h | h
    · obtain ⟨k, rfl⟩ := Nat.exists_eq_add_of_le h
      have : (x + (x + k)) * (x + (x + k)) = 4 * (x * (x + k)) + k * k := by
        simp only [Nat.mul_add, Nat.add_mul, Nat.mul_comm k x]; omega
      omega
    · obtain ⟨k, rfl⟩ := Nat.exists_eq_add_of_le h
      have : ((e + k) + e) * ((e + k) + e) = 4 * ((e + k) * e) + k * k := by
        simp only [Nat.mul_add, Nat.add_mul, Nat.mul_comm k e]; omega
      omega
  have h5 : 2 * (y + 1) * (2 * (y + 1)) = 4 * ((y + 1) * (y + 1)) := by
    rw [Nat.mul_assoc 2, Nat.mul_left_comm (y + 1) 2, ← Nat.mul_assoc]
  omega
/-- and where it stops it is the root -/
theorem newton_end (a x : Nat) (hx : 0 < x) (h : x ≤ (x + a / x) / 2) : x * x ≤ a := by
  have h1 : x ≤ a / x := by omega
  have h2 := Nat.mul_le_mul_left x h1
  have h3 := Nat.mul_div_le a x
  omega
theorem root_uniq (a r s : Nat) (h1 : r * r ≤ a) (h2 : a < (r + 1) * (r + 1)) (h3 : s * s ≤ a) (h4 : a < (s + 1) * (s + 1)) : r = s := by
  rcases Nat.lt_trichotomy r s with h | h | h
  · have := Nat.mul_le_mul (show r + 1 ≤ s from h) (show r + 1 ≤ s from h); omega
  · exact h
  · have := Nat.mul_le_mul (show s + 1 ≤ r from h) (show s + 1 ≤ r from h); omega
theorem newton_pos (a y : Nat) (h0 : 0 < a) (h : a < (y + 1) * (y + 1)) : 0 < y := by
  rcases Nat.eq_zero_or_pos y with h1 | h1
  · subst h1; omega
  · exact h1
/-- where it begins -/
theorem newton_start (a k : Nat) (h : bl a ≤ 2 * k) : a < (2 ^ k + 1) * (2 ^ k + 1) := by
  have h1 := (bl_le a (2 * k)).1 h
  have h2 : 2 ^ (2 * k) = 2 ^ k * 2 ^ k := by rw [← Nat.pow_add]; congr 1; omega
  have h3 : 2 ^ k * 2 ^ k ≤ (2 ^ k + 1) * (2 ^ k + 1) := Nat.mul_le_mul (by omega) (by omega)
  omega
end Go.Ulp
set_option linter.unusedVariables false
set_option linter.unusedSimpArgs false
namespace Go.Ulp
open Go.RowKit
theorem limbs_short1 (A n : Nat) (hn : A ≤ 32 * n) (M : Nat) (h : M < 2 ^ A) : (limbs M).length ≤ n :=
  (limbs_le_bits M n).2 (Nat.lt_of_lt_of_le h (Nat.pow_le_pow_right (by omega) hn))
/-- the root rounded down -/
def isq : Nat → Nat
  | 0 => 0
  | n + 1 => if (isq n + 1) * (isq n + 1) ≤ n + 1 then isq n + 1 else isq n
theorem isq_spec : ∀ n, isq n * isq n ≤ n ∧ n < (isq n + 1) * (isq n + 1)
  | 0 => ⟨Nat.le_refl _, by show 0 < (0 + 1) * (0 + 1); omega⟩
  | n + 1 => by
    obtain ⟨h1, h2⟩ := isq_spec n
    unfold isq
    split
    · rename_i h
      refine ⟨h, ?_⟩
      have : (isq n + 1 + 1) * (isq n + 1 + 1) = (isq n + 1) * (isq n + 1) + 2 * (isq n + 1) + 1 := by simp only [Nat.add_mul, Nat.mul_add]; omega
      omega
    · rename_i h
      exact ⟨by omega, by omega⟩
theorem isq_le (n : Nat) : isq n ≤ n := by
  obtain ⟨h1, h2⟩ := isq_spec n
  rcases Nat.eq_zero_or_pos (isq n) with h | h
  · omega
  · exact Nat.le_trans (Nat.le_mul_of_pos_left _ h) h1
/-- the number that a slice of a world holds: a loop's measure -/
def rdL (w : World) (v : Value) : Nat :=
  match v with
  | .slice (some a) l _ => lval ((List.range l).map fun i => (intOf ((w.cell? ⟨a.block, a.off + i, none⟩).getD undef)).toNat)
  | _ => 0
theorem rdL_eq {w : World} {ao : Option Addr} {cap : Nat} {L : List Nat} (h : Ns .u32 w ao cap L) : rdL w (.slice ao L.length cap) = lval L := by
  obtain ⟨h1, h2, h3⟩ := h
  rcases Nat.eq_zero_or_pos L.length with hl | hl
  · have : L = [] := List.length_eq_zero_iff.1 hl
    subst this
    cases ao <;> rfl
  · obtain ⟨b, off, rfl, hc⟩ := h3 hl
    show lval ((List.range L.length).map _) = lval L
    congr 1
    refine List.ext_getElem (by simp) (fun i k1 k2 => ?_)
    rw [List.getElem_map, List.getElem_range, hc i k2]
    show (lb L i).toNat = L[i]
    unfold lb
    rw [Int.toNat_natCast, List.getD_eq_getElem?_getD, List.getElem?_eq_getElem k2]; rfl
end Go.Ulp
namespace Go.Proofs.YtincggkdlegjjaaDoor
open Go.RowKit Go.Ulp
set_option linter.unusedVariables false
set_option linter.unusedSimpArgs false
set_option maxHeartbeats 4000000
set_option maxRecDepth 100000
theorem natSqrt_any (a0 : Option Addr) (c0 a : Nat) (w : World) (h0 : Ns .u32 w a0 c0 (limbs a)) (ha : 0 < a) (A : Nat) (hAA : 7000 ≤ A ∧ A ≤ 13000) (hA : a < 2 ^ A) :
    Calls Tryd.prog 113 #[.slice a0 (limbs a).length c0] w fun e w' => ∃ r, r * r ≤ a ∧ a < (r + 1) * (r + 1) ∧ RetNc w r e w' := by
  have H0 := hid h0
  have la := limbs_short1 A 407 (by omega) a hA
  have LN := hid (fun w h => natLen_any a0 c0 a w h (by omega))
  have hbl : bl a ≤ 13000 := Nat.le_trans ((bl_le a A).2 hA) (by omega)
  obtain ⟨k, hk⟩ : ∃ k, k = (bl a + 1) / 2 := ⟨_, rfl⟩
  have hkk : ((bl a : Int) + 1).tdiv 2 = (k : Int) := by
    rw [Int.tdiv_eq_ediv_of_nonneg (by omega)]; omega
  have hst := newton_start a k (by omega)
  have hk2 : k ≤ 6501 := by omega
  have hwk : wrap64 (k : Int) = (k : Int) := IntWalk.wrap64_in _ (by omega)
  have l1 : limbs 1 = [1] := by
    first | rfl | decide | (unfold limbs digs; rfl) | simp [limbs, digs]
  have hl0 : 0 < (limbs a).length := by
    rcases Nat.eq_zero_or_pos (limbs a).length with h9 | h9
    · have := (limbs_nil a).1 (List.length_eq_zero_iff.1 h9); omega
    · exact h9
  have hne : (((limbs a).length : Int) == 0) = false := beq_eq_false_iff_ne.2 (by omega)
  have hcap := h0.1
  have hcap2 := h0.2.1
  unfold maxLen at hcap2
  generalize bl a = ba at *
  clear h0 hk
  go_enter Tryd.func113, Tryd.ntmps113
  go_upto_region 3 with fail
  have w1 : IntKind.i64.wrap ((ba : Int) + 1) = (ba : Int) + 1 := IntWalk.i64_in _ (by omega)
  have LE := hid (show ∀ a c w, Ns .u32 w a c (limbs 1) → Calls Tryd.prog 111 #[.slice a 1 c, .int .i64 (k : Int)] w fun e w' => RetN w (2 ^ k) e w' from fun a c w h => by
    have h9 := leftN_any a c 1 k w h (by decide) (by omega)
    rw [Nat.one_mul, l1] at h9; exact h9)
  have yb0 := below_alloc w (.cells #[.int .u32 1] 134)
  have HB1 := hid (show Ns .u32 (w.alloc (.cells #[.int .u32 1] 134)) (some ⟨w.heap.size, 0, none⟩) 1 (limbs 1) by
    rw [l1]
    refine ⟨by simp, by unfold maxLen; omega, fun _ => ⟨_, _, rfl, fun i hi => ?_⟩⟩
    match i, hi with
    | 0, _ => rw [World.cell?_alloc_at (hn := rfl)]; simp [lb])
  go_upto_region 4 with (first
    | (go_at_call 103; (with_reducible refine (LN.out _ (H0.out.below yb0)).mono ?_); rintro en w2 ⟨rfl, rfl⟩)
    | (go_at_call 111; (with_reducible refine (LE.out _ _ _ HB1.out).mono ?_); rintro en w3 ⟨a3, rfl, hN3, hb3⟩))
  obtain ⟨W3, hW3⟩ : ∃ W, W = w3 := ⟨_, rfl⟩
  subst hW3
  have yb3 := below_trans yb0 hb3
  clear HB1 LE LN yb0 hb3 hkk w1 hwk
  go_loopw [3] (fun s3 wr => ∃ (x : Nat) (b3 : Option Addr) (c3 : Nat), s3 = .slice b3 (limbs x).length c3 ∧ 0 < x ∧ x ≤ 2 ^ k ∧ a < (x + 1) * (x + 1) ∧ Ns .u32 wr b3 c3 (limbs x) ∧ Below w.heap.size w wr) (fun s3 wr => rdL wr s3)
  case atStart => exact ⟨2 ^ k, a3, _, rfl, Nat.two_pow_pos k, Nat.le_refl _, hst, hN3, yb3⟩
  case round =>
    obtain ⟨x, b3, c3, rfl, x1, x2, x3, hx, hb⟩ := hrel
    have hxb : x < 2 ^ (k + 1) := Nat.lt_of_le_of_lt x2 (Nat.pow_lt_pow_right (by omega) (by omega))
    have lx := limbs_short1 (k + 1) 204 (by omega) x hxb
    have hqd : a / x ≤ a := Nat.div_le_self _ _
    have lq := limbs_short1 A 407 (by omega) (a / x) (by omega)
    have hup := newton_up a x x1 x3
    have hen := newton_end a x x1
    have OV := hid (fun w h0 h1 => over_any a0 b3 c0 c3 a x w h0 h1 (by omega) x1)
    have PL := hid (fun a1 c1 w h0 h1 => plus_any b3 a1 c3 c1 x (a / x) w h0 h1 (by omega) (by omega))
    have RI := hid (show ∀ a1 c1 w, Ns .u32 w a1 c1 (limbs (x + a / x)) → Calls Tryd.prog 112 #[.slice a1 (limbs (x + a / x)).length c1, .int .i64 1] w fun e w' => RetN2 w ((x + a / x) / 2) (.bool (lostB (x + a / x) 1)) e w' from fun a1 c1 w h => by
      have hs : x + a / x < 2 ^ (A + 1) := by
        have e1 : (2 : Nat) ^ (k + 1) ≤ 2 ^ A := Nat.pow_le_pow_right (by omega) (by omega)
        rw [Nat.pow_succ]
        omega
      have h9 := right_any a1 c1 (x + a / x) 1 w h (Nat.le_trans (limbs_short1 (A + 1) 407 (by omega) _ hs) (by omega)) (by omega)
      rw [Nat.pow_one] at h9
      exact h9)
    obtain ⟨q, hq⟩ : ∃ q, q = a / x := ⟨_, rfl⟩
    obtain ⟨y, hy⟩ : ∃ y, y = (x + a / x) / 2 := ⟨_, rfl⟩
    rw [← hy] at hup hen RI
    rw [← hq] at OV PL RI
    have CM := hid (fun a1 c1 w h0 h1 => compare_any a1 b3 c1 c3 y x w h0 h1)
    have hyp := newton_pos a y ha hup
    have HX := hid hx
    obtain ⟨c9, hc9⟩ : ∃ c, c = cmpI y x := ⟨_, rfl⟩
    rw [← hc9] at CM
    have HS := hid hst
    have HU := hid hup
    have HE := hid hen
    have H3 := hid x3
    have X2 := hid x2
    clear hst hup hen x3 x2 hqd lq hq hy hxb hA
    by_cases hc : x ≤ y
    · have hc0 : 0 ≤ c9 := by rw [hc9]; unfold cmpI; split <;> (try split) <;> omega
      clear hc9
      go_wp2_with (first
        | (go_at_call 134; (with_reducible refine (OV.out _ (H0.out.below hb) HX.out).mono ?_); rintro en w4 ⟨a4, c4, a5, c5, rfl, hN4, hN5, hb4⟩)
        | (go_at_call 145; (with_reducible refine (PL.out _ _ _ (HX.out.below hb4) hN4).mono ?_); rintro en w5 ⟨a6, rfl, hN6, hb5⟩)
        | (go_at_call 112; (with_reducible refine (RI.out _ _ _ hN6).mono ?_); rintro en w6 ⟨a7, rfl, hN7, hb6⟩)
        | (go_at_call 114; (with_reducible refine (CM.out _ _ _ hN7 (((HX.out.below hb4).below hb5).below hb6)).mono ?_); rintro en w7 ⟨rfl, nq, rfl⟩))
      refine bodyPost_ret (by simp [results, Tryd.results113, go_sem]; try rfl) rfl ?_
      exact ⟨x, HE.out hc, H3.out, b3, c3, rfl, ((((HX.out.below hb4).below hb5).below hb6).below (below_drewN (Below.refl _ _) nq)), below_trans (below_trans (below_trans hb hb4) hb5) (below_drewN hb6 nq)⟩
    · have hc0 : c9 < 0 := by rw [hc9]; unfold cmpI; split <;> (try split) <;> omega
      clear hc9
      go_wp2_with (first
        | (go_at_call 134; (with_reducible refine (OV.out _ (H0.out.below hb) HX.out).mono ?_); rintro en w4 ⟨a4, c4, a5, c5, rfl, hN4, hN5, hb4⟩)
        | (go_at_call 145; (with_reducible refine (PL.out _ _ _ (HX.out.below hb4) hN4).mono ?_); rintro en w5 ⟨a6, rfl, hN6, hb5⟩)
        | (go_at_call 112; (with_reducible refine (RI.out _ _ _ hN6).mono ?_); rintro en w6 ⟨a7, rfl, hN7, hb6⟩)
        | (go_at_call 114; (with_reducible refine (CM.out _ _ _ hN7 (((HX.out.below hb4).below hb5).below hb6)).mono ?_); rintro en w7 ⟨rfl, nq, rfl⟩))
      have hN8 := hN7.below (below_drewN (Below.refl _ _) nq)
      exact ⟨⟨y, a7, _, rfl, hyp, Nat.le_trans (by omega) X2.out, HU.out, hN8, below_trans (below_trans (below_trans hb hb4) hb5) (below_drewN hb6 nq)⟩, by rw [rdL_eq hN8, rdL_eq HX.out, lval_limbs, lval_limbs]; omega⟩
end Go.Proofs.YtincggkdlegjjaaDoor
