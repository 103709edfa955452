/- TopRoot: what the proof leans on, part 11 (Sh Qt1 ShelfS). -/
import Derived.Shelf.Strings.Builder1
import Derived.Shelf.Strings.Builder2
import Derived.Shelf.Strings.OnBuilder
import Derived.Shelf.Strings.Trim
import Derived.Shelf.Small.Utf8
import Derived.Shelf.Small.Bits
import Derived.Shelf.Small.Strs
import Derived.Shelf.Small.Wraps
import Derived.Shelf.Strings.BuilderF
import Derived.Shelf.Strconv.Atoi
import Derived.Shelf.Strconv.Itoa0
import Derived.Shelf.Strconv.Itoa1
import Derived.Shelf.LaysM
import Derived.Shelf.Strconv.Itoa2
import Derived.Shelf.Strconv.Itoa3
import Derived.Ground.MpProg
import Derived.Shelf.Pu.ParseUintPublic10
import Derived.Shelf.Strings.Search1
import Derived.Shelf.Strings.Prefix
import Derived.Shelf.Unicode.Decode
import Derived.Shelf.Strings.Runes
import Derived.Shelf.Strings.AsciiSet
import Derived.Shelf.Bits.Mul64
import Derived.Shelf.Strings.Repeat
import Derived.Shelf.Unicode.DecodeSlow
import Derived.Shelf.Unicode.DecodeAny
import Derived.Shelf.Unicode.DecodeLast
import Derived.Ground.Names2Prog
import Derived.Shelf.Slices.ReverseS
import Derived.Shelf.Slices.SearchI
import Derived.Shelf.Slices.Cells
import Derived.Ground.SlgnProg
import Derived.Shelf.SlicesE.Clone
import Derived.Test.YtpgmchpdpgahfaaGreatDoorKTopRoot4
import Derived.Test.YtpgmchpdpgahfaaGreatDoorKTopRoot6
import Derived.Test.YtpgmchpdpgahfaaGreatDoorKTopRoot8
import Derived.Test.YtpgmchpdpgahfaaGreatDoorKTopRoot10
set_option linter.unusedVariables false
set_option linter.unusedSimpArgs false
namespace Go.Ulp
open Go.RowKit
theorem limbs_le_bits (M n : Nat) : (limbs M).length ≤ n ↔ M < 2 ^ (32 * n) := by
  have h := digs_len_le 4294967296 (by omega) M n
  rw [Nat.pow_mul]; exact h
end Go.Ulp
namespace Go.Ulp
open Go.RowKit
/-- a variable of type Dyad that holds D -/
def DV (t : TypeId) (w : World) (g : Nat) (D : Dy) : Prop := ∃ am cm, QL t w g (decide (D.1 < 0)) (.slice am (limbs D.1.natAbs).length cm) D.2 ∧ Ns .u32 w am cm (limbs D.1.natAbs)
theorem DV.below {t : TypeId} {w w' : World} {g : Nat} {D : Dy} (h : DV t w g D) (hb : Below w.heap.size w w') : DV t w' g D := by
  obtain ⟨am, cm, h1, h2⟩ := h; exact ⟨am, cm, h1.below hb, h2.below hb⟩
theorem QL.put {t : TypeId} {w : World} {g : Nat} {n : Bool} {v : Value} {k : Int} (h : QL t w g n v k) (n' : Bool) (v' : Value) (k' : Int) :
    QL t (((w.setCell ⟨g, 0, none⟩ (.bool n')).setCell ⟨g, 1, none⟩ v').setCell ⟨g, 2, none⟩ (.int .i64 k')) g n' v' k' := by
  have h1 := (h.set0D n').set1D v'
  refine ⟨⟨(cell_set_ne (by omega)).trans h1.1.1, (cell_set_ne (by omega)).trans h1.1.2.1, ?_, ?_, ?_⟩, ?_, ?_⟩
  · rw [frozen_setCell]; exact h1.1.2.2.1
  · rw [frozen_setCell]; exact h1.1.2.2.2.1
  · exact h1.1.2.2.2.2.setCell _ _
  · exact World.cell?_setCell_same _ _ _ ((cell_set_ne (by omega)).trans ((cell_set_ne (by omega)).trans h.2.1))
  · rw [frozen_setCell]; exact h1.2.2
theorem DV.put {t : TypeId} {w : World} {g : Nat} {n : Bool} {v : Value} {k : Int} {D : Dy} {am : Option Addr} {cm : Nat} (h : QL t w g n v k) (hN : Ns .u32 w am cm (limbs D.1.natAbs)) (hv : ∀ x, v ≠ .int .u32 x) :
    DV t (((w.setCell ⟨g, 0, none⟩ (.bool (decide (D.1 < 0)))).setCell ⟨g, 1, none⟩ (.slice am (limbs D.1.natAbs).length cm)).setCell ⟨g, 2, none⟩ (.int .i64 D.2)) g D :=
  ⟨am, cm, h.put _ _ _, hN.set3 h hv _ _ _⟩
theorem DV.none_form {t : TypeId} {w : World} {g : Nat} (h : DV t w g (0, 0)) : ∃ am cm, QL t w g false (.slice am 0 cm) 0 := by
  obtain ⟨am, cm, h1, -⟩ := h
  refine ⟨am, cm, ?_⟩
  have e : (limbs ((0 : Int), (0 : Int)).1.natAbs).length = 0 := by rw [show limbs ((0 : Int), (0 : Int)).1.natAbs = [] from limbs_zero]; rfl
  rw [e] at h1
  exact h1
/-- a fresh variable for a number over a power of two -/
def Fact.q0 (B : Nat) (t : TypeId) : Fact := ⟨fun v w => ∃ g, v = .pointer (some ⟨g, 0, none⟩) ∧ B ≤ g ∧ QL t w g false (.slice none 0 0) 0, fun _ _ _ h hb => by
  obtain ⟨g, h1, h2, h3⟩ := h; exact ⟨g, h1, h2, h3.below hb⟩⟩
theorem Nz.set3Q {t e : TypeId} {w : World} {ao : Option Addr} {cap : Nat} {L : List Nat} (h : Nz e w ao cap L) {g : Nat} {n : Bool} {v : Value} {k : Int} (z : QL t w g n v k) (hne : t ≠ e) (u0 u1 u2 : Value) :
    Nz e (((w.setCell ⟨g, 0, none⟩ u0).setCell ⟨g, 1, none⟩ u1).setCell ⟨g, 2, none⟩ u2) ao cap L :=
  ((h.setCell z.1.2.2.2.2 hne _ _).setCell (z.1.2.2.2.2.setCell _ _) hne _ _).setCell ((z.1.2.2.2.2.setCell _ _).setCell _ _) hne _ _
theorem Below.put3 {B : Nat} {w w' : World} (h : Below B w w') {g : Nat} (hg : B ≤ g) (u0 u1 u2 : Value) : Below B w (((w'.setCell ⟨g, 0, none⟩ u0).setCell ⟨g, 1, none⟩ u1).setCell ⟨g, 2, none⟩ u2) :=
  ((h.setCell hg _).setCell hg _).setCell hg _
end Go.Ulp
namespace Go.Ulp
open Go.RowKit
theorem tw_lt {n A : Nat} (h0 : 0 < n) (h : n < 2 ^ A) : tw n < A := by
  have h1 := (od_tw n h0).1
  have h2 := od_pos n h0
  have h3 : 2 ^ tw n ≤ n := by
    conv => rhs; rw [← h1]
    exact Nat.le_mul_of_pos_left _ h2
  exact (Nat.pow_lt_pow_iff_right (a := 2) (by omega)).1 (Nat.lt_of_le_of_lt h3 h)
/-- the bounds of a number in its one form -/
theorem nrm_bd (y e : Int) (A : Nat) (h : y.natAbs < 2 ^ A) : (nrm y e).1.natAbs < 2 ^ A ∧ ((nrm y e).1 = 0 ∧ (nrm y e).2 = 0 ∨ e ≤ (nrm y e).2 ∧ (nrm y e).2 < e + A) := by
  by_cases h0 : y = 0
  · subst h0; exact ⟨h, .inl ⟨rfl, rfl⟩⟩
  · refine ⟨by rw [nrm_abs y e h0]; exact Nat.lt_of_le_of_lt (od_le _) h, .inr ?_⟩
    have h1 := tw_lt (n := y.natAbs) (by omega) h
    have h2 : (nrm y e).2 = e + tw y.natAbs := by unfold nrm; rw [if_neg h0]
    rw [h2]; omega
theorem fv_bd (x : Int) (h0 : 0 ≤ x) (h1 : x < 18446744073709551616) : bndB (fv x) = true ∧ ((fv x).1.natAbs < 2 ^ 53 ∧ -1074 ≤ (fv x).2 ∧ (fv x).2 ≤ 1024) := by
  have hm := mantOf_bd x
  have he := dexp_bd x
  have hA : (sg (negB x) (mantOf x)).natAbs < 2 ^ 53 := by rw [sg_abs]; omega
  obtain ⟨k1, k2⟩ := nrm_bd (sg (negB x) (mantOf x)) (dexp x) 53 hA
  have k3 : (fv x).1.natAbs < 2 ^ 53 ∧ -1074 ≤ (fv x).2 ∧ (fv x).2 ≤ 1024 := ⟨k1, by unfold fv; omega, by unfold fv; omega⟩
  refine ⟨?_, k3⟩
  have hl : (limbs (fv x).1.natAbs).length ≤ 2 := (limbs_le_bits _ 2).2 (Nat.lt_of_lt_of_le k3.1 (Nat.pow_le_pow_right (by omega) (by omega)))
  unfold bndB dyB
  exact decide_eq_true ⟨by omega, by omega, by omega⟩
end Go.Ulp

set_option linter.unusedVariables false
set_option linter.unusedSimpArgs false
namespace Go.Ulp
open Go.RowKit
/-- one step of Newton's loop stays at or above the root -/
theorem newton_up (a x : Nat) (hx : 0 < x) (h : a < (x + 1) * (x + 1)) : a < ((x + a / x) / 2 + 1) * ((x + a / x) / 2 + 1) := by
  have h1 : a < x * (a / x + 1) := by
    have := Nat.div_add_mod a x
    have := Nat.mod_lt a hx
    rw [Nat.mul_add]; omega
  obtain ⟨d, hd⟩ : ∃ d, d = a / x := ⟨_, rfl⟩
  obtain ⟨y, hy⟩ : ∃ y, y = (x + d) / 2 := ⟨_, rfl⟩
  rw [← hd] at h1 ⊢
  rw [← hy]
  have h2 : x + (d + 1) ≤ 2 * (y + 1) := by omega
  have h3 : (x + (d + 1)) * (x + (d + 1)) ≤ 2 * (y + 1) * (2 * (y + 1)) := Nat.mul_le_mul h2 h2
  have h4 : 4 * (x * (d + 1)) ≤ (x + (d + 1)) * (x + (d + 1)) := by
    obtain ⟨e, he⟩ : ∃ e, e = d + 1 := ⟨_, rfl⟩
    rw [← he]
    rcases Nat.le_total x e with h | h
    · obtain ⟨k, rfl⟩ := Nat.exists_eq_add_of_le h
      have : (x + (x + k)) * (x + (x + k)) = 4 * (x * (x + k)) + k * k := by
        simp only [Nat.mul_add, Nat.add_mul, Nat.mul_comm k x]; omega
      omega
    · obtain ⟨k, rfl⟩ := Nat.exists_eq_add_of_le h
      have : ((e + k) + e) * ((e + k) + e) = 4 * ((e + k) * e) + k * k := by
        simp only [Nat.mul_add, Nat.add_mul, Nat.mul_comm k e]; omega
      omega
  have h5 : 2 * (y + 1) * (2 * (y + 1)) = 4 * ((y + 1) * (y + 1)) := by
    rw [Nat.mul_assoc 2, Nat.mul_left_comm (y + 1) 2, ← Nat.mul_assoc]
  omega
/-- and where it stops it is the root -/
theorem newton_end (a x : Nat) (hx : 0 < x) (h : x ≤ (x + a / x) / 2) : x * x ≤ a := by
  have h1 : x ≤ a / x := by omega
  have h2 := Nat.mul_le_mul_left x h1
  have h3 := Nat.mul_div_le a x
  omega
theorem root_uniq (a r s : Nat) (h1 : r * r ≤ a) (h2 : a < (r + 1) * (r + 1)) (h3 : s * s ≤ a) (h4 : a < (s + 1) * (s + 1)) : r = s := by
  rcases Nat.lt_trichotomy r s with h | h | h
  · have := Nat.mul_le_mul (show r + 1 ≤ s from h) (show r + 1 ≤ s from h); omega
  · exact h
  · have := Nat.mul_le_mul (show s + 1 ≤ r from h) (show s + 1 ≤ r from h); omega
theorem newton_pos (a y : Nat) (h0 : 0 < a) (h : a < (y + 1) * (y + 1)) : 0 < y := by
  rcases Nat.eq_zero_or_pos y with h1 | h1
  · subst h1; omega
  · exact h1
/-- where it begins -/
theorem newton_start (a k : Nat) (h : bl a ≤ 2 * k) : a < (2 ^ k + 1) * (2 ^ k + 1) := by
  have h1 := (bl_le a (2 * k)).1 h
  have h2 : 2 ^ (2 * k) = 2 ^ k * 2 ^ k := by rw [← Nat.pow_add]; congr 1; omega
  have h3 : 2 ^ k * 2 ^ k ≤ (2 ^ k + 1) * (2 ^ k + 1) := Nat.mul_le_mul (by omega) (by omega)
  omega
end Go.Ulp
set_option linter.unusedVariables false
set_option linter.unusedSimpArgs false
namespace Go.Ulp
open Go.RowKit
theorem limbs_short1 (A n : Nat) (hn : A ≤ 32 * n) (M : Nat) (h : M < 2 ^ A) : (limbs M).length ≤ n :=
  (limbs_le_bits M n).2 (Nat.lt_of_lt_of_le h (Nat.pow_le_pow_right (by omega) hn))
/-- the root rounded down -/
def isq : Nat → Nat
  | 0 => 0
  | n + 1 => if (isq n + 1) * (isq n + 1) ≤ n + 1 then isq n + 1 else isq n
theorem isq_spec : ∀ n, isq n * isq n ≤ n ∧ n < (isq n + 1) * (isq n + 1)
  | 0 => ⟨Nat.le_refl _, by show 0 < (0 + 1) * (0 + 1); omega⟩
  | n + 1 => by
    obtain ⟨h1, h2⟩ := isq_spec n
    unfold isq
    split
    · rename_i h
      refine ⟨h, ?_⟩
      have : (isq n + 1 + 1) * (isq n + 1 + 1) = (isq n + 1) * (isq n + 1) + 2 * (isq n + 1) + 1 := by simp only [Nat.add_mul, Nat.mul_add]; omega
      omega
    · rename_i h
      exact ⟨by omega, by omega⟩
theorem isq_le (n : Nat) : isq n ≤ n := by
  obtain ⟨h1, h2⟩ := isq_spec n
  rcases Nat.eq_zero_or_pos (isq n) with h | h
  · omega
  · exact Nat.le_trans (Nat.le_mul_of_pos_left _ h) h1
/-- the number that a slice of a world holds: a loop's measure -/
def rdL (w : World) (v : Value) : Nat :=
  match v with
  | .slice (some a) l _ => lval ((List.range l).map fun i => (intOf ((w.cell? ⟨a.block, a.off + i, none⟩).getD undef)).toNat)
  | _ => 0
theorem rdL_eq {w : World} {ao : Option Addr} {cap : Nat} {L : List Nat} (h : Ns .u32 w ao cap L) : rdL w (.slice ao L.length cap) = lval L := by
  obtain ⟨h1, h2, h3⟩ := h
  rcases Nat.eq_zero_or_pos L.length with hl | hl
  · have : L = [] := List.length_eq_zero_iff.1 hl
    subst this
    cases ao <;> rfl
  · obtain ⟨b, off, rfl, hc⟩ := h3 hl
    show lval ((List.range L.length).map _) = lval L
    congr 1
    refine List.ext_getElem (by simp) (fun i k1 k2 => ?_)
    rw [List.getElem_map, List.getElem_range, hc i k2]
    show (lb L i).toNat = L[i]
    unfold lb
    rw [Int.toNat_natCast, List.getD_eq_getElem?_getD, List.getElem?_eq_getElem k2]; rfl
end Go.Ulp
namespace Go.Proofs.YtpgmchpdpgahfaaGreatDoor
open Go.RowKit Go.Ulp
set_option linter.unusedVariables false
set_option linter.unusedSimpArgs false
set_option maxHeartbeats 4000000
set_option maxRecDepth 100000
theorem natSqrt_any (a0 : Option Addr) (c0 a : Nat) (w : World) (h0 : Ns .u32 w a0 c0 (limbs a)) (ha : 0 < a) (A : Nat) (hAA : 7000 ≤ A ∧ A ≤ 13000) (hA : a < 2 ^ A) :
    Calls Tryz.prog 34 #[.slice a0 (limbs a).length c0] w fun e w' => ∃ r, r * r ≤ a ∧ a < (r + 1) * (r + 1) ∧ RetNc w r e w' := by
  have H0 := hid h0
  have la := limbs_short1 A 407 (by omega) a hA
  have LN := hid (fun w h => natLen_any a0 c0 a w h (by omega))
  have hbl : bl a ≤ 13000 := Nat.le_trans ((bl_le a A).2 hA) (by omega)
  obtain ⟨k, hk⟩ : ∃ k, k = (bl a + 1) / 2 := ⟨_, rfl⟩
  have hkk : ((bl a : Int) + 1).tdiv 2 = (k : Int) := by
    rw [Int.tdiv_eq_ediv_of_nonneg (by omega)]; omega
  have hst := newton_start a k (by omega)
  have hk2 : k ≤ 6501 := by omega
  have hwk : wrap64 (k : Int) = (k : Int) := IntWalk.wrap64_in _ (by omega)
  have l1 : limbs 1 = [1] := by
    first | rfl | decide | (unfold limbs digs; rfl) | simp [limbs, digs]
  have hl0 : 0 < (limbs a).length := by
    rcases Nat.eq_zero_or_pos (limbs a).length with h9 | h9
    · have := (limbs_nil a).1 (List.length_eq_zero_iff.1 h9); omega
    · exact h9
  have hne : (((limbs a).length : Int) == 0) = false := beq_eq_false_iff_ne.2 (by omega)
  have hcap := h0.1
  have hcap2 := h0.2.1
  unfold maxLen at hcap2
  generalize bl a = ba at *
  clear h0 hk
  go_enter Tryz.func34, Tryz.ntmps34
  go_upto_region 3 with fail
  have w1 : IntKind.i64.wrap ((ba : Int) + 1) = (ba : Int) + 1 := IntWalk.i64_in _ (by omega)
  have LE := hid (show ∀ a c w, Ns .u32 w a c (limbs 1) → Calls Tryz.prog 33 #[.slice a 1 c, .int .i64 (k : Int)] w fun e w' => RetN w (2 ^ k) e w' from fun a c w h => by
    have h9 := leftN_any a c 1 k w h (by decide) (by omega)
    rw [Nat.one_mul, l1] at h9; exact h9)
  have yb0 := below_alloc w (.cells #[.int .u32 1] 66)
  have HB1 := hid (show Ns .u32 (w.alloc (.cells #[.int .u32 1] 66)) (some ⟨w.heap.size, 0, none⟩) 1 (limbs 1) by
    rw [l1]
    refine ⟨by simp, by unfold maxLen; omega, fun _ => ⟨_, _, rfl, fun i hi => ?_⟩⟩
    match i, hi with
    | 0, _ => rw [World.cell?_alloc_at (hn := rfl)]; simp [lb])
  go_upto_region 4 with (first
    | (go_at_call 31; (with_reducible refine (LN.out _ (H0.out.below yb0)).mono ?_); rintro en w2 ⟨rfl, rfl⟩)
    | (go_at_call 33; (with_reducible refine (LE.out _ _ _ HB1.out).mono ?_); rintro en w3 ⟨a3, rfl, hN3, hb3⟩))
  obtain ⟨W3, hW3⟩ : ∃ W, W = w3 := ⟨_, rfl⟩
  subst hW3
  have yb3 := below_trans yb0 hb3
  clear HB1 LE LN yb0 hb3 hkk w1 hwk
  go_loopw [3] (fun s3 wr => ∃ (x : Nat) (b3 : Option Addr) (c3 : Nat), s3 = .slice b3 (limbs x).length c3 ∧ 0 < x ∧ x ≤ 2 ^ k ∧ a < (x + 1) * (x + 1) ∧ Ns .u32 wr b3 c3 (limbs x) ∧ Below w.heap.size w wr) (fun s3 wr => rdL wr s3)
  case atStart => exact ⟨2 ^ k, a3, _, rfl, Nat.two_pow_pos k, Nat.le_refl _, hst, hN3, yb3⟩
  case round =>
    obtain ⟨x, b3, c3, rfl, x1, x2, x3, hx, hb⟩ := hrel
    have hxb : x < 2 ^ (k + 1) := Nat.lt_of_le_of_lt x2 (Nat.pow_lt_pow_right (by omega) (by omega))
    have lx := limbs_short1 (k + 1) 204 (by omega) x hxb
    have hqd : a / x ≤ a := Nat.div_le_self _ _
    have lq := limbs_short1 A 407 (by omega) (a / x) (by omega)
    have hup := newton_up a x x1 x3
    have hen := newton_end a x x1
    have OV := hid (fun w h0 h1 => over_any a0 b3 c0 c3 a x w h0 h1 (by omega) x1)
    have PL := hid (fun a1 c1 w h0 h1 => plus_any b3 a1 c3 c1 x (a / x) w h0 h1 (by omega) (by omega))
    have RI := hid (show ∀ a1 c1 w, Ns .u32 w a1 c1 (limbs (x + a / x)) → Calls Tryz.prog 69 #[.slice a1 (limbs (x + a / x)).length c1, .int .i64 1] w fun e w' => RetN2 w ((x + a / x) / 2) (.bool (lostB (x + a / x) 1)) e w' from fun a1 c1 w h => by
      have hs : x + a / x < 2 ^ (A + 1) := by
        have e1 : (2 : Nat) ^ (k + 1) ≤ 2 ^ A := Nat.pow_le_pow_right (by omega) (by omega)
        rw [Nat.pow_succ]
        omega
      have h9 := right_any a1 c1 (x + a / x) 1 w h (Nat.le_trans (limbs_short1 (A + 1) 407 (by omega) _ hs) (by omega)) (by omega)
      rw [Nat.pow_one] at h9
      exact h9)
    obtain ⟨q, hq⟩ : ∃ q, q = a / x := ⟨_, rfl⟩
    obtain ⟨y, hy⟩ : ∃ y, y = (x + a / x) / 2 := ⟨_, rfl⟩
    rw [← hy] at hup hen RI
    rw [← hq] at OV PL RI
    have CM := hid (fun a1 c1 w h0 h1 => compare_any a1 b3 c1 c3 y x w h0 h1)
    have hyp := newton_pos a y ha hup
    have HX := hid hx
    obtain ⟨c9, hc9⟩ : ∃ c, c = cmpI y x := ⟨_, rfl⟩
    rw [← hc9] at CM
    have HS := hid hst
    have HU := hid hup
    have HE := hid hen
    have H3 := hid x3
    have X2 := hid x2
    clear hst hup hen x3 x2 hqd lq hq hy hxb hA
    by_cases hc : x ≤ y
    · have hc0 : 0 ≤ c9 := by rw [hc9]; unfold cmpI; split <;> (try split) <;> omega
      clear hc9
      go_wp2_with (first
        | (go_at_call 73; (with_reducible refine (OV.out _ (H0.out.below hb) HX.out).mono ?_); rintro en w4 ⟨a4, c4, a5, c5, rfl, hN4, hN5, hb4⟩)
        | (go_at_call 56; (with_reducible refine (PL.out _ _ _ (HX.out.below hb4) hN4).mono ?_); rintro en w5 ⟨a6, rfl, hN6, hb5⟩)
        | (go_at_call 69; (with_reducible refine (RI.out _ _ _ hN6).mono ?_); rintro en w6 ⟨a7, rfl, hN7, hb6⟩)
        | (go_at_call 36; (with_reducible refine (CM.out _ _ _ hN7 (((HX.out.below hb4).below hb5).below hb6)).mono ?_); rintro en w7 ⟨rfl, nq, rfl⟩))
      refine bodyPost_ret (by simp [results, Tryz.results34, go_sem]; try rfl) rfl ?_
      exact ⟨x, HE.out hc, H3.out, b3, c3, rfl, ((((HX.out.below hb4).below hb5).below hb6).below (below_drewN (Below.refl _ _) nq)), below_trans (below_trans (below_trans hb hb4) hb5) (below_drewN hb6 nq)⟩
    · have hc0 : c9 < 0 := by rw [hc9]; unfold cmpI; split <;> (try split) <;> omega
      clear hc9
      go_wp2_with (first
        | (go_at_call 73; (with_reducible refine (OV.out _ (H0.out.below hb) HX.out).mono ?_); rintro en w4 ⟨a4, c4, a5, c5, rfl, hN4, hN5, hb4⟩)
        | (go_at_call 56; (with_reducible refine (PL.out _ _ _ (HX.out.below hb4) hN4).mono ?_); rintro en w5 ⟨a6, rfl, hN6, hb5⟩)
        | (go_at_call 69; (with_reducible refine (RI.out _ _ _ hN6).mono ?_); rintro en w6 ⟨a7, rfl, hN7, hb6⟩)
        | (go_at_call 36; (with_reducible refine (CM.out _ _ _ hN7 (((HX.out.below hb4).below hb5).below hb6)).mono ?_); rintro en w7 ⟨rfl, nq, rfl⟩))
      have hN8 := hN7.below (below_drewN (Below.refl _ _) nq)
      exact ⟨⟨y, a7, _, rfl, hyp, Nat.le_trans (by omega) X2.out, HU.out, hN8, below_trans (below_trans (below_trans hb hb4) hb5) (below_drewN hb6 nq)⟩, by rw [rdL_eq hN8, rdL_eq HX.out, lval_limbs, lval_limbs]; omega⟩
end Go.Proofs.YtpgmchpdpgahfaaGreatDoor

namespace Go.Proofs
open Go.Shelf
def Tryz.lays156_ren : Go.Shelf.Ren := ⟨fun | 156 => 89 | 165 => 64 | 166 => 65 | 169 => 67 | 240 => 97 | 241 => 98 | 276 => 112 | 277 => 113 | n => n, fun | 31 => 129 | 9 => 9 | 3 => 3 | 4 => 4 | 0 => 0 | 20 => 20 | 72 => 99 | 76 => 103 | 70 => 96 | 37 => 97 | 75 => 102 | 127 => 138 | 164 => 148 | 5 => 5 | 80 => 106 | n => n, fun | n => n⟩
theorem Tryz.lays156 : Go.Proofs.Lays.n156 Tryz.prog Tryz.lays156_ren := {
  mixed := by kernel_rfl
  f156 := Tryz.func89.trans (congrArg some (by kernel_rfl))
  f165 := Tryz.func64.trans (congrArg some (by kernel_rfl))
  f166 := Tryz.func65.trans (congrArg some (by kernel_rfl))
  f169 := Tryz.func67.trans (congrArg some (by kernel_rfl))
  f240 := Tryz.func97.trans (congrArg some (by kernel_rfl))
  f241 := Tryz.func98.trans (congrArg some (by kernel_rfl))
  f276 := Tryz.func112.trans (congrArg some (by kernel_rfl))
  f277 := Tryz.func113.trans (congrArg some (by kernel_rfl))
  t0 := Tryz.underlying0
  a0 := Tryz.isAgg0
  z0 := Tryz.sizeOf0
  v0 := Tryz.zeroValue0
  t3 := Tryz.underlying3
  a3 := Tryz.isAgg3
  z3 := Tryz.sizeOf3
  v3 := Tryz.zeroValue3
  t4 := Tryz.underlying4
  a4 := Tryz.isAgg4
  z4 := Tryz.sizeOf4
  v4 := Tryz.zeroValue4
  t9 := Tryz.underlying9
  a9 := Tryz.isAgg9
  z9 := Tryz.sizeOf9
  v9 := Tryz.zeroValue9
  t20 := Tryz.underlying20
  a20 := Tryz.isAgg20
  z20 := Tryz.sizeOf20
  v20 := Tryz.zeroValue20
  t31 := Tryz.underlying129
  a31 := Tryz.isAgg129
  z31 := Tryz.sizeOf129
  v31 := Tryz.zeroValue129
  t37 := Tryz.underlying97
  a37 := Tryz.isAgg97
  z37 := Tryz.sizeOf97
  v37 := Tryz.zeroValue97
  t70 := Tryz.underlying96
  a70 := Tryz.isAgg96
  z70 := Tryz.sizeOf96
  v70 := Tryz.zeroValue96
  t72 := Tryz.underlying99
  a72 := Tryz.isAgg99
  z72 := Tryz.sizeOf99
  v72 := Tryz.zeroValue99
  t75 := Tryz.underlying102
  a75 := Tryz.isAgg102
  z75 := Tryz.sizeOf102
  v75 := Tryz.zeroValue102
  t76 := Tryz.underlying103
  a76 := Tryz.isAgg103
  z76 := Tryz.sizeOf103
  v76 := Tryz.zeroValue103
  t127 := Tryz.underlying138
  a127 := Tryz.isAgg138
  z127 := Tryz.sizeOf138
  v127 := Tryz.zeroValue138
  t164 := Tryz.underlying148
  a164 := Tryz.isAgg148
  z164 := Tryz.sizeOf148
  v164 := Tryz.zeroValue148 }
theorem Tryz.Builder_Extra_156 : Builder.Extra Tryz.prog Tryz.lays156_ren := {
  sizeBuilder := by kernel_rfl
  liesBuilder := by kernel_rfl
  t5 := Tryz.underlying5
  a5 := Tryz.isAgg5
  z5 := Tryz.sizeOf5
  v5 := Tryz.zeroValue5
  infoByte := by kernel_rfl
  cellsByte := by kernel_rfl
  sizeByte := by kernel_rfl
  neB5 := by decide }
open Go.RowKit in
/-- strings.Join: "Join concatenates the elements of its first argument to create a single string. The separator string sep is placed between elements in the resulting string.": HOWEVER MANY ELEMENTS. Below the heap's end the world is as it was. (LAID: no walk: one application.) -/
theorem Tryz.strings_Join (bk o c : Nat) (xs : List ByteArray) (sep : ByteArray) (w : World) (hcells : ∀ (j : Nat) x, xs[j]? = some x → w.cell? ⟨bk, o + j, none⟩ = some (.string x)) (hbk : bk < w.heap.size) (hN : xs.length ≤ 140737488355328) (hcap : xs.length ≤ c) (hlen : (Lib.join (xs.map (·.data.toList)) sep.data.toList).length ≤ 140737488355328) :
    Calls Tryz.prog 89 #[.slice (some ⟨bk, o, none⟩) xs.length c, .string sep] w fun e w' => e = .returned (.string ⟨(Lib.join (xs.map (·.data.toList)) sep.data.toList).toArray⟩) ∧ Below w.heap.size w w' := Any.strings_Join Tryz.lays156 Tryz.Builder_Extra_156 bk o c xs sep w hcells hbk hN hcap hlen
def Tryz.laysM171_ren : Go.Shelf.Ren := ⟨fun | 171 => 61 | 243 => 93 | 246 => 111 | 283 => 124 | 284 => 125 | 285 => 126 | 286 => 127 | 129 => 135 | 317 => 134 | 318 => 136 | 319 => 137 | 320 => 138 | 337 => 75 | 338 => 140 | n => n, fun | 3 => 3 | 9 => 9 | 2 => 2 | 4 => 4 | 171 => 160 | 0 => 0 | 53 => 22 | 37 => 97 | 5 => 5 | 173 => 162 | 212 => 177 | 51 => 66 | 20 => 20 | 213 => 178 | 46 => 38 | 232 => 141 | 233 => 183 | n => n, fun | 17 => 6 | 18 => 0 | 19 => 7 | n => n⟩
theorem Tryz.laysM171 : Go.Proofs.LaysM.n171 Tryz.prog Tryz.laysM171_ren := {
  mixed := by kernel_rfl
  f129 := Tryz.func135.trans (congrArg some (by kernel_rfl))
  f171 := Tryz.func61.trans (congrArg some (by kernel_rfl))
  f243 := Tryz.func93.trans (congrArg some (by kernel_rfl))
  f246 := Tryz.func111.trans (congrArg some (by kernel_rfl))
  f283 := Tryz.func124.trans (congrArg some (by kernel_rfl))
  f284 := Tryz.func125.trans (congrArg some (by kernel_rfl))
  f285 := Tryz.func126.trans (congrArg some (by kernel_rfl))
  f286 := Tryz.func127.trans (congrArg some (by kernel_rfl))
  f317 := Tryz.func134.trans (congrArg some (by kernel_rfl))
  f318 := Tryz.func136.trans (congrArg some (by kernel_rfl))
  f319 := Tryz.func137.trans (congrArg some (by kernel_rfl))
  f320 := Tryz.func138.trans (congrArg some (by kernel_rfl))
  f337 := Tryz.func75.trans (congrArg some (by kernel_rfl))
  f338 := Tryz.func140.trans (congrArg some (by kernel_rfl))
  t0 := Tryz.underlying0
  a0 := Tryz.isAgg0
  z0 := Tryz.sizeOf0
  v0 := Tryz.zeroValue0
  t2 := Tryz.underlying2
  a2 := Tryz.isAgg2
  z2 := Tryz.sizeOf2
  v2 := Tryz.zeroValue2
  t3 := Tryz.underlying3
  a3 := Tryz.isAgg3
  z3 := Tryz.sizeOf3
  v3 := Tryz.zeroValue3
  t4 := Tryz.underlying4
  a4 := Tryz.isAgg4
  z4 := Tryz.sizeOf4
  v4 := Tryz.zeroValue4
  t5 := Tryz.underlying5
  a5 := Tryz.isAgg5
  z5 := Tryz.sizeOf5
  v5 := Tryz.zeroValue5
  t9 := Tryz.underlying9
  a9 := Tryz.isAgg9
  z9 := Tryz.sizeOf9
  v9 := Tryz.zeroValue9
  t20 := Tryz.underlying20
  a20 := Tryz.isAgg20
  z20 := Tryz.sizeOf20
  v20 := Tryz.zeroValue20
  t37 := Tryz.underlying97
  a37 := Tryz.isAgg97
  z37 := Tryz.sizeOf97
  v37 := Tryz.zeroValue97
  t46 := Tryz.underlying38
  a46 := Tryz.isAgg38
  z46 := Tryz.sizeOf38
  v46 := Tryz.zeroValue38
  t51 := Tryz.underlying66
  a51 := Tryz.isAgg66
  z51 := Tryz.sizeOf66
  v51 := Tryz.zeroValue66
  t53 := Tryz.underlying22
  a53 := Tryz.isAgg22
  z53 := Tryz.sizeOf22
  v53 := Tryz.zeroValue22
  t171 := Tryz.underlying160
  a171 := Tryz.isAgg160
  z171 := Tryz.sizeOf160
  v171 := Tryz.zeroValue160
  t173 := Tryz.underlying162
  a173 := Tryz.isAgg162
  z173 := Tryz.sizeOf162
  v173 := Tryz.zeroValue162
  t212 := Tryz.underlying177
  a212 := Tryz.isAgg177
  z212 := Tryz.sizeOf177
  v212 := Tryz.zeroValue177
  t213 := Tryz.underlying178
  a213 := Tryz.isAgg178
  z213 := Tryz.sizeOf178
  t232 := Tryz.underlying141
  a232 := Tryz.isAgg141
  z232 := Tryz.sizeOf141
  v232 := Tryz.zeroValue141
  t233 := Tryz.underlying183
  a233 := Tryz.isAgg183
  z233 := Tryz.sizeOf183
  v233 := Tryz.zeroValue183
  g17 := by kernel_rfl
  g18 := by kernel_rfl
  g19 := by kernel_rfl
  i0 := by kernel_rfl
  i2 := by kernel_rfl
  i3 := by kernel_rfl
  i4 := by kernel_rfl
  i5 := by kernel_rfl
  i9 := by kernel_rfl
  i20 := by kernel_rfl
  i37 := by kernel_rfl
  i46 := by kernel_rfl
  i51 := by kernel_rfl
  i53 := by kernel_rfl
  i171 := by kernel_rfl
  i173 := by kernel_rfl
  i212 := by kernel_rfl
  i232 := by kernel_rfl
  i233 := by kernel_rfl
  m17 := by kernel_rfl
  m18 := by kernel_rfl
  m19 := by kernel_rfl }
open Go.RowKit Go.Sort Go.Lib in
/-- strconv.Itoa: "Itoa is equivalent to FormatInt(int64(i), 10).": i's DECIMAL NUMERAL ('Lib.itoa': a '-' where i is negative, then the digits), FOR EVERY int. The world behind the call: the world before it, new blocks behind the heap (the library's 'var a [24]byte'), draws. (LAID: no walk: one application.) -/
theorem Tryz.strconv_Itoa (n : Int) (h0 : -9223372036854775808 ≤ n) (h1 : n ≤ 9223372036854775807) (w : World) (htab : Lib.TabIs Tryz.prog w "internal/strconv.uint64pow10" .u64 Lib.pow10Tab) :
    Calls Tryz.prog 61 #[.int .i64 n] w fun e w' => e = .returned (.string ⟨(Lib.itoa n).toArray⟩) ∧ ∃ k os, w' = grow (w.drewN k) os := Any.strconv_Itoa Tryz.laysM171 n h0 h1 w htab
def Tryz.lays105_ren : Go.Shelf.Ren := ⟨fun | 105 => 29 | 212 => 62 | 99 => 63 | 165 => 64 | 166 => 65 | 170 => 66 | 169 => 67 | 263 => 94 | 264 => 95 | 206 => 96 | 240 => 97 | 241 => 98 | 276 => 112 | 277 => 113 | n => n, fun | 9 => 9 | 3 => 3 | 4 => 4 | 20 => 20 | 0 => 0 | 46 => 38 | 109 => 93 | 5 => 5 | 72 => 99 | 76 => 103 | 51 => 66 | 146 => 134 | 53 => 22 | 148 => 136 | 70 => 96 | 37 => 97 | 75 => 102 | 127 => 138 | 164 => 148 | 80 => 106 | n => n, fun | n => n⟩
theorem Tryz.lays105 : Go.Proofs.Lays.n105 Tryz.prog Tryz.lays105_ren := {
  mixed := by kernel_rfl
  f99 := Tryz.func63.trans (congrArg some (by kernel_rfl))
  f105 := Tryz.func29.trans (congrArg some (by kernel_rfl))
  f165 := Tryz.func64.trans (congrArg some (by kernel_rfl))
  f166 := Tryz.func65.trans (congrArg some (by kernel_rfl))
  f169 := Tryz.func67.trans (congrArg some (by kernel_rfl))
  f170 := Tryz.func66.trans (congrArg some (by kernel_rfl))
  f206 := Tryz.func96.trans (congrArg some (by kernel_rfl))
  f212 := Tryz.func62.trans (congrArg some (by kernel_rfl))
  f240 := Tryz.func97.trans (congrArg some (by kernel_rfl))
  f241 := Tryz.func98.trans (congrArg some (by kernel_rfl))
  f263 := Tryz.func94.trans (congrArg some (by kernel_rfl))
  f264 := Tryz.func95.trans (congrArg some (by kernel_rfl))
  f276 := Tryz.func112.trans (congrArg some (by kernel_rfl))
  f277 := Tryz.func113.trans (congrArg some (by kernel_rfl))
  t0 := Tryz.underlying0
  a0 := Tryz.isAgg0
  z0 := Tryz.sizeOf0
  v0 := Tryz.zeroValue0
  t3 := Tryz.underlying3
  a3 := Tryz.isAgg3
  z3 := Tryz.sizeOf3
  v3 := Tryz.zeroValue3
  t4 := Tryz.underlying4
  a4 := Tryz.isAgg4
  z4 := Tryz.sizeOf4
  v4 := Tryz.zeroValue4
  t5 := Tryz.underlying5
  a5 := Tryz.isAgg5
  z5 := Tryz.sizeOf5
  v5 := Tryz.zeroValue5
  t9 := Tryz.underlying9
  a9 := Tryz.isAgg9
  z9 := Tryz.sizeOf9
  v9 := Tryz.zeroValue9
  t20 := Tryz.underlying20
  a20 := Tryz.isAgg20
  z20 := Tryz.sizeOf20
  v20 := Tryz.zeroValue20
  t37 := Tryz.underlying97
  a37 := Tryz.isAgg97
  z37 := Tryz.sizeOf97
  v37 := Tryz.zeroValue97
  t46 := Tryz.underlying38
  a46 := Tryz.isAgg38
  z46 := Tryz.sizeOf38
  v46 := Tryz.zeroValue38
  t51 := Tryz.underlying66
  a51 := Tryz.isAgg66
  z51 := Tryz.sizeOf66
  v51 := Tryz.zeroValue66
  t53 := Tryz.underlying22
  a53 := Tryz.isAgg22
  z53 := Tryz.sizeOf22
  v53 := Tryz.zeroValue22
  t70 := Tryz.underlying96
  a70 := Tryz.isAgg96
  z70 := Tryz.sizeOf96
  v70 := Tryz.zeroValue96
  t72 := Tryz.underlying99
  a72 := Tryz.isAgg99
  z72 := Tryz.sizeOf99
  v72 := Tryz.zeroValue99
  t75 := Tryz.underlying102
  a75 := Tryz.isAgg102
  z75 := Tryz.sizeOf102
  v75 := Tryz.zeroValue102
  t76 := Tryz.underlying103
  a76 := Tryz.isAgg103
  z76 := Tryz.sizeOf103
  v76 := Tryz.zeroValue103
  t109 := Tryz.underlying93
  a109 := Tryz.isAgg93
  z109 := Tryz.sizeOf93
  v109 := Tryz.zeroValue93
  t127 := Tryz.underlying138
  a127 := Tryz.isAgg138
  z127 := Tryz.sizeOf138
  v127 := Tryz.zeroValue138
  t146 := Tryz.underlying134
  a146 := Tryz.isAgg134
  z146 := Tryz.sizeOf134
  v146 := Tryz.zeroValue134
  t148 := Tryz.underlying136
  a148 := Tryz.isAgg136
  z148 := Tryz.sizeOf136
  v148 := Tryz.zeroValue136
  t164 := Tryz.underlying148
  a164 := Tryz.isAgg148
  z164 := Tryz.sizeOf148
  v164 := Tryz.zeroValue148 }
theorem Tryz.Builder_Extra_105 : Builder.Extra Tryz.prog Tryz.lays105_ren := {
  sizeBuilder := by kernel_rfl
  liesBuilder := by kernel_rfl
  t5 := Tryz.underlying5
  a5 := Tryz.isAgg5
  z5 := Tryz.sizeOf5
  v5 := Tryz.zeroValue5
  infoByte := by kernel_rfl
  cellsByte := by kernel_rfl
  sizeByte := by kernel_rfl
  neB5 := by decide }
open Go.RowKit Go.Lib in
/-- **strings.Repeat: count ≥ 0, the result within one allocation: count copies of s.** (LAID: no walk: one application.) -/
theorem Tryz.strings_Repeat (s : ByteArray) (c : Nat) (w : World) (hc : c ≤ 9223372036854775807) (hlen : s.size * c ≤ 140737488355328) :
    Calls Tryz.prog 29 #[.string s, .int .i64 c] w fun e w' => e = .returned (.string ⟨(Lib.repeatL s.data.toList c).toArray⟩) ∧ Below w.heap.size w w' := Any.strings_Repeat Tryz.lays105 Tryz.Builder_Extra_105 s c w hc hlen
def Tryz.laysNm217_ren : Go.Shelf.Ren := ⟨fun | 17 => 88 | n => n, fun | 24 => 129 | 9 => 9 | 3 => 3 | 4 => 4 | 0 => 0 | n => n, fun | n => n⟩
theorem Tryz.laysNm217 : Go.Proofs.Lays2.n17 Tryz.prog Tryz.laysNm217_ren := {
  mixed := by kernel_rfl
  f17 := Tryz.func88.trans (congrArg some (by kernel_rfl))
  t0 := Tryz.underlying0
  a0 := Tryz.isAgg0
  z0 := Tryz.sizeOf0
  v0 := Tryz.zeroValue0
  t3 := Tryz.underlying3
  a3 := Tryz.isAgg3
  z3 := Tryz.sizeOf3
  v3 := Tryz.zeroValue3
  t4 := Tryz.underlying4
  a4 := Tryz.isAgg4
  z4 := Tryz.sizeOf4
  v4 := Tryz.zeroValue4
  t9 := Tryz.underlying9
  a9 := Tryz.isAgg9
  z9 := Tryz.sizeOf9
  v9 := Tryz.zeroValue9
  t24 := Tryz.underlying129
  a24 := Tryz.isAgg129
  z24 := Tryz.sizeOf129
  v24 := Tryz.zeroValue129 }
open Go.RowKit Go.Lib Go.Sort in
/-- slices.Reverse at []string: "Reverse reverses the elements of the slice in place.": THE SLICE's CELLS HOLD 'zs.reverse' BEHIND THE CALL; all else is as it was, but for the count of draws (the exchange 's[i], s[j] = s[j], s[i]' draws its order, once a round). IN THE WORDS OF slices.Sort's CONTRACT: 'Holds': the cells hold zs and none is frozen; 'putRow': the world with those cells holding another array. A slice of length 0 that is not nil is among them ('zs = []'); nil: '.._nil'. (LAID: no walk: one application.) -/
theorem Tryz.slices_Reverse_string (blk off cap : Nat) (zs : List (List UInt8)) (w : World) (hH : Holds encStr w blk off zs.toArray) (hsz : zs.length ≤ 9223372036854775807) :
    Calls Tryz.prog 88 #[.slice (some ⟨blk, off, none⟩) zs.length cap] w fun e w' => e = .returned (.tuple #[]) ∧ ∃ n, w' = putRow encStr (Sort.ahead w n) blk off zs.reverse.toArray := Any.slices_Reverse_string Tryz.laysNm217 blk off cap zs w hH hsz
end Go.Proofs
