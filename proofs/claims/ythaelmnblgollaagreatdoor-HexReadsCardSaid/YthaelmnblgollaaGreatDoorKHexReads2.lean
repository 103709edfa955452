/- HexReads: what the proof leans on, part 2 (Hr9 Hr7 Hr8 Hr11 ShelfV). -/
import Derived.Lib.IndexBytes
import Derived.Shelf.Strings.Builder1
import Derived.Shelf.Strings.Builder2
import Derived.Shelf.Strings.OnBuilder
import Derived.Shelf.Strings.Trim
import Derived.Shelf.Small.Utf8
import Derived.Shelf.Small.Bits
import Derived.Shelf.Small.Strs
import Derived.Shelf.Small.Wraps
import Derived.Shelf.Strings.BuilderF
import Derived.Shelf.Strconv.Atoi
import Derived.Shelf.Strconv.Itoa0
import Derived.Shelf.Strconv.Itoa1
import Derived.Shelf.LaysM
import Derived.Shelf.Strconv.Itoa2
import Derived.Shelf.Strconv.Itoa3
import Derived.Shelf.Strings.Search1
import Derived.Shelf.Strings.Search2
import Derived.Shelf.Strings.Search3
import Derived.Shelf.Strings.Cut
import Derived.Shelf.Strings.Shaped
import Derived.Shelf.Strings.Prefix
import Derived.Shelf.Strings.Runes
import Derived.Shelf.Strings.AsciiSet
import Derived.Shelf.Bits.Mul64
import Derived.Shelf.Strings.Repeat
import Derived.Shelf.Unicode.DecodeSlow
import Derived.Ground.Names2Prog
import Derived.Shelf.Slices.ReverseS
import Derived.Shelf.Slices.SearchI
import Derived.Test.YthaelmnblgollaaGreatDoorKShortSays10
import Derived.Test.YthaelmnblgollaaGreatDoorKShortSays15
import Derived.Test.YthaelmnblgollaaGreatDoorKShortSays18
import Derived.Test.YthaelmnblgollaaGreatDoorKShortSays21
import Derived.Test.YthaelmnblgollaaGreatDoorKShortSays23
import Derived.Test.YthaelmnblgollaaGreatDoorKShortSays28
import Derived.Test.YthaelmnblgollaaGreatDoorKHexReads1
set_option linter.unusedVariables false
set_option linter.unusedSimpArgs false
namespace Go.Ulp
open Go.RowKit
/-- the number as the program hands it to be rounded -/
def hrM (M : Nat) (k : Int) : Nat := if 2000 < (bl M : Int) + k ∨ (bl M : Int) + k < -2000 then 1 else M
def hrX (M : Nat) (k : Int) : Int := if 2000 < (bl M : Int) + k then 2000 else if (bl M : Int) + k < -2000 then -2000 else k
/-- the exponent as the reference takes it -/
def hrc (k : Int) : Int := min (max k (-9000)) 9000
theorem hr_same (neg : Bool) (M : Nat) (k mode : Int) (m0 : 0 ≤ mode) (m1 : mode ≤ 4) (hM : 0 < M) (hb : bl M ≤ 4000) : numX neg (hrM M k) (hrX M k) mode = numX neg M (hrc k) mode ∧ numC neg (hrM M k) (hrX M k) mode = numC neg M (hrc k) mode := by
  have hbp := (bl_pos M).2 hM
  have hlo : 2 ^ (bl M - 1) ≤ M := by
    rcases Nat.lt_or_ge M (2 ^ (bl M - 1)) with h | h
    · have := (bl_le M (bl M - 1)).2 h; omega
    · exact h
  have hhi := lt_bl M
  by_cases h1 : 2000 < (bl M : Int) + k
  · unfold hrM hrX
    rw [if_pos (.inl h1), if_pos h1]
    refine num_same neg _ 1 1 M 2000 (hrc k) mode m0 m1 (far_high 1 2000 0 (by decide) (by omega)) (far_high M (hrc k) (bl M - 1) hlo ?_)
    unfold hrc; omega
  · by_cases h2 : (bl M : Int) + k < -2000
    · unfold hrM hrX
      rw [if_pos (.inr h2), if_neg h1, if_pos h2]
      refine num_same neg 1 _ 1 M (-2000) (hrc k) mode m0 m1 (far_low 1 (-2000) 1 (by decide) (by decide) (by omega)) (far_low M (hrc k) (bl M) hM hhi ?_)
      unfold hrc; omega
    · unfold hrM hrX
      rw [if_neg (fun h => h.elim h1 h2), if_neg h1, if_neg h2, show hrc k = k by unfold hrc; omega]
      exact ⟨rfl, rfl⟩
end Go.Ulp
namespace Go.Proofs.YthaelmnblgollaaGreatDoor
open Go.RowKit Go.Ulp
set_option linter.unusedVariables false
set_option linter.unusedSimpArgs false
set_option maxHeartbeats 2000000
set_option maxRecDepth 100000
theorem hexNum_bad (L : List UInt8) (mode : Int) (w : World) (hm : ¬ (0 ≤ mode ∧ mode ≤ 4)) :
    Calls Tryz.prog 45 #[.string (bsOf L), .int .i64 mode] w (RetNm w 0 false 1) := by
  have KN := hid (fun w => known_any mode w)
  rw [show knownB mode = false by unfold knownB; exact decide_eq_false hm] at KN
  go_enter Tryz.func45, Tryz.ntmps45
  go_wp2_with (go_at_call 106; (with_reducible refine (KN.out _).mono ?_); rintro en w1 ⟨rfl, rfl⟩)
  go_ret3
  exact ⟨rfl, Below.refl _ _⟩
theorem hexNum_long (L : List UInt8) (mode : Int) (w : World) (hm : (0 ≤ mode ∧ mode ≤ 4)) (hl : 1000 < L.length) (h2 : L.length ≤ 9223372036854775807) :
    Calls Tryz.prog 45 #[.string (bsOf L), .int .i64 mode] w (RetNm w 0 false 2) := by
  have KN := hid (fun w => known_any mode w)
  rw [show knownB mode = true by unfold knownB; exact decide_eq_true hm] at KN
  have hsz := bs_size L
  generalize bsOf L = Q at *
  go_enter Tryz.func45, Tryz.ntmps45
  go_wp2_with (go_at_call 106; (with_reducible refine (KN.out _).mono ?_); rintro en w1 ⟨rfl, rfl⟩)
  go_ret3
  exact ⟨rfl, Below.refl _ _⟩
theorem hexNum_err (L : List UInt8) (mode : Int) (w : World) (hm : (0 ≤ mode ∧ mode ≤ 4)) (hl : L.length ≤ 1000) (h : hrO L = false) :
    Calls Tryz.prog 45 #[.string (bsOf L), .int .i64 mode] w (RetNm w 0 false 5) := by
  have KN := hid (fun w => known_any mode w)
  rw [show knownB mode = true by unfold knownB; exact decide_eq_true hm] at KN
  have hsz := bs_size L
  have PZ := hid (fun w => hparse_err L w hl h)
  generalize bsOf L = Q at *
  clear h
  go_enter Tryz.func45, Tryz.ntmps45
  go_wp2_with (first | (go_at_call 106; (with_reducible refine (KN.out _).mono ?_); rintro en w1 ⟨rfl, rfl⟩) | (go_at_call 118; (with_reducible refine (PZ.out _).mono ?_); rintro en w2 ⟨rfl, hb2⟩))
  go_ret3
  exact ⟨rfl, hb2⟩
theorem hexNum_zero (L : List UInt8) (mode : Int) (w : World) (hm : (0 ≤ mode ∧ mode ≤ 4)) (hl : L.length ≤ 1000) (h : hrO L = true) (h0 : hvl (hrD L) = 0) :
    Calls Tryz.prog 45 #[.string (bsOf L), .int .i64 mode] w (RetNm w (sgb (hrN L)) false 0) := by
  have KN := hid (fun w => known_any mode w)
  rw [show knownB mode = true by unfold knownB; exact decide_eq_true hm] at KN
  have hsz := bs_size L
  have PZ := hid (fun w => hparse_ok L w hl h)
  have hD := hrD_hx L
  have hDl := hrD_len L
  have MA := hid (fun w => mantissa_any (hrD L) w hD (by omega))
  rw [h0] at MA
  have l0 : (limbs 0).length = 0 := rfl
  generalize bsOf L = Q at *
  generalize hrN L = ne at *
  generalize hrK L = kk at *
  generalize hrD L = dd at *
  clear h hD hDl h0
  cases ne
  · go_enter Tryz.func45, Tryz.ntmps45
    go_wp2_with (first | (first | (go_at_call 106; (with_reducible refine (KN.out _).mono ?_); rintro en w1 ⟨rfl, rfl⟩) | (go_at_call 118; (with_reducible refine (PZ.out _).mono ?_); rintro en w2 ⟨rfl, hb2⟩)) | (go_at_call 119; (with_reducible refine (MA.out _).mono ?_); rintro en w3 ⟨a3, c3, rfl, hN3, hb3⟩))
    go_ret3
    exact ⟨rfl, below_trans hb2 hb3⟩
  · go_enter Tryz.func45, Tryz.ntmps45
    go_wp2_with (first | (first | (go_at_call 106; (with_reducible refine (KN.out _).mono ?_); rintro en w1 ⟨rfl, rfl⟩) | (go_at_call 118; (with_reducible refine (PZ.out _).mono ?_); rintro en w2 ⟨rfl, hb2⟩)) | (go_at_call 119; (with_reducible refine (MA.out _).mono ?_); rintro en w3 ⟨a3, c3, rfl, hN3, hb3⟩))
    go_ret3
    exact ⟨rfl, below_trans hb2 hb3⟩
theorem hexNum_val (L : List UInt8) (mode : Int) (w : World) (hm : (0 ≤ mode ∧ mode ≤ 4)) (hl : L.length ≤ 1000) (h : hrO L = true) (M : Nat) (hM : hvl (hrD L) = M) (h0 : 0 < M) :
    Calls Tryz.prog 45 #[.string (bsOf L), .int .i64 mode] w (RetNm w (numX (hrN L) (hrM M (hrK L)) (hrX M (hrK L)) mode) (numC (hrN L) (hrM M (hrK L)) (hrX M (hrK L)) mode) 0) := by
  have KN := hid (fun w => known_any mode w)
  rw [show knownB mode = true by unfold knownB; exact decide_eq_true hm] at KN
  have hsz := bs_size L
  have PZ := hid (fun w => hparse_ok L w hl h)
  have hD := hrD_hx L
  have hDl := hrD_len L
  have MA := hid (fun w => mantissa_any (hrD L) w hD (by omega))
  have hk := hrK_bd L hl h
  have hbl : bl M ≤ 4000 := by rw [← hM]; exact hvl_bl _ hD (by omega)
  have hMl : (limbs M).length ≤ 3002 := by
    rw [← hM]
    exact Nat.le_trans (limbs_len_mono (Nat.le_of_lt (hvl_lt _ hD))) (limbs_hex _ (by omega))
  rw [hM] at MA
  have hlp : ¬ (limbs M).length = 0 := fun e => by
    have := (limbs_nil M).1 (List.length_eq_zero_iff.1 e); omega
  have hlp2 : ¬ ((limbs M).length : Int) = 0 := by omega
  have LN := hid (fun a c w h0 => natLen_any a c M w h0 (by omega))
  have OF := hid (show ∀ w, Calls Tryz.prog 120 #[.int .u64 1] w fun e w' => RetN w 1 e w' from fun w => natOf_any 1 (by omega) w)
  have l1 : (limbs 1).length = 1 := rfl
  obtain ⟨K, hK⟩ : ∃ K, K = hrK L := ⟨_, rfl⟩
  obtain ⟨M', hM'⟩ : ∃ M', M' = hrM M K := ⟨_, rfl⟩
  obtain ⟨K', hK'⟩ : ∃ K', K' = hrX M K := ⟨_, rfl⟩
  rw [← hK] at hk PZ ⊢
  rw [← hM', ← hK']
  have wT : IntKind.i64.wrap ((bl M : Int) + K) = (bl M : Int) + K := IntWalk.i64_in _ (by omega)
  have NU : Hid (∀ (neg : Bool) (a : Option Addr) (c : Nat) w (h0 : Ns .u32 w a c (limbs M')), Calls Tryz.prog 107 #[.agg #[.bool neg, .slice a (limbs M').length c, .int .i64 K'], .int .i64 mode] w (RetX w (numX neg M' K' mode) (numC neg M' K' mode))) := hid (fun neg a c w h0 => by
    refine number_any neg a c M' K' mode w h0 ?_ ?_ ?_
    · rw [hM']; unfold hrM; split
      · rw [l1]; omega
      · omega
    · rw [hK']; unfold hrX; split
      · omega
      · split <;> omega
    · intro h9; exfalso; rw [hM'] at h9; revert h9; unfold hrM; split <;> omega)
  generalize bsOf L = Q at *
  generalize hrN L = ne at *
  generalize hrD L = dd at *
  obtain ⟨B, hB⟩ : ∃ B, (bl M : Int) = B := ⟨_, rfl⟩
  rw [hB] at LN wT
  have H3 : (2000 < B + K ∧ M' = 1 ∧ K' = 2000) ∨ (¬ 2000 < B + K ∧ B + K < -2000 ∧ M' = 1 ∧ K' = -2000) ∨ (¬ 2000 < B + K ∧ ¬ B + K < -2000 ∧ M' = M ∧ K' = K) := by
    rw [hM', hK']
    unfold hrM hrX
    rw [hB]
    by_cases g1 : 2000 < B + K
    · exact .inl ⟨g1, if_pos (.inl g1), if_pos g1⟩
    · by_cases g2 : B + K < -2000
      · exact .inr (.inl ⟨g1, g2, if_pos (.inr g2), by rw [if_neg g1, if_pos g2]⟩)
      · exact .inr (.inr ⟨g1, g2, if_neg (fun h => h.elim g1 g2), by rw [if_neg g1, if_neg g2]⟩)
  clear hM' hK' hB hK h hD hDl hM h0 hbl hk l1
  rcases H3 with ⟨g1, rfl, rfl⟩ | ⟨g1, g2, rfl, rfl⟩ | ⟨g1, g2, rfl, rfl⟩
  · cases ne
    · go_enter Tryz.func45, Tryz.ntmps45
      go_wp2_with (first | (first | (first | (go_at_call 106; (with_reducible refine (KN.out _).mono ?_); rintro en w1 ⟨rfl, rfl⟩) | (go_at_call 118; (with_reducible refine (PZ.out _).mono ?_); rintro en w2 ⟨rfl, hb2⟩)) | (go_at_call 119; (with_reducible refine (MA.out _).mono ?_); rintro en w3 ⟨a3, c3, rfl, hN3, hb3⟩)) | (go_at_call 75; (with_reducible refine (LN.out _ _ _ hN3).mono ?_); rintro en w4 ⟨rfl, rfl⟩) | (go_at_call 120; (with_reducible refine (OF.out _).mono ?_); rintro en w5 ⟨a5, rfl, hN5, hb5⟩) | (go_at_call 107; (with_reducible refine (NU.out _ _ _ _ hN5).mono ?_); rintro en w6 ⟨rfl, hb6⟩))
      go_ret3
      exact ⟨rfl, by (repeat' (first | (with_reducible assumption) | (with_reducible exact Below.refl _ _) | (with_reducible refine below_al ?_ _) | (with_reducible refine below_drewN ?_ _) | (with_reducible refine Below.drew ?_) | (with_reducible refine Below.alloc ?_ ?_ _) | (with_reducible refine Below.setCell ?_ ?_ _) | (refine below_trans ?_ (by assumption)) | go_size))⟩
    · go_enter Tryz.func45, Tryz.ntmps45
      go_wp2_with (first | (first | (first | (go_at_call 106; (with_reducible refine (KN.out _).mono ?_); rintro en w1 ⟨rfl, rfl⟩) | (go_at_call 118; (with_reducible refine (PZ.out _).mono ?_); rintro en w2 ⟨rfl, hb2⟩)) | (go_at_call 119; (with_reducible refine (MA.out _).mono ?_); rintro en w3 ⟨a3, c3, rfl, hN3, hb3⟩)) | (go_at_call 75; (with_reducible refine (LN.out _ _ _ hN3).mono ?_); rintro en w4 ⟨rfl, rfl⟩) | (go_at_call 120; (with_reducible refine (OF.out _).mono ?_); rintro en w5 ⟨a5, rfl, hN5, hb5⟩) | (go_at_call 107; (with_reducible refine (NU.out _ _ _ _ hN5).mono ?_); rintro en w6 ⟨rfl, hb6⟩))
      go_ret3
      exact ⟨rfl, by (repeat' (first | (with_reducible assumption) | (with_reducible exact Below.refl _ _) | (with_reducible refine below_al ?_ _) | (with_reducible refine below_drewN ?_ _) | (with_reducible refine Below.drew ?_) | (with_reducible refine Below.alloc ?_ ?_ _) | (with_reducible refine Below.setCell ?_ ?_ _) | (refine below_trans ?_ (by assumption)) | go_size))⟩
  · cases ne
    · go_enter Tryz.func45, Tryz.ntmps45
      go_wp2_with (first | (first | (first | (go_at_call 106; (with_reducible refine (KN.out _).mono ?_); rintro en w1 ⟨rfl, rfl⟩) | (go_at_call 118; (with_reducible refine (PZ.out _).mono ?_); rintro en w2 ⟨rfl, hb2⟩)) | (go_at_call 119; (with_reducible refine (MA.out _).mono ?_); rintro en w3 ⟨a3, c3, rfl, hN3, hb3⟩)) | (go_at_call 75; (with_reducible refine (LN.out _ _ _ hN3).mono ?_); rintro en w4 ⟨rfl, rfl⟩) | (go_at_call 120; (with_reducible refine (OF.out _).mono ?_); rintro en w5 ⟨a5, rfl, hN5, hb5⟩) | (go_at_call 107; (with_reducible refine (NU.out _ _ _ _ hN5).mono ?_); rintro en w6 ⟨rfl, hb6⟩))
      go_ret3
      exact ⟨rfl, by (repeat' (first | (with_reducible assumption) | (with_reducible exact Below.refl _ _) | (with_reducible refine below_al ?_ _) | (with_reducible refine below_drewN ?_ _) | (with_reducible refine Below.drew ?_) | (with_reducible refine Below.alloc ?_ ?_ _) | (with_reducible refine Below.setCell ?_ ?_ _) | (refine below_trans ?_ (by assumption)) | go_size))⟩
    · go_enter Tryz.func45, Tryz.ntmps45
      go_wp2_with (first | (first | (first | (go_at_call 106; (with_reducible refine (KN.out _).mono ?_); rintro en w1 ⟨rfl, rfl⟩) | (go_at_call 118; (with_reducible refine (PZ.out _).mono ?_); rintro en w2 ⟨rfl, hb2⟩)) | (go_at_call 119; (with_reducible refine (MA.out _).mono ?_); rintro en w3 ⟨a3, c3, rfl, hN3, hb3⟩)) | (go_at_call 75; (with_reducible refine (LN.out _ _ _ hN3).mono ?_); rintro en w4 ⟨rfl, rfl⟩) | (go_at_call 120; (with_reducible refine (OF.out _).mono ?_); rintro en w5 ⟨a5, rfl, hN5, hb5⟩) | (go_at_call 107; (with_reducible refine (NU.out _ _ _ _ hN5).mono ?_); rintro en w6 ⟨rfl, hb6⟩))
      go_ret3
      exact ⟨rfl, by (repeat' (first | (with_reducible assumption) | (with_reducible exact Below.refl _ _) | (with_reducible refine below_al ?_ _) | (with_reducible refine below_drewN ?_ _) | (with_reducible refine Below.drew ?_) | (with_reducible refine Below.alloc ?_ ?_ _) | (with_reducible refine Below.setCell ?_ ?_ _) | (refine below_trans ?_ (by assumption)) | go_size))⟩
  · cases ne
    · go_enter Tryz.func45, Tryz.ntmps45
      go_wp2_with (first | (first | (first | (go_at_call 106; (with_reducible refine (KN.out _).mono ?_); rintro en w1 ⟨rfl, rfl⟩) | (go_at_call 118; (with_reducible refine (PZ.out _).mono ?_); rintro en w2 ⟨rfl, hb2⟩)) | (go_at_call 119; (with_reducible refine (MA.out _).mono ?_); rintro en w3 ⟨a3, c3, rfl, hN3, hb3⟩)) | (go_at_call 75; (with_reducible refine (LN.out _ _ _ hN3).mono ?_); rintro en w4 ⟨rfl, rfl⟩) | (go_at_call 120; (with_reducible refine (OF.out _).mono ?_); rintro en w5 ⟨a5, rfl, hN5, hb5⟩) | (go_at_call 107; (with_reducible refine (NU.out _ _ _ _ hN3).mono ?_); rintro en w6 ⟨rfl, hb6⟩))
      go_ret3
      exact ⟨rfl, by (repeat' (first | (with_reducible assumption) | (with_reducible exact Below.refl _ _) | (with_reducible refine below_al ?_ _) | (with_reducible refine below_drewN ?_ _) | (with_reducible refine Below.drew ?_) | (with_reducible refine Below.alloc ?_ ?_ _) | (with_reducible refine Below.setCell ?_ ?_ _) | (refine below_trans ?_ (by assumption)) | go_size))⟩
    · go_enter Tryz.func45, Tryz.ntmps45
      go_wp2_with (first | (first | (first | (go_at_call 106; (with_reducible refine (KN.out _).mono ?_); rintro en w1 ⟨rfl, rfl⟩) | (go_at_call 118; (with_reducible refine (PZ.out _).mono ?_); rintro en w2 ⟨rfl, hb2⟩)) | (go_at_call 119; (with_reducible refine (MA.out _).mono ?_); rintro en w3 ⟨a3, c3, rfl, hN3, hb3⟩)) | (go_at_call 75; (with_reducible refine (LN.out _ _ _ hN3).mono ?_); rintro en w4 ⟨rfl, rfl⟩) | (go_at_call 120; (with_reducible refine (OF.out _).mono ?_); rintro en w5 ⟨a5, rfl, hN5, hb5⟩) | (go_at_call 107; (with_reducible refine (NU.out _ _ _ _ hN3).mono ?_); rintro en w6 ⟨rfl, hb6⟩))
      go_ret3
      exact ⟨rfl, by (repeat' (first | (with_reducible assumption) | (with_reducible exact Below.refl _ _) | (with_reducible refine below_al ?_ _) | (with_reducible refine below_drewN ?_ _) | (with_reducible refine Below.drew ?_) | (with_reducible refine Below.alloc ?_ ?_ _) | (with_reducible refine Below.setCell ?_ ?_ _) | (refine below_trans ?_ (by assumption)) | go_size))⟩
end Go.Proofs.YthaelmnblgollaaGreatDoor

set_option linter.unusedVariables false
set_option linter.unusedSimpArgs false
namespace Go.Ulp
open Go.RowKit
theorem upTo_len (c : UInt8) (L : List UInt8) : (upTo c L).length ≤ L.length := (List.takeWhile_sublist _).length_le
theorem cut_hit (c : UInt8) (L : List UInt8) (h : L.contains c = true) : L = upTo c L ++ c :: from1 c L := by
  have htd : upTo c L ++ L.dropWhile (fun b => b != c) = L := List.takeWhile_append_dropWhile
  cases hd : L.dropWhile (fun b => b != c) with
  | nil =>
    exfalso
    rw [hd, List.append_nil] at htd
    have hm : c ∈ L := by simpa using h
    rw [← htd] at hm
    have := tw_all _ L c hm
    simp at this
  | cons b r =>
    have hb : b = c := by simpa using drop_headH _ _ b r hd
    conv => lhs; rw [← htd]
    unfold from1
    rw [hd, hb]; rfl
theorem cut_miss (c : UInt8) (L : List UInt8) (h : L.contains c = false) : upTo c L = L ∧ from1 c L = [] := by
  have h0 : ∀ b ∈ L, (b != c) = true := fun b hb => by
    have h9 : ¬ c ∈ L := by simpa using h
    simp only [bne_iff_ne, ne_eq]
    intro h8; exact h9 (h8 ▸ hb)
  have t := tw_app (fun b => b != c) L [] h0 (fun b r h => by cases h)
  rw [List.append_nil] at t
  exact ⟨t.1, by unfold from1; rw [t.2]; rfl⟩
end Go.Ulp
namespace Go.Proofs.YthaelmnblgollaaGreatDoor
open Go.RowKit Go.Ulp
set_option linter.unusedVariables false
set_option linter.unusedSimpArgs false
set_option maxHeartbeats 2000000
set_option maxRecDepth 100000
theorem ixOne_any (L : List UInt8) (c : UInt8) (w : World) :
    Calls Tryz.prog 247 #[.string (bsOf L), .string ⟨#[c]⟩] w fun e w' => e = .returned (.int .i64 (if L.contains c = true then ((upTo c L).length : Int) else -1)) ∧ w' = w := by
  refine (Any.stringslite_Index_one { Tryz.lays145 with } (bsOf L) c w).mono ?_
  rintro e w1 ⟨rfl, rfl⟩
  refine ⟨ret_int ?_, rfl⟩
  rw [bs_list, ← Lib.index_one]
  obtain ⟨i1, i2⟩ := index_one c L
  cases h : L.contains c
  · rw [i2 h]; rfl
  · rw [i1 h]; rfl
theorem liteCut_any (L : List UInt8) (c : UInt8) (w : World) (hl : L.length ≤ 1000000) :
    Calls Tryz.prog 195 #[.string (bsOf L), .string ⟨#[c]⟩] w fun e w' => e = .returned (.tuple #[.string (bsOf (upTo c L)), .string (bsOf (from1 c L)), .bool (L.contains c)]) ∧ Below w.heap.size w w' := by
  have IX := hid (fun w => ixOne_any L c w)
  have hsc : (⟨#[c]⟩ : ByteArray).size = 1 := rfl
  cases h : L.contains c
  · obtain ⟨e1, e2⟩ := cut_miss c L h
    rw [h, if_neg (by decide)] at IX
    rw [e1, e2]
    generalize bsOf L = S at *
    clear h e1 e2
    go_enter Tryz.func195, Tryz.ntmps195
    go_wp2_with (go_at_call 247; (with_reducible refine (IX.out _).mono ?_); rintro en w1 ⟨rfl, rfl⟩)
    go_ret3
    exact ⟨rfl, Below.refl _ _⟩
  · have e1 := cut_hit c L h
    rw [h, if_pos rfl] at IX
    obtain ⟨A, hA⟩ : ∃ A, A = upTo c L := ⟨_, rfl⟩
    obtain ⟨B, hB⟩ : ∃ B, B = from1 c L := ⟨_, rfl⟩
    rw [← hA, ← hB] at e1
    rw [← hA] at IX
    rw [← hA, ← hB]
    have hlen : A.length + 1 ≤ L.length := by rw [e1, List.length_append, List.length_cons]; omega
    have S1 := slice_to (P := Tryz.prog) Tryz.underlying9 L (A.length : Int) (by omega) (by omega)
    have S2 := slice_from (P := Tryz.prog) Tryz.underlying9 L ((A.length : Int) + 1) (by omega) (by omega)
    rw [Int.toNat_natCast, show L.take A.length = A by rw [e1]; exact List.take_left] at S1
    rw [show ((A.length : Int) + 1).toNat = A.length + 1 by omega, ← List.drop_drop, show L.drop A.length = c :: B by rw [e1]; exact List.drop_left] at S2
    rw [show (c :: B).drop 1 = B from rfl] at S2
    have wI : IntKind.i64.wrap ((A.length : Int) + 1) = (A.length : Int) + 1 := IntWalk.i64_in _ (by omega)
    generalize bsOf L = S at *
    generalize A.length = n at *
    generalize bsOf A = SA at *
    generalize bsOf B = SB at *
    clear h e1 hA hB
    go_enter Tryz.func195, Tryz.ntmps195
    go_upto_region 3 with (go_at_call 247; (with_reducible refine (IX.out _).mono ?_); rintro en w1 ⟨rfl, rfl⟩)
    go_region
    go_wp2_with fail
    go_ret3
    exact ⟨rfl, (Below.refl _ _).drew⟩
theorem strCut_any (L : List UInt8) (c : UInt8) (w : World) (hl : L.length ≤ 1000000) :
    Calls Tryz.prog 123 #[.string (bsOf L), .string ⟨#[c]⟩] w fun e w' => e = .returned (.tuple #[.string (bsOf (upTo c L)), .string (bsOf (from1 c L)), .bool (L.contains c)]) ∧ Below w.heap.size w w' := by
  have LC := hid (fun w => liteCut_any L c w hl)
  generalize bsOf L = S at *
  generalize bsOf (upTo c L) = SA at *
  generalize bsOf (from1 c L) = SB at *
  generalize L.contains c = b at *
  go_enter Tryz.func123, Tryz.ntmps123
  go_wp2_with (go_at_call 195; (with_reducible refine (LC.out _).mono ?_); rintro en w1 ⟨rfl, hb1⟩)
  go_ret3
  exact ⟨rfl, hb1⟩
theorem trimHxs_any (L : List UInt8) (w : World) (hl : L.length ≤ 1000000) :
    Calls Tryz.prog 124 #[.string (bsOf L), .string ⟨#[48, 49, 50, 51, 52, 53, 54, 55, 56, 57, 97, 98, 99, 100, 101, 102]⟩] w fun e w' => ∃ Q, (Q = [] ↔ AllHx L) ∧ e = .returned (.string (bsOf Q)) ∧ Below w.heap.size w w' := by
  refine (Any.strings_Trim_laid Tryz.lays160 (by kernel_rfl) (bsOf L) ⟨#[48, 49, 50, 51, 52, 53, 54, 55, 56, 57, 97, 98, 99, 100, 101, 102]⟩ w (by rw [bs_size]; omega) (by decide) (ascii_of_all (by decide))).mono ?_
  rintro e w1 ⟨rfl, hb⟩
  refine ⟨Lib.trimS L [48, 49, 50, 51, 52, 53, 54, 55, 56, 57, 97, 98, 99, 100, 101, 102], ?_, by rw [bs_list]; rfl, hb⟩
  rw [trimS_nil]
  unfold AllHx
  simp only [hx_contains]
theorem trimDgs_any (L : List UInt8) (w : World) (hl : L.length ≤ 1000000) :
    Calls Tryz.prog 124 #[.string (bsOf L), .string ⟨#[48, 49, 50, 51, 52, 53, 54, 55, 56, 57]⟩] w fun e w' => ∃ Q, (Q = [] ↔ AllDg L) ∧ e = .returned (.string (bsOf Q)) ∧ Below w.heap.size w w' := by
  refine (Any.strings_Trim_laid Tryz.lays160 (by kernel_rfl) (bsOf L) ⟨#[48, 49, 50, 51, 52, 53, 54, 55, 56, 57]⟩ w (by rw [bs_size]; omega) (by decide) (ascii_of_all (by decide))).mono ?_
  rintro e w1 ⟨rfl, hb⟩
  refine ⟨Lib.trimS L [48, 49, 50, 51, 52, 53, 54, 55, 56, 57], ?_, by rw [bs_list]; rfl, hb⟩
  rw [trimS_nil]
  unfold AllDg
  simp only [dg_contains]
end Go.Proofs.YthaelmnblgollaaGreatDoor

set_option linter.unusedVariables false
set_option linter.unusedSimpArgs false
namespace Go.Ulp
open Go.RowKit
theorem hrT_drop (L : List UInt8) (h : Lib.hasPrefix (rdT L) [48, 120] = true) : (rdT L).drop 2 = hrT L ∧ 2 ≤ (rdT L).length := by
  refine ⟨?_, ?_⟩
  · unfold hrT Lib.trimPrefix
    rw [if_pos h]; rfl
  · match hL : rdT L with
    | [] => rw [hL] at h; cases h
    | [a] => rw [hL] at h; simp [Lib.hasPrefix, List.isPrefixOf] at h
    | a :: b :: r => simp
/-- what the reference takes, the program takes, and finds the same parts -/
theorem hx_same_of_ref {T : List UInt8} (hc : T.contains 112 = true) (hh : AllHx (rfW T ++ rfP T)) (hne : rfW T ++ rfP T ≠ []) (h1 : 1 ≤ (rfX2 T).length) (h5 : (rfX2 T).length ≤ 5) (hd : AllDg (rfX2 T)) :
    hxOk T = true ∧ tkH T = rfW T ∧ hxPA T = rfP T ∧ tkD (hxR4 T) = rfX2 T ∧ hxDn T = rfDn T := by
  obtain ⟨pt, sg, h⟩ := ref_hx hc hh hne h1 h5 hd
  obtain ⟨p1, p2, p3, p4, p5⟩ := hx_prog h
  obtain ⟨-, -, -, -, -, r6⟩ := hx_ref h
  exact ⟨p1, p2, p3, p4, p5.trans r6.symm⟩
theorem hx_same_of_prog {T : List UInt8} (h : hxOk T = true) :
    T.contains 112 = true ∧ AllHx (rfW T ++ rfP T) ∧ rfW T ++ rfP T ≠ [] ∧ 1 ≤ (rfX2 T).length ∧ (rfX2 T).length ≤ 5 ∧ AllDg (rfX2 T) := by
  obtain ⟨sg, hg⟩ := prog_hx h
  obtain ⟨r1, r2, r3, r4, r5, r6⟩ := hx_ref hg
  obtain ⟨hT, hW, hP, hpt, hne, hsg, hd, g1, g5⟩ := hg
  rw [r2, r3, r5]
  refine ⟨r1, fun b hb => ?_, hne, g1, g5, hd⟩
  rcases List.mem_append.1 hb with h | h
  · exact hW b h
  · exact hP b h
end Go.Ulp

set_option linter.unusedVariables false
set_option linter.unusedSimpArgs false
namespace Go.Ulp
open Go.RowKit
/-- the bytes of a text, laid in a block of their own -/
def BL (w : World) (g : Nat) (L : List UInt8) : Prop := ∀ j b r, L.drop j = b :: r → w.cell? ⟨g, j, none⟩ = some (.int .u8 (b.toNat : Int))
theorem BL.below {w w' : World} {g : Nat} {L : List UInt8} (h : BL w g L) (hb : Below w.heap.size w w') : BL w' g L := fun j b r e =>
  (hb.cell (p := ⟨g, j, none⟩) (World.block_lt_of_cell? w _ (h j b r e))).trans (h j b r e)
theorem BL.set {w : World} {g g' o : Nat} {v : Value} {L : List UInt8} (h : BL w g L) (hne : g' ≠ g) : BL (w.setCell ⟨g', o, none⟩ v) g L := fun j b r e => by
  rw [World.cell?_setCell_other (h := fun e => hne (by injection e))]; exact h j b r e
end Go.Ulp
namespace Go.Proofs.YthaelmnblgollaaGreatDoor
open Go.RowKit Go.Ulp
set_option linter.unusedVariables false
set_option linter.unusedSimpArgs false
set_option maxHeartbeats 4000000
set_option maxRecDepth 100000
def RetHr (w : World) (n : Bool) (z k say : Int) (e : Ending) (w' : World) : Prop := ∃ v, e = .returned (.tuple #[.bool n, v, .int .i64 k, .int .i64 say]) ∧ ZD 3 w' z v ∧ Below w.heap.size w w'
/-- a number is handed back through the result's cell: yb (Below), z3 (the cell), n9 (the number's digits) -/
theorem hno_any (w : World) : Calls Tryz.prog 121 #[] w (RetHr w false 0 0 5) := by
  go_enter Tryz.func121, Tryz.ntmps121
  go_upto_region 1 with fail
  have n0 : ∀ w, Nz 3 w none 0 (zl 0) := fun w => Nz.nil' none 0 (by decide)
  refine wp_worldZ (fun WW => Below w.heap.size w WW ∧ ZV 39 3 WW w.heap.size 0) ⟨below_alloc _ _, zv_made (n0 _) _ rfl⟩ ?_
  intro W1 ⟨y1, z3⟩
  obtain ⟨g3, hg3⟩ : ∃ g, g = w.heap.size := ⟨_, rfl⟩
  have b3 : w.heap.size ≤ g3 := by omega
  rw [← hg3] at z3 ⊢
  clear hg3
  have yb := y1
  have n9 := n0 W1
  obtain ⟨a3, c3, zl3, n3⟩ := z3
  have zst := zv_store1 (by decide) yb b3 zl3 (x := 0) n9
  rw [show zneg 0 = false from rfl, show (zl 0).length = 0 from rfl] at zst
  obtain ⟨j0, j1, jf0, jf1, -⟩ := id zl3
  have HS := hid zst
  clear zst n9 zl3 n3
  go_wp2_with fail
  have zst := HS.out
  obtain ⟨a9, c9, zl9, n9⟩ := id zst.2
  obtain ⟨m0, m1, -⟩ := id zl9
  refine bodyPost_ret (by simp [results, Tryz.results121, go_sem, m0, m1]; try rfl) rfl ?_
  exact ⟨_, rfl, ⟨a9, c9, rfl, n9⟩, zst.1⟩
theorem hno_at (w : World) (z : Int) (hz : z = 0) : Calls Tryz.prog 121 #[] w (RetHr w false z 0 5) := by
  subst hz; exact hno_any w
theorem hrd_long (L : List UInt8) (w : World) (hl : 1000 < L.length) (h2 : L.length ≤ 9223372036854775807) :
    Calls Tryz.prog 46 #[.string (bsOf L)] w (RetHr w false 0 0 2) := by
  have hsz := bs_size L
  generalize bsOf L = Q at *
  go_enter Tryz.func46, Tryz.ntmps46
  go_upto_region 1 with fail
  have n0 : ∀ w, Nz 3 w none 0 (zl 0) := fun w => Nz.nil' none 0 (by decide)
  refine wp_worldZ (fun WW => Below w.heap.size w WW ∧ ZV 39 3 WW w.heap.size 0) ⟨below_alloc _ _, zv_made (n0 _) _ rfl⟩ ?_
  intro W1 ⟨y1, z3⟩
  obtain ⟨g3, hg3⟩ : ∃ g, g = w.heap.size := ⟨_, rfl⟩
  have b3 : w.heap.size ≤ g3 := by omega
  rw [← hg3] at z3 ⊢
  clear hg3
  have yb := y1
  have n9 := n0 W1
  obtain ⟨a3, c3, zl3, n3⟩ := z3
  have zst := zv_store1 (by decide) yb b3 zl3 (x := 0) n9
  rw [show zneg 0 = false from rfl, show (zl 0).length = 0 from rfl] at zst
  obtain ⟨j0, j1, jf0, jf1, -⟩ := id zl3
  have HS := hid zst
  clear zst n9 zl3 n3
  go_wp2_with fail
  have zst := HS.out
  obtain ⟨a9, c9, zl9, n9⟩ := id zst.2
  obtain ⟨m0, m1, -⟩ := id zl9
  refine bodyPost_ret (by simp [results, Tryz.results46, go_sem, m0, m1]; try rfl) rfl ?_
  exact ⟨_, rfl, ⟨a9, c9, rfl, n9⟩, zst.1⟩
end Go.Proofs.YthaelmnblgollaaGreatDoor

namespace Go.Proofs
open Go.Shelf
def Tryz.lays101_ren : Go.Shelf.Ren := ⟨fun | 101 => 122 | 208 => 194 | 206 => 189 | n => n, fun | 9 => 9 | 4 => 4 | 3 => 3 | n => n, fun | n => n⟩
theorem Tryz.lays101 : Go.Proofs.Lays.n101 Tryz.prog Tryz.lays101_ren := {
  mixed := by kernel_rfl
  f101 := Tryz.func122.trans (congrArg some (by kernel_rfl))
  f206 := Tryz.func189.trans (congrArg some (by kernel_rfl))
  f208 := Tryz.func194.trans (congrArg some (by kernel_rfl))
  t3 := Tryz.underlying3
  a3 := Tryz.isAgg3
  z3 := Tryz.sizeOf3
  v3 := Tryz.zeroValue3
  t4 := Tryz.underlying4
  a4 := Tryz.isAgg4
  z4 := Tryz.sizeOf4
  v4 := Tryz.zeroValue4
  t9 := Tryz.underlying9
  a9 := Tryz.isAgg9
  z9 := Tryz.sizeOf9
  v9 := Tryz.zeroValue9 }
open Go.RowKit Go.Lib in
/-- strings.TrimPrefix: "TrimPrefix returns s without the provided leading prefix string. If s doesn't start with prefix, s is returned unchanged.": IT RETURNS 'Lib.trimPrefix s prefix'; the world is as it was. (LAID: no walk: one application.) -/
theorem Tryz.strings_TrimPrefix (s p : ByteArray) (w : World) :
    Calls Tryz.prog 122 #[.string s, .string p] w fun e w' => e = .returned (.string ⟨(Lib.trimPrefix s.data.toList p.data.toList).toArray⟩) ∧ w' = w := Any.strings_TrimPrefix Tryz.lays101 s p w
end Go.Proofs
