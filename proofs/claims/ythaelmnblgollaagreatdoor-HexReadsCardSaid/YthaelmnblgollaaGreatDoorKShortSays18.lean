/- ShortSays: what the proof leans on, part 18 (Tx8 ShelfT Re3 Re9 Tx4). -/
import Derived.Shelf.Strings.Builder1
import Derived.Shelf.Strings.Builder2
import Derived.Shelf.Strings.OnBuilder
import Derived.Shelf.Strings.Trim
import Derived.Shelf.Small.Utf8
import Derived.Shelf.Small.Bits
import Derived.Shelf.Small.Strs
import Derived.Shelf.Small.Wraps
import Derived.Shelf.Strings.BuilderF
import Derived.Shelf.Strconv.Atoi
import Derived.Shelf.Strconv.Itoa0
import Derived.Shelf.Strconv.Itoa1
import Derived.Shelf.LaysM
import Derived.Shelf.Strconv.Itoa2
import Derived.Shelf.Strconv.Itoa3
import Derived.Shelf.Strings.Search1
import Derived.Shelf.Strings.Search2
import Derived.Shelf.Strings.Search3
import Derived.Shelf.Strings.Cut
import Derived.Shelf.Strings.Shaped
import Derived.Shelf.Strings.Prefix
import Derived.Shelf.Strings.Runes
import Derived.Shelf.Strings.AsciiSet
import Derived.Shelf.Bits.Mul64
import Derived.Shelf.Strings.Repeat
import Derived.Shelf.Unicode.DecodeSlow
import Derived.Ground.Names2Prog
import Derived.Shelf.Slices.ReverseS
import Derived.Shelf.Slices.SearchI
import Derived.Shelf.Strings.SlTrimAscii
import Derived.Lib.ParseIntB
import Derived.Lib.AtoiErrMem
import Derived.Test.YthaelmnblgollaaGreatDoorKShortSays8
import Derived.Test.YthaelmnblgollaaGreatDoorKShortSays10
import Derived.Test.YthaelmnblgollaaGreatDoorKShortSays11
import Derived.Test.YthaelmnblgollaaGreatDoorKShortSays15
import Derived.Test.YthaelmnblgollaaGreatDoorKShortSays16
import Derived.Test.YthaelmnblgollaaGreatDoorKShortSays17
set_option linter.unusedVariables false
set_option linter.unusedSimpArgs false
namespace Go.Ulp
open Go.RowKit
theorem bs_take (E : List UInt8) (k : Nat) : (bsOf E).extract 0 k = bsOf (E.take k) := by
  apply ByteArray.ext
  simp [bsOf]
theorem bs_drop (E : List UInt8) (k : Nat) : (bsOf E).extract k (bsOf E).size = bsOf (E.drop k) := by
  apply ByteArray.ext
  have h9 : List.take (E.length - k) (List.drop k E) = List.drop k E := List.take_of_length_le (by rw [List.length_drop]; omega)
  simp [bsOf, ByteArray.size]
  try exact h9
theorem slice_to {P : Program} {t : TypeId} (ht : P.underlying t = some .string) (E : List UInt8) (j : Int) (h0 : 0 ≤ j) (h : j ≤ E.length) (w : World) : (Instr.slice t (.string (bsOf E)) none (some (.int .i64 j)) none).run P w = .ok (.string (bsOf (E.take j.toNat))) w := by
  rw [run_slice_string_to_if w t _ _ _ ht, if_pos ⟨h0, by rw [bs_size]; exact h⟩, bs_take]
theorem slice_from {P : Program} {t : TypeId} (ht : P.underlying t = some .string) (E : List UInt8) (j : Int) (h0 : 0 ≤ j) (h : j ≤ E.length) (w : World) : (Instr.slice t (.string (bsOf E)) (some (.int .i64 j)) none none).run P w = .ok (.string (bsOf (E.drop j.toNat))) w := by
  rw [run_slice_string_from_if w t _ _ _ ht, if_pos ⟨h0, by rw [bs_size]; exact h⟩, bs_drop]
theorem padz_end (D : List UInt8) (j k : Nat) (h1 : j = 0 ∨ j + D.length ≤ k) (h2 : ¬ j + D.length < k) : List.replicate j 48 ++ D = padz k D := by
  unfold padz
  congr 2
  omega
end Go.Ulp
namespace Go.Proofs.YthaelmnblgollaaGreatDoor
open Go.RowKit Go.Ulp
set_option linter.unusedVariables false
set_option linter.unusedSimpArgs false
set_option maxHeartbeats 1000000
set_option maxRecDepth 100000
theorem pointed_any (v : Value) (m p : Nat) (w : World) (hv : ZD 3 w (m : Int) v) (hl : (zl (m : Int)).length ≤ 1000000) (hp : p ≤ 10000000) :
    Calls Tryz.prog 144 #[v, .int .i64 (p : Int)] w fun e w' => e = .returned (.string (bsOf (ptd (decD m) p))) ∧ Below w.heap.size w w' := by
  obtain ⟨a, c, rfl, hN⟩ := hv
  have ZT := hid (show ∀ w, Nz 3 w a c (zl (m : Int)) → Calls Tryz.prog 149 #[.agg #[.bool (zneg (m : Int)), .slice a (zl (m : Int)).length c]] w fun e w' => e = .returned (.string (bsOf (decD m))) ∧ Below w.heap.size w w' from fun w h => by
    have h9 := zText_any (m : Int) a c w h hl
    unfold zTx at h9
    rwa [if_neg (by omega), Int.natAbs_natCast] at h9)
  obtain ⟨D, hD⟩ : ∃ D, D = decD m := ⟨_, rfl⟩
  rw [← hD] at ZT ⊢
  have hDl : D.length ≤ 4 * 1000000 + 1 := by
    have h9 := zl_len_bits
    rcases Nat.eq_zero_or_pos m with h0 | h0
    · rw [hD, h0, decD_small (by omega)]; simp
    · have h1 := txt_end m h0
      have h2 := txt_len (decs m) (decs_lim m) (decs m).length (Nat.le_refl _)
      rw [h1] at h2
      have h3 : (zl (m : Int)).length = (decs m).length := by rw [zl_nat]
      rw [hD]; omega
  have hDp : 0 < D.length := by rw [hD]; exact decD_pos m
  obtain ⟨l, hlD⟩ : ∃ l, l = D.length := ⟨_, rfl⟩
  obtain ⟨E, hE⟩ : ∃ E, E = padz (p + 1) D := ⟨_, rfl⟩
  have hEl : E.length = max (p + 1) l := by rw [hE, padz_len, hlD]
  obtain ⟨e, he⟩ : ∃ e, e = E.length := ⟨_, rfl⟩
  have hez : (bsOf E).size = e := by rw [bs_size, he]
  obtain ⟨k, hk⟩ : ∃ k : Nat, k = e - p := ⟨_, rfl⟩
  have hke : (e : Int) - (p : Int) = (k : Int) := by omega
  have hwk : IntKind.i64.wrap (k : Int) = (k : Int) := IntWalk.i64_in _ (by omega)
  have hS1 := slice_to (P := Tryz.prog) Tryz.underlying9 E (k : Int) (by omega) (by omega)
  have hS2 := slice_from (P := Tryz.prog) Tryz.underlying9 E (k : Int) (by omega) (by omega)
  rw [Int.toNat_natCast] at hS1 hS2
  have hA1 := add_bs (P := Tryz.prog) (E.take k) [46] (by simp; omega)
  have hA2 := add_bs (P := Tryz.prog) (E.take k ++ [46]) (E.drop k) (by simp; omega)
  have HR := hid (show ptd D p = if p = 0 then E else E.take k ++ 46 :: E.drop k by
    by_cases h0 : p = 0
    · rw [if_pos h0, h0, ptd_zero, hE, h0, padz_long _ _ (by omega)]
    · rw [if_neg h0, ptd_pos D p (by omega), ← hE, ← he, ← hk])
  have hb46 : (ByteArray.mk #[46]) = bsOf [46] := rfl
  have HN := hid hN
  have HE := hid hE
  have HLD := hid hlD
  have zA : ZL 39 (w.alloc (.cells #[.bool (zneg (m : Int)), .slice a (zl (m : Int)).length c] 39)) w.heap.size (zneg (m : Int)) (.slice a (zl (m : Int)).length c) := ZL.made rfl
  have yb := below_alloc w (.cells #[.bool (zneg (m : Int)), .slice a (zl (m : Int)).length c] 39)
  have HN' := hid (HN.out.below yb)
  obtain ⟨j0, j1, -⟩ := zA
  clear hN hl hD hE hEl he hk
  go_enter Tryz.func144, Tryz.ntmps144
  go_upto_region 2 with (go_at_call 149; (with_reducible refine (ZT.out _ HN'.out).mono ?_); rintro en w1 ⟨rfl, hb1⟩)
  have y1 := below_trans yb hb1
  clear j0 j1 yb hb1 HN HN' ZT
  go_loopw [5] (fun s5 wr => ∃ j : Nat, s5 = .string (bsOf (List.replicate j 48 ++ D)) ∧ (j = 0 ∨ j + l ≤ p + 1) ∧ wr = w1) (fun s5 _ => p + 1 - strSz s5)
  case atStart => exact ⟨0, rfl, .inl rfl, rfl⟩
  case round =>
    obtain ⟨j, rfl, hj, rfl⟩ := hrel
    obtain ⟨X, hX⟩ : ∃ X, X = List.replicate j 48 ++ D := ⟨_, rfl⟩
    have hXl : X.length = j + l := by rw [hX, List.length_append, List.length_replicate, ← HLD.out]
    obtain ⟨x, hx⟩ : ∃ x, x = X.length := ⟨_, rfl⟩
    have hsz : (bsOf X).size = x := by rw [bs_size, hx]
    have hx8 : x ≤ 100000000 := by rcases hj with hj | hj <;> omega
    have hAN := add_nil (P := Tryz.prog) X (by omega)
    rw [← hX]
    by_cases hp : x ≤ p
    · have HX := hid hX
      have HXL := hid (show x = j + l by omega)
      have HXX := hid hx
      clear hX hXl hx hj hS1 hS2 hA1 hA2
      go_wp2_with fail
      go_roundw
      case rel => exact ⟨j + 1, by rw [HX.out]; rfl, .inr (by have := HXL.out; omega), by first | rfl | trivial⟩
      case measure => rw [strSz_bs, strSz_bs, List.length_cons, ← HXX.out]; omega
    · have hXE : X = E := by
        rw [HE.out, hX]
        exact padz_end D j (p + 1) (by rw [← HLD.out]; exact hj) (by rw [← HLD.out]; omega)
      have hxe : x = e := by rw [hXE, bs_size] at hsz; rw [bs_size] at hez; omega
      clear hX hXl hx hj hAN hsz
      subst hXE hxe
      by_cases hp0 : p = 0
      · have HRR := hid (show ptd D p = X by rw [HR.out, if_pos hp0])
        have hpz : ((p : Int) == 0) = true := by rw [hp0]; rfl
        clear HR hS1 hS2 hA1 hA2
        go_wp2_with fail
        go_ret
        exact ⟨by rw [HRR.out]; rfl, y1⟩
      · have HRR := hid (show ptd D p = X.take k ++ 46 :: X.drop k by rw [HR.out, if_neg hp0])
        have hpz : ((p : Int) == 0) = false := beq_eq_false_iff_ne.2 (by omega)
        clear HR hp0
        go_upto_region 6 with fail
        refine wp_region_grow 15 [17, 18, 19, 20, 21, 22, 23, 24, 25, 26, 27, 28, 29, 30, 4] [Fact.is (.string (bsOf X)), Fact.is (.string (bsOf X)), Fact.is (.int .i64 (x : Int)), Fact.is (.int .i64 (p : Int)), Fact.is (.int .i64 (k : Int)), Fact.is (.string (bsOf (X.take k))), Fact.is (.string (bsOf (X.take k ++ [46]))), Fact.is (.string (bsOf X)), Fact.is (.string (bsOf X)), Fact.is (.int .i64 (x : Int)), Fact.is (.int .i64 (p : Int)), Fact.is (.int .i64 (k : Int)), Fact.is (.string (bsOf (X.drop k))), Fact.is (.string (bsOf (X.take k ++ 46 :: X.drop k))), Fact.is (.string (bsOf (X.take k ++ 46 :: X.drop k)))] (by kernel_rfl) (by kernel_rfl) ⟨?o0, ?o1, ?o2, ?o3, ?o4, ?o5, ?o6, ?o7, ?o8, ?o9, ?o10, ?o11, ?o12, ?o13, ?o14, trivial⟩ ?after
        case o0 => (refine StepOK.plain rfl ?_; intro ρ w1 R hρ hb hp hR; have e5 : ρ (.tmp 5) = .string (bsOf X) := hρ.tmp 5 rfl; have hcon := hρ.con; have hfn := hρ.fn; clear hρ hp; unfold OpRun; go_simp; exact hR _ _ (Below.refl _ _) rfl)
        case o1 => (refine StepOK.plain rfl ?_; intro ρ w1 R hρ hb hp hR; have e5 : ρ (.tmp 5) = .string (bsOf X) := hρ.tmp 5 rfl; have hcon := hρ.con; have hfn := hρ.fn; clear hρ hp; unfold OpRun; go_simp; exact hR _ _ (Below.refl _ _) rfl)
        case o2 => (refine StepOK.plain rfl ?_; intro ρ w1 R hρ hb hp hR; have e18 : ρ (.tmp 18) = _ := hp 1 18 rfl rfl; have hcon := hρ.con; have hfn := hρ.fn; clear hρ hp; unfold OpRun; go_simp; exact hR _ _ (Below.refl _ _) rfl)
        case o3 => (refine StepOK.plain rfl ?_; intro ρ w1 R hρ hb hp hR; have e1 : ρ (.tmp 1) = .int .i64 (p : Int) := hρ.tmp 1 rfl; have hcon := hρ.con; have hfn := hρ.fn; clear hρ hp; unfold OpRun; go_simp; exact hR _ _ (Below.refl _ _) rfl)
        case o4 => (refine StepOK.plain rfl ?_; intro ρ w1 R hρ hb hp hR; have e19 : ρ (.tmp 19) = _ := hp 2 19 rfl rfl; have e20 : ρ (.tmp 20) = _ := hp 3 20 rfl rfl; have hcon := hρ.con; have hfn := hρ.fn; clear hρ hp; unfold OpRun; go_simp; exact hR _ _ (Below.refl _ _) rfl)
        case o5 => (refine StepOK.plain rfl ?_; intro ρ w1 R hρ hb hp hR; have e17 : ρ (.tmp 17) = _ := hp 0 17 rfl rfl; have e21 : ρ (.tmp 21) = _ := hp 4 21 rfl rfl; have hcon := hρ.con; have hfn := hρ.fn; clear hρ hp; unfold OpRun; go_simp; exact hR _ _ (Below.refl _ _) rfl)
        case o6 => (refine StepOK.plain rfl ?_; intro ρ w1 R hρ hb hp hR; have e22 : ρ (.tmp 22) = _ := hp 5 22 rfl rfl; have hcon := hρ.con; have hfn := hρ.fn; clear hρ hp; unfold OpRun; go_simp; exact hR _ _ (Below.refl _ _) rfl)
        case o7 => (refine StepOK.plain rfl ?_; intro ρ w1 R hρ hb hp hR; have e5 : ρ (.tmp 5) = .string (bsOf X) := hρ.tmp 5 rfl; have hcon := hρ.con; have hfn := hρ.fn; clear hρ hp; unfold OpRun; go_simp; exact hR _ _ (Below.refl _ _) rfl)
        case o8 => (refine StepOK.plain rfl ?_; intro ρ w1 R hρ hb hp hR; have e5 : ρ (.tmp 5) = .string (bsOf X) := hρ.tmp 5 rfl; have hcon := hρ.con; have hfn := hρ.fn; clear hρ hp; unfold OpRun; go_simp; exact hR _ _ (Below.refl _ _) rfl)
        case o9 => (refine StepOK.plain rfl ?_; intro ρ w1 R hρ hb hp hR; have e25 : ρ (.tmp 25) = _ := hp 8 25 rfl rfl; have hcon := hρ.con; have hfn := hρ.fn; clear hρ hp; unfold OpRun; go_simp; exact hR _ _ (Below.refl _ _) rfl)
        case o10 => (refine StepOK.plain rfl ?_; intro ρ w1 R hρ hb hp hR; have e1 : ρ (.tmp 1) = .int .i64 (p : Int) := hρ.tmp 1 rfl; have hcon := hρ.con; have hfn := hρ.fn; clear hρ hp; unfold OpRun; go_simp; exact hR _ _ (Below.refl _ _) rfl)
        case o11 => (refine StepOK.plain rfl ?_; intro ρ w1 R hρ hb hp hR; have e26 : ρ (.tmp 26) = _ := hp 9 26 rfl rfl; have e27 : ρ (.tmp 27) = _ := hp 10 27 rfl rfl; have hcon := hρ.con; have hfn := hρ.fn; clear hρ hp; unfold OpRun; go_simp; exact hR _ _ (Below.refl _ _) rfl)
        case o12 => (refine StepOK.plain rfl ?_; intro ρ w1 R hρ hb hp hR; have e24 : ρ (.tmp 24) = _ := hp 7 24 rfl rfl; have e28 : ρ (.tmp 28) = _ := hp 11 28 rfl rfl; have hcon := hρ.con; have hfn := hρ.fn; clear hρ hp; unfold OpRun; go_simp; exact hR _ _ (Below.refl _ _) rfl)
        case o13 => (refine StepOK.plain rfl ?_; intro ρ w1 R hρ hb hp hR; have e23 : ρ (.tmp 23) = _ := hp 6 23 rfl rfl; have e29 : ρ (.tmp 29) = _ := hp 12 29 rfl rfl; have hcon := hρ.con; have hfn := hρ.fn; clear hρ hp; unfold OpRun; go_simp; exact hR _ _ (Below.refl _ _) rfl)
        case o14 => (refine StepOK.plain rfl ?_; intro ρ w1 R hρ hb hp hR; have e30 : ρ (.tmp 30) = _ := hp 13 30 rfl rfl; have hcon := hρ.con; have hfn := hρ.fn; clear hρ hp; unfold OpRun; go_simp; exact hR _ _ (Below.refl _ _) rfl)
        case after =>
          intro u wn hb hf
          have e4 : u 4 = _ := hf 14 4 (by omega) rfl
          clear hf
          simp only [putAll, Act.put, List.setIfInBounds_toArray, List.set_cons_zero, List.set_cons_succ, List.drop_succ_cons, List.drop_zero, List.drop_nil]
          rw [e4]
          go_wp2_with fail
          go_ret
          exact ⟨by rw [HRR.out]; rfl, below_trans y1 hb⟩
theorem minusN_any (x : Int) (h0 : 0 ≤ x) (h1 : x < 18446744073709551616) (w : World) :
    Calls Tryz.prog 96 #[.int .u64 x] w fun e w' => e = .returned (.bool (negB x)) ∧ w = w' := by
  go_enter Tryz.func96, Tryz.ntmps96
  go_wp2_with fail
  go_ret
  exact ⟨ret_bool rfl, rfl⟩
theorem dashed_any (D : List UInt8) (x : Int) (h0 : 0 ≤ x) (h1 : x < 18446744073709551616) (hD : D.length ≤ 1000000000) (w : World) :
    Calls Tryz.prog 142 #[.string (bsOf D), .int .u64 x] w fun e w' => e = .returned (.string (bsOf (dsh (negB x) D))) ∧ w = w' := by
  have MI := hid (fun w => minusN_any x h0 h1 w)
  have hA := add_dash (P := Tryz.prog) D (by omega)
  generalize negB x = b at *
  go_enter Tryz.func142, Tryz.ntmps142
  cases b
  · clear hA
    go_wp2_with (go_at_call 96; (with_reducible refine (MI.out _).mono ?_); rintro en w1 ⟨rfl, rfl⟩)
    go_ret
    exact ⟨rfl, rfl⟩
  · go_wp2_with (go_at_call 96; (with_reducible refine (MI.out _).mono ?_); rintro en w1 ⟨rfl, rfl⟩)
    go_ret
    exact ⟨rfl, rfl⟩
end Go.Proofs.YthaelmnblgollaaGreatDoor

namespace Go.Proofs
open Go.Shelf
def Tryz.lays161_ren : Go.Shelf.Ren := ⟨fun | 161 => 105 | 231 => 182 | 227 => 183 | 233 => 184 | 235 => 185 | 228 => 242 | 197 => 243 | 151 => 156 | 260 => 278 | 152 => 222 | 137 => 152 | 119 => 262 | 224 => 263 | 225 => 264 | 217 => 216 | 266 => 256 | n => n, fun | 9 => 9 | 4 => 4 | 3 => 3 | 5 => 5 | 117 => 209 | 116 => 208 | 0 => 0 | 124 => 212 | 105 => 258 | 21 => 21 | 119 => 296 | 46 => 168 | 139 => 299 | 138 => 298 | n => n, fun | 3 => 4 | 4 => 5 | n => n⟩
theorem Tryz.lays161 : Go.Proofs.Lays.n161 Tryz.prog Tryz.lays161_ren := {
  mixed := by kernel_rfl
  f119 := Tryz.func262.trans (congrArg some (by kernel_rfl))
  f137 := Tryz.func152.trans (congrArg some (by kernel_rfl))
  f151 := Tryz.func156.trans (congrArg some (by kernel_rfl))
  f152 := Tryz.func222.trans (congrArg some (by kernel_rfl))
  f161 := Tryz.func105.trans (congrArg some (by kernel_rfl))
  f197 := Tryz.func243.trans (congrArg some (by kernel_rfl))
  f217 := Tryz.func216.trans (congrArg some (by kernel_rfl))
  f224 := Tryz.func263.trans (congrArg some (by kernel_rfl))
  f225 := Tryz.func264.trans (congrArg some (by kernel_rfl))
  f227 := Tryz.func183.trans (congrArg some (by kernel_rfl))
  f228 := Tryz.func242.trans (congrArg some (by kernel_rfl))
  f231 := Tryz.func182.trans (congrArg some (by kernel_rfl))
  f233 := Tryz.func184.trans (congrArg some (by kernel_rfl))
  f235 := Tryz.func185.trans (congrArg some (by kernel_rfl))
  f260 := Tryz.func278.trans (congrArg some (by kernel_rfl))
  f266 := Tryz.func256.trans (congrArg some (by kernel_rfl))
  t0 := Tryz.underlying0
  a0 := Tryz.isAgg0
  z0 := Tryz.sizeOf0
  v0 := Tryz.zeroValue0
  t3 := Tryz.underlying3
  a3 := Tryz.isAgg3
  z3 := Tryz.sizeOf3
  v3 := Tryz.zeroValue3
  t4 := Tryz.underlying4
  a4 := Tryz.isAgg4
  z4 := Tryz.sizeOf4
  v4 := Tryz.zeroValue4
  t5 := Tryz.underlying5
  a5 := Tryz.isAgg5
  z5 := Tryz.sizeOf5
  v5 := Tryz.zeroValue5
  t9 := Tryz.underlying9
  a9 := Tryz.isAgg9
  z9 := Tryz.sizeOf9
  v9 := Tryz.zeroValue9
  t21 := Tryz.underlying21
  a21 := Tryz.isAgg21
  z21 := Tryz.sizeOf21
  v21 := Tryz.zeroValue21
  t46 := Tryz.underlying168
  a46 := Tryz.isAgg168
  z46 := Tryz.sizeOf168
  v46 := Tryz.zeroValue168
  t105 := Tryz.underlying258
  a105 := Tryz.isAgg258
  z105 := Tryz.sizeOf258
  v105 := Tryz.zeroValue258
  t116 := Tryz.underlying208
  a116 := Tryz.isAgg208
  z116 := Tryz.sizeOf208
  t117 := Tryz.underlying209
  a117 := Tryz.isAgg209
  z117 := Tryz.sizeOf209
  v117 := Tryz.zeroValue209
  t119 := Tryz.underlying296
  a119 := Tryz.isAgg296
  z119 := Tryz.sizeOf296
  t124 := Tryz.underlying212
  a124 := Tryz.isAgg212
  z124 := Tryz.sizeOf212
  v124 := Tryz.zeroValue212
  t138 := Tryz.underlying298
  a138 := Tryz.isAgg298
  z138 := Tryz.sizeOf298
  v138 := Tryz.zeroValue298
  t139 := Tryz.underlying299
  a139 := Tryz.isAgg299
  z139 := Tryz.sizeOf299
  v139 := Tryz.zeroValue299
  g3 := by kernel_rfl
  g4 := by kernel_rfl }
open Go.RowKit in
/-- strings.TrimLeft: "TrimLeft returns a slice of the string s with all leading Unicode code points contained in cutset removed.": AT A cutset OF ONE ASCII BYTE. The world is as it was. (LAID: no walk: one application.) -/
theorem Tryz.strings_TrimLeft_one (s : ByteArray) (c : UInt8) (hc : c.toNat < 128) (w : World) :
    Calls Tryz.prog 105 #[.string s, .string ⟨#[c]⟩] w fun e w' => e = .returned (.string ⟨(Lib.trimLeftB s.data.toList c).toArray⟩) ∧ w' = w := Any.strings_TrimLeft_one Tryz.lays161 s c hc w
def Tryz.lays103_ren : Go.Shelf.Ren := ⟨fun | 103 => 102 | 210 => 180 | 206 => 189 | n => n, fun | 9 => 9 | 4 => 4 | 24 => 131 | 3 => 3 | n => n, fun | n => n⟩
theorem Tryz.lays103 : Go.Proofs.Lays.n103 Tryz.prog Tryz.lays103_ren := {
  mixed := by kernel_rfl
  f103 := Tryz.func102.trans (congrArg some (by kernel_rfl))
  f206 := Tryz.func189.trans (congrArg some (by kernel_rfl))
  f210 := Tryz.func180.trans (congrArg some (by kernel_rfl))
  t3 := Tryz.underlying3
  a3 := Tryz.isAgg3
  z3 := Tryz.sizeOf3
  v3 := Tryz.zeroValue3
  t4 := Tryz.underlying4
  a4 := Tryz.isAgg4
  z4 := Tryz.sizeOf4
  v4 := Tryz.zeroValue4
  t9 := Tryz.underlying9
  a9 := Tryz.isAgg9
  z9 := Tryz.sizeOf9
  v9 := Tryz.zeroValue9
  t24 := Tryz.underlying131
  a24 := Tryz.isAgg131
  z24 := Tryz.sizeOf131
  v24 := Tryz.zeroValue131 }
open Go.RowKit in
/-- strings.CutPrefix: "CutPrefix returns s without the provided leading prefix string and reports whether it found the prefix. If s doesn't start with prefix, CutPrefix returns s, false. If prefix is the empty string, CutPrefix returns s, true.": IT RETURNS '(Lib.trimPrefix s p, Lib.hasPrefix s p)'; the world is as it was. (LAID: no walk: one application.) -/
theorem Tryz.strings_CutPrefix (s p : ByteArray) (w : World) :
    Calls Tryz.prog 102 #[.string s, .string p] w fun e w' => e = .returned (.tuple #[.string ⟨(Lib.trimPrefix s.data.toList p.data.toList).toArray⟩, .bool (Lib.hasPrefix s.data.toList p.data.toList)]) ∧ w' = w := Any.strings_CutPrefix Tryz.lays103 s p w
def Tryz.lays172_ren : Go.Shelf.Ren := ⟨fun | 172 => 181 | 244 => 240 | 245 => 241 | 247 => 273 | 279 => 274 | 280 => 275 | 281 => 276 | 282 => 277 | 287 => 245 | 316 => 289 | 171 => 206 | 205 => 290 | 321 => 279 | 322 => 280 | 243 => 251 | 246 => 285 | 283 => 292 | 284 => 293 | 285 => 294 | 286 => 295 | 129 => 297 | 317 => 296 | 318 => 298 | 319 => 299 | 320 => 300 | 337 => 199 | 338 => 301 | n => n, fun | 9 => 9 | 3 => 3 | 75 => 203 | 76 => 204 | 4 => 4 | 5 => 5 | 167 => 280 | 37 => 141 | 0 => 0 | 85 => 281 | 2 => 2 | 168 => 283 | 53 => 23 | 175 => 218 | 46 => 168 | 210 => 294 | 127 => 268 | 145 => 307 | 143 => 305 | 21 => 21 | 171 => 301 | 173 => 303 | 212 => 309 | 51 => 166 | 20 => 20 | 213 => 310 | 232 => 261 | 233 => 312 | 80 => 241 | n => n, fun | 15 => 2 | 16 => 3 | 17 => 6 | 18 => 0 | 19 => 7 | n => n⟩
theorem Tryz.lays172 : Go.Proofs.Lays.n172 Tryz.prog Tryz.lays172_ren := {
  mixed := by kernel_rfl
  f129 := Tryz.func297.trans (congrArg some (by kernel_rfl))
  f171 := Tryz.func206.trans (congrArg some (by kernel_rfl))
  f172 := Tryz.func181.trans (congrArg some (by kernel_rfl))
  f205 := Tryz.func290.trans (congrArg some (by kernel_rfl))
  f243 := Tryz.func251.trans (congrArg some (by kernel_rfl))
  f244 := Tryz.func240.trans (congrArg some (by kernel_rfl))
  f245 := Tryz.func241.trans (congrArg some (by kernel_rfl))
  f246 := Tryz.func285.trans (congrArg some (by kernel_rfl))
  f247 := Tryz.func273.trans (congrArg some (by kernel_rfl))
  f279 := Tryz.func274.trans (congrArg some (by kernel_rfl))
  f280 := Tryz.func275.trans (congrArg some (by kernel_rfl))
  f281 := Tryz.func276.trans (congrArg some (by kernel_rfl))
  f282 := Tryz.func277.trans (congrArg some (by kernel_rfl))
  f283 := Tryz.func292.trans (congrArg some (by kernel_rfl))
  f284 := Tryz.func293.trans (congrArg some (by kernel_rfl))
  f285 := Tryz.func294.trans (congrArg some (by kernel_rfl))
  f286 := Tryz.func295.trans (congrArg some (by kernel_rfl))
  f287 := Tryz.func245.trans (congrArg some (by kernel_rfl))
  f316 := Tryz.func289.trans (congrArg some (by kernel_rfl))
  f317 := Tryz.func296.trans (congrArg some (by kernel_rfl))
  f318 := Tryz.func298.trans (congrArg some (by kernel_rfl))
  f319 := Tryz.func299.trans (congrArg some (by kernel_rfl))
  f320 := Tryz.func300.trans (congrArg some (by kernel_rfl))
  f321 := Tryz.func279.trans (congrArg some (by kernel_rfl))
  f322 := Tryz.func280.trans (congrArg some (by kernel_rfl))
  f337 := Tryz.func199.trans (congrArg some (by kernel_rfl))
  f338 := Tryz.func301.trans (congrArg some (by kernel_rfl))
  t0 := Tryz.underlying0
  a0 := Tryz.isAgg0
  z0 := Tryz.sizeOf0
  v0 := Tryz.zeroValue0
  t2 := Tryz.underlying2
  a2 := Tryz.isAgg2
  z2 := Tryz.sizeOf2
  v2 := Tryz.zeroValue2
  t3 := Tryz.underlying3
  a3 := Tryz.isAgg3
  z3 := Tryz.sizeOf3
  v3 := Tryz.zeroValue3
  t4 := Tryz.underlying4
  a4 := Tryz.isAgg4
  z4 := Tryz.sizeOf4
  v4 := Tryz.zeroValue4
  t5 := Tryz.underlying5
  a5 := Tryz.isAgg5
  z5 := Tryz.sizeOf5
  v5 := Tryz.zeroValue5
  t9 := Tryz.underlying9
  a9 := Tryz.isAgg9
  z9 := Tryz.sizeOf9
  v9 := Tryz.zeroValue9
  t20 := Tryz.underlying20
  a20 := Tryz.isAgg20
  z20 := Tryz.sizeOf20
  v20 := Tryz.zeroValue20
  t21 := Tryz.underlying21
  a21 := Tryz.isAgg21
  z21 := Tryz.sizeOf21
  v21 := Tryz.zeroValue21
  t37 := Tryz.underlying141
  a37 := Tryz.isAgg141
  z37 := Tryz.sizeOf141
  v37 := Tryz.zeroValue141
  t46 := Tryz.underlying168
  a46 := Tryz.isAgg168
  z46 := Tryz.sizeOf168
  v46 := Tryz.zeroValue168
  t51 := Tryz.underlying166
  a51 := Tryz.isAgg166
  z51 := Tryz.sizeOf166
  v51 := Tryz.zeroValue166
  t53 := Tryz.underlying23
  a53 := Tryz.isAgg23
  z53 := Tryz.sizeOf23
  v53 := Tryz.zeroValue23
  t75 := Tryz.underlying203
  a75 := Tryz.isAgg203
  z75 := Tryz.sizeOf203
  v75 := Tryz.zeroValue203
  t76 := Tryz.underlying204
  a76 := Tryz.isAgg204
  z76 := Tryz.sizeOf204
  v76 := Tryz.zeroValue204
  t85 := Tryz.underlying281
  a85 := Tryz.isAgg281
  z85 := Tryz.sizeOf281
  v85 := Tryz.zeroValue281
  t127 := Tryz.underlying268
  a127 := Tryz.isAgg268
  z127 := Tryz.sizeOf268
  v127 := Tryz.zeroValue268
  t143 := Tryz.underlying305
  a143 := Tryz.isAgg305
  z143 := Tryz.sizeOf305
  v143 := Tryz.zeroValue305
  t145 := Tryz.underlying307
  a145 := Tryz.isAgg307
  z145 := Tryz.sizeOf307
  v145 := Tryz.zeroValue307
  t167 := Tryz.underlying280
  a167 := Tryz.isAgg280
  z167 := Tryz.sizeOf280
  v167 := Tryz.zeroValue280
  t168 := Tryz.underlying283
  a168 := Tryz.isAgg283
  z168 := Tryz.sizeOf283
  v168 := Tryz.zeroValue283
  t171 := Tryz.underlying301
  a171 := Tryz.isAgg301
  z171 := Tryz.sizeOf301
  v171 := Tryz.zeroValue301
  t173 := Tryz.underlying303
  a173 := Tryz.isAgg303
  z173 := Tryz.sizeOf303
  v173 := Tryz.zeroValue303
  t175 := Tryz.underlying218
  a175 := Tryz.isAgg218
  z175 := Tryz.sizeOf218
  v175 := Tryz.zeroValue218
  t210 := Tryz.underlying294
  a210 := Tryz.isAgg294
  z210 := Tryz.sizeOf294
  v210 := Tryz.zeroValue294
  t212 := Tryz.underlying309
  a212 := Tryz.isAgg309
  z212 := Tryz.sizeOf309
  v212 := Tryz.zeroValue309
  t213 := Tryz.underlying310
  a213 := Tryz.isAgg310
  z213 := Tryz.sizeOf310
  t232 := Tryz.underlying261
  a232 := Tryz.isAgg261
  z232 := Tryz.sizeOf261
  v232 := Tryz.zeroValue261
  t233 := Tryz.underlying312
  a233 := Tryz.isAgg312
  z233 := Tryz.sizeOf312
  v233 := Tryz.zeroValue312
  g15 := by kernel_rfl
  g16 := by kernel_rfl
  g17 := by kernel_rfl
  g18 := by kernel_rfl
  g19 := by kernel_rfl }
open Go.RowKit in
/-- strconv.Atoi: "Atoi is equivalent to ParseInt(s, 10, 0), converted to type int.": AT A DECIMAL NUMERAL OF AT MOST 18 BYTES: its value, and a nil error. The world behind the call: the one new row that the library's '[]byte(s)' lays. (LAID: no walk: one application.) -/
theorem Tryz.strconv_Atoi (s : ByteArray) (n : Int) (hl : s.size ≤ 18) (h : Lib.atoi s.data.toList = some n) (w : World) :
    Calls Tryz.prog 181 #[.string s] w fun e w' => e = .returned (.tuple #[.int .i64 n, .nilIface]) ∧ ∃ t, w' = Lib.bytesWorld w 5 t := Any.strconv_Atoi Tryz.lays172 s n hl h w
end Go.Proofs

set_option linter.unusedVariables false
set_option linter.unusedSimpArgs false
namespace Go.Ulp
open Go.RowKit
/-- a letter that is a digit -/
def isDg (b : UInt8) : Bool := decide (48 ≤ b.toNat ∧ b.toNat ≤ 57)
theorem dg_contains (b : UInt8) : [48, 49, 50, 51, 52, 53, 54, 55, 56, 57].contains b = isDg b := by
  have : ∀ n : Fin 256, [48, 49, 50, 51, 52, 53, 54, 55, 56, 57].contains (UInt8.ofNat n.1) = isDg (UInt8.ofNat n.1) := by decide +kernel
  have h := this ⟨b.toNat, b.toNat_lt⟩
  simpa using h
/-- the digits ahead, and what is behind them -/
def tkD (L : List UInt8) : List UInt8 := L.takeWhile isDg
def dpD (L : List UInt8) : List UInt8 := L.dropWhile isDg
theorem tk_dp (L : List UInt8) : tkD L ++ dpD L = L := List.takeWhile_append_dropWhile
theorem dp_len (L : List UInt8) : (dpD L).length + (tkD L).length = L.length := by
  have := congrArg List.length (tk_dp L); rw [List.length_append] at this; omega
theorem take_tk (L : List UInt8) : L.take (tkD L).length = tkD L := by
  have h := List.take_left (l₁ := tkD L) (l₂ := dpD L)
  rw [tk_dp] at h; exact h
end Go.Ulp
namespace Go.Proofs.YthaelmnblgollaaGreatDoor
open Go.RowKit Go.Ulp
set_option linter.unusedVariables false
set_option linter.unusedSimpArgs false
set_option maxHeartbeats 2000000
set_option maxRecDepth 100000
theorem trimDg_any (L : List UInt8) (w : World) :
    Calls Tryz.prog 105 #[.string (bsOf L), .string ⟨#[48, 49, 50, 51, 52, 53, 54, 55, 56, 57]⟩] w fun e w' => e = .returned (.string (bsOf (dpD L))) ∧ Below w.heap.size w w' := by
  refine (Any.strings_TrimLeft_laid Tryz.lays161 (by kernel_rfl) (bsOf L) ⟨#[48, 49, 50, 51, 52, 53, 54, 55, 56, 57]⟩ w (by decide) (ascii_of_all (by decide))).mono ?_
  rintro e w1 ⟨rfl, hb⟩
  refine ⟨?_, hb⟩
  rw [bs_list]
  have : Lib.trimLeftS L [48, 49, 50, 51, 52, 53, 54, 55, 56, 57] = dpD L := by
    unfold Lib.trimLeftS dpD
    congr 1
    funext b; exact dg_contains b
  exact ret_bs this
theorem trimZ_any (L : List UInt8) (w : World) :
    Calls Tryz.prog 105 #[.string (bsOf L), .string ⟨#[48]⟩] w fun e w' => e = .returned (.string (bsOf (L.dropWhile fun b => b == 48))) ∧ w = w' := by
  refine (Tryz.strings_TrimLeft_one (bsOf L) 48 (by decide) w).mono ?_
  rintro e w1 ⟨h1, rfl⟩
  refine ⟨?_, rfl⟩
  rw [bs_list] at h1
  rw [h1]
  exact ret_bs (by first | rfl | (unfold Lib.trimLeftB; rfl))
end Go.Proofs.YthaelmnblgollaaGreatDoor
set_option linter.unusedVariables false
set_option linter.unusedSimpArgs false
namespace Go.Ulp
open Go.RowKit
/-- the number that digits spell, behind a number -/
def dvA (acc : Nat) (L : List UInt8) : Nat := L.foldl (fun a b => a * 10 + (b.toNat - 48)) acc
def dvl (L : List UInt8) : Nat := dvA 0 L
def AllDg (L : List UInt8) : Prop := ∀ b ∈ L, isDg b = true
theorem dvA_cons (acc : Nat) (b : UInt8) (r : List UInt8) : dvA acc (b :: r) = dvA (acc * 10 + (b.toNat - 48)) r := by unfold dvA; rw [List.foldl_cons]
theorem dvA_app (acc : Nat) (A B : List UInt8) : dvA acc (A ++ B) = dvA (dvA acc A) B := by unfold dvA; rw [List.foldl_append]
theorem dvl_cons (b : UInt8) (r : List UInt8) : dvl (b :: r) = dvA (b.toNat - 48) r := by unfold dvl; rw [dvA_cons, Nat.zero_mul, Nat.zero_add]
theorem dvA_acc (L : List UInt8) : ∀ (acc : Nat), dvA acc L = acc * 10 ^ L.length + dvl L := by
  induction L with
  | nil => intro acc; rw [List.length_nil, Nat.pow_zero, Nat.mul_one]; rfl
  | cons b r ih =>
    intro acc
    rw [dvA_cons, ih, dvl_cons, ih, List.length_cons, Nat.pow_succ, Nat.add_mul, Nat.mul_assoc, Nat.mul_comm 10, Nat.add_assoc]
theorem dg_bd {b : UInt8} (h : isDg b = true) : 48 ≤ b.toNat ∧ b.toNat ≤ 57 := of_decide_eq_true h
theorem AllDg.tail {b : UInt8} {r : List UInt8} (h : AllDg (b :: r)) : AllDg r := fun x hx => h x (List.mem_cons_of_mem _ hx)
theorem dvl_lt : ∀ (L : List UInt8), AllDg L → dvl L < 10 ^ L.length
  | [], _ => by show 0 < 1; omega
  | b :: r, h => by
    have h1 := dvl_lt r h.tail
    have h2 := dg_bd (h b (List.mem_cons_self ..))
    rw [dvl_cons, dvA_acc, List.length_cons, Nat.pow_succ]
    have h3 : (b.toNat - 48) * 10 ^ r.length ≤ 9 * 10 ^ r.length := Nat.mul_le_mul_right _ (by omega)
    omega
theorem dvl_ge (b : UInt8) (r : List UInt8) (h : AllDg (b :: r)) (h0 : b ≠ 48) : 10 ^ r.length ≤ dvl (b :: r) := by
  have h2 := dg_bd (h b (List.mem_cons_self ..))
  have h4 : b.toNat ≠ 48 := fun h9 => h0 (UInt8.toNat_inj.1 (by rw [h9]; rfl))
  rw [dvl_cons, dvA_acc]
  have h3 : 1 * 10 ^ r.length ≤ (b.toNat - 48) * 10 ^ r.length := Nat.mul_le_mul_right _ (by omega)
  omega
theorem decFrom_dv : ∀ (L : List UInt8) (acc : Nat), AllDg L → Lib.decFrom acc L = some (dvA acc L)
  | [], acc, _ => rfl
  | b :: r, acc, h => by
    have h2 := dg_bd (h b (List.mem_cons_self ..))
    show (match Lib.digitVal b with | some d => Lib.decFrom (acc * 10 + d) r | none => none) = _
    rw [show Lib.digitVal b = some (b.toNat - 48) by unfold Lib.digitVal; rw [if_pos h2]]
    exact decFrom_dv r _ h.tail
theorem atoi_dv (L : List UInt8) (h : AllDg L) (h0 : L ≠ []) : Lib.atoi L = some ((dvl L : Nat) : Int) := by
  cases L with
  | nil => exact absurd rfl h0
  | cons b r =>
    have h2 := dg_bd (h b (List.mem_cons_self ..))
    have e1 : (b == 45) = false := beq_eq_false_iff_ne.2 (fun h9 => by rw [h9] at h2; exact absurd h2 (by decide))
    have e2 : (b == 43) = false := beq_eq_false_iff_ne.2 (fun h9 => by rw [h9] at h2; exact absurd h2 (by decide))
    unfold Lib.atoi
    simp only [e1, e2, Bool.false_eq_true, if_false]
    unfold Lib.decNat
    rw [if_neg (by simp), decFrom_dv _ _ h]
    rfl
theorem parseM_dv : ∀ (L : List UInt8) (acc : Nat), AllDg L → (acc + 1) * 10 ^ L.length ≤ 1000000000000000000 → Lib.parseUintM (2 ^ 64 - 1) acc L = .ok (dvA acc L)
  | [], acc, _, _ => rfl
  | b :: r, acc, h, hb => by
    have h2 := dg_bd (h b (List.mem_cons_self ..))
    rw [List.length_cons, Nat.pow_succ] at hb
    have hp : 0 < 10 ^ r.length := Nat.pow_pos (by omega)
    have hb2 : (acc * 10 + (b.toNat - 48) + 1) * 10 ^ r.length ≤ 1000000000000000000 := by
      refine Nat.le_trans ?_ hb
      rw [Nat.mul_comm (10 ^ r.length) 10, ← Nat.mul_assoc]
      exact Nat.mul_le_mul_right _ (by omega)
    have hb3 : acc * 10 + (b.toNat - 48) + 1 ≤ 1000000000000000000 := Nat.le_trans (Nat.le_mul_of_pos_right _ hp) hb2
    rw [Lib.parseUintM, if_pos h2, if_neg (by omega), if_neg (by omega)]
    exact parseM_dv r _ h.tail hb2
theorem parse_dv (L : List UInt8) (h : AllDg L) (h0 : L ≠ []) (hl : L.length ≤ 18) : Lib.parseUintB 64 L = .ok (dvl L) := by
  unfold Lib.parseUintB
  rw [if_neg h0]
  refine parseM_dv L 0 h ?_
  have : 10 ^ L.length ≤ 10 ^ 18 := Nat.pow_le_pow_right (by omega) hl
  omega
theorem all_tk (L : List UInt8) : AllDg (tkD L) := fun b hb => by
  unfold tkD at hb
  exact (List.all_eq_true.1 (List.all_takeWhile (p := isDg) (l := L))) b hb
theorem hp_len {r : List UInt8} {c : UInt8} (h : Lib.hasPrefix r [c] = true) : 1 ≤ r.length := by
  cases r with
  | nil => exact absurd h (by simp [Lib.hasPrefix, List.isPrefixOf])
  | cons a t => rw [List.length_cons]; omega
end Go.Ulp
namespace Go.Proofs.YthaelmnblgollaaGreatDoor
open Go.RowKit Go.Ulp
set_option linter.unusedVariables false
set_option linter.unusedSimpArgs false
set_option maxHeartbeats 2000000
set_option maxRecDepth 100000
end Go.Proofs.YthaelmnblgollaaGreatDoor

set_option linter.unusedVariables false
set_option linter.unusedSimpArgs false
namespace Go.Ulp
open Go.RowKit
/-- the text behind a minus -/
def rdT (L : List UInt8) : List UInt8 := Lib.trimPrefix L [45]
theorem trimPrefix_len (L p : List UInt8) : (Lib.trimPrefix L p).length ≤ L.length := by unfold Lib.trimPrefix; split <;> simp
theorem trimPrefix_one (R : List UInt8) (c : UInt8) : Lib.trimPrefix R [c] = if Lib.hasPrefix R [c] = true then R.drop 1 else R := rfl
theorem ret4 {fn : Func} {t u v x : Tmp} (h : fn.results = #[.tmp t, .tmp u, .tmp v, .tmp x]) (tmps : Array Value) (P : Program) (w : World) :
    (results fn tmps).run P w = .ok (.tuple #[tmps.getD t undef, tmps.getD u undef, tmps.getD v undef, tmps.getD x undef]) w := by
  simp [results, h]
end Go.Ulp
namespace Go.Proofs.YthaelmnblgollaaGreatDoor
open Go.RowKit Go.Ulp
set_option linter.unusedVariables false
set_option linter.unusedSimpArgs false
set_option maxHeartbeats 4000000
set_option maxRecDepth 100000
end Go.Proofs.YthaelmnblgollaaGreatDoor
set_option linter.unusedVariables false
set_option linter.unusedSimpArgs false
namespace Go.Ulp
open Go.RowKit
theorem drop_cons {L : List UInt8} {j : Nat} {b : UInt8} {r : List UInt8} (h : L.drop j = b :: r) : j < L.length ∧ L.drop (j + 1) = r ∧ L.getD j 0 = b := by
  have h1 : j < L.length := by
    rcases Nat.lt_or_ge j L.length with h9 | h9
    · exact h9
    · rw [List.drop_eq_nil_of_le h9] at h; cases h
  have h2 : L.drop (j + 1) = (L.drop j).drop 1 := by rw [List.drop_drop]
  refine ⟨h1, by rw [h2, h]; rfl, ?_⟩
  rw [List.drop_eq_getElem_cons h1] at h
  injection h with h3 _
  rw [List.getD_eq_getElem?_getD, List.getElem?_eq_getElem h1]; exact h3
theorem run_index {P : Program} {t : TypeId} (ht : P.underlying t = some .string) (L : List UInt8) (j : Nat) (b : UInt8) (r : List UInt8) (h : L.drop j = b :: r) (w : World) : (Instr.index t (.string (bsOf L)) (.int .i64 (j : Int))).run P w = .ok (.int .u8 (b.toNat : Int)) w := by
  obtain ⟨h1, -, h3⟩ := drop_cons h
  rw [run_index_string _ _ _ _ _ ht, dif_pos ⟨by omega, by rw [bs_size]; omega⟩]
  have key : ∀ (n : Nat) (hn : n < (bsOf L).size), n = j → (bsOf L)[n] = b := by
    rintro n hn rfl
    show L.toArray[n]'(by rw [bs_size] at hn; simpa using hn) = b
    rw [List.getElem_toArray]
    rw [List.getD_eq_getElem?_getD, List.getElem?_eq_getElem h1] at h3
    exact h3
  rw [key _ _ (by omega)]
end Go.Ulp
namespace Go.Proofs.YthaelmnblgollaaGreatDoor
open Go.RowKit Go.Ulp
set_option linter.unusedVariables false
set_option linter.unusedSimpArgs false
set_option maxHeartbeats 2000000
set_option maxRecDepth 100000
end Go.Proofs.YthaelmnblgollaaGreatDoor

set_option linter.unusedVariables false
set_option linter.unusedSimpArgs false
namespace Go.Ulp
open Go.RowKit
theorem limbs_short2 (A n : Nat) (hn : A ≤ 32 * n) (M : Nat) (h : M < 2 ^ A) : (limbs M).length ≤ n :=
  (limbs_le_bits M n).2 (Nat.lt_of_lt_of_le h (Nat.pow_le_pow_right (by omega) hn))
theorem limbs_ten (s : Nat) (h : s ≤ 24002) : (limbs (10 ^ s)).length ≤ 3002 := by
  refine limbs_short2 (4 * s + 1) 3002 (by omega) _ ?_
  rw [Nat.pow_succ, Nat.pow_mul]
  have h1 : (10 : Nat) ^ s ≤ (2 ^ 4) ^ s := Nat.pow_le_pow_left (by decide) s
  have h2 : 0 < (10 : Nat) ^ s := Nat.pow_pos (by omega)
  omega
/-- a ratio in memory -/
def RtAt (w : World) (g : Nat) (neg : Bool) (a b : Nat) : Prop := ∃ an cn bn dn, w.cell? ⟨g, 0, none⟩ = some (.bool neg) ∧ w.cell? ⟨g, 3, none⟩ = some (.slice an (limbs a).length cn) ∧ w.cell? ⟨g, 4, none⟩ = some (.slice bn (limbs b).length dn) ∧ Ns .u32 w an cn (limbs a) ∧ Ns .u32 w bn dn (limbs b)
theorem RtAt.below {w w' : World} {g : Nat} {neg : Bool} {a b : Nat} (h : RtAt w g neg a b) (hb : Below w.heap.size w w') : RtAt w' g neg a b := by
  obtain ⟨an, cn, bn, dn, h1, h2, h3, h4, h5⟩ := h
  exact ⟨an, cn, bn, dn, (hb.cell (World.block_lt_of_cell? _ _ h1)).trans h1, (hb.cell (World.block_lt_of_cell? _ _ h2)).trans h2, (hb.cell (World.block_lt_of_cell? _ _ h3)).trans h3, h4.below hb, h5.below hb⟩
def Fact.nn2 (q r : Nat) : Fact := ⟨fun v w => ∃ a c b d, v = .tuple #[.slice a (limbs q).length c, .slice b (limbs r).length d] ∧ Ns .u32 w a c (limbs q) ∧ Ns .u32 w b d (limbs r), fun _ _ _ h hb => by
  obtain ⟨a, c, b, d, h1, h2, h3⟩ := h; exact ⟨a, c, b, d, h1, h2.below hb, h3.below hb⟩⟩
def RetNB (w : World) (n : Nat) (c : Bool) (e : Ending) (w' : World) : Prop :=
  ∃ ao cap, e = .returned (.tuple #[.slice ao (limbs n).length cap, .bool c]) ∧ Ns .u32 w' ao cap (limbs n) ∧ Below w.heap.size w w'
end Go.Ulp
namespace Go.Proofs.YthaelmnblgollaaGreatDoor
open Go.RowKit Go.Ulp
set_option linter.unusedVariables false
set_option linter.unusedSimpArgs false
set_option maxHeartbeats 1000000
set_option maxRecDepth 100000
theorem pow10_any (n : Nat) (hn : n ≤ 12000) (w : World) : Calls Tryz.prog 188 #[.int .u64 10, .int .i64 (n : Int)] w (RetNc w (10 ^ n)) := by
  have O1 := hid (show ∀ w, Calls Tryz.prog 120 #[.int .u64 1] w fun e w' => RetN w 1 e w' from fun w => natOf_any 1 (by omega) w)
  have O10 := hid (show ∀ w, Calls Tryz.prog 120 #[.int .u64 10] w fun e w' => RetN w 10 e w' from fun w => natOf_any 10 (by omega) w)
  go_enter Tryz.func188, Tryz.ntmps188
  go_wp2_with (go_at_call 120; (first
    | ((with_reducible refine (O1.out _).mono ?_); rintro en w1 ⟨a1, rfl, hN1, hb1⟩)
    | ((with_reducible refine (O10.out _).mono ?_); rintro en w2 ⟨a2, rfl, hN2, hb2⟩)))
  go_loopw [1, 5, 6] (fun s1 s5 s6 wr => ∃ (k s t : Nat) (b5 : Option Addr) (c5 : Nat) (b6 : Option Addr) (c6 : Nat), s1 = .int .i64 (k : Int) ∧ s5 = .slice b5 (limbs (10 ^ s)).length c5 ∧ s6 = .slice b6 (limbs (10 ^ t)).length c6 ∧ Ns .u32 wr b5 c5 (limbs (10 ^ s)) ∧ Ns .u32 wr b6 c6 (limbs (10 ^ t)) ∧ s + t * k = n ∧ t ≤ 2 * n + 1 ∧ k ≤ n ∧ Below w.heap.size w wr) (fun s1 _ _ _ => (intOf s1).toNat)
  case atStart => exact ⟨n, 0, 1, a1, _, a2, _, rfl, rfl, rfl, hN1.below hb2, hN2, by omega, by omega, by omega, below_trans hb1 hb2⟩
  case round =>
    obtain ⟨k, s, t, b5, c5, b6, c6, rfl, rfl, rfl, h5, h6, hst, ht, hkn, hb⟩ := hrel
    by_cases hk : 0 < k
    · have htn : t ≤ n := by have := Nat.le_mul_of_pos_right t hk; omega
      have ls := limbs_ten s (by omega)
      have lt := limbs_ten t (by omega)
      have TI := hid (show ∀ w, Ns .u32 w b5 c5 (limbs (10 ^ s)) → Ns .u32 w b6 c6 (limbs (10 ^ t)) → Calls Tryz.prog 187 #[.slice b5 (limbs (10 ^ s)).length c5, .slice b6 (limbs (10 ^ t)).length c6] w fun e w' => RetN w (10 ^ (s + t)) e w' from fun w h0 h1 => by
        rw [Nat.pow_add]
        exact times_any b5 b6 c5 c6 (10 ^ s) (10 ^ t) w h0 h1 (by omega) (by omega))
      have TX := hid (show ∀ w, Ns .u32 w b6 c6 (limbs (10 ^ t)) → Calls Tryz.prog 187 #[.slice b6 (limbs (10 ^ t)).length c6, .slice b6 (limbs (10 ^ t)).length c6] w fun e w' => RetN w (10 ^ (t + t)) e w' from fun w h0 => by
        rw [Nat.pow_add]
        exact times_any b6 b6 c6 c6 (10 ^ t) (10 ^ t) w h0 h0 (by omega) (by omega))
      have H5 := hid h5
      have H6 := hid h6
      have HS := hid (show (t + t) * (k / 2) = t * (2 * (k / 2)) by rw [← Nat.two_mul, Nat.mul_comm 2 t, Nat.mul_assoc])
      have HO := hid (show k % 2 = 1 → s + t + (t + t) * (k / 2) = n from fun h => by
        have h3 : t * k = t * (2 * (k / 2)) + t := by
          have h4 : t * k = t * (2 * (k / 2) + 1) := congrArg (t * ·) (by omega)
          rw [h4]; exact Nat.mul_succ _ _
        have := HS.out
        omega)
      have HE := hid (show ¬ k % 2 = 1 → s + (t + t) * (k / 2) = n from fun h => by
        have h4 : t * k = t * (2 * (k / 2)) := congrArg (t * ·) (by omega)
        have := HS.out
        omega)
      clear ls lt h5 h6 hst
      by_cases ho : k % 2 = 1
      · have ho2 : (k : Int) % 2 = 1 := by omega
        go_wp2_with (go_at_call 187; (first
          | ((with_reducible refine (TI.out _ H5.out H6.out).mono ?_); rintro en w3 ⟨a3, rfl, hN3, hb3⟩)
          | ((with_reducible refine (TX.out _ (H6.out.below hb3)).mono ?_); rintro en w4 ⟨a4, rfl, hN4, hb4⟩)))
        go_roundw
        case rel => exact ⟨k / 2, s + t, t + t, a3, _, a4, _, by go_num, rfl, rfl, hN3.below hb4, hN4, HO.out ho, by omega, by omega, below_trans (below_trans hb hb3) hb4⟩
        case measure => simp [intOf]; omega
      · have ho2 : (k : Int) % 2 = 0 := by omega
        clear TI
        go_wp2_with (go_at_call 187; (with_reducible refine (TX.out _ H6.out).mono ?_); rintro en w4 ⟨a4, rfl, hN4, hb4⟩)
        go_roundw
        case rel => exact ⟨k / 2, s, t + t, b5, _, a4, _, by go_num, rfl, rfl, H5.out.below hb4, hN4, HE.out ho, by omega, by omega, below_trans hb hb4⟩
        case measure => simp [intOf]; omega
    · have hk0 : k = 0 := by omega
      subst hk0
      have e : s = n := by omega
      subst e
      have H5 := hid h5
      clear h5 h6 hst
      go_wp2_with fail
      go_ret
      exact ⟨b5, c5, rfl, H5.out, hb⟩
theorem ratioRound_any (g : Nat) (neg : Bool) (a b : Nat) (mode : Int) (w : World) (h : RtAt w g neg a b) (ha : (limbs a).length ≤ 1000000) (hb : 0 < b) (hb2 : (limbs b).length ≤ 1000000) :
    Calls Tryz.prog 204 #[.pointer (some ⟨g, 0, none⟩), .int .i64 mode] w (RetNB w (rtN neg a b mode) (rtC a b)) := by
  obtain ⟨an, cn, bn, dn, k0, k3, k4, hN0, hN1⟩ := h
  obtain ⟨q, hq⟩ : ∃ q, q = a / b := ⟨_, rfl⟩
  obtain ⟨r, hr⟩ : ∃ r, r = a % b := ⟨_, rfl⟩
  have OV := hid (fun w h0 h1 => over_any an bn cn dn a b w h0 h1 ha hb)
  have hql : (limbs q).length ≤ (limbs a).length := limbs_len_mono (by rw [hq]; exact Nat.div_le_self _ _)
  have hrl : (limbs r).length ≤ (limbs b).length := limbs_len_mono (by rw [hr]; exact Nat.le_of_lt (Nat.mod_lt _ hb))
  obtain ⟨half, hhalf⟩ : ∃ x, x = cmpI ((2 * r : Nat) : Int) (b : Int) := ⟨_, rfl⟩
  obtain ⟨up, hup⟩ : ∃ x, x = upN neg (decide (q % 2 = 1)) half mode := ⟨_, rfl⟩
  have HN : rtN neg a b mode = if r ≠ 0 ∧ up = true then q + 1 else q := by unfold rtN; rw [← hq, ← hr, ← hhalf, ← hup]
  have HC : rtC a b = decide (r ≠ 0) := by unfold rtC; rw [← hr]
  rw [HN, HC]
  rw [← hq, ← hr] at OV
  obtain ⟨NN, hNN⟩ : ∃ N, N = if r ≠ 0 ∧ up = true then q + 1 else q := ⟨_, rfl⟩
  obtain ⟨CC, hCC⟩ : ∃ C, C = decide (r ≠ 0) := ⟨_, rfl⟩
  rw [← hNN, ← hCC]
  have HNN := hid hNN
  have HCC := hid hCC
  clear hNN hCC
  have LE := hid (show ∀ a c w, Ns .u32 w a c (limbs r) → Calls Tryz.prog 192 #[.slice a (limbs r).length c, .int .i64 1] w fun e w' => RetN w (2 * r) e w' from fun a c w k => by
    have h9 := leftN_any a c r 1 w k (by omega) (by omega)
    rw [Nat.pow_one, Nat.mul_comm] at h9
    exact h9)
  have CM := hid (show ∀ x c w, Ns .u32 w x c (limbs (2 * r)) → Ns .u32 w bn dn (limbs b) → Calls Tryz.prog 203 #[.slice x (limbs (2 * r)).length c, .slice bn (limbs b).length dn] w fun e w' => e = .returned (.int .i64 half) ∧ Below w.heap.size w w' from fun x c w k0 k1 => by
    have h9 := compare_any x bn c dn (2 * r) b w k0 k1
    rw [← hhalf] at h9
    exact h9.mono fun e w' ⟨h1, nq, h2⟩ => ⟨h1, by rw [h2]; exact below_drewN (Below.refl _ _) nq⟩)
  have PL := hid (show ∀ a b c d w, Ns .u32 w a c (limbs q) → Ns .u32 w b d (limbs 1) → Calls Tryz.prog 135 #[.slice a (limbs q).length c, .slice b (limbs 1).length d] w fun e w' => RetN w (q + 1) e w' from fun a b c d w k0 k1 => plus_any a b c d q 1 w k0 k1 (by omega) (by
    have : (limbs 1).length ≤ 1 := (digs_len_le 4294967296 (by omega) 1 1).2 (by omega)
    omega))
  have OF := hid (show ∀ w, Calls Tryz.prog 120 #[.int .u64 1] w fun e w' => RetN w 1 e w' from fun w => natOf_any 1 (by omega) w)
  have UP := hid (fun od w (h : od = decide (q % 2 = 1)) => show Calls Tryz.prog 244 #[.bool neg, .bool od, .int .i64 half, .int .i64 mode] w fun e w' => e = .returned (.bool up) ∧ w = w' from by subst h; rw [hup]; exact up_any _ _ _ _ w)
  have N0 := hid hN0
  have N1 := hid hN1
  have hcn := hN0.1
  have hcn2 := hN0.2.1
  have hdn := hN1.1
  have hdn2 := hN1.2.1
  unfold maxLen at hcn2 hdn2
  clear hN0 hN1 HN HC hup hhalf hq hr ha hb hb2 hql hrl
  go_enter Tryz.func204, Tryz.ntmps204
  go_wp2_with fail
  refine wp_region_grow 14 [10, 11, 12, 13, 14, 15, 16, 17, 18, 9, 19, 20, 6, 7] [Fact.is (.pointer (some ⟨g, 0, none⟩)), Fact.is (.pointer (some ⟨g, 0, none⟩)), Fact.is (.pointer (some ⟨g, 3, none⟩)), Fact.is (.slice an (limbs a).length cn), Fact.is (.pointer (some ⟨g, 0, none⟩)), Fact.is (.pointer (some ⟨g, 0, none⟩)), Fact.is (.pointer (some ⟨g, 4, none⟩)), Fact.is (.slice bn (limbs b).length dn), Fact.nn2 q r, Fact.nn2 q r, Fact.li q, Fact.li r, Fact.li q, Fact.li r] (by kernel_rfl) (by kernel_rfl) ⟨?o0, ?o1, ?o2, ?o3, ?o4, ?o5, ?o6, ?o7, ?o8, ?o9, ?o10, ?o11, ?o12, ?o13, trivial⟩ ?after
  case o0 => (refine StepOK.plain rfl ?_; intro ρ w1 R hρ hb hp hR; have e0 : ρ (.tmp 0) = .pointer (some ⟨g, 0, none⟩) := hρ.tmp 0 rfl; have hcon := hρ.con; have hfn := hρ.fn; clear hρ hp; unfold OpRun; go_simp; exact hR _ _ (Below.refl _ _) rfl)
  case o1 => (refine StepOK.plain rfl ?_; intro ρ w1 R hρ hb hp hR; have e10 : ρ (.tmp 10) = _ := hp 0 10 rfl rfl; have hcon := hρ.con; have hfn := hρ.fn; clear hρ hp; unfold OpRun; go_simp; exact hR _ _ (Below.refl _ _) rfl)
  case o2 => (refine StepOK.plain rfl ?_; intro ρ w1 R hρ hb hp hR; have e11 : ρ (.tmp 11) = _ := hp 1 11 rfl rfl; have hcon := hρ.con; have hfn := hρ.fn; clear hρ hp; unfold OpRun; go_simp; exact hR _ _ (Below.refl _ _) rfl)
  case o3 => (refine StepOK.plain rfl ?_; intro ρ w1 R hρ hb hp hR; have e12 : ρ (.tmp 12) = _ := hp 2 12 rfl rfl; have j3 := (hb.cell (World.block_lt_of_cell? _ _ k3)).trans k3; have hcon := hρ.con; have hfn := hρ.fn; clear hρ hp; unfold OpRun; go_simp; exact hR _ _ (Below.refl _ _) rfl)
  case o4 => (refine StepOK.plain rfl ?_; intro ρ w1 R hρ hb hp hR; have e0 : ρ (.tmp 0) = .pointer (some ⟨g, 0, none⟩) := hρ.tmp 0 rfl; have hcon := hρ.con; have hfn := hρ.fn; clear hρ hp; unfold OpRun; go_simp; exact hR _ _ (Below.refl _ _) rfl)
  case o5 => (refine StepOK.plain rfl ?_; intro ρ w1 R hρ hb hp hR; have e14 : ρ (.tmp 14) = _ := hp 4 14 rfl rfl; have hcon := hρ.con; have hfn := hρ.fn; clear hρ hp; unfold OpRun; go_simp; exact hR _ _ (Below.refl _ _) rfl)
  case o6 => (refine StepOK.plain rfl ?_; intro ρ w1 R hρ hb hp hR; have e15 : ρ (.tmp 15) = _ := hp 5 15 rfl rfl; have hcon := hρ.con; have hfn := hρ.fn; clear hρ hp; unfold OpRun; go_simp; exact hR _ _ (Below.refl _ _) rfl)
  case o7 => (refine StepOK.plain rfl ?_; intro ρ w1 R hρ hb hp hR; have e16 : ρ (.tmp 16) = _ := hp 6 16 rfl rfl; have j4 := (hb.cell (World.block_lt_of_cell? _ _ k4)).trans k4; have hcon := hρ.con; have hfn := hρ.fn; clear hρ hp; unfold OpRun; go_simp; exact hR _ _ (Below.refl _ _) rfl)
  case o8 => (refine StepOK.plain rfl ?_; intro ρ w1 R hρ hb hp hR; have e13 : ρ (.tmp 13) = _ := hp 3 13 rfl rfl; have e17 : ρ (.tmp 17) = _ := hp 7 17 rfl rfl; have hcon := hρ.con; have hfn := hρ.fn; clear hρ hp; unfold OpRun; go_simp; (refine (OV.out _ (N0.out.below hb) (N1.out.below hb)).mono ?_; rintro e wn ⟨aq, cq, ar, cr, rfl, hq9, hr9, hbn⟩; exact ⟨_, rfl, hR _ _ hbn ⟨aq, cq, ar, cr, rfl, hq9, hr9⟩⟩))
  case o9 => (refine StepOK.plain rfl ?_; intro ρ w1 R hρ hb hp hR; have f18 := hp 8 18 rfl rfl; have hcon := hρ.con; have hfn := hρ.fn; clear hρ hp; unfold OpRun; go_simp; exact hR _ _ (Below.refl _ _) f18)
  case o10 => (refine StepOK.plain rfl ?_; intro ρ w1 R hρ hb hp hR; have f9 := hp 9 9 rfl rfl; have hcon := hρ.con; have hfn := hρ.fn; clear hρ hp; unfold OpRun; go_simp; (obtain ⟨aq, cq, ar, cr, e9, hq9, hr9⟩ := f9; rw [e9]; exact hR _ _ (Below.refl _ _) ⟨_, _, rfl, hq9⟩))
  case o11 => (refine StepOK.plain rfl ?_; intro ρ w1 R hρ hb hp hR; have f9 := hp 9 9 rfl rfl; have hcon := hρ.con; have hfn := hρ.fn; clear hρ hp; unfold OpRun; go_simp; (obtain ⟨aq, cq, ar, cr, e9, hq9, hr9⟩ := f9; rw [e9]; exact hR _ _ (Below.refl _ _) ⟨_, _, rfl, hr9⟩))
  case o12 => (refine StepOK.plain rfl ?_; intro ρ w1 R hρ hb hp hR; have f19 := hp 10 19 rfl rfl; have hcon := hρ.con; have hfn := hρ.fn; clear hρ hp; unfold OpRun; go_simp; exact hR _ _ (Below.refl _ _) f19)
  case o13 => (refine StepOK.plain rfl ?_; intro ρ w1 R hρ hb hp hR; have f20 := hp 11 20 rfl rfl; have hcon := hρ.con; have hfn := hρ.fn; clear hρ hp; unfold OpRun; go_simp; exact hR _ _ (Below.refl _ _) f20)
  case after =>
    intro u wn hb hf
    have f6 := hf 12 6 (by omega) rfl
    have f7 := hf 13 7 (by omega) rfl
    clear hf
    simp only [putAll, Act.put, List.setIfInBounds_toArray, List.set_cons_zero, List.set_cons_succ, List.drop_succ_cons, List.drop_zero, List.drop_nil]
    obtain ⟨aq, cq, e6, hNq⟩ := f6
    obtain ⟨ar, cr, e7, hNr⟩ := f7
    rw [e6, e7]
    clear e6 e7
    have hcq := hNq.1
    have hcq2 := hNq.2.1
    have hcr := hNr.1
    have hcr2 := hNr.2.1
    unfold maxLen at hcq2 hcr2
    have NQ := hid hNq
    have NR := hid hNr
    have yb1 := hb
    clear hb
    obtain ⟨w1, hw1⟩ : ∃ W, W = wn := ⟨_, rfl⟩
    subst hw1
    have K0 := hid ((yb1.cell (World.block_lt_of_cell? _ _ k0)).trans k0)
    have K4 := hid ((yb1.cell (World.block_lt_of_cell? _ _ k4)).trans k4)
    have N1' := hid (N1.out.below yb1)
    clear N0 N1 k0 k3 k4 OV
    by_cases hr0 : r = 0
    · have hl0 : (limbs r).length = 0 := by rw [hr0]; rfl
      have HC : CC = false := HCC.out.trans (decide_eq_false (fun h => h hr0))
      have HQ : NN = q := HNN.out.trans (if_neg (fun h => h.1 hr0))
      clear HNN HCC
      subst HC
      clear hr0
      have HQQ := hid HQ
      clear HQ
      go_wp2_with fail
      go_ret2
      rw [HQQ.out]
      exact ⟨aq, cq, rfl, NQ.out, yb1⟩
    · have hl0 : 0 < (limbs r).length := by
        rcases Nat.eq_zero_or_pos (limbs r).length with h9 | h9
        · have := (limbs_nil r).1 (List.length_eq_zero_iff.1 h9); omega
        · exact h9
      have HC : CC = true := HCC.out.trans (decide_eq_true hr0)
      have HQ := hid (show (up = true → NN = q + 1) ∧ (up = false → NN = q) from ⟨fun hu => HNN.out.trans (if_pos ⟨hr0, hu⟩), fun hu => HNN.out.trans (if_neg (fun h => by rw [hu] at h; exact absurd h.2 (by simp)))⟩)
      have hne : (((limbs r).length : Int) == 0) = false := beq_eq_false_iff_ne.2 (by omega)
      clear HNN HCC
      subst HC
      clear hr0
      go_upto_region 4 with fail
      go_cut [8] (fun s8 wx => s8 = .bool (decide (q % 2 = 1)) ∧ wx = w1)
      case first =>
        by_cases hq0 : (limbs q).length = 0
        · have hqz : q = 0 := (limbs_nil q).1 (List.length_eq_zero_iff.1 hq0)
          have HO := hid (show decide (q % 2 = 1) = false by rw [hqz]; rfl)
          have hq1 : decide (0 < (limbs q).length) = false := decide_eq_false (by omega)
          clear hqz hq0
          go_wp2_with fail
          go_meet
          exact ⟨by rw [HO.out], rfl⟩
        · obtain ⟨b1, o1, rfl, hc1⟩ := NQ.out.2.2 (by omega)
          obtain ⟨x, hx⟩ : ∃ x, x = (limbs q).getD 0 0 := ⟨_, rfl⟩
          have k1 : w1.cell? ⟨b1, o1, none⟩ = some (.int .u32 (x : Int)) := by have := hc1 0 (by omega); rw [hx]; exact this
          have hxo : x % 2 = q % 2 := by rw [hx]; exact limbs_odd q (by omega)
          have hx2 : x < 4294967296 := by rw [hx]; exact (limbs_lim q).getD (by omega) 0
          have hpos : 0 < (limbs q).length := by omega
          have HO := hid (show ((x : Int) % 2 == 1) = decide (q % 2 = 1) by rw [Bool.eq_iff_iff, beq_iff_eq, decide_eq_true_eq]; omega)
          clear hc1 hx hxo hq0
          go_wp2_with fail
          go_meet
          exact ⟨by rw [HO.out], rfl⟩
      case rest =>
        obtain ⟨rfl, hwc⟩ := hcut
        subst hwc
        have UPo := hid (fun w => UP.out (decide (q % 2 = 1)) w rfl)
        generalize decide (q % 2 = 1) = od at *
        go_upto_region 5 with fail
        refine wp_region_grow 15 [35, 36, 37, 38, 39, 40, 41, 42, 43, 44, 45, 46, 47, 48, 49] [Fact.is (.pointer (some ⟨g, 0, none⟩)), Fact.is (.pointer (some ⟨g, 0, none⟩)), Fact.is (.pointer (some ⟨g, 0, none⟩)), Fact.is (.pointer (some ⟨g, 0, none⟩)), Fact.is (.bool neg), Fact.is (.bool od), Fact.is (.slice ar (limbs r).length cr), Fact.li (2 * r), Fact.is (.pointer (some ⟨g, 0, none⟩)), Fact.is (.pointer (some ⟨g, 0, none⟩)), Fact.is (.pointer (some ⟨g, 4, none⟩)), Fact.is (.slice bn (limbs b).length dn), Fact.is (.int .i64 half), Fact.is (.int .i64 mode), Fact.is (.bool up)] (by kernel_rfl) (by kernel_rfl) ⟨?o0, ?o1, ?o2, ?o3, ?o4, ?o5, ?o6, ?o7, ?o8, ?o9, ?o10, ?o11, ?o12, ?o13, ?o14, trivial⟩ ?after
        case o0 => (refine StepOK.plain rfl ?_; intro ρ w1 R hρ hb hp hR; have e0 : ρ (.tmp 0) = .pointer (some ⟨g, 0, none⟩) := hρ.tmp 0 rfl; have hcon := hρ.con; have hfn := hρ.fn; clear hρ hp; unfold OpRun; go_simp; exact hR _ _ (Below.refl _ _) rfl)
        case o1 => (refine StepOK.plain rfl ?_; intro ρ w1 R hρ hb hp hR; have e35 : ρ (.tmp 35) = _ := hp 0 35 rfl rfl; have hcon := hρ.con; have hfn := hρ.fn; clear hρ hp; unfold OpRun; go_simp; exact hR _ _ (Below.refl _ _) rfl)
        case o2 => (refine StepOK.plain rfl ?_; intro ρ w1 R hρ hb hp hR; have e36 : ρ (.tmp 36) = _ := hp 1 36 rfl rfl; have hcon := hρ.con; have hfn := hρ.fn; clear hρ hp; unfold OpRun; go_simp; exact hR _ _ (Below.refl _ _) rfl)
        case o3 => (refine StepOK.plain rfl ?_; intro ρ w1 R hρ hb hp hR; have e37 : ρ (.tmp 37) = _ := hp 2 37 rfl rfl; have hcon := hρ.con; have hfn := hρ.fn; clear hρ hp; unfold OpRun; go_simp; exact hR _ _ (Below.refl _ _) rfl)
        case o4 => (refine StepOK.plain rfl ?_; intro ρ w1 R hρ hb hp hR; have e38 : ρ (.tmp 38) = _ := hp 3 38 rfl rfl; have j0 := (hb.cell (World.block_lt_of_cell? _ _ K0.out)).trans K0.out; have hcon := hρ.con; have hfn := hρ.fn; clear hρ hp; unfold OpRun; go_simp; exact hR _ _ (Below.refl _ _) rfl)
        case o5 => (refine StepOK.plain rfl ?_; intro ρ w1 R hρ hb hp hR; have e8 : ρ (.tmp 8) = .bool od := hρ.tmp 8 rfl; have hcon := hρ.con; have hfn := hρ.fn; clear hρ hp; unfold OpRun; go_simp; exact hR _ _ (Below.refl _ _) rfl)
        case o6 => (refine StepOK.plain rfl ?_; intro ρ w1 R hρ hb hp hR; have e7 : ρ (.tmp 7) = .slice ar (limbs r).length cr := hρ.tmp 7 rfl; have hcon := hρ.con; have hfn := hρ.fn; clear hρ hp; unfold OpRun; go_simp; exact hR _ _ (Below.refl _ _) rfl)
        case o7 => (refine StepOK.plain rfl ?_; intro ρ w1 R hρ hb hp hR; have e41 : ρ (.tmp 41) = _ := hp 6 41 rfl rfl; have hcon := hρ.con; have hfn := hρ.fn; clear hρ hp; unfold OpRun; go_simp; (refine (LE.out _ _ _ (NR.out.below hb)).mono ?_; rintro e wn ⟨a9, rfl, hn9, hbn⟩; exact ⟨_, rfl, hR _ _ hbn ⟨a9, _, rfl, hn9⟩⟩))
        case o8 => (refine StepOK.plain rfl ?_; intro ρ w1 R hρ hb hp hR; have e0 : ρ (.tmp 0) = .pointer (some ⟨g, 0, none⟩) := hρ.tmp 0 rfl; have hcon := hρ.con; have hfn := hρ.fn; clear hρ hp; unfold OpRun; go_simp; exact hR _ _ (Below.refl _ _) rfl)
        case o9 => (refine StepOK.plain rfl ?_; intro ρ w1 R hρ hb hp hR; have e43 : ρ (.tmp 43) = _ := hp 8 43 rfl rfl; have hcon := hρ.con; have hfn := hρ.fn; clear hρ hp; unfold OpRun; go_simp; exact hR _ _ (Below.refl _ _) rfl)
        case o10 => (refine StepOK.plain rfl ?_; intro ρ w1 R hρ hb hp hR; have e44 : ρ (.tmp 44) = _ := hp 9 44 rfl rfl; have hcon := hρ.con; have hfn := hρ.fn; clear hρ hp; unfold OpRun; go_simp; exact hR _ _ (Below.refl _ _) rfl)
        case o11 => (refine StepOK.plain rfl ?_; intro ρ w1 R hρ hb hp hR; have e45 : ρ (.tmp 45) = _ := hp 10 45 rfl rfl; have j4 := (hb.cell (World.block_lt_of_cell? _ _ K4.out)).trans K4.out; have hcon := hρ.con; have hfn := hρ.fn; clear hρ hp; unfold OpRun; go_simp; exact hR _ _ (Below.refl _ _) rfl)
        case o12 => (refine StepOK.plain rfl ?_; intro ρ w1 R hρ hb hp hR; have f42 := hp 7 42 rfl rfl; have e46 : ρ (.tmp 46) = _ := hp 11 46 rfl rfl; obtain ⟨a9, c9, e42, hn9⟩ := f42; have hcon := hρ.con; have hfn := hρ.fn; clear hρ hp; unfold OpRun; go_simp; (refine (CM.out _ _ _ hn9 (N1'.out.below hb)).mono ?_; rintro e wn ⟨rfl, hbn⟩; exact ⟨_, rfl, hR _ _ hbn rfl⟩))
        case o13 => (refine StepOK.plain rfl ?_; intro ρ w1 R hρ hb hp hR; have e1 : ρ (.tmp 1) = .int .i64 mode := hρ.tmp 1 rfl; have hcon := hρ.con; have hfn := hρ.fn; clear hρ hp; unfold OpRun; go_simp; exact hR _ _ (Below.refl _ _) rfl)
        case o14 => (refine StepOK.plain rfl ?_; intro ρ w1 R hρ hb hp hR; have e39 : ρ (.tmp 39) = _ := hp 4 39 rfl rfl; have e40 : ρ (.tmp 40) = _ := hp 5 40 rfl rfl; have e47 : ρ (.tmp 47) = _ := hp 12 47 rfl rfl; have e48 : ρ (.tmp 48) = _ := hp 13 48 rfl rfl; have hcon := hρ.con; have hfn := hρ.fn; clear hρ hp; unfold OpRun; go_simp; (refine (UPo.out _).mono ?_; rintro e wn ⟨rfl, rfl⟩; exact ⟨_, rfl, hR _ _ (Below.refl _ _) rfl⟩))
        case after =>
          intro u wn hb hf
          have e49 : u 49 = _ := hf 14 49 (by omega) rfl
          clear hf
          simp only [putAll, Act.put, List.setIfInBounds_toArray, List.set_cons_zero, List.set_cons_succ, List.drop_succ_cons, List.drop_zero, List.drop_nil]
          rw [e49]
          have yb2 := below_trans yb1 hb
          have NQ2 := hid (NQ.out.below hb)
          clear hb yb1 K0 K4 LE CM UP UPo NR N1'
          cases up
          · go_wp2_with fail
            go_ret2
            rw [HQ.out.2 (by first | rfl | trivial)]
            exact ⟨aq, cq, rfl, NQ2.out, yb2⟩
          · go_wp2_with (first
              | (go_at_call 120; (with_reducible refine (OF.out _).mono ?_); rintro e w8 ⟨a8, rfl, hN8, hb8⟩)
              | (go_at_call 135; (with_reducible refine (PL.out _ _ _ _ _ (NQ2.out.below hb8) hN8).mono ?_); rintro e w9 ⟨a9, rfl, hN9, hb9⟩))
            go_ret2
            rw [HQ.out.1 (by first | rfl | trivial)]
            exact ⟨_, _, rfl, hN9, below_trans (below_trans yb2 hb8) hb9⟩
end Go.Proofs.YthaelmnblgollaaGreatDoor
