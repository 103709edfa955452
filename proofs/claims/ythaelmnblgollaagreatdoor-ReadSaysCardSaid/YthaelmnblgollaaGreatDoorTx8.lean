/- Texts with a point, with a sign: the program's and the reference's. -/
import Derived.Test.YthaelmnblgollaaGreatDoorTx2
import Derived.Test.YthaelmnblgollaaGreatDoorTx5
import Derived.Test.YthaelmnblgollaaGreatDoorFloat
set_option linter.unusedVariables false
set_option linter.unusedSimpArgs false
namespace Go.Ulp
open Go.RowKit
theorem bs_take (E : List UInt8) (k : Nat) : (bsOf E).extract 0 k = bsOf (E.take k) := by
  apply ByteArray.ext
  simp [bsOf]
theorem bs_drop (E : List UInt8) (k : Nat) : (bsOf E).extract k (bsOf E).size = bsOf (E.drop k) := by
  apply ByteArray.ext
  have h9 : List.take (E.length - k) (List.drop k E) = List.drop k E := List.take_of_length_le (by rw [List.length_drop]; omega)
  simp [bsOf, ByteArray.size]
  try exact h9
theorem slice_to {P : Program} {t : TypeId} (ht : P.underlying t = some .string) (E : List UInt8) (j : Int) (h0 : 0 ≤ j) (h : j ≤ E.length) (w : World) : (Instr.slice t (.string (bsOf E)) none (some (.int .i64 j)) none).run P w = .ok (.string (bsOf (E.take j.toNat))) w := by
  rw [run_slice_string_to_if w t _ _ _ ht, if_pos ⟨h0, by rw [bs_size]; exact h⟩, bs_take]
theorem slice_from {P : Program} {t : TypeId} (ht : P.underlying t = some .string) (E : List UInt8) (j : Int) (h0 : 0 ≤ j) (h : j ≤ E.length) (w : World) : (Instr.slice t (.string (bsOf E)) (some (.int .i64 j)) none none).run P w = .ok (.string (bsOf (E.drop j.toNat))) w := by
  rw [run_slice_string_from_if w t _ _ _ ht, if_pos ⟨h0, by rw [bs_size]; exact h⟩, bs_drop]
theorem padz_end (D : List UInt8) (j k : Nat) (h1 : j = 0 ∨ j + D.length ≤ k) (h2 : ¬ j + D.length < k) : List.replicate j 48 ++ D = padz k D := by
  unfold padz
  congr 2
  omega
end Go.Ulp
namespace Go.Proofs.YthaelmnblgollaaGreatDoor
open Go.RowKit Go.Ulp
set_option linter.unusedVariables false
set_option linter.unusedSimpArgs false
set_option maxHeartbeats 1000000
set_option maxRecDepth 100000
theorem point_any (D : List UInt8) (p : Nat) (w : World) (hD : D.length ≤ 10000000) (hp : p ≤ 10000000) :
    Calls Tryz.prog 258 #[.string (bsOf D), .int .i64 (p : Int)] w fun e w' => e = .returned (.string (bsOf (ptd D p))) ∧ Below w.heap.size w w' := by
  obtain ⟨l, hl⟩ : ∃ l, l = D.length := ⟨_, rfl⟩
  have hsz : (bsOf D).size = l := by rw [bs_size, hl]
  by_cases h0 : p = 0
  · subst h0
    rw [ptd_zero]
    go_enter Tryz.func258, Tryz.ntmps258
    go_wp2_with fail
    go_ret
    exact ⟨rfl, Below.refl _ _⟩
  · have hpz : ((p : Int) == 0) = false := beq_eq_false_iff_ne.2 (by omega)
    obtain ⟨E, hE⟩ : ∃ E, E = padz (p + 1) D := ⟨_, rfl⟩
    have hEl : E.length = max (p + 1) l := by rw [hE, padz_len, hl]
    obtain ⟨e, he⟩ : ∃ e, e = E.length := ⟨_, rfl⟩
    have hez : (bsOf E).size = e := by rw [bs_size, he]
    obtain ⟨c, hc⟩ : ∃ c : Nat, c = e - p := ⟨_, rfl⟩
    have hce : (e : Int) - (p : Int) = (c : Int) := by omega
    have hwc : IntKind.i64.wrap (c : Int) = (c : Int) := IntWalk.i64_in _ (by omega)
    have hS1 := slice_to (P := Tryz.prog) Tryz.underlying9 E (c : Int) (by omega) (by omega)
    have hS2 := slice_from (P := Tryz.prog) Tryz.underlying9 E (c : Int) (by omega) (by omega)
    rw [Int.toNat_natCast] at hS1 hS2
    have hA1 := add_bs (P := Tryz.prog) (E.take c) [46] (by simp; omega)
    have hA2 := add_bs (P := Tryz.prog) (E.take c ++ [46]) (E.drop c) (by simp; omega)
    have HR := hid (show ptd D p = E.take c ++ 46 :: E.drop c by
      rw [ptd_pos D p (by omega), ← hE, ← he, ← hc])
    have hb46 : (ByteArray.mk #[46]) = bsOf [46] := rfl
    by_cases hlp : l ≤ p
    · obtain ⟨k, hk⟩ : ∃ k : Nat, k = p + 1 - l := ⟨_, rfl⟩
      have hke : (p : Int) + 1 - (l : Int) = (k : Int) := by omega
      have RP := hid (show ∀ w, Calls Tryz.prog 141 #[.string ⟨#[48]⟩, .int .i64 (k : Int)] w fun e w' => e = .returned (.string (bsOf (List.replicate k 48))) ∧ Below w.heap.size w w' from fun w => repeat_any 48 k (by omega) w)
      have hA0 : ∀ w, (Op.stringOp .add (bsOf (List.replicate k 48)) (bsOf D)).run Tryz.prog w = .ok (.string (bsOf E)) w := fun w => by
        rw [add_bs _ _ (by simp; omega)]
        have : List.replicate k 48 ++ D = E := by rw [hE]; unfold padz; rw [← hl, ← hk]
        rw [this]
      clear hE hEl hl he hc hk h0
      go_enter Tryz.func258, Tryz.ntmps258
      go_upto_region 5 with (go_at_call 141; (with_reducible refine (RP.out _).mono ?_); rintro en w1 ⟨rfl, hb1⟩)
      refine wp_region_grow 15 [20, 21, 22, 23, 24, 25, 26, 27, 28, 29, 30, 31, 32, 33, 4] [Fact.is (.string (bsOf E)), Fact.is (.string (bsOf E)), Fact.is (.int .i64 (e : Int)), Fact.is (.int .i64 (p : Int)), Fact.is (.int .i64 (c : Int)), Fact.is (.string (bsOf (E.take c))), Fact.is (.string (bsOf (E.take c ++ [46]))), Fact.is (.string (bsOf E)), Fact.is (.string (bsOf E)), Fact.is (.int .i64 (e : Int)), Fact.is (.int .i64 (p : Int)), Fact.is (.int .i64 (c : Int)), Fact.is (.string (bsOf (E.drop c))), Fact.is (.string (bsOf (E.take c ++ 46 :: E.drop c))), Fact.is (.string (bsOf (E.take c ++ 46 :: E.drop c)))] (by kernel_rfl) (by kernel_rfl) ⟨?o0, ?o1, ?o2, ?o3, ?o4, ?o5, ?o6, ?o7, ?o8, ?o9, ?o10, ?o11, ?o12, ?o13, ?o14, trivial⟩ ?after
      case o0 => (refine StepOK.plain rfl ?_; intro ρ w1 R hρ hb hp hR; have e0 : ρ (.tmp 0) = .string (bsOf E) := hρ.tmp 0 rfl; have hcon := hρ.con; have hfn := hρ.fn; clear hρ hp; unfold OpRun; go_simp; exact hR _ _ (Below.refl _ _) rfl)
      case o1 => (refine StepOK.plain rfl ?_; intro ρ w1 R hρ hb hp hR; have e0 : ρ (.tmp 0) = .string (bsOf E) := hρ.tmp 0 rfl; have hcon := hρ.con; have hfn := hρ.fn; clear hρ hp; unfold OpRun; go_simp; exact hR _ _ (Below.refl _ _) rfl)
      case o2 => (refine StepOK.plain rfl ?_; intro ρ w1 R hρ hb hp hR; have e21 : ρ (.tmp 21) = _ := hp 1 21 rfl rfl; have hcon := hρ.con; have hfn := hρ.fn; clear hρ hp; unfold OpRun; go_simp; exact hR _ _ (Below.refl _ _) rfl)
      case o3 => (refine StepOK.plain rfl ?_; intro ρ w1 R hρ hb hp hR; have e1 : ρ (.tmp 1) = .int .i64 (p : Int) := hρ.tmp 1 rfl; have hcon := hρ.con; have hfn := hρ.fn; clear hρ hp; unfold OpRun; go_simp; exact hR _ _ (Below.refl _ _) rfl)
      case o4 => (refine StepOK.plain rfl ?_; intro ρ w1 R hρ hb hp hR; have e22 : ρ (.tmp 22) = _ := hp 2 22 rfl rfl; have e23 : ρ (.tmp 23) = _ := hp 3 23 rfl rfl; have hcon := hρ.con; have hfn := hρ.fn; clear hρ hp; unfold OpRun; go_simp; exact hR _ _ (Below.refl _ _) rfl)
      case o5 => (refine StepOK.plain rfl ?_; intro ρ w1 R hρ hb hp hR; have e20 : ρ (.tmp 20) = _ := hp 0 20 rfl rfl; have e24 : ρ (.tmp 24) = _ := hp 4 24 rfl rfl; have hcon := hρ.con; have hfn := hρ.fn; clear hρ hp; unfold OpRun; go_simp; exact hR _ _ (Below.refl _ _) rfl)
      case o6 => (refine StepOK.plain rfl ?_; intro ρ w1 R hρ hb hp hR; have e25 : ρ (.tmp 25) = _ := hp 5 25 rfl rfl; have hcon := hρ.con; have hfn := hρ.fn; clear hρ hp; unfold OpRun; go_simp; exact hR _ _ (Below.refl _ _) rfl)
      case o7 => (refine StepOK.plain rfl ?_; intro ρ w1 R hρ hb hp hR; have e0 : ρ (.tmp 0) = .string (bsOf E) := hρ.tmp 0 rfl; have hcon := hρ.con; have hfn := hρ.fn; clear hρ hp; unfold OpRun; go_simp; exact hR _ _ (Below.refl _ _) rfl)
      case o8 => (refine StepOK.plain rfl ?_; intro ρ w1 R hρ hb hp hR; have e0 : ρ (.tmp 0) = .string (bsOf E) := hρ.tmp 0 rfl; have hcon := hρ.con; have hfn := hρ.fn; clear hρ hp; unfold OpRun; go_simp; exact hR _ _ (Below.refl _ _) rfl)
      case o9 => (refine StepOK.plain rfl ?_; intro ρ w1 R hρ hb hp hR; have e28 : ρ (.tmp 28) = _ := hp 8 28 rfl rfl; have hcon := hρ.con; have hfn := hρ.fn; clear hρ hp; unfold OpRun; go_simp; exact hR _ _ (Below.refl _ _) rfl)
      case o10 => (refine StepOK.plain rfl ?_; intro ρ w1 R hρ hb hp hR; have e1 : ρ (.tmp 1) = .int .i64 (p : Int) := hρ.tmp 1 rfl; have hcon := hρ.con; have hfn := hρ.fn; clear hρ hp; unfold OpRun; go_simp; exact hR _ _ (Below.refl _ _) rfl)
      case o11 => (refine StepOK.plain rfl ?_; intro ρ w1 R hρ hb hp hR; have e29 : ρ (.tmp 29) = _ := hp 9 29 rfl rfl; have e30 : ρ (.tmp 30) = _ := hp 10 30 rfl rfl; have hcon := hρ.con; have hfn := hρ.fn; clear hρ hp; unfold OpRun; go_simp; exact hR _ _ (Below.refl _ _) rfl)
      case o12 => (refine StepOK.plain rfl ?_; intro ρ w1 R hρ hb hp hR; have e27 : ρ (.tmp 27) = _ := hp 7 27 rfl rfl; have e31 : ρ (.tmp 31) = _ := hp 11 31 rfl rfl; have hcon := hρ.con; have hfn := hρ.fn; clear hρ hp; unfold OpRun; go_simp; exact hR _ _ (Below.refl _ _) rfl)
      case o13 => (refine StepOK.plain rfl ?_; intro ρ w1 R hρ hb hp hR; have e26 : ρ (.tmp 26) = _ := hp 6 26 rfl rfl; have e32 : ρ (.tmp 32) = _ := hp 12 32 rfl rfl; have hcon := hρ.con; have hfn := hρ.fn; clear hρ hp; unfold OpRun; go_simp; exact hR _ _ (Below.refl _ _) rfl)
      case o14 => (refine StepOK.plain rfl ?_; intro ρ w1 R hρ hb hp hR; have e33 : ρ (.tmp 33) = _ := hp 13 33 rfl rfl; have hcon := hρ.con; have hfn := hρ.fn; clear hρ hp; unfold OpRun; go_simp; exact hR _ _ (Below.refl _ _) rfl)
      case after =>
        intro u wn hb hf
        have e4 : u 4 = _ := hf 14 4 (by omega) rfl
        clear hf
        simp only [putAll, Act.put, List.setIfInBounds_toArray, List.set_cons_zero, List.set_cons_succ, List.drop_succ_cons, List.drop_zero, List.drop_nil]
        rw [e4]
        go_wp2_with fail
        go_ret
        exact ⟨by rw [HR.out]; rfl, below_trans hb1 hb⟩
    · have hED : D = E := by rw [hE, padz_long _ _ (by omega)]
      have hlE : l = e := by rw [hl, hED, he]
      clear hE hEl hl he hc h0
      subst hlE
      rw [hED] at hsz ⊢
      rw [hED] at HR
      clear hED
      go_enter Tryz.func258, Tryz.ntmps258
      go_upto_region 5 with fail
      refine wp_region_grow 15 [20, 21, 22, 23, 24, 25, 26, 27, 28, 29, 30, 31, 32, 33, 4] [Fact.is (.string (bsOf E)), Fact.is (.string (bsOf E)), Fact.is (.int .i64 (l : Int)), Fact.is (.int .i64 (p : Int)), Fact.is (.int .i64 (c : Int)), Fact.is (.string (bsOf (E.take c))), Fact.is (.string (bsOf (E.take c ++ [46]))), Fact.is (.string (bsOf E)), Fact.is (.string (bsOf E)), Fact.is (.int .i64 (l : Int)), Fact.is (.int .i64 (p : Int)), Fact.is (.int .i64 (c : Int)), Fact.is (.string (bsOf (E.drop c))), Fact.is (.string (bsOf (E.take c ++ 46 :: E.drop c))), Fact.is (.string (bsOf (E.take c ++ 46 :: E.drop c)))] (by kernel_rfl) (by kernel_rfl) ⟨?o0, ?o1, ?o2, ?o3, ?o4, ?o5, ?o6, ?o7, ?o8, ?o9, ?o10, ?o11, ?o12, ?o13, ?o14, trivial⟩ ?after
      case o0 => (refine StepOK.plain rfl ?_; intro ρ w1 R hρ hb hp hR; have e0 : ρ (.tmp 0) = .string (bsOf E) := hρ.tmp 0 rfl; have hcon := hρ.con; have hfn := hρ.fn; clear hρ hp; unfold OpRun; go_simp; exact hR _ _ (Below.refl _ _) rfl)
      case o1 => (refine StepOK.plain rfl ?_; intro ρ w1 R hρ hb hp hR; have e0 : ρ (.tmp 0) = .string (bsOf E) := hρ.tmp 0 rfl; have hcon := hρ.con; have hfn := hρ.fn; clear hρ hp; unfold OpRun; go_simp; exact hR _ _ (Below.refl _ _) rfl)
      case o2 => (refine StepOK.plain rfl ?_; intro ρ w1 R hρ hb hp hR; have e21 : ρ (.tmp 21) = _ := hp 1 21 rfl rfl; have hcon := hρ.con; have hfn := hρ.fn; clear hρ hp; unfold OpRun; go_simp; exact hR _ _ (Below.refl _ _) rfl)
      case o3 => (refine StepOK.plain rfl ?_; intro ρ w1 R hρ hb hp hR; have e1 : ρ (.tmp 1) = .int .i64 (p : Int) := hρ.tmp 1 rfl; have hcon := hρ.con; have hfn := hρ.fn; clear hρ hp; unfold OpRun; go_simp; exact hR _ _ (Below.refl _ _) rfl)
      case o4 => (refine StepOK.plain rfl ?_; intro ρ w1 R hρ hb hp hR; have e22 : ρ (.tmp 22) = _ := hp 2 22 rfl rfl; have e23 : ρ (.tmp 23) = _ := hp 3 23 rfl rfl; have hcon := hρ.con; have hfn := hρ.fn; clear hρ hp; unfold OpRun; go_simp; exact hR _ _ (Below.refl _ _) rfl)
      case o5 => (refine StepOK.plain rfl ?_; intro ρ w1 R hρ hb hp hR; have e20 : ρ (.tmp 20) = _ := hp 0 20 rfl rfl; have e24 : ρ (.tmp 24) = _ := hp 4 24 rfl rfl; have hcon := hρ.con; have hfn := hρ.fn; clear hρ hp; unfold OpRun; go_simp; exact hR _ _ (Below.refl _ _) rfl)
      case o6 => (refine StepOK.plain rfl ?_; intro ρ w1 R hρ hb hp hR; have e25 : ρ (.tmp 25) = _ := hp 5 25 rfl rfl; have hcon := hρ.con; have hfn := hρ.fn; clear hρ hp; unfold OpRun; go_simp; exact hR _ _ (Below.refl _ _) rfl)
      case o7 => (refine StepOK.plain rfl ?_; intro ρ w1 R hρ hb hp hR; have e0 : ρ (.tmp 0) = .string (bsOf E) := hρ.tmp 0 rfl; have hcon := hρ.con; have hfn := hρ.fn; clear hρ hp; unfold OpRun; go_simp; exact hR _ _ (Below.refl _ _) rfl)
      case o8 => (refine StepOK.plain rfl ?_; intro ρ w1 R hρ hb hp hR; have e0 : ρ (.tmp 0) = .string (bsOf E) := hρ.tmp 0 rfl; have hcon := hρ.con; have hfn := hρ.fn; clear hρ hp; unfold OpRun; go_simp; exact hR _ _ (Below.refl _ _) rfl)
      case o9 => (refine StepOK.plain rfl ?_; intro ρ w1 R hρ hb hp hR; have e28 : ρ (.tmp 28) = _ := hp 8 28 rfl rfl; have hcon := hρ.con; have hfn := hρ.fn; clear hρ hp; unfold OpRun; go_simp; exact hR _ _ (Below.refl _ _) rfl)
      case o10 => (refine StepOK.plain rfl ?_; intro ρ w1 R hρ hb hp hR; have e1 : ρ (.tmp 1) = .int .i64 (p : Int) := hρ.tmp 1 rfl; have hcon := hρ.con; have hfn := hρ.fn; clear hρ hp; unfold OpRun; go_simp; exact hR _ _ (Below.refl _ _) rfl)
      case o11 => (refine StepOK.plain rfl ?_; intro ρ w1 R hρ hb hp hR; have e29 : ρ (.tmp 29) = _ := hp 9 29 rfl rfl; have e30 : ρ (.tmp 30) = _ := hp 10 30 rfl rfl; have hcon := hρ.con; have hfn := hρ.fn; clear hρ hp; unfold OpRun; go_simp; exact hR _ _ (Below.refl _ _) rfl)
      case o12 => (refine StepOK.plain rfl ?_; intro ρ w1 R hρ hb hp hR; have e27 : ρ (.tmp 27) = _ := hp 7 27 rfl rfl; have e31 : ρ (.tmp 31) = _ := hp 11 31 rfl rfl; have hcon := hρ.con; have hfn := hρ.fn; clear hρ hp; unfold OpRun; go_simp; exact hR _ _ (Below.refl _ _) rfl)
      case o13 => (refine StepOK.plain rfl ?_; intro ρ w1 R hρ hb hp hR; have e26 : ρ (.tmp 26) = _ := hp 6 26 rfl rfl; have e32 : ρ (.tmp 32) = _ := hp 12 32 rfl rfl; have hcon := hρ.con; have hfn := hρ.fn; clear hρ hp; unfold OpRun; go_simp; exact hR _ _ (Below.refl _ _) rfl)
      case o14 => (refine StepOK.plain rfl ?_; intro ρ w1 R hρ hb hp hR; have e33 : ρ (.tmp 33) = _ := hp 13 33 rfl rfl; have hcon := hρ.con; have hfn := hρ.fn; clear hρ hp; unfold OpRun; go_simp; exact hR _ _ (Below.refl _ _) rfl)
      case after =>
        intro u wn hb hf
        have e4 : u 4 = _ := hf 14 4 (by omega) rfl
        clear hf
        simp only [putAll, Act.put, List.setIfInBounds_toArray, List.set_cons_zero, List.set_cons_succ, List.drop_succ_cons, List.drop_zero, List.drop_nil]
        rw [e4]
        go_wp2_with fail
        go_ret
        exact ⟨by rw [HR.out]; rfl, hb⟩
theorem signT_any (x : Int) (h0 : 0 ≤ x) (h1 : x < 18446744073709551616) (w : World) :
    Calls Tryz.prog 257 #[.int .u64 x] w fun e w' => e = .returned (.string (bsOf (if negB x = true then [45] else []))) ∧ w = w' := by
  by_cases h : 9223372036854775808 ≤ x
  · have hn : negB x = true := decide_eq_true h
    rw [hn]
    have hs : x / 9223372036854775808 = 1 := by omega
    go_enter Tryz.func257, Tryz.ntmps257
    go_wp2_with fail
    go_ret
    exact ⟨rfl, rfl⟩
  · have hn : negB x = false := decide_eq_false h
    rw [hn]
    have hs : x / 9223372036854775808 = 0 := by omega
    go_enter Tryz.func257, Tryz.ntmps257
    go_wp2_with fail
    go_ret
    exact ⟨rfl, rfl⟩
theorem pointed_any (v : Value) (m p : Nat) (w : World) (hv : ZD 3 w (m : Int) v) (hl : (zl (m : Int)).length ≤ 1000000) (hp : p ≤ 10000000) :
    Calls Tryz.prog 144 #[v, .int .i64 (p : Int)] w fun e w' => e = .returned (.string (bsOf (ptd (decD m) p))) ∧ Below w.heap.size w w' := by
  obtain ⟨a, c, rfl, hN⟩ := hv
  have ZT := hid (show ∀ w, Nz 3 w a c (zl (m : Int)) → Calls Tryz.prog 149 #[.agg #[.bool (zneg (m : Int)), .slice a (zl (m : Int)).length c]] w fun e w' => e = .returned (.string (bsOf (decD m))) ∧ Below w.heap.size w w' from fun w h => by
    have h9 := zText_any (m : Int) a c w h hl
    unfold zTx at h9
    rwa [if_neg (by omega), Int.natAbs_natCast] at h9)
  obtain ⟨D, hD⟩ : ∃ D, D = decD m := ⟨_, rfl⟩
  rw [← hD] at ZT ⊢
  have hDl : D.length ≤ 4 * 1000000 + 1 := by
    have h9 := zl_len_bits
    rcases Nat.eq_zero_or_pos m with h0 | h0
    · rw [hD, h0, decD_small (by omega)]; simp
    · have h1 := txt_end m h0
      have h2 := txt_len (decs m) (decs_lim m) (decs m).length (Nat.le_refl _)
      rw [h1] at h2
      have h3 : (zl (m : Int)).length = (decs m).length := by rw [zl_nat]
      rw [hD]; omega
  have hDp : 0 < D.length := by rw [hD]; exact decD_pos m
  obtain ⟨l, hlD⟩ : ∃ l, l = D.length := ⟨_, rfl⟩
  obtain ⟨E, hE⟩ : ∃ E, E = padz (p + 1) D := ⟨_, rfl⟩
  have hEl : E.length = max (p + 1) l := by rw [hE, padz_len, hlD]
  obtain ⟨e, he⟩ : ∃ e, e = E.length := ⟨_, rfl⟩
  have hez : (bsOf E).size = e := by rw [bs_size, he]
  obtain ⟨k, hk⟩ : ∃ k : Nat, k = e - p := ⟨_, rfl⟩
  have hke : (e : Int) - (p : Int) = (k : Int) := by omega
  have hwk : IntKind.i64.wrap (k : Int) = (k : Int) := IntWalk.i64_in _ (by omega)
  have hS1 := slice_to (P := Tryz.prog) Tryz.underlying9 E (k : Int) (by omega) (by omega)
  have hS2 := slice_from (P := Tryz.prog) Tryz.underlying9 E (k : Int) (by omega) (by omega)
  rw [Int.toNat_natCast] at hS1 hS2
  have hA1 := add_bs (P := Tryz.prog) (E.take k) [46] (by simp; omega)
  have hA2 := add_bs (P := Tryz.prog) (E.take k ++ [46]) (E.drop k) (by simp; omega)
  have HR := hid (show ptd D p = if p = 0 then E else E.take k ++ 46 :: E.drop k by
    by_cases h0 : p = 0
    · rw [if_pos h0, h0, ptd_zero, hE, h0, padz_long _ _ (by omega)]
    · rw [if_neg h0, ptd_pos D p (by omega), ← hE, ← he, ← hk])
  have hb46 : (ByteArray.mk #[46]) = bsOf [46] := rfl
  have HN := hid hN
  have HE := hid hE
  have HLD := hid hlD
  have zA : ZL 39 (w.alloc (.cells #[.bool (zneg (m : Int)), .slice a (zl (m : Int)).length c] 39)) w.heap.size (zneg (m : Int)) (.slice a (zl (m : Int)).length c) := ZL.made rfl
  have yb := below_alloc w (.cells #[.bool (zneg (m : Int)), .slice a (zl (m : Int)).length c] 39)
  have HN' := hid (HN.out.below yb)
  obtain ⟨j0, j1, -⟩ := zA
  clear hN hl hD hE hEl he hk
  go_enter Tryz.func144, Tryz.ntmps144
  go_upto_region 2 with (go_at_call 149; (with_reducible refine (ZT.out _ HN'.out).mono ?_); rintro en w1 ⟨rfl, hb1⟩)
  have y1 := below_trans yb hb1
  clear j0 j1 yb hb1 HN HN' ZT
  go_loopw [5] (fun s5 wr => ∃ j : Nat, s5 = .string (bsOf (List.replicate j 48 ++ D)) ∧ (j = 0 ∨ j + l ≤ p + 1) ∧ wr = w1) (fun s5 _ => p + 1 - strSz s5)
  case atStart => exact ⟨0, rfl, .inl rfl, rfl⟩
  case round =>
    obtain ⟨j, rfl, hj, rfl⟩ := hrel
    obtain ⟨X, hX⟩ : ∃ X, X = List.replicate j 48 ++ D := ⟨_, rfl⟩
    have hXl : X.length = j + l := by rw [hX, List.length_append, List.length_replicate, ← HLD.out]
    obtain ⟨x, hx⟩ : ∃ x, x = X.length := ⟨_, rfl⟩
    have hsz : (bsOf X).size = x := by rw [bs_size, hx]
    have hx8 : x ≤ 100000000 := by rcases hj with hj | hj <;> omega
    have hAN := add_nil (P := Tryz.prog) X (by omega)
    rw [← hX]
    by_cases hp : x ≤ p
    · have HX := hid hX
      have HXL := hid (show x = j + l by omega)
      have HXX := hid hx
      clear hX hXl hx hj hS1 hS2 hA1 hA2
      go_wp2_with fail
      go_roundw
      case rel => exact ⟨j + 1, by rw [HX.out]; rfl, .inr (by have := HXL.out; omega), by first | rfl | trivial⟩
      case measure => rw [strSz_bs, strSz_bs, List.length_cons, ← HXX.out]; omega
    · have hXE : X = E := by
        rw [HE.out, hX]
        exact padz_end D j (p + 1) (by rw [← HLD.out]; exact hj) (by rw [← HLD.out]; omega)
      have hxe : x = e := by rw [hXE, bs_size] at hsz; rw [bs_size] at hez; omega
      clear hX hXl hx hj hAN hsz
      subst hXE hxe
      by_cases hp0 : p = 0
      · have HRR := hid (show ptd D p = X by rw [HR.out, if_pos hp0])
        have hpz : ((p : Int) == 0) = true := by rw [hp0]; rfl
        clear HR hS1 hS2 hA1 hA2
        go_wp2_with fail
        go_ret
        exact ⟨by rw [HRR.out]; rfl, y1⟩
      · have HRR := hid (show ptd D p = X.take k ++ 46 :: X.drop k by rw [HR.out, if_neg hp0])
        have hpz : ((p : Int) == 0) = false := beq_eq_false_iff_ne.2 (by omega)
        clear HR hp0
        go_upto_region 6 with fail
        refine wp_region_grow 15 [17, 18, 19, 20, 21, 22, 23, 24, 25, 26, 27, 28, 29, 30, 4] [Fact.is (.string (bsOf X)), Fact.is (.string (bsOf X)), Fact.is (.int .i64 (x : Int)), Fact.is (.int .i64 (p : Int)), Fact.is (.int .i64 (k : Int)), Fact.is (.string (bsOf (X.take k))), Fact.is (.string (bsOf (X.take k ++ [46]))), Fact.is (.string (bsOf X)), Fact.is (.string (bsOf X)), Fact.is (.int .i64 (x : Int)), Fact.is (.int .i64 (p : Int)), Fact.is (.int .i64 (k : Int)), Fact.is (.string (bsOf (X.drop k))), Fact.is (.string (bsOf (X.take k ++ 46 :: X.drop k))), Fact.is (.string (bsOf (X.take k ++ 46 :: X.drop k)))] (by kernel_rfl) (by kernel_rfl) ⟨?o0, ?o1, ?o2, ?o3, ?o4, ?o5, ?o6, ?o7, ?o8, ?o9, ?o10, ?o11, ?o12, ?o13, ?o14, trivial⟩ ?after
        case o0 => (refine StepOK.plain rfl ?_; intro ρ w1 R hρ hb hp hR; have e5 : ρ (.tmp 5) = .string (bsOf X) := hρ.tmp 5 rfl; have hcon := hρ.con; have hfn := hρ.fn; clear hρ hp; unfold OpRun; go_simp; exact hR _ _ (Below.refl _ _) rfl)
        case o1 => (refine StepOK.plain rfl ?_; intro ρ w1 R hρ hb hp hR; have e5 : ρ (.tmp 5) = .string (bsOf X) := hρ.tmp 5 rfl; have hcon := hρ.con; have hfn := hρ.fn; clear hρ hp; unfold OpRun; go_simp; exact hR _ _ (Below.refl _ _) rfl)
        case o2 => (refine StepOK.plain rfl ?_; intro ρ w1 R hρ hb hp hR; have e18 : ρ (.tmp 18) = _ := hp 1 18 rfl rfl; have hcon := hρ.con; have hfn := hρ.fn; clear hρ hp; unfold OpRun; go_simp; exact hR _ _ (Below.refl _ _) rfl)
        case o3 => (refine StepOK.plain rfl ?_; intro ρ w1 R hρ hb hp hR; have e1 : ρ (.tmp 1) = .int .i64 (p : Int) := hρ.tmp 1 rfl; have hcon := hρ.con; have hfn := hρ.fn; clear hρ hp; unfold OpRun; go_simp; exact hR _ _ (Below.refl _ _) rfl)
        case o4 => (refine StepOK.plain rfl ?_; intro ρ w1 R hρ hb hp hR; have e19 : ρ (.tmp 19) = _ := hp 2 19 rfl rfl; have e20 : ρ (.tmp 20) = _ := hp 3 20 rfl rfl; have hcon := hρ.con; have hfn := hρ.fn; clear hρ hp; unfold OpRun; go_simp; exact hR _ _ (Below.refl _ _) rfl)
        case o5 => (refine StepOK.plain rfl ?_; intro ρ w1 R hρ hb hp hR; have e17 : ρ (.tmp 17) = _ := hp 0 17 rfl rfl; have e21 : ρ (.tmp 21) = _ := hp 4 21 rfl rfl; have hcon := hρ.con; have hfn := hρ.fn; clear hρ hp; unfold OpRun; go_simp; exact hR _ _ (Below.refl _ _) rfl)
        case o6 => (refine StepOK.plain rfl ?_; intro ρ w1 R hρ hb hp hR; have e22 : ρ (.tmp 22) = _ := hp 5 22 rfl rfl; have hcon := hρ.con; have hfn := hρ.fn; clear hρ hp; unfold OpRun; go_simp; exact hR _ _ (Below.refl _ _) rfl)
        case o7 => (refine StepOK.plain rfl ?_; intro ρ w1 R hρ hb hp hR; have e5 : ρ (.tmp 5) = .string (bsOf X) := hρ.tmp 5 rfl; have hcon := hρ.con; have hfn := hρ.fn; clear hρ hp; unfold OpRun; go_simp; exact hR _ _ (Below.refl _ _) rfl)
        case o8 => (refine StepOK.plain rfl ?_; intro ρ w1 R hρ hb hp hR; have e5 : ρ (.tmp 5) = .string (bsOf X) := hρ.tmp 5 rfl; have hcon := hρ.con; have hfn := hρ.fn; clear hρ hp; unfold OpRun; go_simp; exact hR _ _ (Below.refl _ _) rfl)
        case o9 => (refine StepOK.plain rfl ?_; intro ρ w1 R hρ hb hp hR; have e25 : ρ (.tmp 25) = _ := hp 8 25 rfl rfl; have hcon := hρ.con; have hfn := hρ.fn; clear hρ hp; unfold OpRun; go_simp; exact hR _ _ (Below.refl _ _) rfl)
        case o10 => (refine StepOK.plain rfl ?_; intro ρ w1 R hρ hb hp hR; have e1 : ρ (.tmp 1) = .int .i64 (p : Int) := hρ.tmp 1 rfl; have hcon := hρ.con; have hfn := hρ.fn; clear hρ hp; unfold OpRun; go_simp; exact hR _ _ (Below.refl _ _) rfl)
        case o11 => (refine StepOK.plain rfl ?_; intro ρ w1 R hρ hb hp hR; have e26 : ρ (.tmp 26) = _ := hp 9 26 rfl rfl; have e27 : ρ (.tmp 27) = _ := hp 10 27 rfl rfl; have hcon := hρ.con; have hfn := hρ.fn; clear hρ hp; unfold OpRun; go_simp; exact hR _ _ (Below.refl _ _) rfl)
        case o12 => (refine StepOK.plain rfl ?_; intro ρ w1 R hρ hb hp hR; have e24 : ρ (.tmp 24) = _ := hp 7 24 rfl rfl; have e28 : ρ (.tmp 28) = _ := hp 11 28 rfl rfl; have hcon := hρ.con; have hfn := hρ.fn; clear hρ hp; unfold OpRun; go_simp; exact hR _ _ (Below.refl _ _) rfl)
        case o13 => (refine StepOK.plain rfl ?_; intro ρ w1 R hρ hb hp hR; have e23 : ρ (.tmp 23) = _ := hp 6 23 rfl rfl; have e29 : ρ (.tmp 29) = _ := hp 12 29 rfl rfl; have hcon := hρ.con; have hfn := hρ.fn; clear hρ hp; unfold OpRun; go_simp; exact hR _ _ (Below.refl _ _) rfl)
        case o14 => (refine StepOK.plain rfl ?_; intro ρ w1 R hρ hb hp hR; have e30 : ρ (.tmp 30) = _ := hp 13 30 rfl rfl; have hcon := hρ.con; have hfn := hρ.fn; clear hρ hp; unfold OpRun; go_simp; exact hR _ _ (Below.refl _ _) rfl)
        case after =>
          intro u wn hb hf
          have e4 : u 4 = _ := hf 14 4 (by omega) rfl
          clear hf
          simp only [putAll, Act.put, List.setIfInBounds_toArray, List.set_cons_zero, List.set_cons_succ, List.drop_succ_cons, List.drop_zero, List.drop_nil]
          rw [e4]
          go_wp2_with fail
          go_ret
          exact ⟨by rw [HRR.out]; rfl, below_trans y1 hb⟩
theorem minusN_any (x : Int) (h0 : 0 ≤ x) (h1 : x < 18446744073709551616) (w : World) :
    Calls Tryz.prog 96 #[.int .u64 x] w fun e w' => e = .returned (.bool (negB x)) ∧ w = w' := by
  go_enter Tryz.func96, Tryz.ntmps96
  go_wp2_with fail
  go_ret
  exact ⟨ret_bool rfl, rfl⟩
theorem dashed_any (D : List UInt8) (x : Int) (h0 : 0 ≤ x) (h1 : x < 18446744073709551616) (hD : D.length ≤ 1000000000) (w : World) :
    Calls Tryz.prog 142 #[.string (bsOf D), .int .u64 x] w fun e w' => e = .returned (.string (bsOf (dsh (negB x) D))) ∧ w = w' := by
  have MI := hid (fun w => minusN_any x h0 h1 w)
  have hA := add_dash (P := Tryz.prog) D (by omega)
  generalize negB x = b at *
  go_enter Tryz.func142, Tryz.ntmps142
  cases b
  · clear hA
    go_wp2_with (go_at_call 96; (with_reducible refine (MI.out _).mono ?_); rintro en w1 ⟨rfl, rfl⟩)
    go_ret
    exact ⟨rfl, rfl⟩
  · go_wp2_with (go_at_call 96; (with_reducible refine (MI.out _).mono ?_); rintro en w1 ⟨rfl, rfl⟩)
    go_ret
    exact ⟨rfl, rfl⟩
theorem hasV_any (x : Int) (h0 : 0 ≤ x) (h1 : x < 18446744073709551616) (w : World) :
    Calls Tryz.prog 19 #[.int .u64 x] w fun e w' => e = .returned (.bool (hasVal x)) ∧ w = w' := by
  have CL := hid (fun w => classOf_any x h0 h1 w)
  have HC := hid (show decide (classOf x < 4) = hasVal x by
    have a := class_val x h0 h1
    unfold hasVal
    unfold absOf at a
    rw [decide_eq_decide]; omega)
  generalize classOf x = c at *
  go_enter Tryz.func19, Tryz.ntmps19
  go_wp2_with (go_at_call 83; (with_reducible refine (CL.out _).mono ?_); rintro en w1 ⟨rfl, rfl⟩)
  go_ret
  exact ⟨ret_bool HC.out, rfl⟩
end Go.Proofs.YthaelmnblgollaaGreatDoor
