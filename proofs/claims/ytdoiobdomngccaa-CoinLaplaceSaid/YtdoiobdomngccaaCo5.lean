/- The reference's draws from a list of bits: less, exp, count, laplace. -/
import Derived.Test.YtdoiobdomngccaaCo4
set_option linter.unusedVariables false
set_option linter.unusedSimpArgs false
namespace Go.Ulp
open Go.RowKit
def sh {α : Type} (p : Nat) (r : Option (α × Nat)) : Option (α × Nat) := r.map fun xt => (xt.1, p + xt.2)
theorem DB.shift {B : List Nat} {n p q : Nat} {r : Option (Nat × Nat)} (h : DB (B.drop p) n q r) (hp : p ≤ B.length) : DB B n (p + q) (sh p r) := by
  induction h with
  | short h1 => exact .short (by rw [List.length_drop] at h1; omega)
  | hit h1 h2 =>
    rw [List.length_drop] at h1
    rw [bv_drop] at h2
    have := DB.hit (B := B) (n := n) (p := p + _) (by omega) h2
    unfold sh
    simp only [Option.map_some, bv_drop]
    rw [← Nat.add_assoc]; exact this
  | miss h1 h2 _ ih =>
    rw [List.length_drop] at h1
    rw [bv_drop] at h2
    exact .miss (by omega) h2 (by rw [Nat.add_assoc]; exact ih)
theorem DL.shift {B : List Nat} {a b k p q : Nat} {r : Option (Bool × Nat)} (h : DL (B.drop p) a b k q r) (hp : p ≤ B.length) : DL B a b k (p + q) (sh p r) := by
  induction h with
  | none h1 => exact .none (h1.shift hp)
  | stop h1 h2 => exact .stop (h1.shift hp) h2
  | go h1 h2 _ ih => exact .go (h1.shift hp) h2 ih
theorem DE.shift {B : List Nat} {b a p q : Nat} {r : Option (Bool × Nat)} (h : DE (B.drop p) b a q r) (hp : p ≤ B.length) : DE B b a (p + q) (sh p r) := by
  induction h with
  | base h1 h2 => exact .base h1 (h2.shift hp)
  | none h1 h2 => exact .none h1 (h2.shift hp)
  | no h1 h2 => exact .no h1 (h2.shift hp)
  | yes h1 h2 _ ih => exact .yes h1 (h2.shift hp) ih
theorem DC.shift {B : List Nat} {a b m p q : Nat} {r : Option (Nat × Nat)} (h : DC (B.drop p) a b m q r) (hp : p ≤ B.length) : DC B a b m (p + q) (sh p r) := by
  induction h with
  | none h1 => exact .none (h1.shift hp)
  | stop h1 => exact .stop (h1.shift hp)
  | go h1 _ ih => exact .go (h1.shift hp) ih
theorem DC.cnt' {B : List Nat} {a b m p : Nat} {r : Option (Nat × Nat)} (h : DC B a b m p r) : ∀ x q, r = some (x, q) → 0 < a → x + p ≤ m + q := by
  induction h with
  | none => intro x q e; cases e
  | stop h1 => intro x q e ha; injection e with e; injection e with e1 e2; subst e1 e2; have := h1.ge _ _ rfl; omega
  | go h1 _ ih => intro x q e ha; have := ih x q e ha; have := (h1.ge _ _ rfl).2.2 ha; omega
theorem getD_drop (B : List Nat) (p q : Nat) : (B.drop p).getD q 0 = B.getD (p + q) 0 := by simp [List.getD, List.getElem?_drop]
theorem DP.shift {B : List Nat} {a b p q : Nat} {r : Option (Int × Nat)} (h : DP (B.drop p) a b q r) (hp : p ≤ B.length) : DP B a b (p + q) (sh p r) := by
  induction h with
  | none h1 => exact .none (h1.shift hp)
  | short h1 h2 => exact .short (h1.shift hp) (by rw [List.length_drop] at h2; omega)
  | plus h1 h2 h3 => rw [List.length_drop] at h2; rw [getD_drop] at h3; have := DP.plus (h1.shift hp) (by omega) h3; rw [Nat.add_assoc] at this; exact this
  | minus h1 h2 h3 h4 => rw [List.length_drop] at h2; rw [getD_drop] at h3; have := DP.minus (h1.shift hp) (by omega) h3 h4; rw [Nat.add_assoc] at this; exact this
  | again h1 h2 h3 _ ih => rw [List.length_drop] at h2; rw [getD_drop] at h3; exact DP.again (h1.shift hp) (by omega) h3 (by rw [Nat.add_assoc]; exact ih)
end Go.Ulp
namespace Go.Proofs.Ytdoiobdomngccaa
open Go.RowKit Go.Ulp
set_option linter.unusedVariables false
set_option linter.unusedSimpArgs false
set_option maxHeartbeats 1000000
set_option maxRecDepth 100000
/-- a slice from a place on -/
theorem cut_from {w0 : World} {ao : Option Addr} {cap m : Nat} {L : List Nat} (hm : m = L.length) (h : Ns .i64 w0 ao cap L) (hsh : SH ao cap) (k : Nat) (hk : k ≤ m) :
    ∃ ao' cap', (∀ w, (Instr.sliceAt 24 (.slice ao m cap) (some (.int .i64 (k : Int))) none none).run Try.prog w = .ok (.slice ao' (m - k) cap') w) ∧ (∀ w, Ns .i64 w ao cap L → Ns .i64 w ao' cap' (L.drop k)) ∧ SH ao' cap' := by
  have h1 := h.1
  have h2 := h.2.1
  unfold maxLen at h2
  rw [← hm] at h1
  rcases hsh with ⟨rfl, rfl⟩ | ⟨b, off, rfl⟩
  · have hm0 : m = 0 := by omega
    have hk0 : k = 0 := by omega
    subst hk0
    refine ⟨none, 0, fun w => ?_, fun w hw => by rw [List.drop_zero]; exact hw, .inl ⟨rfl, rfl⟩⟩
    rw [hm0]
    go_simp
  · refine ⟨cutAo b off cap k, cap - k, fun w => ?_, fun w hw => hw.cut k (by omega), SH.cut _ _ _ _⟩
    have h3 : k ≤ cap := by omega
    have h4 : ¬ m < k := by omega
    have h5 : ¬ cap < m := by omega
    clear hm h
    unfold cutAo
    go_simp
def RetDB (D : Option (Bool × Nat) → Prop) (w : World) (e : Ending) (w' : World) : Prop := ∃ r, D r ∧ e = .returned (.tuple #[.bool (vB r), .int .i64 (cN r)]) ∧ w = w'
def RetDI (D : Option (Int × Nat) → Prop) (w : World) (e : Ending) (w' : World) : Prop := ∃ r, D r ∧ e = .returned (.tuple #[.int .i64 (vI r), .int .i64 (cN r)]) ∧ w = w'
theorem drawLess_any (a b : Nat) (L : List Nat) (m : Nat) (ao : Option Addr) (cap : Nat) (w : World) (hm : m = L.length) (hbit : AllBit L) (hN : Ns .i64 w ao cap L) (hsh : SH ao cap) (hL : m ≤ 8000) (hb1 : 1 ≤ b) (hb2 : b ≤ 1000000) (ha : a ≤ 1000000) :
    Calls Try.prog 86 #[.int .i64 (a : Int), .int .i64 (b : Int), .slice ao m cap] w (RetDB (DL L a b 1 0) w) := by
  have HM := hid hm
  have HB := hid hbit
  have HN := hid hN
  clear hm hbit hN
  go_enter Try.func86, Try.ntmps86
  go_wp2_with fail
  go_loop [8, 9] (fun s8 s9 => ∃ q k : Nat, s8 = .int .i64 (q : Int) ∧ s9 = .int .i64 (k : Int) ∧ q ≤ m ∧ 1 ≤ k ∧ k ≤ q + 2 ∧ ∀ r, DL L a b k q r → DL L a b 1 0 r) (fun s8 s9 => (m - (intOf s8).toNat) * 2 + (2 - (intOf s9).toNat))
  case atStart => exact ⟨0, 1, rfl, rfl, by omega, by omega, by omega, fun r hr => hr⟩
  case round =>
    obtain ⟨q, k, rfl, rfl, hqm, hk1, hk2, hfw⟩ := hrel
    have HF := hid hfw
    obtain ⟨ao', cap', hrun, hN', hsh'⟩ := cut_from HM.out HN.out hsh q hqm
    have hbk : b * k ≤ 1000000 * 8002 := Nat.mul_le_mul hb2 (by omega)
    have hbk1 : 1 ≤ b * k := Nat.mul_pos hb1 hk1
    obtain ⟨n, hn⟩ : ∃ n, n = b * k := ⟨_, rfl⟩
    have en : (b : Int) * (k : Int) = (n : Int) := by rw [hn]; exact (Int.natCast_mul _ _).symm
    have hn1 : (n : Int) ≤ 8002000000 := by omega
    have hkn : 2 ≤ n ∨ k = 1 := by
      rcases Nat.lt_or_ge k 2 with h | h
      · right; omega
      · left; rw [hn]; exact Nat.le_trans h (Nat.le_mul_of_pos_left _ hb1)
    have CB := hid (drawBelow_any n (L.drop q) (m - q) ao' cap' w (by rw [List.length_drop, ← HM.out]) (HB.out.drop q) (hN' w HN.out) hsh' (by omega) (by omega) (by omega))
    have HKN := hid hkn
    have HNN := hid hn
    clear hfw hkn hbk hbk1 hn hN' hsh'
    go_wp2_with fail
    refine CB.out.mono ?_
    rintro e w2 ⟨r, hD, rfl, rfl⟩
    have hS := hD.shift (by rw [← HM.out]; exact hqm)
    rw [Nat.add_zero] at hS
    clear hD
    cases r with
    | none =>
      have HD := hid (HF.out _ (.none (by rw [← HNN.out]; exact hS)))
      unfold vN cN
      clear hS
      go_wp2_with fail
      go_ret2
      exact ⟨none, HD.out, rfl, rfl⟩
    | some xt =>
      obtain ⟨x, t⟩ := xt
      have hge := hS.ge x (q + t) rfl
      rw [← HM.out] at hge
      have hge1 := hge.1
      have hge2 := hge.2.1
      have hx9 : x < 9000000000 := by have := hge.2.2; omega
      have hqk : k = 1 ∨ 1 ≤ t := by
        rcases HKN.out with h | h
        · right; have := kn_pos n h; omega
        · left; exact h
      have HQ := hid hqk
      unfold vN cN
      by_cases hxa : x < a
      · have HG := hid (fun r hr => HF.out r (.go (by rw [← HNN.out]; exact hS) hxa hr))
        clear hS hge hge1 hqk
        go_wp2_with fail
        go_round
        case rel => exact ⟨q + t, k + 1, by go_num, by go_num, hge2, by omega, by have := HQ.out; omega, HG.out⟩
        case measure => have := HQ.out; simp [intOf]; omega
      · have HG := hid (HF.out _ (.stop (by rw [← HNN.out]; exact hS) (by omega)))
        clear hS hge hge1 hqk
        go_wp2_with fail
        go_ret2
        refine ⟨_, HG.out, ?_, rfl⟩
        simp [vB, cN, sh]
        rw [Bool.eq_iff_iff]; simp; omega
def DEI (L : List Nat) (a b q c : Nat) : Prop := ∀ r, DE L b c q r → DE L b a 0 r
theorem drawExp_any (a b : Nat) (L : List Nat) (m : Nat) (ao : Option Addr) (cap : Nat) (w : World) (hm : m = L.length) (hbit : AllBit L) (hN : Ns .i64 w ao cap L) (hsh : SH ao cap) (hL : m ≤ 8000) (hb1 : 1 ≤ b) (hb2 : b ≤ 1000000) (ha : a ≤ 1000000000) :
    Calls Try.prog 37 #[.int .i64 (a : Int), .int .i64 (b : Int), .slice ao m cap] w (RetDB (DE L b a 0) w) := by
  have HM := hid hm
  have HB := hid hbit
  have HN := hid hN
  clear hm hbit hN
  go_enter Try.func37, Try.ntmps37
  go_wp2_with fail
  go_loop [0, 8] (fun s0 s8 => ∃ c q : Nat, s0 = .int .i64 (c : Int) ∧ s8 = .int .i64 (q : Int) ∧ c ≤ a ∧ q ≤ m ∧ DEI L a b q c) (fun s0 _ => (intOf s0).toNat)
  case atStart => exact ⟨a, 0, rfl, rfl, Nat.le_refl _, by omega, fun r hr => hr⟩
  case round =>
    obtain ⟨c, q, rfl, rfl, hca, hqm, hfw⟩ := hrel
    have HF := hid hfw
    obtain ⟨ao', cap', hrun, hN', hsh'⟩ := cut_from HM.out HN.out hsh q hqm
    by_cases hcb : c < b
    · have CL := hid (drawLess_any c b (L.drop q) (m - q) ao' cap' w (by rw [List.length_drop, ← HM.out]) (HB.out.drop q) (hN' w HN.out) hsh' (by omega) hb1 hb2 (by omega))
      clear hfw hN' hsh'
      go_wp2_with fail
      refine CL.out.mono ?_
      rintro e w2 ⟨r, hD, rfl, rfl⟩
      have hS := hD.shift (by rw [← HM.out]; exact hqm)
      rw [Nat.add_zero] at hS
      have hG := HF.out _ (.base hcb hS)
      clear hD
      cases r with
      | none =>
        have HD := hid hG
        unfold vB cN
        clear hS hG
        go_wp2_with fail
        go_ret2
        exact ⟨none, HD.out, rfl, rfl⟩
      | some xt =>
        obtain ⟨x, t⟩ := xt
        have hge := hS.ge x (q + t) rfl
        rw [← HM.out] at hge
        have hge2 := hge.2.1
        have HD := hid hG
        unfold vB cN
        clear hS hG hge
        go_wp2_with fail
        go_ret2
        refine ⟨_, HD.out, ?_, rfl⟩
        simp [vB, cN, sh]
    · have CL : Hid (Calls Try.prog 86 #[.int .i64 1, .int .i64 1, .slice ao' (m - q) cap'] w (RetDB (DL (L.drop q) 1 1 1 0) w)) := hid (drawLess_any 1 1 (L.drop q) (m - q) ao' cap' w (by rw [List.length_drop, ← HM.out]) (HB.out.drop q) (hN' w HN.out) hsh' (by omega) (by omega) (by omega) (by omega))
      clear hfw hN' hsh'
      go_wp2_with fail
      refine CL.out.mono ?_
      rintro e w2 ⟨r, hD, rfl, rfl⟩
      have hS := hD.shift (by rw [← HM.out]; exact hqm)
      rw [Nat.add_zero] at hS
      clear hD
      cases r with
      | none =>
        have HD := hid (HF.out _ (.none (by omega) hS))
        unfold vB cN
        clear hS
        go_wp2_with fail
        go_ret2
        exact ⟨none, HD.out, rfl, rfl⟩
      | some xt =>
        obtain ⟨x, t⟩ := xt
        have hge := hS.ge x (q + t) rfl
        rw [← HM.out] at hge
        have hge2 := hge.2.1
        unfold vB cN
        cases x
        · have HD := hid (HF.out _ (.no (by omega) hS))
          clear hS hge
          go_wp2_with fail
          go_ret2
          refine ⟨_, HD.out, ?_, rfl⟩
          simp [vB, cN, sh]
        · have HD := hid (fun r hr => HF.out r (.yes (by omega) hS hr))
          clear hS hge
          go_wp2_with fail
          go_round
          case rel => exact ⟨c - b, q + t, by rw [show ((c - b : Nat) : Int) = (c : Int) - (b : Int) by omega], by go_num, by omega, hge2, HD.out⟩
          case measure => simp [intOf]; omega
theorem drawCount_any (a b : Nat) (L : List Nat) (m : Nat) (ao : Option Addr) (cap : Nat) (w : World) (hm : m = L.length) (hbit : AllBit L) (hN : Ns .i64 w ao cap L) (hsh : SH ao cap) (hL : m ≤ 8000) (hb1 : 1 ≤ b) (hb2 : b ≤ 1000000) (ha1 : 1 ≤ a) (ha : a ≤ 1000000000) :
    Calls Try.prog 41 #[.int .i64 (a : Int), .int .i64 (b : Int), .slice ao m cap] w (RetDN (DC L a b 0 0) w) := by
  have HM := hid hm
  have HB := hid hbit
  have HN := hid hN
  clear hm hbit hN
  go_enter Try.func41, Try.ntmps41
  go_wp2_with fail
  go_loop [8, 9] (fun s8 s9 => ∃ q k : Nat, s8 = .int .i64 (q : Int) ∧ s9 = .int .i64 (k : Int) ∧ q ≤ m ∧ k ≤ q ∧ ∀ r, DC L a b k q r → DC L a b 0 0 r) (fun s8 _ => m - (intOf s8).toNat)
  case atStart => exact ⟨0, 0, rfl, rfl, by omega, by omega, fun r hr => hr⟩
  case round =>
    obtain ⟨q, k, rfl, rfl, hqm, hkq, hfw⟩ := hrel
    have HF := hid hfw
    obtain ⟨ao', cap', hrun, hN', hsh'⟩ := cut_from HM.out HN.out hsh q hqm
    have CE := hid (drawExp_any a b (L.drop q) (m - q) ao' cap' w (by rw [List.length_drop, ← HM.out]) (HB.out.drop q) (hN' w HN.out) hsh' (by omega) hb1 hb2 ha)
    clear hfw hN' hsh'
    go_wp2_with fail
    refine CE.out.mono ?_
    rintro e w2 ⟨r, hD, rfl, rfl⟩
    have hS := hD.shift (by rw [← HM.out]; exact hqm)
    rw [Nat.add_zero] at hS
    clear hD
    cases r with
    | none =>
      have HD := hid (HF.out _ (.none hS))
      unfold vB cN
      clear hS
      go_wp2_with fail
      go_ret2
      exact ⟨none, HD.out, rfl, rfl⟩
    | some xt =>
      obtain ⟨x, t⟩ := xt
      have hge := hS.ge x (q + t) rfl
      rw [← HM.out] at hge
      have hge2 := hge.2.1
      have hge3 := hge.2.2 (by omega)
      unfold vB cN
      cases x
      · have HD := hid (HF.out _ (.stop hS))
        clear hS hge
        go_wp2_with fail
        go_ret2
        refine ⟨_, HD.out, ?_, rfl⟩
        simp [vN, cN]
      · have HD := hid (fun r hr => HF.out r (.go hS hr))
        clear hS hge
        go_wp2_with fail
        go_round
        case rel => exact ⟨q + t, k + 1, by go_num, by go_num, hge2, by omega, HD.out⟩
        case measure => simp [intOf]; omega
theorem drawLaplace_any (a b : Nat) (L : List Nat) (m : Nat) (ao : Option Addr) (cap : Nat) (w : World) (hm : m = L.length) (hbit : AllBit L) (hN : Ns .i64 w ao cap L) (hsh : SH ao cap) (hL : m ≤ 8000) (hb1 : 1 ≤ b) (hb2 : b ≤ 1000000) (ha1 : 1 ≤ a) (ha : a ≤ 1000000000) :
    Calls Try.prog 43 #[.int .i64 (a : Int), .int .i64 (b : Int), .slice ao m cap] w (RetDI (DP L a b 0) w) := by
  have HM := hid hm
  have HB := hid hbit
  have HN := hid hN
  have hcap := hN.1
  rw [← hm] at hcap
  clear hm hbit hN
  go_enter Try.func43, Try.ntmps43
  go_wp2_with fail
  go_loop [8] (fun s8 => ∃ q : Nat, s8 = .int .i64 (q : Int) ∧ q ≤ m ∧ ∀ r, DP L a b q r → DP L a b 0 r) (fun s8 => m - (intOf s8).toNat)
  case atStart => exact ⟨0, rfl, by omega, fun r hr => hr⟩
  case round =>
    obtain ⟨q, rfl, hqm, hfw⟩ := hrel
    have HF := hid hfw
    obtain ⟨ao', cap', hrun, hN', hsh'⟩ := cut_from HM.out HN.out hsh q hqm
    have CE := hid (drawCount_any a b (L.drop q) (m - q) ao' cap' w (by rw [List.length_drop, ← HM.out]) (HB.out.drop q) (hN' w HN.out) hsh' (by omega) hb1 hb2 ha1 ha)
    clear hfw hN' hsh'
    go_wp2_with fail
    refine CE.out.mono ?_
    rintro e w2 ⟨r, hD, rfl, rfl⟩
    have hS := hD.shift (by rw [← HM.out]; exact hqm)
    rw [Nat.add_zero] at hS
    clear hD
    cases r with
    | none =>
      have HD := hid (HF.out _ (.none hS))
      unfold vN cN
      clear hS
      go_wp2_with fail
      go_ret2
      exact ⟨none, HD.out, rfl, rfl⟩
    | some xt =>
      obtain ⟨x, t⟩ := xt
      have hge := hS.ge x (q + t) rfl
      rw [← HM.out] at hge
      have hge2 := hge.2.1
      have hge3 := hge.2.2 (by omega)
      have hxb := hS.cnt' x (q + t) rfl (by omega)
      unfold vN cN
      by_cases hend : m ≤ q + t
      · have HD := hid (HF.out _ (.short hS (by rw [← HM.out]; exact hend)))
        clear hS hge
        go_wp2_with fail
        go_ret2
        exact ⟨none, HD.out, rfl, rfl⟩
      · obtain ⟨b', off', hao, hcl⟩ := HN.out.2.2 (by rw [← HM.out]; omega)
        subst hao
        obtain ⟨d, hd⟩ : ∃ d, d = L.getD (q + t) 0 := ⟨_, rfl⟩
        have hc := hcl (q + t) (by rw [← HM.out]; omega)
        unfold lb at hc
        rw [← hd] at hc
        have hd2 : d < 2 := by rw [hd]; exact bit_getD _ HB.out _
        have eqt : (q : Int) + (t : Int) = ((q + t : Nat) : Int) := by omega
        obtain ⟨z, hz⟩ : ∃ z, z = q + t := ⟨_, rfl⟩
        rw [← hz] at hc eqt
        have hzm : z < m := by omega
        have HZ := hid hz
        by_cases hd0 : d = 0
        · have HD := hid (HF.out _ (.plus hS (by rw [← HM.out]; omega) (by rw [← hd]; exact hd0)))
          subst hd0
          clear hS hge hd hcl hz
          go_wp2_with fail
          go_ret2
          refine ⟨_, HD.out, ?_, rfl⟩
          have := HZ.out
          simp [vI, cN]
          omega
        · have hdb : ((d : Int) == 0) = false := by simp; omega
          by_cases hx : 0 < x
          · have HD := hid (HF.out _ (.minus hS (by rw [← HM.out]; omega) (by rw [← hd]; exact hd0) hx))
            clear hS hge hd hcl hz
            go_wp2_with fail
            go_ret2
            refine ⟨_, HD.out, ?_, rfl⟩
            have := HZ.out
            simp [vI, cN]
            omega
          · obtain rfl : x = 0 := by omega
            have HD := hid (fun r hr => HF.out r (.again hS (by rw [← HM.out]; omega) (by rw [← hd]; exact hd0) hr))
            clear hS hge hd hcl hz
            go_wp2_with fail
            go_round
            case rel => exact ⟨q + t + 1, by have := HZ.out; first | go_num | (rw [← this]; go_num), by omega, HD.out⟩
            case measure => have := HZ.out; simp [intOf]; omega
end Go.Proofs.Ytdoiobdomngccaa
