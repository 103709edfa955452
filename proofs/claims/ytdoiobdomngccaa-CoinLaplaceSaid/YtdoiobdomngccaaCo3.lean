/- The program's draws from its tape: exp, count, laplace. -/
import Derived.Test.YtdoiobdomngccaaCo2
set_option linter.unusedVariables false
set_option linter.unusedSimpArgs false
namespace Go.Ulp
theorem DC.cnt {B : List Nat} {a b m p : Nat} {r : Option (Nat × Nat)} (h : DC B a b m p r) : ∀ x q, r = some (x, q) → 0 < a → x + p ≤ m + q := by
  induction h with
  | none => intro x q e; cases e
  | stop h1 => intro x q e ha; injection e with e; injection e with e1 e2; subst e1 e2; have := h1.ge _ _ rfl; omega
  | go h1 _ ih => intro x q e ha; have := ih x q e ha; have := (h1.ge _ _ rfl).2.2 ha; omega
end Go.Ulp
namespace Go.Proofs.Ytdoiobdomngccaa
open Go.RowKit Go.Ulp
set_option linter.unusedVariables false
set_option linter.unusedSimpArgs false
set_option maxHeartbeats 1000000
set_option maxRecDepth 100000
def XI (g : Nat) (s : ByteArray) (a b p i : Nat) (w wr : World) : Prop :=
  ∃ p' nn, TP wr g s p' nn ∧ p ≤ p' ∧ Below g w wr ∧ ((nn = false ∧ p' ≤ 8 * s.size ∧ ∀ r, DE (tb s) b (a - i * b) p' r → DE (tb s) b a p r) ∨ (nn = true ∧ DE (tb s) b a p none))
theorem exp_any (g : Nat) (s : ByteArray) (a b p : Nat) (w : World) (h : TP w g s p false) (hp : p ≤ 8 * s.size) (hs : s.size ≤ 1000) (hb1 : 1 ≤ b) (hb2 : b ≤ 1000000) (ha : a ≤ 1000000000) :
    Calls Try.prog 85 #[.pointer (some ⟨g, 0, none⟩), .int .i64 (a : Int), .int .i64 (b : Int)] w (DrawsB g s p (DE (tb s) b a p) w) := by
  have H0 := hid h
  obtain ⟨m, hm⟩ : ∃ m, m = a / b := ⟨_, rfl⟩
  obtain ⟨c, hc⟩ : ∃ c, c = a % b := ⟨_, rfl⟩
  have em : (a : Int) / (b : Int) = (m : Int) := by rw [hm]; exact (Int.natCast_ediv _ _).symm
  have ec : (a : Int) % (b : Int) = (c : Int) := by rw [hc]; exact (Int.natCast_emod _ _).symm
  have hcb : c < b := by rw [hc]; exact Nat.mod_lt _ hb1
  have hab : m * b + c = a := by rw [hm, hc, Nat.mul_comm]; exact Nat.div_add_mod a b
  have hma : m ≤ a := by rw [hm]; exact Nat.div_le_self _ _
  have HAB := hid hab
  clear h hm hc hab
  go_enter Try.func85, Try.ntmps85
  go_wp2_with fail
  go_loopw [10] (fun s10 wr => ∃ i : Nat, s10 = .int .i64 (i : Int) ∧ i ≤ m ∧ XI g s a b p i w wr) (fun s10 _ => m - (intOf s10).toNat)
  case atStart => exact ⟨0, rfl, by omega, p, false, H0.out, Nat.le_refl _, Below.refl _ _, .inl ⟨rfl, hp, fun r hr => by rwa [Nat.zero_mul, Nat.sub_zero] at hr⟩⟩
  case round =>
    obtain ⟨i, rfl, him, p', nn, hT, hpl, hbw, hor⟩ := hrel
    obtain ⟨k0, k1, k2, f1, f2⟩ := id hT
    have HT := hid hT
    clear hT
    by_cases hi : i < m
    · cases nn
      · have hor' : p' ≤ 8 * s.size ∧ ∀ r, DE (tb s) b (a - i * b) p' r → DE (tb s) b a p r := by
          rcases hor with ⟨_, h1⟩ | ⟨h1, _⟩
          · exact h1
          · cases h1
        obtain ⟨hp', hfw⟩ := hor'
        have HF := hid hfw
        have R11 : Hid (Calls Try.prog 129 #[.pointer (some ⟨g, 0, none⟩), .int .i64 1, .int .i64 1] wr (DrawsB g s p' (DL (tb s) 1 1 1 p') wr)) := hid (rest_any g s 1 1 p' wr HT.out hp' hs (by omega) (by omega) (by omega))
        have hib : b ≤ a - i * b := by
          have h1 : (i + 1) * b ≤ m * b := Nat.mul_le_mul_right _ hi
          have := HAB.out
          rw [Nat.add_mul] at h1; omega
        clear hor hfw
        go_upto_if 20 with (go_at_call 129; (with_reducible refine R11.out.mono ?_); rintro e w2 ⟨v, rfl, r, hD, hO, hb⟩)
        cases r with
        | none =>
          obtain ⟨q, hq, hT2⟩ := hO
          have HNo := hid (HF.out _ (.none hib hD))
          clear hD
          cases v
          · go_wp2_with fail
            go_ret
            exact ⟨_, rfl, none, HNo.out, ⟨q, by omega, hT2⟩, hbw.trans hb⟩
          · go_wp2_with fail
            go_roundw
            case rel => exact ⟨i + 1, by go_num, by omega, q, true, hT2, by omega, hbw.trans hb, .inr ⟨rfl, HNo.out⟩⟩
            case measure => simp [intOf]; omega
        | some xq =>
          obtain ⟨x, q⟩ := xq
          obtain ⟨rfl, hT2⟩ := hO
          have hge := hD.ge _ _ rfl
          have hq8 : q ≤ 8 * s.size := by have := hge.2.1; rw [tb_len] at this; exact this
          have hqp : p' ≤ q := by omega
          cases v
          · have HG := hid (HF.out _ (.no hib hD))
            clear hD hge
            go_wp2_with fail
            go_ret
            exact ⟨_, rfl, _, HG.out, ⟨rfl, hT2⟩, hbw.trans hb⟩
          · have HG := hid (fun r hr => HF.out r (.yes hib hD hr))
            clear hD hge
            go_wp2_with fail
            go_roundw
            case rel => exact ⟨i + 1, by go_num, by omega, q, false, hT2, by omega, hbw.trans hb, .inl ⟨rfl, hq8, fun r hr => HG.out r (by rw [show a - i * b - b = a - (i + 1) * b by rw [Nat.add_mul]; omega]; exact hr)⟩⟩
            case measure => simp [intOf]; omega
      · have hor' : DE (tb s) b a p none := by
          rcases hor with ⟨h1, _⟩ | ⟨_, h1⟩
          · cases h1
          · exact h1
        have HD := hid hor'
        clear hor hor'
        go_wp2_with fail
        go_ret
        exact ⟨_, rfl, none, HD.out, ⟨_, hpl, HT.out⟩, hbw⟩
    · obtain rfl : i = m := by omega
      cases nn
      · have hor' : p' ≤ 8 * s.size ∧ ∀ r, DE (tb s) b (a - i * b) p' r → DE (tb s) b a p r := by
          rcases hor with ⟨_, h1⟩ | ⟨h1, _⟩
          · exact h1
          · cases h1
        obtain ⟨hp', hfw⟩ := hor'
        have hac : a - i * b = c := by have := HAB.out; omega
        rw [hac] at hfw
        have HF := hid hfw
        have RL := hid (rest_any g s c b p' wr HT.out hp' hs hb1 hb2 (by omega))
        clear hor hfw hac
        go_wp2_with fail
        refine RL.out.mono ?_
        rintro e w2 ⟨v, rfl, r, hD, hO, hb⟩
        go_wp2_with fail
        go_ret
        refine ⟨_, rfl, r, HF.out _ (.base hcb hD), ?_, hbw.trans hb⟩
        cases r with
        | none => obtain ⟨q, hq, hT2⟩ := hO; exact ⟨q, by omega, hT2⟩
        | some xq => exact hO
      · have hor' : DE (tb s) b a p none := by
          rcases hor with ⟨h1, _⟩ | ⟨_, h1⟩
          · cases h1
          · exact h1
        have HD := hid hor'
        have RN := hid (rest_none g s p' (c : Int) (b : Int) wr HT.out)
        clear hor hor'
        go_wp2_with fail
        refine RN.out.mono ?_
        rintro e w2 ⟨rfl, rfl⟩
        go_wp2_with fail
        go_ret
        exact ⟨_, rfl, none, HD.out, ⟨_, hpl, HT.out⟩, hbw⟩
def CI (g : Nat) (s : ByteArray) (a b p m : Nat) (w wr : World) : Prop :=
  ∃ p' nn, TP wr g s p' nn ∧ p ≤ p' ∧ Below g w wr ∧ ((nn = false ∧ p' ≤ 8 * s.size ∧ m ≤ p' - p ∧ ∀ r, DC (tb s) a b m p' r → DC (tb s) a b 0 p r) ∨ (nn = true ∧ m ≤ 9000 ∧ DC (tb s) a b 0 p none))
theorem count_any (g : Nat) (s : ByteArray) (a b p : Nat) (w : World) (h : TP w g s p false) (hp : p ≤ 8 * s.size) (hs : s.size ≤ 1000) (hb1 : 1 ≤ b) (hb2 : b ≤ 1000000) (ha1 : 1 ≤ a) (ha : a ≤ 1000000000) :
    Calls Try.prog 89 #[.pointer (some ⟨g, 0, none⟩), .int .i64 (a : Int), .int .i64 (b : Int)] w (DrawsN g s p (DC (tb s) a b 0 p) w) := by
  have H0 := hid h
  clear h
  go_enter Try.func89, Try.ntmps89
  go_wp2_with fail
  go_loopw [7] (fun s7 wr => ∃ m : Nat, s7 = .int .i64 (m : Int) ∧ CI g s a b p m w wr) (fun _ wr => tm wr g (8 * s.size))
  case atStart => exact ⟨0, rfl, p, false, H0.out, Nat.le_refl _, Below.refl _ _, .inl ⟨rfl, hp, by omega, fun r hr => hr⟩⟩
  case round =>
    obtain ⟨m, rfl, p', nn, hT, hpl, hbw, hor⟩ := hrel
    obtain ⟨k0, k1, k2, f1, f2⟩ := id hT
    have HT := hid hT
    clear hT
    cases nn
    · have hor' : p' ≤ 8 * s.size ∧ m ≤ p' - p ∧ ∀ r, DC (tb s) a b m p' r → DC (tb s) a b 0 p r := by
        rcases hor with ⟨_, h1⟩ | ⟨h1, _⟩
        · exact h1
        · cases h1
      obtain ⟨hp', hmp, hfw⟩ := hor'
      have HF := hid hfw
      have EX := hid (exp_any g s a b p' wr HT.out hp' hs hb1 hb2 ha)
      have HM1 := hid (tm_eq (N := 8 * s.size) HT.out)
      have hm9 : m ≤ 8000 := by omega
      clear hor hfw
      go_upto_if 18 with (go_at_call 85; (with_reducible refine EX.out.mono ?_); rintro e w2 ⟨v, rfl, r, hD, hO, hb⟩)
      cases r with
      | none =>
        obtain ⟨q, hq, hT2⟩ := hO
        have HNo := hid (HF.out _ (.none hD))
        have HM2 := hid (tm_eq (N := 8 * s.size) hT2)
        clear hD
        cases v
        · go_wp2_with fail
          go_ret
          exact ⟨_, rfl, none, HNo.out, ⟨q, by omega, hT2⟩, hbw.trans hb⟩
        · go_wp2_with fail
          go_roundw
          case rel => exact ⟨m + 1, by go_num, q, true, hT2, by omega, hbw.trans hb, .inr ⟨rfl, by omega, HNo.out⟩⟩
          case measure => rw [HM1.out, HM2.out]; simp; omega
      | some xq =>
        obtain ⟨x, q⟩ := xq
        obtain ⟨rfl, hT2⟩ := hO
        have hge := hD.ge _ _ rfl
        have hq8 : q ≤ 8 * s.size := by have := hge.2.1; rw [tb_len] at this; exact this
        have hqp : p' < q := hge.2.2 (by omega)
        have HM2 := hid (tm_eq (N := 8 * s.size) hT2)
        cases v
        · have HG := hid (HF.out _ (.stop hD))
          clear hD hge
          go_wp2_with fail
          go_ret
          exact ⟨_, rfl, _, HG.out, ⟨rfl, hT2⟩, hbw.trans hb⟩
        · have HG := hid (fun r hr => HF.out r (.go hD hr))
          clear hD hge
          go_wp2_with fail
          go_roundw
          case rel => exact ⟨m + 1, by go_num, q, false, hT2, by omega, hbw.trans hb, .inl ⟨rfl, hq8, by omega, HG.out⟩⟩
          case measure => rw [HM1.out, HM2.out]; simp; omega
    · have hor' : m ≤ 9000 ∧ DC (tb s) a b 0 p none := by
        rcases hor with ⟨h1, _⟩ | ⟨_, h1⟩
        · cases h1
        · exact h1
      have HD := hid hor'.2
      clear hor hor'
      go_wp2_with fail
      go_ret
      exact ⟨_, rfl, none, HD.out, ⟨_, hpl, HT.out⟩, hbw⟩
def PI (g : Nat) (s : ByteArray) (a b p : Nat) (w wr : World) : Prop :=
  ∃ p' nn, TP wr g s p' nn ∧ p ≤ p' ∧ Below g w wr ∧ ((nn = false ∧ p' ≤ 8 * s.size ∧ ∀ r, DP (tb s) a b p' r → DP (tb s) a b p r) ∨ (nn = true ∧ DP (tb s) a b p none))
theorem laplace_any (g : Nat) (s : ByteArray) (a b p : Nat) (w : World) (h : TP w g s p false) (hp : p ≤ 8 * s.size) (hs : s.size ≤ 1000) (hb1 : 1 ≤ b) (hb2 : b ≤ 1000000) (ha1 : 1 ≤ a) (ha : a ≤ 1000000000) :
    Calls Try.prog 91 #[.pointer (some ⟨g, 0, none⟩), .int .i64 (a : Int), .int .i64 (b : Int)] w (DrawsI g s p (DP (tb s) a b p) w) := by
  have H0 := hid h
  clear h
  go_enter Try.func91, Try.ntmps91
  go_wp2_with fail
  go_loopw [7] (fun _ wr => PI g s a b p w wr) (fun _ wr => tm wr g (8 * s.size))
  case atStart => exact ⟨p, false, H0.out, Nat.le_refl _, Below.refl _ _, .inl ⟨rfl, hp, fun r hr => hr⟩⟩
  case round =>
    obtain ⟨p', nn, hT, hpl, hbw, hor⟩ := hrel
    obtain ⟨k0, k1, k2, f1, f2⟩ := id hT
    have HT := hid hT
    clear hT
    cases nn
    · have hor' : p' ≤ 8 * s.size ∧ ∀ r, DP (tb s) a b p' r → DP (tb s) a b p r := by
        rcases hor with ⟨_, h1⟩ | ⟨h1, _⟩
        · exact h1
        · cases h1
      obtain ⟨hp', hfw⟩ := hor'
      have HF := hid hfw
      have CN := hid (count_any g s a b p' wr HT.out hp' hs hb1 hb2 ha1 ha)
      have HM1 := hid (tm_eq (N := 8 * s.size) HT.out)
      clear hor hfw
      go_wp2_with fail
      refine CN.out.mono ?_
      rintro e w2 ⟨v, rfl, r, hD, hO, hb⟩
      cases r with
      | none =>
        obtain ⟨q, hq, hT2⟩ := hO
        have HNo := hid (HF.out _ (.none hD))
        have BN := hid (bit_none g s q w2 hT2)
        clear hD hT2
        go_wp2_with (go_at_call 128; (with_reducible refine BN.out.mono ?_); rintro e w3 ⟨rfl, hT3, hb3⟩)
        go_ret
        exact ⟨_, rfl, none, HNo.out, ⟨q, by omega, hT3⟩, (hbw.trans hb).trans hb3⟩
      | some xq =>
        obtain ⟨x, q⟩ := xq
        obtain ⟨rfl, hT2⟩ := hO
        have hge := hD.ge _ _ rfl
        have hq8 : q ≤ 8 * s.size := by have := hge.2.1; rw [tb_len] at this; exact this
        have hqp : p' < q := hge.2.2 (by omega)
        have hxb := hD.cnt _ _ rfl (by omega)
        by_cases hend : q = 8 * s.size
        · have BE := hid (bit_end g s q w2 hT2 hend hs)
          have HNo := hid (HF.out _ (.short hD (by rw [tb_len]; omega)))
          clear hD hT2 hge hend
          go_wp2_with (go_at_call 128; (with_reducible refine BE.out.mono ?_); rintro e w3 ⟨rfl, hT3, hb3⟩)
          go_ret
          exact ⟨_, rfl, none, HNo.out, ⟨q, by omega, hT3⟩, (hbw.trans hb).trans hb3⟩
        · have BG := hid (bit_go g s q w2 hT2 (by omega) hs)
          have hlt : q < (tb s).length := by rw [tb_len]; omega
          obtain ⟨d, hd⟩ : ∃ d, d = (tb s).getD q 0 := ⟨_, rfl⟩
          have hd2 : d < 2 := by rw [hd]; exact bit_getD _ (tb_bit s) _
          rw [← hd] at BG
          by_cases hd0 : d = 0
          · have HG := hid (HF.out _ (.plus hD hlt (by rw [← hd]; exact hd0)))
            subst hd0
            clear hD hT2 hge hd
            go_wp2_with (go_at_call 128; (with_reducible refine BG.out.mono ?_); rintro e w3 ⟨rfl, hT3, hb3⟩)
            go_ret
            exact ⟨_, rfl, _, HG.out, ⟨rfl, hT3⟩, (hbw.trans hb).trans hb3⟩
          · have hdb : ((d : Int) == 0) = false := by simp; omega
            by_cases hx : 0 < x
            · have HG := hid (HF.out _ (.minus hD hlt (by rw [← hd]; exact hd0) hx))
              clear hD hT2 hge hd
              go_wp2_with (go_at_call 128; (with_reducible refine BG.out.mono ?_); rintro e w3 ⟨rfl, hT3, hb3⟩)
              go_ret
              exact ⟨_, rfl, _, HG.out, ⟨rfl, hT3⟩, (hbw.trans hb).trans hb3⟩
            · obtain rfl : x = 0 := by omega
              have HG := hid (fun r hr => HF.out r (.again hD hlt (by rw [← hd]; exact hd0) hr))
              clear hD hT2 hge hd
              go_wp2_with (go_at_call 128; (with_reducible refine BG.out.mono ?_); rintro e w3 ⟨rfl, hT3, hb3⟩)
              have HM2 := hid (tm_eq (N := 8 * s.size) hT3)
              go_roundw
              case rel => exact ⟨q + 1, false, hT3, by omega, (hbw.trans hb).trans hb3, .inl ⟨rfl, by omega, HG.out⟩⟩
              case measure => rw [HM1.out, HM2.out]; simp; omega
    · have hor' : DP (tb s) a b p none := by
        rcases hor with ⟨h1, _⟩ | ⟨_, h1⟩
        · cases h1
        · exact h1
      have HD := hid hor'
      clear hor hor'
      go_wp2_with fail
      go_ret
      exact ⟨_, rfl, none, HD.out, ⟨_, hpl, HT.out⟩, hbw⟩
end Go.Proofs.Ytdoiobdomngccaa
