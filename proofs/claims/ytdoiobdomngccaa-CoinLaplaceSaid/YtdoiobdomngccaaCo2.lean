/- The program's draws from its tape: below, part, rest. -/
import Derived.Test.YtdoiobdomngccaaCo1
import Derived.Test.YtdoiobdomngccaaShelf
import Derived.Deep.DeepCutAuto
import Derived.Deep.CutBlock
set_option linter.unusedVariables false
set_option linter.unusedSimpArgs false
namespace Go.Ulp
open Go.RowKit
theorem bitLenAux_bl (f : Nat) : ∀ n, n < 2 ^ f → Lib.bitLenAux f n = bl n := by
  induction f with
  | zero => intro n h; have : n = 0 := by simpa using h
            subst this; rfl
  | succ f ih =>
    intro n h
    unfold Lib.bitLenAux
    by_cases h0 : n = 0
    · subst h0; rfl
    · rw [if_neg h0, bl_half n (by omega), ih (n / 2) (by rw [Nat.pow_succ] at h; omega)]
theorem bitLen_bl (n : Nat) (h : n < 18446744073709551616) : Lib.bitLen n = bl n := bitLenAux_bl 64 n (by simpa using h)
/-- how much of the tape is left, twice, and one while there is some -/
def tm (w : World) (g N : Nat) : Nat := (N - (intOf ((w.cell? ⟨g, 1, none⟩).getD undef)).toNat) * 2 + (match w.cell? ⟨g, 2, none⟩ with | some (.bool true) => 0 | _ => 1)
theorem tm_eq {w : World} {g N p : Nat} {s : ByteArray} {nn : Bool} (h : TP w g s p nn) : tm w g N = (N - p) * 2 + (if nn = true then 0 else 1) := by
  obtain ⟨h1, h2, h3, _⟩ := h
  unfold tm
  rw [h2, h3]
  cases nn <;> simp [intOf]
/-- what a draw from p on leaves: a value and the place behind it, or the tape's end -/
def OutN (g : Nat) (s : ByteArray) (p : Nat) (v : Int) (w' : World) : Option (Nat × Nat) → Prop
  | none => ∃ q, p ≤ q ∧ TP w' g s q true
  | some (x, q) => v = (x : Int) ∧ TP w' g s q false
def OutI (g : Nat) (s : ByteArray) (p : Nat) (v : Int) (w' : World) : Option (Int × Nat) → Prop
  | none => ∃ q, p ≤ q ∧ TP w' g s q true
  | some (x, q) => v = x ∧ TP w' g s q false
def OutB (g : Nat) (s : ByteArray) (p : Nat) (v : Bool) (w' : World) : Option (Bool × Nat) → Prop
  | none => ∃ q, p ≤ q ∧ TP w' g s q true
  | some (x, q) => v = x ∧ TP w' g s q false
def OutT (g : Nat) (s : ByteArray) (p a : Nat) (v : Bool) (w' : World) : Option (Nat × Nat) → Prop
  | none => ∃ q, p ≤ q ∧ TP w' g s q true
  | some (x, q) => v = decide (x < a) ∧ TP w' g s q false
def DrawsN (g : Nat) (s : ByteArray) (p : Nat) (D : Option (Nat × Nat) → Prop) (w : World) (e : Ending) (w' : World) : Prop := ∃ v : Int, e = .returned (.int .i64 v) ∧ ∃ r, D r ∧ OutN g s p v w' r ∧ Below g w w'
def DrawsI (g : Nat) (s : ByteArray) (p : Nat) (D : Option (Int × Nat) → Prop) (w : World) (e : Ending) (w' : World) : Prop := ∃ v : Int, e = .returned (.int .i64 v) ∧ ∃ r, D r ∧ OutI g s p v w' r ∧ Below g w w'
def DrawsB (g : Nat) (s : ByteArray) (p : Nat) (D : Option (Bool × Nat) → Prop) (w : World) (e : Ending) (w' : World) : Prop := ∃ v : Bool, e = .returned (.bool v) ∧ ∃ r, D r ∧ OutB g s p v w' r ∧ Below g w w'
/-- as below, with a test behind it -/
def DrawsT (g : Nat) (s : ByteArray) (p a : Nat) (D : Option (Nat × Nat) → Prop) (w : World) (e : Ending) (w' : World) : Prop := ∃ v : Bool, e = .returned (.bool v) ∧ ∃ r, D r ∧ OutT g s p a v w' r ∧ Below g w w'
theorem pow60 {k : Nat} (h : k ≤ 60) : 2 ^ k ≤ 1152921504606846976 := Nat.le_trans (Nat.pow_le_pow_right (by omega) h) (by decide)
end Go.Ulp
namespace Go.Proofs.Ytdoiobdomngccaa
open Go.RowKit Go.Ulp
set_option linter.unusedVariables false
set_option linter.unusedSimpArgs false
set_option maxHeartbeats 1000000
set_option maxRecDepth 100000
theorem len_any (n : Nat) (h1 : 1 ≤ n) (h2 : n ≤ 1152921504606846976) (w : World) :
    Calls Try.prog 127 #[.int .u64 ((n : Int) - 1)] w fun e w' => e = .returned (.int .i64 (kn n : Int)) ∧ w = w' := by
  refine (Try.bits_Len ((n : Int) - 1) w (by omega) (by omega)).mono ?_
  rintro e w' ⟨rfl, rfl⟩
  refine ⟨ret_int ?_, rfl⟩
  rw [show ((n : Int) - 1).toNat = n - 1 by omega, bitLen_bl _ (by omega)]
  rfl
/-- what a loop of draws keeps -/
def BI (g : Nat) (s : ByteArray) (n p : Nat) (w wr : World) : Prop := ∃ p' nn, TP wr g s p' nn ∧ p ≤ p' ∧ Below g w wr ∧ ((nn = false ∧ p' ≤ 8 * s.size ∧ ∀ r, DB (tb s) n p' r → DB (tb s) n p r) ∨ (nn = true ∧ DB (tb s) n p none))
theorem below_any (g : Nat) (s : ByteArray) (n p : Nat) (w : World) (h : TP w g s p false) (hp : p ≤ 8 * s.size) (hs : s.size ≤ 1000) (hn : 1 ≤ n) (hn2 : n ≤ 1152921504606846976) :
    Calls Try.prog 80 #[.pointer (some ⟨g, 0, none⟩), .int .i64 (n : Int)] w (DrawsN g s p (DB (tb s) n p) w) := by
  have hk := kn_le60 n hn hn2
  have LN := hid (fun w => len_any n hn hn2 w)
  have hlt := World.block_lt_of_cell? w _ h.1
  have w1 : (IntKind.u64).wrap ((n : Int) - 1) = (n : Int) - 1 := by rw [IntWalk.u64_in _ (by omega)]
  have H0 := hid h
  clear h
  go_enter Try.func80, Try.ntmps80
  go_wp2_with fail
  go_loopw [5] (fun _ wr => BI g s n p w wr) (fun _ wr => tm wr g (8 * s.size))
  case atStart => exact ⟨p, false, H0.out, Nat.le_refl _, Below.refl _ _, .inl ⟨rfl, hp, fun r hr => hr⟩⟩
  case round =>
    obtain ⟨p', nn, hT, hpl, hbw, hor⟩ := hrel
    obtain ⟨k0, k1, k2, f1, f2⟩ := id hT
    have HT := hid hT
    clear hT
    cases nn
    · have hor' : p' ≤ 8 * s.size ∧ ∀ r, DB (tb s) n p' r → DB (tb s) n p r := by
        rcases hor with ⟨_, h1, h2⟩ | ⟨h1, _⟩
        · exact ⟨h1, h2⟩
        · cases h1
      obtain ⟨hp', hfw⟩ := hor'
      have HF := hid hfw
      clear hor hfw
      have HP := hid hp'
      clear hp'
      go_upto_block 2 with (go_at_call 127; refine (LN.out _).mono ?_; rintro e w' ⟨rfl, rfl⟩)
      go_cut [5] (fun s5 wx => ∃ (x p'' : Nat) (mm : Bool), s5 = .int .i64 (x : Int) ∧ TP wx g s p'' mm ∧ Below g w wx ∧ x < 1152921504606846976 ∧ ((mm = false ∧ p'' = p' + kn n ∧ p' + kn n ≤ 8 * s.size ∧ x = bv (tb s) p' (kn n)) ∨ (mm = true ∧ 8 * s.size < p' + kn n ∧ p' ≤ p'')))
      case first => as_aux_lemma =>
        go_wp2_with fail
        go_loopw [5, 15] (fun s5 s15 wx => ∃ (i x p'' : Nat) (mm : Bool), s15 = .int .i64 (i : Int) ∧ i ≤ kn n ∧ s5 = .int .i64 (x : Int) ∧ x < 2 ^ i ∧ TP wx g s p'' mm ∧ Below g w wx ∧ ((mm = false ∧ p'' = p' + i ∧ p' + i ≤ 8 * s.size ∧ x = bv (tb s) p' i) ∨ (mm = true ∧ 8 * s.size < p' + kn n ∧ p' ≤ p''))) (fun _ s15 _ => kn n - (intOf s15).toNat)
        case atStart => exact ⟨0, 0, p', false, rfl, by omega, rfl, by omega, HT.out, hbw, .inl ⟨rfl, rfl, HP.out, rfl⟩⟩
        case round =>
          obtain ⟨i, x, p'', mm, rfl, hi, rfl, hx, hT2, hb2, hor⟩ := hrel
          have hx60 := Nat.lt_of_lt_of_le hx (pow60 (show i ≤ 60 by omega))
          have HX := hid hx
          have HT2 := hid hT2
          clear hx hT2
          by_cases hik : i < kn n
          · cases mm
            · have hor' : p'' = p' + i ∧ p' + i ≤ 8 * s.size ∧ x = bv (tb s) p' i := by
                rcases hor with ⟨_, h1⟩ | ⟨h1, _⟩
                · exact h1
                · cases h1
              obtain ⟨rfl, hpi, hxv⟩ := hor'
              have HXV := hid hxv
              clear hor hxv
              have hxs : x < 576460752303423488 := Nat.lt_of_lt_of_le HX.out (Nat.le_trans (Nat.pow_le_pow_right (by omega) (show i ≤ 59 by omega)) (by decide))
              by_cases hend : p' + i = 8 * s.size
              · have BE := hid (bit_end g s (p' + i) wr HT2.out hend hs)
                have HE := hid hend
                clear hend
                go_wp2_with (go_at_call 128; (with_reducible refine BE.out.mono ?_); rintro e w3 ⟨rfl, hT3, hb3⟩)
                go_roundw
                case rel => exact ⟨i + 1, 2 * x, p' + i, true, by go_num, by omega, by go_num, by rw [Nat.pow_succ]; have := HX.out; omega, hT3, hb2.trans hb3, .inr ⟨rfl, by have := HE.out; omega, by omega⟩⟩
                case measure => simp [intOf]; omega
              · have BG := hid (bit_go g s (p' + i) wr HT2.out (by omega) hs)
                obtain ⟨d, hd⟩ : ∃ d, d = (tb s).getD (p' + i) 0 := ⟨_, rfl⟩
                have hd2 : d < 2 := by rw [hd]; exact bit_getD _ (tb_bit s) _
                rw [← hd] at BG
                have HD := hid hd
                clear hd
                go_wp2_with (go_at_call 128; (with_reducible refine BG.out.mono ?_); rintro e w3 ⟨rfl, hT3, hb3⟩)
                go_roundw
                case rel => exact ⟨i + 1, 2 * x + d, p' + i + 1, false, by go_num, by omega, by go_num, by rw [Nat.pow_succ]; have := HX.out; omega, hT3, hb2.trans hb3, .inl ⟨rfl, by omega, by omega, by rw [bv_succ _ _ _ (by rw [tb_len]; omega), ← HXV.out, ← HD.out]⟩⟩
                case measure => simp [intOf]; omega
            · have hor' : 8 * s.size < p' + kn n ∧ p' ≤ p'' := by
                rcases hor with ⟨h1, _⟩ | ⟨_, h1⟩
                · cases h1
                · exact h1
              clear hor
              have hxs : x < 576460752303423488 := Nat.lt_of_lt_of_le HX.out (Nat.le_trans (Nat.pow_le_pow_right (by omega) (show i ≤ 59 by omega)) (by decide))
              have BN := hid (bit_none g s p'' wr HT2.out)
              go_wp2_with (go_at_call 128; (with_reducible refine BN.out.mono ?_); rintro e w3 ⟨rfl, hT3, hb3⟩)
              go_roundw
              case rel => exact ⟨i + 1, 2 * x, p'', true, by go_num, by omega, by go_num, by rw [Nat.pow_succ]; have := HX.out; omega, hT3, hb2.trans hb3, .inr ⟨rfl, hor'⟩⟩
              case measure => simp [intOf]; omega
          · obtain rfl : i = kn n := by omega
            go_wp2_with fail
            go_meet
            exact ⟨x, p'', mm, rfl, HT2.out, hb2, hx60, hor⟩
      case rest =>
        obtain ⟨x, p'', mm, rfl, hT2, hb2, hx60, hor⟩ := hcut
        clear k0 k1 k2 f1 f2
        obtain ⟨k0, k1, k2, f1, f2⟩ := id hT2
        have HT2 := hid hT2
        clear hT2
        cases mm
        · have hor' : p'' = p' + kn n ∧ p' + kn n ≤ 8 * s.size ∧ x = bv (tb s) p' (kn n) := by
            rcases hor with ⟨_, h1⟩ | ⟨h1, _⟩
            · exact h1
            · cases h1
          obtain ⟨rfl, hpi, hxv⟩ := hor'
          clear hor
          by_cases hxn : x < n
          · have HD := hid (HF.out _ (DB.hit (by rw [tb_len]; exact hpi) (by rw [← hxv]; exact hxn)))
            rw [← hxv] at HD
            clear hxv
            go_wp2_with fail
            go_ret
            exact ⟨_, rfl, _, HD.out, ⟨rfl, HT2.out⟩, hb2⟩
          · have HD := hid (fun r hr => HF.out r (DB.miss (by rw [tb_len]; exact hpi) (by rw [← hxv]; omega) hr))
            have hkp : 0 < kn n := by
              rcases Nat.eq_zero_or_pos (kn n) with e | e
              · rw [e, bv_zero] at hxv; omega
              · exact e
            clear hxv
            have hm1 := tm_eq (N := 8 * s.size) HT.out
            have hm2 := tm_eq (N := 8 * s.size) HT2.out
            have HM1 := hid hm1
            have HM2 := hid hm2
            clear hm1 hm2
            go_wp2_with fail
            go_roundw
            case rel => exact ⟨p' + kn n, false, HT2.out, by omega, hb2, .inl ⟨rfl, hpi, HD.out⟩⟩
            case measure => rw [HM1.out, HM2.out]; simp; omega
        · have hor' : 8 * s.size < p' + kn n ∧ p' ≤ p'' := by
            rcases hor with ⟨h1, _⟩ | ⟨_, h1⟩
            · cases h1
            · exact h1
          clear hor
          have HD := hid (HF.out _ (DB.short (by rw [tb_len]; exact hor'.1)))
          have hm1 := tm_eq (N := 8 * s.size) HT.out
          have hm2 := tm_eq (N := 8 * s.size) HT2.out
          have HM1 := hid hm1
          have HM2 := hid hm2
          have hpp := HP.out
          clear hm1 hm2
          by_cases hxn : x < n
          all_goals
            go_wp2_with fail
            go_roundw
            case rel => exact ⟨p'', true, HT2.out, by omega, hb2, .inr ⟨rfl, HD.out⟩⟩
            case measure => rw [HM1.out, HM2.out]; simp; omega
    · have hD : DB (tb s) n p none := by
        rcases hor with ⟨h1, _⟩ | ⟨_, h1⟩
        · cases h1
        · exact h1
      have HD := hid hD
      clear hor hD
      go_wp2_with fail
      go_ret
      exact ⟨_, rfl, none, HD.out, ⟨_, hpl, HT.out⟩, hbw⟩
theorem part_any (g : Nat) (s : ByteArray) (a n p : Nat) (w : World) (h : TP w g s p false) (hp : p ≤ 8 * s.size) (hs : s.size ≤ 1000) (hn : 1 ≤ n) (hn2 : n ≤ 1152921504606846976) :
    Calls Try.prog 83 #[.pointer (some ⟨g, 0, none⟩), .int .i64 (a : Int), .int .i64 (n : Int)] w (DrawsT g s p a (DB (tb s) n p) w) := by
  have B := hid (below_any g s n p w h hp hs hn hn2)
  clear h
  go_enter Try.func83, Try.ntmps83
  go_wp2_with fail
  refine B.out.mono ?_
  rintro e w' ⟨v, rfl, r, hD, hO, hb⟩
  go_wp2_with fail
  go_ret
  refine ⟨_, rfl, r, hD, ?_, hb⟩
  cases r with
  | none => exact hO
  | some xq =>
    obtain ⟨rfl, hT⟩ := hO
    exact ⟨by simp, hT⟩
theorem rest_none (g : Nat) (s : ByteArray) (p : Nat) (r b : Int) (w : World) (h : TP w g s p true) :
    Calls Try.prog 129 #[.pointer (some ⟨g, 0, none⟩), .int .i64 r, .int .i64 b] w fun e w' => e = .returned (.bool true) ∧ w = w' := by
  obtain ⟨k0, k1, k2, f1, f2⟩ := id h
  go_enter Try.func129, Try.ntmps129
  go_wp2_with fail
  go_loop [7] (fun s7 => s7 = .int .i64 1) (fun _ => 0)
  case atStart => rfl
  case round =>
    subst hrel
    go_wp2_with fail
    go_ret
    exact ⟨rfl, rfl⟩
def RI (g : Nat) (s : ByteArray) (a b p k : Nat) (w wr : World) : Prop :=
  ∃ p' nn, TP wr g s p' nn ∧ p ≤ p' ∧ Below g w wr ∧ ((nn = false ∧ p' ≤ 8 * s.size ∧ k ≤ (p' - p) + 2 ∧ ∀ r, DL (tb s) a b k p' r → DL (tb s) a b 1 p r) ∨ (nn = true ∧ k ≤ 9000 ∧ DL (tb s) a b 1 p none))
theorem rest_any (g : Nat) (s : ByteArray) (a b p : Nat) (w : World) (h : TP w g s p false) (hp : p ≤ 8 * s.size) (hs : s.size ≤ 1000) (hb1 : 1 ≤ b) (hb2 : b ≤ 1000000) (ha : a ≤ 1000000) :
    Calls Try.prog 129 #[.pointer (some ⟨g, 0, none⟩), .int .i64 (a : Int), .int .i64 (b : Int)] w (DrawsB g s p (DL (tb s) a b 1 p) w) := by
  have H0 := hid h
  clear h
  go_enter Try.func129, Try.ntmps129
  go_wp2_with fail
  go_loopw [7] (fun s7 wr => ∃ k : Nat, s7 = .int .i64 (k : Int) ∧ 1 ≤ k ∧ RI g s a b p k w wr) (fun s7 wr => tm wr g (8 * s.size) + (2 - (intOf s7).toNat))
  case atStart => exact ⟨1, rfl, by omega, p, false, H0.out, Nat.le_refl _, Below.refl _ _, .inl ⟨rfl, hp, by omega, fun r hr => hr⟩⟩
  case round =>
    obtain ⟨k, rfl, hk1, p', nn, hT, hpl, hbw, hor⟩ := hrel
    obtain ⟨k0, k1, k2, f1, f2⟩ := id hT
    have HT := hid hT
    clear hT
    cases nn
    · have hor' : p' ≤ 8 * s.size ∧ k ≤ (p' - p) + 2 ∧ ∀ r, DL (tb s) a b k p' r → DL (tb s) a b 1 p r := by
        rcases hor with ⟨_, h1⟩ | ⟨h1, _⟩
        · exact h1
        · cases h1
      obtain ⟨hp', hk2, hfw⟩ := hor'
      have HF := hid hfw
      have hk3 : k ≤ 8002 := by omega
      have hbk : b * k ≤ 1000000 * 8002 := Nat.mul_le_mul hb2 hk3
      have hbk1 : 1 ≤ b * k := Nat.mul_pos hb1 hk1
      obtain ⟨n, hn⟩ : ∃ n, n = b * k := ⟨_, rfl⟩
      have en : (b : Int) * (k : Int) = (n : Int) := by rw [hn]; exact (Int.natCast_mul _ _).symm
      have PA := hid (part_any g s a n p' wr HT.out hp' hs (by omega) (by omega))
      have hn1 : (n : Int) ≤ 8002000000 := by omega
      have hkn : 2 ≤ n ∨ k = 1 := by
        rcases Nat.lt_or_ge k 2 with h | h
        · right; omega
        · left; rw [hn]; exact Nat.le_trans h (Nat.le_mul_of_pos_left _ hb1)
      have HN := hid hn
      have HKN := hid hkn
      have hm1 := tm_eq (N := 8 * s.size) HT.out
      have HM1 := hid hm1
      clear hor hfw hn hkn hbk hbk1 hm1
      go_upto_if 20 with (go_at_call 83; (with_reducible refine PA.out.mono ?_); rintro e w2 ⟨v, rfl, r, hD, hO, hb⟩)
      cases r with
      | none =>
        obtain ⟨q, hq, hT2⟩ := hO
        have hN := HF.out none (.none (by rw [← HN.out]; exact hD))
        have HNo := hid hN
        have hm2 := tm_eq (N := 8 * s.size) hT2
        have HM2 := hid hm2
        clear hN hm2 hD
        cases v
        · go_wp2_with fail
          go_ret
          exact ⟨_, rfl, none, HNo.out, ⟨q, by omega, hT2⟩, hbw.trans hb⟩
        · go_wp2_with fail
          go_roundw
          case rel => exact ⟨k + 1, by go_num, by omega, q, true, hT2, by omega, hbw.trans hb, .inr ⟨rfl, by omega, HNo.out⟩⟩
          case measure => rw [HM1.out, HM2.out]; simp [intOf]; omega
      | some xq =>
        obtain ⟨x, q⟩ := xq
        obtain ⟨rfl, hT2⟩ := hO
        have hge := hD.ge _ _ rfl
        have hq8 : q ≤ 8 * s.size := by have := hge.2.1; rw [tb_len] at this; exact this
        have hm2 := tm_eq (N := 8 * s.size) hT2
        have HM2 := hid hm2
        by_cases hxa : x < a
        · have hG := fun r hr => HF.out r (.go (by rw [← HN.out]; exact hD) hxa hr)
          have HG := hid hG
          have hqk : k = 1 ∨ p' + 1 ≤ q := by
            rcases HKN.out with h | h
            · right; have := kn_pos n h; omega
            · left; exact h
          have HQ := hid hqk
          have hqp : p' ≤ q := by omega
          clear hG hm2 hD hge hqk
          go_wp2_with fail
          go_roundw
          case rel => exact ⟨k + 1, by go_num, by omega, q, false, hT2, by omega, hbw.trans hb, .inl ⟨rfl, hq8, by have := HQ.out; omega, HG.out⟩⟩
          case measure => have := HQ.out; rw [HM1.out, HM2.out]; simp [intOf]; omega
        · have hG := HF.out _ (.stop (by rw [← HN.out]; exact hD) (by omega))
          have HG := hid hG
          clear hG hm2 hD hge
          go_wp2_with fail
          go_ret
          exact ⟨_, rfl, _, HG.out, ⟨by rw [Bool.eq_iff_iff]; simp; omega, hT2⟩, hbw.trans hb⟩
    · have hor' : k ≤ 9000 ∧ DL (tb s) a b 1 p none := by
        rcases hor with ⟨h1, _⟩ | ⟨_, h1⟩
        · cases h1
        · exact h1
      have HD := hid hor'.2
      have hk9 := hor'.1
      clear hor hor'
      go_wp2_with fail
      go_ret
      exact ⟨_, rfl, none, HD.out, ⟨_, hpl, HT.out⟩, hbw⟩
end Go.Proofs.Ytdoiobdomngccaa
