/- SpanSums: what the proof leans on, part 16 (Dn2). -/
import Derived.Shelf.Spec.TrailingZeros
import Derived.Deep.DeepCutAuto
import Derived.Deep.CutBlock
import Derived.Test.YtfphmlmgjhebjaaGreatDoorKSpanSums2
import Derived.Test.YtfphmlmgjhebjaaGreatDoorKSpanSums7
import Derived.Test.YtfphmlmgjhebjaaGreatDoorKSpanSums12
import Derived.Test.YtfphmlmgjhebjaaGreatDoorKSpanSums14
set_option linter.unusedVariables false
set_option linter.unusedSimpArgs false
namespace Go.Ulp
open Go.RowKit
/-- a Dyad's fields, whose value is D (in its one form) -/
def VD (w : World) (D : Dy) (v : Value) : Prop := ∃ am cm, v = .agg #[.bool (decide (D.1 < 0)), .slice am (limbs D.1.natAbs).length cm, .int .i64 D.2] ∧ Ns .u32 w am cm (limbs D.1.natAbs)
def RetVD (w : World) (D : Dy) (e : Ending) (w' : World) : Prop := ∃ v, e = .returned v ∧ VD w' D v ∧ Below w.heap.size w w'
theorem VD.below {w w' : World} {D : Dy} {v : Value} (h : VD w D v) (hb : Below w.heap.size w w') : VD w' D v := by
  obtain ⟨am, cm, h1, h2⟩ := h
  exact ⟨am, cm, h1, h2.below hb⟩
/-- the table of the library's lies in its variable -/
def Tab (g : Nat) (w : World) : Prop := Go.Proofs.TabAt g Go.Lib.deBruijn32tab w
theorem Tab.below {g : Nat} {w w' : World} (h : Tab g w) (hb : Below w.heap.size w w') : Tab g w' := fun j hj =>
  (hb.cell (World.block_lt_of_cell? _ _ (h j hj))).trans (h j hj)
theorem ctz_tw (x : Nat) (h0 : x ≠ 0) (h1 : x < 2 ^ 32) : Lib.ctz 32 x = tw x ∧ tw x < 32 := by
  obtain ⟨m, hm, hk⟩ := Lib.ctzFrom_spec 32 x (by omega) h1
  have e : Lib.ctz 32 x = Lib.ctzFrom 32 x := by simp [Lib.ctz, h0]
  have h2 := (tw_od_mul (2 * m + 1) (Lib.ctzFrom 32 x) (by omega)).1
  rw [Nat.mul_comm, ← hm] at h2
  rw [e, h2]
  exact ⟨rfl, hk⟩
theorem tw_low (x r : Nat) (h0 : x ≠ 0) (h1 : x < 2 ^ 32) : tw (x + 2 ^ 32 * r) = tw x := by
  have hk := (ctz_tw x h0 h1).2
  obtain ⟨e1, e2⟩ := od_tw x (by omega)
  obtain ⟨d, hd⟩ : ∃ d, 32 = tw x + (d + 1) := ⟨31 - tw x, by omega⟩
  have e3 : x + 2 ^ 32 * r = (od x + 2 * (2 ^ d * r)) * 2 ^ tw x := by
    have h4 : 2 ^ 32 * r = 2 * (2 ^ d * r) * 2 ^ tw x := by
      rw [hd, Nat.pow_add, Nat.pow_succ]
      simp only [Nat.mul_assoc, Nat.mul_comm, Nat.mul_left_comm]
    rw [Nat.add_mul, e1, h4]
  rw [e3]
  exact (tw_od_mul _ _ (by omega)).1
theorem val_zeros_take (B : Nat) (L : List Nat) (i : Nat) (h : ∀ j, j < i → L.getD j 0 = 0) : val B (L.take i) = 0 := by
  refine val_zeros B _ (fun d hd => ?_)
  obtain ⟨j, hj, rfl⟩ := List.mem_iff_getElem.1 hd
  rw [List.length_take] at hj
  have h1 := h j (by omega)
  rw [getD_in _ _ (by omega)] at h1
  rw [List.getElem_take]; exact h1
/-- where the first limb that is not 0 stands -/
theorem tw_limbs (M i x : Nat) (hi : i < (limbs M).length) (hz : ∀ j, j < i → (limbs M).getD j 0 = 0) (hx : (limbs M).getD i 0 = x) (hx0 : x ≠ 0) : tw M = 32 * i + tw x := by
  have lL := limbs_lim M
  have hx1 : x < 2 ^ 32 := by rw [← hx]; exact lL.getD (by omega) i
  have h1 := val_take_drop 4294967296 (limbs M) i (by omega)
  have h2 := val_drop 4294967296 (limbs M) i hi
  have h3 := lval_limbs M
  unfold lval at h3
  rw [h3, val_zeros_take _ _ _ hz, h2, hx, Nat.zero_add] at h1
  have e : M = (x + 2 ^ 32 * val 4294967296 ((limbs M).drop (i + 1))) * 2 ^ (32 * i) := by
    conv => lhs; rw [h1]
    rw [Nat.mul_comm, Nat.pow_mul]
  rw [e, (tw_mul _ _ (by omega)).1, tw_low x _ hx0 hx1]; omega
theorem nrm_sg (neg : Bool) (M : Nat) (e : Int) (h : 0 < M) : nrm (sg neg M) e = (sg neg (od M), e + tw M) := by
  have hx : sg neg (M : Int) ≠ 0 := by unfold sg; cases neg <;> simp <;> omega
  have ha : (sg neg (M : Int)).natAbs = M := by rw [sg_abs, Int.natAbs_natCast]
  have h1 := nrm_abs (sg neg (M : Int)) e hx
  rw [ha] at h1
  obtain ⟨k, h2, h3⟩ := nrm_rep (sg neg (M : Int)) e
  refine Prod.ext ?_ ?_
  · have hp := pw_pos k
    have key : ∀ y : Int, y.natAbs = od M → sg neg (M : Int) = y * pw k → y = sg neg (od M : Int) := by
      intro y hy1 hy2
      have hod := od_pos M h
      rcases Int.lt_trichotomy y 0 with hs | hs | hs
      · have h5 : y * pw k < 0 := Int.mul_neg_of_neg_of_pos hs hp
        rw [← hy2] at h5
        cases neg
        · exact absurd h5 (show ¬ (M : Int) < 0 by omega)
        · show y = -(od M : Int); omega
      · subst hs; simp at hy1; omega
      · have h5 : 0 < y * pw k := Int.mul_pos hs hp
        rw [← hy2] at h5
        cases neg
        · show y = (od M : Int); omega
        · exact absurd h5 (show ¬ 0 < -(M : Int) by omega)
    exact key _ h1 h2
  · show (nrm (sg neg (M : Int)) e).2 = _
    unfold nrm; rw [if_neg hx, ha]
theorem nrm_sg_zero (neg : Bool) (e : Int) : nrm (sg neg ((0 : Nat) : Int)) e = (0, 0) := by
  have : sg neg ((0 : Nat) : Int) = 0 := by unfold sg; cases neg <;> rfl
  rw [this]; rfl
theorem sg_od_lt (neg : Bool) (M : Nat) (h : 0 < M) : decide (sg neg (od M : Int) < 0) = neg ∧ (sg neg (od M : Int)).natAbs = od M := by
  have := od_pos M h
  refine ⟨?_, by rw [sg_abs, Int.natAbs_natCast]⟩
  cases neg
  · exact decide_eq_false (by show ¬ (od M : Int) < 0; omega)
  · exact decide_eq_true (by show -(od M : Int) < 0; omega)
end Go.Ulp
namespace Go.Proofs.YtfphmlmgjhebjaaGreatDoor
open Go.RowKit Go.Ulp
set_option linter.unusedVariables false
set_option linter.unusedSimpArgs false
set_option maxHeartbeats 1000000
set_option maxRecDepth 100000
theorem tz32_any (x : Nat) (hx : x < 4294967296) (hx0 : x ≠ 0) (w : World) (hT : Tab 1 w) :
    Calls Tryz.prog 219 #[.int .u32 (x : Int)] w fun e w' => e = .returned (.int .i64 (tw x : Int)) ∧ w = w' := by
  obtain ⟨hlow, hk⟩ := Lib.lowest_bit 32 x hx0 hx
  obtain ⟨hi, htab⟩ := Lib.deBruijn32_at _ hk
  have hcell := hT _ hi
  rw [htab] at hcell
  have key := tz32_key x _ hx hx0 hlow
  have hxb : ((x : Int) == 0) = false := beq_eq_false_iff_ne.2 (by omega)
  have HE := hid (ctz_tw x hx0 hx).1
  obtain ⟨c, hc⟩ : ∃ c, c = Lib.ctz 32 x := ⟨_, rfl⟩
  rw [← hc] at hcell key hi HE hk
  obtain ⟨idx, hidx⟩ : ∃ i, i = 2 ^ c * 125613361 % 4294967296 / 134217728 := ⟨_, rfl⟩
  rw [← hidx] at hi hcell key
  have HI := hid hidx
  clear hlow htab hc hidx hT
  go_enter Tryz.func219, Tryz.ntmps219
  go_wp2_with (simp only [key])
  go_ret
  exact ⟨ret_int (by rw [HE.out]), rfl⟩
theorem norm_zero (neg : Bool) (a0 : Option Addr) (c0 : Nat) (e : Int) (w : World) :
    Calls Tryz.prog 156 #[.bool neg, .slice a0 (limbs 0).length c0, .int .i64 e] w (RetVD w (nrm (sg neg ((0 : Nat) : Int)) e)) := by
  rw [nrm_sg_zero, limbs_zero]
  go_enter Tryz.func156, Tryz.ntmps156
  go_wp2_with fail
  refine bodyPost_ret (by simp [results, Tryz.results156, go_sem]; try rfl) rfl ?_
  exact ⟨_, rfl, ⟨none, 0, rfl, Ns.nil⟩, below_alloc _ _⟩
theorem normD_any (neg : Bool) (a0 : Option Addr) (c0 M : Nat) (e : Int) (w : World) (hN : Ns .u32 w a0 c0 (limbs M)) (hm : (limbs M).length ≤ 1000000) (he : -1000000000 ≤ e ∧ e ≤ 1000000000) (hT : Tab 1 w) :
    Calls Tryz.prog 156 #[.bool neg, .slice a0 (limbs M).length c0, .int .i64 e] w (RetVD w (nrm (sg neg (M : Int)) e)) := by
  by_cases h0 : M = 0
  · subst h0; exact norm_zero neg a0 c0 e w
  have hpos : 0 < M := by omega
  have hl0 : 0 < (limbs M).length := (digs_len_pos 4294967296 (by omega) M).2 hpos
  have hlb : (((limbs M).length : Int) == 0) = false := beq_eq_false_iff_ne.2 (by omega)
  have hlast : (limbs M).getD ((limbs M).length - 1) 0 ≠ 0 := by
    rcases (trim_iff (limbs M)).1 (limbs_trim M) with h | h
    · omega
    · exact h
  have LL := hid (limbs_lim M)
  have TW := hid (tw_limbs M)
  obtain ⟨b0, o0, rfl, hc0⟩ := hN.2.2 hl0
  have HN := hid hN
  have HT := hid hT
  have yb0 := below_alloc w (.cells #[.bool false, .slice none 0 0, .int .i64 0] 67)
  have zR0 : QL 67 (w.alloc (.cells #[.bool false, .slice none 0 0, .int .i64 0] 67)) w.heap.size false (.slice none 0 0) 0 := QL.made rfl
  have hcap := hN.1
  have hcap2 := hN.2.1
  unfold maxLen at hcap2
  have RR := hid (fun w h (hk : tw M ≤ 4294967296000) => right_any (some ⟨b0, o0, none⟩) c0 M (tw M) w h (by omega) hk)
  have TZ := hid (fun x h1 h2 w h => tz32_any x h1 h2 w h)
  have ND := hid (nrm_sg neg M e hpos)
  have SG := hid (sg_od_lt neg M hpos)
  obtain ⟨n, hn⟩ : ∃ n, n = (limbs M).length := ⟨_, rfl⟩
  have HNL := hid hn
  have hc := hid (fun i (h : i < n) => ((yb0.cell (p := ⟨b0, o0 + i, none⟩) (World.block_lt_of_cell? _ _ (hc0 i (by omega)))).trans (hc0 i (by omega))))
  have HLA := hid hlast
  rw [← hn] at hlb hcap hm hl0 RR ⊢
  clear hN hT hn h0 hpos hlast hc0
  go_enter Tryz.func156, Tryz.ntmps156
  go_upto_block 0 with fail
  go_cut [7] (fun s7 wx => ∃ i : Nat, s7 = .int .i64 (32 * (i : Int)) ∧ i < n ∧ (limbs M).getD i 0 ≠ 0 ∧ (∀ j, j < i → (limbs M).getD j 0 = 0) ∧ wx = w.alloc (.cells #[.bool false, .slice none 0 0, .int .i64 0] 67))
  case first =>
    go_wp2_with fail
    go_loop [7] (fun s7 => ∃ i : Nat, s7 = .int .i64 (32 * (i : Int)) ∧ i < n ∧ (∀ j, j < i → (limbs M).getD j 0 = 0)) (fun s7 => (32 * n - (intOf s7).toNat))
    case atStart => exact ⟨0, rfl, hl0, fun j hj => by omega⟩
    case round =>
      obtain ⟨i, rfl, hi, hz⟩ := hrel
      have hcell := hc.out i hi
      unfold lb at hcell
      obtain ⟨x, hx⟩ : ∃ x, x = (limbs M).getD i 0 := ⟨_, rfl⟩
      rw [← hx] at hcell
      have e1 : 32 * (i : Int) / 32 = (i : Int) := by omega
      have HX := hid hx
      have HZ := hid hz
      clear hx hz
      by_cases hx0 : x = 0
      · subst hx0
        have hin : i + 1 < n := by
          rcases Nat.lt_or_ge (i + 1) n with h | h
          · exact h
          · have : i = n - 1 := by omega
            have h9 := HX.out
            rw [this, HNL.out] at h9
            exact absurd h9.symm HLA.out
        go_wp2_with fail
        go_round
        case rel => exact ⟨i + 1, by rw [show 32 * (i : Int) + 32 = 32 * ((i + 1 : Nat) : Int) by omega], hin, fun j hj => by
          by_cases hji : j = i
          · rw [hji, ← HX.out]
          · exact HZ.out j (by omega)⟩
        case measure => simp [intOf]; omega
      · have hxb : ((x : Int) == 0) = false := beq_eq_false_iff_ne.2 (by omega)
        have HX0 := hid hx0
        clear hx0
        go_wp2_with fail
        go_meet
        exact ⟨i, rfl, hi, by rw [← HX.out]; exact HX0.out, HZ.out, rfl⟩
  case rest =>
    obtain ⟨i, rfl, hi, hx0, hz, rfl⟩ := hcut
    have hcell := hc.out i hi
    unfold lb at hcell
    obtain ⟨x, hx⟩ : ∃ x, x = (limbs M).getD i 0 := ⟨_, rfl⟩
    rw [← hx] at hcell hx0
    have hx1 : x < 4294967296 := by rw [hx]; exact LL.out.getD (by omega) i
    have e1 : 32 * (i : Int) / 32 = (i : Int) := by omega
    have htw : tw M = 32 * i + tw x := TW.out i x (by rw [← HNL.out]; exact hi) hz hx.symm hx0
    have ht32 := (ctz_tw x hx0 hx1).2
    have TZx := hid (fun w h => TZ.out x hx1 hx0 w h)
    obtain ⟨tM, htM⟩ : ∃ t, t = tw M := ⟨_, rfl⟩
    obtain ⟨tx, htx⟩ : ∃ t, t = tw x := ⟨_, rfl⟩
    rw [← htM] at RR ND htw
    rw [← htx] at TZx htw ht32
    have e2 : 32 * (i : Int) + (tx : Int) = (tM : Int) := by omega
    have hMo : M / 2 ^ tM = od M := by rw [htM]; rfl
    have RRM := hid (fun w h => RR.out w h (by omega))
    rw [hMo] at RRM
    have hcapM := hid hcap
    clear hx0 hz hx TW htM htx hMo RR TZ htw
    go_upto_region 8 with (first
      | (go_at_call 219; (with_reducible refine (TZx.out _ (HT.out.below yb0)).mono ?_); rintro en w1 ⟨rfl, rfl⟩)
      | (go_at_call 213; (with_reducible refine (RRM.out _ (HN.out.below yb0)).mono ?_); rintro en w2 ⟨a2, rfl, hN2, hb2⟩))
    have zR := zR0.below hb2
    have yb2 := below_trans yb0 hb2
    obtain ⟨⟨k0, k1, f0, f1, hs2⟩, k2, f2⟩ := id zR
    go_wp2_with fail
    refine bodyPost_ret (by simp [results, Tryz.results156, go_sem, k0, k1, k2]; try rfl) rfl ?_
    rw [ND.out]
    refine ⟨_, rfl, ⟨a2, (limbs (od M)).length, ?_, ?_⟩, ((yb2.setCell (by first | omega | (simp; done) | (simp; omega)) _).setCell (by first | omega | (simp; done) | (simp; omega)) _).setCell (by first | omega | (simp; done) | (simp; omega)) _⟩
    · simp only [SG.out.1, SG.out.2]
    · simp only [SG.out.2]
      exact hN2.set3 zR (by intro x h; cases h) _ _ _
end Go.Proofs.YtfphmlmgjhebjaaGreatDoor
namespace Go.Ulp
open Go.RowKit
theorem or_hidden (f : Int) (h0 : 0 ≤ f) (h1 : f < 4503599627370496) : bits .or .u64 f 4503599627370496 = f + 4503599627370496 := by
  rw [bits_comm_or f _ h0 (by omega) (by omega) (by omega), or_join52 4503599627370496 f (by omega) (by omega) h0 (by omega) (by omega) h1]; omega
end Go.Ulp
namespace Go.Proofs.YtfphmlmgjhebjaaGreatDoor
open Go.RowKit Go.Ulp
set_option linter.unusedVariables false
set_option linter.unusedSimpArgs false
set_option maxHeartbeats 1000000
set_option maxRecDepth 100000
theorem value_any (x : Int) (h0 : 0 ≤ x) (h1 : x < 18446744073709551616) (w : World) (hT : Tab 1 w) :
    Calls Tryz.prog 96 #[.int .u64 x] w (RetVD w (fv x)) := by
  have PA := hid (fun w => parts_any x h0 h1 w)
  have hfb := fracOf_bd x
  have heb := expOf_bd x
  have hmb := mantOf_bd x
  obtain ⟨m, hm⟩ := Int.eq_ofNat_of_zero_le hmb.1
  have OF := hid (fun w => natOf_any m (by omega) w)
  have hml : (limbs m).length ≤ 1000000 := by
    have : (limbs m).length ≤ 2 := (digs_len_le 4294967296 (by omega) m 2).2 (by omega)
    omega
  have hdb := dexp_bd x
  have NO := hid (show ∀ a c w, Ns .u32 w a c (limbs m) → Tab 1 w → Calls Tryz.prog 156 #[.bool (negB x), .slice a (limbs m).length c, .int .i64 (max (expOf x) 1 - 1075)] w (RetVD w (fv x)) from fun a c w k t => by
    have := normD_any (negB x) a c m (dexp x) w k hml (by omega) t
    unfold fv; rw [hm]; exact this)
  have yb0 := below_alloc w (.cells #[.bool false, .slice none 0 0, .int .i64 0] 67)
  have zR0 : QL 67 (w.alloc (.cells #[.bool false, .slice none 0 0, .int .i64 0] 67)) w.heap.size false (.slice none 0 0) 0 := QL.made rfl
  have HT := hid hT
  by_cases hp : 0 < expOf x
  · have hor := or_hidden (fracOf x) hfb.1 hfb.2
    have hmv : fracOf x + 4503599627370496 = (m : Int) := by
      have := hm; unfold mantOf at this; rw [if_pos hp] at this; exact this
    generalize fracOf x = fr at *
    generalize negB x = ng at *
    generalize expOf x = ex at *
    generalize fv x = D at *
    clear hT hm hmb hml hdb
    go_enter Tryz.func96, Tryz.ntmps96
    go_wp2_with (first
      | (go_at_call 87; (with_reducible refine (PA.out _).mono ?_); rintro en w1 ⟨rfl, rfl⟩)
      | (go_at_call 95; (with_reducible refine (OF.out _).mono ?_); rintro en w2 ⟨a2, rfl, hN2, hb2⟩; have yb2 := below_trans yb0 hb2; have zR2 := zR0.below hb2)
      | (go_at_call 156; (with_reducible refine (NO.out _ _ _ hN2 (HT.out.below yb2)).mono ?_); rintro en w3 ⟨v3, rfl, ⟨a3, c3, rfl, hN3⟩, hb3⟩; have yb3 := below_trans yb2 hb3; have zR3 := zR2.below hb3; obtain ⟨⟨k0, k1, f0, f1, hs2⟩, k2, f2⟩ := id zR3))
    refine bodyPost_ret (by simp [results, Tryz.results96, go_sem, k0, k1, k2]; try rfl) rfl ?_
    exact ⟨_, rfl, ⟨a3, c3, rfl, hN3.set3 zR3 (by intro x h; cases h) _ _ _⟩, ((yb3.setCell (by first | omega | (simp; done) | (simp; omega)) _).setCell (by first | omega | (simp; done) | (simp; omega)) _).setCell (by first | omega | (simp; done) | (simp; omega)) _⟩
  · have hmv : fracOf x = (m : Int) := by
      have := hm; unfold mantOf at this; rw [if_neg hp] at this; exact this
    generalize fracOf x = fr at *
    generalize negB x = ng at *
    generalize expOf x = ex at *
    generalize fv x = D at *
    clear hT hm hmb hml hdb
    subst hmv
    go_enter Tryz.func96, Tryz.ntmps96
    go_wp2_with (first
      | (go_at_call 87; (with_reducible refine (PA.out _).mono ?_); rintro en w1 ⟨rfl, rfl⟩)
      | (go_at_call 95; (with_reducible refine (OF.out _).mono ?_); rintro en w2 ⟨a2, rfl, hN2, hb2⟩; have yb2 := below_trans yb0 hb2; have zR2 := zR0.below hb2)
      | (go_at_call 156; (with_reducible refine (NO.out _ _ _ hN2 (HT.out.below yb2)).mono ?_); rintro en w3 ⟨v3, rfl, ⟨a3, c3, rfl, hN3⟩, hb3⟩; have yb3 := below_trans yb2 hb3; have zR3 := zR2.below hb3; obtain ⟨⟨k0, k1, f0, f1, hs2⟩, k2, f2⟩ := id zR3))
    refine bodyPost_ret (by simp [results, Tryz.results96, go_sem, k0, k1, k2]; try rfl) rfl ?_
    exact ⟨_, rfl, ⟨a3, c3, rfl, hN3.set3 zR3 (by intro x h; cases h) _ _ _⟩, ((yb3.setCell (by first | omega | (simp; done) | (simp; omega)) _).setCell (by first | omega | (simp; done) | (simp; omega)) _).setCell (by first | omega | (simp; done) | (simp; omega)) _⟩
end Go.Proofs.YtfphmlmgjhebjaaGreatDoor
