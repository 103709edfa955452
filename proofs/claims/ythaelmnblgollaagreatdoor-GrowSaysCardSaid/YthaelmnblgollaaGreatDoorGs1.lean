/- Expansions: grow.Check and PartsRight. -/
import Derived.Test.YthaelmnblgollaaGreatDoorEx1
import Derived.Test.YthaelmnblgollaaGreatDoorGt
import Derived.Test.YthaelmnblgollaaGreatDoorHp
set_option linter.unusedVariables false
set_option linter.unusedSimpArgs false
namespace Go.Ulp
open Go.RowKit
/-- what is wrong at a place: it is 0, or the one ahead reaches into it -/
def badA (L : List Nat) (i : Nat) : Bool := decide (classOf (lb L i) = 1) || (decide (0 < i) && decide ((fv (lb L i)).2 ≤ hfK (fv (lb L (i - 1)))))
def badTo (L : List Nat) : Nat → Bool
  | 0 => false
  | i + 1 => badTo L i || badA L i
theorem badTo_mono (L : List Nat) (i : Nat) (h : badTo L i = true) : ∀ j, i ≤ j → badTo L j = true := by
  intro j hj
  obtain ⟨k, rfl⟩ : ∃ k, j = i + k := ⟨j - i, by omega⟩
  clear hj
  induction k with
  | zero => exact h
  | succ k ih => show (badTo L (i + k) || badA L (i + k)) = true; rw [ih]; rfl
theorem badTo_at (L : List Nat) (i j : Nat) (h : badTo L i = false) (hj : j < i) : badA L j = false := by
  cases hb : badA L j with
  | false => rfl
  | true =>
    have h1 : badTo L (j + 1) = true := by show (badTo L j || badA L j) = true; rw [hb, Bool.or_true]
    rw [badTo_mono L (j + 1) h1 i (by omega)] at h; cases h
/-- some number of a list has no value -/
def noTo (L : List Nat) : Nat → Bool
  | 0 => false
  | i + 1 => noTo L i || !hasVal (lb L i)
theorem noTo_iff (L : List Nat) : ∀ n, noTo L n = true ↔ ∃ j, j < n ∧ hasVal (lb L j) = false
  | 0 => ⟨fun h => (by cases h), fun ⟨j, h, _⟩ => absurd h (Nat.not_lt_zero j)⟩
  | n + 1 => by
    show (noTo L n || !hasVal (lb L n)) = true ↔ _
    rw [Bool.or_eq_true, noTo_iff L n]
    constructor
    · rintro (⟨j, h1, h2⟩ | h)
      · exact ⟨j, by omega, h2⟩
      · exact ⟨n, by omega, by simpa using h⟩
    · rintro ⟨j, h1, h2⟩
      by_cases e : j = n
      · subst e; exact .inr (by rw [h2]; rfl)
      · exact .inl ⟨j, by omega, h2⟩
/-- what Check answers -/
def prE (L : List Nat) : Int := if 60 < L.length then 2 else if noTo L L.length = true then 4 else if badTo L L.length = true then 3 else 0
end Go.Ulp
namespace Go.Proofs.YthaelmnblgollaaGreatDoor
open Go.RowKit Go.Ulp
set_option linter.unusedVariables false
set_option linter.unusedSimpArgs false
set_option maxHeartbeats 2000000
set_option maxRecDepth 100000
theorem chk1_any (x : Int) (h0 : 0 ≤ x) (h1 : x < 18446744073709551616) (w : World) :
    Calls Tryz.prog 73 #[.int .u64 x] w fun e w' => e = .returned (.bool (!hasVal x)) ∧ w = w' := by
  have HV := hid (fun w => hasValue_any x h0 h1 w)
  generalize hasVal x = b at *
  go_enter Tryz.func73, Tryz.ntmps73
  go_wp2_with (go_at_call 62; (with_reducible refine (HV.out _).mono ?_); rintro en w1 ⟨rfl, rfl⟩)
  go_ret
  exact ⟨rfl, rfl⟩
theorem indexG_any (ao : Option Addr) (cap : Nat) (L : List Nat) (w : World) (h : Ns .u64 w ao cap L) (hL : ∀ j, lb L j < 18446744073709551616) :
    Calls Tryz.prog 166 #[.slice ao L.length cap, .func (.func 73) #[] #[]] w (RetIx w L (fun x => !hasVal x)) := by
  obtain ⟨h1, h2, h3⟩ := h
  unfold maxLen at h2
  have TC := hid (fun j w => chk1_any (lb L j) (by unfold lb; omega) (hL j) w)
  clear hL
  go_enter Tryz.func166, Tryz.ntmps166
  go_wp2_with fail
  go_loopw [8] (fun i wr => ∃ i0 : Nat, i = .int .i64 (i0 : Int) ∧ i0 ≤ L.length ∧ (∀ j, j < i0 → hasVal (lb L j) = true) ∧ Below w.heap.size w wr) (fun i _ => (L.length - (intOf i).toNat))
  case atStart => exact ⟨0, rfl, by omega, fun j hj => by omega, Below.refl _ _⟩
  case round =>
    obtain ⟨j, rfl, hi1, hdr, hb⟩ := hrel
    have HD := hid hdr
    clear hdr
    by_cases hi : (j : Int) < (L.length : Int)
    · obtain ⟨b0, o0, rfl, hc0⟩ := h3 (by omega)
      have k0 := (hb.cell (p := ⟨b0, o0 + j, none⟩) (World.block_lt_of_cell? _ _ (hc0 j (by omega)))).trans (hc0 j (by omega))
      clear hc0 h3
      have TJ := hid (TC.out j)
      cases hv : hasVal (lb L j)
      · have HV := hid hv
        rw [hv] at TJ
        clear hv
        go_wp2_with (go_at_call 73; (with_reducible refine (TJ.out _).mono ?_); rintro en w1 ⟨rfl, rfl⟩)
        go_ret
        exact ⟨j, rfl, ⟨fun _ => ⟨j, by omega, by show (!hasVal (lb L j)) = true; rw [HV.out]; rfl⟩, fun _ => by omega⟩, by (repeat' (first | (with_reducible assumption) | (with_reducible exact Below.refl _ _) | (with_reducible refine below_al ?_ _) | (with_reducible refine below_drewN ?_ _) | (with_reducible refine Below.drew ?_) | (with_reducible refine Below.alloc ?_ ?_ _) | (with_reducible refine Below.setCell ?_ ?_ _) | (refine below_trans ?_ (by assumption)) | go_size))⟩
      · have HV := hid hv
        rw [hv] at TJ
        clear hv
        go_wp2_with (go_at_call 73; (with_reducible refine (TJ.out _).mono ?_); rintro en w1 ⟨rfl, rfl⟩)
        go_roundw
        case rel => exact ⟨j + 1, by go_num, by omega, fun i hi => by
          by_cases e : i = j
          · rw [e]; exact HV.out
          · exact HD.out i (by omega), by (repeat' (first | (with_reducible assumption) | (with_reducible exact Below.refl _ _) | (with_reducible refine below_al ?_ _) | (with_reducible refine below_drewN ?_ _) | (with_reducible refine Below.drew ?_) | (with_reducible refine Below.alloc ?_ ?_ _) | (with_reducible refine Below.setCell ?_ ?_ _) | (refine below_trans ?_ (by assumption)) | go_size))⟩
        case measure => simp [intOf]; omega
    · go_wp2_with fail
      go_ret
      refine ⟨-1, rfl, ⟨fun h => by omega, fun ⟨i, hi2, hp⟩ => ?_⟩, by (repeat' (first | (with_reducible assumption) | (with_reducible exact Below.refl _ _) | (with_reducible refine below_al ?_ _) | (with_reducible refine below_drewN ?_ _) | (with_reducible refine Below.drew ?_) | (with_reducible refine Below.alloc ?_ ?_ _) | (with_reducible refine Below.setCell ?_ ?_ _) | (refine below_trans ?_ (by assumption)) | go_size))⟩
      have h9 := HD.out i (by omega)
      have hp2 : (!hasVal (lb L i)) = true := hp
      rw [h9] at hp2; cases hp2
theorem containsG_any (ao : Option Addr) (cap : Nat) (L : List Nat) (w : World) (h : Ns .u64 w ao cap L) (hL : ∀ j, lb L j < 18446744073709551616) :
    Calls Tryz.prog 72 #[.slice ao L.length cap, .func (.func 73) #[] #[]] w fun e w' => e = .returned (.bool (noTo L L.length)) ∧ Below w.heap.size w w' := by
  have IX := hid (fun w h => indexG_any ao cap L w h hL)
  have H := hid h
  have hcap := h.1
  have hcap2 := h.2.1
  have HN := hid (noTo_iff L L.length)
  generalize noTo L L.length = nb at *
  clear h
  go_enter Tryz.func72, Tryz.ntmps72
  go_wp2_with (go_at_call 166; (with_reducible refine (IX.out _ H.out).mono ?_); rintro en w1 ⟨i, rfl, hi, hb⟩; have HI := hid hi; clear hi)
  go_ret
  refine ⟨ret_bool ?_, hb⟩
  rw [Bool.eq_iff_iff, decide_eq_true_eq, HI.out, HN.out]
  exact ⟨fun ⟨j, h1, h2⟩ => ⟨j, h1, by have h3 : (!hasVal (lb L j)) = true := h2; cases hh : hasVal (lb L j); rfl; rw [hh] at h3; cases h3⟩, fun ⟨j, h1, h2⟩ => ⟨j, h1, by show (!hasVal (lb L j)) = true; rw [h2]; rfl⟩⟩
theorem growCheck_any (ao : Option Addr) (cap : Nat) (L : List Nat) (w : World) (h : Ns .u64 w ao cap L) (hL : ∀ j, lb L j < 18446744073709551616) (hT : Tab 0 w) :
    Calls Tryz.prog 14 #[.slice ao L.length cap] w fun e w' => e = .returned (.int .i64 (prE L)) ∧ Below w.heap.size w w' := by
  have CF := hid (fun w h => containsG_any ao cap L w h hL)
  have HN := hid h
  have hcap := h.1
  have hcap2 := h.2.1
  unfold maxLen at hcap2
  have HP := hid (show prE L = if 60 < L.length then 2 else if noTo L L.length = true then 4 else if badTo L L.length = true then 3 else 0 from rfl)
  have BS := hid (show ∀ i, badTo L (i + 1) = (badTo L i || badA L i) from fun _ => rfl)
  have BA := hid (show ∀ i, badA L i = (decide (classOf (lb L i) = 1) || (decide (0 < i) && decide ((fv (lb L i)).2 ≤ hfK (fv (lb L (i - 1)))))) from fun _ => rfl)
  have BM := hid (fun i h => badTo_mono L i h L.length)
  have CL := hid (fun j w => class_any (lb L j) (lb_nonneg _ _) (hL j) w)
  have VA := hid (fun j w t => value_any (lb L j) (lb_nonneg _ _) (hL j) w t)
  have FS := hid (fun j => fv_small_p (lb L j) (lb_nonneg _ _) (hL j))
  have LN := hid (fun (D : Dy) (hd : (limbs D.1.natAbs).length ≤ 2) a c w h => natLen_any a c D.1.natAbs w h (by omega))
  have HT := hid hT
  obtain ⟨E, hE⟩ : ∃ E, E = prE L := ⟨_, rfl⟩
  rw [← hE] at HP ⊢
  clear h hL hT hE
  by_cases hl : 60 < L.length
  · have HE := hid (show E = 2 by rw [HP.out, if_pos hl])
    have hl2 : 60 < (L.length : Int) := by omega
    clear HP hl BS BA BM
    go_enter Tryz.func14, Tryz.ntmps14
    go_wp2_with fail
    go_ret
    exact ⟨by rw [HE.out]; rfl, Below.refl _ _⟩
  · have hl2 : ¬ 60 < (L.length : Int) := by omega
    have HP2 := hid (show E = if noTo L L.length = true then 4 else if badTo L L.length = true then 3 else 0 by rw [HP.out, if_neg hl])
    clear HP
    cases hno : noTo L L.length
    · have HP3 := hid (show E = if badTo L L.length = true then 3 else 0 by rw [HP2.out, hno]; rfl)
      rw [hno] at CF
      clear HP2 hno
      go_enter Tryz.func14, Tryz.ntmps14
      go_upto_region 5 with (go_at_call 72; (with_reducible refine (CF.out _ HN.out).mono ?_); rintro en w1 ⟨rfl, hb1⟩)
      go_wp2_with fail
      go_loopw [3, 4, 5, 13] (fun s3 s4 s5 s13 wr => ∃ i : Nat, s13 = .int .i64 (i : Int) ∧ i ≤ L.length ∧ badTo L i = false ∧ Below w.heap.size w wr) (fun _ _ _ i _ => (L.length - (intOf i).toNat))
      case atStart => exact ⟨0, rfl, by omega, rfl, hb1⟩
      case round =>
        obtain ⟨i, rfl, hi, hbd, yr⟩ := hrel
        have HBD := hid hbd
        clear hbd hb1
        by_cases hi2 : (i : Int) < (L.length : Int)
        · obtain ⟨b0, o0, rfl, hc0⟩ := HN.out.2.2 (by omega)
          have HC0 := hid hc0
          have k0 := (yr.cell (p := ⟨b0, o0 + i, none⟩) (World.block_lt_of_cell? _ _ (hc0 i (by omega)))).trans (hc0 i (by omega))
          have C0 := hid (CL.out i)
          have V0 := hid (VA.out i)
          have F0 := FS.out i
          have BS0 := hid (BS.out i)
          have BA0 := hid (BA.out i)
          have BM0 := hid (fun h => BM.out (i + 1) h (by omega))
          obtain ⟨x, hx⟩ : ∃ x, x = lb L i := ⟨_, rfl⟩
          rw [← hx] at k0 C0 V0 F0 BA0
          clear hx hc0
          by_cases h1 : classOf x = 1
          · have HE := hid (show E = 3 by
              rw [HP3.out, BM0.out (by rw [BS0.out, BA0.out, decide_eq_true h1]; simp)]; rfl)
            rw [h1] at C0
            clear h1 BA0 BS0 BM0 HP3 BS BA BM
            go_wp2_with (go_at_call 64; (with_reducible refine (C0.out _).mono ?_); rintro en w2 ⟨rfl, rfl⟩)
            go_ret
            exact ⟨by rw [HE.out]; rfl, yr⟩
          · have BA1 := hid (show badA L i = (decide (0 < i) && decide ((fv x).2 ≤ hfK (fv (lb L (i - 1))))) by rw [BA0.out, decide_eq_false h1, Bool.false_or])
            obtain ⟨c, hc⟩ : ∃ c, c = classOf x := ⟨_, rfl⟩
            rw [← hc] at C0 h1
            clear hc BA0
            by_cases h0 : i = 0
            · have HB2 := hid (show badTo L (i + 1) = false by rw [BS0.out, HBD.out, BA1.out, h0]; rfl)
              have hz1 : ((i : Int) == 0) = true := by rw [h0]; rfl
              clear BA1 BS0 BM0 h0
              go_wp2_with (go_at_call 64; (with_reducible refine (C0.out _).mono ?_); rintro en w2 ⟨rfl, rfl⟩)
              go_roundw
              case rel => exact ⟨i + 1, by go_num, by omega, HB2.out, yr⟩
              case measure => first | (simp [intOf]; done) | (simp [intOf]; omega)
            · obtain ⟨p, hp⟩ : ∃ p, i = p + 1 := ⟨i - 1, by omega⟩
              have BA2 := hid (show badA L i = decide ((fv x).2 ≤ hfK (fv (lb L p))) by rw [BA1.out, decide_eq_true (show 0 < i by omega), Bool.true_and, show i - 1 = p by omega])
              have k1 := (yr.cell (p := ⟨b0, o0 + p, none⟩) (World.block_lt_of_cell? _ _ (HC0.out p (by omega)))).trans (HC0.out p (by omega))
              have V1 := hid (VA.out p)
              have F1 := FS.out p
              obtain ⟨y, hy⟩ : ∃ y, y = lb L p := ⟨_, rfl⟩
              rw [← hy] at k1 V1 F1 BA2
              have hp1 : (i : Int) - 1 = (p : Int) := by omega
              have hp3 : ((i : Int) == 0) = false := beq_eq_false_iff_ne.2 (by omega)
              have hwp : IntKind.i64.wrap (p : Int) = (p : Int) := IntWalk.i64_in _ (by omega)
              have hKy : hfK (fv y) = (bl (fv y).1.natAbs : Int) + (fv y).2 - 1 := rfl
              have LN1 := hid (LN.out (fv y) F1.1)
              clear hy BA1 CL VA FS BS BA BM LN HC0 hp h0
              go_upto_region 12 with (first
                | (go_at_call 64; (with_reducible refine (C0.out _).mono ?_); rintro en w2 ⟨rfl, rfl⟩)
                | (go_at_call 74; (with_reducible refine (V1.out _ (HT.out.below yr)).mono ?_); rintro en w3 ⟨v5, rfl, ⟨a5, c5, rfl, hN5⟩, hb3⟩))
              refine wp_wld (fun WW => Below w.heap.size w WW ∧ QL 26 WW w3.heap.size (decide ((fv y).1 < 0)) (.slice a5 (limbs (fv y).1.natAbs).length c5) (fv y).2 ∧ Ns .u32 WW a5 c5 (limbs (fv y).1.natAbs)) ⟨below_trans (below_trans yr hb3) (below_alloc _ _), QL.made rfl, hN5.below (below_alloc _ _)⟩ ?_
              intro W1 ⟨y1, q5, n5⟩
              obtain ⟨g5, hg5⟩ : ∃ g, g = w3.heap.size := ⟨_, rfl⟩
              rw [← hg5] at q5 ⊢
              clear hg5 hN5 hb3 V1 yr k0 k1
              obtain ⟨bd, hbd⟩ : ∃ b, decide ((fv x).2 < (bl (fv y).1.natAbs : Int) + (fv y).2) = b := ⟨_, rfl⟩
              have HA := hid (show badA L i = bd by rw [BA2.out, ← hbd, decide_eq_decide, hKy]; omega)
              have hbl := (bl_le (fv y).1.natAbs 53).2 F1.2.2.2
              obtain ⟨-, f1, f2, -⟩ := F1
              obtain ⟨-, f3, f4, -⟩ := F0
              obtain ⟨DX, hDX⟩ : ∃ D, D = fv x := ⟨_, rfl⟩
              rw [← hDX] at V0 hbd f3 f4
              obtain ⟨M, hM⟩ : ∃ M, M = (fv y).1.natAbs := ⟨_, rfl⟩
              rw [← hM] at LN1 hbl q5 n5 hbd ⊢
              obtain ⟨b, hb9⟩ : ∃ b, b = bl M := ⟨_, rfl⟩
              rw [← hb9] at LN1 hbl hbd
              obtain ⟨Y, hY⟩ : ∃ Y, Y = (fv y).2 := ⟨_, rfl⟩
              rw [← hY] at q5 hbd f1 f2 ⊢
              obtain ⟨ng, hng⟩ : ∃ Y, Y = decide ((fv y).1 < 0) := ⟨_, rfl⟩
              rw [← hng] at q5 ⊢
              have hw1 : IntKind.i64.wrap ((b : Int) + Y) = (b : Int) + Y := IntWalk.i64_in _ (by omega)
              have HBD2 := hid hbd
              have HW1 := hid hw1
              clear hDX hM hb9 hY hng hKy BA2 hbd hw1 f1 f2 f3 f4
              have hfl : ∀ (b : Bool) (s : Value) (e : Int) (w : World), (Instr.field 26 (.agg #[.bool b, s, .int .i64 e]) 2).run Tryz.prog w = .ok (.int .i64 e) w := fun _ _ _ _ => rfl
              refine wp_region_grow 10 [29, 30, 31, 32, 33, 34, 35, 36, 37, 38] [Fact.is (.pointer (some ⟨g5, 1, none⟩)), Fact.is (.slice a5 (limbs M).length c5), Fact.is (.int .i64 (b : Int)), Fact.is (.pointer (some ⟨g5, 2, none⟩)), Fact.is (.int .i64 Y), Fact.is (.int .i64 ((b : Int) + Y)), Fact.is (.int .u64 x), Fact.vd DX, Fact.is (.int .i64 DX.2), Fact.is (.bool bd)] (by kernel_rfl) (by kernel_rfl) ⟨?o0, ?o1, ?o2, ?o3, ?o4, ?o5, ?o6, ?o7, ?o8, ?o9, trivial⟩ ?after
              case o0 => (refine StepOK.plain rfl ?_; intro ρ w1 R hρ hb hp hR; have e5 : ρ (.tmp 5) = .pointer (some ⟨g5, 0, none⟩) := hρ.tmp 5 rfl; have hcon := hρ.con; have hfn := hρ.fn; clear hρ hp; unfold OpRun; go_simp; exact hR _ _ (Below.refl _ _) rfl)
              case o1 => (refine StepOK.plain rfl ?_; intro ρ w1 R hρ hb hp hR; have e29 : ρ (.tmp 29) = _ := hp 0 29 rfl rfl; obtain ⟨⟨j0, j1, -⟩, j2, -⟩ := q5.below hb; have hcon := hρ.con; have hfn := hρ.fn; clear hρ hp; unfold OpRun; go_simp; exact hR _ _ (Below.refl _ _) rfl)
              case o2 => (refine StepOK.plain rfl ?_; intro ρ w1 R hρ hb hp hR; have e30 : ρ (.tmp 30) = _ := hp 1 30 rfl rfl; have hcon := hρ.con; have hfn := hρ.fn; clear hρ hp; unfold OpRun; go_simp; (refine (LN1.out _ _ _ (n5.below hb)).mono ?_; rintro e wn ⟨rfl, rfl⟩; exact ⟨_, rfl, hR _ _ (Below.refl _ _) rfl⟩))
              case o3 => (refine StepOK.plain rfl ?_; intro ρ w1 R hρ hb hp hR; have e5 : ρ (.tmp 5) = .pointer (some ⟨g5, 0, none⟩) := hρ.tmp 5 rfl; have hcon := hρ.con; have hfn := hρ.fn; clear hρ hp; unfold OpRun; go_simp; exact hR _ _ (Below.refl _ _) rfl)
              case o4 => (refine StepOK.plain rfl ?_; intro ρ w1 R hρ hb hp hR; have e32 : ρ (.tmp 32) = _ := hp 3 32 rfl rfl; obtain ⟨⟨j0, j1, -⟩, j2, -⟩ := q5.below hb; have hcon := hρ.con; have hfn := hρ.fn; clear hρ hp; unfold OpRun; go_simp; exact hR _ _ (Below.refl _ _) rfl)
              case o5 => (refine StepOK.plain rfl ?_; intro ρ w1 R hρ hb hp hR; have e31 : ρ (.tmp 31) = _ := hp 2 31 rfl rfl; have e33 : ρ (.tmp 33) = _ := hp 4 33 rfl rfl; have hw1 := HW1.out; have hcon := hρ.con; have hfn := hρ.fn; clear hρ hp; unfold OpRun; go_simp; exact hR _ _ (Below.refl _ _) rfl)
              case o6 => (refine StepOK.plain rfl ?_; intro ρ w1 R hρ hb hp hR; have e4 : ρ (.tmp 4) = .int .u64 x := hρ.tmp 4 rfl; have hcon := hρ.con; have hfn := hρ.fn; clear hρ hp; unfold OpRun; go_simp; exact hR _ _ (Below.refl _ _) rfl)
              case o7 => (refine StepOK.plain rfl ?_; intro ρ w1 R hρ hb hp hR; have e35 : ρ (.tmp 35) = _ := hp 6 35 rfl rfl; have hcon := hρ.con; have hfn := hρ.fn; clear hρ hp; unfold OpRun; go_simp; (refine (V0.out _ (HT.out.below (below_trans y1 hb))).mono ?_; rintro e wn ⟨v9, rfl, hv9, hbn⟩; exact ⟨_, rfl, hR _ _ hbn hv9⟩))
              case o8 => (refine StepOK.plain rfl ?_; intro ρ w1 R hρ hb hp hR; have f36 := hp 7 36 rfl rfl; obtain ⟨a9, c9, e9, -⟩ := f36; have hcon := hρ.con; have hfn := hρ.fn; clear hρ hp; unfold OpRun; go_simp; exact hR _ _ (Below.refl _ _) rfl)
              case o9 => (refine StepOK.plain rfl ?_; intro ρ w1 R hρ hb hp hR; have e34 : ρ (.tmp 34) = _ := hp 5 34 rfl rfl; have e37 : ρ (.tmp 37) = _ := hp 8 37 rfl rfl; have hx9 := HBD2.out; have hcon := hρ.con; have hfn := hρ.fn; clear hρ hp; unfold OpRun; go_simp; exact hR _ _ (Below.refl _ _) rfl)
              case after =>
                intro u wn hb hf
                have e38 : u 38 = _ := hf 9 38 (by omega) rfl
                clear hf
                simp only [putAll, Act.put, List.setIfInBounds_toArray, List.set_cons_zero, List.set_cons_succ, List.drop_succ_cons, List.drop_zero, List.drop_nil]
                rw [e38]
                have y2 := below_trans y1 hb
                clear hb
                cases bd
                · have HB2 := hid (show badTo L (i + 1) = false by rw [BS0.out, HBD.out, HA.out]; rfl)
                  clear HA BS0 BM0 HBD2
                  go_wp2_with fail
                  go_roundw
                  case rel => exact ⟨i + 1, by go_num, by omega, HB2.out, y2⟩
                  case measure => first | (simp [intOf]; done) | (simp [intOf]; omega)
                · have HE := hid (show E = 3 by
                    rw [HP3.out, BM0.out (by rw [BS0.out, HA.out, Bool.or_true])]; rfl)
                  clear HA BS0 BM0 HBD2 HP3
                  go_wp2_with fail
                  go_ret
                  exact ⟨by rw [HE.out]; rfl, y2⟩
        · have HE := hid (show E = 0 by
            rw [HP3.out, show L.length = i by omega, HBD.out]; rfl)
          clear HP3 BS BA BM
          go_wp2_with fail
          go_ret
          exact ⟨by rw [HE.out]; rfl, yr⟩
    · have HE := hid (show E = 4 by rw [HP2.out, hno]; rfl)
      rw [hno] at CF
      clear HP2 hno BS BA BM
      go_enter Tryz.func14, Tryz.ntmps14
      go_wp2_with (go_at_call 72; (with_reducible refine (CF.out _ HN.out).mono ?_); rintro en w1 ⟨rfl, hb1⟩)
      go_ret
      exact ⟨by rw [HE.out]; rfl, hb1⟩
end Go.Proofs.YthaelmnblgollaaGreatDoor
