/- SpanSums: what the proof leans on, part 19 (Ss2 Pr0). -/
import Derived.Test.YtfphmlmgjhebjaaGreatDoorKSpanSums10
import Derived.Test.YtfphmlmgjhebjaaGreatDoorKSpanSums18
set_option linter.unusedVariables false
set_option linter.unusedSimpArgs false
namespace Go.Proofs.YtfphmlmgjhebjaaGreatDoor
open Go.RowKit Go.Ulp
set_option linter.unusedVariables false
set_option linter.unusedSimpArgs false
set_option maxHeartbeats 4000000
set_option maxRecDepth 100000
/-- what stays -/
def CB (w W : World) (gA gB gR gO : Nat) (l h m i : Int) : Prop := Below w.heap.size w W ∧ SV W gA l h ∧ SV W gB m i ∧ SV W gR 0 0 ∧ w.heap.size ≤ gO ∧ gA ≠ gO ∧ gB ≠ gO ∧ gR ≠ gO
theorem CB.below {w W W' : World} {gA gB gR gO : Nat} {l h m i : Int} (c : CB w W gA gB gR gO l h m i) (hb : Below W.heap.size W W') : CB w W' gA gB gR gO l h m i :=
  ⟨below_trans c.1 hb, c.2.1.below hb, c.2.2.1.below hb, c.2.2.2.1.below hb, c.2.2.2.2⟩
theorem CB.set {w W : World} {gA gB gR gO : Nat} {l h m i : Int} (c : CB w W gA gB gR gO l h m i) (o : Nat) (v : Value) : CB w (W.setCell ⟨gO, o, none⟩ v) gA gB gR gO l h m i := by
  obtain ⟨c1, c2, c3, c4, c5, c6, c7, c8⟩ := c
  exact ⟨c1.setCell (p := ⟨gO, o, none⟩) c5 _, c2.far _ _ c6, c3.far _ _ c7, c4.far _ _ c8, c5, c6, c7, c8⟩
/-- one corner more -/
def cst (ok : Bool) (lo hi : Int) (s : Bool × Int × Int) : Bool × Int × Int := if ok = true then (false, (if (s.1 || leB lo s.2.1) = true then lo else s.2.1), (if (s.1 || leB s.2.2 hi) = true then hi else s.2.2)) else s
def pxN (l h n : Nat) : Nat := if n < 2 then l else h
def pyN (m i n : Nat) : Nat := if n % 2 = 0 then m else i
def cstN (ok : Nat → Nat → Bool) (r : Nat → Nat → Int → Int) (l h m i : Nat) : Nat → Bool × Int × Int
  | 0 => (true, 0, 0)
  | n + 1 => cst (ok (pxN l h n) (pyN m i n)) (r (pxN l h n) (pyN m i n) 2) (r (pxN l h n) (pyN m i n) 1) (cstN ok r l h m i n)
theorem corners_any (fn : Nat) (ok : Nat → Nat → Bool) (r : Nat → Nat → Int → Int) (l h m i : Nat) (hl : l < 18446744073709551616) (hh : h < 18446744073709551616) (hm : m < 18446744073709551616) (hi : i < 18446744073709551616) (w : World) (hT : Tab 1 w)
    (hfn : ∀ args w, Sem.run Tryz.prog (callFunc fn args) w = .ok (.enter fn args) w)
    (hr : ∀ x y mode, U64 (r x y mode))
    (hC : ∀ x y : Nat, x < 18446744073709551616 → y < 18446744073709551616 → ∀ mode, mode = 1 ∨ mode = 2 → ∀ w', Tab 1 w' → Calls Tryz.prog fn #[.int .u64 (x : Int), .int .u64 (y : Int), .int .i64 mode] w' fun e w'' => e = .returned (.tuple #[.int .u64 (r x y mode), .bool (ok x y)]) ∧ Below w'.heap.size w' w'') :
    Calls Tryz.prog 42 #[.agg #[.int .u64 (l : Int), .int .u64 (h : Int)], .agg #[.int .u64 (m : Int), .int .u64 (i : Int)], .func (.func fn) #[] #[]] w fun e w' => e = .returned (.agg #[.int .u64 (plainOf (cstN ok r l h m i 4).2.1), .int .u64 (plainOf (cstN ok r l h m i 4).2.2)]) ∧ Below w.heap.size w w' := by
  have HC := hid hC
  have HR := hid hr
  have HT := hid hT
  clear hC hr hT
  have hLH := hid (And.intro hl hh)
  have hMI := hid (And.intro hm hi)
  clear hl hh hm hi
  go_enter Tryz.func42, Tryz.ntmps42
  have yI : ∀ o1 o2 o3 o4, SV ((((w.alloc o1).alloc o2).alloc o3).alloc o4) w.heap.size l h → True := fun _ _ _ _ _ => trivial
  clear yI
  go_upto_region 3 with fail
  refine wp_worldS (fun WW => Below w.heap.size w WW ∧ SV WW w.heap.size l h ∧ SV WW (w.heap.size + 1) m i ∧ SV WW (w.heap.size + 1 + 1) 0 0 ∧ SV WW (w.heap.size + 1 + 1 + 1) 0 0) ⟨by (repeat' (first | (with_reducible assumption) | (with_reducible exact Below.refl _ _) | (with_reducible refine below_al ?_ _) | (with_reducible refine below_drewN ?_ _) | (with_reducible refine Below.drew ?_) | (with_reducible refine Below.alloc ?_ ?_ _) | (with_reducible refine Below.setCell ?_ ?_ _) | (refine below_trans ?_ (by assumption)) | go_size)), (((SV.made rfl).alloc _).alloc _).alloc _, ((SV.made (by first | omega | (simp; done) | (simp; omega))).alloc _).alloc _, (SV.made (by first | omega | (simp; done) | (simp; omega))).alloc _, SV.made (by first | omega | (simp; done) | (simp; omega))⟩ ?_
  intro W0 ⟨y0, zA, zB, zR, zO⟩
  obtain ⟨gA, hgA⟩ : ∃ g, g = w.heap.size := ⟨_, rfl⟩
  obtain ⟨gB, hgB⟩ : ∃ g, g = w.heap.size + 1 := ⟨_, rfl⟩
  obtain ⟨gR, hgR⟩ : ∃ g, g = w.heap.size + 1 + 1 := ⟨_, rfl⟩
  obtain ⟨gO, hgO⟩ : ∃ g, g = w.heap.size + 1 + 1 + 1 := ⟨_, rfl⟩
  have bR : w.heap.size ≤ gR := by omega
  have bO : w.heap.size ≤ gO := by omega
  have nA : gA ≠ gO := by omega
  have nB : gB ≠ gO := by omega
  have nR : gR ≠ gO := by omega
  rw [← hgO] at zO ⊢
  rw [← hgR] at zR ⊢
  rw [← hgB] at zB ⊢
  rw [← hgA] at zA ⊢
  clear hgA hgB hgR hgO
  obtain ⟨a0, a1, -, -⟩ := id zA
  have Z0 := hid (And.intro y0 (And.intro zA (And.intro zB (And.intro zR zO))))
  go_wp2_with fail
  go_loopw [7, 22] (fun s7 s22 wr => ∃ (j : Nat) (b : Bool) (lo hi : Int), s7 = .bool b ∧ s22 = .int .i64 (j : Int) ∧ j ≤ 2 ∧ cstN ok r l h m i (2 * j) = (b, lo, hi) ∧ U64 lo ∧ U64 hi ∧ CB w wr gA gB gR gO l h m i ∧ SV wr gO lo hi) (fun _ s22 _ => 2 - (intOf s22).toNat)
  case atStart =>
    obtain ⟨q1, q2, q3, q4, q5⟩ := Z0.out
    exact ⟨0, true, 0, 0, rfl, rfl, by omega, rfl, ⟨by omega, by omega⟩, ⟨by omega, by omega⟩, ⟨q1, q2, q3, q4, bO, nA, nB, nR⟩, q5⟩
  case round =>
    obtain ⟨j, b, lo, hi9, rfl, rfl, hj, hst, ul, uh, cb, zO⟩ := hrel
    clear Z0 y0 a0 a1
    have HST := hid hst
    clear hst
    have wI : IntKind.i64.wrap ((j : Int) + 1) = (j : Int) + 1 := IntWalk.i64_in _ (by omega)
    by_cases hj2 : j < 2
    · have g1 : (j : Int) < 2 := by omega
      obtain ⟨X, hX⟩ : ∃ X : Nat, X = if j = 0 then l else h := ⟨_, rfl⟩
      have hXb : X < 18446744073709551616 := by rw [hX]; split; exact hLH.out.1; exact hLH.out.2
      have hixA : ∀ w, (Instr.index 134 (.agg #[.int .u64 (l : Int), .int .u64 (h : Int)]) (.int .i64 (j : Int))).run Tryz.prog w = .ok (.int .u64 (X : Int)) w := fun w => by
        rcases (show j = 0 ∨ j = 1 by omega) with e | e
        · subst e; rw [hX]; rfl
        · subst e; rw [hX]; rfl
      have HX := hid hX
      obtain ⟨b0, b1, -, -⟩ := id cb.2.2.1
      have ZZ := hid (And.intro ul (And.intro uh (And.intro cb zO)))
      clear hX ul uh cb zO
      go_wp2_with fail
      go_loopw [7, 30] (fun s7 s30 wx => ∃ (k : Nat) (b : Bool) (lo hi : Int), s7 = .bool b ∧ s30 = .int .i64 (k : Int) ∧ k ≤ 2 ∧ cstN ok r l h m i (2 * j + k) = (b, lo, hi) ∧ U64 lo ∧ U64 hi ∧ CB w wx gA gB gR gO l h m i ∧ SV wx gO lo hi) (fun _ s30 _ => 2 - (intOf s30).toNat)
      case atStart =>
        obtain ⟨q1, q2, q3, q4⟩ := ZZ.out
        exact ⟨0, b, lo, hi9, rfl, rfl, by omega, HST.out, q1, q2, q3, q4⟩
      case round =>
        clear HST b0 b1 ZZ
        obtain ⟨k, b, lo, hi9, rfl, rfl, hk, hst, ul, uh, cb, zO⟩ := hrel
        have HST := hid hst
        clear hst
        have wK : IntKind.i64.wrap ((k : Int) + 1) = (k : Int) + 1 := IntWalk.i64_in _ (by omega)
        by_cases hk2 : k < 2
        · have g2 : (k : Int) < 2 := by omega
          obtain ⟨Y, hY⟩ : ∃ Y : Nat, Y = if k = 0 then m else i := ⟨_, rfl⟩
          have hYb : Y < 18446744073709551616 := by rw [hY]; split; exact hMI.out.1; exact hMI.out.2
          have hixB : ∀ w, (Instr.index 134 (.agg #[.int .u64 (m : Int), .int .u64 (i : Int)]) (.int .i64 (k : Int))).run Tryz.prog w = .ok (.int .u64 (Y : Int)) w := fun w => by
            rcases (show k = 0 ∨ k = 1 by omega) with e | e
            · subst e; rw [hY]; rfl
            · subst e; rw [hY]; rfl
          have hstep : cstN ok r l h m i (2 * j + (k + 1)) = cst (ok X Y) (r X Y 2) (r X Y 1) (b, lo, hi9) := by
            show cst (ok (pxN l h (2 * j + k)) (pyN m i (2 * j + k))) (r (pxN l h (2 * j + k)) (pyN m i (2 * j + k)) 2) (r (pxN l h (2 * j + k)) (pyN m i (2 * j + k)) 1) (cstN ok r l h m i (2 * j + k)) = _
            have e1 : pxN l h (2 * j + k) = X := by
              rw [HX.out]; unfold pxN
              rcases (show j = 0 ∨ j = 1 by omega) with e | e
              · subst e; rw [if_pos (by omega), if_pos rfl]
              · subst e; rw [if_neg (by omega), if_neg (by omega)]
            have e2 : pyN m i (2 * j + k) = Y := by
              rw [hY]; unfold pyN
              rcases (show k = 0 ∨ k = 1 by omega) with e | e
              · subst e; rw [if_pos (by omega), if_pos rfl]
              · subst e; rw [if_neg (by omega), if_neg (by omega)]
            rw [e1, e2, HST.out]
          have C2 := hid (fun w t => HC.out X Y hXb hYb 2 (.inr rfl) w t)
          have C1 := hid (fun w t => HC.out X Y hXb hYb 1 (.inl rfl) w t)
          have U2 := HR.out X Y 2
          have U1 := HR.out X Y 1
          obtain ⟨O, hO⟩ : ∃ O, O = ok X Y := ⟨_, rfl⟩
          obtain ⟨R2, hR2⟩ : ∃ O, O = r X Y 2 := ⟨_, rfl⟩
          obtain ⟨R1, hR1⟩ : ∃ O, O = r X Y 1 := ⟨_, rfl⟩
          rw [← hO, ← hR2, ← hR1] at hstep
          rw [← hO, ← hR2] at C2
          rw [← hO, ← hR1] at C1
          rw [← hR2] at U2
          rw [← hR1] at U1
          have HSP := hid hstep
          have AM2 := hid (fun w => atMost_any R2 lo U2 ul w)
          have AM1 := hid (fun w => atMost_any hi9 R1 uh U1 w)
          have HU := hid (And.intro (And.intro U2 U1) (And.intro ul uh))
          have HCB := hid cb
          have HZO := hid zO
          have HYR := hid cb.1
          clear hY hYb hstep hO hR2 hR1 U1 U2 ul uh cb zO
          cases O
          · go_wp2_with ((with_reducible refine (C2.out _ (HT.out.below HYR.out)).mono ?_); rintro en w2 ⟨rfl, hb2⟩)
            go_roundw
            case rel => exact ⟨k + 1, b, lo, hi9, rfl, by go_num, by omega, HSP.out, HU.out.2.1, HU.out.2.2, HCB.out.below hb2, HZO.out.below hb2⟩
            case measure => simp [intOf]; omega
          · have hsp2 : cst true R2 R1 (b, lo, hi9) = (false, (if (b || leB R2 lo) = true then R2 else lo), (if (b || leB hi9 R1) = true then R1 else hi9)) := rfl
            have HS2 := hid (HSP.out.trans hsp2)
            clear hsp2 HSP
            obtain ⟨c2, hc2⟩ : ∃ c, c = leB R2 lo := ⟨_, rfl⟩
            obtain ⟨c1, hc1⟩ : ∃ c, c = leB hi9 R1 := ⟨_, rfl⟩
            rw [← hc2] at AM2 HS2
            rw [← hc1] at AM1 HS2
            clear hc1 hc2
            cases b
            · cases c2
              · cases c1
                · go_wp2_with (first
                    | (go_at_call 99; first | ((with_reducible refine (AM2.out _).mono ?_); rintro en w4 ⟨rfl, rfl⟩) | ((with_reducible refine (AM1.out _).mono ?_); rintro en w4 ⟨rfl, rfl⟩))
                    | ((with_reducible refine (C2.out _ (HT.out.below HYR.out)).mono ?_); rintro en w2 ⟨rfl, hb2⟩)
                    | ((with_reducible refine (C1.out _ (HT.out.below (below_trans HYR.out hb2))).mono ?_); rintro en w3 ⟨rfl, hb3⟩; obtain ⟨o0, o1, of0, of1⟩ := (HZO.out.below hb2).below hb3))
                  have cb3 := (HCB.out.below hb2).below hb3
                  have zO3 := (HZO.out.below hb2).below hb3
                  go_roundw
                  case rel => exact ⟨k + 1, false, lo, hi9, rfl, by go_num, by omega, HS2.out, HU.out.2.1, HU.out.2.2, cb3, zO3⟩
                  case measure => simp [intOf]; omega
                · go_wp2_with (first
                    | (go_at_call 99; first | ((with_reducible refine (AM2.out _).mono ?_); rintro en w4 ⟨rfl, rfl⟩) | ((with_reducible refine (AM1.out _).mono ?_); rintro en w4 ⟨rfl, rfl⟩))
                    | ((with_reducible refine (C2.out _ (HT.out.below HYR.out)).mono ?_); rintro en w2 ⟨rfl, hb2⟩)
                    | ((with_reducible refine (C1.out _ (HT.out.below (below_trans HYR.out hb2))).mono ?_); rintro en w3 ⟨rfl, hb3⟩; obtain ⟨o0, o1, of0, of1⟩ := (HZO.out.below hb2).below hb3))
                  have cb3 := (HCB.out.below hb2).below hb3
                  have zO3 := (HZO.out.below hb2).below hb3
                  go_roundw
                  case rel => exact ⟨k + 1, false, lo, R1, rfl, by go_num, by omega, HS2.out, HU.out.2.1, HU.out.1.2, cb3.set 1 _, zO3.set1 R1⟩
                  case measure => simp [intOf]; omega
              · cases c1
                · go_wp2_with (first
                    | (go_at_call 99; first | ((with_reducible refine (AM2.out _).mono ?_); rintro en w4 ⟨rfl, rfl⟩) | ((with_reducible refine (AM1.out _).mono ?_); rintro en w4 ⟨rfl, rfl⟩))
                    | ((with_reducible refine (C2.out _ (HT.out.below HYR.out)).mono ?_); rintro en w2 ⟨rfl, hb2⟩)
                    | ((with_reducible refine (C1.out _ (HT.out.below (below_trans HYR.out hb2))).mono ?_); rintro en w3 ⟨rfl, hb3⟩; obtain ⟨o0, o1, of0, of1⟩ := (HZO.out.below hb2).below hb3))
                  have cb3 := (HCB.out.below hb2).below hb3
                  have zO3 := (HZO.out.below hb2).below hb3
                  go_roundw
                  case rel => exact ⟨k + 1, false, R2, hi9, rfl, by go_num, by omega, HS2.out, HU.out.1.1, HU.out.2.2, cb3.set 0 _, zO3.set0 R2⟩
                  case measure => simp [intOf]; omega
                · go_wp2_with (first
                    | (go_at_call 99; first | ((with_reducible refine (AM2.out _).mono ?_); rintro en w4 ⟨rfl, rfl⟩) | ((with_reducible refine (AM1.out _).mono ?_); rintro en w4 ⟨rfl, rfl⟩))
                    | ((with_reducible refine (C2.out _ (HT.out.below HYR.out)).mono ?_); rintro en w2 ⟨rfl, hb2⟩)
                    | ((with_reducible refine (C1.out _ (HT.out.below (below_trans HYR.out hb2))).mono ?_); rintro en w3 ⟨rfl, hb3⟩; obtain ⟨o0, o1, of0, of1⟩ := (HZO.out.below hb2).below hb3))
                  have cb3 := (HCB.out.below hb2).below hb3
                  have zO3 := (HZO.out.below hb2).below hb3
                  go_roundw
                  case rel => exact ⟨k + 1, false, R2, R1, rfl, by go_num, by omega, HS2.out, HU.out.1.1, HU.out.1.2, (cb3.set 0 _).set 1 _, (zO3.set0 R2).set1 R1⟩
                  case measure => simp [intOf]; omega
            · go_wp2_with (first
                | (go_at_call 99; first | ((with_reducible refine (AM2.out _).mono ?_); rintro en w4 ⟨rfl, rfl⟩) | ((with_reducible refine (AM1.out _).mono ?_); rintro en w4 ⟨rfl, rfl⟩))
                | ((with_reducible refine (C2.out _ (HT.out.below HYR.out)).mono ?_); rintro en w2 ⟨rfl, hb2⟩)
                | ((with_reducible refine (C1.out _ (HT.out.below (below_trans HYR.out hb2))).mono ?_); rintro en w3 ⟨rfl, hb3⟩; obtain ⟨o0, o1, of0, of1⟩ := (HZO.out.below hb2).below hb3))
              have cb3 := (HCB.out.below hb2).below hb3
              have zO3 := (HZO.out.below hb2).below hb3
              go_roundw
              case rel => exact ⟨k + 1, false, R2, R1, rfl, by go_num, by omega, HS2.out, HU.out.1.1, HU.out.1.2, (cb3.set 0 _).set 1 _, (zO3.set0 R2).set1 R1⟩
              case measure => simp [intOf]; omega
        · have hk3 : k = 2 := by omega
          subst hk3
          have g2 : ¬ ((2 : Nat) : Int) < 2 := by omega
          have HH := hid (And.intro ul (And.intro uh (And.intro cb zO)))
          clear ul uh cb zO
          go_wp2_with fail
          go_roundw
          case rel => exact ⟨j + 1, b, lo, hi9, rfl, by go_num, by omega, HST.out, HH.out.1, HH.out.2.1, HH.out.2.2.1, HH.out.2.2.2⟩
          case measure => simp [intOf]; omega
    · have hj3 : j = 2 := by omega
      subst hj3
      have g1 : ¬ ((2 : Nat) : Int) < 2 := by omega
      have P1 := hid (fun w => plain_any lo w)
      have P2 := hid (fun w => plain_any hi9 w)
      have hres : (cstN ok r l h m i 4).2.1 = lo ∧ (cstN ok r l h m i 4).2.2 = hi9 := by
        have := HST.out
        rw [show (2 * 2 : Nat) = 4 from rfl] at this
        rw [this]; exact ⟨rfl, rfl⟩
      have HRS := hid hres
      clear hres HST
      go_upto_region 19 with fail
      refine wp_region_grow 7 [69, 70, 71, 72, 73, 74, 75] [Fact.is (.pointer (some ⟨gO, 0, none⟩)), Fact.is (.int .u64 lo), Fact.is (.int .u64 (plainOf lo)), Fact.is (.pointer (some ⟨gO, 1, none⟩)), Fact.is (.int .u64 hi9), Fact.is (.int .u64 (plainOf hi9)), Fact.is (.agg #[.int .u64 (plainOf lo), .int .u64 (plainOf hi9)])] (by kernel_rfl) (by kernel_rfl) ⟨?o0, ?o1, ?o2, ?o3, ?o4, ?o5, ?o6, trivial⟩ ?after
      case o0 => (refine StepOK.plain rfl ?_; intro ρ w1 R hρ hb hp hR; have e8 : ρ (.tmp 8) = .pointer (some ⟨gO, 0, none⟩) := hρ.tmp 8 rfl; have hcon := hρ.con; have hfn := hρ.fn; clear hρ hp; unfold OpRun; go_simp; exact hR _ _ (Below.refl _ _) rfl)
      case o1 => (refine StepOK.plain rfl ?_; intro ρ w1 R hρ hb hp hR; have e69 : ρ (.tmp 69) = _ := hp 0 69 rfl rfl; obtain ⟨j0, j1, j2, j3⟩ := zO.below hb; have hcon := hρ.con; have hfn := hρ.fn; clear hρ hp; unfold OpRun; go_simp; exact hR _ _ (Below.refl _ _) rfl)
      case o2 => (refine StepOK.plain rfl ?_; intro ρ w1 R hρ hb hp hR; have e70 : ρ (.tmp 70) = _ := hp 1 70 rfl rfl; have hcon := hρ.con; have hfn := hρ.fn; clear hρ hp; unfold OpRun; go_simp; (refine (P1.out _).mono ?_; rintro e wn ⟨rfl, rfl⟩; exact ⟨_, rfl, hR _ _ (Below.refl _ _) rfl⟩))
      case o3 => (refine StepOK.plain rfl ?_; intro ρ w1 R hρ hb hp hR; have e8 : ρ (.tmp 8) = .pointer (some ⟨gO, 0, none⟩) := hρ.tmp 8 rfl; have hcon := hρ.con; have hfn := hρ.fn; clear hρ hp; unfold OpRun; go_simp; exact hR _ _ (Below.refl _ _) rfl)
      case o4 => (refine StepOK.plain rfl ?_; intro ρ w1 R hρ hb hp hR; have e72 : ρ (.tmp 72) = _ := hp 3 72 rfl rfl; obtain ⟨j0, j1, j2, j3⟩ := zO.below hb; have hcon := hρ.con; have hfn := hρ.fn; clear hρ hp; unfold OpRun; go_simp; exact hR _ _ (Below.refl _ _) rfl)
      case o5 => (refine StepOK.plain rfl ?_; intro ρ w1 R hρ hb hp hR; have e73 : ρ (.tmp 73) = _ := hp 4 73 rfl rfl; have hcon := hρ.con; have hfn := hρ.fn; clear hρ hp; unfold OpRun; go_simp; (refine (P2.out _).mono ?_; rintro e wn ⟨rfl, rfl⟩; exact ⟨_, rfl, hR _ _ (Below.refl _ _) rfl⟩))
      case o6 => (refine StepOK.plain rfl ?_; intro ρ w1 R hρ hb hp hR; have e71 : ρ (.tmp 71) = _ := hp 2 71 rfl rfl; have e74 : ρ (.tmp 74) = _ := hp 5 74 rfl rfl; have hcon := hρ.con; have hfn := hρ.fn; clear hρ hp; unfold OpRun; go_simp; exact hR _ _ (Below.refl _ _) rfl)
      case after =>
        intro u wn hb hf
        have e75 : u 75 = _ := hf 6 75 (by omega) rfl
        clear hf
        simp only [putAll, Act.put, List.setIfInBounds_toArray, List.set_cons_zero, List.set_cons_succ, List.drop_succ_cons, List.drop_zero, List.drop_nil]
        rw [e75]
        have c9 := cb.below hb
        obtain ⟨k0, k1, f0, f1⟩ := id c9.2.2.2.1
        have yb9 := c9.1
        clear cb zO hb c9 ul uh
        go_wp2_with fail
        refine bodyPost_ret (by simp [results, Tryz.results42, go_sem, k0, k1]; try rfl) rfl ?_
        rw [HRS.out.1, HRS.out.2]
        exact ⟨rfl, by (repeat' (first | (with_reducible assumption) | (with_reducible exact Below.refl _ _) | (with_reducible refine below_al ?_ _) | (with_reducible refine below_drewN ?_ _) | (with_reducible refine Below.drew ?_) | (with_reducible refine Below.alloc ?_ ?_ _) | (with_reducible refine Below.setCell ?_ ?_ _) | (refine below_trans ?_ (by assumption)) | go_size))⟩
end Go.Proofs.YtfphmlmgjhebjaaGreatDoor

set_option linter.unusedVariables false
set_option linter.unusedSimpArgs false
namespace Go.Ulp
open Go.RowKit
/-- which kind of product: 0 none, 1 infinite, 2 zero, 3 a value -/
def kP (nx ny ix iy zx zy : Bool) : Nat := if (nx || ny || (ix && zy) || (zx && iy)) = true then 0 else if (ix || iy) = true then 1 else if (zx || zy) = true then 2 else 3
def kindP (x y : Int) : Nat := kP (isNan x) (isNan y) (isInf x) (isInf y) (isZer x) (isZer y)
def infX (s : Bool) : Int := if s then 18442240474082181120 else 9218868437227405312
theorem infX_eq (s : Bool) : infX s = 9218868437227405312 + sgb s := by cases s <;> rfl
def sgx (x y : Int) : Bool := negB x != negB y
def spX (k : Nat) (s : Bool) : Int := if k = 0 then 9221120237041090560 else if k = 1 then infX s else 0
def pX (k : Nat) (s : Bool) (D : Dy) (mode : Int) : Int := if k = 0 then 9221120237041090560 else if k = 1 then infX s else if k = 2 then sgb s else rX D mode
def pC (k : Nat) (D : Dy) (mode : Int) : Bool := if k = 3 then rC D mode else false
theorem kP_le (a b c d e f : Bool) : kP a b c d e f ≤ 3 := by unfold kP; split; omega; split; omega; split <;> omega
theorem sign_bits (x y : Int) (hx : 0 ≤ x ∧ x < 18446744073709551616) (hy : 0 ≤ y ∧ y < 18446744073709551616) : bits .and .u64 (bits .xor .u64 x y) 9223372036854775808 = sgb (sgx x y) := by
  obtain ⟨n, rfl⟩ := Int.eq_ofNat_of_zero_le hx.1
  obtain ⟨m, rfl⟩ := Int.eq_ofNat_of_zero_le hy.1
  have hn : n < 2 ^ 64 := by omega
  have hm : m < 2 ^ 64 := by omega
  rw [u64_xor_nat n m (by omega) (by omega)]
  have hlt : n ^^^ m < 2 ^ 64 := Nat.xor_lt_two_pow hn hm
  have e := u64_and_nat (n ^^^ m) 9223372036854775808 (by omega) (by omega)
  rw [show ((9223372036854775808 : Nat) : Int) = 9223372036854775808 from rfl] at e
  rw [e]
  have tb : ∀ k : Nat, k < 2 ^ 64 → k.testBit 63 = decide (9223372036854775808 ≤ k) := by
    intro k hk
    rw [Nat.testBit_eq_decide_div_mod_eq, decide_eq_decide]
    omega
  have key : (n ^^^ m) &&& 9223372036854775808 = if (n ^^^ m).testBit 63 then 9223372036854775808 else 0 := by
    apply Nat.eq_of_testBit_eq
    intro i
    have h2 : (9223372036854775808 : Nat) = 2 ^ 63 := by decide
    rw [Nat.testBit_and]
    by_cases hi : 63 = i
    · subst hi
      cases h : (n ^^^ m).testBit 63
      · simp
      · simp [h2]
    · have : (9223372036854775808 : Nat).testBit i = false := by rw [h2, Nat.testBit_two_pow]; simp [hi]
      rw [this, Bool.and_false]
      split
      · exact this.symm
      · simp
  rw [key, Nat.testBit_xor, tb n hn, tb m hm]
  unfold sgb sgx negB
  have a : decide (9223372036854775808 ≤ n) = decide ((9223372036854775808 : Int) ≤ (n : Int)) := by rw [decide_eq_decide]; omega
  have b : decide (9223372036854775808 ≤ m) = decide ((9223372036854775808 : Int) ≤ (m : Int)) := by rw [decide_eq_decide]; omega
  rw [a, b]
  cases decide ((9223372036854775808 : Int) ≤ (n : Int)) <;> cases decide ((9223372036854775808 : Int) ≤ (m : Int)) <;> rfl
/-- of kinds 2 and 3 both have values -/
theorem kind_val {x y : Int} (h : 2 ≤ kindP x y) : classOf x < 4 ∧ classOf y < 4 := by
  unfold kindP kP at h
  have a := class_bd x
  have b := class_bd y
  unfold isNan isInf at h
  split at h
  · omega
  · split at h
    · omega
    · rename_i h1 h2
      simp only [Bool.or_eq_true, Bool.and_eq_true, beq_iff_eq, not_or] at h1 h2
      omega
theorem kind_zero {x y : Int} (h : kindP x y = 2) : classOf x = 1 ∨ classOf y = 1 := by
  unfold kindP kP at h
  split at h
  · omega
  · split at h
    · omega
    · split at h
      · rename_i h1
        rw [Bool.or_eq_true] at h1
        unfold isZer at h1
        rw [beq_iff_eq, beq_iff_eq] at h1
        exact h1
      · omega
theorem kind_three {x y : Int} (h : kindP x y = 3) : classOf x ≠ 1 ∧ classOf y ≠ 1 := by
  unfold kindP kP at h
  split at h
  · omega
  · split at h
    · omega
    · split at h
      · omega
      · rename_i h1
        rw [Bool.or_eq_true] at h1
        unfold isZer at h1
        rw [beq_iff_eq, beq_iff_eq] at h1
        omega
theorem prod_uV {x y : Int} (hx : 0 ≤ x ∧ x < 18446744073709551616) (hy : 0 ≤ y ∧ y < 18446744073709551616) (h : 2 ≤ kindP x y) : mulD (fv x) (fv y) = nrm (uV x * uV y) (-2148) := by
  obtain ⟨a, b⟩ := kind_val h
  rw [fv_uV x hx.1 hx.2 a, fv_uV y hy.1 hy.2 b, ← nrm_mul]
  rfl
theorem prod_zero {x y : Int} (hx : 0 ≤ x ∧ x < 18446744073709551616) (hy : 0 ≤ y ∧ y < 18446744073709551616) (h : kindP x y = 2) : (mulD (fv x) (fv y)).1 = 0 := by
  rw [prod_uV hx hy (by omega), nrm_zero_iff]
  rcases kind_zero h with k | k
  · rw [uV_zer x hx.1 hx.2 k, Int.zero_mul]
  · rw [uV_zer y hy.1 hy.2 k, Int.mul_zero]
theorem prod_some {x y : Int} (hx : 0 ≤ x ∧ x < 18446744073709551616) (hy : 0 ≤ y ∧ y < 18446744073709551616) (h : kindP x y = 3) : (mulD (fv x) (fv y)).1 ≠ 0 := by
  rw [prod_uV hx hy (by omega), Ne, nrm_zero_iff]
  obtain ⟨a, b⟩ := kind_val (x := x) (y := y) (by omega)
  obtain ⟨c, d⟩ := kind_three h
  intro e
  rcases Int.mul_eq_zero.1 e with e | e
  · exact c ((uV_zero_iff x hx.1 hx.2 a).1 e)
  · exact d ((uV_zero_iff y hy.1 hy.2 b).1 e)
end Go.Ulp
namespace Go.Proofs.YtfphmlmgjhebjaaGreatDoor
open Go.RowKit Go.Ulp
set_option linter.unusedVariables false
set_option linter.unusedSimpArgs false
set_option maxHeartbeats 2000000
set_option maxRecDepth 100000
theorem pSign_any (x y : Int) (hx : 0 ≤ x ∧ x < 18446744073709551616) (hy : 0 ≤ y ∧ y < 18446744073709551616) (w : World) :
    Calls Tryz.prog 102 #[.int .u64 x, .int .u64 y] w fun e w' => e = .returned (.int .u64 (sgb (sgx x y))) ∧ w = w' := by
  have HS := hid (sign_bits x y hx hy)
  obtain ⟨x0, x1⟩ := hx
  obtain ⟨y0, y1⟩ := hy
  go_enter Tryz.func102, Tryz.ntmps102
  go_wp2_with fail
  go_ret
  exact ⟨ret_int HS.out, rfl⟩
theorem special_any (x y : Int) (hx : 0 ≤ x ∧ x < 18446744073709551616) (hy : 0 ≤ y ∧ y < 18446744073709551616) (w : World) :
    Calls Tryz.prog 100 #[.int .u64 x, .int .u64 y] w fun e w' => e = .returned (.tuple #[.int .u64 (spX (kindP x y) (sgx x y)), .bool (decide (kindP x y < 2))]) ∧ w = w' := by
  have CX := hid (fun w => class_any x hx.1 hx.2 w)
  have CY := hid (fun w => class_any y hy.1 hy.2 w)
  have SG := hid (fun w => pSign_any x y hx hy w)
  have HK := hid (show kindP x y = kP (classOf x == 5) (classOf y == 5) (classOf x == 4) (classOf y == 4) (classOf x == 1) (classOf y == 1) from rfl)
  generalize sgx x y = s at *
  have OI := hid (show bits .or .u64 9218868437227405312 (sgb s) = infX s by rw [infX_eq]; exact or_sgb s _ _ rfl (by omega) (by omega))
  generalize kindP x y = k at *
  generalize classOf x = a at *
  generalize classOf y = b at *
  clear hx hy
  go_enter Tryz.func100, Tryz.ntmps100
  cases n0 : (a == 5)
  · cases n1 : (b == 5)
    · cases i0 : (a == 4)
      · cases z0 : (a == 1)
        · cases i1 : (b == 4)
          · cases z1 : (b == 1)
            · go_wp2_with (first
                | (go_at_call 33; (with_reducible refine (CX.out _).mono ?_); rintro en w1 ⟨rfl, rfl⟩)
                | (go_at_call 33; (with_reducible refine (CY.out _).mono ?_); rintro en w1 ⟨rfl, rfl⟩)
                | (go_at_call 102; (with_reducible refine (SG.out _).mono ?_); rintro en w1 ⟨rfl, rfl⟩))
              go_ret2
              refine ⟨ret2 ?_ ?_, rfl⟩
              · rw [HK.out]
                simp only [n0, kP, spX, Bool.true_or, Bool.or_true, Bool.false_or, Bool.or_false, if_true, if_false, *]
                try (first | exact OI.out | rfl | simp [OI.out])
              · rw [HK.out]
                simp only [n0, kP, Bool.true_or, Bool.or_true, Bool.false_or, Bool.or_false, if_true, if_false, *]
                try (first | rfl | simp)
            · go_wp2_with (first
                | (go_at_call 33; (with_reducible refine (CX.out _).mono ?_); rintro en w1 ⟨rfl, rfl⟩)
                | (go_at_call 33; (with_reducible refine (CY.out _).mono ?_); rintro en w1 ⟨rfl, rfl⟩)
                | (go_at_call 102; (with_reducible refine (SG.out _).mono ?_); rintro en w1 ⟨rfl, rfl⟩))
              go_ret2
              refine ⟨ret2 ?_ ?_, rfl⟩
              · rw [HK.out]
                simp only [n0, kP, spX, Bool.true_or, Bool.or_true, Bool.false_or, Bool.or_false, if_true, if_false, *]
                try (first | exact OI.out | rfl | simp [OI.out])
              · rw [HK.out]
                simp only [n0, kP, Bool.true_or, Bool.or_true, Bool.false_or, Bool.or_false, if_true, if_false, *]
                try (first | rfl | simp)
          · go_wp2_with (first
              | (go_at_call 33; (with_reducible refine (CX.out _).mono ?_); rintro en w1 ⟨rfl, rfl⟩)
              | (go_at_call 33; (with_reducible refine (CY.out _).mono ?_); rintro en w1 ⟨rfl, rfl⟩)
              | (go_at_call 102; (with_reducible refine (SG.out _).mono ?_); rintro en w1 ⟨rfl, rfl⟩))
            go_ret2
            refine ⟨ret2 ?_ ?_, rfl⟩
            · rw [HK.out]
              simp only [n0, kP, spX, Bool.true_or, Bool.or_true, Bool.false_or, Bool.or_false, if_true, if_false, *]
              try (first | exact OI.out | rfl | simp [OI.out])
            · rw [HK.out]
              simp only [n0, kP, Bool.true_or, Bool.or_true, Bool.false_or, Bool.or_false, if_true, if_false, *]
              try (first | rfl | simp)
        · cases i1 : (b == 4)
          · cases z1 : (b == 1)
            · go_wp2_with (first
                | (go_at_call 33; (with_reducible refine (CX.out _).mono ?_); rintro en w1 ⟨rfl, rfl⟩)
                | (go_at_call 33; (with_reducible refine (CY.out _).mono ?_); rintro en w1 ⟨rfl, rfl⟩)
                | (go_at_call 102; (with_reducible refine (SG.out _).mono ?_); rintro en w1 ⟨rfl, rfl⟩))
              go_ret2
              refine ⟨ret2 ?_ ?_, rfl⟩
              · rw [HK.out]
                simp only [n0, kP, spX, Bool.true_or, Bool.or_true, Bool.false_or, Bool.or_false, if_true, if_false, *]
                try (first | exact OI.out | rfl | simp [OI.out])
              · rw [HK.out]
                simp only [n0, kP, Bool.true_or, Bool.or_true, Bool.false_or, Bool.or_false, if_true, if_false, *]
                try (first | rfl | simp)
            · go_wp2_with (first
                | (go_at_call 33; (with_reducible refine (CX.out _).mono ?_); rintro en w1 ⟨rfl, rfl⟩)
                | (go_at_call 33; (with_reducible refine (CY.out _).mono ?_); rintro en w1 ⟨rfl, rfl⟩)
                | (go_at_call 102; (with_reducible refine (SG.out _).mono ?_); rintro en w1 ⟨rfl, rfl⟩))
              go_ret2
              refine ⟨ret2 ?_ ?_, rfl⟩
              · rw [HK.out]
                simp only [n0, kP, spX, Bool.true_or, Bool.or_true, Bool.false_or, Bool.or_false, if_true, if_false, *]
                try (first | exact OI.out | rfl | simp [OI.out])
              · rw [HK.out]
                simp only [n0, kP, Bool.true_or, Bool.or_true, Bool.false_or, Bool.or_false, if_true, if_false, *]
                try (first | rfl | simp)
          · go_wp2_with (first
              | (go_at_call 33; (with_reducible refine (CX.out _).mono ?_); rintro en w1 ⟨rfl, rfl⟩)
              | (go_at_call 33; (with_reducible refine (CY.out _).mono ?_); rintro en w1 ⟨rfl, rfl⟩)
              | (go_at_call 102; (with_reducible refine (SG.out _).mono ?_); rintro en w1 ⟨rfl, rfl⟩))
            go_ret2
            refine ⟨ret2 ?_ ?_, rfl⟩
            · rw [HK.out]
              simp only [n0, kP, spX, Bool.true_or, Bool.or_true, Bool.false_or, Bool.or_false, if_true, if_false, *]
              try (first | exact OI.out | rfl | simp [OI.out])
            · rw [HK.out]
              simp only [n0, kP, Bool.true_or, Bool.or_true, Bool.false_or, Bool.or_false, if_true, if_false, *]
              try (first | rfl | simp)
      · have z0 : (a == 1) = false := by have := beq_iff_eq.1 i0; rw [beq_eq_false_iff_ne]; omega
        cases z1 : (b == 1)
        · cases i1 : (b == 4)
          · go_wp2_with (first
              | (go_at_call 33; (with_reducible refine (CX.out _).mono ?_); rintro en w1 ⟨rfl, rfl⟩)
              | (go_at_call 33; (with_reducible refine (CY.out _).mono ?_); rintro en w1 ⟨rfl, rfl⟩)
              | (go_at_call 102; (with_reducible refine (SG.out _).mono ?_); rintro en w1 ⟨rfl, rfl⟩))
            go_ret2
            refine ⟨ret2 ?_ ?_, rfl⟩
            · rw [HK.out]
              simp only [n0, kP, spX, Bool.true_or, Bool.or_true, Bool.false_or, Bool.or_false, if_true, if_false, *]
              try (first | exact OI.out | rfl | simp [OI.out])
            · rw [HK.out]
              simp only [n0, kP, Bool.true_or, Bool.or_true, Bool.false_or, Bool.or_false, if_true, if_false, *]
              try (first | rfl | simp)
          · go_wp2_with (first
              | (go_at_call 33; (with_reducible refine (CX.out _).mono ?_); rintro en w1 ⟨rfl, rfl⟩)
              | (go_at_call 33; (with_reducible refine (CY.out _).mono ?_); rintro en w1 ⟨rfl, rfl⟩)
              | (go_at_call 102; (with_reducible refine (SG.out _).mono ?_); rintro en w1 ⟨rfl, rfl⟩))
            go_ret2
            refine ⟨ret2 ?_ ?_, rfl⟩
            · rw [HK.out]
              simp only [n0, kP, spX, Bool.true_or, Bool.or_true, Bool.false_or, Bool.or_false, if_true, if_false, *]
              try (first | exact OI.out | rfl | simp [OI.out])
            · rw [HK.out]
              simp only [n0, kP, Bool.true_or, Bool.or_true, Bool.false_or, Bool.or_false, if_true, if_false, *]
              try (first | rfl | simp)
        · go_wp2_with (first
            | (go_at_call 33; (with_reducible refine (CX.out _).mono ?_); rintro en w1 ⟨rfl, rfl⟩)
            | (go_at_call 33; (with_reducible refine (CY.out _).mono ?_); rintro en w1 ⟨rfl, rfl⟩)
            | (go_at_call 102; (with_reducible refine (SG.out _).mono ?_); rintro en w1 ⟨rfl, rfl⟩))
          go_ret2
          refine ⟨ret2 ?_ ?_, rfl⟩
          · rw [HK.out]
            simp only [n0, kP, spX, Bool.true_or, Bool.or_true, Bool.false_or, Bool.or_false, if_true, if_false, *]
            try (first | exact OI.out | rfl | simp [OI.out])
          · rw [HK.out]
            simp only [n0, kP, Bool.true_or, Bool.or_true, Bool.false_or, Bool.or_false, if_true, if_false, *]
            try (first | rfl | simp)
    · go_wp2_with (first
        | (go_at_call 33; (with_reducible refine (CX.out _).mono ?_); rintro en w1 ⟨rfl, rfl⟩)
        | (go_at_call 33; (with_reducible refine (CY.out _).mono ?_); rintro en w1 ⟨rfl, rfl⟩)
        | (go_at_call 102; (with_reducible refine (SG.out _).mono ?_); rintro en w1 ⟨rfl, rfl⟩))
      go_ret2
      refine ⟨ret2 ?_ ?_, rfl⟩
      · rw [HK.out]
        simp only [n0, kP, spX, Bool.true_or, Bool.or_true, Bool.false_or, Bool.or_false, if_true, if_false, *]
        try (first | exact OI.out | rfl | simp [OI.out])
      · rw [HK.out]
        simp only [n0, kP, Bool.true_or, Bool.or_true, Bool.false_or, Bool.or_false, if_true, if_false, *]
        try (first | rfl | simp)
  · go_wp2_with (first
      | (go_at_call 33; (with_reducible refine (CX.out _).mono ?_); rintro en w1 ⟨rfl, rfl⟩)
      | (go_at_call 33; (with_reducible refine (CY.out _).mono ?_); rintro en w1 ⟨rfl, rfl⟩)
      | (go_at_call 102; (with_reducible refine (SG.out _).mono ?_); rintro en w1 ⟨rfl, rfl⟩))
    go_ret2
    refine ⟨ret2 ?_ ?_, rfl⟩
    · rw [HK.out]
      simp only [n0, kP, spX, Bool.true_or, Bool.or_true, Bool.false_or, Bool.or_false, if_true, if_false, *]
      try (first | exact OI.out | rfl | simp [OI.out])
    · rw [HK.out]
      simp only [n0, kP, Bool.true_or, Bool.or_true, Bool.false_or, Bool.or_false, if_true, if_false, *]
      try (first | rfl | simp)
end Go.Proofs.YtfphmlmgjhebjaaGreatDoor
