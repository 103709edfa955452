/- Rounding, the reference's side: Rounded. -/
import Derived.Test.YtdoiobdomngccaaRr3
import Derived.Test.YtdoiobdomngccaaRd
set_option linter.unusedVariables false
set_option linter.unusedSimpArgs false
namespace Go.Ulp
open Go.RowKit
theorem ret2' {a b : Int} {c d : Bool} (h : a = b) (h' : c = d) : Ending.returned (.tuple #[.int .u64 a, .bool c]) = .returned (.tuple #[.int .u64 b, .bool d]) := by rw [h, h']
theorem QD.zero {t : TypeId} {w : World} {A T : Nat} (hA : 0 < A) : QD t w (0, 0) A T (.agg #[.bool false, .slice none 0 0, .int .i64 0]) :=
  ⟨0, 0, none, 0, rfl, Nz.nil' _ _ (by unfold maxLen; omega), rfl, Nat.two_pow_pos A, Nat.zero_le _⟩
/-- what the reference's rounding leaves -/
def RetRd (c cm : Int → Int) (cz more mode : Int) (w : World) (e : Ending) (w' : World) : Prop :=
  ∃ l, IsLow c l ∧ e = .returned (.tuple #[.int .u64 (moreAns c cm cz more mode l).1, .bool (moreAns c cm cz more mode l).2]) ∧ Below w.heap.size w w'
end Go.Ulp
namespace Go.Proofs.Ytdoiobdomngccaa
open Go.RowKit Go.Ulp
set_option linter.unusedVariables false
set_option linter.unusedSimpArgs false
set_option maxHeartbeats 1000000
set_option maxRecDepth 100000
theorem tell_any (neg : Bool) (g : Nat) (r : Int) (h0 : -9218868437227405312 ≤ r) (h1 : r ≤ 9218868437227405312) (w : World) (hc : w.cell? ⟨g, 0, none⟩ = some (.bool neg)) :
    Calls Try.prog 111 #[.int .i64 r, .pointer (some ⟨g, 0, none⟩)] w fun e w' => e = .returned (.tuple #[.int .u64 (tellR neg r), .bool true]) ∧ w = w' := by
  have RK := hid (fun w => ranked_any r h0 h1 w)
  by_cases hr : r = 0
  · subst hr
    cases neg
    · have H := hid (show ranked 0 = tellR false 0 by unfold tellR; rw [if_neg (by simp)])
      go_enter Try.func111, Try.ntmps111
      go_wp2_with (go_at_call 24; (with_reducible refine (RK.out _).mono ?_); rintro e w1 ⟨rfl, rfl⟩)
      go_ret2
      exact ⟨ret2' H.out rfl, rfl⟩
    · have H := hid (show 9223372036854775808 = tellR true 0 by unfold tellR; rw [if_pos ⟨rfl, rfl⟩])
      go_enter Try.func111, Try.ntmps111
      go_wp2_with (go_at_call 24; (with_reducible refine (RK.out _).mono ?_); rintro e w1 ⟨rfl, rfl⟩)
      go_ret2
      exact ⟨ret2' H.out rfl, rfl⟩
  · have H := hid (show ranked r = tellR neg r by unfold tellR; rw [if_neg (fun h => hr h.1)])
    have hb : (r == 0) = false := beq_eq_false_iff_ne.2 hr
    clear hr
    go_enter Try.func111, Try.ntmps111
    go_wp2_with (go_at_call 24; (with_reducible refine (RK.out _).mono ?_); rintro e w1 ⟨rfl, rfl⟩)
    go_ret2
    exact ⟨ret2' H.out rfl, rfl⟩
theorem rounded_any (v : Value) (D : Dy) (A T : Nat) (more mode : Int) (w : World) (hq : QD 3 w D A T v) (hA : A ≤ 10000000) (hT : T ≤ 200000) (hmore : more = -1 ∨ more = 0 ∨ more = 1) :
    Calls Try.prog 58 #[v, .int .i64 more, .int .i64 mode] w (RetRd (fun r => cmpD (rkD r) D) (fun r => cmpD (shD D 1) (addD (rkD r) (rkD (r + 1)))) (cmpD D (0, 0)) more mode w) := by
  have HQ := hid hq
  obtain ⟨x, n, a0, c0, rfl, h0, -, -, hn⟩ := hq
  have LR := hid (fun w h => lowRank_any (.agg #[.bool (zneg x), .slice a0 (zl x).length c0, .int .i64 (n : Int)]) D A T w h hA (by omega))
  have RV := hid (fun r h0 h1 w => rankVal_any r h0 h1 w)
  have RK := hid (fun r h0 h1 w => ranked_any r h0 h1 w)
  have QCr := hid (fun v r w h1 h2 => qcmp_any v (.agg #[.bool (zneg x), .slice a0 (zl x).length c0, .int .i64 (n : Int)]) (rkD r) D 1200 1100 A T w h1 h2 (by omega) (by omega) (by omega) (by omega))
  have QCz := hid (fun w h => qcmp_any (.agg #[.bool (zneg x), .slice a0 (zl x).length c0, .int .i64 (n : Int)]) (.agg #[.bool false, .slice none 0 0, .int .i64 0]) D (0, 0) A T 1 0 w h (QD.zero (by omega)) (by omega) (by omega) (by omega) (by omega))
  have QS := hid (fun w h => qshift_any (.agg #[.bool (zneg x), .slice a0 (zl x).length c0, .int .i64 (n : Int)]) D A T 1 w h (by omega) hT (by omega) (by omega))
  have QA := hid (fun v u r s w h1 h2 => qadd_any v u (rkD r) (rkD s) 1200 1100 1200 1100 w h1 h2 (by omega) (by omega) (by omega) (by omega))
  have zA0 : QL 73 (w.alloc (.cells #[.bool (zneg x), .slice a0 (zl x).length c0, .int .i64 (n : Int)] 73)) w.heap.size (zneg x) (.slice a0 (zl x).length c0) n := QL.made rfl
  have yb0 := below_alloc w (.cells #[.bool (zneg x), .slice a0 (zl x).length c0, .int .i64 (n : Int)] 73)
  obtain ⟨c, hc⟩ : ∃ c, c = fun r => cmpD (rkD r) D := ⟨_, rfl⟩
  obtain ⟨cm, hcm⟩ : ∃ c, c = fun r => cmpD (shD D 1) (addD (rkD r) (rkD (r + 1))) := ⟨_, rfl⟩
  obtain ⟨cz, hcz⟩ : ∃ c, c = cmpD D (0, 0) := ⟨_, rfl⟩
  have HC := hid (fun r => (show c r = cmpD (rkD r) D by rw [hc]))
  have HCM := hid (fun r => (show cm r = cmpD (shD D 1) (addD (rkD r) (rkD (r + 1))) by rw [hcm]))
  rw [← hc, ← hcm, ← hcz]
  rw [← hc] at LR
  rw [← hcz] at QCz
  clear hc hcm hcz
  have hmf : ∀ fn first cap w, (Instr.makeFunc fn first cap).run Try.prog w = .ok (.func fn first cap) w := fun _ _ _ _ => rfl
  go_enter Try.func58, Try.ntmps58
  go_upto_region 2 with (go_at_call 109; (with_reducible refine (LR.out _ (HQ.out.below yb0)).mono ?_); rintro e w1 ⟨l, rfl, hl, hb1⟩)
  have HL := hid hl
  obtain ⟨l0, l1, -, -⟩ := hl
  have zA1 := zA0.below hb1
  have yb1 := below_trans yb0 hb1
  clear zA0 yb0 hb1
  obtain ⟨same, hsame⟩ : ∃ s : Bool, s = decide (-9218868437227405312 < l ∧ c l = 0) := ⟨_, rfl⟩
  have HS := hid hsame
  clear hsame
  go_cut [9] (fun s9 wx => s9 = .bool same ∧ Below w1.heap.size w1 wx)
  case first =>
    by_cases hlb : -9218868437227405312 < l
    · have QCl := hid (fun v w h1 h2 => by have := QCr.out v l w h1 h2; rwa [← HC.out l] at this)
      have RVl := hid (fun w => RV.out l l0 (by omega) w)
      have H9 := hid (show (c l == 0) = same by rw [HS.out, Bool.eq_iff_iff, beq_iff_eq, decide_eq_true_eq]; exact ⟨fun h => ⟨hlb, h⟩, fun h => h.2⟩)
      have hd : decide (-9218868437227405312 < l) = true := decide_eq_true hlb
      generalize c l = cl at QCl H9
      refine wp_region_grow 10 [17, 18, 19, 20, 21, 22, 23, 24, 25, 9] [Fact.is (.int .i64 l), Fact.is (.bool true), Fact.is (.bool true), Fact.is (.int .i64 l), Fact.q 3 (rkD l) 1200 1100, Fact.is (.agg #[.bool (zneg x), .slice a0 (zl x).length c0, .int .i64 (n : Int)]), Fact.is (.int .i64 cl), Fact.is (.bool (cl == 0)), Fact.is (.bool (cl == 0)), Fact.is (.bool (cl == 0))] (by kernel_rfl) (by kernel_rfl) ⟨?o0, ?o1, ?o2, ?o3, ?o4, ?o5, ?o6, ?o7, ?o8, ?o9, trivial⟩ ?after
      case o0 => (refine StepOK.plain rfl ?_; intro ρ w1 R hρ hb hp hR; have e8 : ρ (.tmp 8) = .int .i64 l := hρ.tmp 8 rfl; have hcon := hρ.con; have hfn := hρ.fn; clear hρ hp; unfold OpRun; go_simp; exact hR _ _ (Below.refl _ _) rfl)
      case o1 => (refine StepOK.plain rfl ?_; intro ρ w1 R hρ hb hp hR; have e17 : ρ (.tmp 17) = _ := hp 0 17 rfl rfl; have hcon := hρ.con; have hfn := hρ.fn; clear hρ hp; unfold OpRun; go_simp; exact hR _ _ (Below.refl _ _) rfl)
      case o2 => (refine StepOK.plain rfl ?_; intro ρ w1 R hρ hb hp hR; have e18 : ρ (.tmp 18) = _ := hp 1 18 rfl rfl; have hcon := hρ.con; have hfn := hρ.fn; clear hρ hp; unfold OpRun; go_simp; exact hR _ _ (Below.refl _ _) rfl)
      case o3 => (intro ρ w1 R hρ hb hp hR; have eg : ρ (.tmp 19) = .bool true := hp 2 19 rfl rfl; refine ⟨fun _ => ?_, fun hg => absurd hg (by simp [guardOf, eg])⟩; clear eg; have e8 : ρ (.tmp 8) = .int .i64 l := hρ.tmp 8 rfl; have hcon := hρ.con; have hfn := hρ.fn; clear hρ hp; unfold OpRun; go_simp; exact hR _ _ (Below.refl _ _) rfl)
      case o4 => (intro ρ w1 R hρ hb hp hR; have eg : ρ (.tmp 19) = .bool true := hp 2 19 rfl rfl; refine ⟨fun _ => ?_, fun hg => absurd hg (by simp [guardOf, eg])⟩; clear eg; have e20 : ρ (.tmp 20) = _ := hp 3 20 rfl rfl; have hcon := hρ.con; have hfn := hρ.fn; clear hρ hp; unfold OpRun; go_simp; (refine (RVl.out _).mono ?_; rintro e wn ⟨v, rfl, hq3, hbn⟩; exact ⟨_, rfl, hR _ _ hbn hq3⟩))
      case o5 => (intro ρ w1 R hρ hb hp hR; have eg : ρ (.tmp 19) = .bool true := hp 2 19 rfl rfl; refine ⟨fun _ => ?_, fun hg => absurd hg (by simp [guardOf, eg])⟩; clear eg; have e3 : ρ (.tmp 3) = .pointer (some ⟨w.heap.size, 0, none⟩) := hρ.tmp 3 rfl; obtain ⟨⟨j0, j1, -, -, -⟩, j2, -⟩ := zA1.below hb; have hcon := hρ.con; have hfn := hρ.fn; clear hρ hp; unfold OpRun; go_simp; exact hR _ _ (Below.refl _ _) rfl)
      case o6 => (intro ρ w1 R hρ hb hp hR; have eg : ρ (.tmp 19) = .bool true := hp 2 19 rfl rfl; refine ⟨fun _ => ?_, fun hg => absurd hg (by simp [guardOf, eg])⟩; clear eg; have f21 := hp 4 21 rfl rfl; have e22 : ρ (.tmp 22) = _ := hp 5 22 rfl rfl; have hcon := hρ.con; have hfn := hρ.fn; clear hρ hp; unfold OpRun; go_simp; (refine (QCl.out _ _ f21 (HQ.out.below (below_trans yb1 hb))).mono ?_; rintro e wn ⟨rfl, hbn⟩; exact ⟨_, rfl, hR _ _ hbn rfl⟩))
      case o7 => (intro ρ w1 R hρ hb hp hR; have eg : ρ (.tmp 19) = .bool true := hp 2 19 rfl rfl; refine ⟨fun _ => ?_, fun hg => absurd hg (by simp [guardOf, eg])⟩; clear eg; have e23 : ρ (.tmp 23) = _ := hp 6 23 rfl rfl; have hcon := hρ.con; have hfn := hρ.fn; clear hρ hp; unfold OpRun; go_simp; exact hR _ _ (Below.refl _ _) rfl)
      case o8 => (refine StepOK.plain rfl ?_; intro ρ w1 R hρ hb hp hR; have e19 : ρ (.tmp 19) = _ := hp 2 19 rfl rfl; have e24 : ρ (.tmp 24) = _ := hp 7 24 rfl rfl; have hcon := hρ.con; have hfn := hρ.fn; clear hρ hp; unfold OpRun; go_simp; exact hR _ _ (Below.refl _ _) rfl)
      case o9 => (refine StepOK.plain rfl ?_; intro ρ w1 R hρ hb hp hR; have e25 : ρ (.tmp 25) = _ := hp 8 25 rfl rfl; have hcon := hρ.con; have hfn := hρ.fn; clear hρ hp; unfold OpRun; go_simp; exact hR _ _ (Below.refl _ _) rfl)
      case after =>
        intro u wn hb hf
        have e9 : u 9 = _ := hf 9 9 (by omega) rfl
        clear hf
        simp only [putAll, Act.put, List.setIfInBounds_toArray, List.set_cons_zero, List.set_cons_succ, List.drop_succ_cons, List.drop_zero, List.drop_nil]
        rw [e9]
        go_wp2_with fail
        go_meet
        exact ⟨by rw [H9.out], hb⟩
    · have H9 := hid (show false = same by rw [HS.out, eq_comm, decide_eq_false_iff_not]; exact fun h => hlb h.1)
      have hd : decide (-9218868437227405312 < l) = false := decide_eq_false hlb
      refine wp_region_grow 10 [17, 18, 19, 20, 21, 22, 23, 24, 25, 9] [Fact.is (.int .i64 l), Fact.is (.bool false), Fact.is (.bool false), Fact.any, Fact.any, Fact.any, Fact.any, Fact.any, Fact.is (.bool false), Fact.is (.bool false)] (by kernel_rfl) (by kernel_rfl) ⟨?o0, ?o1, ?o2, ?o3, ?o4, ?o5, ?o6, ?o7, ?o8, ?o9, trivial⟩ ?after
      case o0 => (refine StepOK.plain rfl ?_; intro ρ w1 R hρ hb hp hR; have e8 : ρ (.tmp 8) = .int .i64 l := hρ.tmp 8 rfl; have hcon := hρ.con; have hfn := hρ.fn; clear hρ hp; unfold OpRun; go_simp; exact hR _ _ (Below.refl _ _) rfl)
      case o1 => (refine StepOK.plain rfl ?_; intro ρ w1 R hρ hb hp hR; have e17 : ρ (.tmp 17) = _ := hp 0 17 rfl rfl; have hcon := hρ.con; have hfn := hρ.fn; clear hρ hp; unfold OpRun; go_simp; exact hR _ _ (Below.refl _ _) rfl)
      case o2 => (refine StepOK.plain rfl ?_; intro ρ w1 R hρ hb hp hR; have e18 : ρ (.tmp 18) = _ := hp 1 18 rfl rfl; have hcon := hρ.con; have hfn := hρ.fn; clear hρ hp; unfold OpRun; go_simp; exact hR _ _ (Below.refl _ _) rfl)
      case o3 => (intro ρ w1 R hρ hb hp hR; have eg : ρ (.tmp 19) = .bool false := hp 2 19 rfl rfl; exact ⟨fun hg => absurd hg (by simp [guardOf, eg]), fun _ => trivial⟩)
      case o4 => (intro ρ w1 R hρ hb hp hR; have eg : ρ (.tmp 19) = .bool false := hp 2 19 rfl rfl; exact ⟨fun hg => absurd hg (by simp [guardOf, eg]), fun _ => trivial⟩)
      case o5 => (intro ρ w1 R hρ hb hp hR; have eg : ρ (.tmp 19) = .bool false := hp 2 19 rfl rfl; exact ⟨fun hg => absurd hg (by simp [guardOf, eg]), fun _ => trivial⟩)
      case o6 => (intro ρ w1 R hρ hb hp hR; have eg : ρ (.tmp 19) = .bool false := hp 2 19 rfl rfl; exact ⟨fun hg => absurd hg (by simp [guardOf, eg]), fun _ => trivial⟩)
      case o7 => (intro ρ w1 R hρ hb hp hR; have eg : ρ (.tmp 19) = .bool false := hp 2 19 rfl rfl; exact ⟨fun hg => absurd hg (by simp [guardOf, eg]), fun _ => trivial⟩)
      case o8 => (refine StepOK.plain rfl ?_; intro ρ w1 R hρ hb hp hR; have e19 : ρ (.tmp 19) = _ := hp 2 19 rfl rfl; have f24 := hp 7 24 rfl rfl; have hcon := hρ.con; have hfn := hρ.fn; clear hρ hp; unfold OpRun; go_simp; exact hR _ _ (Below.refl _ _) rfl)
      case o9 => (refine StepOK.plain rfl ?_; intro ρ w1 R hρ hb hp hR; have e25 : ρ (.tmp 25) = _ := hp 8 25 rfl rfl; have hcon := hρ.con; have hfn := hρ.fn; clear hρ hp; unfold OpRun; go_simp; exact hR _ _ (Below.refl _ _) rfl)
      case after =>
        intro u wn hb hf
        have e9 : u 9 = _ := hf 9 9 (by omega) rfl
        clear hf
        simp only [putAll, Act.put, List.setIfInBounds_toArray, List.set_cons_zero, List.set_cons_succ, List.drop_succ_cons, List.drop_zero, List.drop_nil]
        rw [e9]
        go_wp2_with fail
        go_meet
        exact ⟨by rw [H9.out], hb⟩
  case rest =>
    obtain ⟨rfl, hb2⟩ := hcut
    have zA2 := zA1.below hb2
    have yb2 := below_trans yb1 hb2
    clear zA1 yb1 hb2
    by_cases hret : same = true ∧ more = 0
    · obtain ⟨rfl, rfl⟩ := hret
      have HA := hid (show moreAns c cm cz 0 mode l = (ranked l, false) by
        unfold moreAns
        rw [if_pos ⟨of_decide_eq_true HS.out.symm, rfl⟩])
      have RKl := hid (fun w => RK.out l l0 (by omega) w)
      go_wp2_with (go_at_call 24; (with_reducible refine (RKl.out _).mono ?_); rintro e w3 ⟨rfl, rfl⟩)
      go_ret2
      exact ⟨l, HL.out, ret2' (by rw [HA.out]) (by rw [HA.out]), yb2⟩
    · have HA := hid (show ∀ a b : Int, ∀ ng : Bool, a = loM c more l → b = nearM cm more a → ng = negM cz more → moreAns c cm cz more mode l = if upR ng mode b (a + 1) = true then (tellR ng (a + 1), true) else (tellR ng a, true) from fun a b ng ha hb hn => by
        subst ha; subst hb; subst hn
        unfold moreAns
        rw [if_neg (fun h => hret ⟨by rw [HS.out]; exact decide_eq_true h.1, h.2⟩)])
      obtain ⟨lo, hlo⟩ : ∃ a, a = loM c more l := ⟨_, rfl⟩
      have HLO := hid hlo
      have hlo2 : lo = if same = true ∧ more < 0 then l - 1 else l := by
        rw [hlo]; unfold loM
        have : (same = true ∧ more < 0) ↔ ((-9218868437227405312 < l ∧ c l = 0) ∧ more < 0) := by rw [HS.out, decide_eq_true_eq]
        by_cases h : same = true ∧ more < 0
        · rw [if_pos h, if_pos (this.1 h)]
        · rw [if_neg h, if_neg (fun h2 => h (this.2 h2))]
      have hl9 : same = true → -9218868437227405312 < l := fun h => by
        rw [HS.out] at h; exact (of_decide_eq_true h).1
      have hlob : -9218868437227405312 ≤ lo ∧ lo < 9218868437227405312 := by
        rw [hlo2]
        split
        · rename_i h; have := hl9 h.1; omega
        · omega
      clear hlo
      go_upto_region 3 with fail
      go_cut [30] (fun s30 wx => s30 = .bool false ∧ wx = wc)
      case first =>
        cases hsm : same
        · subst hsm
          go_wp2_with fail
          go_meet
          exact ⟨rfl, rfl⟩
        · have hmb : (more == 0) = false := beq_eq_false_iff_ne.2 (fun h => hret ⟨hsm, h⟩)
          subst hsm
          go_wp2_with fail
          go_meet
          exact ⟨rfl, rfl⟩
      case rest =>
        obtain ⟨rfl, rfl⟩ := hcut
        go_upto_region 6 with fail
        obtain ⟨hi1, hhi1⟩ : ∃ h, h = l + 1 := ⟨_, rfl⟩
        go_cut [8, 10, 39] (fun s8 s10 s39 wx => s8 = .int .i64 l ∧ s10 = .int .i64 (l + 1) ∧ s39 = .bool (same && decide (more < 0)) ∧ wx = wc)
        case first =>
          cases hsm : same
          · subst hsm
            go_wp2_with fail
            go_meet
            exact ⟨rfl, rfl, rfl, rfl⟩
          · subst hsm
            go_wp2_with fail
            go_meet
            exact ⟨rfl, rfl, by rw [Bool.true_and], rfl⟩
        case rest =>
          obtain ⟨rfl, rfl, rfl, rfl⟩ := hcut
          go_upto_if 39 with fail
          go_cut [8, 10] (fun s8 s10 wx => s8 = .int .i64 lo ∧ s10 = .int .i64 (lo + 1) ∧ wx = wc)
          case first =>
            by_cases hs2 : same = true ∧ more < 0
            · rw [if_pos hs2] at hlo2
              obtain ⟨rfl, hm0⟩ := hs2
              have hb9 := hl9 rfl
              have HL2 := hid hlo2
              rw [show (true && decide (more < 0)) = true by rw [Bool.true_and]; exact decide_eq_true hm0]
              clear hlo2 hl9 hlob hret
              go_wp2_with fail
              go_meet
              exact ⟨by rw [HL2.out], by rw [HL2.out]; congr 1; omega, rfl⟩
            · rw [if_neg hs2] at hlo2
              have H39 : (same && decide (more < 0)) = false := by
                cases same
                · rfl
                · rw [Bool.true_and]; exact decide_eq_false (fun h => hs2 ⟨rfl, h⟩)
              have HL2 := hid hlo2
              rw [H39]
              clear hlo2 hl9 hlob hret hs2 H39
              go_wp2_with fail
              go_meet
              exact ⟨by rw [HL2.out], by rw [HL2.out], rfl⟩
          case rest =>
            obtain ⟨rfl, rfl, rfl⟩ := hcut
            obtain ⟨ng, hng⟩ : ∃ b, b = negM cz more := ⟨_, rfl⟩
            have HNG := hid hng
            clear hng hlo2 hl9 hret HS
            obtain ⟨q0, q1⟩ := hlob
            go_upto_region 8 with fail
            go_cut [11] (fun s11 wx => ∃ g, s11 = .pointer (some ⟨g, 0, none⟩) ∧ wx.cell? ⟨g, 0, none⟩ = some (.bool ng) ∧ Below wc.heap.size wc wx)
            case first =>
              obtain ⟨⟨j0, j1, -, -, -⟩, j2, -⟩ := id zA2
              by_cases hz1 : cz < 0
              · have H5 := hid (show ng = true by rw [HNG.out]; exact decide_eq_true (.inl hz1))
                go_wp2_with (go_at_call 101; (with_reducible refine (QCz.out _ (HQ.out.below yb2)).mono ?_); rintro e w4 ⟨rfl, hb4⟩)
                go_meet
                exact ⟨_, rfl, by rw [World.cell?_alloc_at (hn := rfl), H5.out]; rfl, below_trans hb4 (below_alloc _ _)⟩
              · have hz2 : decide (cz < 0) = false := decide_eq_false hz1
                by_cases hz3 : cz = 0
                · have H5 := hid (show ng = decide (more < 0) by rw [HNG.out, negM, decide_eq_decide]; omega)
                  have hz4 : (cz == 0) = true := beq_iff_eq.2 hz3
                  clear hz1 hz3
                  go_wp2_with (go_at_call 101; (first
                    | ((with_reducible refine (QCz.out _ (HQ.out.below yb2)).mono ?_); rintro e w4 ⟨rfl, hb4⟩; obtain ⟨⟨i0, i1, -, -, -⟩, i2, -⟩ := zA2.below hb4; have yb4 := below_trans yb2 hb4)
                    | ((with_reducible refine (QCz.out _ (HQ.out.below yb4)).mono ?_); rintro e w5 ⟨rfl, hb5⟩)))
                  go_meet
                  exact ⟨_, rfl, by rw [World.cell?_alloc_at (hn := rfl), H5.out]; rfl, below_trans (below_trans hb4 hb5) (below_alloc _ _)⟩
                · have H5 := hid (show ng = false by rw [HNG.out, negM, decide_eq_false_iff_not]; omega)
                  have hz4 : (cz == 0) = false := beq_eq_false_iff_ne.2 hz3
                  clear hz1 hz3
                  go_wp2_with (go_at_call 101; (first
                    | ((with_reducible refine (QCz.out _ (HQ.out.below yb2)).mono ?_); rintro e w4 ⟨rfl, hb4⟩; obtain ⟨⟨i0, i1, -, -, -⟩, i2, -⟩ := zA2.below hb4; have yb4 := below_trans yb2 hb4)
                    | ((with_reducible refine (QCz.out _ (HQ.out.below yb4)).mono ?_); rintro e w5 ⟨rfl, hb5⟩)))
                  go_meet
                  exact ⟨_, rfl, by rw [World.cell?_alloc_at (hn := rfl), H5.out]; rfl, below_trans (below_trans hb4 hb5) (below_alloc _ _)⟩
            case rest =>
              obtain ⟨g, rfl, hg, hb3⟩ := hcut
              have zA3 := zA2.below hb3
              have yb3 := below_trans yb2 hb3
              clear zA2 yb2 hb3 QCz QCr
              have RV1 := hid (fun w => RV.out lo q0 (by omega) w)
              have RV2 := hid (fun w => RV.out (lo + 1) (by omega) (by omega) w)
              have QA2 := hid (fun v u w h1 h2 => QA.out v u lo (lo + 1) w h1 h2)
              have QC2 := hid (fun v u w h1 h2 => by
                have := qcmp_any v u (shD D 1) (addD (rkD lo) (rkD (lo + 1))) (A + 400000) 400000 (max 1200 1200 + max 1100 1100 + 1) (max 1100 1100) w h1 h2 (by omega) (by omega) (by omega) (by omega)
                rwa [← HCM.out lo] at this)
              obtain ⟨ml, hml⟩ : ∃ z, z = cm lo := ⟨_, rfl⟩
              rw [← hml] at QC2
              have HML := hid hml
              clear hml
              go_upto_region 10 with fail
              go_cut [13] (fun s13 wx => s13 = .int .i64 ml ∧ Below wc.heap.size wc wx)
              case first =>
                obtain ⟨⟨j0, j1, -, -, -⟩, j2, -⟩ := id zA3
                generalize rkD lo = K1 at *
                generalize rkD (lo + 1) = K2 at *
                go_wp2_with (first
                  | (go_at_call 112; (with_reducible refine (QS.out _ (HQ.out.below yb3)).mono ?_); rintro e w4 ⟨v4, rfl, hq4, hb4⟩)
                  | (go_at_call 110; (first
                      | ((with_reducible refine (RV1.out _).mono ?_); rintro e w5 ⟨v5, rfl, hq5, hb5⟩)
                      | ((with_reducible refine (RV2.out _).mono ?_); rintro e w6 ⟨v6, rfl, hq6, hb6⟩)))
                  | (go_at_call 113; (with_reducible refine (QA2.out _ _ _ (hq5.below hb6) hq6).mono ?_); rintro e w7 ⟨v7, rfl, hq7, hb7⟩)
                  | (go_at_call 101; (with_reducible refine (QC2.out _ _ _ (((hq4.below hb5).below hb6).below hb7) hq7).mono ?_); rintro e w8 ⟨rfl, hb8⟩))
                go_meet
                exact ⟨rfl, below_trans hb4 (below_trans hb5 (below_trans hb6 (below_trans hb7 hb8)))⟩
              case rest =>
                obtain ⟨rfl, hb4⟩ := hcut
                have hg4 := (hb4.cell (World.block_lt_of_cell? _ _ hg)).trans hg
                have yb4 := below_trans yb3 hb4
                clear zA3 hg yb3 hb4 QS QA RV1 RV2 QA2 QC2 RV RK LR HQ h0
                obtain ⟨near, hnear⟩ : ∃ z, z = if ml = 0 then more else ml := ⟨_, rfl⟩
                have HNR := hid hnear
                have hn0 : near = nearM cm more lo := by rw [hnear, HML.out]; rfl
                have HN0 := hid hn0
                clear hnear hn0
                go_upto_if 67 with fail
                go_cut [13] (fun s13 wx => s13 = .int .i64 near ∧ wx = wc)
                case first =>
                  by_cases hz : ml = 0
                  · have hz2 : (ml == 0) = true := beq_iff_eq.2 hz
                    have H5 := hid (show near = more by rw [HNR.out, if_pos hz])
                    clear hz
                    go_wp2_with fail
                    go_meet
                    exact ⟨by rw [H5.out], rfl⟩
                  · have hz2 : (ml == 0) = false := beq_eq_false_iff_ne.2 hz
                    have H5 := hid (show near = ml by rw [HNR.out, if_neg hz])
                    clear hz
                    go_wp2_with fail
                    go_meet
                    exact ⟨by rw [H5.out], rfl⟩
                case rest =>
                  obtain ⟨rfl, rfl⟩ := hcut
                  clear HNR
                  obtain ⟨u1, hu1⟩ : ∃ b : Bool, b = decide (mode = 1 ∨ (mode = 3 ∧ ng = true) ∨ ((mode = 0 ∨ mode = 4) ∧ 0 < near)) := ⟨_, rfl⟩
                  have HU1 := hid hu1
                  clear hu1
                  go_upto_region 13 with fail
                  go_cut [14] (fun s14 wx => s14 = .bool u1 ∧ wx = wc)
                  case first =>
                    by_cases m1 : mode = 1
                    · subst m1
                      have H5 := hid (show u1 = true by rw [HU1.out]; simp)
                      go_wp2_with fail
                      go_meet
                      exact ⟨by rw [H5.out], rfl⟩
                    have b1 : (mode == 1) = false := beq_eq_false_iff_ne.2 m1
                    by_cases m3 : mode = 3
                    · subst m3
                      have H5 := hid (show u1 = ng by rw [HU1.out]; simp)
                      cases hng : ng
                      all_goals
                        rw [hng] at hg4 H5
                        go_wp2_with fail
                        go_meet
                        exact ⟨by rw [H5.out], rfl⟩
                    have b3 : (mode == 3) = false := beq_eq_false_iff_ne.2 m3
                    by_cases m0 : mode = 0
                    · subst m0
                      have H5 := hid (show u1 = decide (0 < near) by rw [HU1.out]; simp)
                      go_wp2_with fail
                      go_meet
                      exact ⟨by rw [H5.out], rfl⟩
                    have b0 : (mode == 0) = false := beq_eq_false_iff_ne.2 m0
                    by_cases m4 : mode = 4
                    · subst m4
                      have H5 := hid (show u1 = decide (0 < near) by rw [HU1.out]; simp)
                      go_wp2_with fail
                      go_meet
                      exact ⟨by rw [H5.out], rfl⟩
                    have b4 : (mode == 4) = false := beq_eq_false_iff_ne.2 m4
                    have H5 := hid (show u1 = false by rw [HU1.out]; simp [m0, m1, m3, m4])
                    clear m0 m1 m3 m4
                    go_wp2_with fail
                    go_meet
                    exact ⟨by rw [H5.out], rfl⟩
                  case rest =>
                    obtain ⟨rfl, rfl⟩ := hcut
                    obtain ⟨u2, hu2⟩ : ∃ b : Bool, b = if near = 0 ∧ mode = 0 then decide ((lo + 1) % 2 = 0) else u1 := ⟨_, rfl⟩
                    have HU2 := hid hu2
                    obtain ⟨u3, hu3⟩ : ∃ b : Bool, b = if near = 0 ∧ mode = 4 then !ng else u2 := ⟨_, rfl⟩
                    have HU3 := hid hu3
                    clear hu2 hu3
                    go_upto_region 14 with fail
                    go_cut [95] (fun s wx => s = .bool ((near == 0) && (mode == 0)) ∧ wx = wc)
                    case first =>
                      by_cases hz : near = 0
                      · have hz2 : (near == 0) = true := beq_iff_eq.2 hz
                        clear hz
                        go_wp2_with fail
                        go_meet
                        exact ⟨by rw [hz2, Bool.true_and], rfl⟩
                      · have hz2 : (near == 0) = false := beq_eq_false_iff_ne.2 hz
                        clear hz
                        go_wp2_with fail
                        go_meet
                        exact ⟨by rw [hz2]; rfl, rfl⟩
                    case rest =>
                      obtain ⟨rfl, rfl⟩ := hcut
                      go_upto_if 95 with fail
                      go_cut [14] (fun s14 wx => s14 = .bool u2 ∧ wx = wc)
                      case first =>
                        cases hb9 : ((near == 0) && (mode == 0))
                        · have H5 := hid (show u2 = u1 by
                            rw [HU2.out, if_neg]
                            intro h
                            rw [beq_iff_eq.2 h.1, beq_iff_eq.2 h.2] at hb9
                            cases hb9)
                          clear hb9
                          go_wp2_with fail
                          go_meet
                          exact ⟨by rw [H5.out], rfl⟩
                        · have H5 := hid (show u2 = decide ((lo + 1) % 2 = 0) by
                            rw [Bool.and_eq_true, beq_iff_eq, beq_iff_eq] at hb9
                            rw [HU2.out, if_pos hb9])
                          clear hb9
                          obtain ⟨ta, tc, -, e2, e3, e4, e5⟩ := tdiv2 (lo + 1)
                          have H6 := hid (show (tc == 0) = decide ((lo + 1) % 2 = 0) by rw [Bool.eq_iff_iff, beq_iff_eq, decide_eq_true_eq]; omega)
                          clear e3 e4 e5
                          go_wp2_with fail
                          go_meet
                          exact ⟨by rw [H5.out]; rw [← H6.out], rfl⟩
                      case rest =>
                        obtain ⟨rfl, rfl⟩ := hcut
                        go_upto_region 16 with fail
                        go_cut [104] (fun s wx => s = .bool ((near == 0) && (mode == 4)) ∧ wx = wc)
                        case first =>
                          by_cases hz : near = 0
                          · have hz2 : (near == 0) = true := beq_iff_eq.2 hz
                            clear hz
                            go_wp2_with fail
                            go_meet
                            exact ⟨by rw [hz2, Bool.true_and], rfl⟩
                          · have hz2 : (near == 0) = false := beq_eq_false_iff_ne.2 hz
                            clear hz
                            go_wp2_with fail
                            go_meet
                            exact ⟨by rw [hz2]; rfl, rfl⟩
                        case rest =>
                          obtain ⟨rfl, rfl⟩ := hcut
                          go_upto_if 104 with fail
                          go_cut [14] (fun s14 wx => s14 = .bool u3 ∧ wx = wc)
                          case first =>
                            cases hb9 : ((near == 0) && (mode == 4))
                            · have H5 := hid (show u3 = u2 by
                                rw [HU3.out, if_neg]
                                intro h
                                rw [beq_iff_eq.2 h.1, beq_iff_eq.2 h.2] at hb9
                                cases hb9)
                              clear hb9
                              go_wp2_with fail
                              go_meet
                              exact ⟨by rw [H5.out], rfl⟩
                            · have H5 := hid (show u3 = !ng by
                                rw [Bool.and_eq_true, beq_iff_eq, beq_iff_eq] at hb9
                                rw [HU3.out, if_pos hb9])
                              clear hb9
                              skip
                              go_wp2_with fail
                              go_meet
                              exact ⟨by rw [H5.out], rfl⟩
                          case rest =>
                            obtain ⟨rfl, rfl⟩ := hcut
                            have HUP := hid (show u3 = upR ng mode near (lo + 1) by
                              rw [HU3.out, HU2.out, HU1.out]
                              unfold upR
                              by_cases k0 : near = 0 ∧ mode = 0
                              · rw [if_pos k0, if_neg (fun h => by omega), if_pos k0]
                              · rw [if_neg k0, if_neg k0])
                            have HAF := hid (HA.out lo near ng HLO.out HN0.out HNG.out)
                            have TL1 := hid (fun w h => tell_any ng g (lo + 1) (by omega) (by omega) w h)
                            have TL2 := hid (fun w h => tell_any ng g lo q0 (by omega) w h)
                            clear HU1 HU2 HU3 HA HLO HN0 HNG HC HCM HML
                            cases hu : u3
                            · have HF := hid (show moreAns c cm cz more mode l = (tellR ng lo, true) by rw [HAF.out, ← HUP.out, hu]; rfl)
                              subst hu
                              clear HAF HUP TL1
                              go_wp2_with (go_at_call 111; (with_reducible refine (TL2.out _ hg4).mono ?_); rintro e w9 ⟨rfl, rfl⟩)
                              go_ret2
                              exact ⟨l, HL.out, ret2' (by rw [HF.out]) (by rw [HF.out]), yb4⟩
                            · have HF := hid (show moreAns c cm cz more mode l = (tellR ng (lo + 1), true) by rw [HAF.out, ← HUP.out, hu]; rfl)
                              subst hu
                              clear HAF HUP TL2
                              go_wp2_with (go_at_call 111; (with_reducible refine (TL1.out _ hg4).mono ?_); rintro e w9 ⟨rfl, rfl⟩)
                              go_ret2
                              exact ⟨l, HL.out, ret2' (by rw [HF.out]) (by rw [HF.out]), yb4⟩
end Go.Proofs.Ytdoiobdomngccaa
