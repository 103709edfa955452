/- Rounding, the reference's side: LowRank. -/
import Derived.Test.YtdoiobdomngccaaRr1
import Derived.Test.YtdoiobdomngccaaRd
set_option linter.unusedVariables false
set_option linter.unusedSimpArgs false
namespace Go.Ulp
open Go.RowKit
def Fact.q (t : TypeId) (D : Dy) (A T : Nat) : Fact := ⟨fun v w => QD t w D A T v, fun _ _ _ h hb => h.below hb⟩
theorem tdiv2 (x : Int) : ∃ a c : Int, x.tdiv 2 = a ∧ x.tmod 2 = c ∧ x = 2 * a + c ∧ -1 ≤ c ∧ c ≤ 1 := by
  refine ⟨x.tdiv 2, x.tmod 2, rfl, rfl, ?_, ?_, ?_⟩
  · exact (Int.mul_tdiv_add_tmod x 2).symm
  · have := Int.tmod_lt_of_pos x (show (0:Int) < 2 by omega)
    have h2 := Int.lt_tmod_of_pos x (show (0:Int) < 2 by omega)
    omega
  · have := Int.tmod_lt_of_pos x (show (0:Int) < 2 by omega)
    omega
def RetLow (c : Int → Int) (w : World) (e : Ending) (w' : World) : Prop := ∃ l, e = .returned (.int .i64 l) ∧ IsLow c l ∧ Below w.heap.size w w'
end Go.Ulp
namespace Go.Proofs.Ytdoiobdomngccaa
open Go.RowKit Go.Ulp
set_option linter.unusedVariables false
set_option linter.unusedSimpArgs false
set_option maxHeartbeats 1000000
set_option maxRecDepth 100000
theorem lowRank_any (v : Value) (D : Dy) (A T : Nat) (w : World) (hq : QD 3 w D A T v) (hA : A ≤ 10000000) (hT : T ≤ 10000000) :
    Calls Try.prog 109 #[v] w (RetLow (fun r => cmpD (rkD r) D) w) := by
  have HQ := hid hq
  obtain ⟨x, n, a0, c0, rfl, h0, -, -, hn⟩ := hq
  have RV := hid (fun r h0 h1 w => rankVal_any r h0 h1 w)
  have QC := hid (fun v r w h1 h2 => qcmp_any v (.agg #[.bool (zneg x), .slice a0 (zl x).length c0, .int .i64 (n : Int)]) (rkD r) D 1200 1100 A T w h1 h2 (by omega) (by omega) (by omega) (by omega))
  have zA0 : QL 73 (w.alloc (.cells #[.bool (zneg x), .slice a0 (zl x).length c0, .int .i64 (n : Int)] 73)) w.heap.size (zneg x) (.slice a0 (zl x).length c0) n := QL.made rfl
  have yb0 := below_alloc w (.cells #[.bool (zneg x), .slice a0 (zl x).length c0, .int .i64 (n : Int)] 73)
  obtain ⟨c, hc⟩ : ∃ c, c = fun r => cmpD (rkD r) D := ⟨_, rfl⟩
  have HC := hid (fun r => (show c r = cmpD (rkD r) D by rw [hc]))
  rw [← hc]
  clear hc
  go_enter Try.func109, Try.ntmps109
  go_upto_block 0 with fail
  go_cut [3, 4, 5] (fun s3 s4 s5 wx => ∃ l : Int, s3 = .int .i64 l ∧ IsLow c l ∧ Below w.heap.size w wx)
  case first =>
    go_wp2_with fail
    go_loopw [3, 4, 5] (fun s3 s4 s5 wr => ∃ lo hi : Int, s3 = .int .i64 lo ∧ s4 = .int .i64 hi ∧ -9218868437227405312 ≤ lo ∧ lo < hi ∧ hi ≤ 9218868437227405312 ∧ (lo = -9218868437227405312 ∨ c lo ≤ 0) ∧ (hi = 9218868437227405312 ∨ 0 < c hi) ∧ Below (w.alloc (.cells #[.bool (zneg x), .slice a0 (zl x).length c0, .int .i64 (n : Int)] 73)).heap.size (w.alloc (.cells #[.bool (zneg x), .slice a0 (zl x).length c0, .int .i64 (n : Int)] 73)) wr) (fun s3 s4 _ _ => (intOf s4 - intOf s3).toNat)
    case atStart => exact ⟨_, _, rfl, rfl, by omega, by omega, by omega, .inl rfl, .inl rfl, Below.refl _ _⟩
    case round =>
      obtain ⟨lo, hi, rfl, rfl, b1, b2, b3, hlo, hhi, hb⟩ := hrel
      have HLO := hid hlo
      have HHI := hid hhi
      clear hlo hhi
      by_cases hlt : lo + 1 < hi
      · obtain ⟨ta, tc, e1, e2, e3, e4, e5⟩ := tdiv2 lo
        obtain ⟨tb, td, e6, e7, e8, e9, e10⟩ := tdiv2 hi
        obtain ⟨tf, tg, e11, e12, e13, e14, e15⟩ := tdiv2 (tc + td)
        have hm1 : lo < ta + tb + tf := by omega
        have hm2 : ta + tb + tf < hi := by omega
        have w11 : -9218868437227405312 ≤ ta := by omega
        have w12 : ta ≤ 9218868437227405312 := by omega
        have w13 : -9218868437227405312 ≤ tb := by omega
        have w14 : tb ≤ 9218868437227405312 := by omega
        have w1 : -9218868437227405312 ≤ ta + tb := by omega
        have w2 : ta + tb ≤ 9218868437227405312 := by omega
        have w3 : -2 ≤ tc + td := by omega
        have w4 : tc + td ≤ 2 := by omega
        have w5 : -2 ≤ tf := by omega
        have w6 : tf ≤ 2 := by omega
        have w7 : -9218868437227405312 ≤ ta + tb + tf := by omega
        have w8 : ta + tb + tf ≤ 9218868437227405312 := by omega
        have BND := hid (And.intro hm1 hm2)
        clear e3 e8 e12 e13 e4 e5 e9 e10 e14 e15 hm1 hm2
        go_upto_region 4 with fail
        obtain ⟨m, hm⟩ : ∃ m, m = ta + tb + tf := ⟨_, rfl⟩
        rw [← hm] at BND w7 w8 ⊢
        clear e1 e2 e6 e7 e11 w1 w2 w3 w4 w5 w6 hm
        have hb0 := hb
        have zA := zA0.below hb
        have RVm := hid (fun w => RV.out m w7 w8 w)
        have QCm := hid (fun v w h1 h2 => by have := QC.out v m w h1 h2; rwa [← HC.out m] at this)
        obtain ⟨cm, hcm⟩ : ∃ x, x = c m := ⟨_, rfl⟩
        have HCM := hid hcm
        rw [← hcm] at QCm
        clear hcm w7 w8
        go_cut [26] (fun s26 wx => s26 = .bool (decide (cm ≤ 0)) ∧ Below wr.heap.size wr wx)
        case first =>
          refine wp_region_grow 5 [22, 23, 24, 25, 26] [Fact.is (.int .i64 m), Fact.q 3 (rkD m) 1200 1100, Fact.is (.agg #[.bool (zneg x), .slice a0 (zl x).length c0, .int .i64 (n : Int)]), Fact.is (.int .i64 cm), Fact.is (.bool (decide (cm ≤ 0)))] (by kernel_rfl) (by kernel_rfl) ⟨?o0, ?o1, ?o2, ?o3, ?o4, trivial⟩ ?after
          case o0 => (refine StepOK.plain rfl ?_; intro ρ w1 R hρ hb hp hR; have e5 : ρ (.tmp 5) = .int .i64 m := hρ.tmp 5 rfl; have hcon := hρ.con; have hfn := hρ.fn; clear hρ hp; unfold OpRun; go_simp; exact hR _ _ (Below.refl _ _) rfl)
          case o1 => (refine StepOK.plain rfl ?_; intro ρ w1 R hρ hb hp hR; have e22 : ρ (.tmp 22) = _ := hp 0 22 rfl rfl; have hcon := hρ.con; have hfn := hρ.fn; clear hρ hp; unfold OpRun; go_simp; (refine (RVm.out _).mono ?_; rintro e wn ⟨v, rfl, hq3, hbn⟩; exact ⟨_, rfl, hR _ _ hbn hq3⟩))
          case o2 => (refine StepOK.plain rfl ?_; intro ρ w1 R hρ hb hp hR; have e1 : ρ (.tmp 1) = .pointer (some ⟨w.heap.size, 0, none⟩) := hρ.tmp 1 rfl; obtain ⟨⟨j0, j1, -, -, -⟩, j2, -⟩ := zA.below hb; have hcon := hρ.con; have hfn := hρ.fn; clear hρ hp; unfold OpRun; go_simp; exact hR _ _ (Below.refl _ _) rfl)
          case o3 => (refine StepOK.plain rfl ?_; intro ρ w1 R hρ hb hp hR; have f23 := hp 1 23 rfl rfl; have e24 : ρ (.tmp 24) = _ := hp 2 24 rfl rfl; have hcon := hρ.con; have hfn := hρ.fn; clear hρ hp; unfold OpRun; go_simp; (refine (QCm.out _ _ f23 (HQ.out.below (below_trans (below_trans yb0 hb0) hb))).mono ?_; rintro e wn ⟨rfl, hbn⟩; exact ⟨_, rfl, hR _ _ hbn rfl⟩))
          case o4 => (refine StepOK.plain rfl ?_; intro ρ w1 R hρ hb hp hR; have e25 : ρ (.tmp 25) = _ := hp 3 25 rfl rfl; have hcon := hρ.con; have hfn := hρ.fn; clear hρ hp; unfold OpRun; go_simp; exact hR _ _ (Below.refl _ _) rfl)
          case after =>
            intro u wn hb hf
            have e26 : u 26 = _ := hf 4 26 (by omega) rfl
            clear hf
            simp only [putAll, Act.put, List.setIfInBounds_toArray, List.set_cons_zero, List.set_cons_succ, List.drop_succ_cons, List.drop_zero, List.drop_nil]
            rw [e26]
            go_wp2_with fail
            go_meet
            exact ⟨rfl, hb⟩
        case rest =>
          obtain ⟨rfl, hb2⟩ := hcut
          have hb3 := below_trans hb hb2
          by_cases hs : cm ≤ 0
          · go_wp2_with fail
            go_roundw
            case rel => exact ⟨m, hi, rfl, rfl, by have := BND.out; omega, by have := BND.out; omega, b3, .inr (by rw [← HCM.out]; exact hs), HHI.out, hb3⟩
            case measure => simp [intOf]; have := BND.out; omega
          · go_wp2_with fail
            go_roundw
            case rel => exact ⟨lo, m, rfl, rfl, b1, by have := BND.out; omega, by have := BND.out; omega, HLO.out, .inr (by rw [← HCM.out]; omega), hb3⟩
            case measure => simp [intOf]; have := BND.out; omega
      · go_wp2_with fail
        go_meet
        exact ⟨lo, rfl, ⟨b1, by omega, HLO.out, by
          have e : lo + 1 = hi := by omega
          rw [e]; exact HHI.out⟩, below_trans yb0 hb⟩
  case rest =>
    obtain ⟨l, rfl, hl, hb⟩ := hcut
    have HL := hid hl
    clear hl
    go_wp2_with fail
    go_ret
    exact ⟨l, rfl, HL.out, hb⟩
end Go.Proofs.Ytdoiobdomngccaa
