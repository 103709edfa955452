/- TopRoot: what the proof leans on, part 23 (Sy7 Sy8 Sy9 Hx0 Hx1 Hx2). -/
import Derived.Laws.Runes
import Derived.Test.YtpgmchpdpgahfaaGreatDoorKTopRoot2
import Derived.Test.YtpgmchpdpgahfaaGreatDoorKTopRoot8
import Derived.Test.YtpgmchpdpgahfaaGreatDoorKTopRoot10
import Derived.Test.YtpgmchpdpgahfaaGreatDoorKTopRoot11
import Derived.Test.YtpgmchpdpgahfaaGreatDoorKTopRoot12
import Derived.Test.YtpgmchpdpgahfaaGreatDoorKTopRoot18
import Derived.Test.YtpgmchpdpgahfaaGreatDoorKTopRoot22
set_option linter.unusedVariables false
set_option linter.unusedSimpArgs false
namespace Go.Ulp
open Go.RowKit
/-- digits and a power of ten as a text -/
def shT (d : List UInt8) (k : Int) : List UInt8 :=
  if k + (d.length : Int) - 1 < -5 ∨ 20 < k + (d.length : Int) - 1 then d.take 1 ++ ((if 1 < d.length then 46 :: d.drop 1 else []) ++ 101 :: pwrT (k + (d.length : Int) - 1))
  else if 0 ≤ k then d ++ List.replicate k.toNat 48
  else if 0 ≤ k + (d.length : Int) - 1 then d.take (k + (d.length : Int)).toNat ++ 46 :: d.drop (k + (d.length : Int)).toNat
  else 48 :: 46 :: (List.replicate (-(k + (d.length : Int))).toNat 48 ++ d)
end Go.Ulp
namespace Go.Proofs.YtpgmchpdpgahfaaGreatDoor
open Go.RowKit Go.Ulp
set_option linter.unusedVariables false
set_option linter.unusedSimpArgs false
set_option maxHeartbeats 2000000
set_option maxRecDepth 100000
theorem shText_val (x : Int) (h0 : 0 ≤ x) (h1 : x < 18446744073709551616) (c5 : classOf x ≠ 5) (c4 : classOf x ≠ 4) (c1 : classOf x ≠ 1) (d : List UInt8) (k : Int) (hd : 1 ≤ d.length ∧ d.length ≤ 2000) (hk : -3000 ≤ k ∧ k ≤ 3000)
    (SD : ∀ w, Tab 0 w → Tab10 w → Calls Tryz.prog 27 #[.int .u64 x] w fun e w' => e = .returned (.tuple #[.string (bsOf d), .int .i64 k, .int .i64 0]) ∧ Below w.heap.size w w') (w : World) (hT : Tab 0 w) (hT10 : Tab10 w) :
    Calls Tryz.prog 12 #[.int .u64 x] w fun e w' => e = .returned (.string (bsOf (dsh (negB x) (shT d k)))) ∧ Below w.heap.size w w' := by
  have CL := hid (fun w => class_any x h0 h1 w)
  have e5 : (classOf x == 5) = false := beq_eq_false_iff_ne.2 c5
  have e4 : (classOf x == 4) = false := beq_eq_false_iff_ne.2 c4
  have e1 : (classOf x == 1) = false := beq_eq_false_iff_ne.2 c1
  have n5 : (classOf x != 5) = true := by rw [bne, e5]; rfl
  have SDD := hid SD
  have HT := hid hT
  have HT10 := hid hT10
  obtain ⟨S, hS⟩ : ∃ S : List UInt8, S = if negB x = true then [45] else [] := ⟨_, rfl⟩
  have hSl : S.length ≤ 1 := by rw [hS]; split <;> simp
  have HDS := hid (show ∀ L, dsh (negB x) L = S ++ L from fun L => by rw [hS]; unfold dsh; split <;> rfl)
  have HSS := hid hS
  rw [HDS.out]
  obtain ⟨p, hp⟩ : ∃ p, p = k + (d.length : Int) - 1 := ⟨_, rfl⟩
  have HP := hid hp
  have hsz := bs_size d
  have wA : IntKind.i64.wrap (k + (d.length : Int)) = k + (d.length : Int) := IntWalk.i64_in _ (by omega)
  have wB : IntKind.i64.wrap (k + (d.length : Int) - 1) = p := by rw [IntWalk.i64_in _ (by omega)]; exact hp.symm
  clear SD hT hT10 hS c5 c4 c1
  go_enter Tryz.func12, Tryz.ntmps12
  go_upto_region 2 with fail
  go_cut [3, 16] (fun s3 s16 wx => s3 = .string ⟨#[]⟩ ∧ s16 = .bool (negB x) ∧ wx = w)
  case first => as_aux_lemma =>
    by_cases h : 9223372036854775808 ≤ x
    · have hs : x / 9223372036854775808 = 1 := by omega
      have HN := hid (show negB x = true from decide_eq_true h)
      clear h
      go_wp2_with ((go_at_call 5; (with_reducible refine (CL.out _).mono ?_); rintro en w1 ⟨rfl, rfl⟩))
      go_meet
      exact ⟨rfl, by rw [HN.out], rfl⟩
    · have hs : x / 9223372036854775808 = 0 := by omega
      have HN := hid (show negB x = false from decide_eq_false h)
      clear h
      go_wp2_with ((go_at_call 5; (with_reducible refine (CL.out _).mono ?_); rintro en w1 ⟨rfl, rfl⟩))
      go_meet
      exact ⟨rfl, by rw [HN.out], rfl⟩
  case rest =>
    obtain ⟨rfl, rfl, hwc⟩ := hcut
    subst hwc
    go_upto_if 16 with fail
    go_cut [3] (fun s3 wx => s3 = .string (bsOf S) ∧ wx = wc)
    case first => as_aux_lemma =>
      cases hng : negB x
      · have H5 := hid (show S = [] by rw [HSS.out, hng]; rfl)
        go_wp2_with fail
        go_meet
        exact ⟨by rw [H5.out]; rfl, rfl⟩
      · have H5 := hid (show S = [45] by rw [HSS.out, hng]; rfl)
        go_wp2_with fail
        go_meet
        exact ⟨by rw [H5.out]; rfl, rfl⟩
    case rest =>
      obtain ⟨rfl, hwc⟩ := hcut
      subst hwc
      clear hp HSS
      go_upto_region 14 with (first | (go_at_call 5; (with_reducible refine (CL.out _).mono ?_); rintro en w1 ⟨rfl, rfl⟩) | (go_at_call 27; (with_reducible refine (SDD.out _ HT.out HT10.out).mono ?_); rintro en w2 ⟨rfl, hb2⟩))
      have yb2 := hb2
      clear hb2 CL SDD e5 e4 e1 n5 HT
      have HT2 := hid (HT10.out.below yb2)
      clear HT10
      obtain ⟨W2, hW2⟩ : ∃ W, W = w2 := ⟨_, rfl⟩
      subst hW2
      have hpb : -4000 ≤ p ∧ p ≤ 6000 := by have := HP.out; omega
      by_cases ho : p < -5 ∨ 20 < p
      · have HR := hid (show S ++ shT d k = (S ++ (d.take 1 ++ (if 1 < d.length then 46 :: d.tail else []))) ++ 101 :: pwrT p by
          unfold shT
          rw [← HP.out, if_pos ho, List.drop_one]
          simp)
        have PW := hid (fun w h => power_any p (by omega) w h)
        have s1 := slice_to (P := Tryz.prog) Tryz.underlying9 d 1 (by omega) (by omega)
        rw [show (1 : Int).toNat = 1 from rfl] at s1
        have s2 := slice_from (P := Tryz.prog) Tryz.underlying9 d 1 (by omega) (by omega)
        rw [show (1 : Int).toNat = 1 from rfl, List.drop_one] at s2
        have l1 : (d.take 1).length ≤ 1 := by rw [List.length_take]; omega
        have l2 : (d.tail).length ≤ 2000 := by rw [List.length_tail]; omega
        obtain ⟨F, hF⟩ : ∃ F, F = S ++ (d.take 1 ++ (if 1 < d.length then 46 :: d.tail else [])) := ⟨_, rfl⟩
        have lF : F.length ≤ 3000 := by
          rw [hF, List.length_append, List.length_append]
          split
          · rw [List.length_cons]; omega
          · simp; omega
        have lp : (pwrT p).length ≤ 3000 := by
          unfold pwrT
          have : (decD p.natAbs).length ≤ 100 := decD_len_lt _ 100 (by have h9 : 10 ^ 4 ≤ 10 ^ 100 := Nat.pow_le_pow_right (by omega) (by omega); omega) (by omega)
          simp only [List.length_cons, List.length_append]
          split <;> simp <;> omega
        have ka1 := add_bs (P := Tryz.prog) S (d.take 1) (by omega)
        have ka2 : ∀ w, (Op.stringOp .add ⟨#[46]⟩ (bsOf (d.tail))).run Tryz.prog w = .ok (.string (bsOf (46 :: d.tail))) w := add_bs (P := Tryz.prog) [46] (d.tail) (by simp; omega)
        have ka3 : ∀ w, (Op.stringOp .add (bsOf (S ++ d.take 1)) (bsOf (46 :: d.tail))).run Tryz.prog w = .ok (.string (bsOf (S ++ (d.take 1 ++ 46 :: d.tail)))) w := by
          have h9 := add_bs (P := Tryz.prog) (S ++ d.take 1) (46 :: d.tail) (by rw [List.length_append, List.length_cons]; omega)
          rwa [List.append_assoc] at h9
        have ka4 : ∀ w, (Op.stringOp .add (bsOf F) ⟨#[101]⟩).run Tryz.prog w = .ok (.string (bsOf (F ++ [101]))) w := add_bs (P := Tryz.prog) F [101] (by simp; omega)
        have ka5 : ∀ w, (Op.stringOp .add (bsOf (F ++ [101])) (bsOf (pwrT p))).run Tryz.prog w = .ok (.string (bsOf (F ++ 101 :: pwrT p))) w := by
          have h9 := add_bs (P := Tryz.prog) (F ++ [101]) (pwrT p) (by rw [List.length_append]; simp; omega)
          rwa [List.append_assoc] at h9
        rw [← hF] at HR
        have HFF := hid hF
        go_cut [41] (fun s41 wx => s41 = .bool true ∧ wx = W2)
        case first => as_aux_lemma =>
          clear HFF hF HR
          by_cases a1 : p < -5
          · go_wp2_with fail
            go_meet
            exact ⟨rfl, rfl⟩
          · have a2 : 20 < p := by omega
            go_wp2_with fail
            go_meet
            exact ⟨rfl, rfl⟩
        case rest =>
          obtain ⟨rfl, hwc⟩ := hcut
          subst hwc
          clear hF
          go_upto_if 53 with fail
          go_cut [3] (fun s3 wx => s3 = .string (bsOf F) ∧ wx = wc)
          case first => as_aux_lemma =>
            by_cases hn : 1 < d.length
            · have hn2 : (1 : Int) < (d.length : Int) := by omega
              have H5 := hid (show S ++ (d.take 1 ++ 46 :: d.tail) = F by rw [HFF.out, if_pos hn])
              clear HFF HR hn
              go_wp2_with fail
              go_meet
              exact ⟨by rw [H5.out], rfl⟩
            · have hn2 : ¬ (1 : Int) < (d.length : Int) := by omega
              have H5 := hid (show S ++ d.take 1 = F by rw [HFF.out, if_neg hn, List.append_nil])
              clear HFF HR hn
              go_wp2_with fail
              go_meet
              exact ⟨by rw [H5.out], rfl⟩
          case rest =>
            obtain ⟨rfl, hwc⟩ := hcut
            subst hwc
            clear HFF ka1 ka2 ka3 s1 s2 l1 l2
            go_wp2_with (go_at_call 28; (with_reducible refine (PW.out _ HT2.out).mono ?_); rintro en w5 ⟨rfl, hb5⟩)
            go_ret
            exact ⟨by rw [HR.out]; rfl, below_trans yb2 hb5⟩
      · have q1 : ¬ p < -5 := fun h => ho (.inl h)
        have q2 : ¬ 20 < p := fun h => ho (.inr h)
        by_cases hk0 : 0 ≤ k
        · obtain ⟨K, hK⟩ := Int.eq_ofNat_of_zero_le hk0
          have HR := hid (show S ++ shT d k = S ++ (d ++ List.replicate K 48) by
            unfold shT
            rw [← HP.out, if_neg ho, if_pos hk0, show k.toNat = K by omega])
          have RE := hid (fun w => repeat_any 48 K (by omega) w)
          have b48 : (ByteArray.mk #[48]) = bsOf [48] := rfl
          have ka1 := add_bs (P := Tryz.prog) S d (by omega)
          have ka2 : ∀ w, (Op.stringOp .add (bsOf (S ++ d)) (bsOf (List.replicate K 48))).run Tryz.prog w = .ok (.string (bsOf (S ++ (d ++ List.replicate K 48)))) w := by
            have h9 := add_bs (P := Tryz.prog) (S ++ d) (List.replicate K 48) (by rw [List.length_append, List.length_replicate]; omega)
            rwa [List.append_assoc] at h9
          subst hK
          clear ho
          go_wp2_with (go_at_call 29; (with_reducible refine (RE.out _).mono ?_); rintro en w5 ⟨rfl, hb5⟩)
          go_ret
          exact ⟨by rw [HR.out]; rfl, below_trans yb2 hb5⟩
        · by_cases hp0 : 0 ≤ p
          · obtain ⟨m, hm⟩ : ∃ m : Nat, (m : Int) = p + 1 := ⟨(p + 1).toNat, by omega⟩
            have hml : m ≤ d.length := by have := HP.out; omega
            have HR := hid (show S ++ shT d k = S ++ (d.take m ++ 46 :: d.drop m) by
              unfold shT
              rw [← HP.out, if_neg ho, if_neg hk0, if_pos hp0, show (k + (d.length : Int)).toNat = m by have := HP.out; omega])
            have s1 := slice_to (P := Tryz.prog) Tryz.underlying9 d (m : Int) (by omega) (by omega)
            have s2 := slice_from (P := Tryz.prog) Tryz.underlying9 d (m : Int) (by omega) (by omega)
            rw [Int.toNat_natCast] at s1 s2
            have t1 : (d.take m).length ≤ 2000 := by rw [List.length_take]; omega
            have t2 : (d.drop m).length ≤ 2000 := by rw [List.length_drop]; omega
            have ka1 := add_bs (P := Tryz.prog) S (d.take m) (by omega)
            have ka2 : ∀ w, (Op.stringOp .add (bsOf (S ++ d.take m)) ⟨#[46]⟩).run Tryz.prog w = .ok (.string (bsOf (S ++ (d.take m ++ [46])))) w := by
              have h9 := add_bs (P := Tryz.prog) (S ++ d.take m) [46] (by rw [List.length_append]; simp; omega)
              rw [List.append_assoc] at h9; exact h9
            have ka3 : ∀ w, (Op.stringOp .add (bsOf (S ++ (d.take m ++ [46]))) (bsOf (d.drop m))).run Tryz.prog w = .ok (.string (bsOf (S ++ (d.take m ++ 46 :: d.drop m)))) w := by
              have h9 := add_bs (P := Tryz.prog) (S ++ (d.take m ++ [46])) (d.drop m) (by rw [List.length_append, List.length_append]; simp; omega)
              rw [List.append_assoc, List.append_assoc] at h9; exact h9
            have wq : IntKind.i64.wrap (p + 1) = (m : Int) := by rw [IntWalk.i64_in _ (by omega)]; exact hm.symm
            clear ho hm t1 t2 HT2
            go_upto_region 22 with fail
            refine wp_region_grow 13 [76, 77, 78, 79, 80, 81, 82, 83, 84, 85, 86, 87, 2] [Fact.is (.string (bsOf S)), Fact.is (.string (bsOf d)), Fact.is (.int .i64 p), Fact.is (.int .i64 (m : Int)), Fact.is (.string (bsOf (d.take m))), Fact.is (.string (bsOf (S ++ d.take m))), Fact.is (.string (bsOf (S ++ (d.take m ++ [46])))), Fact.is (.string (bsOf d)), Fact.is (.int .i64 p), Fact.is (.int .i64 (m : Int)), Fact.is (.string (bsOf (d.drop m))), Fact.is (.string (bsOf (S ++ (d.take m ++ 46 :: d.drop m)))), Fact.is (.string (bsOf (S ++ (d.take m ++ 46 :: d.drop m))))] (by kernel_rfl) (by kernel_rfl) ⟨?o0, ?o1, ?o2, ?o3, ?o4, ?o5, ?o6, ?o7, ?o8, ?o9, ?o10, ?o11, ?o12, trivial⟩ ?after
            case o0 => (refine StepOK.plain rfl ?_; intro ρ w1 R hρ hb hp hR; have e3 : ρ (.tmp 3) = .string (bsOf S) := hρ.tmp 3 rfl; have hcon := hρ.con; have hfn := hρ.fn; clear hρ hp; unfold OpRun; go_simp; exact hR _ _ (Below.refl _ _) rfl)
            case o1 => (refine StepOK.plain rfl ?_; intro ρ w1 R hρ hb hp hR; have e4 : ρ (.tmp 4) = .string (bsOf d) := hρ.tmp 4 rfl; have hcon := hρ.con; have hfn := hρ.fn; clear hρ hp; unfold OpRun; go_simp; exact hR _ _ (Below.refl _ _) rfl)
            case o2 => (refine StepOK.plain rfl ?_; intro ρ w1 R hρ hb hp hR; have e8 : ρ (.tmp 8) = .int .i64 p := hρ.tmp 8 rfl; have hcon := hρ.con; have hfn := hρ.fn; clear hρ hp; unfold OpRun; go_simp; exact hR _ _ (Below.refl _ _) rfl)
            case o3 => (refine StepOK.plain rfl ?_; intro ρ w1 R hρ hb hp hR; have e78 : ρ (.tmp 78) = _ := hp 2 78 rfl rfl; have hcon := hρ.con; have hfn := hρ.fn; clear hρ hp; unfold OpRun; go_simp; exact hR _ _ (Below.refl _ _) rfl)
            case o4 => (refine StepOK.plain rfl ?_; intro ρ w1 R hρ hb hp hR; have e77 : ρ (.tmp 77) = _ := hp 1 77 rfl rfl; have e79 : ρ (.tmp 79) = _ := hp 3 79 rfl rfl; have hcon := hρ.con; have hfn := hρ.fn; clear hρ hp; unfold OpRun; go_simp; exact hR _ _ (Below.refl _ _) rfl)
            case o5 => (refine StepOK.plain rfl ?_; intro ρ w1 R hρ hb hp hR; have e76 : ρ (.tmp 76) = _ := hp 0 76 rfl rfl; have e80 : ρ (.tmp 80) = _ := hp 4 80 rfl rfl; have hcon := hρ.con; have hfn := hρ.fn; clear hρ hp; unfold OpRun; go_simp; exact hR _ _ (Below.refl _ _) rfl)
            case o6 => (refine StepOK.plain rfl ?_; intro ρ w1 R hρ hb hp hR; have e81 : ρ (.tmp 81) = _ := hp 5 81 rfl rfl; have hcon := hρ.con; have hfn := hρ.fn; clear hρ hp; unfold OpRun; go_simp; exact hR _ _ (Below.refl _ _) rfl)
            case o7 => (refine StepOK.plain rfl ?_; intro ρ w1 R hρ hb hp hR; have e4 : ρ (.tmp 4) = .string (bsOf d) := hρ.tmp 4 rfl; have hcon := hρ.con; have hfn := hρ.fn; clear hρ hp; unfold OpRun; go_simp; exact hR _ _ (Below.refl _ _) rfl)
            case o8 => (refine StepOK.plain rfl ?_; intro ρ w1 R hρ hb hp hR; have e8 : ρ (.tmp 8) = .int .i64 p := hρ.tmp 8 rfl; have hcon := hρ.con; have hfn := hρ.fn; clear hρ hp; unfold OpRun; go_simp; exact hR _ _ (Below.refl _ _) rfl)
            case o9 => (refine StepOK.plain rfl ?_; intro ρ w1 R hρ hb hp hR; have e84 : ρ (.tmp 84) = _ := hp 8 84 rfl rfl; have hcon := hρ.con; have hfn := hρ.fn; clear hρ hp; unfold OpRun; go_simp; exact hR _ _ (Below.refl _ _) rfl)
            case o10 => (refine StepOK.plain rfl ?_; intro ρ w1 R hρ hb hp hR; have e83 : ρ (.tmp 83) = _ := hp 7 83 rfl rfl; have e85 : ρ (.tmp 85) = _ := hp 9 85 rfl rfl; have hcon := hρ.con; have hfn := hρ.fn; clear hρ hp; unfold OpRun; go_simp; exact hR _ _ (Below.refl _ _) rfl)
            case o11 => (refine StepOK.plain rfl ?_; intro ρ w1 R hρ hb hp hR; have e82 : ρ (.tmp 82) = _ := hp 6 82 rfl rfl; have e86 : ρ (.tmp 86) = _ := hp 10 86 rfl rfl; have hcon := hρ.con; have hfn := hρ.fn; clear hρ hp; unfold OpRun; go_simp; exact hR _ _ (Below.refl _ _) rfl)
            case o12 => (refine StepOK.plain rfl ?_; intro ρ w1 R hρ hb hp hR; have e87 : ρ (.tmp 87) = _ := hp 11 87 rfl rfl; have hcon := hρ.con; have hfn := hρ.fn; clear hρ hp; unfold OpRun; go_simp; exact hR _ _ (Below.refl _ _) rfl)
            case after =>
              intro u wn hb hf
              have e2 : u 2 = _ := hf 12 2 (by omega) rfl
              clear hf
              simp only [putAll, Act.put, List.setIfInBounds_toArray, List.set_cons_zero, List.set_cons_succ, List.drop_succ_cons, List.drop_zero, List.drop_nil]
              rw [e2]
              go_wp2_with fail
              go_ret
              exact ⟨by rw [HR.out]; rfl, below_trans yb2 hb⟩
          · obtain ⟨J, hJ⟩ : ∃ J : Nat, (J : Int) = -p - 1 := ⟨(-p - 1).toNat, by omega⟩
            have HR := hid (show S ++ shT d k = S ++ 48 :: 46 :: (List.replicate J 48 ++ d) by
              unfold shT
              rw [← HP.out, if_neg ho, if_neg hk0, if_neg hp0, show (-(k + (d.length : Int))).toNat = J by have := HP.out; omega])
            have RE := hid (fun w => repeat_any 48 J (by omega) w)
            have b48 : (ByteArray.mk #[48]) = bsOf [48] := rfl
            have ka1 : ∀ w, (Op.stringOp .add (bsOf S) ⟨#[48, 46]⟩).run Tryz.prog w = .ok (.string (bsOf (S ++ [48, 46]))) w := add_bs (P := Tryz.prog) S [48, 46] (by simp; omega)
            have ka2 : ∀ w, (Op.stringOp .add (bsOf (S ++ [48, 46])) (bsOf (List.replicate J 48))).run Tryz.prog w = .ok (.string (bsOf (S ++ 48 :: 46 :: List.replicate J 48))) w := by
              have h9 := add_bs (P := Tryz.prog) (S ++ [48, 46]) (List.replicate J 48) (by rw [List.length_append, List.length_replicate]; simp; omega)
              rwa [List.append_assoc] at h9
            have ka3 : ∀ w, (Op.stringOp .add (bsOf (S ++ 48 :: 46 :: List.replicate J 48)) (bsOf d)).run Tryz.prog w = .ok (.string (bsOf (S ++ 48 :: 46 :: (List.replicate J 48 ++ d)))) w := by
              have h9 := add_bs (P := Tryz.prog) (S ++ 48 :: 46 :: List.replicate J 48) d (by rw [List.length_append, List.length_cons, List.length_cons, List.length_replicate]; omega)
              rwa [List.append_assoc] at h9
            have wp1 : IntKind.i64.wrap (-p) = -p := IntWalk.i64_in _ (by omega)
            have wp2 : IntKind.i64.wrap (-p - 1) = (J : Int) := by rw [IntWalk.i64_in _ (by omega)]; exact hJ.symm
            clear ho hJ
            go_wp2_with (go_at_call 29; (with_reducible refine (RE.out _).mono ?_); rintro en w5 ⟨rfl, hb5⟩)
            go_ret
            exact ⟨by rw [HR.out]; rfl, below_trans yb2 hb5⟩
end Go.Proofs.YtpgmchpdpgahfaaGreatDoor



set_option linter.unusedVariables false
set_option linter.unusedSimpArgs false
namespace Go.Ulp
open Go.RowKit
/-- a digit's sign -/
def hxc (d : Nat) : UInt8 := if d < 10 then UInt8.ofNat (48 + d) else UInt8.ofNat (87 + d)
/-- the lowest n digits -/
def hxD : Nat → Nat → List UInt8
  | 0, _ => []
  | n + 1, m => hxc (m / 16 ^ n % 16) :: hxD n m
theorem hxD_len : ∀ n m, (hxD n m).length = n
  | 0, _ => rfl
  | n + 1, m => by show (hxD n m).length + 1 = n + 1; rw [hxD_len n m]
theorem hxD_take : ∀ (n m i : Nat), i < n → (hxD n m).take (n - i) = (hxD n m).take (n - (i + 1)) ++ [hxc (m / 16 ^ i % 16)]
  | 0, _, _, h => by omega
  | n + 1, m, i, h => by
    by_cases e : i = n
    · subst e
      rw [show i + 1 - i = 1 by omega, show i + 1 - (i + 1) = 0 by omega]
      rfl
    · have ih := hxD_take n m i (by omega)
      rw [show n + 1 - i = (n - i) + 1 by omega, show n + 1 - (i + 1) = (n - (i + 1)) + 1 by omega]
      show hxc _ :: (hxD n m).take (n - i) = (hxc _ :: (hxD n m).take (n - (i + 1))) ++ _
      rw [ih]; rfl
theorem getD_val (B : Nat) (hB : 0 < B) (L : List Nat) (hL : AllLt B L) (j : Nat) : L.getD j 0 = val B L / B ^ j % B := by
  have hp : 0 < B ^ j := Nat.pow_pos hB
  by_cases h : j < L.length
  · have h1 := val_take_drop B L j (by omega)
    have h2 := val_lt B (L.take j) (fun d h => hL d (List.mem_of_mem_take h))
    rw [List.length_take, Nat.min_eq_left (by omega)] at h2
    have h3 := val_drop B L j h
    have h4 := hL.getD hB j
    rw [h1, Nat.add_mul_div_left _ _ hp, Nat.div_eq_of_lt h2, Nat.zero_add, h3, Nat.add_mul_mod_self_left, Nat.mod_eq_of_lt h4]
  · rw [getD_out _ _ (by omega)]
    have h1 := val_lt B L hL
    have h2 : B ^ L.length ≤ B ^ j := Nat.pow_le_pow_right hB (by omega)
    rw [Nat.div_eq_of_lt (by omega), Nat.zero_mod]
theorem limb_digit (m i : Nat) : (limbs m).getD (i / 8) 0 / 2 ^ (4 * (i % 8)) % 16 = m / 16 ^ i % 16 := by
  rw [getD_val 4294967296 (by omega) (limbs m) (limbs_lim m), show val 4294967296 (limbs m) = m from lval_limbs m]
  obtain ⟨a, ha⟩ : ∃ a, a = i / 8 := ⟨_, rfl⟩
  obtain ⟨b, hb⟩ : ∃ b, b = i % 8 := ⟨_, rfl⟩
  have hi : i = 8 * a + b := by omega
  have hb8 : b < 8 := by omega
  rw [← ha, ← hb]
  have e1 : (4294967296 : Nat) ^ a = 16 ^ (8 * a) := by rw [show (4294967296 : Nat) = 16 ^ 8 by decide, ← Nat.pow_mul]
  have e2 : (2 : Nat) ^ (4 * b) = 16 ^ b := by rw [show (16 : Nat) = 2 ^ 4 by decide, ← Nat.pow_mul]
  rw [e1, e2, hi, Nat.pow_add, ← Nat.div_div_eq_div_mul]
  generalize m / 16 ^ (8 * a) = y
  have e3 : (4294967296 : Nat) = 16 ^ b * 16 ^ (8 - b) := by rw [← Nat.pow_add, show b + (8 - b) = 8 by omega]
  obtain ⟨c, hc⟩ : ∃ c, 8 - b = c + 1 := ⟨8 - b - 1, by omega⟩
  rw [e3, Nat.mod_mul_right_div_self, hc, Nat.pow_succ, Nat.mul_comm, Nat.mod_mul_right_mod]
theorem hx_enc : ∀ d : Nat, d < 16 → Utf8.encode ((hxc d).toNat : Int) = ⟨#[hxc d]⟩ := by decide
theorem hx_get : ∀ (d : Nat) (h : d < 16), ((ByteArray.mk #[48, 49, 50, 51, 52, 53, 54, 55, 56, 57, 97, 98, 99, 100, 101, 102])[d]'h) = hxc d := by decide
end Go.Ulp

set_option linter.unusedVariables false
set_option linter.unusedSimpArgs false
namespace Go.Ulp
open Go.RowKit
/-- behind the digits: the exponent -/
def hxP (p : Int) : List UInt8 := 112 :: (if p < 0 then 45 else 43) :: decD p.natAbs
/-- a number in sixteens: m's lowest digits behind the point -/
def hxT (neg : Bool) (n m : Nat) (p : Int) : List UInt8 := dsh neg (48 :: 120 :: 49 :: ((if n = 0 then [] else 46 :: hxD n m) ++ hxP p))
def hxZ (neg : Bool) (n : Nat) : List UInt8 := dsh neg (48 :: 120 :: 48 :: ((if n = 0 then [] else 46 :: List.replicate n 48) ++ [112, 43, 48]))
end Go.Ulp
namespace Go.Proofs.YtpgmchpdpgahfaaGreatDoor
open Go.RowKit Go.Ulp
set_option linter.unusedVariables false
set_option linter.unusedSimpArgs false
set_option maxHeartbeats 2000000
set_option maxRecDepth 100000
theorem writeZ_any (x : Int) (h0 : 0 ≤ x) (h1 : x < 18446744073709551616) (v : Value) (D : Dy) (n : Nat) (w : World) (hv : VD w D v) (hD : D.1 = 0) (hn : n ≤ 1000) :
    Calls Tryz.prog 30 #[.int .u64 x, v, .int .i64 (n : Int)] w fun e w' => e = .returned (.string (bsOf (hxZ (negB x) n))) ∧ Below w.heap.size w w' := by
  obtain ⟨am, cm, rfl, hN⟩ := hv
  have hl0 : (limbs D.1.natAbs).length = 0 := by rw [hD]; rfl
  rw [hl0]
  have RP := hid (show ∀ w, Calls Tryz.prog 29 #[.string (bsOf [48]), .int .i64 (n : Int)] w fun e w' => e = .returned (.string (bsOf (List.replicate n 48))) ∧ Below w.heap.size w w' from fun w => repeat_any 48 n (by omega) w)
  have zQ : QL 43 (w.alloc (.cells #[.bool (decide (D.1 < 0)), .slice am 0 cm, .int .i64 D.2] 43)) w.heap.size (decide (D.1 < 0)) (.slice am 0 cm) D.2 := QL.made rfl
  have yb0 := below_alloc w (.cells #[.bool (decide (D.1 < 0)), .slice am 0 cm, .int .i64 D.2] 43)
  obtain ⟨⟨j0, j1, -⟩, j2, -⟩ := zQ
  clear hD hN
  generalize decide (D.1 < 0) = neg at *
  obtain ⟨HH, hHH⟩ : ∃ H : List UInt8, H = if negB x = true then [45, 48, 120] else [48, 120] := ⟨_, rfl⟩
  have hHl : HH.length ≤ 3 := by rw [hHH]; split <;> simp
  have a1 := add_bs (P := Tryz.prog) HH [48] (by simp; omega)
  have a2 := add_bs (P := Tryz.prog) [46] (List.replicate n 48) (by simp; omega)
  have a3 := add_bs (P := Tryz.prog) (HH ++ [48]) (46 :: List.replicate n 48) (by simp; omega)
  have a4 := add_bs (P := Tryz.prog) (HH ++ [48] ++ (46 :: List.replicate n 48)) [112, 43, 48] (by simp; omega)
  have a5 := add_bs (P := Tryz.prog) (HH ++ [48]) [112, 43, 48] (by simp; omega)
  have b1 : (ByteArray.mk #[48]) = bsOf [48] := rfl
  have b2 : (ByteArray.mk #[46]) = bsOf [46] := rfl
  have b3 : (ByteArray.mk #[112, 43, 48]) = bsOf [112, 43, 48] := rfl
  have b4 : (ByteArray.mk #[48, 120]) = bsOf [48, 120] := rfl
  have b5 : (ByteArray.mk #[45, 48, 120]) = bsOf [45, 48, 120] := rfl
  have HR := hid (show hxZ (negB x) n = if n = 0 then HH ++ [48] ++ [112, 43, 48] else HH ++ [48] ++ (46 :: List.replicate n 48) ++ [112, 43, 48] by
    rw [hHH]; unfold hxZ dsh
    cases negB x <;> by_cases h : n = 0 <;> simp [h])
  obtain ⟨RZ, hRZ⟩ : ∃ R, R = hxZ (negB x) n := ⟨_, rfl⟩
  rw [← hRZ] at HR ⊢
  generalize HH ++ [48] ++ (46 :: List.replicate n 48) ++ [112, 43, 48] = T4 at *
  generalize HH ++ [48] ++ (46 :: List.replicate n 48) = T3 at *
  simp only [List.cons_append, List.nil_append] at a2
  generalize HH ++ [48] ++ [112, 43, 48] = T5 at *
  generalize HH ++ [48] = T1 at *
  have HS := hid (show (9223372036854775808 ≤ x → bsOf HH = bsOf [45, 48, 120]) ∧ (x < 9223372036854775808 → bsOf HH = bsOf [48, 120]) from ⟨fun h => by rw [hHH, if_pos (show negB x = true from decide_eq_true h)], fun h => by rw [hHH, if_neg (by unfold negB; simp; omega)]⟩)
  clear hHH hRZ
  go_enter Tryz.func30, Tryz.ntmps30
  by_cases hx : 9223372036854775808 ≤ x
  · have hs : x / 9223372036854775808 = 1 := by omega
    have hb := (HS.out.1 hx).symm
    by_cases hn0 : n = 0
    · have hn1 : ¬ 0 < (n : Int) := by omega
      have hn2 : decide (0 < n) = false := decide_eq_false (by omega)
      have HRR := hid (show RZ = T5 by rw [HR.out, if_pos hn0])
      clear HR hn0 HS
      go_wp2_with fail
      go_ret
      exact ⟨by rw [HRR.out]; rfl, yb0⟩
    · have hn1 : 0 < (n : Int) := by omega
      have hn2 : decide (0 < n) = true := decide_eq_true (by omega)
      have HRR := hid (show RZ = T4 by rw [HR.out, if_neg hn0])
      clear HR hn0 HS
      go_wp2_with (go_at_call 29; (with_reducible refine (RP.out _).mono ?_); rintro en w1 ⟨rfl, hb1⟩)
      go_ret
      exact ⟨by rw [HRR.out]; rfl, below_trans yb0 hb1⟩
  · have hs : x / 9223372036854775808 = 0 := by omega
    have hb := (HS.out.2 (by omega)).symm
    by_cases hn0 : n = 0
    · have hn1 : ¬ 0 < (n : Int) := by omega
      have hn2 : decide (0 < n) = false := decide_eq_false (by omega)
      have HRR := hid (show RZ = T5 by rw [HR.out, if_pos hn0])
      clear HR hn0 HS
      go_wp2_with fail
      go_ret
      exact ⟨by rw [HRR.out]; rfl, yb0⟩
    · have hn1 : 0 < (n : Int) := by omega
      have hn2 : decide (0 < n) = true := decide_eq_true (by omega)
      have HRR := hid (show RZ = T4 by rw [HR.out, if_neg hn0])
      clear HR hn0 HS
      go_wp2_with (go_at_call 29; (with_reducible refine (RP.out _).mono ?_); rintro en w1 ⟨rfl, hb1⟩)
      go_ret
      exact ⟨by rw [HRR.out]; rfl, below_trans yb0 hb1⟩
theorem write_any (x : Int) (h0 : 0 ≤ x) (h1 : x < 18446744073709551616) (v : Value) (D : Dy) (n : Nat) (p : Int) (s m : Nat) (w : World) (hv : VD w D v) (hD : D.1 ≠ 0) (hl : (limbs D.1.natAbs).length ≤ 100) (he : -20000 ≤ D.2 ∧ D.2 ≤ 20000) (hn : n ≤ 1000) (hp : p = (bl D.1.natAbs : Int) + D.2 - 1) (hs : (s : Int) = D.2 - p + 4 * n) (hm : m = D.1.natAbs * 2 ^ s) (hT10 : Tab10 w) :
    Calls Tryz.prog 30 #[.int .u64 x, v, .int .i64 (n : Int)] w fun e w' => e = .returned (.string (bsOf (hxT (negB x) n m p))) ∧ Below w.heap.size w w' := by
  obtain ⟨am, cm, rfl, hN⟩ := hv
  obtain ⟨M, hM⟩ : ∃ M, M = D.1.natAbs := ⟨_, rfl⟩
  have hM0 : 0 < M := by omega
  rw [← hM] at hN hl hp hm ⊢
  have hbl := bl_len2 M 100 hl
  have LN := hid (fun w h => natLen_any am cm M w h (by omega))
  have LE := hid (show ∀ w, Ns .u32 w am cm (limbs M) → Calls Tryz.prog 33 #[.slice am (limbs M).length cm, .int .i64 (s : Int)] w fun e w' => RetN w m e w' from fun w h => by
    rw [hm]; exact leftN_any am cm M s w h (by omega) (by omega))
  have hml : (limbs m).length ≤ 3000 := by
    rw [hm]
    refine limbs_short1 (bl M + s) 3000 (by omega) _ ?_
    rw [Nat.pow_add]
    exact Nat.mul_lt_mul_of_pos_right (lt_bl M) (Nat.two_pow_pos s)
  obtain ⟨y, hy⟩ : ∃ y, y = D.2 := ⟨_, rfl⟩
  obtain ⟨b, hb⟩ : ∃ b, b = bl M := ⟨_, rfl⟩
  rw [← hy] at he hp hs
  rw [← hb] at hp LN hbl
  have hlp : 0 < (limbs M).length := (digs_len_pos 4294967296 (by omega) M).2 hM0
  have hlz : (((limbs M).length : Int) == 0) = false := beq_eq_false_iff_ne.2 (by omega)
  have HN := hid hN
  have HY := hid hy
  have zQ : QL 43 (w.alloc (.cells #[.bool (decide (D.1 < 0)), .slice am (limbs M).length cm, .int .i64 D.2] 43)) w.heap.size (decide (D.1 < 0)) (.slice am (limbs M).length cm) D.2 := QL.made rfl
  have yb0 := below_alloc w (.cells #[.bool (decide (D.1 < 0)), .slice am (limbs M).length cm, .int .i64 D.2] 43)
  rw [← hy] at zQ yb0 ⊢
  have HP := hid hp
  have HSS := hid hs
  have hpb : -30000 ≤ p ∧ p ≤ 30000 := by omega
  have hsb : s ≤ 100000 := by omega
  have hpp : (b : Int) + y - 1 = p := by omega
  have hss : y - p + 4 * (n : Int) = (s : Int) := by omega
  clear hN hM hb hm hy hM0 hlp hD hp hs
  generalize decide (D.1 < 0) = neg at *
  obtain ⟨HH, hHH⟩ : ∃ H : List UInt8, H = if negB x = true then [45, 48, 120] else [48, 120] := ⟨_, rfl⟩
  have HS := hid (show (9223372036854775808 ≤ x → bsOf HH = bsOf [45, 48, 120]) ∧ (x < 9223372036854775808 → bsOf HH = bsOf [48, 120]) from ⟨fun h => by rw [hHH, if_pos (show negB x = true from decide_eq_true h)], fun h => by rw [hHH, if_neg (by unfold negB; simp; omega)]⟩)
  have HHH := hid hHH
  have HT := hid hT10
  clear hHH hT10
  go_enter Tryz.func30, Tryz.ntmps30
  go_upto_region 1 with fail
  refine wp_worldZ (fun WW => Below w.heap.size w WW ∧ QL 43 WW w.heap.size neg (.slice am (limbs M).length cm) y ∧ Ns .u32 WW am cm (limbs M)) ⟨yb0, zQ, HN.out.below yb0⟩ ?_
  intro W1 ⟨y1, z1, hN1⟩
  obtain ⟨g1, hg1⟩ : ∃ g, g = w.heap.size := ⟨_, rfl⟩
  rw [← hg1] at z1 ⊢
  have H1 := hid z1
  have HN1 := hid hN1
  clear hg1 zQ yb0 HN hN1 z1
  go_upto_if 14 with fail
  go_cut [7] (fun s7 wx => s7 = .string (bsOf HH) ∧ wx = W1)
  case first =>
    by_cases hx : 9223372036854775808 ≤ x
    · have hs : x / 9223372036854775808 = 1 := by omega
      have hb := hid (HS.out.1 hx)
      clear HS HHH
      go_wp2_with fail
      go_meet
      exact ⟨by rw [hb.out]; rfl, rfl⟩
    · have hs : x / 9223372036854775808 = 0 := by omega
      have hb := hid (HS.out.2 (by omega))
      clear HS HHH
      go_wp2_with fail
      go_meet
      exact ⟨by rw [hb.out]; rfl, rfl⟩
  case rest =>
    obtain ⟨rfl, hwc⟩ := hcut
    subst hwc
    obtain ⟨⟨j0, j1, -⟩, j2, -⟩ := id H1.out
    have hHl : HH.length ≤ 3 := by rw [HHH.out]; split <;> simp
    have hw1 : IntKind.i64.wrap ((b : Int) + y) = (b : Int) + y := IntWalk.i64_in _ (by omega)
    have hw2 : IntKind.i64.wrap p = p := IntWalk.i64_in _ (by omega)
    go_upto_region 9 with fail
    refine wp_region_grow 8 [30, 31, 32, 33, 34, 35, 36, 8] [Fact.is (.pointer (some ⟨g1, 1, none⟩)), Fact.is (.slice am (limbs M).length cm), Fact.is (.int .i64 (b : Int)), Fact.is (.pointer (some ⟨g1, 2, none⟩)), Fact.is (.int .i64 y), Fact.is (.int .i64 ((b : Int) + y)), Fact.is (.int .i64 p), Fact.is (.int .i64 p)] (by kernel_rfl) (by kernel_rfl) ⟨?o0, ?o1, ?o2, ?o3, ?o4, ?o5, ?o6, ?o7, trivial⟩ ?after
    case o0 => (refine StepOK.plain rfl ?_; intro ρ w1 R hρ hb hp hR; have e4 : ρ (.tmp 4) = .pointer (some ⟨g1, 0, none⟩) := hρ.tmp 4 rfl; have hcon := hρ.con; have hfn := hρ.fn; clear hρ hp; unfold OpRun; go_simp; exact hR _ _ (Below.refl _ _) rfl)
    case o1 => (refine StepOK.plain rfl ?_; intro ρ w1 R hρ hb hp hR; have e30 : ρ (.tmp 30) = _ := hp 0 30 rfl rfl; obtain ⟨⟨j0, j1, -⟩, j2, -⟩ := H1.out.below hb; have hcon := hρ.con; have hfn := hρ.fn; clear hρ hp; unfold OpRun; go_simp; exact hR _ _ (Below.refl _ _) rfl)
    case o2 => (refine StepOK.plain rfl ?_; intro ρ w1 R hρ hb hp hR; have e31 : ρ (.tmp 31) = _ := hp 1 31 rfl rfl; have hcon := hρ.con; have hfn := hρ.fn; clear hρ hp; unfold OpRun; go_simp; (refine (LN.out _ (HN1.out.below hb)).mono ?_; rintro e wn ⟨rfl, rfl⟩; exact ⟨_, rfl, hR _ _ (Below.refl _ _) rfl⟩))
    case o3 => (refine StepOK.plain rfl ?_; intro ρ w1 R hρ hb hp hR; have e4 : ρ (.tmp 4) = .pointer (some ⟨g1, 0, none⟩) := hρ.tmp 4 rfl; have hcon := hρ.con; have hfn := hρ.fn; clear hρ hp; unfold OpRun; go_simp; exact hR _ _ (Below.refl _ _) rfl)
    case o4 => (refine StepOK.plain rfl ?_; intro ρ w1 R hρ hb hp hR; have e33 : ρ (.tmp 33) = _ := hp 3 33 rfl rfl; obtain ⟨⟨j0, j1, -⟩, j2, -⟩ := H1.out.below hb; have hcon := hρ.con; have hfn := hρ.fn; clear hρ hp; unfold OpRun; go_simp; exact hR _ _ (Below.refl _ _) rfl)
    case o5 => (refine StepOK.plain rfl ?_; intro ρ w1 R hρ hb hp hR; have e32 : ρ (.tmp 32) = _ := hp 2 32 rfl rfl; have e34 : ρ (.tmp 34) = _ := hp 4 34 rfl rfl; have hcon := hρ.con; have hfn := hρ.fn; clear hρ hp; unfold OpRun; go_simp; exact hR _ _ (Below.refl _ _) rfl)
    case o6 => (refine StepOK.plain rfl ?_; intro ρ w1 R hρ hb hp hR; have e35 : ρ (.tmp 35) = _ := hp 5 35 rfl rfl; have hcon := hρ.con; have hfn := hρ.fn; clear hρ hp; unfold OpRun; go_simp; exact hR _ _ (Below.refl _ _) rfl)
    case o7 => (refine StepOK.plain rfl ?_; intro ρ w1 R hρ hb hp hR; have e36 : ρ (.tmp 36) = _ := hp 6 36 rfl rfl; have hcon := hρ.con; have hfn := hρ.fn; clear hρ hp; unfold OpRun; go_simp; exact hR _ _ (Below.refl _ _) rfl)
    case after =>
      intro u wn hb hf
      have e8 : u 8 = _ := hf 7 8 (by omega) rfl
      clear hf
      simp only [putAll, Act.put, List.setIfInBounds_toArray, List.set_cons_zero, List.set_cons_succ, List.drop_succ_cons, List.drop_zero, List.drop_nil]
      rw [e8]
      have y2 := below_trans y1 hb
      have H2 := hid (H1.out.below hb)
      have HN2 := hid (HN1.out.below hb)
      obtain ⟨W2, hW2⟩ : ∃ W, W = wn := ⟨_, rfl⟩
      subst hW2
      clear H1 HN1 y1 hb j0 j1 j2 hw1 hpp
      obtain ⟨⟨j0, j1, -⟩, j2, -⟩ := id H2.out
      have hw3 : IntKind.i64.wrap (y - p) = y - p := IntWalk.i64_in _ (by omega)
      have hw4 : IntKind.i64.wrap (4 * (n : Int)) = 4 * (n : Int) := IntWalk.i64_in _ (by omega)
      have hw5 : IntKind.i64.wrap (s : Int) = (s : Int) := IntWalk.i64_in _ (by omega)
      have a1 := add_bs (P := Tryz.prog) HH [49] (by simp; omega)
      have b1 : (ByteArray.mk #[49]) = bsOf [49] := rfl
      go_upto_if 50 with (go_at_call 33; (with_reducible refine (LE.out _ HN2.out).mono ?_); rintro en w3 ⟨a9, rfl, hN9, hb3⟩)
      obtain ⟨B0, hB0⟩ : ∃ B, B = HH ++ [49] ++ (if n = 0 then [] else [46]) := ⟨_, rfl⟩
      have hB0l : B0.length ≤ 5 := by rw [hB0]; split <;> simp <;> omega
      have HB0 := hid hB0
      clear hB0
      go_cut [7] (fun s7 wx => s7 = .string (bsOf B0) ∧ wx = w3)
      case first => as_aux_lemma =>
        by_cases hn0 : n = 0
        · have hn1 : ¬ 0 < (n : Int) := by omega
          have hn2 : decide (0 < n) = false := decide_eq_false (by omega)
          have HBB := hid (show B0 = HH ++ [49] by rw [HB0.out, if_pos hn0]; simp)
          clear hn0 HB0
          go_wp2_with fail
          go_meet
          exact ⟨by rw [HBB.out], rfl⟩
        · have hn1 : 0 < (n : Int) := by omega
          have hn2 : decide (0 < n) = true := decide_eq_true (by omega)
          have HBB := hid (show B0 = HH ++ [49] ++ [46] by rw [HB0.out, if_neg hn0])
          have a2 := add_bs (P := Tryz.prog) (HH ++ [49]) [46] (by simp; omega)
          have b2 : (ByteArray.mk #[46]) = bsOf [46] := rfl
          rw [← HBB.out] at a2
          clear hn0 HB0 HBB
          go_wp2_with fail
          go_meet
          exact ⟨rfl, rfl⟩
      case rest =>
        obtain ⟨rfl, hwc⟩ := hcut
        subst hwc
        have y4 := below_trans y2 hb3
        have hNm := hN9
        have hmc := hN9.1
        have HN9 := hid hN9
        have hml9 := hml
        obtain ⟨W3, hW3⟩ : ∃ W, W = wc := ⟨_, rfl⟩
        subst hW3
        clear hN9 hb3 H2 HN2 y2 j0 j1 j2 a1 b1 hHl hNm
        have hw6 : IntKind.i64.wrap ((n : Int) - 1) = (n : Int) - 1 := IntWalk.i64_in _ (by omega)
        go_wp2_with fail
        go_loopw [7, 10, 11] (fun s7 s10 s11 wr => ∃ j : Int, -1 ≤ j ∧ j < n ∧ s10 = .int .i64 j ∧ s7 = .string (bsOf (B0 ++ (hxD n m).take (n - (j + 1).toNat))) ∧ wr = W3) (fun _ s10 _ _ => (intOf s10 + 1).toNat)
        case atStart => exact ⟨(n : Int) - 1, by omega, by omega, rfl, by rw [show n - ((n : Int) - 1 + 1).toNat = 0 by omega]; simp, rfl⟩
        case round =>
          obtain ⟨j, hj1, hj2, rfl, rfl, rfl⟩ := hrel
          by_cases hj0 : j < 0
          · have hcc : ¬ 0 ≤ j := by omega
            have hTT := hid (show B0 ++ (hxD n m).take (n - (j + 1).toNat) = B0 ++ hxD n m by
              rw [show n - (j + 1).toNat = n by omega, List.take_of_length_le (by rw [hxD_len]; omega)])
            rw [hTT.out]
            have hBl : (B0 ++ hxD n m).length ≤ 1005 := by rw [List.length_append, hxD_len]; omega
            have HFI := hid (show B0 ++ hxD n m ++ hxP p = hxT (negB x) n m p by
              rw [HB0.out, HHH.out]
              unfold hxT dsh
              by_cases hn0 : n = 0
              · rw [if_pos hn0, if_pos hn0, hn0]
                cases negB x <;> simp [hxD]
              · rw [if_neg hn0, if_neg hn0]
                cases negB x <;> simp)
            obtain ⟨B1, hB1⟩ : ∃ B, B = B0 ++ hxD n m := ⟨_, rfl⟩
            rw [← hB1] at hBl HFI ⊢
            obtain ⟨RT, hRT⟩ : ∃ R, R = hxT (negB x) n m p := ⟨_, rfl⟩
            rw [← hRT] at HFI
            have HRT := hid hRT
            clear hRT
            have lDp : (decD p.natAbs).length ≤ 6 := decD_len 5 _ (by omega)
            have IT := hid (fun w t => itoa_any p (by omega) (by omega) w t)
            have HT4 := hid (HT.out.below y4)
            clear hB1 HB0 HHH HP HSS hTT hj0 hj1 hj2 HS
            by_cases hp0 : 0 ≤ p
            · have hit : Lib.itoa p = decD p.natAbs := by
                unfold Lib.itoa
                rw [if_neg (by omega)]
                congr 1
                omega
              have HFJ := hid (show RT = B1 ++ [112, 43] ++ decD p.natAbs by
                rw [← HFI.out]; unfold hxP; rw [if_neg (by omega)]; simp)
              rw [hit] at IT
              have a1 := add_bs (P := Tryz.prog) B1 [112, 43] (by simp; omega)
              have a2 := add_bs (P := Tryz.prog) (B1 ++ [112, 43]) (decD p.natAbs) (by simp; omega)
              have b1 : (ByteArray.mk #[112, 43]) = bsOf [112, 43] := rfl
              rw [← HFJ.out] at a2
              clear HFI hit
              go_wp2_with (go_at_call 61; (with_reducible refine (IT.out _ HT4.out).mono ?_); rintro en w8 ⟨rfl, hb8⟩)
              go_ret
              exact ⟨by rw [← HRT.out]; rfl, below_trans y4 hb8⟩
            · have hit : Lib.itoa p = 45 :: decD p.natAbs := by
                unfold Lib.itoa
                rw [if_pos (by omega)]
              have HFJ := hid (show RT = B1 ++ [112] ++ 45 :: decD p.natAbs by
                rw [← HFI.out]; unfold hxP; rw [if_pos (by omega)]; simp)
              rw [hit] at IT
              have a1 := add_bs (P := Tryz.prog) B1 [112] (by simp; omega)
              have a2 := add_bs (P := Tryz.prog) (B1 ++ [112]) (45 :: decD p.natAbs) (by simp; omega)
              have b1 : (ByteArray.mk #[112]) = bsOf [112] := rfl
              rw [← HFJ.out] at a2
              clear HFI hit
              go_wp2_with (go_at_call 61; (with_reducible refine (IT.out _ HT4.out).mono ?_); rintro en w8 ⟨rfl, hb8⟩)
              go_ret
              exact ⟨by rw [← HRT.out]; rfl, below_trans y4 hb8⟩
          · obtain ⟨i, rfl⟩ := Int.eq_ofNat_of_zero_le (show 0 ≤ j by omega)
            have hST := hxD_take n m i (by omega)
            obtain ⟨dg, hdg⟩ : ∃ d, d = m / 16 ^ i % 16 := ⟨_, rfl⟩
            have hd16 : dg < 16 := by omega
            have hLD := limb_digit m i
            rw [← hdg] at hLD hST
            obtain ⟨k, hk⟩ : ∃ k, k = i / 8 := ⟨_, rfl⟩
            obtain ⟨r, hr⟩ : ∃ r, r = i % 8 := ⟨_, rfl⟩
            have e8 : (i : Int) / 8 = (k : Int) := by omega
            have e9 : (i : Int) % 8 = (r : Int) := by omega
            have hr8 : r < 8 := by omega
            rw [← hk, ← hr] at hLD
            obtain ⟨lb9, hlb⟩ : ∃ l, l = (limbs m).getD k 0 := ⟨_, rfl⟩
            rw [← hlb] at hLD
            have hlb2 : lb9 < 4294967296 := by rw [hlb]; exact (limbs_lim m).getD (by omega) _
            have hlh := hxD_len n m
            rw [show ((i : Int) + 1).toNat = i + 1 by omega]
            have htk : ((hxD n m).take (n - (i + 1))).length ≤ 1000 := by rw [List.length_take]; omega
            obtain ⟨TK, hTK⟩ : ∃ X, X = (hxD n m).take (n - (i + 1)) := ⟨_, rfl⟩
            rw [← hTK] at hST htk ⊢
            have hA := add_bs (P := Tryz.prog) (B0 ++ TK) [hxc dg] (by simp; omega)
            rw [List.append_assoc, ← hST] at hA
            have HST := hid (show (hxD n m).take (n - i) = (hxD n m).take (n - ((i : Int) - 1 + 1).toNat) by rw [show ((i : Int) - 1 + 1).toNat = i by omega])
            have HLB := hid hlb
            have HLD := hid hLD
            have hwi : IntKind.i64.wrap ((i : Int) - 1) = (i : Int) - 1 := IntWalk.i64_in _ (by omega)
            clear hST hTK hlh hk hr hdg hlb hLD
            go_upto_if 63 with fail
            go_cut [11] (fun s11 wx => s11 = .int .u32 (lb9 : Int) ∧ wx = wr)
            case first => as_aux_lemma =>
              by_cases hkl : k < (limbs m).length
              · obtain ⟨b9, o9, rfl, hc9⟩ := HN9.out.2.2 (by omega)
                have hcell : wr.cell? ⟨b9, o9 + k, none⟩ = some (.int .u32 (lb9 : Int)) := by
                  rw [HLB.out]; exact hc9 k hkl
                have hk2 : (k : Int) < ((limbs m).length : Int) := by omega
                clear hc9
                go_wp2_with fail
                go_meet
                exact ⟨rfl, rfl⟩
              · have hz := hid (show lb9 = 0 by rw [HLB.out]; exact getD_out _ _ (by omega))
                have hk2 : ¬ (k : Int) < ((limbs m).length : Int) := by omega
                have hk3 : decide (k < (limbs m).length) = false := decide_eq_false hkl
                go_wp2_with fail
                go_meet
                exact ⟨by rw [hz.out]; rfl, rfl⟩
            case rest =>
              obtain ⟨rfl, hwc⟩ := hcut
              subst hwc
              have hBA : bits .and .u32 ((lb9 : Int) / 2 ^ (4 * r)) 15 = (dg : Int) := by
                have e1 : (lb9 : Int) / 2 ^ (4 * r) = ((lb9 / 2 ^ (4 * r) : Nat) : Int) := by rw [Int.natCast_ediv]; simp
                rw [e1]
                have h := and_mask_u32 (lb9 / 2 ^ (4 * r)) 4 (by omega) (Nat.lt_of_le_of_lt (Nat.div_le_self _ _) hlb2)
                rw [show (((2 ^ 4 - 1 : Nat)) : Int) = 15 from rfl, show (2 : Nat) ^ 4 = 16 from rfl, HLD.out] at h
                exact h
              have hIX : ∀ w, (Instr.index 9 (.string (ByteArray.mk #[48, 49, 50, 51, 52, 53, 54, 55, 56, 57, 97, 98, 99, 100, 101, 102])) (.int .u32 (dg : Int))).run Tryz.prog w = .ok (.int .u8 ((hxc dg).toNat : Int)) w := fun w => by
                rw [run_index_string _ _ _ _ _ Tryz.underlying9, dif_pos ⟨by omega, by show (dg : Int) < 16; omega⟩]
                have h8 : (dg : Int).toNat = dg := by omega
                simp only [h8, hx_get dg hd16]
              have hwc : wrap32 ((hxc dg).toNat : Int) = ((hxc dg).toNat : Int) := IntWalk.wrap32_in _ (by have := (hxc dg).toNat_lt; omega)
              have hEN : Utf8.encode ((hxc dg).toNat : Int) = bsOf [hxc dg] := hx_enc dg hd16
              generalize (hxc dg).toNat = cn at *
              go_wp2_with fail
              go_roundw
              case rel => exact ⟨(i : Int) - 1, by omega, by omega, rfl, by rw [← HST.out]; try rfl, by first | rfl | trivial⟩
              case measure => first | (simp [intOf]; done) | (simp [intOf]; omega)
end Go.Proofs.YtpgmchpdpgahfaaGreatDoor

set_option linter.unusedVariables false
set_option linter.unusedSimpArgs false
namespace Go.Ulp
open Go.RowKit
def hfD (D : Dy) (n : Nat) (mode : Int) : Dy := mplD D (hfK D - 4 * (n : Int)) mode
def hfM (E : Dy) (n : Nat) : Nat := E.1.natAbs * 2 ^ (E.2 - hfK E + 4 * (n : Int)).toNat
def hfT (x : Int) (n : Nat) (mode : Int) : List UInt8 := hxT (negB x) n (hfM (hfD (fv x) n mode) n) (hfK (hfD (fv x) n mode))
/-- as many digits as there have to be -/
def hfN (D : Dy) : Nat := (bl D.1.natAbs - 1 + 3) / 4
theorem hfD_self (D : Dy) (n : Nat) (mode : Int) (hI : IsN D) (hn : hfN D ≤ n) : hfD D n mode = D := by
  have hKD : hfK D = (bl D.1.natAbs : Int) + D.2 - 1 := rfl
  unfold hfN at hn
  unfold hfD mplD mulK
  rw [if_pos (by rw [decide_eq_true_eq]; omega), nrm_of_isN D hI]
end Go.Ulp
