/- ShortSays: what the proof leans on, part 27 (Sy7 Sy8 Sy9 Frame2 Tb Tb7). -/
import Derived.WalkKit
import Derived.ReadAgain
import Derived.ChangeReads
import Derived.Lib.SmallJoins
import Derived.ChangeSlices
import Derived.OpenShut
import Derived.Test.YthaelmnblgollaaGreatDoorRows
import Derived.LaidMore
import Derived.Lib.LaidTab
import Derived.LaidLaws
import Derived.SevenTiedAt
import Derived.Stop.Joined
import Derived.Stop.LaidErr
import Derived.Lay
import Derived.Test.YthaelmnblgollaaGreatDoorKShortSays2
import Derived.Test.YthaelmnblgollaaGreatDoorKShortSays14
import Derived.Test.YthaelmnblgollaaGreatDoorKShortSays16
import Derived.Test.YthaelmnblgollaaGreatDoorKShortSays25
import Derived.Test.YthaelmnblgollaaGreatDoorKShortSays26
set_option linter.unusedVariables false
set_option linter.unusedSimpArgs false
namespace Go.Ulp
open Go.RowKit
/-- digits and a power of ten as a text -/
def shT (d : List UInt8) (k : Int) : List UInt8 :=
  if k + (d.length : Int) - 1 < -5 ∨ 20 < k + (d.length : Int) - 1 then d.take 1 ++ ((if 1 < d.length then 46 :: d.drop 1 else []) ++ 101 :: pwrT (k + (d.length : Int) - 1))
  else if 0 ≤ k then d ++ List.replicate k.toNat 48
  else if 0 ≤ k + (d.length : Int) - 1 then d.take (k + (d.length : Int)).toNat ++ 46 :: d.drop (k + (d.length : Int)).toNat
  else 48 :: 46 :: (List.replicate (-(k + (d.length : Int))).toNat 48 ++ d)
/-- digits with no nought ahead are their number's -/
theorem decD_dvl : ∀ (n : Nat) (L : List UInt8), L.length = n → AllDg L → (∀ b r, L = b :: r → b ≠ 48) → L ≠ [] → decD (dvl L) = L := by
  intro n
  induction n with
  | zero => intro L h _ _ h0; exact absurd (List.length_eq_zero_iff.1 h) h0
  | succ n ih =>
    intro L h hd hh h0
    rcases snoc_cases L with rfl | ⟨M, b, rfl⟩
    · exact absurd rfl h0
    · rw [List.length_append, List.length_singleton] at h
      have hb := dg_bd (hd b (List.mem_append.2 (.inr (List.mem_singleton.2 rfl))))
      have hv : dvl (M ++ [b]) = dvl M * 10 + (b.toNat - 48) := by
        unfold dvl; rw [dvA_app, dvA_cons]; rfl
      have hbb : UInt8.ofNat (48 + (b.toNat - 48)) = b := by
        rw [show 48 + (b.toNat - 48) = b.toNat by omega]; exact UInt8.ofNat_toNat
      cases M with
      | nil =>
        rw [hv, show dvl [] = 0 from rfl, Nat.zero_mul, Nat.zero_add, decD_small (by omega), hbb]; rfl
      | cons c r =>
        have hdM : AllDg (c :: r) := fun x hx => hd x (List.mem_append.2 (.inl hx))
        have hc : c ≠ 48 := hh c (r ++ [b]) rfl
        have h1 := ih (c :: r) (by omega) hdM (fun b' r' e => by injection e with e1 e2; rw [← e1]; exact hc) (by simp)
        have h2 := dvl_ge c r hdM hc
        have h3 := Nat.pow_pos (n := r.length) (show 0 < 10 by omega)
        rw [hv, decD_step _ _ (by omega) (by omega), h1, hbb]
theorem stp_text (Z : Nat) (h : 0 < Z) : decD (dvl (stp (decD Z))) = stp (decD Z) := by
  obtain ⟨b, r, h1, h2⟩ := decD_head Z h
  obtain ⟨q, h3⟩ := stp_head h1 h2
  refine decD_dvl _ _ rfl (stp_dg (decD_dg Z)) (fun b' r' e => ?_) (by rw [h3]; simp)
  rw [h3] at e
  injection e with e1 e2
  rw [← e1]; exact h2
/-- Pointed as the program writes it -/
theorem ptd_text (d : List UInt8) (k : Int) (hk : k < 0) (h1 : ¬ (k + (d.length : Int) - 1 < -5 ∨ 20 < k + (d.length : Int) - 1)) : ptd d (-k).toNat = shT d k := by
  obtain ⟨p, hp⟩ : ∃ p, p = (-k).toNat := ⟨_, rfl⟩
  unfold shT
  rw [if_neg h1, if_neg (by omega), ← hp, ptd_pos d p (by omega)]
  by_cases h2 : 0 ≤ k + (d.length : Int) - 1
  · rw [if_pos h2, padz_long _ _ (by omega), show (k + (d.length : Int)).toNat = d.length - p by omega]
  · rw [if_neg h2]
    have e1 : padz (p + 1) d = 48 :: (List.replicate (p - d.length) 48 ++ d) := by
      unfold padz
      rw [show p + 1 - d.length = (p - d.length) + 1 by omega, List.replicate_succ, List.cons_append]
    have e2 : (padz (p + 1) d).length - p = 1 := by
      rw [e1]; simp; omega
    rw [e2, e1, show (-(k + (d.length : Int))).toNat = p - d.length by omega]
    rfl
end Go.Ulp
namespace Go.Proofs.YthaelmnblgollaaGreatDoor
open Go.RowKit Go.Ulp
set_option linter.unusedVariables false
set_option linter.unusedSimpArgs false
set_option maxHeartbeats 2000000
set_option maxRecDepth 100000
theorem shText_nan (x : Int) (h0 : 0 ≤ x) (h1 : x < 18446744073709551616) (hc : classOf x = 5) (w : World) :
    Calls Tryz.prog 52 #[.int .u64 x] w fun e w' => e = .returned (.string (bsOf [110, 97, 110])) ∧ Below w.heap.size w w' := by
  have CL := hid (fun w => class_any x h0 h1 w)
  rw [hc] at CL
  by_cases h : 9223372036854775808 ≤ x
  · have hs : x / 9223372036854775808 = 1 := by omega
    go_enter Tryz.func52, Tryz.ntmps52
    go_wp2_with ((go_at_call 64; (with_reducible refine (CL.out _).mono ?_); rintro en w1 ⟨rfl, rfl⟩))
    go_ret
    exact ⟨rfl, Below.refl _ _⟩
  · have hs : x / 9223372036854775808 = 0 := by omega
    go_enter Tryz.func52, Tryz.ntmps52
    go_wp2_with ((go_at_call 64; (with_reducible refine (CL.out _).mono ?_); rintro en w1 ⟨rfl, rfl⟩))
    go_ret
    exact ⟨rfl, Below.refl _ _⟩
theorem shText_inf (x : Int) (h0 : 0 ≤ x) (h1 : x < 18446744073709551616) (hc : classOf x = 4) (w : World) :
    Calls Tryz.prog 52 #[.int .u64 x] w fun e w' => e = .returned (.string (bsOf (dsh (negB x) [105, 110, 102]))) ∧ Below w.heap.size w w' := by
  have CL := hid (fun w => class_any x h0 h1 w)
  rw [hc] at CL
  by_cases h : 9223372036854775808 ≤ x
  · have hs : x / 9223372036854775808 = 1 := by omega
    have HR := hid (show dsh (negB x) [105, 110, 102] = [45, 105, 110, 102] by unfold dsh; rw [if_pos (show negB x = true from decide_eq_true h)])
    go_enter Tryz.func52, Tryz.ntmps52
    go_wp2_with ((go_at_call 64; (with_reducible refine (CL.out _).mono ?_); rintro en w1 ⟨rfl, rfl⟩))
    go_ret
    exact ⟨by rw [HR.out]; rfl, Below.refl _ _⟩
  · have hs : x / 9223372036854775808 = 0 := by omega
    have HR := hid (show dsh (negB x) [105, 110, 102] = [105, 110, 102] by unfold dsh; rw [show negB x = false from decide_eq_false h]; rfl)
    go_enter Tryz.func52, Tryz.ntmps52
    go_wp2_with ((go_at_call 64; (with_reducible refine (CL.out _).mono ?_); rintro en w1 ⟨rfl, rfl⟩))
    go_ret
    exact ⟨by rw [HR.out]; rfl, Below.refl _ _⟩
theorem shText_zero (x : Int) (h0 : 0 ≤ x) (h1 : x < 18446744073709551616) (hc : classOf x = 1) (w : World) :
    Calls Tryz.prog 52 #[.int .u64 x] w fun e w' => e = .returned (.string (bsOf (dsh (negB x) [48]))) ∧ Below w.heap.size w w' := by
  have CL := hid (fun w => class_any x h0 h1 w)
  rw [hc] at CL
  by_cases h : 9223372036854775808 ≤ x
  · have hs : x / 9223372036854775808 = 1 := by omega
    have HR := hid (show dsh (negB x) [48] = [45, 48] by unfold dsh; rw [if_pos (show negB x = true from decide_eq_true h)])
    go_enter Tryz.func52, Tryz.ntmps52
    go_wp2_with ((go_at_call 64; (with_reducible refine (CL.out _).mono ?_); rintro en w1 ⟨rfl, rfl⟩))
    go_ret
    exact ⟨by rw [HR.out]; rfl, Below.refl _ _⟩
  · have hs : x / 9223372036854775808 = 0 := by omega
    have HR := hid (show dsh (negB x) [48] = [48] by unfold dsh; rw [show negB x = false from decide_eq_false h]; rfl)
    go_enter Tryz.func52, Tryz.ntmps52
    go_wp2_with ((go_at_call 64; (with_reducible refine (CL.out _).mono ?_); rintro en w1 ⟨rfl, rfl⟩))
    go_ret
    exact ⟨by rw [HR.out]; rfl, Below.refl _ _⟩
theorem shText_val (x : Int) (h0 : 0 ≤ x) (h1 : x < 18446744073709551616) (c5 : classOf x ≠ 5) (c4 : classOf x ≠ 4) (c1 : classOf x ≠ 1) (d : List UInt8) (k : Int) (hd : 1 ≤ d.length ∧ d.length ≤ 2000) (hk : -3000 ≤ k ∧ k ≤ 3000)
    (SD : ∀ w, Tab 0 w → Tab10 w → Calls Tryz.prog 51 #[.int .u64 x] w fun e w' => e = .returned (.tuple #[.string (bsOf d), .int .i64 k, .int .i64 0]) ∧ Below w.heap.size w w') (w : World) (hT : Tab 0 w) (hT10 : Tab10 w) :
    Calls Tryz.prog 52 #[.int .u64 x] w fun e w' => e = .returned (.string (bsOf (dsh (negB x) (shT d k)))) ∧ Below w.heap.size w w' := by
  have CL := hid (fun w => class_any x h0 h1 w)
  have e5 : (classOf x == 5) = false := beq_eq_false_iff_ne.2 c5
  have e4 : (classOf x == 4) = false := beq_eq_false_iff_ne.2 c4
  have e1 : (classOf x == 1) = false := beq_eq_false_iff_ne.2 c1
  have n5 : (classOf x != 5) = true := by rw [bne, e5]; rfl
  have SDD := hid SD
  have HT := hid hT
  have HT10 := hid hT10
  obtain ⟨S, hS⟩ : ∃ S : List UInt8, S = if negB x = true then [45] else [] := ⟨_, rfl⟩
  have hSl : S.length ≤ 1 := by rw [hS]; split <;> simp
  have HDS := hid (show ∀ L, dsh (negB x) L = S ++ L from fun L => by rw [hS]; unfold dsh; split <;> rfl)
  have HSS := hid hS
  rw [HDS.out]
  obtain ⟨p, hp⟩ : ∃ p, p = k + (d.length : Int) - 1 := ⟨_, rfl⟩
  have HP := hid hp
  have hsz := bs_size d
  have wA : IntKind.i64.wrap (k + (d.length : Int)) = k + (d.length : Int) := IntWalk.i64_in _ (by omega)
  have wB : IntKind.i64.wrap (k + (d.length : Int) - 1) = p := by rw [IntWalk.i64_in _ (by omega)]; exact hp.symm
  clear SD hT hT10 hS c5 c4 c1
  go_enter Tryz.func52, Tryz.ntmps52
  go_upto_region 2 with fail
  go_cut [3, 16] (fun s3 s16 wx => s3 = .string ⟨#[]⟩ ∧ s16 = .bool (negB x) ∧ wx = w)
  case first => as_aux_lemma =>
    by_cases h : 9223372036854775808 ≤ x
    · have hs : x / 9223372036854775808 = 1 := by omega
      have HN := hid (show negB x = true from decide_eq_true h)
      clear h
      go_wp2_with ((go_at_call 64; (with_reducible refine (CL.out _).mono ?_); rintro en w1 ⟨rfl, rfl⟩))
      go_meet
      exact ⟨rfl, by rw [HN.out], rfl⟩
    · have hs : x / 9223372036854775808 = 0 := by omega
      have HN := hid (show negB x = false from decide_eq_false h)
      clear h
      go_wp2_with ((go_at_call 64; (with_reducible refine (CL.out _).mono ?_); rintro en w1 ⟨rfl, rfl⟩))
      go_meet
      exact ⟨rfl, by rw [HN.out], rfl⟩
  case rest =>
    obtain ⟨rfl, rfl, hwc⟩ := hcut
    subst hwc
    go_upto_if 16 with fail
    go_cut [3] (fun s3 wx => s3 = .string (bsOf S) ∧ wx = wc)
    case first => as_aux_lemma =>
      cases hng : negB x
      · have H5 := hid (show S = [] by rw [HSS.out, hng]; rfl)
        go_wp2_with fail
        go_meet
        exact ⟨by rw [H5.out]; rfl, rfl⟩
      · have H5 := hid (show S = [45] by rw [HSS.out, hng]; rfl)
        go_wp2_with fail
        go_meet
        exact ⟨by rw [H5.out]; rfl, rfl⟩
    case rest =>
      obtain ⟨rfl, hwc⟩ := hcut
      subst hwc
      clear hp HSS
      go_upto_region 14 with (first | (go_at_call 64; (with_reducible refine (CL.out _).mono ?_); rintro en w1 ⟨rfl, rfl⟩) | (go_at_call 51; (with_reducible refine (SDD.out _ HT.out HT10.out).mono ?_); rintro en w2 ⟨rfl, hb2⟩))
      have yb2 := hb2
      clear hb2 CL SDD e5 e4 e1 n5 HT
      have HT2 := hid (HT10.out.below yb2)
      clear HT10
      obtain ⟨W2, hW2⟩ : ∃ W, W = w2 := ⟨_, rfl⟩
      subst hW2
      have hpb : -4000 ≤ p ∧ p ≤ 6000 := by have := HP.out; omega
      by_cases ho : p < -5 ∨ 20 < p
      · have HR := hid (show S ++ shT d k = (S ++ (d.take 1 ++ (if 1 < d.length then 46 :: d.tail else []))) ++ 101 :: pwrT p by
          unfold shT
          rw [← HP.out, if_pos ho, List.drop_one]
          simp)
        have PW := hid (fun w h => power_any p (by omega) w h)
        have s1 := slice_to (P := Tryz.prog) Tryz.underlying9 d 1 (by omega) (by omega)
        rw [show (1 : Int).toNat = 1 from rfl] at s1
        have s2 := slice_from (P := Tryz.prog) Tryz.underlying9 d 1 (by omega) (by omega)
        rw [show (1 : Int).toNat = 1 from rfl, List.drop_one] at s2
        have l1 : (d.take 1).length ≤ 1 := by rw [List.length_take]; omega
        have l2 : (d.tail).length ≤ 2000 := by rw [List.length_tail]; omega
        obtain ⟨F, hF⟩ : ∃ F, F = S ++ (d.take 1 ++ (if 1 < d.length then 46 :: d.tail else [])) := ⟨_, rfl⟩
        have lF : F.length ≤ 3000 := by
          rw [hF, List.length_append, List.length_append]
          split
          · rw [List.length_cons]; omega
          · simp; omega
        have lp : (pwrT p).length ≤ 3000 := by
          unfold pwrT
          have : (decD p.natAbs).length ≤ 100 := decD_len_lt _ 100 (by have h9 : 10 ^ 4 ≤ 10 ^ 100 := Nat.pow_le_pow_right (by omega) (by omega); omega) (by omega)
          simp only [List.length_cons, List.length_append]
          split <;> simp <;> omega
        have ka1 := add_bs (P := Tryz.prog) S (d.take 1) (by omega)
        have ka2 : ∀ w, (Op.stringOp .add ⟨#[46]⟩ (bsOf (d.tail))).run Tryz.prog w = .ok (.string (bsOf (46 :: d.tail))) w := add_bs (P := Tryz.prog) [46] (d.tail) (by simp; omega)
        have ka3 : ∀ w, (Op.stringOp .add (bsOf (S ++ d.take 1)) (bsOf (46 :: d.tail))).run Tryz.prog w = .ok (.string (bsOf (S ++ (d.take 1 ++ 46 :: d.tail)))) w := by
          have h9 := add_bs (P := Tryz.prog) (S ++ d.take 1) (46 :: d.tail) (by rw [List.length_append, List.length_cons]; omega)
          rwa [List.append_assoc] at h9
        have ka4 : ∀ w, (Op.stringOp .add (bsOf F) ⟨#[101]⟩).run Tryz.prog w = .ok (.string (bsOf (F ++ [101]))) w := add_bs (P := Tryz.prog) F [101] (by simp; omega)
        have ka5 : ∀ w, (Op.stringOp .add (bsOf (F ++ [101])) (bsOf (pwrT p))).run Tryz.prog w = .ok (.string (bsOf (F ++ 101 :: pwrT p))) w := by
          have h9 := add_bs (P := Tryz.prog) (F ++ [101]) (pwrT p) (by rw [List.length_append]; simp; omega)
          rwa [List.append_assoc] at h9
        rw [← hF] at HR
        have HFF := hid hF
        go_cut [41] (fun s41 wx => s41 = .bool true ∧ wx = W2)
        case first => as_aux_lemma =>
          clear HFF hF HR
          by_cases a1 : p < -5
          · go_wp2_with fail
            go_meet
            exact ⟨rfl, rfl⟩
          · have a2 : 20 < p := by omega
            go_wp2_with fail
            go_meet
            exact ⟨rfl, rfl⟩
        case rest =>
          obtain ⟨rfl, hwc⟩ := hcut
          subst hwc
          clear hF
          go_upto_if 53 with fail
          go_cut [3] (fun s3 wx => s3 = .string (bsOf F) ∧ wx = wc)
          case first => as_aux_lemma =>
            by_cases hn : 1 < d.length
            · have hn2 : (1 : Int) < (d.length : Int) := by omega
              have H5 := hid (show S ++ (d.take 1 ++ 46 :: d.tail) = F by rw [HFF.out, if_pos hn])
              clear HFF HR hn
              go_wp2_with fail
              go_meet
              exact ⟨by rw [H5.out], rfl⟩
            · have hn2 : ¬ (1 : Int) < (d.length : Int) := by omega
              have H5 := hid (show S ++ d.take 1 = F by rw [HFF.out, if_neg hn, List.append_nil])
              clear HFF HR hn
              go_wp2_with fail
              go_meet
              exact ⟨by rw [H5.out], rfl⟩
          case rest =>
            obtain ⟨rfl, hwc⟩ := hcut
            subst hwc
            clear HFF ka1 ka2 ka3 s1 s2 l1 l2
            go_wp2_with (go_at_call 140; (with_reducible refine (PW.out _ HT2.out).mono ?_); rintro en w5 ⟨rfl, hb5⟩)
            go_ret
            exact ⟨by rw [HR.out]; rfl, below_trans yb2 hb5⟩
      · have q1 : ¬ p < -5 := fun h => ho (.inl h)
        have q2 : ¬ 20 < p := fun h => ho (.inr h)
        by_cases hk0 : 0 ≤ k
        · obtain ⟨K, hK⟩ := Int.eq_ofNat_of_zero_le hk0
          have HR := hid (show S ++ shT d k = S ++ (d ++ List.replicate K 48) by
            unfold shT
            rw [← HP.out, if_neg ho, if_pos hk0, show k.toNat = K by omega])
          have RE := hid (fun w => repeat_any 48 K (by omega) w)
          have b48 : (ByteArray.mk #[48]) = bsOf [48] := rfl
          have ka1 := add_bs (P := Tryz.prog) S d (by omega)
          have ka2 : ∀ w, (Op.stringOp .add (bsOf (S ++ d)) (bsOf (List.replicate K 48))).run Tryz.prog w = .ok (.string (bsOf (S ++ (d ++ List.replicate K 48)))) w := by
            have h9 := add_bs (P := Tryz.prog) (S ++ d) (List.replicate K 48) (by rw [List.length_append, List.length_replicate]; omega)
            rwa [List.append_assoc] at h9
          subst hK
          clear ho
          go_wp2_with (go_at_call 141; (with_reducible refine (RE.out _).mono ?_); rintro en w5 ⟨rfl, hb5⟩)
          go_ret
          exact ⟨by rw [HR.out]; rfl, below_trans yb2 hb5⟩
        · by_cases hp0 : 0 ≤ p
          · obtain ⟨m, hm⟩ : ∃ m : Nat, (m : Int) = p + 1 := ⟨(p + 1).toNat, by omega⟩
            have hml : m ≤ d.length := by have := HP.out; omega
            have HR := hid (show S ++ shT d k = S ++ (d.take m ++ 46 :: d.drop m) by
              unfold shT
              rw [← HP.out, if_neg ho, if_neg hk0, if_pos hp0, show (k + (d.length : Int)).toNat = m by have := HP.out; omega])
            have s1 := slice_to (P := Tryz.prog) Tryz.underlying9 d (m : Int) (by omega) (by omega)
            have s2 := slice_from (P := Tryz.prog) Tryz.underlying9 d (m : Int) (by omega) (by omega)
            rw [Int.toNat_natCast] at s1 s2
            have t1 : (d.take m).length ≤ 2000 := by rw [List.length_take]; omega
            have t2 : (d.drop m).length ≤ 2000 := by rw [List.length_drop]; omega
            have ka1 := add_bs (P := Tryz.prog) S (d.take m) (by omega)
            have ka2 : ∀ w, (Op.stringOp .add (bsOf (S ++ d.take m)) ⟨#[46]⟩).run Tryz.prog w = .ok (.string (bsOf (S ++ (d.take m ++ [46])))) w := by
              have h9 := add_bs (P := Tryz.prog) (S ++ d.take m) [46] (by rw [List.length_append]; simp; omega)
              rw [List.append_assoc] at h9; exact h9
            have ka3 : ∀ w, (Op.stringOp .add (bsOf (S ++ (d.take m ++ [46]))) (bsOf (d.drop m))).run Tryz.prog w = .ok (.string (bsOf (S ++ (d.take m ++ 46 :: d.drop m)))) w := by
              have h9 := add_bs (P := Tryz.prog) (S ++ (d.take m ++ [46])) (d.drop m) (by rw [List.length_append, List.length_append]; simp; omega)
              rw [List.append_assoc, List.append_assoc] at h9; exact h9
            have wq : IntKind.i64.wrap (p + 1) = (m : Int) := by rw [IntWalk.i64_in _ (by omega)]; exact hm.symm
            clear ho hm t1 t2 HT2
            go_upto_region 22 with fail
            refine wp_region_grow 13 [76, 77, 78, 79, 80, 81, 82, 83, 84, 85, 86, 87, 2] [Fact.is (.string (bsOf S)), Fact.is (.string (bsOf d)), Fact.is (.int .i64 p), Fact.is (.int .i64 (m : Int)), Fact.is (.string (bsOf (d.take m))), Fact.is (.string (bsOf (S ++ d.take m))), Fact.is (.string (bsOf (S ++ (d.take m ++ [46])))), Fact.is (.string (bsOf d)), Fact.is (.int .i64 p), Fact.is (.int .i64 (m : Int)), Fact.is (.string (bsOf (d.drop m))), Fact.is (.string (bsOf (S ++ (d.take m ++ 46 :: d.drop m)))), Fact.is (.string (bsOf (S ++ (d.take m ++ 46 :: d.drop m))))] (by kernel_rfl) (by kernel_rfl) ⟨?o0, ?o1, ?o2, ?o3, ?o4, ?o5, ?o6, ?o7, ?o8, ?o9, ?o10, ?o11, ?o12, trivial⟩ ?after
            case o0 => (refine StepOK.plain rfl ?_; intro ρ w1 R hρ hb hp hR; have e3 : ρ (.tmp 3) = .string (bsOf S) := hρ.tmp 3 rfl; have hcon := hρ.con; have hfn := hρ.fn; clear hρ hp; unfold OpRun; go_simp; exact hR _ _ (Below.refl _ _) rfl)
            case o1 => (refine StepOK.plain rfl ?_; intro ρ w1 R hρ hb hp hR; have e4 : ρ (.tmp 4) = .string (bsOf d) := hρ.tmp 4 rfl; have hcon := hρ.con; have hfn := hρ.fn; clear hρ hp; unfold OpRun; go_simp; exact hR _ _ (Below.refl _ _) rfl)
            case o2 => (refine StepOK.plain rfl ?_; intro ρ w1 R hρ hb hp hR; have e8 : ρ (.tmp 8) = .int .i64 p := hρ.tmp 8 rfl; have hcon := hρ.con; have hfn := hρ.fn; clear hρ hp; unfold OpRun; go_simp; exact hR _ _ (Below.refl _ _) rfl)
            case o3 => (refine StepOK.plain rfl ?_; intro ρ w1 R hρ hb hp hR; have e78 : ρ (.tmp 78) = _ := hp 2 78 rfl rfl; have hcon := hρ.con; have hfn := hρ.fn; clear hρ hp; unfold OpRun; go_simp; exact hR _ _ (Below.refl _ _) rfl)
            case o4 => (refine StepOK.plain rfl ?_; intro ρ w1 R hρ hb hp hR; have e77 : ρ (.tmp 77) = _ := hp 1 77 rfl rfl; have e79 : ρ (.tmp 79) = _ := hp 3 79 rfl rfl; have hcon := hρ.con; have hfn := hρ.fn; clear hρ hp; unfold OpRun; go_simp; exact hR _ _ (Below.refl _ _) rfl)
            case o5 => (refine StepOK.plain rfl ?_; intro ρ w1 R hρ hb hp hR; have e76 : ρ (.tmp 76) = _ := hp 0 76 rfl rfl; have e80 : ρ (.tmp 80) = _ := hp 4 80 rfl rfl; have hcon := hρ.con; have hfn := hρ.fn; clear hρ hp; unfold OpRun; go_simp; exact hR _ _ (Below.refl _ _) rfl)
            case o6 => (refine StepOK.plain rfl ?_; intro ρ w1 R hρ hb hp hR; have e81 : ρ (.tmp 81) = _ := hp 5 81 rfl rfl; have hcon := hρ.con; have hfn := hρ.fn; clear hρ hp; unfold OpRun; go_simp; exact hR _ _ (Below.refl _ _) rfl)
            case o7 => (refine StepOK.plain rfl ?_; intro ρ w1 R hρ hb hp hR; have e4 : ρ (.tmp 4) = .string (bsOf d) := hρ.tmp 4 rfl; have hcon := hρ.con; have hfn := hρ.fn; clear hρ hp; unfold OpRun; go_simp; exact hR _ _ (Below.refl _ _) rfl)
            case o8 => (refine StepOK.plain rfl ?_; intro ρ w1 R hρ hb hp hR; have e8 : ρ (.tmp 8) = .int .i64 p := hρ.tmp 8 rfl; have hcon := hρ.con; have hfn := hρ.fn; clear hρ hp; unfold OpRun; go_simp; exact hR _ _ (Below.refl _ _) rfl)
            case o9 => (refine StepOK.plain rfl ?_; intro ρ w1 R hρ hb hp hR; have e84 : ρ (.tmp 84) = _ := hp 8 84 rfl rfl; have hcon := hρ.con; have hfn := hρ.fn; clear hρ hp; unfold OpRun; go_simp; exact hR _ _ (Below.refl _ _) rfl)
            case o10 => (refine StepOK.plain rfl ?_; intro ρ w1 R hρ hb hp hR; have e83 : ρ (.tmp 83) = _ := hp 7 83 rfl rfl; have e85 : ρ (.tmp 85) = _ := hp 9 85 rfl rfl; have hcon := hρ.con; have hfn := hρ.fn; clear hρ hp; unfold OpRun; go_simp; exact hR _ _ (Below.refl _ _) rfl)
            case o11 => (refine StepOK.plain rfl ?_; intro ρ w1 R hρ hb hp hR; have e82 : ρ (.tmp 82) = _ := hp 6 82 rfl rfl; have e86 : ρ (.tmp 86) = _ := hp 10 86 rfl rfl; have hcon := hρ.con; have hfn := hρ.fn; clear hρ hp; unfold OpRun; go_simp; exact hR _ _ (Below.refl _ _) rfl)
            case o12 => (refine StepOK.plain rfl ?_; intro ρ w1 R hρ hb hp hR; have e87 : ρ (.tmp 87) = _ := hp 11 87 rfl rfl; have hcon := hρ.con; have hfn := hρ.fn; clear hρ hp; unfold OpRun; go_simp; exact hR _ _ (Below.refl _ _) rfl)
            case after =>
              intro u wn hb hf
              have e2 : u 2 = _ := hf 12 2 (by omega) rfl
              clear hf
              simp only [putAll, Act.put, List.setIfInBounds_toArray, List.set_cons_zero, List.set_cons_succ, List.drop_succ_cons, List.drop_zero, List.drop_nil]
              rw [e2]
              go_wp2_with fail
              go_ret
              exact ⟨by rw [HR.out]; rfl, below_trans yb2 hb⟩
          · obtain ⟨J, hJ⟩ : ∃ J : Nat, (J : Int) = -p - 1 := ⟨(-p - 1).toNat, by omega⟩
            have HR := hid (show S ++ shT d k = S ++ 48 :: 46 :: (List.replicate J 48 ++ d) by
              unfold shT
              rw [← HP.out, if_neg ho, if_neg hk0, if_neg hp0, show (-(k + (d.length : Int))).toNat = J by have := HP.out; omega])
            have RE := hid (fun w => repeat_any 48 J (by omega) w)
            have b48 : (ByteArray.mk #[48]) = bsOf [48] := rfl
            have ka1 : ∀ w, (Op.stringOp .add (bsOf S) ⟨#[48, 46]⟩).run Tryz.prog w = .ok (.string (bsOf (S ++ [48, 46]))) w := add_bs (P := Tryz.prog) S [48, 46] (by simp; omega)
            have ka2 : ∀ w, (Op.stringOp .add (bsOf (S ++ [48, 46])) (bsOf (List.replicate J 48))).run Tryz.prog w = .ok (.string (bsOf (S ++ 48 :: 46 :: List.replicate J 48))) w := by
              have h9 := add_bs (P := Tryz.prog) (S ++ [48, 46]) (List.replicate J 48) (by rw [List.length_append, List.length_replicate]; simp; omega)
              rwa [List.append_assoc] at h9
            have ka3 : ∀ w, (Op.stringOp .add (bsOf (S ++ 48 :: 46 :: List.replicate J 48)) (bsOf d)).run Tryz.prog w = .ok (.string (bsOf (S ++ 48 :: 46 :: (List.replicate J 48 ++ d)))) w := by
              have h9 := add_bs (P := Tryz.prog) (S ++ 48 :: 46 :: List.replicate J 48) d (by rw [List.length_append, List.length_cons, List.length_cons, List.length_replicate]; omega)
              rwa [List.append_assoc] at h9
            have wp1 : IntKind.i64.wrap (-p) = -p := IntWalk.i64_in _ (by omega)
            have wp2 : IntKind.i64.wrap (-p - 1) = (J : Int) := by rw [IntWalk.i64_in _ (by omega)]; exact hJ.symm
            clear ho hJ
            go_wp2_with (go_at_call 141; (with_reducible refine (RE.out _).mono ?_); rintro en w5 ⟨rfl, hb5⟩)
            go_ret
            exact ⟨by rw [HR.out]; rfl, below_trans yb2 hb5⟩
end Go.Proofs.YthaelmnblgollaaGreatDoor

set_option linter.unusedVariables false
set_option linter.unusedSimpArgs false
namespace Go.Proofs.YthaelmnblgollaaGreatDoor
open Go.RowKit Go.Ulp
set_option linter.unusedVariables false
set_option linter.unusedSimpArgs false
set_option maxHeartbeats 2000000
set_option maxRecDepth 100000
theorem rShText_nan (x : Int) (h0 : 0 ≤ x) (h1 : x < 18446744073709551616) (hc : classOf x = 5) (w : World) :
    Calls Tryz.prog 53 #[.int .u64 x] w fun e w' => e = .returned (.string (bsOf [110, 97, 110])) ∧ Below w.heap.size w w' := by
  have NA := hid (fun w => rIsNan_any x h0 h1 w)
  have IN := hid (fun w => rIsInf_any x h0 h1 w)
  have ZE := hid (fun w => rIsZero_any x h0 h1 w)
  unfold isNan at NA
  unfold isInf at IN
  unfold isZer at ZE
  rw [hc] at NA
  rw [show ((5 : Int) == 5) = true from rfl] at NA
  go_enter Tryz.func53, Tryz.ntmps53
  go_wp2_with ((go_at_call 95; (with_reducible refine (NA.out _).mono ?_); rintro en w1 ⟨rfl, rfl⟩))
  go_ret
  exact ⟨rfl, Below.refl _ _⟩
theorem rShText_inf (x : Int) (h0 : 0 ≤ x) (h1 : x < 18446744073709551616) (hc : classOf x = 4) (w : World) :
    Calls Tryz.prog 53 #[.int .u64 x] w fun e w' => e = .returned (.string (bsOf (dsh (negB x) [105, 110, 102]))) ∧ Below w.heap.size w w' := by
  have NA := hid (fun w => rIsNan_any x h0 h1 w)
  have IN := hid (fun w => rIsInf_any x h0 h1 w)
  have ZE := hid (fun w => rIsZero_any x h0 h1 w)
  unfold isNan at NA
  unfold isInf at IN
  unfold isZer at ZE
  rw [hc] at NA IN
  rw [show ((4 : Int) == 5) = false from rfl] at NA
  rw [show ((4 : Int) == 4) = true from rfl] at IN
  have D1 := hid (fun w => dashed_any [105, 110, 102] x h0 h1 (by decide) w)
  have b1 : (ByteArray.mk #[105, 110, 102]) = bsOf [105, 110, 102] := rfl
  generalize dsh (negB x) [105, 110, 102] = T at *
  go_enter Tryz.func53, Tryz.ntmps53
  go_wp2_with (first | (go_at_call 95; (with_reducible refine (NA.out _).mono ?_); rintro en w1 ⟨rfl, rfl⟩) | (go_at_call 98; (with_reducible refine (IN.out _).mono ?_); rintro en w1 ⟨rfl, rfl⟩) | (go_at_call 142; (with_reducible refine (D1.out _).mono ?_); rintro en w1 ⟨rfl, rfl⟩))
  go_ret
  exact ⟨rfl, Below.refl _ _⟩
theorem rShText_zero (x : Int) (h0 : 0 ≤ x) (h1 : x < 18446744073709551616) (hc : classOf x = 1) (w : World) :
    Calls Tryz.prog 53 #[.int .u64 x] w fun e w' => e = .returned (.string (bsOf (dsh (negB x) [48]))) ∧ Below w.heap.size w w' := by
  have NA := hid (fun w => rIsNan_any x h0 h1 w)
  have IN := hid (fun w => rIsInf_any x h0 h1 w)
  have ZE := hid (fun w => rIsZero_any x h0 h1 w)
  unfold isNan at NA
  unfold isInf at IN
  unfold isZer at ZE
  rw [hc] at NA IN ZE
  rw [show ((1 : Int) == 5) = false from rfl] at NA
  rw [show ((1 : Int) == 4) = false from rfl] at IN
  rw [show ((1 : Int) == 1) = true from rfl] at ZE
  have D1 := hid (fun w => dashed_any [48] x h0 h1 (by decide) w)
  have b1 : (ByteArray.mk #[48]) = bsOf [48] := rfl
  generalize dsh (negB x) [48] = T at *
  go_enter Tryz.func53, Tryz.ntmps53
  go_wp2_with (first | (go_at_call 95; (with_reducible refine (NA.out _).mono ?_); rintro en w1 ⟨rfl, rfl⟩) | (go_at_call 98; (with_reducible refine (IN.out _).mono ?_); rintro en w1 ⟨rfl, rfl⟩) | (go_at_call 54; (with_reducible refine (ZE.out _).mono ?_); rintro en w1 ⟨rfl, rfl⟩) | (go_at_call 142; (with_reducible refine (D1.out _).mono ?_); rintro en w1 ⟨rfl, rfl⟩))
  go_ret
  exact ⟨rfl, Below.refl _ _⟩
theorem rShText_val (x : Int) (h0 : 0 ≤ x) (h1 : x < 18446744073709551616) (c5 : classOf x ≠ 5) (c4 : classOf x ≠ 4) (c1 : classOf x ≠ 1) (d : List UInt8) (k : Int) (hd : 1 ≤ d.length ∧ d.length ≤ 2000) (hdg : AllDg d) (hdd : decD (dvl d) = d) (hk : -3000 ≤ k ∧ k ≤ 3000)
    (SR : ∀ w, Calls Tryz.prog 55 #[.int .u64 (x % 9223372036854775808)] w fun e w' => e = .returned (.tuple #[.string (bsOf d), .int .i64 k]) ∧ Below w.heap.size w w') (w : World) :
    Calls Tryz.prog 53 #[.int .u64 x] w fun e w' => e = .returned (.string (bsOf (dsh (negB x) (shT d k)))) ∧ Below w.heap.size w w' := by
  have NA := hid (fun w => rIsNan_any x h0 h1 w)
  have IN := hid (fun w => rIsInf_any x h0 h1 w)
  have ZE := hid (fun w => rIsZero_any x h0 h1 w)
  unfold isNan at NA
  unfold isInf at IN
  unfold isZer at ZE
  rw [show (classOf x == 5) = false from beq_eq_false_iff_ne.2 c5] at NA
  rw [show (classOf x == 4) = false from beq_eq_false_iff_ne.2 c4] at IN
  rw [show (classOf x == 1) = false from beq_eq_false_iff_ne.2 c1] at ZE
  have SRR := hid SR
  obtain ⟨p, hp⟩ : ∃ p, p = k + (d.length : Int) - 1 := ⟨_, rfl⟩
  have HP := hid hp
  have hsz := bs_size d
  have wA : IntKind.i64.wrap (k + (d.length : Int)) = k + (d.length : Int) := IntWalk.i64_in _ (by omega)
  have wB : IntKind.i64.wrap (k + (d.length : Int) - 1) = p := by rw [IntWalk.i64_in _ (by omega)]; exact hp.symm
  have hpb : -4000 ≤ p ∧ p ≤ 6000 := by omega
  have BT := hid (fun w => between_any p (-5) 20 w)
  obtain ⟨T, hT⟩ : ∃ T, T = shT d k := ⟨_, rfl⟩
  have lT : T.length ≤ 1000000 := by
    rw [hT]; unfold shT
    have lp : (pwrT (k + (d.length : Int) - 1)).length ≤ 3000 := by
      rw [← hp]
      unfold pwrT
      have : (decD p.natAbs).length ≤ 100 := decD_len_lt _ 100 (by have h9 : 10 ^ 4 ≤ 10 ^ 100 := Nat.pow_le_pow_right (by omega) (by omega); omega) (by omega)
      simp only [List.length_cons, List.length_append]
      split <;> simp <;> omega
    split
    · simp only [List.length_append, List.length_cons, List.length_take]
      split
      · simp only [List.length_cons, List.length_drop]; omega
      · simp only [List.length_nil]; omega
    · split
      · rw [List.length_append, List.length_replicate]; omega
      · split
        · simp only [List.length_append, List.length_cons, List.length_take, List.length_drop]; omega
        · simp only [List.length_append, List.length_cons, List.length_replicate]; omega
  have DA := hid (fun w => dashed_any T x h0 h1 (by omega) w)
  have HT := hid hT
  rw [← hT]
  clear SR c5 c4 c1 hp hT lT
  generalize dsh (negB x) T = TT at *
  have wM : x % 9223372036854775808 = x % 9223372036854775808 := rfl
  go_enter Tryz.func53, Tryz.ntmps53
  go_upto_region 9 with (first | (go_at_call 95; (with_reducible refine (NA.out _).mono ?_); rintro en w1 ⟨rfl, rfl⟩) | (go_at_call 98; (with_reducible refine (IN.out _).mono ?_); rintro en w1 ⟨rfl, rfl⟩) | (go_at_call 54; (with_reducible refine (ZE.out _).mono ?_); rintro en w1 ⟨rfl, rfl⟩) | (go_at_call 55; (with_reducible refine (SRR.out _).mono ?_); rintro en w2 ⟨rfl, hb2⟩))
  have yb2 := hb2
  clear hb2 SRR NA IN ZE h0 h1
  obtain ⟨W2, hW2⟩ : ∃ W, W = w2 := ⟨_, rfl⟩
  subst hW2
  by_cases ho : p < -5 ∨ 20 < p
  · rw [decide_eq_false (show ¬ (-5 ≤ p ∧ p ≤ 20) by omega)] at BT
    obtain ⟨N, hN⟩ : ∃ N, N = p.natAbs := ⟨_, rfl⟩
    obtain ⟨F1, hF1⟩ : ∃ F, F = d.take 1 ++ (if 1 < d.length then 46 :: d.tail else []) := ⟨_, rfl⟩
    obtain ⟨sg, hsg⟩ : ∃ g : UInt8, g = if p < 0 then 45 else 43 := ⟨_, rfl⟩
    obtain ⟨G2, hG2⟩ : ∃ G, G = F1 ++ [101, sg] := ⟨_, rfl⟩
    obtain ⟨G3, hG3⟩ : ∃ G, G = G2 ++ (if N < 10 then [48] else []) := ⟨_, rfl⟩
    have HR := hid (show G3 ++ decD N = T by
      rw [HT.out]
      unfold shT pwrT
      rw [← HP.out, if_pos ho, List.drop_one, ← hN, ← hsg, hG3, hG2, hF1]
      simp)
    have DI := hid (fun w => digits_any 10 N (by have h9 : (10 : Nat) ^ 4 ≤ 10 ^ (10 + 1) := Nat.pow_le_pow_right (by omega) (by omega); omega) (by omega) w)
    have s1 := slice_to (P := Tryz.prog) Tryz.underlying9 d 1 (by omega) (by omega)
    rw [show (1 : Int).toNat = 1 from rfl] at s1
    have s2 := slice_from (P := Tryz.prog) Tryz.underlying9 d 1 (by omega) (by omega)
    rw [show (1 : Int).toNat = 1 from rfl, List.drop_one] at s2
    have l1 : (d.take 1).length ≤ 1 := by rw [List.length_take]; omega
    have l2 : d.tail.length ≤ 2000 := by rw [List.length_tail]; omega
    have lF : F1.length ≤ 3000 := by
      rw [hF1, List.length_append]
      split
      · rw [List.length_cons]; omega
      · simp; omega
    have lG2 : G2.length ≤ 3002 := by rw [hG2, List.length_append]; simp; omega
    have lG3 : G3.length ≤ 3003 := by
      rw [hG3, List.length_append]; split
      · simp; omega
      · simp; omega
    have lD : (decD N).length ≤ 100 := decD_len_lt _ 100 (by have h9 : 10 ^ 4 ≤ 10 ^ 100 := Nat.pow_le_pow_right (by omega) (by omega); omega) (by omega)
    have ka2 : ∀ w, (Op.stringOp .add ⟨#[46]⟩ (bsOf d.tail)).run Tryz.prog w = .ok (.string (bsOf (46 :: d.tail))) w := add_bs (P := Tryz.prog) [46] d.tail (by simp; omega)
    have ka3 := add_bs (P := Tryz.prog) (d.take 1) (46 :: d.tail) (by rw [List.length_cons]; omega)
    have ka4 : ∀ w, (Op.stringOp .add (bsOf F1) ⟨#[101, 45]⟩).run Tryz.prog w = .ok (.string (bsOf (F1 ++ [101, 45]))) w := add_bs (P := Tryz.prog) F1 [101, 45] (by simp; omega)
    have ka5 : ∀ w, (Op.stringOp .add (bsOf F1) ⟨#[101, 43]⟩).run Tryz.prog w = .ok (.string (bsOf (F1 ++ [101, 43]))) w := add_bs (P := Tryz.prog) F1 [101, 43] (by simp; omega)
    have ka6 : ∀ w, (Op.stringOp .add (bsOf G2) ⟨#[48]⟩).run Tryz.prog w = .ok (.string (bsOf (G2 ++ [48]))) w := add_bs (P := Tryz.prog) G2 [48] (by simp; omega)
    have ka7 := add_bs (P := Tryz.prog) G3 (decD N) (by omega)
    have HF1 := hid hF1
    have HSG := hid hsg
    have HG2 := hid hG2
    have HG3 := hid hG3
    have HN := hid hN
    have HO := hid ho
    have wN : IntKind.i64.wrap (-p) = -p := IntWalk.i64_in _ (by omega)
    clear hF1 hsg hG2 hG3 hN ho l1 l2 lF lG2 lG3 lD
    go_upto_if 45 with (go_at_call 40; (with_reducible refine (BT.out _).mono ?_); rintro en w3 ⟨rfl, rfl⟩)
    go_cut [6] (fun s6 wx => s6 = .string (bsOf F1) ∧ wx = W2)
    case first => as_aux_lemma =>
      by_cases hn : 1 < d.length
      · have hn2 : (1 : Int) < (d.length : Int) := by omega
        have H5 := hid (show d.take 1 ++ 46 :: d.tail = F1 by rw [HF1.out, if_pos hn])
        clear HF1 hn
        go_wp2_with fail
        go_meet
        exact ⟨by rw [H5.out], rfl⟩
      · have hn2 : ¬ (1 : Int) < (d.length : Int) := by omega
        have H5 := hid (show d.take 1 = F1 by rw [HF1.out, if_neg hn, List.append_nil])
        clear HF1 hn
        go_wp2_with fail
        go_meet
        exact ⟨by rw [H5.out], rfl⟩
    case rest =>
      obtain ⟨rfl, hwc⟩ := hcut
      subst hwc
      clear HF1
      go_upto_if 53 with fail
      go_cut [6, 7] (fun s6 s7 wx => s6 = .string (bsOf G2) ∧ s7 = .int .i64 (N : Int) ∧ wx = wc)
      case first => as_aux_lemma =>
        by_cases hn : p < 0
        · have H5 := hid (show F1 ++ [101, 45] = G2 by rw [HG2.out, HSG.out, if_pos hn])
          have H6 := hid (show -p = (N : Int) by rw [HN.out]; omega)
          clear HG2 HSG HN
          go_wp2_with fail
          go_meet
          exact ⟨by rw [H5.out], by rw [H6.out], rfl⟩
        · have H5 := hid (show F1 ++ [101, 43] = G2 by rw [HG2.out, HSG.out, if_neg hn])
          have H6 := hid (show p = (N : Int) by rw [HN.out]; omega)
          clear HG2 HSG HN
          go_wp2_with fail
          go_meet
          exact ⟨by rw [H5.out], by rw [← H6.out], rfl⟩
      case rest =>
        obtain ⟨rfl, rfl, hwc⟩ := hcut
        subst hwc
        go_upto_if 61 with fail
        go_cut [6] (fun s6 wx => s6 = .string (bsOf G3) ∧ wx = wc)
        case first => as_aux_lemma =>
          by_cases hn : N < 10
          · have hn2 : (N : Int) < 10 := by omega
            have H5 := hid (show G2 ++ [48] = G3 by rw [HG3.out, if_pos hn])
            clear HG3 hn
            go_wp2_with fail
            go_meet
            exact ⟨by rw [H5.out], rfl⟩
          · have hn2 : ¬ (N : Int) < 10 := by omega
            have H5 := hid (show G2 = G3 by rw [HG3.out, if_neg hn, List.append_nil])
            clear HG3 hn
            go_wp2_with fail
            go_meet
            exact ⟨by rw [H5.out], rfl⟩
        case rest =>
          obtain ⟨rfl, hwc⟩ := hcut
          subst hwc
          rw [HR.out] at ka7
          go_wp2_with (first | (go_at_call 143; (with_reducible refine (DI.out _).mono ?_); rintro en w4 ⟨rfl, rfl⟩) | (go_at_call 142; (with_reducible refine (DA.out _).mono ?_); rintro en w4 ⟨rfl, rfl⟩))
          go_ret
          exact ⟨rfl, yb2⟩
  · rw [decide_eq_true (show (-5 ≤ p ∧ p ≤ 20) by omega)] at BT
    by_cases hk0 : 0 ≤ k
    · obtain ⟨K, hK⟩ := Int.eq_ofNat_of_zero_le hk0
      have HR := hid (show d ++ List.replicate K 48 = T by
        rw [HT.out]; unfold shT
        rw [← HP.out, if_neg ho, if_pos hk0, show k.toNat = K by omega])
      have hKb : K ≤ 3000 := by omega
      subst hK
      clear ho hk0 hdd
      go_wp2_with (go_at_call 40; (with_reducible refine (BT.out _).mono ?_); rintro en w3 ⟨rfl, rfl⟩)
      go_loopw [6, 73] (fun s6 s73 wr => ∃ i : Nat, s73 = .int .i64 (i : Int) ∧ s6 = .string (bsOf (d ++ List.replicate i 48)) ∧ i ≤ K ∧ wr = W2) (fun _ s73 _ => K - (intOf s73).toNat)
      case atStart => exact ⟨0, rfl, by rw [List.replicate_zero, List.append_nil], by omega, rfl⟩
      case round =>
        obtain ⟨i, rfl, rfl, hi, rfl⟩ := hrel
        have wI : IntKind.i64.wrap ((i : Int) + 1) = (i : Int) + 1 := IntWalk.i64_in _ (by omega)
        by_cases hi2 : i < K
        · have hi3 : (i : Int) < (K : Int) := by omega
          have ka : ∀ w, (Op.stringOp .add (bsOf (d ++ List.replicate i 48)) ⟨#[48]⟩).run Tryz.prog w = .ok (.string (bsOf (d ++ List.replicate (i + 1) 48))) w := by
            have h9 := add_bs (P := Tryz.prog) (d ++ List.replicate i 48) [48] (by rw [List.length_append, List.length_replicate]; simp; omega)
            rw [List.append_assoc, ← List.replicate_succ'] at h9; exact h9
          go_wp2_with fail
          go_roundw
          case rel => exact ⟨i + 1, by go_num, rfl, by omega, by first | rfl | trivial⟩
          case measure => simp [intOf]; omega
        · have hi3 : ¬ (i : Int) < (K : Int) := by omega
          have hiK : i = K := by omega
          subst hiK
          rw [HR.out]
          go_wp2_with (go_at_call 142; (with_reducible refine (DA.out _).mono ?_); rintro en w6 ⟨rfl, rfl⟩)
          go_ret
          exact ⟨rfl, yb2⟩
    · obtain ⟨J, hJ⟩ : ∃ J : Nat, J = (-k).toNat := ⟨_, rfl⟩
      have hJk : -k = (J : Int) := by omega
      have HR := hid (show ptd d J = T by rw [HT.out, hJ]; exact ptd_text d k (by omega) (by rw [← HP.out]; exact ho))
      have ZG := hid (fun w => zDigits_any d w hdg hd.2)
      have PO := hid (fun v w h => by
        have h9 := pointed_any v (dvl d) J w h (by
          have h8 := dvl_lt d hdg
          obtain ⟨E, hE⟩ : ∃ E : Nat, E = 2000 := ⟨_, rfl⟩
          have h7 : dvl d ≤ 10 ^ E := Nat.le_trans (Nat.le_of_lt h8) (Nat.pow_le_pow_right (by omega) (by omega))
          exact Nat.le_trans (zl_ten_le h7) (by omega)) (by omega)
        rwa [hdd, HR.out] at h9)
      have wN : IntKind.i64.wrap (-k) = (J : Int) := by rw [IntWalk.i64_in _ (by omega)]; exact hJk
      clear hJ hJk ho hdd
      go_wp2_with (first | (go_at_call 40; (with_reducible refine (BT.out _).mono ?_); rintro en w3 ⟨rfl, rfl⟩) | (go_at_call 111; (with_reducible refine (ZG.out _).mono ?_); rintro en w4 ⟨v4, rfl, hz4, hb4⟩) | (go_at_call 144; (with_reducible refine (PO.out _ _ hz4).mono ?_); rintro en w5 ⟨rfl, hb5⟩) | (go_at_call 142; (with_reducible refine (DA.out _).mono ?_); rintro en w6 ⟨rfl, rfl⟩))
      go_ret
      exact ⟨rfl, below_trans (below_trans yb2 hb4) hb5⟩
end Go.Proofs.YthaelmnblgollaaGreatDoor

set_option linter.unusedVariables false
set_option linter.unusedSimpArgs false
namespace Go.Ulp
open Go.RowKit
theorem ten_big (n : Nat) : 2 ^ (33 * n) ≤ 10 ^ (10 * n) := by
  rw [Nat.pow_mul, Nat.pow_mul 10 10 n]; exact Nat.pow_le_pow_left (by decide) n
/-- the decade of a number -/
theorem dec_rank (E f : Nat) (hf : f < 4503599627370496) (hE : E < 2047) (hr : 1 ≤ E * 4503599627370496 + f) :
    ∃ pd : Int, IsDec (dA (rkD ((E * 4503599627370496 + f : Nat) : Int))) (dB (rkD ((E * 4503599627370496 + f : Nat) : Int))) pd ∧ -330 ≤ pd ∧ pd ≤ 320 := by
  obtain ⟨r, hr2⟩ : ∃ r, r = E * 4503599627370496 + f := ⟨_, rfl⟩
  rw [← hr2]
  have hv := (val_parts E f hf).2
  rw [← hr2] at hv
  have h1 := (rvi_lm E f hf).1
  rw [← hr2] at h1
  unfold IsVal at hv
  rw [← h1] at hv
  have hDb : -1074 ≤ (rkD (r : Int)).2 := by
    rw [← rkD_fv (r : Int) (by omega) (by omega)]; exact (fv_bd (r : Int) (by omega) (by omega)).2.2.1
  have hb0 := dB_pos (rkD (r : Int))
  obtain ⟨K, hK⟩ : ∃ K : Nat, K = 1074 := ⟨_, rfl⟩
  have hbK : dB (rkD (r : Int)) ≤ 2 ^ K := by
    unfold dB; exact Nat.pow_le_pow_right (by omega) (by omega)
  rw [← hK] at hv
  obtain ⟨F, hF, hF2⟩ := rvi_tv
  have hlt : rvi r < 2 ^ F := by rw [← hF2]; exact rvi_mono (by omega)
  have hpos : 0 < rvi r := by have := rvi_mono (m := 0) (n := r) (by omega); omega
  generalize dA (rkD (r : Int)) = a at *
  generalize dB (rkD (r : Int)) = b at *
  have ha0 : 0 < a := by
    rcases Nat.eq_zero_or_pos a with h | h
    · rw [h, Nat.zero_mul] at hv
      have := Nat.mul_pos hpos hb0
      omega
    · exact h
  obtain ⟨M, hM⟩ : ∃ M : Nat, M = F - K := ⟨_, rfl⟩
  have hup : a < 2 ^ M * b := by
    have h2 : a * 2 ^ K < 2 ^ F * b := by rw [hv]; exact Nat.mul_lt_mul_of_pos_right hlt hb0
    rw [show F = M + K by omega, Nat.pow_add, Nat.mul_right_comm] at h2
    exact Nat.lt_of_mul_lt_mul_right h2
  obtain ⟨N, hN⟩ : ∃ N : Nat, N = M + K + 1 := ⟨_, rfl⟩
  have haN : a < 2 ^ N := by
    refine Nat.lt_of_lt_of_le hup ?_
    rw [hN, Nat.add_assoc, Nat.pow_add]
    exact Nat.mul_le_mul_left _ (Nat.le_trans hbK (Nat.pow_le_pow_right (by omega) (by omega)))
  have hbN : b < 2 ^ N := Nat.lt_of_le_of_lt hbK (Nat.pow_lt_pow_right (by omega) (by omega))
  obtain ⟨pd, k1, k2, k3⟩ := dec_exists a b N ha0 hb0 haN hbN
  refine ⟨pd, k1, ?_, ?_⟩
  · rcases Int.lt_or_le pd (-330) with h | h
    · exfalso
      have h3 := k1.2
      unfold lessT at h3
      have h3 := of_decide_eq_true h3
      obtain ⟨J, hJ⟩ : ∃ J : Nat, J = (-(pd + 1)).toNat := ⟨_, rfl⟩
      unfold tnN at h3
      rw [← hJ, show (pd + 1).toNat = 0 by omega, Nat.pow_zero, Nat.mul_one] at h3
      obtain ⟨q, hq⟩ : ∃ q : Nat, q = 33 := ⟨_, rfl⟩
      have h4 : 10 ^ (10 * q) ≤ 10 ^ J := Nat.pow_le_pow_right (by omega) (by omega)
      have h5 := ten_big q
      have h6 : 2 ^ K ≤ 2 ^ (33 * q) := Nat.pow_le_pow_right (by omega) (by omega)
      have h7 : 1 * 10 ^ J ≤ a * 10 ^ J := Nat.mul_le_mul_right _ ha0
      omega
    · exact h
  · rcases Int.lt_or_le 320 pd with h | h
    · exfalso
      have h3 := k1.1
      unfold lessT at h3
      have h3 := of_decide_eq_false h3
      obtain ⟨J, hJ⟩ : ∃ J : Nat, J = pd.toNat := ⟨_, rfl⟩
      unfold tnN at h3
      rw [← hJ, show (-pd).toNat = 0 by omega, Nat.pow_zero, Nat.mul_one] at h3
      obtain ⟨q, hq⟩ : ∃ q : Nat, q = 32 := ⟨_, rfl⟩
      have h4 : 10 ^ (10 * q) ≤ 10 ^ J := Nat.pow_le_pow_right (by omega) (by omega)
      have h5 := ten_big q
      have h6 : 2 ^ M ≤ 2 ^ (33 * q) := Nat.pow_le_pow_right (by omega) (by omega)
      have h7 : 2 ^ M * b ≤ 10 ^ J * b := Nat.mul_le_mul_right _ (by omega)
      rw [Nat.mul_comm (10 ^ J)] at h7
      omega
    · exact h
/-- the first number of digits that will do -/
theorem sh_first (D : Dy) (E f : Nat) (pd : Int) (K : Nat) (h : shS D E f K pd = true) : ∃ k, k ≤ K ∧ (∀ j, j < k → shS D E f j pd = false) ∧ shS D E f k pd = true := by
  induction K using Nat.strongRecOn with
  | ind K ih =>
    by_cases h1 : ∃ j, j < K ∧ shS D E f j pd = true
    · obtain ⟨j, h2, h3⟩ := h1
      obtain ⟨k, h4, h5⟩ := ih j h2 h3
      exact ⟨k, by omega, h5⟩
    · refine ⟨K, Nat.le_refl _, fun j hj => ?_, h⟩
      cases h2 : shS D E f j pd
      · rfl
      · exact absurd ⟨j, hj, h2⟩ h1
theorem sh_uniq {D : Dy} {E f : Nat} {pd : Int} {k l : Nat} (h1 : ∀ j, j < k → shS D E f j pd = false) (h2 : shS D E f k pd = true) (h3 : ∀ j, j < l → shS D E f j pd = false) (h4 : shS D E f l pd = true) : k = l := by
  rcases Nat.lt_trichotomy k l with h | h | h
  · have := h3 k h; rw [h2] at this; cases this
  · exact h
  · have := h1 l h; rw [h4] at this; cases this
end Go.Ulp
namespace Go.Proofs.YthaelmnblgollaaGreatDoor
open Go.RowKit Go.Ulp
set_option linter.unusedVariables false
set_option linter.unusedSimpArgs false
set_option maxHeartbeats 2000000
set_option maxRecDepth 100000
theorem short_bad (x : Int) (h0 : 0 ≤ x) (h1 : x < 18446744073709551616) (hv : hasVal x = false) (L : List UInt8) (w : World)
    (ST0 : ∀ w, Calls Tryz.prog 52 #[.int .u64 x] w fun e w' => e = .returned (.string (bsOf L)) ∧ Below w.heap.size w w')
    (SR0 : ∀ w, Calls Tryz.prog 53 #[.int .u64 x] w fun e w' => e = .returned (.string (bsOf L)) ∧ Below w.heap.size w w') :
    Calls Tryz.prog 7 #[.int .u64 x] w fun e w' => e = .returned (.bool true) ∧ Below w.heap.size w w' := by
  have SD := hid (fun w => shDigits_none x h0 h1 hv w)
  have ST := hid ST0
  have SR := hid SR0
  have HV := hid (fun w => rHasValue_any x h0 h1 w)
  rw [hv] at HV
  clear ST0 SR0 hv
  generalize bsOf L = Q at *
  go_enter Tryz.func7, Tryz.ntmps7
  go_wp2_with (first | (go_at_call 51; (with_reducible refine (SD.out _).mono ?_); rintro en w1 ⟨rfl, rfl⟩) | (go_at_call 52; (with_reducible refine (ST.out _).mono ?_); rintro en w2 ⟨rfl, hb2⟩) | (go_at_call 53; (with_reducible refine (SR.out _).mono ?_); rintro en w3 ⟨rfl, hb3⟩) | (go_at_call 19; (with_reducible refine (HV.out _).mono ?_); rintro en w4 ⟨rfl, rfl⟩))
  go_ret
  exact ⟨rfl, below_trans hb2 hb3⟩
theorem short_zero (x : Int) (h0 : 0 ≤ x) (h1 : x < 18446744073709551616) (hv : hasVal x = true) (hc : classOf x = 1) (w : World) :
    Calls Tryz.prog 7 #[.int .u64 x] w fun e w' => e = .returned (.bool true) ∧ Below w.heap.size w w' := by
  have SD := hid (fun w => shDigits_zero x h0 h1 hv hc w)
  have ST := hid (fun w => shText_zero x h0 h1 hc w)
  have SR := hid (fun w => rShText_zero x h0 h1 hc w)
  have HV := hid (fun w => rHasValue_any x h0 h1 w)
  have ZE := hid (fun w => rIsZero_any x h0 h1 w)
  rw [hv] at HV
  rw [show isZer x = true by unfold isZer; rw [hc]; rfl] at ZE
  clear hv hc
  generalize dsh (negB x) [48] = L at *
  go_enter Tryz.func7, Tryz.ntmps7
  go_wp2_with (first | (go_at_call 51; (with_reducible refine (SD.out _).mono ?_); rintro en w1 ⟨rfl, rfl⟩) | (go_at_call 52; (with_reducible refine (ST.out _).mono ?_); rintro en w2 ⟨rfl, hb2⟩) | (go_at_call 53; (with_reducible refine (SR.out _).mono ?_); rintro en w3 ⟨rfl, hb3⟩) | (go_at_call 19; (with_reducible refine (HV.out _).mono ?_); rintro en w4 ⟨rfl, rfl⟩) | (go_at_call 54; (with_reducible refine (ZE.out _).mono ?_); rintro en w4 ⟨rfl, rfl⟩))
  go_ret
  exact ⟨rfl, below_trans hb2 hb3⟩
theorem short_val (x : Int) (h0 : 0 ≤ x) (h1 : x < 18446744073709551616) (hv : hasVal x = true) (hc : classOf x ≠ 1) (w : World) (hT : Tab 0 w) (hT10 : Tab10 w) :
    Calls Tryz.prog 7 #[.int .u64 x] w fun e w' => e = .returned (.bool true) ∧ Below w.heap.size w w' := by
  have hcl := hasVal_class x h0 h1
  rw [hv] at hcl
  have c4 : classOf x < 4 := by
    have : decide (4 ≤ classOf x) = false := by simpa using hcl.symm
    have := of_decide_eq_false this
    omega
  have heb := expOf_bd x
  have hfb := fracOf_bd x
  obtain ⟨E, hE⟩ := Int.eq_ofNat_of_zero_le heb.1
  obtain ⟨f, hf⟩ := Int.eq_ofNat_of_zero_le hfb.1
  have hE2 : E < 2047 := by
    unfold classOf at c4
    split at c4
    · split at c4 <;> omega
    · omega
  have hf2 : f < 4503599627370496 := by omega
  have hr : 1 ≤ E * 4503599627370496 + f := by
    rcases Nat.eq_zero_or_pos (E * 4503599627370496 + f) with h | h
    · exfalso; apply hc
      unfold classOf
      rw [if_neg (by omega), if_neg (by omega), if_neg (by omega)]
    · exact h
  have hxm : x % 9223372036854775808 = ((E * 4503599627370496 + f : Nat) : Int) := by
    unfold expOf at hE
    unfold fracOf at hf
    omega
  obtain ⟨pd, hp, hp1, hp2⟩ := dec_rank E f hf2 hE2 hr
  have vp := (val_parts E f hf2).2
  obtain ⟨X, hX⟩ : ∃ X : Int, X = ((E * 4503599627370496 + f : Nat) : Int) := ⟨_, rfl⟩
  have DG := fun w t t10 => shDigits_any x h0 h1 hv hc E f hE hf hr hE2 pd hp ⟨hp1, hp2⟩ w t t10
  have RG := fun w => rShDigits_any X E f hX hr hf2 hE2 pd (by rw [hX]; exact hp) ⟨hp1, hp2⟩ w
  have hDb : -1074 ≤ (rkD X).2 := by
    rw [← rkD_fv X (by omega) (by omega)]; exact (fv_bd X (by omega) (by omega)).2.2.1
  rw [← hX] at hp vp DG hxm
  have hsome : ∃ K : Nat, K ≤ 1400 ∧ shS (rkD X) E f K pd = true := ⟨(pd + 1074).toNat, by omega, sh_some (rkD X) E f _ pd vp hf2 hr (sh_ends (rkD X) _ pd hDb (by omega))⟩
  obtain ⟨K, hK, hKs⟩ := hsome
  obtain ⟨k, hk, hk1, hk2⟩ := sh_first (rkD X) E f pd K hKs
  have hLb := shL_bd (rkD X) k pd hp
  obtain ⟨Z, hZ⟩ : ∃ Z, Z = shZ (rkD X) E f k pd := ⟨_, rfl⟩
  have hZb : 0 < Z ∧ Z < 10 ^ (k + 1 + 1) := by
    have h9 := Nat.pow_pos (n := k) (show 0 < 10 by omega)
    rw [Nat.pow_succ 10 (k + 1), hZ]
    unfold shZ; split <;> omega
  obtain ⟨z1, z2, z3, z4, -⟩ := stp_decD Z hZb.1
  have zl9 := decD_len (k + 1) Z hZb.2
  have ztx := stp_text Z hZb.1
  obtain ⟨d, hd⟩ : ∃ d, d = stp (decD Z) := ⟨_, rfl⟩
  obtain ⟨q, hq⟩ : ∃ q, q = shX (rkD X) E f k pd := ⟨_, rfl⟩
  have hqb : -3000 ≤ q ∧ q ≤ 3000 := by rw [hq]; unfold shX; rw [← hZ]; omega
  have SD := hid (show ∀ w, Tab 0 w → Tab10 w → Calls Tryz.prog 51 #[.int .u64 x] w fun e w' => e = .returned (.tuple #[.string (bsOf d), .int .i64 q, .int .i64 0]) ∧ Below w.heap.size w w' from fun w t t10 => (DG w t t10).mono fun e w' ⟨j, j1, j2, he, hb⟩ => by
    obtain rfl := sh_uniq hk1 hk2 j1 j2
    rw [he, hd, hZ, hq]; exact ⟨rfl, hb⟩)
  have RD := hid (show ∀ w, Calls Tryz.prog 55 #[.int .u64 (x % 9223372036854775808)] w fun e w' => e = .returned (.tuple #[.string (bsOf d), .int .i64 q]) ∧ Below w.heap.size w w' from fun w => by
    rw [hxm]
    exact (RG w).mono fun e w' ⟨j, j1, j2, he, hb⟩ => by
      obtain rfl := sh_uniq hk1 hk2 j1 j2
      rw [he, hd, hZ, hq]; exact ⟨rfl, hb⟩)
  have ST := hid (fun w t t10 => shText_val x h0 h1 (by omega) (by omega) hc d q (by rw [hd]; omega) hqb SD.out w t t10)
  have SR := hid (fun w => rShText_val x h0 h1 (by omega) (by omega) hc d q (by rw [hd]; omega) (by rw [hd]; exact z4) (by rw [hd]; exact ztx) hqb RD.out w)
  have HV := hid (fun w => rHasValue_any x h0 h1 w)
  have ZE := hid (fun w => rIsZero_any x h0 h1 w)
  rw [hv] at HV
  rw [show isZer x = false from beq_eq_false_iff_ne.2 hc] at ZE
  have HT := hid hT
  have HT10 := hid hT10
  clear hT hT10 hv hc hcl c4 heb hfb hE hf hE2 hf2 hr hxm hp hp1 hp2 vp DG RG hDb hK hKs hk hk1 hk2 hLb hZ hZb z1 z2 z3 z4 zl9 ztx hd hq hqb hX
  generalize dsh (negB x) (shT d q) = T at *
  go_enter Tryz.func7, Tryz.ntmps7
  go_wp2_with (first | (go_at_call 51; (with_reducible refine (SD.out _ HT.out HT10.out).mono ?_); rintro en w1 ⟨rfl, hb1⟩; have HT2 := hid (HT.out.below hb1); have HT102 := hid (HT10.out.below hb1)) | (go_at_call 52; (with_reducible refine (ST.out _ HT2.out HT102.out).mono ?_); rintro en w2 ⟨rfl, hb2⟩) | (go_at_call 53; (with_reducible refine (SR.out _).mono ?_); rintro en w3 ⟨rfl, hb3⟩) | (go_at_call 19; (with_reducible refine (HV.out _).mono ?_); rintro en w4 ⟨rfl, rfl⟩) | (go_at_call 54; (with_reducible refine (ZE.out _).mono ?_); rintro en w4 ⟨rfl, rfl⟩) | (go_at_call 55; (with_reducible refine (RD.out _).mono ?_); rintro en w5 ⟨rfl, hb5⟩))
  go_ret
  exact ⟨rfl, below_trans (below_trans (below_trans hb1 hb2) hb3) hb5⟩
theorem shortSays_walk (x : Int) (hx : 0 ≤ x ∧ x ≤ 18446744073709551615) (w : World) (hT : Tab 0 w) (hT10 : Tab10 w) :
    Calls Tryz.prog 7 #[.int .u64 x] w fun e w' => e = .returned (.bool true) ∧ Below w.heap.size w w' := by
  have h0 := hx.1
  have h1 : x < 18446744073709551616 := by omega
  have hcl := hasVal_class x h0 h1
  by_cases c5 : classOf x = 5
  · exact short_bad x h0 h1 (by rw [hcl, c5]; rfl) _ w (fun w => shText_nan x h0 h1 c5 w) (fun w => rShText_nan x h0 h1 c5 w)
  by_cases c4 : classOf x = 4
  · exact short_bad x h0 h1 (by rw [hcl, c4]; rfl) _ w (fun w => shText_inf x h0 h1 c4 w) (fun w => rShText_inf x h0 h1 c4 w)
  have hv : hasVal x = true := by
    have hlt : classOf x < 4 := by
      unfold classOf at c4 c5 ⊢
      split
      · rename_i h
        rw [if_pos h] at c4 c5
        split at c5
        · exact absurd rfl c5
        · rename_i h2
          rw [if_neg h2] at c4
          exact absurd rfl c4
      · split
        · omega
        · split <;> omega
    rw [hcl, decide_eq_false (by omega)]; rfl
  by_cases c1 : classOf x = 1
  · exact short_zero x h0 h1 hv c1 w
  · exact short_val x h0 h1 hv c1 w hT hT10
end Go.Proofs.YthaelmnblgollaaGreatDoor

set_option linter.unusedVariables false
set_option linter.unusedSimpArgs false
namespace Go.Ulp
open Go.RowKit Go.WideShapes Go.ChangeShapes Go.Joins Go.Deep
section
variable {H : Type} {enc : TypeId × Value → H} {P : Program} {w : World} {base : Nat} {spare : Nat → Bool} {held : Bool}
theorem trodAll_still {w' : World} : ∀ {ts : List TypeId} {vs : List Value} {ds : List (DataW H)} {ps : List MemPlace}, DataW.TrodAll enc P w base spare held ts vs ds ps → (∀ p ∈ ps, w.sameAt w' p) → DataW.TrodAll enc P w' base spare held ts vs ds ps
  | [], _, _, _, h, _ => by
    obtain ⟨rfl, rfl, rfl⟩ := trodAll_nil h
    exact trodAll_mk0
  | _ :: _, _, _, _, h, hs => by
    obtain ⟨v, vs, d, ds, p, q, rfl, rfl, rfl, ⟨n, h1⟩, h2⟩ := trodAll_cons h
    exact ⟨p, q, ⟨n, DataW.trod_carry n _ _ _ h1 (fun x hx => hs x (List.mem_append_left _ hx))⟩, trodAll_still h2 (fun x hx => hs x (List.mem_append_right _ hx)), rfl⟩
theorem post_reads {f : Func} {s : ChangeSpec} {apart fresh handsOn : Bool} {W W' : World} {args : Array Value} {v : Value} {ds : List (DataW H)} {p : List MemPlace}
    (hW : DataW.Whole enc P f.params.toList s.vars apart W args.toList ds [] (p ++ [])) (hA : DataW.TrodAll enc P W 0 (fun _ => true) true f.params.toList args.toList ds p)
    (K : Kids P (· < P.types.size)) (full : ∀ t e, t < P.types.size → P.underlying t = some (.slice e) → 0 < P.cellsOf e) (hts : ∀ t ∈ f.params.toList, t < P.types.size)
    (hres : ∀ b, DataW.TrodAll enc P W' b (fun _ => false) handsOn f.resultTypes.toList (v.resultList f.resultTypes.size) (s.fn H (ds ++ [])).results [])
    (hargs : (s.fn H (ds ++ [])).args = ds) (hvars : DataW.TrodVars enc P W' (fun b => decide (b < W.heap.size)) s.vars (s.fn H (ds ++ [])).vars [])
    (hb : Below W.heap.size W W') : s.post enc P f apart fresh handsOn false W args v W' := by
  have hlt : ∀ x ∈ p, x.block < W.heap.size := fun x hx => hW.lt x (List.mem_append_left _ hx)
  have h1 := DataW.TrodAll.respare (spare' := fun b => decide (b < W.heap.size)) K full hts hA (fun x hx => by simpa using hlt x hx)
  have h2 := trodAll_still (w' := W') h1 (fun x hx => hb.same (hlt x hx))
  refine ⟨ds, [], p ++ [], [], p, [], hW, hres _, ?_, hvars, hb.frame _, fun h => by cases h⟩
  rw [hargs]; exact h2
end
end Go.Ulp
set_option linter.unusedVariables false
set_option linter.unusedSimpArgs false
namespace Go.Ulp
open Go.RowKit Go.WideShapes Go.ChangeShapes Go.Joins Go.Deep
section
variable {H : Type} {enc : TypeId × Value → H} {P : Program} {w : World} {base : Nat} {spare : Nat → Bool} {held : Bool}
end
end Go.Ulp
set_option linter.unusedVariables false
set_option linter.unusedSimpArgs false
namespace Go.Ulp
open Go.RowKit Go.WideShapes Go.ChangeShapes Go.Joins Go.Deep
section
variable {H : Type} {enc : TypeId × Value → H} {P : Program} {w : World} {base : Nat} {spare : Nat → Bool} {held : Bool}
end
end Go.Ulp

set_option linter.unusedVariables false
set_option linter.unusedSimpArgs false
namespace Go.Proofs.YthaelmnblgollaaGreatDoor
open Go Go.RowKit Go.Ulp Go.ChangeShapes Go.WideShapes Go.ChangeAt
theorem gTab : Tryz.prog.globalNamed "math/bits.deBruijn32tab" = some 0 := by kernel_rfl
def tabZ : List Int := Lib.deBruijn32tab.map fun n : Nat => (n : Int)
end Go.Proofs.YthaelmnblgollaaGreatDoor

set_option linter.unusedVariables false
set_option linter.unusedSimpArgs false
namespace Go.Proofs.YthaelmnblgollaaGreatDoor
open Go Go.RowKit Go.Ulp Go.ChangeShapes Go.WideShapes Go.ChangeAt
def laidV : List (String × DataW Unit) := [("math/bits.deBruijn32tab", Rows.laid_math_bits_deBruijn32tab), ("math/bits.deBruijn64tab", Rows.laid_math_bits_deBruijn64tab), ("internal/strconv.uint64pow10", Rows.laid_internal_strconv_uint64pow10), ("unicode/utf8.acceptRanges", Rows.laid_unicode_utf8_acceptRanges), ("strconv.ErrRange", Rows.laid_strconv_ErrRange), ("strconv.ErrSyntax", Rows.laid_strconv_ErrSyntax), ("unicode/utf8.first", Rows.laid_unicode_utf8_first)]
theorem gTenV : Tryz.prog.globalNamed "internal/strconv.uint64pow10" = some 6 := by kernel_rfl
theorem laid32V_eq : (("math/bits.deBruijn32tab", Rows.laid_math_bits_deBruijn32tab) : String × DataW Unit) = ("math/bits.deBruijn32tab", Lib.tabData .u8 tabZ) := by rfl
theorem laid10V_eq : (("internal/strconv.uint64pow10", Rows.laid_internal_strconv_uint64pow10) : String × DataW Unit) = ("internal/strconv.uint64pow10", Lib.tabData .u64 Lib.pow10Tab) := by rfl
theorem plainV {W : World} (h : laidMetH Tryz.prog laidV W) : laidMet Tryz.prog laidV W := by
  rwa [MakeChecks.laidMetH_plain _ _ _ (by kernel_rfl)] at h
theorem tabV {W : World} (h : laidMetH Tryz.prog laidV W) : Tab 0 W := by
  have h := plainV h
  unfold laidV at h
  rw [laid32V_eq] at h
  have h1 := Lib.tabIs_of_head gTab (by kernel_rfl) Tryz.underlying261 Tryz.underlying5 (by kernel_rfl) (by kernel_rfl) h
  intro j hj
  have h2 := h1.cell gTab j (by unfold tabZ; rw [List.length_map]; exact hj)
  rw [h2]
  unfold tabZ
  congr 2
  rw [List.getD_eq_getElem?_getD, List.getElem?_map, List.getElem?_eq_getElem hj, List.getD_eq_getElem?_getD, List.getElem?_eq_getElem hj]; rfl
theorem tenV {W : World} (h : laidMetH Tryz.prog laidV W) : Tab10 W := by
  have h := laidMet.tail (laidMet.tail (plainV h))
  rw [laid10V_eq] at h
  exact Lib.tabIs_of_head gTenV (by kernel_rfl) Tryz.underlying309 Tryz.underlying23 (by kernel_rfl) (by kernel_rfl) h
theorem doorV_met (os : Os) (args : Array Value) : laidMetH Tryz.prog laidV ((World.laidAll Tryz.prog os laidV).forCall (fun _ _ => 0) ⟨#[], args, []⟩).memory := by
  rw [MakeChecks.laidMetH_plain _ _ _ (by kernel_rfl)]; exact laidMet_laidAll _ (by kernel_rfl) (by kernel_rfl)
theorem shapedV (os : Os) : (World.laidAll Tryz.prog os laidV).Shaped Tryz.prog := World.shaped_of_ZipB (by kernel_rfl) (by kernel_rfl)
end Go.Proofs.YthaelmnblgollaaGreatDoor
