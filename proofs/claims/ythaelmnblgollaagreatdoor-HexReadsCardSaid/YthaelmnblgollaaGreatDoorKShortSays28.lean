/- ShortSays: what the proof leans on, part 28 (Hr2 Hr0 Hr1 Hr3 Re10 Re14 Hx0 Hx1 Hx2 Hx3). -/
import Derived.Shelf.Strings.SlTrimAscii
import Derived.Laws.Runes
import Derived.Test.YthaelmnblgollaaGreatDoorKShortSays2
import Derived.Test.YthaelmnblgollaaGreatDoorKShortSays12
import Derived.Test.YthaelmnblgollaaGreatDoorKShortSays15
import Derived.Test.YthaelmnblgollaaGreatDoorKShortSays16
import Derived.Test.YthaelmnblgollaaGreatDoorKShortSays18
import Derived.Test.YthaelmnblgollaaGreatDoorKShortSays21
import Derived.Test.YthaelmnblgollaaGreatDoorKShortSays22
import Derived.Test.YthaelmnblgollaaGreatDoorKShortSays23
set_option linter.unusedVariables false
set_option linter.unusedSimpArgs false
namespace Go.Ulp
open Go.RowKit
theorem rdC_zeroH (K A B : Nat) : rdC K A B 0 ≤ 0 := by
  unfold rdC
  have h0 : rvs 0 = 0 := by rw [show (0 : Int) = ((0 : Nat) : Int) from rfl, rvs_nat9, rvi_zero]
  rw [h0, Int.zero_mul]
  have h1 : 0 ≤ (A : Int) * pw K := Int.mul_nonneg (by omega) (Int.le_of_lt (pw_pos K))
  generalize (A : Int) * pw K = q at *
  unfold cmpI
  split
  · omega
  · split <;> omega
theorem rd_exists (K A B T : Nat) (hT : 0 < T) : ∃ l : Nat, l < T ∧ rdC K A B l ≤ 0 ∧ (l + 1 = T ∨ 0 < rdC K A B ((l : Int) + 1)) := by
  suffices H : ∀ n : Nat, n ≤ T - 1 → rdC K A B ((T - 1 - n : Nat) : Int) ≤ 0 → ∃ l : Nat, l < T ∧ rdC K A B l ≤ 0 ∧ (l + 1 = T ∨ 0 < rdC K A B ((l : Int) + 1)) from
    H (T - 1) (Nat.le_refl _) (by rw [Nat.sub_self]; exact rdC_zeroH K A B)
  intro n
  induction n with
  | zero => intro _ h; exact ⟨T - 1 - 0, by omega, h, .inl (by omega)⟩
  | succ n ih =>
    intro hn h
    by_cases h1 : 0 < rdC K A B (((T - 1 - (n + 1) : Nat) : Int) + 1)
    · exact ⟨T - 1 - (n + 1), by omega, h, .inr h1⟩
    · refine ih (by omega) ?_
      rw [show ((T - 1 - n : Nat) : Int) = ((T - 1 - (n + 1) : Nat) : Int) + 1 by omega]
      omega
theorem num_same (neg : Bool) (A B M N : Nat) (e f mode : Int) (m0 : 0 ≤ mode) (m1 : mode ≤ 4) (h1 : RdOk A B M e) (h2 : RdOk A B N f) : numX neg M e mode = numX neg N f mode ∧ numC neg M e mode = numC neg N f mode := by
  obtain ⟨l, l1, l2, l3⟩ := rd_exists 1074 A B 9218868437227405312 (by omega)
  obtain ⟨hM, s, hs, SC⟩ := h1
  obtain ⟨hN, t, ht, TC⟩ := h2
  have k1 : (l : Int) < 9218868437227405312 := by omega
  have k3 : (l : Int) + 1 = 9218868437227405312 ∨ 0 < rdC 1074 A B ((l : Int) + 1) := l3.elim (fun h => .inl (by omega)) .inr
  obtain ⟨a1, a2⟩ := read_sg neg M e mode 1074 A B s l m0 m1 hM hs SC k1 l2 k3
  obtain ⟨b1, b2⟩ := read_sg neg N f mode 1074 A B t l m0 m1 hN ht TC k1 l2 k3
  exact ⟨a1.trans b1.symm, a2.trans b2.symm⟩
theorem far_high (M : Nat) (e : Int) (b : Nat) (hM : 2 ^ b ≤ M) (h : 1900 < (b : Int) + e) : RdOk (2 ^ 1100) 1 M e := by
  obtain ⟨F, hF, hF2⟩ := rvi_tv
  have hM0 : 0 < M := Nat.lt_of_lt_of_le (Nat.two_pow_pos b) hM
  obtain ⟨s, hs⟩ : ∃ s : Nat, s = (-e).toNat := ⟨_, rfl⟩
  obtain ⟨P, hP⟩ : ∃ P : Nat, P = 1100 := ⟨_, rfl⟩
  obtain ⟨Q, hQ⟩ : ∃ Q : Nat, Q = (e + 1074 + s).toNat := ⟨_, rfl⟩
  obtain ⟨K, hK⟩ : ∃ K : Nat, K = 1074 := ⟨_, rfl⟩
  have g2 : rvi 9218868437227405312 * 1 < 2 ^ P * 2 ^ K := by
    rw [hF2, Nat.mul_one, ← Nat.pow_add]
    exact Nat.pow_lt_pow_right (by omega) (by omega)
  rw [hK] at g2
  have g1 : rvi 9218868437227405312 * 2 ^ s < M * 2 ^ Q := by
    rw [hF2, ← Nat.pow_add]
    have h9 : 2 ^ b * 2 ^ Q ≤ M * 2 ^ Q := Nat.mul_le_mul_right _ hM
    rw [← Nat.pow_add] at h9
    exact Nat.lt_of_lt_of_le (Nat.pow_lt_pow_right (by omega) (by omega)) h9
  rw [← hP]
  refine ⟨hM0, s, by omega, ?_⟩
  rw [← hQ]
  exact same_high s (M * 2 ^ Q) 1074 (2 ^ P) 1 g1 g2
theorem far_low (M : Nat) (e : Int) (b : Nat) (hM0 : 0 < M) (hM : M < 2 ^ b) (h : (b : Int) + e < -1900) : RdOk 1 (2 ^ 2100) M e := by
  obtain ⟨s, hs⟩ : ∃ s : Nat, s = (-e).toNat := ⟨_, rfl⟩
  obtain ⟨P, hP⟩ : ∃ P : Nat, P = 2100 := ⟨_, rfl⟩
  obtain ⟨K, hK⟩ : ∃ P : Nat, P = 1074 := ⟨_, rfl⟩
  obtain ⟨Q, hQ⟩ : ∃ Q : Nat, Q = (e + 1074 + s).toNat := ⟨_, rfl⟩
  have hp : 0 < 2 ^ Q := Nat.two_pow_pos Q
  have g1 : 2 * (M * 2 ^ Q) < 2 ^ s := by
    have h9 : M * 2 ^ Q < 2 ^ b * 2 ^ Q := Nat.mul_lt_mul_of_pos_right hM hp
    rw [← Nat.pow_add] at h9
    have h8 : 2 ^ (b + Q + 1) ≤ 2 ^ s := Nat.pow_le_pow_right (by omega) (by omega)
    rw [Nat.pow_succ] at h8
    omega
  have g2 : 2 * (1 * 2 ^ K) < 2 ^ P := by
    rw [Nat.one_mul, Nat.mul_comm, ← Nat.pow_succ]
    exact Nat.pow_lt_pow_right (by omega) (by omega)
  have g3 : 0 < 1 * 2 ^ K := by rw [Nat.one_mul]; exact Nat.two_pow_pos K
  rw [hK] at g2 g3
  rw [← hP]
  refine ⟨hM0, s, by omega, ?_⟩
  rw [← hQ]
  exact same_low s (M * 2 ^ Q) 1074 1 (2 ^ P) (Nat.mul_pos hM0 hp) g1 g3 g2
end Go.Ulp

set_option linter.unusedVariables false
set_option linter.unusedSimpArgs false
namespace Go.Ulp
open Go.RowKit
def isHx (b : UInt8) : Bool := decide ((48 ≤ b.toNat ∧ b.toNat ≤ 57) ∨ (97 ≤ b.toNat ∧ b.toNat ≤ 102))
theorem hx_contains (b : UInt8) : [48, 49, 50, 51, 52, 53, 54, 55, 56, 57, 97, 98, 99, 100, 101, 102].contains b = isHx b := by
  have : ∀ n : Fin 256, [48, 49, 50, 51, 52, 53, 54, 55, 56, 57, 97, 98, 99, 100, 101, 102].contains (UInt8.ofNat n.1) = isHx (UInt8.ofNat n.1) := by decide +kernel
  have h := this ⟨b.toNat, b.toNat_lt⟩
  simpa using h
def AllHx (L : List UInt8) : Prop := ∀ b ∈ L, isHx b = true
/-- what is behind "0x": digits, maybe a point and digits, a p, maybe a sign, and a power -/
def HxGood (T W PA : List UInt8) (pt : Bool) (sg PW : List UInt8) : Prop :=
  T = W ++ ((if pt = true then 46 :: PA else []) ++ 112 :: (sg ++ PW)) ∧ AllHx W ∧ AllHx PA ∧ (pt = false → PA = []) ∧ W ++ PA ≠ [] ∧ (sg = [] ∨ sg = [45] ∨ sg = [43]) ∧ AllDg PW ∧ 1 ≤ PW.length ∧ PW.length ≤ 5
/-- the program's parts -/
def tkH (L : List UInt8) : List UInt8 := L.takeWhile isHx
def dpH (L : List UInt8) : List UInt8 := L.dropWhile isHx
def hxPt (T : List UInt8) : Bool := Lib.hasPrefix (dpH T) [46]
def hxPA (T : List UInt8) : List UInt8 := if hxPt T = true then tkH ((dpH T).drop 1) else []
def hxR2 (T : List UInt8) : List UInt8 := if hxPt T = true then dpH ((dpH T).drop 1) else dpH T
def hxR3 (T : List UInt8) : List UInt8 := Lib.trimPrefix (hxR2 T) [112]
def hxDn (T : List UInt8) : Bool := Lib.hasPrefix (hxR3 T) [45]
def hxSg (T : List UInt8) : Bool := hxDn T || Lib.hasPrefix (hxR3 T) [43]
def hxR4 (T : List UInt8) : List UInt8 := if hxSg T = true then (hxR3 T).drop 1 else hxR3 T
def hxOk (T : List UInt8) : Bool := Lib.hasPrefix (hxR2 T) [112] && !(tkH T ++ hxPA T).isEmpty && !(tkD (hxR4 T)).isEmpty && decide ((tkD (hxR4 T)).length ≤ 5) && (dpD (hxR4 T)).isEmpty
theorem hpx_iff (L : List UInt8) (c : UInt8) : Lib.hasPrefix L [c] = true ↔ ∃ r, L = c :: r := by
  cases L with
  | nil => constructor
           · intro h; simp [Lib.hasPrefix, List.isPrefixOf] at h
           · rintro ⟨r, h⟩; cases h
  | cons b r =>
    simp only [Lib.hasPrefix, List.isPrefixOf, Bool.and_true, beq_iff_eq]
    constructor
    · intro h; exact ⟨r, by rw [h]⟩
    · rintro ⟨q, h⟩; injection h with h1 h2; exact h1.symm
theorem tw_app (p : UInt8 → Bool) (A R : List UInt8) (hA : ∀ b ∈ A, p b = true) (hR : ∀ b r, R = b :: r → p b = false) : (A ++ R).takeWhile p = A ∧ (A ++ R).dropWhile p = R := by
  induction A with
  | nil =>
    cases R with
    | nil => exact ⟨rfl, rfl⟩
    | cons b r =>
      have := hR b r rfl
      rw [List.nil_append, List.takeWhile_cons, List.dropWhile_cons, if_neg (by rw [this]; decide), if_neg (by rw [this]; decide)]
      exact ⟨rfl, rfl⟩
  | cons a t ih =>
    have h1 := hA a (List.mem_cons_self ..)
    obtain ⟨i1, i2⟩ := ih (fun b hb => hA b (List.mem_cons_of_mem _ hb))
    rw [List.cons_append, List.takeWhile_cons, List.dropWhile_cons, if_pos h1, if_pos h1, i1, i2]
    exact ⟨rfl, rfl⟩
theorem tw_all (p : UInt8 → Bool) (L : List UInt8) : ∀ b ∈ L.takeWhile p, p b = true := by
  induction L with
  | nil => intro b hb; cases hb
  | cons a t ih =>
    rw [List.takeWhile_cons]
    split
    · intro b hb
      rcases List.mem_cons.1 hb with h | h
      · rw [h]; assumption
      · exact ih b h
    · intro b hb; cases hb
/-- from the parts: what the program takes -/
theorem hx_prog {T W PA : List UInt8} {pt : Bool} {sg PW : List UInt8} (h : HxGood T W PA pt sg PW) : hxOk T = true ∧ tkH T = W ∧ hxPA T = PA ∧ tkD (hxR4 T) = PW ∧ hxDn T = decide (sg = [45]) := by
  obtain ⟨hT, hW, hP, hpt, hne, hsg, hd, h1, h5⟩ := h
  have e1 := tw_app isHx W ((if pt = true then 46 :: PA else []) ++ 112 :: (sg ++ PW)) hW (fun b r h => by
    cases pt
    · rw [if_neg (by decide)] at h; injection h with h2 h3; rw [← h2]; decide
    · rw [if_pos rfl] at h; injection h with h2 h3; rw [← h2]; decide)
  rw [← hT] at e1
  have tk : tkH T = W := e1.1
  have dp : dpH T = (if pt = true then 46 :: PA else []) ++ 112 :: (sg ++ PW) := e1.2
  have hpv : hxPt T = pt := by
    unfold hxPt
    rw [dp]
    cases pt
    · rw [Bool.eq_false_iff]; intro h9
      obtain ⟨r, h8⟩ := (hpx_iff _ _).1 h9
      rw [if_neg (by decide)] at h8; injection h8 with h7; exact absurd h7 (by decide)
    · exact (hpx_iff _ _).2 ⟨_, by rw [if_pos rfl]; rfl⟩
  have e2 := tw_app isHx PA (112 :: (sg ++ PW)) hP (fun b r h => by injection h with h2 h3; rw [← h2]; decide)
  have pa : hxPA T = PA := by
    unfold hxPA
    rw [hpv]
    cases pt
    · rw [if_neg (by decide), hpt rfl]
    · rw [if_pos rfl, dp, if_pos rfl]; exact e2.1
  have r2 : hxR2 T = 112 :: (sg ++ PW) := by
    unfold hxR2
    rw [hpv]
    cases pt
    · rw [if_neg (by decide), dp, if_neg (by decide)]; rfl
    · rw [if_pos rfl, dp, if_pos rfl]; exact e2.2
  have r3 : hxR3 T = sg ++ PW := by
    unfold hxR3
    rw [r2, trimPrefix_one, if_pos ((hpx_iff _ _).2 ⟨_, rfl⟩)]; rfl
  obtain ⟨b, q, hbq⟩ : ∃ b q, PW = b :: q := by
    cases PW with
    | nil => exact absurd h1 (by decide)
    | cons b q => exact ⟨b, q, rfl⟩
  have hb := dg_bd (hd b (by rw [hbq]; exact List.mem_cons_self ..))
  have nb : ∀ c : UInt8, c.toNat < 48 → Lib.hasPrefix PW [c] = false := fun c hc => by
    rw [Bool.eq_false_iff]; intro h9
    obtain ⟨r, h8⟩ := (hpx_iff _ _).1 h9
    rw [hbq] at h8; injection h8 with h7; rw [h7] at hb; omega
  have dn : hxDn T = decide (sg = [45]) := by
    unfold hxDn
    rw [r3]
    rcases hsg with h | h | h <;> subst h
    · rw [List.nil_append, nb 45 (by decide)]; rfl
    · rw [List.singleton_append, (hpx_iff _ _).2 ⟨_, rfl⟩]; rfl
    · rw [List.singleton_append, Bool.eq_iff_iff]; constructor
      · intro h9; obtain ⟨r, h8⟩ := (hpx_iff _ _).1 h9; injection h8
      · intro h9; exact absurd (of_decide_eq_true h9) (by decide)
  have r4 : hxR4 T = PW := by
    unfold hxR4 hxSg
    rw [dn, r3]
    rcases hsg with h | h | h <;> subst h
    · rw [List.nil_append, nb 43 (by decide)]; rfl
    · rfl
    · rw [List.singleton_append, (hpx_iff _ _).2 ⟨_, rfl⟩, Bool.or_true]; rfl
  have e3 := tw_app isDg PW [] hd (fun b r h => by cases h)
  rw [List.append_nil] at e3
  have tkd : tkD (hxR4 T) = PW := by rw [r4]; exact e3.1
  have dpd : dpD (hxR4 T) = [] := by rw [r4]; exact e3.2
  refine ⟨?_, tk, pa, tkd, dn⟩
  unfold hxOk
  rw [tkd, dpd, tk, pa, r2, (hpx_iff _ _).2 ⟨_, rfl⟩, decide_eq_true h5, List.isEmpty_eq_false_iff.2 hne, hbq]
  rfl
theorem hx_nil {L : List UInt8} (h : L.isEmpty = true) : L = [] := List.isEmpty_iff.1 h
/-- and back: what the program takes, are the parts -/
theorem prog_hx {T : List UInt8} (h : hxOk T = true) : ∃ sg, HxGood T (tkH T) (hxPA T) (hxPt T) sg (tkD (hxR4 T)) := by
  unfold hxOk at h
  simp only [Bool.and_eq_true, Bool.not_eq_true', decide_eq_true_eq] at h
  obtain ⟨⟨⟨⟨h1, h2⟩, h3⟩, h4⟩, h5⟩ := h
  obtain ⟨R, hR⟩ := (hpx_iff _ _).1 h1
  have r3 : hxR3 T = R := by unfold hxR3; rw [hR, trimPrefix_one, if_pos ((hpx_iff _ _).2 ⟨_, rfl⟩)]; rfl
  have h5 := hx_nil h5
  have r4 : hxR4 T = tkD (hxR4 T) := by
    have := tk_dp (hxR4 T); rw [h5, List.append_nil] at this; exact this.symm
  have hsg : ∃ sg, R = sg ++ hxR4 T ∧ (sg = [] ∨ sg = [45] ∨ sg = [43]) := by
    unfold hxR4
    rw [r3]
    by_cases h6 : hxSg T = true
    · rw [if_pos h6]
      unfold hxSg hxDn at h6
      rw [r3, Bool.or_eq_true] at h6
      rcases h6 with h7 | h7
      · obtain ⟨q, hq⟩ := (hpx_iff _ _).1 h7
        exact ⟨[45], by rw [hq]; rfl, .inr (.inl rfl)⟩
      · obtain ⟨q, hq⟩ := (hpx_iff _ _).1 h7
        exact ⟨[43], by rw [hq]; rfl, .inr (.inr rfl)⟩
    · rw [if_neg h6]
      exact ⟨[], rfl, .inl rfl⟩
  obtain ⟨sg, hs1, hs2⟩ := hsg
  have td : tkH T ++ dpH T = T := List.takeWhile_append_dropWhile
  refine ⟨sg, ?_, tw_all isHx T, ?_, ?_, ?_, hs2, tw_all isDg _, ?_, h4⟩
  · rw [← r4, ← hs1, ← hR]
    conv => lhs; rw [← td]
    congr 1
    unfold hxR2 hxPA
    by_cases hp : hxPt T = true
    · rw [if_pos hp, if_pos hp, if_pos hp]
      unfold hxPt at hp
      obtain ⟨q, hq⟩ := (hpx_iff _ _).1 hp
      rw [hq]
      show 46 :: q = 46 :: (tkH q ++ dpH q)
      rw [show tkH q ++ dpH q = q from List.takeWhile_append_dropWhile]
    · rw [if_neg hp, if_neg hp]; rfl
  · unfold hxPA
    split
    · exact tw_all isHx _
    · intro b hb; cases hb
  · intro hp; unfold hxPA; rw [hp]; rfl
  · exact List.isEmpty_eq_false_iff.1 h2
  · have := List.isEmpty_eq_false_iff.1 h3
    exact List.length_pos_iff.2 this
end Go.Ulp

set_option linter.unusedVariables false
set_option linter.unusedSimpArgs false
namespace Go.Ulp
open Go.RowKit
def upTo (c : UInt8) (L : List UInt8) : List UInt8 := L.takeWhile (fun b => b != c)
def from1 (c : UInt8) (L : List UInt8) : List UInt8 := (L.dropWhile (fun b => b != c)).drop 1
theorem index_one (c : UInt8) : ∀ L : List UInt8, (L.contains c = true → Lib.index L [c] = ((upTo c L).length : Int)) ∧ (L.contains c = false → Lib.index L [c] = -1)
  | [] => ⟨fun h => by simp at h, fun _ => rfl⟩
  | b :: l => by
    obtain ⟨i1, i2⟩ := index_one c l
    by_cases hb : b = c
    · subst hb
      refine ⟨fun _ => ?_, fun h => by simp at h⟩
      unfold Lib.index upTo
      rw [if_pos (by simp [List.isPrefixOf]), List.takeWhile_cons, if_neg (by simp)]; rfl
    · have hp : ([c] : List UInt8).isPrefixOf (b :: l) = false := by
        simp [List.isPrefixOf]; exact fun h => hb h.symm
      have hne : (b != c) = true := by simpa using hb
      have hc : (b :: l).contains c = l.contains c := by
        rw [List.contains_cons]
        rw [show (c == b) = false from beq_eq_false_iff_ne.2 (fun h => hb h.symm), Bool.false_or]
      rw [hc]
      constructor
      · intro h
        have h1 := i1 h
        unfold Lib.index
        rw [hp, h1]
        unfold upTo
        rw [List.takeWhile_cons, if_pos hne, List.length_cons]
        have h2 : ((((List.takeWhile (fun b => b != c) l).length : Nat) : Int) == -1) = false := by rw [beq_eq_false_iff_ne]; omega
        simp [h2]
      · intro h
        have h1 := i2 h
        unfold Lib.index
        rw [hp, h1]; rfl
theorem drop_headH (p : UInt8 → Bool) : ∀ (A : List UInt8) (b : UInt8) (r : List UInt8), A.dropWhile p = b :: r → p b = false
  | [], b, r, h => by cases h
  | a :: t, b, r, h => by
    rw [List.dropWhile_cons] at h
    split at h
    · exact drop_headH p t b r h
    · rename_i h1
      injection h with h2 h3
      rw [← h2]; exact eq_false_of_ne_true h1
theorem trimS_nil (L cs : List UInt8) : Lib.trimS L cs = [] ↔ ∀ b ∈ L, cs.contains b = true := by
  have key : ∀ M : List UInt8, M.dropWhile (cs.contains ·) = [] ↔ ∀ b ∈ M, cs.contains b = true := fun M => by
    induction M with
    | nil => simp
    | cons a t ih =>
      rw [List.dropWhile_cons]
      by_cases h : cs.contains a = true
      · rw [if_pos h, ih]
        constructor
        · intro h1 b hb
          rcases List.mem_cons.1 hb with h2 | h2
          · rw [h2]; exact h
          · exact h1 b h2
        · intro h1 b hb; exact h1 b (List.mem_cons_of_mem _ hb)
      · rw [if_neg h]
        constructor
        · intro h1; cases h1
        · intro h1; exact absurd (h1 a (List.mem_cons_self ..)) h
  unfold Lib.trimS Lib.trimLeftS
  rw [key]
  unfold Lib.trimRightS
  constructor
  · intro h
    by_cases h2 : (L.reverse.dropWhile (cs.contains ·)) = []
    · have h3 := (key L.reverse).1 h2
      intro b hb; exact h3 b (List.mem_reverse.2 hb)
    · exfalso
      cases hd : L.reverse.dropWhile (cs.contains ·) with
      | nil => exact h2 hd
      | cons a t =>
        have h4 := drop_headH _ _ a t hd
        have h5 := h a (List.mem_reverse.2 (by rw [hd]; exact List.mem_cons_self ..))
        rw [h5] at h4; cases h4
  · intro h b hb
    have h1 := List.mem_reverse.1 hb
    exact h b (List.mem_reverse.1 ((List.dropWhile_sublist _).mem h1))
/-- the reference's parts -/
def rfW (T : List UInt8) : List UInt8 := upTo 46 (upTo 112 T)
def rfP (T : List UInt8) : List UInt8 := from1 46 (upTo 112 T)
def rfX (T : List UInt8) : List UInt8 := from1 112 T
def rfDn (T : List UInt8) : Bool := Lib.hasPrefix (rfX T) [45]
def rfX2 (T : List UInt8) : List UInt8 := if (rfDn T || Lib.hasPrefix (rfX T) [43]) = true then (rfX T).drop 1 else rfX T
theorem all_hx_ne {W : List UInt8} (h : AllHx W) (c : UInt8) (hc : isHx c = false) : ∀ b ∈ W, (b != c) = true := fun b hb => by
  simp only [bne_iff_ne, ne_eq]
  intro h9
  have := h b hb
  rw [h9, hc] at this; cases this
/-- from the parts: what the reference takes -/
theorem hx_ref {T W PA : List UInt8} {pt : Bool} {sg PW : List UInt8} (h : HxGood T W PA pt sg PW) : T.contains 112 = true ∧ rfW T = W ∧ rfP T = PA ∧ rfX T = sg ++ PW ∧ rfX2 T = PW ∧ rfDn T = decide (sg = [45]) := by
  obtain ⟨hT, hW, hP, hpt, hne, hsg, hd, h1, h5⟩ := h
  have nW := all_hx_ne hW
  have nP := all_hx_ne hP
  obtain ⟨H, hH⟩ : ∃ H, H = W ++ (if pt = true then 46 :: PA else []) := ⟨_, rfl⟩
  have hT2 : T = H ++ 112 :: (sg ++ PW) := by rw [hT, hH, List.append_assoc]
  have n1 : ∀ b ∈ H, (b != 112) = true := fun b hb => by
    rw [hH] at hb
    rcases List.mem_append.1 hb with h9 | h9
    · exact nW 112 (by decide) b h9
    · cases pt
      · rw [if_neg (by decide)] at h9; cases h9
      · rw [if_pos rfl] at h9
        rcases List.mem_cons.1 h9 with h8 | h8
        · rw [h8]; decide
        · exact nP 112 (by decide) b h8
  have t1 := tw_app (fun b => b != 112) H (112 :: (sg ++ PW)) n1 (fun b r h => by injection h with h2 h3; rw [← h2]; decide)
  rw [← hT2] at t1
  have u1 : upTo 112 T = H := t1.1
  have u2 : rfX T = sg ++ PW := by unfold rfX from1; rw [t1.2]; rfl
  have hc : T.contains 112 = true := by rw [hT2]; simp
  have t2 : upTo 46 H = W ∧ from1 46 H = PA := by
    cases pt
    · rw [if_neg (by decide), List.append_nil] at hH
      have t := tw_app (fun b => b != 46) W [] (nW 46 (by decide)) (fun b r h => by cases h)
      rw [List.append_nil, ← hH] at t
      unfold upTo from1
      rw [t.1, t.2, hpt rfl]
      exact ⟨hH, rfl⟩
    · rw [if_pos rfl] at hH
      have t := tw_app (fun b => b != 46) W (46 :: PA) (nW 46 (by decide)) (fun b r h => by injection h with h2 h3; rw [← h2]; decide)
      rw [← hH] at t
      unfold upTo from1
      rw [t.1, t.2]
      exact ⟨rfl, rfl⟩
  obtain ⟨b, q, hbq⟩ : ∃ b q, PW = b :: q := by
    cases PW with
    | nil => exact absurd h1 (by decide)
    | cons b q => exact ⟨b, q, rfl⟩
  have hb := dg_bd (hd b (by rw [hbq]; exact List.mem_cons_self ..))
  have nb : ∀ c : UInt8, c.toNat < 48 → Lib.hasPrefix PW [c] = false := fun c hc => by
    rw [Bool.eq_false_iff]; intro h9
    obtain ⟨r, h8⟩ := (hpx_iff _ _).1 h9
    rw [hbq] at h8; injection h8 with h7; rw [h7] at hb; omega
  have dn : rfDn T = decide (sg = [45]) := by
    unfold rfDn
    rw [u2]
    rcases hsg with h | h | h <;> subst h
    · rw [List.nil_append, nb 45 (by decide)]; rfl
    · rw [List.singleton_append, (hpx_iff _ _).2 ⟨_, rfl⟩]; rfl
    · rw [List.singleton_append, Bool.eq_iff_iff]; constructor
      · intro h9; obtain ⟨r, h8⟩ := (hpx_iff _ _).1 h9; injection h8
      · intro h9; exact absurd (of_decide_eq_true h9) (by decide)
  refine ⟨hc, by unfold rfW; rw [u1]; exact t2.1, by unfold rfP; rw [u1]; exact t2.2, u2, ?_, dn⟩
  unfold rfX2
  rw [dn, u2]
  rcases hsg with h | h | h <;> subst h
  · rw [List.nil_append, nb 43 (by decide)]; rfl
  · rfl
  · rw [List.singleton_append, (hpx_iff _ _).2 ⟨_, rfl⟩, Bool.or_true]; rfl
/-- and back -/
theorem ref_hx {T : List UInt8} (hc : T.contains 112 = true) (hh : AllHx (rfW T ++ rfP T)) (hne : rfW T ++ rfP T ≠ []) (h1 : 1 ≤ (rfX2 T).length) (h5 : (rfX2 T).length ≤ 5) (hd : AllDg (rfX2 T)) :
    ∃ pt sg, HxGood T (rfW T) (rfP T) pt sg (rfX2 T) := by
  have cutc : ∀ (c : UInt8) (L : List UInt8), L.contains c = true → L = upTo c L ++ c :: from1 c L := fun c L h => by
    have htd : upTo c L ++ L.dropWhile (fun b => b != c) = L := List.takeWhile_append_dropWhile
    cases hd : L.dropWhile (fun b => b != c) with
    | nil =>
      exfalso
      rw [hd, List.append_nil] at htd
      have hm : c ∈ L := by simpa using h
      rw [← htd] at hm
      have := tw_all _ L c hm
      simp at this
    | cons b r =>
      have hb : b = c := by simpa using drop_headH _ _ b r hd
      conv => lhs; rw [← htd]
      unfold from1
      rw [hd, hb]; rfl
  have e1 := cutc 112 T hc
  have hsg : ∃ sg, rfX T = sg ++ rfX2 T ∧ (sg = [] ∨ sg = [45] ∨ sg = [43]) := by
    unfold rfX2
    by_cases h6 : (rfDn T || Lib.hasPrefix (rfX T) [43]) = true
    · rw [if_pos h6]
      rw [Bool.or_eq_true] at h6
      rcases h6 with h7 | h7
      · obtain ⟨q, hq⟩ := (hpx_iff _ _).1 h7
        exact ⟨[45], by rw [hq]; rfl, .inr (.inl rfl)⟩
      · obtain ⟨q, hq⟩ := (hpx_iff _ _).1 h7
        exact ⟨[43], by rw [hq]; rfl, .inr (.inr rfl)⟩
    · rw [if_neg h6]
      exact ⟨[], rfl, .inl rfl⟩
  obtain ⟨sg, s1, s2⟩ := hsg
  have aW : AllHx (rfW T) := fun b hb => hh b (List.mem_append.2 (.inl hb))
  have aP : AllHx (rfP T) := fun b hb => hh b (List.mem_append.2 (.inr hb))
  cases hp : (upTo 112 T).contains 46
  · have h0 : ∀ b ∈ upTo 112 T, (b != 46) = true := fun b hb => by
      have h9 : ¬ (46 : UInt8) ∈ upTo 112 T := by simpa using hp
      simp only [bne_iff_ne, ne_eq]
      intro h8; exact h9 (h8 ▸ hb)
    have t := tw_app (fun b => b != 46) (upTo 112 T) [] h0 (fun b r h => by cases h)
    rw [List.append_nil] at t
    have w1 : rfW T = upTo 112 T := t.1
    have w2 : rfP T = [] := by unfold rfP from1; rw [t.2]; rfl
    refine ⟨false, sg, ?_, aW, aP, fun _ => w2, hne, s2, hd, h1, h5⟩
    rw [w1, if_neg (by decide), List.nil_append, ← s1]
    exact e1
  · have e2 := cutc 46 (upTo 112 T) hp
    refine ⟨true, sg, ?_, aW, aP, (fun h => by cases h), hne, s2, hd, h1, h5⟩
    rw [if_pos rfl, ← s1]
    conv => lhs; rw [e1, e2]
    rw [List.append_assoc]; rfl
end Go.Ulp

set_option linter.unusedVariables false
set_option linter.unusedSimpArgs false
namespace Go.Ulp
open Go.RowKit
theorem tkH_dpH (L : List UInt8) : tkH L ++ dpH L = L := List.takeWhile_append_dropWhile
theorem dpH_len (L : List UInt8) : (dpH L).length + (tkH L).length = L.length := by
  have := congrArg List.length (tkH_dpH L); rw [List.length_append] at this; omega
theorem take_tkH (L : List UInt8) : L.take (tkH L).length = tkH L := by
  have h := List.take_left (l₁ := tkH L) (l₂ := dpH L)
  rw [tkH_dpH] at h; exact h
end Go.Ulp
namespace Go.Proofs.YthaelmnblgollaaGreatDoor
open Go.RowKit Go.Ulp
set_option linter.unusedVariables false
set_option linter.unusedSimpArgs false
set_option maxHeartbeats 2000000
set_option maxRecDepth 100000
theorem trimHx_any (L : List UInt8) (w : World) :
    Calls Tryz.prog 105 #[.string (bsOf L), .string ⟨#[48, 49, 50, 51, 52, 53, 54, 55, 56, 57, 97, 98, 99, 100, 101, 102]⟩] w fun e w' => e = .returned (.string (bsOf (dpH L))) ∧ Below w.heap.size w w' := by
  refine (Any.strings_TrimLeft_laid Tryz.lays161 (by kernel_rfl) (bsOf L) ⟨#[48, 49, 50, 51, 52, 53, 54, 55, 56, 57, 97, 98, 99, 100, 101, 102]⟩ w (by decide) (ascii_of_all (by decide))).mono ?_
  rintro e w1 ⟨rfl, hb⟩
  refine ⟨?_, hb⟩
  rw [bs_list]
  have : Lib.trimLeftS L [48, 49, 50, 51, 52, 53, 54, 55, 56, 57, 97, 98, 99, 100, 101, 102] = dpH L := by
    unfold Lib.trimLeftS dpH
    congr 1
    funext b; exact hx_contains b
  exact ret_bs this
theorem takeHx_any (L : List UInt8) (w : World) (hl : L.length ≤ 1000000) :
    Calls Tryz.prog 190 #[.string (bsOf L), .string ⟨#[48, 49, 50, 51, 52, 53, 54, 55, 56, 57, 97, 98, 99, 100, 101, 102]⟩] w fun e w' => e = .returned (.tuple #[.string (bsOf (tkH L)), .string (bsOf (dpH L))]) ∧ Below w.heap.size w w' := by
  have TD := hid (fun w => trimHx_any L w)
  have hd := dpH_len L
  have hs1 : (bsOf L).size = L.length := bs_size L
  have hs2 : (bsOf (dpH L)).size = (dpH L).length := bs_size _
  have hw : IntKind.i64.wrap ((L.length : Int) - ((dpH L).length : Int)) = ((tkH L).length : Int) := by rw [IntWalk.i64_in _ (by omega)]; omega
  have s1 := slice_to (P := Tryz.prog) Tryz.underlying9 L ((tkH L).length : Int) (by omega) (by omega)
  rw [Int.toNat_natCast, take_tkH] at s1
  generalize dpH L = R at *
  generalize hTK : tkH L = K at *
  generalize K.length = n at *
  clear hd hTK
  go_enter Tryz.func190, Tryz.ntmps190
  go_wp2_with (go_at_call 105; (with_reducible refine (TD.out _).mono ?_); rintro en w1 ⟨rfl, hb1⟩)
  go_ret2
  exact ⟨rfl, hb1⟩
theorem takeDg_any (L : List UInt8) (w : World) (hl : L.length ≤ 1000000) :
    Calls Tryz.prog 190 #[.string (bsOf L), .string ⟨#[48, 49, 50, 51, 52, 53, 54, 55, 56, 57]⟩] w fun e w' => e = .returned (.tuple #[.string (bsOf (tkD L)), .string (bsOf (dpD L))]) ∧ Below w.heap.size w w' := by
  have TD := hid (fun w => trimDg_any L w)
  have hd := dp_len L
  have hs1 : (bsOf L).size = L.length := bs_size L
  have hs2 : (bsOf (dpD L)).size = (dpD L).length := bs_size _
  have hw : IntKind.i64.wrap ((L.length : Int) - ((dpD L).length : Int)) = ((tkD L).length : Int) := by rw [IntWalk.i64_in _ (by omega)]; omega
  have s1 := slice_to (P := Tryz.prog) Tryz.underlying9 L ((tkD L).length : Int) (by omega) (by omega)
  rw [Int.toNat_natCast, take_tk] at s1
  generalize dpD L = R at *
  generalize hTK : tkD L = K at *
  generalize K.length = n at *
  clear hd hTK
  go_enter Tryz.func190, Tryz.ntmps190
  go_wp2_with (go_at_call 105; (with_reducible refine (TD.out _).mono ?_); rintro en w1 ⟨rfl, hb1⟩)
  go_ret2
  exact ⟨rfl, hb1⟩
end Go.Proofs.YthaelmnblgollaaGreatDoor


set_option linter.unusedVariables false
set_option linter.unusedSimpArgs false
namespace Go.Ulp
open Go.RowKit
def RetNm (w : World) (x : Int) (c : Bool) (k : Int) (e : Ending) (w' : World) : Prop := e = .returned (.tuple #[.int .u64 x, .bool c, .int .i64 k]) ∧ Below w.heap.size w w'
end Go.Ulp
namespace Go.Proofs.YthaelmnblgollaaGreatDoor
open Go.RowKit Go.Ulp
set_option linter.unusedVariables false
set_option linter.unusedSimpArgs false
set_option maxHeartbeats 2000000
set_option maxRecDepth 100000
end Go.Proofs.YthaelmnblgollaaGreatDoor
set_option linter.unusedVariables false
set_option linter.unusedSimpArgs false
namespace Go.Proofs.YthaelmnblgollaaGreatDoor
open Go.RowKit Go.Ulp
set_option linter.unusedVariables false
set_option linter.unusedSimpArgs false
set_option maxHeartbeats 2000000
set_option maxRecDepth 100000
end Go.Proofs.YthaelmnblgollaaGreatDoor

set_option linter.unusedVariables false
set_option linter.unusedSimpArgs false
namespace Go.Ulp
open Go.RowKit
/-- a digit's sign -/
def hxc (d : Nat) : UInt8 := if d < 10 then UInt8.ofNat (48 + d) else UInt8.ofNat (87 + d)
/-- the lowest n digits -/
def hxD : Nat → Nat → List UInt8
  | 0, _ => []
  | n + 1, m => hxc (m / 16 ^ n % 16) :: hxD n m
theorem hxD_len : ∀ n m, (hxD n m).length = n
  | 0, _ => rfl
  | n + 1, m => by show (hxD n m).length + 1 = n + 1; rw [hxD_len n m]
theorem hx_str : ∀ d : Nat, d < 16 → (ByteArray.mk #[48, 49, 50, 51, 52, 53, 54, 55, 56, 57, 97, 98, 99, 100, 101, 102]).extract d (d + 1) = ⟨#[hxc d]⟩ := by decide
end Go.Ulp

set_option linter.unusedVariables false
set_option linter.unusedSimpArgs false
namespace Go.Ulp
open Go.RowKit
/-- behind the digits: the exponent -/
def hxP (p : Int) : List UInt8 := 112 :: (if p < 0 then 45 else 43) :: decD p.natAbs
/-- a number in sixteens: m's lowest digits behind the point -/
def hxT (neg : Bool) (n m : Nat) (p : Int) : List UInt8 := dsh neg (48 :: 120 :: 49 :: ((if n = 0 then [] else 46 :: hxD n m) ++ hxP p))
end Go.Ulp
namespace Go.Proofs.YthaelmnblgollaaGreatDoor
open Go.RowKit Go.Ulp
set_option linter.unusedVariables false
set_option linter.unusedSimpArgs false
set_option maxHeartbeats 2000000
set_option maxRecDepth 100000
end Go.Proofs.YthaelmnblgollaaGreatDoor

set_option linter.unusedVariables false
set_option linter.unusedSimpArgs false
namespace Go.Ulp
open Go.RowKit
def hfM (E : Dy) (n : Nat) : Nat := E.1.natAbs * 2 ^ (E.2 - hfK E + 4 * (n : Int)).toNat
end Go.Ulp

set_option linter.unusedVariables false
set_option linter.unusedSimpArgs false
namespace Go.Ulp
open Go.RowKit
theorem dval_drop_le (L : List Nat) (k : Nat) (h : k ≤ L.length) : dval (L.drop k) ≤ dval L := by
  have h1 := val_take_drop 10000 L k h
  have h2 : 0 < 10000 ^ k := Nat.pow_pos (by omega)
  have h3 : dval L = val 10000 (L.take k) + 10000 ^ k * val 10000 (L.drop k) := h1
  have h4 := Nat.le_mul_of_pos_left (val 10000 (L.drop k)) h2
  show val 10000 (L.drop k) ≤ _
  omega
theorem QW.zv {tq ti : TypeId} {w : World} {g : Nat} {D : Dy} {A T : Nat} {X : Int} {n : Nat} {ao : Option Addr} {cap : Nat} (h : QW tq ti w g D A T X n ao cap) (hN : Nz ti w ao cap (zl X)) : ZV tq ti w g X := ⟨ao, cap, h.1.1, hN⟩
end Go.Ulp
namespace Go.Proofs.YthaelmnblgollaaGreatDoor
open Go.RowKit Go.Ulp
set_option linter.unusedVariables false
set_option linter.unusedSimpArgs false
set_option maxHeartbeats 2000000
set_option maxRecDepth 100000
theorem zInt_any (x : Int) (a0 : Option Addr) (c0 : Nat) (w : World) (h0 : Nz 3 w a0 c0 (zl x)) (hx : -4611686018427387904 ≤ x ∧ x ≤ 4611686018427387904) :
    Calls Tryz.prog 126 #[.agg #[.bool (zneg x), .slice a0 (zl x).length c0]] w fun e w' => e = .returned (.int .i64 x) ∧ Below w.heap.size w w' := by
  have HL := hid (zl_dec x)
  have hcap := h0.1.1
  have hcap2 := h0.1.2.1
  unfold maxLen at hcap2
  have H3 := hid h0.1.2.2
  have HV := hid (dval_zl x)
  have hng : zneg x = decide (x < 0) := rfl
  obtain ⟨L, hL⟩ : ∃ L, L = zl x := ⟨_, rfl⟩
  rw [← hL] at HL H3 HV hcap ⊢
  obtain ⟨N, hN⟩ : ∃ N, N = L.length := ⟨_, rfl⟩
  have DS := hid (show ∀ i, i < N → dval (L.drop i) = L.getD i 0 + 10000 * dval (L.drop (i + 1)) from fun i hi => dval_drop L i (by omega))
  have DL := hid (show ∀ i, i ≤ N → dval (L.drop i) ≤ 4611686018427387904 from fun i hi => by have := dval_drop_le L i (by omega); have := HV.out; omega)
  have DE := hid (show dval (L.drop N) = 0 from by rw [List.drop_of_length_le (by omega)]; rfl)
  have D0 := hid (show dval (L.drop 0) = x.natAbs from by rw [List.drop_zero]; exact HV.out)
  rw [← hN] at H3 hcap ⊢
  have zA : ZL 39 (w.alloc (.cells #[.bool (zneg x), .slice a0 N c0] 39)) w.heap.size (zneg x) (.slice a0 N c0) := ZL.made rfl
  have yb := below_alloc w (.cells #[.bool (zneg x), .slice a0 N c0] 39)
  obtain ⟨W0, hW0⟩ : ∃ W, W = w.alloc (.cells #[.bool (zneg x), .slice a0 N c0] 39) := ⟨_, rfl⟩
  rw [← hW0] at zA yb
  have HC := hid (show ∀ i, i < N → ∃ b off, a0 = some ⟨b, off, none⟩ ∧ W0.cell? ⟨b, off + i, none⟩ = some (.int .i64 ((L.getD i 0 : Nat) : Int)) from fun i hi => by
    obtain ⟨b, off, e, hc⟩ := H3.out (by omega)
    exact ⟨b, off, e, (yb.cell (p := ⟨b, off + i, none⟩) (World.block_lt_of_cell? _ _ (hc i hi))).trans (hc i hi)⟩)
  obtain ⟨B, hB⟩ : ∃ b, b = zneg x := ⟨_, rfl⟩
  rw [← hB] at zA hW0 ⊢
  rw [hng] at hB
  have HB := hid hB
  clear h0 hL hN hng hB H3 HL HV
  go_enter Tryz.func126, Tryz.ntmps126
  go_upto_region 1 with fail
  rw [← hW0]
  clear hW0
  obtain ⟨j0, j1, -, -, -⟩ := id zA
  go_wp2_with fail
  go_loopw [3, 4] (fun s3 s4 wr => ∃ k : Int, -1 ≤ k ∧ k < N ∧ s4 = .int .i64 k ∧ s3 = .int .i64 (dval (L.drop (k + 1).toNat) : Int) ∧ wr = W0) (fun _ s4 _ => (intOf s4 + 1).toNat)
  case atStart => exact ⟨(N : Int) - 1, by omega, by omega, rfl, by rw [show ((N : Int) - 1 + 1).toNat = N by omega, DE.out]; rfl, rfl⟩
  case round =>
    obtain ⟨k, hk1, hk2, rfl, rfl, rfl⟩ := hrel
    by_cases hk : k < 0
    · have hcc : ¬ 0 ≤ k := by omega
      have hT : dval (L.drop (k + 1).toNat) = x.natAbs := by rw [show (k + 1).toNat = 0 by omega]; exact D0.out
      rw [hT]
      clear hT DS DL DE D0 HC hk1 hk2 hk
      obtain ⟨n, hn⟩ : ∃ n, n = x.natAbs := ⟨_, rfl⟩
      rw [← hn]
      have hn8 : n ≤ 4611686018427387904 := by omega
      have hw1 : IntKind.i64.wrap (-(n : Int)) = -(n : Int) := IntWalk.i64_in _ (by omega)
      have HF := hid (show x = if B = true then -(n : Int) else (n : Int) by
        rw [HB.out, hn]; by_cases h : x < 0
        · rw [decide_eq_true h, if_pos rfl]; omega
        · rw [decide_eq_false h, if_neg (by simp)]; omega)
      clear hn HB hx
      cases B
      · have HF2 := hid (show x = (n : Int) from HF.out)
        clear HF
        go_wp2_with fail
        go_ret
        exact ⟨by rw [HF2.out]; rfl, yb⟩
      · have HF2 := hid (show x = -(n : Int) from HF.out)
        clear HF
        go_wp2_with fail
        go_ret
        exact ⟨by rw [HF2.out]; rfl, yb⟩
    · obtain ⟨i, rfl⟩ := Int.eq_ofNat_of_zero_le (show 0 ≤ k by omega)
      obtain ⟨b, off, rfl, hcell⟩ := HC.out i (by omega)
      have hst := DS.out i (by omega)
      have hle := DL.out i (by omega)
      rw [show ((i : Int) + 1).toNat = i + 1 by omega]
      obtain ⟨d, hd⟩ : ∃ d, d = L.getD i 0 := ⟨_, rfl⟩
      obtain ⟨m, hm⟩ : ∃ m, m = dval (L.drop (i + 1)) := ⟨_, rfl⟩
      rw [← hd] at hcell hst
      rw [← hm] at hst ⊢
      have HST := hid hst
      have hb8 : d + 10000 * m ≤ 4611686018427387904 := by omega
      have hw1 : IntKind.i64.wrap (10000 * (m : Int)) = 10000 * (m : Int) := IntWalk.i64_in _ (by omega)
      have hw2 : IntKind.i64.wrap (10000 * (m : Int) + (d : Int)) = 10000 * (m : Int) + (d : Int) := IntWalk.i64_in _ (by omega)
      have hw3 : IntKind.i64.wrap ((i : Int) - 1) = (i : Int) - 1 := IntWalk.i64_in _ (by omega)
      clear hd hm hst hle DS DL DE D0 HC
      go_wp2_with fail
      go_roundw
      case rel => exact ⟨(i : Int) - 1, by omega, by omega, rfl, by rw [show ((i : Int) - 1 + 1).toNat = i by omega, HST.out]; congr 1; omega, by first | rfl | trivial⟩
      case measure => first | (simp [intOf]; done) | (simp [intOf]; omega)
theorem zIntD (v : Value) (x : Int) (w : World) (hv : ZD 3 w x v) (hx : -4611686018427387904 ≤ x ∧ x ≤ 4611686018427387904) : Calls Tryz.prog 126 #[v] w fun e w' => e = .returned (.int .i64 x) ∧ Below w.heap.size w w' := by
  obtain ⟨a, c, rfl, h⟩ := hv
  exact zInt_any x a c w h hx
theorem twoExp_any (p : Int) (hp : -30000 ≤ p ∧ p ≤ 30000) (w : World) :
    Calls Tryz.prog 268 #[.int .i64 p] w fun e w' => e = .returned (.string (bsOf (hxP p))) ∧ w = w' := by
  by_cases h : p < 0
  · have hw1 : IntKind.i64.wrap (-p) = -p := IntWalk.i64_in _ (by omega)
    obtain ⟨n, hn⟩ : ∃ n : Nat, -p = (n : Int) := ⟨p.natAbs, by omega⟩
    have hpn : p = -(n : Int) := by omega
    subst hpn
    have DG := hid (fun w => digits_any 5 n (by omega) (by omega) w)
    have hl := decD_len 5 n (by omega)
    have HR := hid (show hxP (-(n : Int)) = 112 :: 45 :: decD n by unfold hxP; rw [if_pos h]; congr 3; omega)
    have hA := add_bs (P := Tryz.prog) [112, 45] (decD n) (by simp; omega)
    have hb : (ByteArray.mk #[112, 45]) = bsOf [112, 45] := rfl
    generalize decD n = D at *
    have hnn : - -(n : Int) = (n : Int) := by omega
    go_enter Tryz.func268, Tryz.ntmps268
    go_wp2_with (go_at_call 143; (with_reducible refine (DG.out _).mono ?_); rintro en w1 ⟨rfl, rfl⟩)
    go_ret
    exact ⟨by rw [HR.out]; rfl, rfl⟩
  · obtain ⟨n, rfl⟩ := Int.eq_ofNat_of_zero_le (show 0 ≤ p by omega)
    have DG := hid (fun w => digits_any 5 n (by omega) (by omega) w)
    have hl := decD_len 5 n (by omega)
    have HR := hid (show hxP (n : Int) = 112 :: 43 :: decD n by unfold hxP; rw [if_neg h]; congr 3)
    have hA := add_bs (P := Tryz.prog) [112, 43] (decD n) (by simp; omega)
    have hb : (ByteArray.mk #[112, 43]) = bsOf [112, 43] := rfl
    generalize decD n = D at *
    go_enter Tryz.func268, Tryz.ntmps268
    go_wp2_with (go_at_call 143; (with_reducible refine (DG.out _).mono ?_); rintro en w1 ⟨rfl, rfl⟩)
    go_ret
    exact ⟨by rw [HR.out]; rfl, rfl⟩
theorem hx_cut (d : Nat) (hd : d < 16) (w : World) : (Instr.slice 9 (.string (ByteArray.mk #[48, 49, 50, 51, 52, 53, 54, 55, 56, 57, 97, 98, 99, 100, 101, 102])) (some (.int .i64 (d : Int))) (some (.int .i64 ((d : Int) + 1))) none).run Tryz.prog w = .ok (.string (bsOf [hxc d])) w := by
  have e1 : (d : Int).toNat = d := by omega
  have e2 : ((d : Int) + 1).toNat = d + 1 := by omega
  rw [run_slice_string w 9 _ _ _ _ _ Tryz.underlying9 (by omega) (by omega) (by show _ ≤ ((16 : Nat) : Int); omega), e1, e2, hx_str d hd]
  rfl
theorem sixteens_any (m n : Nat) (v : Value) (w : World) (hv : ZD 3 w (m : Int) v) (hl : (zl (m : Int)).length ≤ 900000) (hn : n ≤ 1000) :
    Calls Tryz.prog 227 #[v, .int .i64 (n : Int)] w fun e w' => e = .returned (.string (bsOf (hxD n m))) ∧ Below w.heap.size w w' := by
  obtain ⟨a0, c0, rfl, hN⟩ := hv
  have HL := hid (fun i => Nat.le_trans (zl_len_le (x := ((m / 16 ^ i : Nat) : Int)) (y := (m : Int)) (by rw [Int.natAbs_natCast, Int.natAbs_natCast]; exact Nat.div_le_self _ _)) hl)
  have zA0 := zv_made (tz := 39) hN w.heap.size rfl
  have yb0 := below_alloc w (.cells #[.bool (zneg (m : Int)), .slice a0 (zl (m : Int)).length c0] 39)
  go_enter Tryz.func227, Tryz.ntmps227
  go_upto_region 1 with fail
  refine wp_worldZ (fun WW => Below w.heap.size w WW ∧ ZV 39 3 WW w.heap.size (m : Int)) ⟨yb0, zA0⟩ ?_
  intro W1 ⟨y1, z2⟩
  obtain ⟨g2, hg2⟩ : ∃ g, g = w.heap.size := ⟨_, rfl⟩
  have b2 : w.heap.size ≤ g2 := by omega
  rw [← hg2] at z2 ⊢
  clear hg2 zA0 yb0 hN
  have Z2 := hid z2
  clear z2
  go_wp2_with fail
  go_loopw [5, 6, 7, 9] (fun s5 s6 s7 s9 wr => ∃ i : Nat, i ≤ n ∧ s9 = .int .i64 (i : Int) ∧ s5 = .string (bsOf (hxD i m)) ∧ ZV 39 3 wr g2 ((m / 16 ^ i : Nat) : Int) ∧ Below w.heap.size w wr) (fun _ _ _ s9 _ => n - (intOf s9).toNat)
  case atStart => exact ⟨0, by omega, rfl, rfl, by rw [Nat.pow_zero, Nat.div_one]; exact Z2.out, y1⟩
  case round =>
    obtain ⟨i, hi, rfl, rfl, z2, yr⟩ := hrel
    clear Z2 y1
    by_cases hin : i < n
    · have hl9 := HL.out i
      have HQ := hid (show m / 16 ^ (i + 1) = m / 16 ^ i / 16 by rw [Nat.pow_succ, Nat.div_div_eq_div_mul])
      have HD := hid (show hxD (i + 1) m = hxc (m / 16 ^ i % 16) :: hxD i m from rfl)
      have hTl := hxD_len i m
      obtain ⟨q, hq⟩ : ∃ q, q = m / 16 ^ i := ⟨_, rfl⟩
      obtain ⟨T, hT⟩ : ∃ T, T = hxD i m := ⟨_, rfl⟩
      rw [← hq] at hl9 HQ HD z2
      rw [← hT] at HD hTl ⊢
      clear hq hT
      have l16 : (zl 16).length ≤ 900000 := by decide
      obtain ⟨d, hd⟩ : ∃ d, d = q % 16 := ⟨_, rfl⟩
      have hd16 : d < 16 := by omega
      rw [← hd] at HD
      have HQD := hid (show (q : Int) % 16 = (d : Int) by omega)
      obtain ⟨r, hr⟩ : ∃ r, r = q / 16 := ⟨_, rfl⟩
      have HQQ := hid (show (q : Int) / 16 = (r : Int) by omega)
      rw [← hr] at HQ
      have ZI := hid (fun v w h => zIntD v (d : Int) w h (by omega))
      have hCU := hx_cut d hd16
      have hAD := add_bs (P := Tryz.prog) [hxc d] T (by simp; omega)
      clear hd hr
      go_upto_region 4 with fail
      obtain ⟨W4, hW4⟩ : ∃ W, W = wr := ⟨_, rfl⟩
      subst hW4
      refine wp_region_growL 8 5 [12, 13, 14, 11, 15, 16, 6, 7] [Fact.z 3 ((q : Int)), Fact.z 3 (16), Fact.z2 3 ((r : Int)) ((d : Int)), Fact.z2 3 ((r : Int)) ((d : Int)), Fact.z 3 ((r : Int)), Fact.z 3 ((d : Int)), Fact.z0 W4.heap.size 39, Fact.z0 W4.heap.size 39] [6, 7] (by kernel_rfl) (by kernel_rfl) rfl ⟨?o0, ?o1, ?o2, ?o3, ?o4, ?o5, ?o6, ?o7, trivial⟩ ?late (fun d _ _ _ _ h => by cases d <;> exact h) ?after
      case o0 => (refine StepOKF.plain rfl ?_; intro ρ w1 R hρ hb hp hR; have e2 : ρ (.tmp 2) = .pointer (some ⟨g2, 0, none⟩) := hρ.tmp 2 rfl; obtain ⟨ya9, yc9, yj9, yn9⟩ := ZV.below z2 hb; obtain ⟨j90, j91, -⟩ := yj9; replace hR := fun v w2 h1 h2 => hR v w2 h1 h2 (fun h => absurd h (by decide)); have hcon := hρ.con; have hfn := hρ.fn; clear hρ hp; unfold OpRun; go_simp; exact hR _ _ (Below.refl _ _) ⟨ya9, yc9, rfl, yn9⟩)
      case o1 => (refine StepOKF.plain rfl ?_; intro ρ w1 R hρ hb hp hR; replace hR := fun v w2 h1 h2 => hR v w2 h1 h2 (fun h => absurd h (by decide)); have hcon := hρ.con; have hfn := hρ.fn; clear hρ hp; unfold OpRun; go_simp; (refine (zND _ (by omega) (by omega) _).mono ?_; rintro e wn ⟨v9, rfl, hz9, hbn⟩; exact ⟨_, rfl, hR _ _ hbn hz9⟩))
      case o2 => (refine StepOKF.plain rfl ?_; intro ρ w1 R hρ hb hp hR; have f12 := hp 0 12 rfl rfl; have f13 := hp 1 13 rfl rfl; replace hR := fun v w2 h1 h2 => hR v w2 h1 h2 (fun h => absurd h (by decide)); have hcon := hρ.con; have hfn := hρ.fn; clear hρ hp; unfold OpRun; go_simp; (refine (zdivD _ _ _ _ _ f12 f13 (by first | assumption | omega) (by first | assumption | omega) (by first | assumption | omega)).mono ?_; rintro e wn ⟨v9, rfl, hz9, hbn⟩; exact ⟨_, rfl, hR _ _ hbn (by rw [← HQQ.out, ← HQD.out]; exact hz9)⟩))
      case o3 => (refine StepOKF.plain rfl ?_; intro ρ w1 R hρ hb hp hR; have f14 := hp 2 14 rfl rfl; replace hR := fun v w2 h1 h2 => hR v w2 h1 h2 (fun h => absurd h (by decide)); have hcon := hρ.con; have hfn := hρ.fn; clear hρ hp; unfold OpRun; go_simp; exact hR _ _ (Below.refl _ _) f14)
      case o4 => (refine StepOKF.plain rfl ?_; intro ρ w1 R hρ hb hp hR; have f11 := hp 3 11 rfl rfl; replace hR := fun v w2 h1 h2 => hR v w2 h1 h2 (fun h => absurd h (by decide)); have hcon := hρ.con; have hfn := hρ.fn; clear hρ hp; unfold OpRun; go_simp; (obtain ⟨a97, b97, e97, h97, k97⟩ := ZD2.parts f11; rw [e97]; exact hR _ _ (Below.refl _ _) h97))
      case o5 => (refine StepOKF.plain rfl ?_; intro ρ w1 R hρ hb hp hR; have f11 := hp 3 11 rfl rfl; replace hR := fun v w2 h1 h2 => hR v w2 h1 h2 (fun h => absurd h (by decide)); have hcon := hρ.con; have hfn := hρ.fn; clear hρ hp; unfold OpRun; go_simp; (obtain ⟨a97, b97, e97, h97, k97⟩ := ZD2.parts f11; rw [e97]; exact hR _ _ (Below.refl _ _) k97))
      case o6 => (refine StepOKF.plain rfl ?_; intro ρ w1 R hρ hb hp hR; have hcon := hρ.con; have hfn := hρ.fn; clear hρ hp; unfold OpRun; go_simp; exact hR _ _ (below_alloc _ _) ⟨_, rfl, hb.size, ZL.made rfl⟩ (fun _ => ⟨_, rfl, Nat.le_refl _, by simp⟩))
      case o7 => (refine StepOKF.plain rfl ?_; intro ρ w1 R hρ hb hp hR; have hcon := hρ.con; have hfn := hρ.fn; clear hρ hp; unfold OpRun; go_simp; exact hR _ _ (below_alloc _ _) ⟨_, rfl, hb.size, ZL.made rfl⟩ (fun _ => ⟨_, rfl, Nat.le_refl _, by simp⟩))
      case late =>
        intro o ho
        simp only [List.getElem?_cons_succ, List.getElem?_cons_zero, Option.some.injEq] at ho
        subst ho
        refine ⟨rfl, ?_⟩
        intro ρ w1 hρ hb hp
        have f11 := hp 3 11 rfl rfl
        obtain ⟨a97, b97, e97, h97, k97⟩ := ZD2.parts f11
        refine ⟨_, ?_, k97⟩
        intro w2
        have hcon := hρ.con
        go_simp
        try rfl
      case after =>
        intro u wn hb hf hd
        have f15 := hf 4 15 (by omega) rfl
        have f16 := hf 5 16 (by omega) rfl
        have f6 := hf 6 6 (by omega) rfl
        have f7 := hf 7 7 (by omega) rfl
        have d6_7 : u 6 ≠ u 7 := hd 6 7 6 7 (by omega) (by omega) (by omega) rfl rfl rfl rfl
        clear hf hd
        simp only [putAll, Act.put, List.setIfInBounds_toArray, List.set_cons_zero, List.set_cons_succ, List.drop_succ_cons, List.drop_zero, List.drop_nil]
        obtain ⟨xa1, xc1, xe1, xn1⟩ := f15
        obtain ⟨xa2, xc2, xe2, xn2⟩ := f16
        obtain ⟨gv6, eg1, hg1, zz1⟩ := f6
        obtain ⟨gv7, eg2, hg2, zz2⟩ := f7
        have gne : gv6 ≠ gv7 := by intro h; apply d6_7; rw [eg1, eg2, h]
        rw [xe1, xe2, eg1, eg2]
        clear xe1 xe2 eg1 eg2 d6_7
        have zst := zv_store2 (by decide) hb hg1 hg2 gne zz1 zz2 xn1 xn2
        obtain ⟨k0, k1, kf0, kf1, -⟩ := id zz1
        obtain ⟨l0, l1, lf0, lf1, -⟩ := id zz2
        go_upto_region 5 with fail
        clear k0 k1 kf0 kf1 l0 l1 lf0 lf1 zz1 zz2 xn1 xn2 hb
        refine wp_worldZ (fun WW => Below _ _ WW ∧ ZV _ _ WW _ _ ∧ ZV _ _ WW _ _) zst ?_
        clear zst
        intro W5 ⟨y5, z6, z7⟩
        have z2a := z2.below y5
        have ya := below_trans yr y5
        clear z2 yr y5 hg1 hg2 gne
        obtain ⟨W6, hW6⟩ : ∃ W, W = W5 := ⟨_, rfl⟩
        subst hW6
        have hwd : IntKind.i64.wrap ((d : Int) + 1) = (d : Int) + 1 := IntWalk.i64_in _ (by omega)
        refine wp_region_grow 8 [17, 18, 19, 20, 21, 22, 23, 24] [Fact.z 3 ((d : Int)), Fact.is (.int .i64 (d : Int)), Fact.z 3 ((d : Int)), Fact.is (.int .i64 (d : Int)), Fact.is (.int .i64 ((d : Int) + 1)), Fact.is (.string (bsOf [hxc d])), Fact.is (.string (bsOf T)), Fact.is (.string (bsOf (hxc d :: T)))] (by kernel_rfl) (by kernel_rfl) ⟨?o0, ?o1, ?o2, ?o3, ?o4, ?o5, ?o6, ?o7, trivial⟩ ?after
        case o0 => (refine StepOK.plain rfl ?_; intro ρ w1 R hρ hb hp hR; have e7 : ρ (.tmp 7) = .pointer (some ⟨gv7, 0, none⟩) := hρ.tmp 7 rfl; obtain ⟨ya9, yc9, yj9, yn9⟩ := ZV.below z7 hb; obtain ⟨j90, j91, -⟩ := yj9; have hcon := hρ.con; have hfn := hρ.fn; clear hρ hp; unfold OpRun; go_simp; exact hR _ _ (Below.refl _ _) ⟨ya9, yc9, rfl, yn9⟩)
        case o1 => (refine StepOK.plain rfl ?_; intro ρ w1 R hρ hb hp hR; have f17 := hp 0 17 rfl rfl; have hcon := hρ.con; have hfn := hρ.fn; clear hρ hp; unfold OpRun; go_simp; (refine (ZI.out _ _ f17).mono ?_; rintro e wn ⟨rfl, hbn⟩; exact ⟨_, rfl, hR _ _ hbn rfl⟩))
        case o2 => (refine StepOK.plain rfl ?_; intro ρ w1 R hρ hb hp hR; have e7 : ρ (.tmp 7) = .pointer (some ⟨gv7, 0, none⟩) := hρ.tmp 7 rfl; obtain ⟨ya9, yc9, yj9, yn9⟩ := ZV.below z7 hb; obtain ⟨j90, j91, -⟩ := yj9; have hcon := hρ.con; have hfn := hρ.fn; clear hρ hp; unfold OpRun; go_simp; exact hR _ _ (Below.refl _ _) ⟨ya9, yc9, rfl, yn9⟩)
        case o3 => (refine StepOK.plain rfl ?_; intro ρ w1 R hρ hb hp hR; have f19 := hp 2 19 rfl rfl; have hcon := hρ.con; have hfn := hρ.fn; clear hρ hp; unfold OpRun; go_simp; (refine (ZI.out _ _ f19).mono ?_; rintro e wn ⟨rfl, hbn⟩; exact ⟨_, rfl, hR _ _ hbn rfl⟩))
        case o4 => (refine StepOK.plain rfl ?_; intro ρ w1 R hρ hb hp hR; have e20 : ρ (.tmp 20) = _ := hp 3 20 rfl rfl; have hcon := hρ.con; have hfn := hρ.fn; clear hρ hp; unfold OpRun; go_simp; exact hR _ _ (Below.refl _ _) rfl)
        case o5 => (refine StepOK.plain rfl ?_; intro ρ w1 R hρ hb hp hR; have e18 : ρ (.tmp 18) = _ := hp 1 18 rfl rfl; have e21 : ρ (.tmp 21) = _ := hp 4 21 rfl rfl; have hcon := hρ.con; have hfn := hρ.fn; clear hρ hp; unfold OpRun; go_simp; exact hR _ _ (Below.refl _ _) rfl)
        case o6 => (refine StepOK.plain rfl ?_; intro ρ w1 R hρ hb hp hR; have e5 : ρ (.tmp 5) = .string (bsOf T) := hρ.tmp 5 rfl; have hcon := hρ.con; have hfn := hρ.fn; clear hρ hp; unfold OpRun; go_simp; exact hR _ _ (Below.refl _ _) rfl)
        case o7 => (refine StepOK.plain rfl ?_; intro ρ w1 R hρ hb hp hR; have e22 : ρ (.tmp 22) = _ := hp 5 22 rfl rfl; have e23 : ρ (.tmp 23) = _ := hp 6 23 rfl rfl; have hcon := hρ.con; have hfn := hρ.fn; clear hρ hp; unfold OpRun; go_simp; exact hR _ _ (Below.refl _ _) rfl)
        case after =>
          intro u wn hb hf
          have e24 : u 24 = _ := hf 7 24 (by omega) rfl
          clear hf
          simp only [putAll, Act.put, List.setIfInBounds_toArray, List.set_cons_zero, List.set_cons_succ, List.drop_succ_cons, List.drop_zero, List.drop_nil]
          rw [e24]
          have yb := below_trans ya hb
          obtain ⟨a6, c6, zl6, n6⟩ := z6.below hb
          obtain ⟨a2, c2, zl2, n2⟩ := z2a.below hb
          have zst := zv_store1 (by decide) yb b2 zl2 n6
          obtain ⟨j0, j1, -⟩ := zl6
          obtain ⟨k0, k1, kf0, kf1, -⟩ := id zl2
          clear z6 z7 z2a hb ya n2
          go_wp2_with fail
          go_roundw
          case rel => exact ⟨i + 1, by omega, by go_num, by rw [HD.out], by rw [HQ.out]; exact zst.2, zst.1⟩
          case measure => first | (simp [intOf]; done) | (simp [intOf]; omega)
    · have hin2 : i = n := by omega
      subst hin2
      go_wp2_with fail
      go_ret
      exact ⟨rfl, yr⟩
theorem topBit_any (v : Value) (D : Dy) (A T : Nat) (w : World) (hv : QD 3 w D A T v) (hA : A ≤ 1000000) (hT : T ≤ 1000000) (hD : D.1 ≠ 0) (hk : -3000 ≤ hfK D ∧ hfK D ≤ 1030) :
    Calls Tryz.prog 266 #[v] w fun e w' => e = .returned (.int .i64 (hfK D)) ∧ Below w.heap.size w w' := by
  have QAb := hid (fun v w h => qabs_any v D A T w h (by omega) (by omega))
  have ZN1 := hid (zN_any 1 (by omega))
  have QM := hid (fun k (h : -3000 ≤ k ∧ k ≤ 1030) a c w h0 => qmake_any a c 1 k 2 3000 w h0 (by decide) (by omega) (by omega) (by omega))
  have QC := hid (fun k v u w k0 k1 => qcmp_any v u (nrm 1 k) (absD D) (2 + 3000) 3000 A T w k0 k1 (by omega) (by omega) (by omega) (by omega))
  have CT := hid (fun k => cmp_top2 D k hD)
  obtain ⟨K, hK⟩ : ∃ K, K = hfK D := ⟨_, rfl⟩
  rw [← hK] at hk CT ⊢
  obtain ⟨X, n, ao, cap, rfl, hN, hDX⟩ := hv
  have hQ : QD 3 w D A T (.agg #[.bool (zneg X), .slice ao (zl X).length cap, .int .i64 (n : Int)]) := ⟨X, n, ao, cap, rfl, hN, hDX⟩
  have q0 := QW.made (tq := 41) hQ
  have yb0 := below_alloc w (.cells #[.bool (zneg X), .slice ao (zl X).length cap, .int .i64 (n : Int)] 41)
  clear hN hDX hK hQ hD
  go_enter Tryz.func266, Tryz.ntmps266
  go_upto_region 1 with fail
  refine wp_worldZ (fun WW => Below w.heap.size w WW ∧ QW 41 3 WW w.heap.size D A T X n ao cap) ⟨yb0, q0⟩ ?_
  intro W1 ⟨y1, q1⟩
  obtain ⟨g1, hg1⟩ : ∃ g, g = w.heap.size := ⟨_, rfl⟩
  rw [← hg1] at q1 ⊢
  clear hg1 q0 yb0
  have Q1 := hid q1
  clear q1
  go_wp2_with fail
  go_loopw [3] (fun s3 wr => ∃ k : Int, K ≤ k ∧ k ≤ 1030 ∧ s3 = .int .i64 k ∧ QW 41 3 wr g1 D A T X n ao cap ∧ Below w.heap.size w wr) (fun s3 _ => (intOf s3 + 5000).toNat)
  case atStart => exact ⟨1030, by omega, by omega, rfl, Q1.out, y1⟩
  case round =>
    obtain ⟨k, hk1, hk2, rfl, q1, yr⟩ := hrel
    clear Q1 y1
    have QM1 := hid (fun a c w h0 => QM.out k (by omega) a c w h0)
    have QC1 := hid (QC.out k)
    have CT1 := hid (CT.out k)
    clear QM QC CT
    obtain ⟨c, hc⟩ : ∃ c, c = cmpD (nrm 1 k) (absD D) := ⟨_, rfl⟩
    rw [← hc] at QC1 CT1
    obtain ⟨E, hE⟩ : ∃ E, E = nrm 1 k := ⟨_, rfl⟩
    rw [← hE] at QM1 QC1
    obtain ⟨b, hb0⟩ : ∃ b, b = decide (0 < c) := ⟨_, rfl⟩
    have HB1 := hid (show b = decide (K < k) by rw [hb0, decide_eq_decide]; exact CT1.out)
    clear hc hE CT1
    obtain ⟨W4, hW4⟩ : ∃ W, W = wr := ⟨_, rfl⟩
    subst hW4
    have HB0 := hid hb0.symm
    clear hb0
    go_upto_region 2 with fail
    refine wp_region_grow 7 [4, 5, 6, 7, 8, 9, 10] [Fact.z 3 1, Fact.is (.int .i64 k), Fact.q 3 E (2 + 3000) 3000, Fact.is (.agg #[.bool (zneg X), .slice ao (zl X).length cap, .int .i64 (n : Int)]), Fact.q 3 (absD D) A T, Fact.is (.int .i64 c), Fact.is (.bool b)] (by kernel_rfl) (by kernel_rfl) ⟨?o0, ?o1, ?o2, ?o3, ?o4, ?o5, ?o6, trivial⟩ ?after
    case o0 => (refine StepOK.plain rfl ?_; intro ρ w1 R hρ hb hp hR; have hcon := hρ.con; have hfn := hρ.fn; clear hρ hp; unfold OpRun; go_simp; (refine (ZN1.out _).mono ?_; rintro e wn ⟨az, cz, rfl, hz9, hbn⟩; exact ⟨_, rfl, hR _ _ hbn ⟨az, cz, rfl, hz9⟩⟩))
    case o1 => (refine StepOK.plain rfl ?_; intro ρ w1 R hρ hb hp hR; have e3 : ρ (.tmp 3) = .int .i64 k := hρ.tmp 3 rfl; have hcon := hρ.con; have hfn := hρ.fn; clear hρ hp; unfold OpRun; go_simp; exact hR _ _ (Below.refl _ _) rfl)
    case o2 => (refine StepOK.plain rfl ?_; intro ρ w1 R hρ hb hp hR; have f4 := hp 0 4 rfl rfl; have e5 : ρ (.tmp 5) = _ := hp 1 5 rfl rfl; obtain ⟨a4, c4, e4, hz4⟩ := f4; have hcon := hρ.con; have hfn := hρ.fn; clear hρ hp; unfold OpRun; go_simp; (skip; refine (QM1.out _ _ _ hz4).mono ?_; rintro e wn ⟨v9, rfl, hv9, hbn⟩; exact ⟨_, rfl, hR _ _ hbn hv9⟩))
    case o3 => (refine StepOK.plain rfl ?_; intro ρ w1 R hρ hb hp hR; have e1 : ρ (.tmp 1) = .pointer (some ⟨g1, 0, none⟩) := hρ.tmp 1 rfl; obtain ⟨j0, j1, j2⟩ := (q1.below hb).cells; have hcon := hρ.con; have hfn := hρ.fn; clear hρ hp; unfold OpRun; go_simp; exact hR _ _ (Below.refl _ _) rfl)
    case o4 => (refine StepOK.plain rfl ?_; intro ρ w1 R hρ hb hp hR; have e7 : ρ (.tmp 7) = _ := hp 3 7 rfl rfl; have hcon := hρ.con; have hfn := hρ.fn; clear hρ hp; unfold OpRun; go_simp; (refine (QAb.out _ _ (q1.below hb).2).mono ?_; rintro e wn ⟨v9, rfl, hv9, hbn⟩; exact ⟨_, rfl, hR _ _ hbn hv9⟩))
    case o5 => (refine StepOK.plain rfl ?_; intro ρ w1 R hρ hb hp hR; have f6 := hp 2 6 rfl rfl; have f8 := hp 4 8 rfl rfl; have hcon := hρ.con; have hfn := hρ.fn; clear hρ hp; unfold OpRun; go_simp; (refine (QC1.out _ _ _ f6 f8).mono ?_; rintro e wn ⟨rfl, hbn⟩; exact ⟨_, rfl, hR _ _ hbn rfl⟩))
    case o6 => (refine StepOK.plain rfl ?_; intro ρ w1 R hρ hb hp hR; have e9 : ρ (.tmp 9) = _ := hp 5 9 rfl rfl; have hx9 := HB0.out; have hcon := hρ.con; have hfn := hρ.fn; clear hρ hp; unfold OpRun; go_simp; exact hR _ _ (Below.refl _ _) rfl)
    case after =>
      intro u wn hb hf
      have e10 : u 10 = _ := hf 6 10 (by omega) rfl
      clear hf
      simp only [putAll, Act.put, List.setIfInBounds_toArray, List.set_cons_zero, List.set_cons_succ, List.drop_succ_cons, List.drop_zero, List.drop_nil]
      rw [e10]
      have q2 := q1.below hb
      have y2 := below_trans yr hb
      have hb1 := HB1.out
      clear q1 yr hb
      by_cases hlt : K < k
      · rw [decide_eq_true hlt] at hb1
        subst hb1
        have hw1 : IntKind.i64.wrap (k - 1) = k - 1 := IntWalk.i64_in _ (by omega)
        go_wp2_with fail
        go_roundw
        case rel => exact ⟨k - 1, by omega, by omega, rfl, q2, y2⟩
        case measure => first | (simp [intOf]; done) | (simp [intOf]; omega)
      · rw [decide_eq_false hlt] at hb1
        subst hb1
        have hkk : k = K := by omega
        subst hkk
        go_wp2_with fail
        go_ret
        exact ⟨rfl, y2⟩
end Go.Proofs.YthaelmnblgollaaGreatDoor
