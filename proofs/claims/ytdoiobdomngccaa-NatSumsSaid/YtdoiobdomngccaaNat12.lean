/- nat: Cmp Add Sub Mul Div of lists as they are handed in (printed by nat12.py). -/
import Derived.Test.YtdoiobdomngccaaNat11
import Derived.Test.YtdoiobdomngccaaNat4
set_option linter.unusedVariables false
set_option linter.unusedSimpArgs false
namespace Go.Ulp
open Go.RowKit
/-- an answer: t0 tells what is wrong; else the number n -/
def SaysN (t0 : Int) (n : Nat) (w : World) (e : Ending) (w' : World) : Prop :=
  ∃ ro rn rc t, e = .returned (.tuple #[.slice ro rn rc, .int .i64 t]) ∧ Below w.heap.size w w' ∧ (t0 ≠ 0 → rn = 0 ∧ t = t0) ∧ (t0 = 0 → t = 0 ∧ rn = (limbs n).length ∧ Ns .u32 w' ro rc (limbs n))
def SaysN2 (t0 : Int) (q r : Nat) (w : World) (e : Ending) (w' : World) : Prop :=
  ∃ ro rn rc so sn sc t, e = .returned (.tuple #[.slice ro rn rc, .slice so sn sc, .int .i64 t]) ∧ Below w.heap.size w w' ∧ (t0 ≠ 0 → rn = 0 ∧ sn = 0 ∧ t = t0) ∧ (t0 = 0 → t = 0 ∧ rn = (limbs q).length ∧ Ns .u32 w' ro rc (limbs q) ∧ sn = (limbs r).length ∧ Ns .u32 w' so sc (limbs r))
def SaysI (t0 : Int) (n : Int) (w : World) (e : Ending) (w' : World) : Prop :=
  ∃ v t, e = .returned (.tuple #[.int .i64 v, .int .i64 t]) ∧ Below w.heap.size w w' ∧ (t0 ≠ 0 → v = 0 ∧ t = t0) ∧ (t0 = 0 → t = 0 ∧ v = n)
theorem bs2 (w : World) (x y : Value) (t : TypeId) : (w.alloc (.cells #[x, y] t)).cell? ⟨w.heap.size, 0, none⟩ = some x ∧ (w.alloc (.cells #[x, y] t)).cell? ⟨w.heap.size, 1, none⟩ = some y := by
  refine ⟨?_, ?_⟩ <;> (rw [World.cell?_alloc_at (hn := rfl)]; rfl)
end Go.Ulp
namespace Go.Proofs.Ytdoiobdomngccaa
open Go.RowKit Go.Ulp
set_option linter.unusedVariables false
set_option linter.unusedSimpArgs false
set_option maxHeartbeats 1000000
set_option maxRecDepth 100000
theorem natCmp_says (a0 a1 : Option Addr) (c0 c1 : Nat) (L M : List Nat) (w : World) (lL : Lim L) (lM : Lim M) (h0 : Ns .u32 w a0 c0 L) (h1 : Ns .u32 w a1 c1 M) :
    Calls Try.prog 60 #[.slice a0 L.length c0, .slice a1 M.length c1] w (SaysI (limbE2 L M) (cmpI (lval L) (lval M)) w) := by
  have hb := below_alloc w (.cells #[.slice a0 L.length c0, .slice a1 M.length c1] 80)
  have CK := hid (natcheck_any w.heap.size a0 a1 c0 c1 L M (w.alloc (.cells #[.slice a0 L.length c0, .slice a1 M.length c1] 80)) (bs2 _ _ _ _).1 (bs2 _ _ _ _).2 (h0.below hb) (h1.below hb))
  by_cases ht : limbE2 L M = 0
  · obtain ⟨e1, e2⟩ := limbE2_zero ht
    obtain ⟨l1, t1⟩ := limbE_zero e1
    obtain ⟨l2, t2⟩ := limbE_zero e2
    have s1 := limbs_self lL t1
    have s2 := limbs_self lM t2
    obtain ⟨m, hm⟩ : ∃ m, m = lval L := ⟨_, rfl⟩
    obtain ⟨n, hn⟩ : ∃ n, n = lval M := ⟨_, rfl⟩
    rw [← hm] at s1 ⊢
    rw [← hn] at s2 ⊢
    subst s1 s2
    clear e1 e2 t1 t2 hm hn lL lM
    rw [ht] at CK
    have CC := hid (compare_any a0 a1 c0 c1 m n _ (h0.below hb) (h1.below hb))
    clear h0 h1
    rw [ht]
    clear ht
    go_enter Try.func60, Try.ntmps60
    go_wp2_with (first | (go_at_call 116; refine (CK.out).mono ?_; rintro e w' ⟨rfl, rfl⟩) | (go_at_call 117; (with_reducible refine CC.out.mono ?_); rintro e w1 ⟨rfl, nq, rfl⟩))
    go_ret2
    exact ⟨_, 0, rfl, below_drewN hb nq, fun h => absurd rfl h, fun _ => ⟨rfl, rfl⟩⟩
  · have htb : (limbE2 L M == 0) = false := by simpa using ht
    generalize limbE2 L M = t at *
    go_enter Try.func60, Try.ntmps60
    go_wp2_with (go_at_call 116; refine (CK.out).mono ?_; rintro e w' ⟨rfl, rfl⟩)
    go_ret2
    exact ⟨0, t, rfl, hb, fun _ => ⟨rfl, rfl⟩, fun h => absurd h ht⟩
theorem natAdd_says (a0 a1 : Option Addr) (c0 c1 : Nat) (L M : List Nat) (w : World) (lL : Lim L) (lM : Lim M) (h0 : Ns .u32 w a0 c0 L) (h1 : Ns .u32 w a1 c1 M) :
    Calls Try.prog 61 #[.slice a0 L.length c0, .slice a1 M.length c1] w (SaysN (limbE2 L M) (lval L + lval M) w) := by
  have hb := below_alloc w (.cells #[.slice a0 L.length c0, .slice a1 M.length c1] 80)
  have CK := hid (natcheck_any w.heap.size a0 a1 c0 c1 L M (w.alloc (.cells #[.slice a0 L.length c0, .slice a1 M.length c1] 80)) (bs2 _ _ _ _).1 (bs2 _ _ _ _).2 (h0.below hb) (h1.below hb))
  by_cases ht : limbE2 L M = 0
  · obtain ⟨e1, e2⟩ := limbE2_zero ht
    obtain ⟨l1, t1⟩ := limbE_zero e1
    obtain ⟨l2, t2⟩ := limbE_zero e2
    have s1 := limbs_self lL t1
    have s2 := limbs_self lM t2
    obtain ⟨m, hm⟩ : ∃ m, m = lval L := ⟨_, rfl⟩
    obtain ⟨n, hn⟩ : ∃ n, n = lval M := ⟨_, rfl⟩
    rw [← hm] at s1 ⊢
    rw [← hn] at s2 ⊢
    subst s1 s2
    clear e1 e2 t1 t2 hm hn lL lM
    rw [ht] at CK
    have CC := hid (plus_any a0 a1 c0 c1 m n _ (h0.below hb) (h1.below hb) (by omega) (by omega))
    clear h0 h1
    rw [ht]
    clear ht
    go_enter Try.func61, Try.ntmps61
    go_wp2_with (first | (go_at_call 116; refine (CK.out).mono ?_; rintro e w' ⟨rfl, rfl⟩) | (go_at_call 118; (with_reducible refine CC.out.mono ?_); rintro e w1 ⟨ao, rfl, hN, hb1⟩))
    go_ret2
    exact ⟨_, _, _, 0, rfl, hb.trans (hb1.mono hb.size), fun h => absurd rfl h, fun _ => ⟨rfl, rfl, hN⟩⟩
  · have htb : (limbE2 L M == 0) = false := by simpa using ht
    generalize limbE2 L M = t at *
    go_enter Try.func61, Try.ntmps61
    go_wp2_with (go_at_call 116; refine (CK.out).mono ?_; rintro e w' ⟨rfl, rfl⟩)
    go_ret2
    exact ⟨none, 0, 0, t, rfl, hb, fun _ => ⟨rfl, rfl⟩, fun h => absurd h ht⟩
theorem natMul_says (a0 a1 : Option Addr) (c0 c1 : Nat) (L M : List Nat) (w : World) (lL : Lim L) (lM : Lim M) (h0 : Ns .u32 w a0 c0 L) (h1 : Ns .u32 w a1 c1 M) :
    Calls Try.prog 63 #[.slice a0 L.length c0, .slice a1 M.length c1] w (SaysN (limbE2 L M) (lval L * lval M) w) := by
  have hb := below_alloc w (.cells #[.slice a0 L.length c0, .slice a1 M.length c1] 80)
  have CK := hid (natcheck_any w.heap.size a0 a1 c0 c1 L M (w.alloc (.cells #[.slice a0 L.length c0, .slice a1 M.length c1] 80)) (bs2 _ _ _ _).1 (bs2 _ _ _ _).2 (h0.below hb) (h1.below hb))
  by_cases ht : limbE2 L M = 0
  · obtain ⟨e1, e2⟩ := limbE2_zero ht
    obtain ⟨l1, t1⟩ := limbE_zero e1
    obtain ⟨l2, t2⟩ := limbE_zero e2
    have s1 := limbs_self lL t1
    have s2 := limbs_self lM t2
    obtain ⟨m, hm⟩ : ∃ m, m = lval L := ⟨_, rfl⟩
    obtain ⟨n, hn⟩ : ∃ n, n = lval M := ⟨_, rfl⟩
    rw [← hm] at s1 ⊢
    rw [← hn] at s2 ⊢
    subst s1 s2
    clear e1 e2 t1 t2 hm hn lL lM
    rw [ht] at CK
    have CC := hid (times_any a0 a1 c0 c1 m n _ (h0.below hb) (h1.below hb) (by omega) (by omega))
    clear h0 h1
    rw [ht]
    clear ht
    go_enter Try.func63, Try.ntmps63
    go_wp2_with (first | (go_at_call 116; refine (CK.out).mono ?_; rintro e w' ⟨rfl, rfl⟩) | (go_at_call 120; (with_reducible refine CC.out.mono ?_); rintro e w1 ⟨ao, rfl, hN, hb1⟩))
    go_ret2
    exact ⟨_, _, _, 0, rfl, hb.trans (hb1.mono hb.size), fun h => absurd rfl h, fun _ => ⟨rfl, rfl, hN⟩⟩
  · have htb : (limbE2 L M == 0) = false := by simpa using ht
    generalize limbE2 L M = t at *
    go_enter Try.func63, Try.ntmps63
    go_wp2_with (go_at_call 116; refine (CK.out).mono ?_; rintro e w' ⟨rfl, rfl⟩)
    go_ret2
    exact ⟨none, 0, 0, t, rfl, hb, fun _ => ⟨rfl, rfl⟩, fun h => absurd h ht⟩
theorem natSub_says (a0 a1 : Option Addr) (c0 c1 : Nat) (L M : List Nat) (w : World) (lL : Lim L) (lM : Lim M) (h0 : Ns .u32 w a0 c0 L) (h1 : Ns .u32 w a1 c1 M) :
    Calls Try.prog 62 #[.slice a0 L.length c0, .slice a1 M.length c1] w (SaysN (if limbE2 L M ≠ 0 then limbE2 L M else if lval L < lval M then 1 else 0) (lval L - lval M) w) := by
  have hb := below_alloc w (.cells #[.slice a0 L.length c0, .slice a1 M.length c1] 80)
  have CK := hid (natcheck_any w.heap.size a0 a1 c0 c1 L M (w.alloc (.cells #[.slice a0 L.length c0, .slice a1 M.length c1] 80)) (bs2 _ _ _ _).1 (bs2 _ _ _ _).2 (h0.below hb) (h1.below hb))
  by_cases ht : limbE2 L M = 0
  · obtain ⟨e1, e2⟩ := limbE2_zero ht
    obtain ⟨l1, t1⟩ := limbE_zero e1
    obtain ⟨l2, t2⟩ := limbE_zero e2
    have s1 := limbs_self lL t1
    have s2 := limbs_self lM t2
    obtain ⟨m, hm⟩ : ∃ m, m = lval L := ⟨_, rfl⟩
    obtain ⟨n, hn⟩ : ∃ n, n = lval M := ⟨_, rfl⟩
    rw [← hm] at s1 ⊢
    rw [← hn] at s2 ⊢
    subst s1 s2
    clear e1 e2 t1 t2 hm hn lL lM
    rw [ht] at CK
    have CP := compare_any a0 a1 c0 c1 m n _ (h0.below hb) (h1.below hb)
    by_cases hmn : m < n
    · rw [show cmpI m n = -1 by unfold cmpI; rw [if_pos (by omega)]] at CP
      have CP := hid CP
      rw [if_neg (fun h => h ht), if_pos hmn]
      clear h0 h1 ht
      go_enter Try.func62, Try.ntmps62
      go_wp2_with (first | (go_at_call 116; refine (CK.out).mono ?_; rintro e w' ⟨rfl, rfl⟩) | (go_at_call 117; (with_reducible refine CP.out.mono ?_); rintro e w1 ⟨rfl, nq, rfl⟩))
      go_ret2
      exact ⟨none, 0, 0, 1, rfl, below_drewN hb nq, fun _ => ⟨rfl, rfl⟩, fun h => by cases h⟩
    · have hcm : ¬ cmpI m n < 0 := by unfold cmpI; split <;> (try split) <;> omega
      generalize cmpI m n = cm at CP hcm
      have CP := hid CP
      have CC := hid (fun w h0 h1 => minus_any a0 a1 c0 c1 m n w h0 h1 (by omega) (by omega))
      have G0 := hid (h0.below hb)
      have G1 := hid (h1.below hb)
      rw [if_neg (fun h => h ht), if_neg hmn]
      clear h0 h1 ht
      go_enter Try.func62, Try.ntmps62
      go_wp2_with (first | (go_at_call 116; refine (CK.out).mono ?_; rintro e w' ⟨rfl, rfl⟩) | (go_at_call 117; (with_reducible refine CP.out.mono ?_); rintro e w1 ⟨rfl, nq, rfl⟩) | (go_at_call 119; (with_reducible refine (CC.out _ (G0.out.below (below_drewN (Below.refl _ _) nq)) (G1.out.below (below_drewN (Below.refl _ _) nq))).mono ?_); rintro e w1 ⟨ao, rfl, hN, hb1⟩))
      go_ret2
      exact ⟨_, _, _, 0, rfl, (below_drewN hb nq).trans (hb1.mono hb.size), fun h => absurd rfl h, fun _ => ⟨rfl, rfl, hN⟩⟩
  · have htb : (limbE2 L M == 0) = false := by simpa using ht
    generalize limbE2 L M = t at *
    go_enter Try.func62, Try.ntmps62
    go_wp2_with (go_at_call 116; refine (CK.out).mono ?_; rintro e w' ⟨rfl, rfl⟩)
    go_ret2
    exact ⟨none, 0, 0, t, rfl, hb, fun _ => ⟨rfl, rfl⟩, fun h => absurd h ht⟩
theorem natDiv_says (a0 a1 : Option Addr) (c0 c1 : Nat) (L M : List Nat) (w : World) (lL : Lim L) (lM : Lim M) (h0 : Ns .u32 w a0 c0 L) (h1 : Ns .u32 w a1 c1 M) :
    Calls Try.prog 64 #[.slice a0 L.length c0, .slice a1 M.length c1] w (SaysN2 (if limbE2 L M ≠ 0 then limbE2 L M else if lval M = 0 then 1 else 0) (lval L / lval M) (lval L % lval M) w) := by
  have hb := below_alloc w (.cells #[.slice a0 L.length c0, .slice a1 M.length c1] 80)
  have CK := hid (natcheck_any w.heap.size a0 a1 c0 c1 L M (w.alloc (.cells #[.slice a0 L.length c0, .slice a1 M.length c1] 80)) (bs2 _ _ _ _).1 (bs2 _ _ _ _).2 (h0.below hb) (h1.below hb))
  by_cases ht : limbE2 L M = 0
  · obtain ⟨e1, e2⟩ := limbE2_zero ht
    obtain ⟨l1, t1⟩ := limbE_zero e1
    obtain ⟨l2, t2⟩ := limbE_zero e2
    have s1 := limbs_self lL t1
    have s2 := limbs_self lM t2
    obtain ⟨m, hm⟩ : ∃ m, m = lval L := ⟨_, rfl⟩
    obtain ⟨n, hn⟩ : ∃ n, n = lval M := ⟨_, rfl⟩
    rw [← hm] at s1 ⊢
    rw [← hn] at s2 ⊢
    subst s1 s2
    clear e1 e2 t1 t2 hm hn lL lM
    rw [ht] at CK
    by_cases hn0 : n = 0
    · subst hn0
      rw [if_neg (fun h => h ht), if_pos rfl]
      clear h0 h1 ht
      rw [limbs_zero, List.length_nil] at *
      go_enter Try.func64, Try.ntmps64
      go_wp2_with (go_at_call 116; refine (CK.out).mono ?_; rintro e w' ⟨rfl, rfl⟩)
      go_ret3
      exact ⟨none, 0, 0, none, 0, 0, 1, rfl, hb, fun _ => ⟨rfl, rfl, rfl⟩, fun h => by cases h⟩
    · have CC := hid (over_any a0 a1 c0 c1 m n _ (h0.below hb) (h1.below hb) (by omega) (by omega))
      have hlp : 0 < (limbs n).length := (digs_len_pos 4294967296 (by omega) n).2 (by omega)
      rw [if_neg (fun h => h ht), if_neg hn0]
      clear h0 h1 ht
      go_enter Try.func64, Try.ntmps64
      go_wp2_with (first | (go_at_call 116; refine (CK.out).mono ?_; rintro e w' ⟨rfl, rfl⟩) | (go_at_call 121; (with_reducible refine CC.out.mono ?_); rintro e w1 ⟨ao, cap, bo, cbp, rfl, hN, hN2, hb1⟩))
      go_ret3
      exact ⟨_, _, _, _, _, _, 0, rfl, hb.trans (hb1.mono hb.size), fun h => absurd rfl h, fun _ => ⟨rfl, rfl, hN, rfl, hN2⟩⟩
  · have htb : (limbE2 L M == 0) = false := by simpa using ht
    generalize limbE2 L M = t at *
    go_enter Try.func64, Try.ntmps64
    go_wp2_with (go_at_call 116; refine (CK.out).mono ?_; rintro e w' ⟨rfl, rfl⟩)
    go_ret3
    exact ⟨none, 0, 0, none, 0, 0, t, rfl, hb, fun _ => ⟨rfl, rfl, rfl⟩, fun h => absurd h ht⟩
end Go.Proofs.Ytdoiobdomngccaa
