/- TopRoot: what the proof leans on, part 15 (ShelfP Rp1). -/
import Derived.Shelf.Pu.ParseUintPublic10
import Derived.Ground.MpProg
import Derived.Test.YtpgmchpdpgahfaaGreatDoorProg
import Derived.Test.YtpgmchpdpgahfaaGreatDoorKTopRoot8
namespace Go.Proofs
open Go.Shelf
def Tryz.laysPu14_ren : Go.Shelf.Ren := ⟨fun | 14 => 82 | 16 => 109 | 17 => 105 | 19 => 121 | 20 => 122 | 21 => 115 | 22 => 116 | 23 => 117 | 24 => 118 | 25 => 128 | 27 => 61 | 26 => 129 | 28 => 93 | 29 => 111 | 30 => 124 | 31 => 125 | 32 => 126 | 33 => 127 | 35 => 135 | 34 => 134 | 36 => 136 | 37 => 137 | 38 => 138 | 39 => 75 | 40 => 140 | n => n, fun | 9 => 9 | 3 => 3 | 22 => 22 | 24 => 102 | 25 => 120 | 4 => 4 | 34 => 151 | 5 => 5 | 36 => 38 | 37 => 97 | 0 => 0 | 39 => 154 | 21 => 21 | 44 => 166 | 47 => 138 | 50 => 182 | 48 => 180 | 2 => 2 | 52 => 160 | 55 => 162 | 59 => 177 | 60 => 66 | 20 => 20 | 61 => 178 | 65 => 141 | 66 => 183 | 67 => 106 | n => n, fun | 0 => 2 | 1 => 3 | 2 => 6 | 3 => 0 | 4 => 7 | n => n⟩
theorem Tryz.laysPu14 : LaysPu.n14 Tryz.prog Tryz.laysPu14_ren := {
  mixed := by kernel_rfl
  f14 := Tryz.func82.trans (congrArg some (by kernel_rfl))
  f16 := Tryz.func109.trans (congrArg some (by kernel_rfl))
  f17 := Tryz.func105.trans (congrArg some (by kernel_rfl))
  f19 := Tryz.func121.trans (congrArg some (by kernel_rfl))
  f20 := Tryz.func122.trans (congrArg some (by kernel_rfl))
  f21 := Tryz.func115.trans (congrArg some (by kernel_rfl))
  f22 := Tryz.func116.trans (congrArg some (by kernel_rfl))
  f23 := Tryz.func117.trans (congrArg some (by kernel_rfl))
  f24 := Tryz.func118.trans (congrArg some (by kernel_rfl))
  f25 := Tryz.func128.trans (congrArg some (by kernel_rfl))
  f26 := Tryz.func129.trans (congrArg some (by kernel_rfl))
  f27 := Tryz.func61.trans (congrArg some (by kernel_rfl))
  f28 := Tryz.func93.trans (congrArg some (by kernel_rfl))
  f29 := Tryz.func111.trans (congrArg some (by kernel_rfl))
  f30 := Tryz.func124.trans (congrArg some (by kernel_rfl))
  f31 := Tryz.func125.trans (congrArg some (by kernel_rfl))
  f32 := Tryz.func126.trans (congrArg some (by kernel_rfl))
  f33 := Tryz.func127.trans (congrArg some (by kernel_rfl))
  f34 := Tryz.func134.trans (congrArg some (by kernel_rfl))
  f35 := Tryz.func135.trans (congrArg some (by kernel_rfl))
  f36 := Tryz.func136.trans (congrArg some (by kernel_rfl))
  f37 := Tryz.func137.trans (congrArg some (by kernel_rfl))
  f38 := Tryz.func138.trans (congrArg some (by kernel_rfl))
  f39 := Tryz.func75.trans (congrArg some (by kernel_rfl))
  f40 := Tryz.func140.trans (congrArg some (by kernel_rfl))
  t0 := Tryz.underlying0
  a0 := Tryz.isAgg0
  z0 := Tryz.sizeOf0
  v0 := Tryz.zeroValue0
  i0 := by kernel_rfl
  t2 := Tryz.underlying2
  a2 := Tryz.isAgg2
  z2 := Tryz.sizeOf2
  v2 := Tryz.zeroValue2
  i2 := by kernel_rfl
  t3 := Tryz.underlying3
  a3 := Tryz.isAgg3
  z3 := Tryz.sizeOf3
  v3 := Tryz.zeroValue3
  i3 := by kernel_rfl
  t4 := Tryz.underlying4
  a4 := Tryz.isAgg4
  z4 := Tryz.sizeOf4
  v4 := Tryz.zeroValue4
  i4 := by kernel_rfl
  t5 := Tryz.underlying5
  a5 := Tryz.isAgg5
  z5 := Tryz.sizeOf5
  v5 := Tryz.zeroValue5
  i5 := by kernel_rfl
  t9 := Tryz.underlying9
  a9 := Tryz.isAgg9
  z9 := Tryz.sizeOf9
  v9 := Tryz.zeroValue9
  i9 := by kernel_rfl
  t20 := Tryz.underlying20
  a20 := Tryz.isAgg20
  z20 := Tryz.sizeOf20
  v20 := Tryz.zeroValue20
  i20 := by kernel_rfl
  t21 := Tryz.underlying21
  a21 := Tryz.isAgg21
  z21 := Tryz.sizeOf21
  v21 := Tryz.zeroValue21
  i21 := by kernel_rfl
  t22 := Tryz.underlying22
  a22 := Tryz.isAgg22
  z22 := Tryz.sizeOf22
  v22 := Tryz.zeroValue22
  i22 := by kernel_rfl
  t24 := Tryz.underlying102
  a24 := Tryz.isAgg102
  z24 := Tryz.sizeOf102
  v24 := Tryz.zeroValue102
  i24 := by kernel_rfl
  t25 := Tryz.underlying120
  a25 := Tryz.isAgg120
  z25 := Tryz.sizeOf120
  v25 := Tryz.zeroValue120
  i25 := by kernel_rfl
  t34 := Tryz.underlying151
  a34 := Tryz.isAgg151
  z34 := Tryz.sizeOf151
  v34 := Tryz.zeroValue151
  i34 := by kernel_rfl
  c34 := by kernel_rfl
  t36 := Tryz.underlying38
  a36 := Tryz.isAgg38
  z36 := Tryz.sizeOf38
  v36 := Tryz.zeroValue38
  i36 := by kernel_rfl
  t37 := Tryz.underlying97
  a37 := Tryz.isAgg97
  z37 := Tryz.sizeOf97
  v37 := Tryz.zeroValue97
  i37 := by kernel_rfl
  t39 := Tryz.underlying154
  a39 := Tryz.isAgg154
  z39 := Tryz.sizeOf154
  v39 := Tryz.zeroValue154
  i39 := by kernel_rfl
  t44 := Tryz.underlying166
  a44 := Tryz.isAgg166
  z44 := Tryz.sizeOf166
  v44 := Tryz.zeroValue166
  i44 := by kernel_rfl
  t47 := Tryz.underlying138
  a47 := Tryz.isAgg138
  z47 := Tryz.sizeOf138
  v47 := Tryz.zeroValue138
  i47 := by kernel_rfl
  t48 := Tryz.underlying180
  a48 := Tryz.isAgg180
  z48 := Tryz.sizeOf180
  v48 := Tryz.zeroValue180
  i48 := by kernel_rfl
  t50 := Tryz.underlying182
  a50 := Tryz.isAgg182
  z50 := Tryz.sizeOf182
  v50 := Tryz.zeroValue182
  i50 := by kernel_rfl
  t52 := Tryz.underlying160
  a52 := Tryz.isAgg160
  z52 := Tryz.sizeOf160
  v52 := Tryz.zeroValue160
  i52 := by kernel_rfl
  t55 := Tryz.underlying162
  a55 := Tryz.isAgg162
  z55 := Tryz.sizeOf162
  v55 := Tryz.zeroValue162
  i55 := by kernel_rfl
  t59 := Tryz.underlying177
  a59 := Tryz.isAgg177
  z59 := Tryz.sizeOf177
  v59 := Tryz.zeroValue177
  i59 := by kernel_rfl
  t60 := Tryz.underlying66
  a60 := Tryz.isAgg66
  z60 := Tryz.sizeOf66
  v60 := Tryz.zeroValue66
  i60 := by kernel_rfl
  t61 := Tryz.underlying178
  a61 := Tryz.isAgg178
  z61 := Tryz.sizeOf178
  t65 := Tryz.underlying141
  a65 := Tryz.isAgg141
  z65 := Tryz.sizeOf141
  v65 := Tryz.zeroValue141
  i65 := by kernel_rfl
  t66 := Tryz.underlying183
  a66 := Tryz.isAgg183
  z66 := Tryz.sizeOf183
  v66 := Tryz.zeroValue183
  i66 := by kernel_rfl
  t67 := Tryz.underlying106
  a67 := Tryz.isAgg106
  z67 := Tryz.sizeOf106
  v67 := Tryz.zeroValue106
  i67 := by kernel_rfl
  g0 := by kernel_rfl
  m0 := by kernel_rfl
  g1 := by kernel_rfl
  m1 := by kernel_rfl
  g2 := by kernel_rfl
  m2 := by kernel_rfl
  g3 := by kernel_rfl
  m3 := by kernel_rfl
  g4 := by kernel_rfl
  m4 := by kernel_rfl }
/-- a text that spells a uint64 -/
theorem Tryz.strconv_ParseUint (s : ByteArray) (hmax : s.size ≤ 9223372036854775806) (u : Nat) (h : Lib.parseUintB 64 s.data.toList = .ok u) (w : World) :
    Calls Tryz.prog 82 #[.string s, .int .i64 10, .int .i64 64] w fun e w' => e = .returned (.tuple #[.int .u64 u, .nilIface]) ∧ (w' = w ∨ w' = Lib.bytesWorld w 5 s) := Any.strconv_ParseUint_10_at64_ok Tryz.laysPu14 s hmax u h w
end Go.Proofs

set_option linter.unusedVariables false
set_option linter.unusedSimpArgs false
namespace Go.Ulp
open Go.RowKit
theorem rvs_nat9 (a : Nat) : rvs (a : Int) = (rvi a : Int) := by unfold rvs; rw [if_neg (by omega), Int.natAbs_natCast]
/-- a rank's value against A by B, and twice A by B against it and the next one -/
def rdC (K A B : Nat) (l : Int) : Int := cmpI (rvs l * (B : Int)) ((A : Int) * pw K)
def rdM (K A B : Nat) (l : Int) : Int := cmpI ((rvs l + rvs (l + 1)) * (B : Int)) (2 * ((A : Int) * pw K))
/-- what the reference answers -/
def rdU (K A B : Nat) (mode l : Int) : Bool := decide (mode = 1 ∨ (mode = 0 ∧ (rdM K A B l < 0 ∨ (rdM K A B l = 0 ∧ l % 2 = 1))) ∨ (mode = 4 ∧ rdM K A B l ≤ 0))
def rdA (K A B : Nat) (mode l : Int) : Int × Bool := if rdC K A B l = 0 then (l, false) else if rdU K A B mode l = true then (l + 1, true) else (l, true)
def swM (mode : Int) : Int := if mode = 1 then 2 else if mode = 2 then 1 else mode
theorem up_sw (odd : Bool) (half mode : Int) (m0 : 0 ≤ mode) (m1 : mode ≤ 4) : upN true odd half mode = upN false odd half (swM mode) := by
  unfold upN swM
  by_cases h1 : mode = 1
  · subst h1; rfl
  by_cases h2 : mode = 2
  · subst h2; rfl
  rw [if_neg h1, if_neg h2, if_neg h1, if_neg h2, if_neg h1, if_neg h2]
theorem over_sw (mode : Int) (m0 : 0 ≤ mode) (m1 : mode ≤ 4) : overA true mode = overA false (swM mode) := by
  have : mode = 0 ∨ mode = 1 ∨ mode = 2 ∨ mode = 3 ∨ mode = 4 := by omega
  rcases this with h | h | h | h | h <;> subst h <;> rfl
theorem num_sw (M : Nat) (e mode : Int) (m0 : 0 ≤ mode) (m1 : mode ≤ 4) : numX true M e mode = numX false M e (swM mode) + 9223372036854775808 ∧ numC true M e mode = numC false M e (swM mode) := by
  have hc : ∀ j, cutN true M j mode = cutN false M j (swM mode) := by
    intro j
    unfold cutN
    split
    · rfl
    · rw [up_sw _ _ mode m0 m1]
  have hr : numR true M e mode = numR false M e (swM mode) := by
    unfold numR; rw [hc]
  unfold numX numC
  rw [hr]
  refine ⟨?_, rfl⟩
  unfold capX
  rw [over_sw mode m0 m1]
  have s1 : sgb true = 9223372036854775808 := rfl
  have s0 : sgb false = 0 := rfl
  rw [s1, s0]
  split
  · omega
  · omega
/-- two numbers that compare alike with all ranks and what is between them -/
def SameC (s : Nat) (V : Int) (K A B : Nat) : Prop := (∀ r : Nat, (r : Int) ≤ 9218868437227405312 → cR s V r = rdC K A B r) ∧ (∀ r : Nat, (r : Int) < 9218868437227405312 → cM s V r = -rdM K A B r)
theorem read_pos (M : Nat) (e mode : Int) (K A B s l : Nat) (m0 : 0 ≤ mode) (m1 : mode ≤ 4) (hM : 0 < M) (hs : 0 ≤ e + 1074 + s) (SC : SameC s ((M * 2 ^ (e + 1074 + s).toNat : Nat) : Int) K A B)
    (l1 : (l : Int) < 9218868437227405312) (l2 : rdC K A B l ≤ 0) (l3 : (l : Int) + 1 = 9218868437227405312 ∨ 0 < rdC K A B ((l : Int) + 1)) :
    (numX false M e mode, numC false M e mode) = rdA K A B mode l := by
  have a := number_rnd false M e mode s m0 m1 (fun h => rfl) hs
  obtain ⟨V, hV⟩ : ∃ V : Nat, V = M * 2 ^ (e + 1074 + s).toNat := ⟨_, rfl⟩
  rw [← hV] at a SC
  have hVp : 0 < V := by rw [hV]; exact Nat.mul_pos hM (Nat.two_pow_pos _)
  have cl : cR s (sg false (V : Int)) (l : Int) = rdC K A B l := SC.1 l (by omega)
  have cl1 := SC.1 (l + 1) (by omega)
  have cm : cM s (sg false (V : Int)) (l : Int) = -rdM K A B l := SC.2 l l1
  rw [show ((l + 1 : Nat) : Int) = (l : Int) + 1 by omega] at cl1
  have low : IsLow (cR s (sg false (V : Int))) l := ⟨by omega, l1, .inr (by rw [cl]; exact l2), by
    show (l : Int) + 1 = _ ∨ 0 < cR s (V : Int) ((l : Int) + 1)
    rw [cl1]; exact l3⟩
  obtain ⟨l', lw, an⟩ := a
  have hl := low_uniq lw low
  subst hl
  have hcz : cmpI (sg false (V : Int)) 0 = 1 := by
    show cmpI (V : Int) 0 = 1
    unfold cmpI; split
    · omega
    · split <;> omega
  rw [an, hcz]
  unfold ansR rdA
  rw [cl, cm, show decide ((1 : Int) < 0) = false from rfl, tell_pos _ (by omega), tell_pos _ (by omega), ranked_pos _ (by omega)]
  by_cases hz : rdC K A B l = 0
  · rw [if_pos ⟨by omega, hz⟩, if_pos hz]
  · rw [if_neg (fun h => hz h.2), if_neg hz]
    have hu : upR false mode (-rdM K A B l) ((l : Int) + 1) = rdU K A B mode l := by
      unfold upR rdU
      by_cases h0 : rdM K A B l = 0
      · by_cases hm0 : mode = 0
        · rw [if_pos ⟨by omega, hm0⟩, decide_eq_decide]; omega
        · rw [if_neg (fun h => hm0 h.2)]
          by_cases hm4 : mode = 4
          · rw [if_pos ⟨by omega, hm4⟩, eq_comm]; exact decide_eq_true (by omega)
          · rw [if_neg (fun h => hm4 h.2), decide_eq_decide]
            simp only [Bool.false_eq_true, and_false, false_or]
            omega
      · rw [if_neg (fun h => h0 (by omega)), if_neg (fun h => h0 (by omega)), decide_eq_decide]
        simp only [Bool.false_eq_true, and_false, false_or]
        omega
    rw [hu]
/-- with a sign -/
theorem read_sg (neg : Bool) (M : Nat) (e mode : Int) (K A B s l : Nat) (m0 : 0 ≤ mode) (m1 : mode ≤ 4) (hM : 0 < M) (hs : 0 ≤ e + 1074 + s) (SC : SameC s ((M * 2 ^ (e + 1074 + s).toNat : Nat) : Int) K A B)
    (l1 : (l : Int) < 9218868437227405312) (l2 : rdC K A B l ≤ 0) (l3 : (l : Int) + 1 = 9218868437227405312 ∨ 0 < rdC K A B ((l : Int) + 1)) :
    numX neg M e mode = (rdA K A B (if neg = true then swM mode else mode) l).1 + sgb neg ∧ numC neg M e mode = (rdA K A B (if neg = true then swM mode else mode) l).2 := by
  cases neg
  · have h := read_pos M e mode K A B s l m0 m1 hM hs SC l1 l2 l3
    rw [if_neg (by simp), ← h]
    exact ⟨by show _ = _ + 0; omega, rfl⟩
  · have hsw : 0 ≤ swM mode ∧ swM mode ≤ 4 := by unfold swM; split <;> (try split) <;> omega
    have h := read_pos M e (swM mode) K A B s l hsw.1 hsw.2 hM hs SC l1 l2 l3
    obtain ⟨h1, h2⟩ := num_sw M e mode m0 m1
    rw [if_pos rfl, ← h, h1, h2]
    exact ⟨rfl, rfl⟩
theorem cmpI_scale (a b k : Int) (hk : 0 < k) : cmpI (a * k) (b * k) = cmpI a b := by
  rcases Int.lt_trichotomy a b with h | h | h
  · have := Int.mul_lt_mul_of_pos_right h hk
    rw [show cmpI a b = -1 by unfold cmpI; rw [if_pos h]]
    unfold cmpI; rw [if_pos this]
  · subst h
    rw [(cmpI_eq_zero _ _).2 rfl, (cmpI_eq_zero _ _).2 rfl]
  · have := Int.mul_lt_mul_of_pos_right h hk
    have e1 : cmpI a b = 1 := by unfold cmpI; rw [if_neg (by omega), if_pos h]
    rw [e1]
    unfold cmpI; rw [if_neg (by omega), if_pos this]
theorem rvi_rep3 (n : Nat) : ∃ q h, rvi n = q * 2 ^ h ∧ rvi (n + 1) = (q + 1) * 2 ^ h ∧ q < 9007199254740992 := by
  by_cases hn : n < 4503599627370496
  · have := rvi_parts 0 n (by omega) (.inl rfl)
    rw [Nat.zero_mul, Nat.zero_add] at this
    exact ⟨n, 0, this.1, this.2, by omega⟩
  · have := rvi_parts (n / 4503599627370496 - 1) (n % 4503599627370496 + 4503599627370496) (by omega) (.inr (by omega))
    rw [show (n / 4503599627370496 - 1) * 4503599627370496 + (n % 4503599627370496 + 4503599627370496) = n by omega] at this
    exact ⟨_, _, this.1, this.2, by omega⟩
/-- alike with all numbers of at most 54 places: alike with ranks and middles -/
theorem same_of (s V K A B : Nat) (HC : ∀ q h c : Nat, q ≤ 18014398509481984 → c ≤ 1 → cmpI ((q * 2 ^ h * 2 ^ s : Nat) : Int) ((2 ^ c * V : Nat) : Int) = cmpI (((q * 2 ^ h : Nat) : Int) * (B : Int)) (((2 ^ c : Nat) : Int) * ((A : Int) * pw K))) :
    SameC s (V : Int) K A B := by
  constructor
  · intro r hr
    obtain ⟨q, h, q1, q2, q3⟩ := rvi_rep3 r
    have h9 := HC q h 0 (by omega) (by omega)
    unfold cR rdC
    rw [rT_nat, rvs_nat9, q1]
    rw [Nat.pow_zero, Nat.one_mul] at h9
    rw [h9]
    congr 1
    show (1 : Int) * _ = _
    rw [Int.one_mul]
  · intro r hr
    obtain ⟨q, h, q1, q2, q3⟩ := rvi_rep3 r
    have h9 := HC (2 * q + 1) h 1 (by omega) (by omega)
    unfold cM rdM
    rw [show (r : Int) + 1 = ((r + 1 : Nat) : Int) by omega, rT_nat, rT_nat, rvs_nat9, rvs_nat9, cmpI_swap]
    congr 1
    have e1 : rvi r * 2 ^ s + rvi (r + 1) * 2 ^ s = (2 * q + 1) * 2 ^ h * 2 ^ s := by
      rw [q1, q2, ← Nat.add_mul, ← Nat.add_mul]; congr 2; omega
    have e2 : rvi r + rvi (r + 1) = (2 * q + 1) * 2 ^ h := by rw [q1, q2, ← Nat.add_mul]; congr 1; omega
    rw [← Int.natCast_add, e1, ← Int.natCast_add, e2]
    rw [Nat.pow_one] at h9
    rw [show (2 : Int) * (V : Int) = ((2 * V : Nat) : Int) by omega, h9]
    rfl
end Go.Ulp
set_option linter.unusedVariables false
set_option linter.unusedSimpArgs false
namespace Go.Ulp
open Go.RowKit
theorem cmpI_nat_scale (a b k : Nat) (hk : 0 < k) : cmpI ((a * k : Nat) : Int) ((b * k : Nat) : Int) = cmpI (a : Int) (b : Int) := by
  rw [Int.natCast_mul, Int.natCast_mul]; exact cmpI_scale _ _ _ (by omega)
theorem cmpN_lt {a b : Nat} (h : a < b) : cmpI (a : Int) (b : Int) = -1 := by unfold cmpI; rw [if_pos (by omega)]
theorem cmpN_gt {a b : Nat} (h : b < a) : cmpI (a : Int) (b : Int) = 1 := by unfold cmpI; rw [if_neg (by omega), if_pos (by omega)]
theorem cmpN_eq {a b : Nat} (h : a = b) : cmpI (a : Int) (b : Int) = 0 := (cmpI_eq_zero _ _).2 (by omega)
/-- a quotient rounded down, with a mark of what is lost, compares as the quotient -/
theorem mark_cmp (q f F N M Q R st : Nat) (hq : q ≤ 18014398509481984) (hN : 0 < N) (hM : M = N * Q + R) (hR : R < N) (hst : st = if R = 0 then 0 else 1) (hQ : 1152921504606846976 ≤ Q) :
    cmpI ((q * 2 ^ f : Nat) : Int) (((4 * Q + st) * 2 ^ F : Nat) : Int) = cmpI ((q * 2 ^ f * N : Nat) : Int) ((M * 2 ^ (F + 2) : Nat) : Int) := by
  obtain ⟨P, hP⟩ : ∃ P, P = 2 ^ F := ⟨_, rfl⟩
  have hPp : 0 < P := by rw [hP]; exact Nat.two_pow_pos F
  have e4 : 2 ^ (F + 2) = 4 * P := by rw [hP, Nat.pow_succ, Nat.pow_succ]; omega
  rw [← hP, e4]
  rcases Nat.lt_or_ge f (F + 2) with h | h
  · -- below all of it
    have h2 : 2 ^ f ≤ 2 * P := by
      have : 2 ^ f ≤ 2 ^ (F + 1) := Nat.pow_le_pow_right (by omega) (by omega)
      rw [Nat.pow_succ, ← hP] at this; omega
    have h3 : q * 2 ^ f ≤ 18014398509481984 * (2 * P) := Nat.mul_le_mul hq h2
    have h5 : 1152921504606846976 * P ≤ Q * P := Nat.mul_le_mul_right _ hQ
    have h6 : (4 * Q + st) * P = 4 * (Q * P) + st * P := by rw [Nat.add_mul, Nat.mul_assoc]
    have h7 : q * 2 ^ f < (4 * Q + st) * P := by rw [h6]; omega
    rw [cmpN_lt h7, cmpN_lt]
    have h8 : q * 2 ^ f * N < Q * P * N := Nat.mul_lt_mul_of_pos_right (by omega) hN
    have h9 : M * (4 * P) = 4 * (Q * P * N) + R * (4 * P) := by
      rw [hM, Nat.add_mul]; congr 1
      rw [Nat.mul_comm N Q, Nat.mul_assoc Q N, Nat.mul_comm N (4 * P), ← Nat.mul_assoc, ← Nat.mul_assoc, Nat.mul_comm Q 4, Nat.mul_assoc 4, Nat.mul_assoc 4]
    rw [h9]
    have := Nat.zero_le (R * (4 * P))
    have h10 : Q * P * N ≤ 4 * (Q * P * N) := Nat.le_mul_of_pos_left _ (by omega)
    omega
  · -- a multiple of the unit
    obtain ⟨n, hn⟩ : ∃ n, n = q * 2 ^ (f - (F + 2)) := ⟨_, rfl⟩
    have h1 : q * 2 ^ f = n * (4 * P) := by
      rw [hn, Nat.mul_assoc, ← e4, ← Nat.pow_add]; congr 2; omega
    rw [h1]
    have e1 : n * (4 * P) = (4 * n) * P := by rw [← Nat.mul_assoc, Nat.mul_comm n 4]
    have e2 : n * (4 * P) * N = (n * N) * (4 * P) := by rw [Nat.mul_right_comm]
    rw [e2, cmpI_nat_scale (n * N) M (4 * P) (by omega), e1, cmpI_nat_scale (4 * n) (4 * Q + st) P hPp, hM]
    have hst2 : st ≤ 1 := by rw [hst]; split <;> omega
    rcases Nat.lt_trichotomy n Q with h2 | h2 | h2
    · have h3 : (n + 1) * N ≤ Q * N := Nat.mul_le_mul_right N h2
      rw [Nat.add_mul, Nat.one_mul, Nat.mul_comm Q N] at h3
      rw [cmpN_lt (by omega), cmpN_lt (by omega)]
    · subst h2
      rw [Nat.mul_comm n N]
      by_cases h0 : R = 0
      · rw [if_pos h0] at hst
        rw [cmpN_eq (by omega), cmpN_eq (by omega)]
      · rw [if_neg h0] at hst
        rw [cmpN_lt (by omega), cmpN_lt (by omega)]
    · have h3 : (Q + 1) * N ≤ n * N := Nat.mul_le_mul_right N h2
      rw [Nat.add_mul, Nat.one_mul, Nat.mul_comm Q N] at h3
      rw [cmpN_gt (by omega), cmpN_gt (by omega)]
/-- the exact number -/
theorem same_exact (K A : Nat) : SameC 0 ((A * 2 ^ K : Nat) : Int) K A 1 := by
  refine same_of 0 (A * 2 ^ K) K A 1 (fun q h c _ _ => ?_)
  rw [Nat.pow_zero, Nat.mul_one, show ((1 : Nat) : Int) = 1 from rfl, Int.mul_one, Int.natCast_mul (2 ^ c), Int.natCast_mul A]
  rfl
/-- the marked quotient of two numbers, each with its twos apart -/
theorem same_mark (K s M0 N0 tz tb kk Q R st F : Nat) (hN : 0 < N0) (hM : M0 * 2 ^ kk = N0 * Q + R) (hR : R < N0) (hst : st = if R = 0 then 0 else 1) (hQ : 1152921504606846976 ≤ Q)
    (hF : F + 2 + tb + kk = tz + K + s) : SameC s (((4 * Q + st) * 2 ^ F : Nat) : Int) K (M0 * 2 ^ tz) (N0 * 2 ^ tb) := by
  refine same_of s ((4 * Q + st) * 2 ^ F) K _ _ (fun q h c hq hc => ?_)
  have h1 := mark_cmp q (h + s) (F + c) N0 (M0 * 2 ^ kk) Q R st hq hN hM hR hst hQ
  have e1 : q * 2 ^ h * 2 ^ s = q * 2 ^ (h + s) := by rw [Nat.mul_assoc, ← Nat.pow_add]
  have e2 : 2 ^ c * ((4 * Q + st) * 2 ^ F) = (4 * Q + st) * 2 ^ (F + c) := by rw [Nat.mul_left_comm, ← Nat.pow_add, Nat.add_comm c F]
  rw [e1, e2, h1]
  have e3 : (((q * 2 ^ h : Nat) : Int) * ((N0 * 2 ^ tb : Nat) : Int)) = ((q * 2 ^ h * (N0 * 2 ^ tb) : Nat) : Int) := by rw [Int.natCast_mul (q * 2 ^ h)]
  have e4 : (((2 ^ c : Nat) : Int) * (((M0 * 2 ^ tz : Nat) : Int) * pw K)) = ((2 ^ c * (M0 * 2 ^ tz * 2 ^ K) : Nat) : Int) := by
    rw [pw_nat, ← Int.natCast_mul, ← Int.natCast_mul]
  rw [e3, e4]
  have hp1 : 0 < 2 ^ (tb + kk) := Nat.two_pow_pos _
  have hp2 : 0 < 2 ^ (kk + s) := Nat.two_pow_pos _
  rw [← cmpI_nat_scale (q * 2 ^ (h + s) * N0) _ (2 ^ (tb + kk)) hp1, ← cmpI_nat_scale (q * 2 ^ h * (N0 * 2 ^ tb)) _ (2 ^ (kk + s)) hp2]
  congr 2
  · rw [Nat.pow_add, Nat.pow_add, Nat.pow_add]
    simp only [Nat.mul_assoc, Nat.mul_comm, Nat.mul_left_comm]
  · have a1 : M0 * 2 ^ kk * 2 ^ (F + c + 2) * 2 ^ (tb + kk) = M0 * 2 ^ (kk + (F + c + 2) + (tb + kk)) := by
      rw [Nat.mul_assoc, Nat.mul_assoc, ← Nat.pow_add, ← Nat.pow_add]; congr 2; omega
    have a2 : 2 ^ c * (M0 * 2 ^ tz * 2 ^ K) * 2 ^ (kk + s) = M0 * 2 ^ (c + tz + K + (kk + s)) := by
      rw [Nat.mul_assoc M0, ← Nat.pow_add, Nat.mul_left_comm, Nat.mul_assoc, ← Nat.pow_add, ← Nat.pow_add]; congr 2; omega
    rw [a1, a2]; congr 2; omega
/-- far above all -/
theorem same_high (s V K A B : Nat) (h1 : rvi 9218868437227405312 * 2 ^ s < V) (h2 : rvi 9218868437227405312 * B < A * 2 ^ K) : SameC s (V : Int) K A B := by
  have hm : ∀ r : Nat, (r : Int) ≤ 9218868437227405312 → rvi r ≤ rvi 9218868437227405312 := fun r hr => by
    rcases Nat.lt_or_ge r 9218868437227405312 with h | h
    · exact Nat.le_of_lt (rvi_mono h)
    · rw [show r = 9218868437227405312 by omega]; exact Nat.le_refl _
  have k1 : ∀ r : Nat, (r : Int) ≤ 9218868437227405312 → rvi r * 2 ^ s < V := fun r hr => Nat.lt_of_le_of_lt (Nat.mul_le_mul_right _ (hm r hr)) h1
  have k2 : ∀ r : Nat, (r : Int) ≤ 9218868437227405312 → rvi r * B < A * 2 ^ K := fun r hr => Nat.lt_of_le_of_lt (Nat.mul_le_mul_right _ (hm r hr)) h2
  constructor
  · intro r hr
    unfold cR rdC
    rw [rT_nat, rvs_nat9, ← Int.natCast_mul, pw_nat, ← Int.natCast_mul, cmpN_lt (k1 r hr), cmpN_lt (k2 r hr)]
  · intro r hr
    have a1 := k1 r (by omega)
    have a2 := k1 (r + 1) (by omega)
    have b1 := k2 r (by omega)
    have b2 := k2 (r + 1) (by omega)
    unfold cM rdM
    rw [show (r : Int) + 1 = ((r + 1 : Nat) : Int) by omega, rT_nat, rT_nat, rvs_nat9, rvs_nat9, ← Int.natCast_add, ← Int.natCast_add, ← Int.natCast_mul, pw_nat, ← Int.natCast_mul,
      show (2 : Int) * (V : Int) = ((2 * V : Nat) : Int) by omega, show (2 : Int) * ((A * 2 ^ K : Nat) : Int) = ((2 * (A * 2 ^ K) : Nat) : Int) by omega, Nat.add_mul, cmpN_gt (by omega), cmpN_lt (by omega)]
    rfl
/-- far below all but 0 -/
theorem same_low (s V K A B : Nat) (h0 : 0 < V) (h1 : 2 * V < 2 ^ s) (h2 : 0 < A * 2 ^ K) (h3 : 2 * (A * 2 ^ K) < B) : SameC s (V : Int) K A B := by
  have hm : ∀ r : Nat, 0 < r → 1 ≤ rvi r := fun r hr => by
    have := @rvi_mono 0 r hr
    rw [rvi_zero] at this; omega
  constructor
  · intro r hr
    unfold cR rdC
    rw [rT_nat, rvs_nat9, ← Int.natCast_mul, pw_nat, ← Int.natCast_mul]
    by_cases hr0 : r = 0
    · subst hr0
      rw [rvi_zero, Nat.zero_mul, Nat.zero_mul, cmpN_lt h0, cmpN_lt h2]
    · have h5 := hm r (by omega)
      have a1 := Nat.mul_le_mul_right (2 ^ s) h5
      have a2 := Nat.mul_le_mul_right B h5
      rw [cmpN_gt (by omega), cmpN_gt (by omega)]
  · intro r hr
    have h5 := hm (r + 1) (by omega)
    have a1 := Nat.mul_le_mul_right (2 ^ s) h5
    have a2 := Nat.mul_le_mul_right B h5
    unfold cM rdM
    rw [show (r : Int) + 1 = ((r + 1 : Nat) : Int) by omega, rT_nat, rT_nat, rvs_nat9, rvs_nat9, ← Int.natCast_add, ← Int.natCast_add, ← Int.natCast_mul, pw_nat, ← Int.natCast_mul,
      show (2 : Int) * (V : Int) = ((2 * V : Nat) : Int) by omega, show (2 : Int) * ((A * 2 ^ K : Nat) : Int) = ((2 * (A * 2 ^ K) : Nat) : Int) by omega, Nat.add_mul, cmpN_lt (by omega), cmpN_gt (by omega)]
end Go.Ulp
