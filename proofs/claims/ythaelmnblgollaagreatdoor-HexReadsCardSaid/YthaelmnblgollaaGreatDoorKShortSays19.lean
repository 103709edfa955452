/- ShortSays: what the proof leans on, part 19 (ShelfP Rp1 Rn5). -/
import Derived.Shelf.Pu.ParseUintPublic10
import Derived.Ground.MpProg
import Derived.Test.YthaelmnblgollaaGreatDoorProg
import Derived.Test.YthaelmnblgollaaGreatDoorKShortSays12
import Derived.Test.YthaelmnblgollaaGreatDoorKShortSays13
import Derived.Test.YthaelmnblgollaaGreatDoorKShortSays14
namespace Go.Proofs
open Go.Shelf
def Tryz.laysPu14_ren : Go.Shelf.Ren := ⟨fun | 14 => 191 | 16 => 245 | 17 => 241 | 19 => 279 | 20 => 280 | 21 => 274 | 22 => 275 | 23 => 276 | 24 => 277 | 25 => 289 | 27 => 206 | 26 => 290 | 28 => 251 | 29 => 285 | 30 => 292 | 31 => 293 | 32 => 294 | 33 => 295 | 35 => 297 | 34 => 296 | 36 => 298 | 37 => 299 | 38 => 300 | 39 => 199 | 40 => 301 | n => n, fun | 9 => 9 | 3 => 3 | 22 => 23 | 24 => 203 | 25 => 218 | 4 => 4 | 34 => 280 | 5 => 5 | 36 => 168 | 37 => 141 | 0 => 0 | 39 => 283 | 21 => 21 | 44 => 294 | 47 => 268 | 50 => 307 | 48 => 305 | 2 => 2 | 52 => 301 | 55 => 303 | 59 => 309 | 60 => 166 | 20 => 20 | 61 => 310 | 65 => 261 | 66 => 312 | 67 => 241 | n => n, fun | 0 => 2 | 1 => 3 | 2 => 6 | 3 => 0 | 4 => 7 | n => n⟩
theorem Tryz.laysPu14 : LaysPu.n14 Tryz.prog Tryz.laysPu14_ren := {
  mixed := by kernel_rfl
  f14 := Tryz.func191.trans (congrArg some (by kernel_rfl))
  f16 := Tryz.func245.trans (congrArg some (by kernel_rfl))
  f17 := Tryz.func241.trans (congrArg some (by kernel_rfl))
  f19 := Tryz.func279.trans (congrArg some (by kernel_rfl))
  f20 := Tryz.func280.trans (congrArg some (by kernel_rfl))
  f21 := Tryz.func274.trans (congrArg some (by kernel_rfl))
  f22 := Tryz.func275.trans (congrArg some (by kernel_rfl))
  f23 := Tryz.func276.trans (congrArg some (by kernel_rfl))
  f24 := Tryz.func277.trans (congrArg some (by kernel_rfl))
  f25 := Tryz.func289.trans (congrArg some (by kernel_rfl))
  f26 := Tryz.func290.trans (congrArg some (by kernel_rfl))
  f27 := Tryz.func206.trans (congrArg some (by kernel_rfl))
  f28 := Tryz.func251.trans (congrArg some (by kernel_rfl))
  f29 := Tryz.func285.trans (congrArg some (by kernel_rfl))
  f30 := Tryz.func292.trans (congrArg some (by kernel_rfl))
  f31 := Tryz.func293.trans (congrArg some (by kernel_rfl))
  f32 := Tryz.func294.trans (congrArg some (by kernel_rfl))
  f33 := Tryz.func295.trans (congrArg some (by kernel_rfl))
  f34 := Tryz.func296.trans (congrArg some (by kernel_rfl))
  f35 := Tryz.func297.trans (congrArg some (by kernel_rfl))
  f36 := Tryz.func298.trans (congrArg some (by kernel_rfl))
  f37 := Tryz.func299.trans (congrArg some (by kernel_rfl))
  f38 := Tryz.func300.trans (congrArg some (by kernel_rfl))
  f39 := Tryz.func199.trans (congrArg some (by kernel_rfl))
  f40 := Tryz.func301.trans (congrArg some (by kernel_rfl))
  t0 := Tryz.underlying0
  a0 := Tryz.isAgg0
  z0 := Tryz.sizeOf0
  v0 := Tryz.zeroValue0
  i0 := by kernel_rfl
  t2 := Tryz.underlying2
  a2 := Tryz.isAgg2
  z2 := Tryz.sizeOf2
  v2 := Tryz.zeroValue2
  i2 := by kernel_rfl
  t3 := Tryz.underlying3
  a3 := Tryz.isAgg3
  z3 := Tryz.sizeOf3
  v3 := Tryz.zeroValue3
  i3 := by kernel_rfl
  t4 := Tryz.underlying4
  a4 := Tryz.isAgg4
  z4 := Tryz.sizeOf4
  v4 := Tryz.zeroValue4
  i4 := by kernel_rfl
  t5 := Tryz.underlying5
  a5 := Tryz.isAgg5
  z5 := Tryz.sizeOf5
  v5 := Tryz.zeroValue5
  i5 := by kernel_rfl
  t9 := Tryz.underlying9
  a9 := Tryz.isAgg9
  z9 := Tryz.sizeOf9
  v9 := Tryz.zeroValue9
  i9 := by kernel_rfl
  t20 := Tryz.underlying20
  a20 := Tryz.isAgg20
  z20 := Tryz.sizeOf20
  v20 := Tryz.zeroValue20
  i20 := by kernel_rfl
  t21 := Tryz.underlying21
  a21 := Tryz.isAgg21
  z21 := Tryz.sizeOf21
  v21 := Tryz.zeroValue21
  i21 := by kernel_rfl
  t22 := Tryz.underlying23
  a22 := Tryz.isAgg23
  z22 := Tryz.sizeOf23
  v22 := Tryz.zeroValue23
  i22 := by kernel_rfl
  t24 := Tryz.underlying203
  a24 := Tryz.isAgg203
  z24 := Tryz.sizeOf203
  v24 := Tryz.zeroValue203
  i24 := by kernel_rfl
  t25 := Tryz.underlying218
  a25 := Tryz.isAgg218
  z25 := Tryz.sizeOf218
  v25 := Tryz.zeroValue218
  i25 := by kernel_rfl
  t34 := Tryz.underlying280
  a34 := Tryz.isAgg280
  z34 := Tryz.sizeOf280
  v34 := Tryz.zeroValue280
  i34 := by kernel_rfl
  c34 := by kernel_rfl
  t36 := Tryz.underlying168
  a36 := Tryz.isAgg168
  z36 := Tryz.sizeOf168
  v36 := Tryz.zeroValue168
  i36 := by kernel_rfl
  t37 := Tryz.underlying141
  a37 := Tryz.isAgg141
  z37 := Tryz.sizeOf141
  v37 := Tryz.zeroValue141
  i37 := by kernel_rfl
  t39 := Tryz.underlying283
  a39 := Tryz.isAgg283
  z39 := Tryz.sizeOf283
  v39 := Tryz.zeroValue283
  i39 := by kernel_rfl
  t44 := Tryz.underlying294
  a44 := Tryz.isAgg294
  z44 := Tryz.sizeOf294
  v44 := Tryz.zeroValue294
  i44 := by kernel_rfl
  t47 := Tryz.underlying268
  a47 := Tryz.isAgg268
  z47 := Tryz.sizeOf268
  v47 := Tryz.zeroValue268
  i47 := by kernel_rfl
  t48 := Tryz.underlying305
  a48 := Tryz.isAgg305
  z48 := Tryz.sizeOf305
  v48 := Tryz.zeroValue305
  i48 := by kernel_rfl
  t50 := Tryz.underlying307
  a50 := Tryz.isAgg307
  z50 := Tryz.sizeOf307
  v50 := Tryz.zeroValue307
  i50 := by kernel_rfl
  t52 := Tryz.underlying301
  a52 := Tryz.isAgg301
  z52 := Tryz.sizeOf301
  v52 := Tryz.zeroValue301
  i52 := by kernel_rfl
  t55 := Tryz.underlying303
  a55 := Tryz.isAgg303
  z55 := Tryz.sizeOf303
  v55 := Tryz.zeroValue303
  i55 := by kernel_rfl
  t59 := Tryz.underlying309
  a59 := Tryz.isAgg309
  z59 := Tryz.sizeOf309
  v59 := Tryz.zeroValue309
  i59 := by kernel_rfl
  t60 := Tryz.underlying166
  a60 := Tryz.isAgg166
  z60 := Tryz.sizeOf166
  v60 := Tryz.zeroValue166
  i60 := by kernel_rfl
  t61 := Tryz.underlying310
  a61 := Tryz.isAgg310
  z61 := Tryz.sizeOf310
  t65 := Tryz.underlying261
  a65 := Tryz.isAgg261
  z65 := Tryz.sizeOf261
  v65 := Tryz.zeroValue261
  i65 := by kernel_rfl
  t66 := Tryz.underlying312
  a66 := Tryz.isAgg312
  z66 := Tryz.sizeOf312
  v66 := Tryz.zeroValue312
  i66 := by kernel_rfl
  t67 := Tryz.underlying241
  a67 := Tryz.isAgg241
  z67 := Tryz.sizeOf241
  v67 := Tryz.zeroValue241
  i67 := by kernel_rfl
  g0 := by kernel_rfl
  m0 := by kernel_rfl
  g1 := by kernel_rfl
  m1 := by kernel_rfl
  g2 := by kernel_rfl
  m2 := by kernel_rfl
  g3 := by kernel_rfl
  m3 := by kernel_rfl
  g4 := by kernel_rfl
  m4 := by kernel_rfl }
/-- a text that spells a uint64 -/
theorem Tryz.strconv_ParseUint (s : ByteArray) (hmax : s.size ≤ 9223372036854775806) (u : Nat) (h : Lib.parseUintB 64 s.data.toList = .ok u) (w : World) :
    Calls Tryz.prog 191 #[.string s, .int .i64 10, .int .i64 64] w fun e w' => e = .returned (.tuple #[.int .u64 u, .nilIface]) ∧ (w' = w ∨ w' = Lib.bytesWorld w 5 s) := Any.strconv_ParseUint_10_at64_ok Tryz.laysPu14 s hmax u h w
end Go.Proofs

set_option linter.unusedVariables false
set_option linter.unusedSimpArgs false
namespace Go.Ulp
open Go.RowKit
theorem rvs_nat9 (a : Nat) : rvs (a : Int) = (rvi a : Int) := by unfold rvs; rw [if_neg (by omega), Int.natAbs_natCast]
/-- a rank's value against A by B, and twice A by B against it and the next one -/
def rdC (K A B : Nat) (l : Int) : Int := cmpI (rvs l * (B : Int)) ((A : Int) * pw K)
def rdM (K A B : Nat) (l : Int) : Int := cmpI ((rvs l + rvs (l + 1)) * (B : Int)) (2 * ((A : Int) * pw K))
/-- what the reference answers -/
def rdU (K A B : Nat) (mode l : Int) : Bool := decide (mode = 1 ∨ (mode = 0 ∧ (rdM K A B l < 0 ∨ (rdM K A B l = 0 ∧ l % 2 = 1))) ∨ (mode = 4 ∧ rdM K A B l ≤ 0))
def rdA (K A B : Nat) (mode l : Int) : Int × Bool := if rdC K A B l = 0 then (l, false) else if rdU K A B mode l = true then (l + 1, true) else (l, true)
def swM (mode : Int) : Int := if mode = 1 then 2 else if mode = 2 then 1 else mode
theorem up_sw (odd : Bool) (half mode : Int) (m0 : 0 ≤ mode) (m1 : mode ≤ 4) : upN true odd half mode = upN false odd half (swM mode) := by
  unfold upN swM
  by_cases h1 : mode = 1
  · subst h1; rfl
  by_cases h2 : mode = 2
  · subst h2; rfl
  rw [if_neg h1, if_neg h2, if_neg h1, if_neg h2, if_neg h1, if_neg h2]
theorem over_sw (mode : Int) (m0 : 0 ≤ mode) (m1 : mode ≤ 4) : overA true mode = overA false (swM mode) := by
  have : mode = 0 ∨ mode = 1 ∨ mode = 2 ∨ mode = 3 ∨ mode = 4 := by omega
  rcases this with h | h | h | h | h <;> subst h <;> rfl
theorem num_sw (M : Nat) (e mode : Int) (m0 : 0 ≤ mode) (m1 : mode ≤ 4) : numX true M e mode = numX false M e (swM mode) + 9223372036854775808 ∧ numC true M e mode = numC false M e (swM mode) := by
  have hc : ∀ j, cutN true M j mode = cutN false M j (swM mode) := by
    intro j
    unfold cutN
    split
    · rfl
    · rw [up_sw _ _ mode m0 m1]
  have hr : numR true M e mode = numR false M e (swM mode) := by
    unfold numR; rw [hc]
  unfold numX numC
  rw [hr]
  refine ⟨?_, rfl⟩
  unfold capX
  rw [over_sw mode m0 m1]
  have s1 : sgb true = 9223372036854775808 := rfl
  have s0 : sgb false = 0 := rfl
  rw [s1, s0]
  split
  · omega
  · omega
/-- two numbers that compare alike with all ranks and what is between them -/
def SameC (s : Nat) (V : Int) (K A B : Nat) : Prop := (∀ r : Nat, (r : Int) ≤ 9218868437227405312 → cR s V r = rdC K A B r) ∧ (∀ r : Nat, (r : Int) < 9218868437227405312 → cM s V r = -rdM K A B r)
theorem read_pos (M : Nat) (e mode : Int) (K A B s l : Nat) (m0 : 0 ≤ mode) (m1 : mode ≤ 4) (hM : 0 < M) (hs : 0 ≤ e + 1074 + s) (SC : SameC s ((M * 2 ^ (e + 1074 + s).toNat : Nat) : Int) K A B)
    (l1 : (l : Int) < 9218868437227405312) (l2 : rdC K A B l ≤ 0) (l3 : (l : Int) + 1 = 9218868437227405312 ∨ 0 < rdC K A B ((l : Int) + 1)) :
    (numX false M e mode, numC false M e mode) = rdA K A B mode l := by
  have a := number_rnd false M e mode s m0 m1 (fun h => rfl) hs
  obtain ⟨V, hV⟩ : ∃ V : Nat, V = M * 2 ^ (e + 1074 + s).toNat := ⟨_, rfl⟩
  rw [← hV] at a SC
  have hVp : 0 < V := by rw [hV]; exact Nat.mul_pos hM (Nat.two_pow_pos _)
  have cl : cR s (sg false (V : Int)) (l : Int) = rdC K A B l := SC.1 l (by omega)
  have cl1 := SC.1 (l + 1) (by omega)
  have cm : cM s (sg false (V : Int)) (l : Int) = -rdM K A B l := SC.2 l l1
  rw [show ((l + 1 : Nat) : Int) = (l : Int) + 1 by omega] at cl1
  have low : IsLow (cR s (sg false (V : Int))) l := ⟨by omega, l1, .inr (by rw [cl]; exact l2), by
    show (l : Int) + 1 = _ ∨ 0 < cR s (V : Int) ((l : Int) + 1)
    rw [cl1]; exact l3⟩
  obtain ⟨l', lw, an⟩ := a
  have hl := low_uniq lw low
  subst hl
  have hcz : cmpI (sg false (V : Int)) 0 = 1 := by
    show cmpI (V : Int) 0 = 1
    unfold cmpI; split
    · omega
    · split <;> omega
  rw [an, hcz]
  unfold ansR rdA
  rw [cl, cm, show decide ((1 : Int) < 0) = false from rfl, tell_pos _ (by omega), tell_pos _ (by omega), ranked_pos _ (by omega)]
  by_cases hz : rdC K A B l = 0
  · rw [if_pos ⟨by omega, hz⟩, if_pos hz]
  · rw [if_neg (fun h => hz h.2), if_neg hz]
    have hu : upR false mode (-rdM K A B l) ((l : Int) + 1) = rdU K A B mode l := by
      unfold upR rdU
      by_cases h0 : rdM K A B l = 0
      · by_cases hm0 : mode = 0
        · rw [if_pos ⟨by omega, hm0⟩, decide_eq_decide]; omega
        · rw [if_neg (fun h => hm0 h.2)]
          by_cases hm4 : mode = 4
          · rw [if_pos ⟨by omega, hm4⟩, eq_comm]; exact decide_eq_true (by omega)
          · rw [if_neg (fun h => hm4 h.2), decide_eq_decide]
            simp only [Bool.false_eq_true, and_false, false_or]
            omega
      · rw [if_neg (fun h => h0 (by omega)), if_neg (fun h => h0 (by omega)), decide_eq_decide]
        simp only [Bool.false_eq_true, and_false, false_or]
        omega
    rw [hu]
/-- with a sign -/
theorem read_sg (neg : Bool) (M : Nat) (e mode : Int) (K A B s l : Nat) (m0 : 0 ≤ mode) (m1 : mode ≤ 4) (hM : 0 < M) (hs : 0 ≤ e + 1074 + s) (SC : SameC s ((M * 2 ^ (e + 1074 + s).toNat : Nat) : Int) K A B)
    (l1 : (l : Int) < 9218868437227405312) (l2 : rdC K A B l ≤ 0) (l3 : (l : Int) + 1 = 9218868437227405312 ∨ 0 < rdC K A B ((l : Int) + 1)) :
    numX neg M e mode = (rdA K A B (if neg = true then swM mode else mode) l).1 + sgb neg ∧ numC neg M e mode = (rdA K A B (if neg = true then swM mode else mode) l).2 := by
  cases neg
  · have h := read_pos M e mode K A B s l m0 m1 hM hs SC l1 l2 l3
    rw [if_neg (by simp), ← h]
    exact ⟨by show _ = _ + 0; omega, rfl⟩
  · have hsw : 0 ≤ swM mode ∧ swM mode ≤ 4 := by unfold swM; split <;> (try split) <;> omega
    have h := read_pos M e (swM mode) K A B s l hsw.1 hsw.2 hM hs SC l1 l2 l3
    obtain ⟨h1, h2⟩ := num_sw M e mode m0 m1
    rw [if_pos rfl, ← h, h1, h2]
    exact ⟨rfl, rfl⟩
theorem cmpI_scale (a b k : Int) (hk : 0 < k) : cmpI (a * k) (b * k) = cmpI a b := by
  rcases Int.lt_trichotomy a b with h | h | h
  · have := Int.mul_lt_mul_of_pos_right h hk
    rw [show cmpI a b = -1 by unfold cmpI; rw [if_pos h]]
    unfold cmpI; rw [if_pos this]
  · subst h
    rw [(cmpI_eq_zero _ _).2 rfl, (cmpI_eq_zero _ _).2 rfl]
  · have := Int.mul_lt_mul_of_pos_right h hk
    have e1 : cmpI a b = 1 := by unfold cmpI; rw [if_neg (by omega), if_pos h]
    rw [e1]
    unfold cmpI; rw [if_neg (by omega), if_pos this]
end Go.Ulp
set_option linter.unusedVariables false
set_option linter.unusedSimpArgs false
namespace Go.Ulp
open Go.RowKit
theorem cmpI_nat_scale (a b k : Nat) (hk : 0 < k) : cmpI ((a * k : Nat) : Int) ((b * k : Nat) : Int) = cmpI (a : Int) (b : Int) := by
  rw [Int.natCast_mul, Int.natCast_mul]; exact cmpI_scale _ _ _ (by omega)
theorem cmpN_lt {a b : Nat} (h : a < b) : cmpI (a : Int) (b : Int) = -1 := by unfold cmpI; rw [if_pos (by omega)]
theorem cmpN_gt {a b : Nat} (h : b < a) : cmpI (a : Int) (b : Int) = 1 := by unfold cmpI; rw [if_neg (by omega), if_pos (by omega)]
/-- far above all -/
theorem same_high (s V K A B : Nat) (h1 : rvi 9218868437227405312 * 2 ^ s < V) (h2 : rvi 9218868437227405312 * B < A * 2 ^ K) : SameC s (V : Int) K A B := by
  have hm : ∀ r : Nat, (r : Int) ≤ 9218868437227405312 → rvi r ≤ rvi 9218868437227405312 := fun r hr => by
    rcases Nat.lt_or_ge r 9218868437227405312 with h | h
    · exact Nat.le_of_lt (rvi_mono h)
    · rw [show r = 9218868437227405312 by omega]; exact Nat.le_refl _
  have k1 : ∀ r : Nat, (r : Int) ≤ 9218868437227405312 → rvi r * 2 ^ s < V := fun r hr => Nat.lt_of_le_of_lt (Nat.mul_le_mul_right _ (hm r hr)) h1
  have k2 : ∀ r : Nat, (r : Int) ≤ 9218868437227405312 → rvi r * B < A * 2 ^ K := fun r hr => Nat.lt_of_le_of_lt (Nat.mul_le_mul_right _ (hm r hr)) h2
  constructor
  · intro r hr
    unfold cR rdC
    rw [rT_nat, rvs_nat9, ← Int.natCast_mul, pw_nat, ← Int.natCast_mul, cmpN_lt (k1 r hr), cmpN_lt (k2 r hr)]
  · intro r hr
    have a1 := k1 r (by omega)
    have a2 := k1 (r + 1) (by omega)
    have b1 := k2 r (by omega)
    have b2 := k2 (r + 1) (by omega)
    unfold cM rdM
    rw [show (r : Int) + 1 = ((r + 1 : Nat) : Int) by omega, rT_nat, rT_nat, rvs_nat9, rvs_nat9, ← Int.natCast_add, ← Int.natCast_add, ← Int.natCast_mul, pw_nat, ← Int.natCast_mul,
      show (2 : Int) * (V : Int) = ((2 * V : Nat) : Int) by omega, show (2 : Int) * ((A * 2 ^ K : Nat) : Int) = ((2 * (A * 2 ^ K) : Nat) : Int) by omega, Nat.add_mul, cmpN_gt (by omega), cmpN_lt (by omega)]
    rfl
/-- far below all but 0 -/
theorem same_low (s V K A B : Nat) (h0 : 0 < V) (h1 : 2 * V < 2 ^ s) (h2 : 0 < A * 2 ^ K) (h3 : 2 * (A * 2 ^ K) < B) : SameC s (V : Int) K A B := by
  have hm : ∀ r : Nat, 0 < r → 1 ≤ rvi r := fun r hr => by
    have := @rvi_mono 0 r hr
    rw [rvi_zero] at this; omega
  constructor
  · intro r hr
    unfold cR rdC
    rw [rT_nat, rvs_nat9, ← Int.natCast_mul, pw_nat, ← Int.natCast_mul]
    by_cases hr0 : r = 0
    · subst hr0
      rw [rvi_zero, Nat.zero_mul, Nat.zero_mul, cmpN_lt h0, cmpN_lt h2]
    · have h5 := hm r (by omega)
      have a1 := Nat.mul_le_mul_right (2 ^ s) h5
      have a2 := Nat.mul_le_mul_right B h5
      rw [cmpN_gt (by omega), cmpN_gt (by omega)]
  · intro r hr
    have h5 := hm (r + 1) (by omega)
    have a1 := Nat.mul_le_mul_right (2 ^ s) h5
    have a2 := Nat.mul_le_mul_right B h5
    unfold cM rdM
    rw [show (r : Int) + 1 = ((r + 1 : Nat) : Int) by omega, rT_nat, rT_nat, rvs_nat9, rvs_nat9, ← Int.natCast_add, ← Int.natCast_add, ← Int.natCast_mul, pw_nat, ← Int.natCast_mul,
      show (2 : Int) * (V : Int) = ((2 * V : Nat) : Int) by omega, show (2 : Int) * ((A * 2 ^ K : Nat) : Int) = ((2 * (A * 2 ^ K) : Nat) : Int) by omega, Nat.add_mul, cmpN_lt (by omega), cmpN_gt (by omega)]
end Go.Ulp

namespace Go.Ulp
open Go.RowKit
/-- what a rounding leaves -/
def RetX (w : World) (x : Int) (ch : Bool) (e : Ending) (w' : World) : Prop := e = .returned (.tuple #[.int .u64 x, .bool ch]) ∧ Below w.heap.size w w'
theorem ret2 {a b : Int} {c d : Bool} (h : a = b) (h' : c = d) : Ending.returned (.tuple #[.int .u64 a, .bool c]) = .returned (.tuple #[.int .u64 b, .bool d]) := by rw [h, h']
/-- the parts of a rank's size -/
theorem num_parts (neg : Bool) (m : Nat) (e mode : Int) (hz : m = 0 → e = 0) : ∃ q : Nat, q = cutN neg m (numK m e - e) mode ∧ q ≤ 9007199254740992 ∧ -1074 ≤ numK m e ∧ (q < 4503599627370496 → numR neg m e mode = q ∧ numK m e ≤ 971) ∧ (4503599627370496 ≤ q → numR neg m e mode = (numK m e + 1074) * 4503599627370496 + q) := by
  refine ⟨_, rfl, ?_⟩
  by_cases hM : m = 0
  · have := hz hM
    subst hM; subst this
    have e1 : numR neg 0 0 mode = 0 := by unfold numR; rw [if_pos rfl]
    have e2 : numK 0 0 = -53 := by unfold numK; rw [bl_zero]; rfl
    have e3 : cutN neg 0 (numK 0 0 - 0) mode = 0 := by
      rw [e2]; unfold cutN; rw [if_pos (by omega)]; exact Nat.zero_mul _
    rw [e3, e1, e2]
    omega
  · have hR : numR neg m e mode = (numK m e + 1074) * 4503599627370496 + cutN neg m (numK m e - e) mode := by unfold numR; rw [if_neg hM]
    obtain ⟨k, hk⟩ : ∃ k, k = numK m e := ⟨_, rfl⟩
    have hk2 := hk
    unfold numK at hk2
    have b1 := lt_bl m
    have b2 := pow_bl m (by omega)
    have b3 := (bl_pos m).2 (by omega)
    rw [hR, ← hk]
    have key : cutN neg m (k - e) mode ≤ 9007199254740992 ∧ (k ≠ -1074 → 4503599627370496 ≤ cutN neg m (k - e) mode) := by
      by_cases hj : k - e ≤ 0
      · obtain ⟨d, hd⟩ : ∃ d : Nat, (d : Int) = -(k - e) := ⟨(-(k - e)).toNat, by omega⟩
        have hd2 : (-(k - e)).toNat = d := by omega
        have hc : cutN neg m (k - e) mode = m * 2 ^ d := by unfold cutN; rw [if_pos hj, hd2]
        rw [hc]
        refine ⟨?_, fun h => ?_⟩
        · have : m * 2 ^ d ≤ 2 ^ bl m * 2 ^ d := Nat.mul_le_mul_right _ (Nat.le_of_lt b1)
          rw [← Nat.pow_add] at this
          exact Nat.le_trans this (Nat.pow_le_pow_right (by omega) (show bl m + d ≤ 53 by omega))
        · have : 2 ^ (bl m - 1) * 2 ^ d ≤ m * 2 ^ d := Nat.mul_le_mul_right _ b2
          rw [← Nat.pow_add, show bl m - 1 + d = 52 by omega] at this
          exact this
      · obtain ⟨j, hj2⟩ : ∃ j : Nat, (j : Int) = k - e := ⟨(k - e).toNat, by omega⟩
        have hj3 : (k - e).toNat = j := by omega
        have h1 : m / 2 ^ j < 9007199254740992 := by
          rw [Nat.div_lt_iff_lt_mul (Nat.two_pow_pos j), show (9007199254740992 : Nat) = 2 ^ 53 by decide, ← Nat.pow_add]
          exact Nat.lt_of_lt_of_le b1 (Nat.pow_le_pow_right (by omega) (by omega))
        have h2 : k ≠ -1074 → 4503599627370496 ≤ m / 2 ^ j := fun h => by
          rw [Nat.le_div_iff_mul_le (Nat.two_pow_pos j), show (4503599627370496 : Nat) = 2 ^ 52 by decide, ← Nat.pow_add, show 52 + j = bl m - 1 by omega]
          exact b2
        unfold cutN
        rw [if_neg hj, hj3]
        split <;> exact ⟨by omega, fun h => by have := h2 h; omega⟩
    omega
theorem bl_len (m n : Nat) (h : (limbs m).length ≤ n) : bl m ≤ 32 * n := by
  have h1 := (digs_len_le 4294967296 (by omega) m n).1 h
  rw [show (4294967296 : Nat) = 2 ^ 32 by decide, ← Nat.pow_mul] at h1
  exact (bl_le m _).2 h1
theorem bits_or_zero (a : Int) (h0 : 0 ≤ a) (h1 : a < 18446744073709551616) : bits .or .u64 a 0 = a := by
  have := or_join_u64 a 0 0 h0 h1 (by omega) (by omega) (by simp) (by simp)
  omega
theorem or_sgb (neg : Bool) (s a : Int) (hs : s = sgb neg) (h0 : 0 ≤ a) (h1 : a < 9223372036854775808) : bits .or .u64 a s = a + sgb neg := by
  subst hs
  cases neg
  · show bits .or .u64 a 0 = a + 0
    rw [bits_or_zero _ h0 (by omega)]; omega
  · exact or_sign a h0 h1
theorem fin_yes {neg : Bool} {mode R s : Int} (hs : s = sgb neg) (hR : 9218868437227405312 ≤ R) (ho : overA neg mode = true) : bits .or .u64 9218868437227405312 s = capX neg mode R := by
  rw [or_sgb neg s _ hs (by omega) (by omega)]
  unfold capX; rw [if_pos hR, if_pos ho]
theorem fin_no {neg : Bool} {mode R s : Int} (hs : s = sgb neg) (hR : 9218868437227405312 ≤ R) (ho : overA neg mode = false) : bits .or .u64 9218868437227405311 s = capX neg mode R := by
  rw [or_sgb neg s _ hs (by omega) (by omega)]
  unfold capX; rw [if_pos hR, ho]; rfl
theorem fin_ch {R : Int} {ch : Bool} (hR : 9218868437227405312 ≤ R) : true = capC R ch := by unfold capC; rw [if_pos hR]
theorem fin_ch2 {R : Int} {ch : Bool} (hR : R < 9218868437227405312) : ch = capC R ch := by unfold capC; rw [if_neg (by omega)]
theorem fin_small {neg : Bool} {mode R s n : Int} (hs : s = sgb neg) (h0 : 0 ≤ n) (hR : R < 9218868437227405312) (e : R = n) : bits .or .u64 n s = capX neg mode R := by
  rw [or_sgb neg s _ hs h0 (by omega)]
  unfold capX; rw [if_neg (by omega), e]
theorem fin_form {neg : Bool} {mode R s a n : Int} (hs : s = sgb neg) (a0 : 1 ≤ a) (a1 : a ≤ 2046) (n0 : 4503599627370496 ≤ n) (n1 : n < 9007199254740992) (e : R = (a - 1) * 4503599627370496 + n) :
    bits .or .u64 (bits .or .u64 (a * 4503599627370496) (bits .and .u64 n 4503599627370495)) s = capX neg mode R := by
  rw [and_frac n (by omega) (by omega), or_join52 (a * 4503599627370496) (n % 4503599627370496) (by omega) (by omega) (by omega) (by omega) (by omega) (by omega), or_sgb neg s _ hs (by omega) (by omega)]
  unfold capX; rw [if_neg (by omega)]; omega
theorem val_or0 (x : Nat) (h : x < 4294967296) : Value.int .u64 (bits .or .u64 0 (x : Int)) = Value.int .u64 ((0 + 4294967296 ^ 0 * x : Nat) : Int) := by
  rw [bits_comm_or 0 _ (by omega) (by omega) (by omega) (by omega), bits_or_zero _ (by omega) (by omega)]
  congr 1; omega
theorem val_or1 (V x : Nat) (hV : V < 4294967296 ^ 1) (h : x < 4294967296) : Value.int .u64 (bits .or .u64 (V : Int) ((x : Int) * 4294967296)) = Value.int .u64 ((V + 4294967296 ^ 1 * x : Nat) : Int) := by
  rw [or_join32' _ _ (by omega) (by omega) (by omega) (by omega)]
  congr 1; omega
end Go.Ulp
namespace Go.Proofs.YthaelmnblgollaaGreatDoor
open Go.RowKit Go.Ulp
set_option linter.unusedVariables false
set_option linter.unusedSimpArgs false
set_option maxHeartbeats 1000000
set_option maxRecDepth 100000
theorem number_any (neg : Bool) (a0 : Option Addr) (c0 m : Nat) (e mode : Int) (w : World) (h0 : Ns .u32 w a0 c0 (limbs m)) (hm : (limbs m).length ≤ 10000) (he : -100000 ≤ e ∧ e ≤ 100000) (hz : m = 0 → e = 0) :
    Calls Tryz.prog 107 #[.agg #[.bool neg, .slice a0 (limbs m).length c0, .int .i64 e], .int .i64 mode] w (RetX w (numX neg m e mode) (numC neg m e mode)) := by
  obtain ⟨q, hq, hqm, hk0, hR1, hR2⟩ := num_parts neg m e mode hz
  have H := hid h0
  have hbl : bl m ≤ 320000 := by
    have := bl_len m 10000 hm
    omega
  obtain ⟨k, hk⟩ : ∃ k, k = numK m e := ⟨_, rfl⟩
  have hkd : max ((bl m : Int) + e - 53) (-1074) = k := by rw [hk]; rfl
  have hkb : -100000 ≤ k ∧ k ≤ 500000 := by omega
  obtain ⟨R, hR⟩ : ∃ R, R = numR neg m e mode := ⟨_, rfl⟩
  obtain ⟨ch, hch⟩ : ∃ ch, ch = cutC m (numK m e - e) := ⟨_, rfl⟩
  have CU := hid (show ∀ a c w, Ns .u32 w a c (limbs m) → Calls Tryz.prog 186 #[.bool neg, .slice a (limbs m).length c, .int .i64 (k - e), .int .i64 mode] w fun e w' => RetN2 w q (.bool ch) e w' from fun a c w h => by
    have := cut_any neg a c m (k - e) mode w h (by omega) (by omega)
    rw [hq, hch, ← hk]; exact this)
  have LE := hid (fun w h => natLen_any a0 c0 m w h (by omega))
  have hres : numX neg m e mode = capX neg mode R ∧ numC neg m e mode = capC R ch := by unfold numX numC; rw [hR, hch]; exact ⟨rfl, rfl⟩
  rw [hres.1, hres.2]
  rw [← hk, ← hR] at hR1 hR2
  rw [← hk] at hk0
  obtain ⟨b, hb⟩ : ∃ b, b = bl m := ⟨_, rfl⟩
  rw [← hb] at hkd hbl LE
  have HKD := hid hkd
  have zA : QL 26 (w.alloc (.cells #[.bool neg, .slice a0 (limbs m).length c0, .int .i64 e] 26)) w.heap.size neg (.slice a0 (limbs m).length c0) e := QL.made rfl
  have yb0 := below_alloc w (.cells #[.bool neg, .slice a0 (limbs m).length c0, .int .i64 e] 26)
  have hw1 : IntKind.i64.wrap ((b : Int) + e) = (b : Int) + e := IntWalk.i64_in _ (by omega)
  have hw2 : IntKind.i64.wrap ((b : Int) + e - 53) = (b : Int) + e - 53 := IntWalk.i64_in _ (by omega)
  clear h0 hq hk hR hch hres hb hkd hm
  go_enter Tryz.func107, Tryz.ntmps107
  go_upto_region 1 with fail
  refine wp_region_grow 9 [14, 15, 16, 17, 18, 19, 20, 21, 6] [Fact.is (.pointer (some ⟨w.heap.size, 1, none⟩)), Fact.is (.slice a0 (limbs m).length c0), Fact.is (.int .i64 (b : Int)), Fact.is (.pointer (some ⟨w.heap.size, 2, none⟩)), Fact.is (.int .i64 e), Fact.is (.int .i64 ((b : Int) + e)), Fact.is (.int .i64 ((b : Int) + e - 53)), Fact.is (.int .i64 (max ((b : Int) + e - 53) (-1074))), Fact.is (.int .i64 (max ((b : Int) + e - 53) (-1074)))] (by kernel_rfl) (by kernel_rfl) ⟨?o0, ?o1, ?o2, ?o3, ?o4, ?o5, ?o6, ?o7, ?o8, trivial⟩ ?after
  case o0 => (refine StepOK.plain rfl ?_; intro ρ w1 R hρ hb hp hR; have e2 : ρ (.tmp 2) = .pointer (some ⟨w.heap.size, 0, none⟩) := hρ.tmp 2 rfl; have hcon := hρ.con; have hfn := hρ.fn; clear hρ hp; unfold OpRun; go_simp; exact hR _ _ (Below.refl _ _) rfl)
  case o1 => (refine StepOK.plain rfl ?_; intro ρ w1 R hρ hb hp hR; have e14 : ρ (.tmp 14) = _ := hp 0 14 rfl rfl; obtain ⟨⟨j0, j1, -, -, -⟩, j2, -⟩ := zA.below hb; have hcon := hρ.con; have hfn := hρ.fn; clear hρ hp; unfold OpRun; go_simp; exact hR _ _ (Below.refl _ _) rfl)
  case o2 => (refine StepOK.plain rfl ?_; intro ρ w1 R hρ hb hp hR; have e15 : ρ (.tmp 15) = _ := hp 1 15 rfl rfl; have hcon := hρ.con; have hfn := hρ.fn; clear hρ hp; unfold OpRun; go_simp; (refine (LE.out _ (H.out.below (below_trans yb0 hb))).mono ?_; rintro e wn ⟨rfl, rfl⟩; exact ⟨_, rfl, hR _ _ (Below.refl _ _) rfl⟩))
  case o3 => (refine StepOK.plain rfl ?_; intro ρ w1 R hρ hb hp hR; have e2 : ρ (.tmp 2) = .pointer (some ⟨w.heap.size, 0, none⟩) := hρ.tmp 2 rfl; have hcon := hρ.con; have hfn := hρ.fn; clear hρ hp; unfold OpRun; go_simp; exact hR _ _ (Below.refl _ _) rfl)
  case o4 => (refine StepOK.plain rfl ?_; intro ρ w1 R hρ hb hp hR; have e17 : ρ (.tmp 17) = _ := hp 3 17 rfl rfl; obtain ⟨⟨j0, j1, -, -, -⟩, j2, -⟩ := zA.below hb; have hcon := hρ.con; have hfn := hρ.fn; clear hρ hp; unfold OpRun; go_simp; exact hR _ _ (Below.refl _ _) rfl)
  case o5 => (refine StepOK.plain rfl ?_; intro ρ w1 R hρ hb hp hR; have e16 : ρ (.tmp 16) = _ := hp 2 16 rfl rfl; have e18 : ρ (.tmp 18) = _ := hp 4 18 rfl rfl; have hcon := hρ.con; have hfn := hρ.fn; clear hρ hp; unfold OpRun; go_simp; exact hR _ _ (Below.refl _ _) rfl)
  case o6 => (refine StepOK.plain rfl ?_; intro ρ w1 R hρ hb hp hR; have e19 : ρ (.tmp 19) = _ := hp 5 19 rfl rfl; have hcon := hρ.con; have hfn := hρ.fn; clear hρ hp; unfold OpRun; go_simp; exact hR _ _ (Below.refl _ _) rfl)
  case o7 => (refine StepOK.plain rfl ?_; intro ρ w1 R hρ hb hp hR; have e20 : ρ (.tmp 20) = _ := hp 6 20 rfl rfl; have hcon := hρ.con; have hfn := hρ.fn; clear hρ hp; unfold OpRun; go_simp; exact hR _ _ (Below.refl _ _) rfl)
  case o8 => (refine StepOK.plain rfl ?_; intro ρ w1 R hρ hb hp hR; have e21 : ρ (.tmp 21) = _ := hp 7 21 rfl rfl; have hcon := hρ.con; have hfn := hρ.fn; clear hρ hp; unfold OpRun; go_simp; exact hR _ _ (Below.refl _ _) rfl)
  case after =>
    intro u wn hb hf
    have e6 : u 6 = _ := hf 8 6 (by omega) rfl
    clear hf
    simp only [putAll, Act.put, List.setIfInBounds_toArray, List.set_cons_zero, List.set_cons_succ, List.drop_succ_cons, List.drop_zero, List.drop_nil]
    rw [e6]
    rw [HKD.out]
    have zB := zA.below hb
    have yb1 := below_trans yb0 hb
    clear hw1 hw2 LE HKD zA yb0 hb
    obtain ⟨⟨j0, j1, -, -, -⟩, j2, -⟩ := id zB
    have hw1 : IntKind.i64.wrap (k - e) = k - e := IntWalk.i64_in _ (by omega)
    go_upto_region 4 with (go_at_call 186; (with_reducible refine (CU.out _ _ _ (H.out.below yb1)).mono ?_); rintro e w1 ⟨a1, rfl, hN1, hb1⟩)
    have zC := zB.below hb1
    have yb2 := below_trans yb1 hb1
    have hql : (limbs q).length ≤ 2 := (digs_len_le 4294967296 (by omega) q 2).2 (by omega)
    have lQ := hid (limbs_lim q)
    have lV := hid (lval_limbs q)
    obtain ⟨-, -, hcells⟩ := hN1
    clear j0 j1 j2 zB yb1 hb1 hw1 CU H
    go_wp2_with fail
    go_loop [9, 10, 11, 37] (fun n _ _ i => ∃ (k : Nat), k ≤ (limbs q).length ∧ i = .int .i64 k ∧ n = .int .u64 ((lval ((limbs q).take k) : Nat) : Int)) (fun _ _ _ i => (limbs q).length - (intOf i).toNat)
    case atStart => exact ⟨0, by omega, rfl, rfl⟩
    case round =>
      obtain ⟨kk, hkk, rfl, rfl⟩ := hrel
      by_cases hlt : kk < (limbs q).length
      · obtain ⟨b1, o1, rfl, hc⟩ := hcells (by omega)
        have hc1 := hc kk hlt
        obtain ⟨x, hx⟩ : ∃ x, x = (limbs q).getD kk 0 := ⟨_, rfl⟩
        have hx1 : x < 4294967296 := by rw [hx]; exact lQ.out.getD (by omega) kk
        unfold lb at hc1
        rw [← hx] at hc1
        have hv := lval_take_succ (limbs q) kk hlt
        rw [← hx] at hv
        have hvt := lval_take_lt (limbs q) kk lQ.out (by omega)
        obtain ⟨V, hV⟩ : ∃ V, V = lval ((limbs q).take kk) := ⟨_, rfl⟩
        rw [← hV] at hv hvt ⊢
        have HV := hid hv
        have hk2 : kk = 0 ∨ kk = 1 := by omega
        clear hv hx hV hc hcells
        rcases hk2 with rfl | rfl
        · have hV0 : V = 0 := by simpa using hvt
          subst hV0
          rw [Nat.add_zero] at hc1
          clear hvt
          go_wp2_with fail
          go_round
          case rel => exact ⟨1, by omega, by go_num, by rw [HV.out]; exact val_or0 x hx1⟩
          case measure => simp [intOf]; omega
        · clear hkk
          go_wp2_with fail
          go_round
          case rel => exact ⟨2, by omega, by go_num, by rw [HV.out]; exact val_or1 V x hvt hx1⟩
          case measure => simp [intOf]; omega
      · have hke : kk = (limbs q).length := by omega
        have hfin : lval ((limbs q).take kk) = q := by rw [hke, List.take_of_length_le (Nat.le_refl _), lV.out]
        rw [hfin]
        obtain ⟨⟨j0, j1, -, -, -⟩, j2, -⟩ := id zC
        have HR1 := hid hR1
        have HR2 := hid hR2
        have hq0 : 0 ≤ (q : Int) := by omega
        have hq1 : (q : Int) ≤ 9007199254740992 := by omega
        have QI := hid (show (q : Int) = ((q : Nat) : Int) from rfl)
        clear hfin hke hcells lQ lV hql hz hR1 hR2 e6 hqm
        cases neg
        · by_cases hA : (q : Int) = 9007199254740992
          · have hA2 : ((q : Int) == 9007199254740992) = true := beq_iff_eq.2 hA
            have HA := hid hA
            have hRv := HR2.out (by omega)
            by_cases hO : 971 < k + 1
            · have HR := hid (show 9218868437227405312 ≤ R by omega)
              clear hA hRv
              by_cases hm0 : mode = 0
              · subst hm0
                go_wp2_with fail
                go_ret2
                exact ⟨ret2 (fin_yes (neg := false) rfl HR.out (by decide)) (fin_ch HR.out), yb2⟩
              have m0 : (mode == 0) = false := beq_eq_false_iff_ne.2 hm0
              by_cases hm4 : mode = 4
              · subst hm4
                go_wp2_with fail
                go_ret2
                exact ⟨ret2 (fin_yes (neg := false) rfl HR.out (by decide)) (fin_ch HR.out), yb2⟩
              have m4 : (mode == 4) = false := beq_eq_false_iff_ne.2 hm4
              by_cases hm1 : mode = 1
              · subst hm1
                go_wp2_with fail
                go_ret2
                exact ⟨ret2 (by first | exact fin_yes (neg := false) rfl HR.out (by decide) | exact fin_no (neg := false) rfl HR.out (by decide)) (fin_ch HR.out), yb2⟩
              have m1 : (mode == 1) = false := beq_eq_false_iff_ne.2 hm1
              by_cases hm2 : mode = 2
              · subst hm2
                go_wp2_with fail
                go_ret2
                exact ⟨ret2 (by first | exact fin_yes (neg := false) rfl HR.out (by decide) | exact fin_no (neg := false) rfl HR.out (by decide)) (fin_ch HR.out), yb2⟩
              have m2 : (mode == 2) = false := beq_eq_false_iff_ne.2 hm2
              have HO := hid (show overA false mode = false by simp [overA, hm0, hm1, hm2, hm4])
              clear hm0 hm1 hm2 hm4
              go_wp2_with fail
              go_ret2
              exact ⟨ret2 (fin_no (neg := false) rfl HR.out HO.out) (fin_ch HR.out), yb2⟩
            · have HR := hid (show R < 9218868437227405312 by omega)
              have HV := hid hRv
              clear hA hRv
              go_wp2_with fail
              go_ret2
              exact ⟨ret2 (fin_form (neg := false) rfl (by omega) (by omega) (by omega) (by omega) (by have := HV.out; have := HA.out; omega)) (fin_ch2 HR.out), yb2⟩
          · have hA2 : ((q : Int) == 9007199254740992) = false := beq_eq_false_iff_ne.2 hA
            by_cases hO : 971 < k
            · have HR := hid (show 9218868437227405312 ≤ R by
                by_cases hs : q < 4503599627370496
                · have := (HR1.out hs).2; omega
                · have := HR2.out (by omega); omega)
              by_cases hm0 : mode = 0
              · subst hm0
                go_wp2_with fail
                go_ret2
                exact ⟨ret2 (fin_yes (neg := false) rfl HR.out (by decide)) (fin_ch HR.out), yb2⟩
              have m0 : (mode == 0) = false := beq_eq_false_iff_ne.2 hm0
              by_cases hm4 : mode = 4
              · subst hm4
                go_wp2_with fail
                go_ret2
                exact ⟨ret2 (fin_yes (neg := false) rfl HR.out (by decide)) (fin_ch HR.out), yb2⟩
              have m4 : (mode == 4) = false := beq_eq_false_iff_ne.2 hm4
              by_cases hm1 : mode = 1
              · subst hm1
                go_wp2_with fail
                go_ret2
                exact ⟨ret2 (by first | exact fin_yes (neg := false) rfl HR.out (by decide) | exact fin_no (neg := false) rfl HR.out (by decide)) (fin_ch HR.out), yb2⟩
              have m1 : (mode == 1) = false := beq_eq_false_iff_ne.2 hm1
              by_cases hm2 : mode = 2
              · subst hm2
                go_wp2_with fail
                go_ret2
                exact ⟨ret2 (by first | exact fin_yes (neg := false) rfl HR.out (by decide) | exact fin_no (neg := false) rfl HR.out (by decide)) (fin_ch HR.out), yb2⟩
              have m2 : (mode == 2) = false := beq_eq_false_iff_ne.2 hm2
              have HO := hid (show overA false mode = false by simp [overA, hm0, hm1, hm2, hm4])
              clear hm0 hm1 hm2 hm4
              go_wp2_with fail
              go_ret2
              exact ⟨ret2 (fin_no (neg := false) rfl HR.out HO.out) (fin_ch HR.out), yb2⟩
            · by_cases hs : (q : Int) < 4503599627370496
              · have HV := hid (HR1.out (by omega)).1
                go_wp2_with fail
                go_ret2
                exact ⟨ret2 (fin_small (neg := false) rfl (by omega) (by rw [HV.out]; omega) HV.out) (fin_ch2 (by rw [HV.out]; omega)), yb2⟩
              · have HV := hid (HR2.out (by omega))
                have HR := hid (show R < 9218868437227405312 by have := HV.out; omega)
                go_wp2_with fail
                go_ret2
                exact ⟨ret2 (fin_form (neg := false) rfl (by omega) (by omega) (by omega) (by omega) (by have := HV.out; omega)) (fin_ch2 HR.out), yb2⟩
        · by_cases hA : (q : Int) = 9007199254740992
          · have hA2 : ((q : Int) == 9007199254740992) = true := beq_iff_eq.2 hA
            have HA := hid hA
            have hRv := HR2.out (by omega)
            by_cases hO : 971 < k + 1
            · have HR := hid (show 9218868437227405312 ≤ R by omega)
              clear hA hRv
              by_cases hm0 : mode = 0
              · subst hm0
                go_wp2_with fail
                go_ret2
                exact ⟨ret2 (fin_yes (neg := true) rfl HR.out (by decide)) (fin_ch HR.out), yb2⟩
              have m0 : (mode == 0) = false := beq_eq_false_iff_ne.2 hm0
              by_cases hm4 : mode = 4
              · subst hm4
                go_wp2_with fail
                go_ret2
                exact ⟨ret2 (fin_yes (neg := true) rfl HR.out (by decide)) (fin_ch HR.out), yb2⟩
              have m4 : (mode == 4) = false := beq_eq_false_iff_ne.2 hm4
              by_cases hm1 : mode = 1
              · subst hm1
                go_wp2_with fail
                go_ret2
                exact ⟨ret2 (by first | exact fin_yes (neg := true) rfl HR.out (by decide) | exact fin_no (neg := true) rfl HR.out (by decide)) (fin_ch HR.out), yb2⟩
              have m1 : (mode == 1) = false := beq_eq_false_iff_ne.2 hm1
              by_cases hm2 : mode = 2
              · subst hm2
                go_wp2_with fail
                go_ret2
                exact ⟨ret2 (by first | exact fin_yes (neg := true) rfl HR.out (by decide) | exact fin_no (neg := true) rfl HR.out (by decide)) (fin_ch HR.out), yb2⟩
              have m2 : (mode == 2) = false := beq_eq_false_iff_ne.2 hm2
              have HO := hid (show overA true mode = false by simp [overA, hm0, hm1, hm2, hm4])
              clear hm0 hm1 hm2 hm4
              go_wp2_with fail
              go_ret2
              exact ⟨ret2 (fin_no (neg := true) rfl HR.out HO.out) (fin_ch HR.out), yb2⟩
            · have HR := hid (show R < 9218868437227405312 by omega)
              have HV := hid hRv
              clear hA hRv
              go_wp2_with fail
              go_ret2
              exact ⟨ret2 (fin_form (neg := true) rfl (by omega) (by omega) (by omega) (by omega) (by have := HV.out; have := HA.out; omega)) (fin_ch2 HR.out), yb2⟩
          · have hA2 : ((q : Int) == 9007199254740992) = false := beq_eq_false_iff_ne.2 hA
            by_cases hO : 971 < k
            · have HR := hid (show 9218868437227405312 ≤ R by
                by_cases hs : q < 4503599627370496
                · have := (HR1.out hs).2; omega
                · have := HR2.out (by omega); omega)
              by_cases hm0 : mode = 0
              · subst hm0
                go_wp2_with fail
                go_ret2
                exact ⟨ret2 (fin_yes (neg := true) rfl HR.out (by decide)) (fin_ch HR.out), yb2⟩
              have m0 : (mode == 0) = false := beq_eq_false_iff_ne.2 hm0
              by_cases hm4 : mode = 4
              · subst hm4
                go_wp2_with fail
                go_ret2
                exact ⟨ret2 (fin_yes (neg := true) rfl HR.out (by decide)) (fin_ch HR.out), yb2⟩
              have m4 : (mode == 4) = false := beq_eq_false_iff_ne.2 hm4
              by_cases hm1 : mode = 1
              · subst hm1
                go_wp2_with fail
                go_ret2
                exact ⟨ret2 (by first | exact fin_yes (neg := true) rfl HR.out (by decide) | exact fin_no (neg := true) rfl HR.out (by decide)) (fin_ch HR.out), yb2⟩
              have m1 : (mode == 1) = false := beq_eq_false_iff_ne.2 hm1
              by_cases hm2 : mode = 2
              · subst hm2
                go_wp2_with fail
                go_ret2
                exact ⟨ret2 (by first | exact fin_yes (neg := true) rfl HR.out (by decide) | exact fin_no (neg := true) rfl HR.out (by decide)) (fin_ch HR.out), yb2⟩
              have m2 : (mode == 2) = false := beq_eq_false_iff_ne.2 hm2
              have HO := hid (show overA true mode = false by simp [overA, hm0, hm1, hm2, hm4])
              clear hm0 hm1 hm2 hm4
              go_wp2_with fail
              go_ret2
              exact ⟨ret2 (fin_no (neg := true) rfl HR.out HO.out) (fin_ch HR.out), yb2⟩
            · by_cases hs : (q : Int) < 4503599627370496
              · have HV := hid (HR1.out (by omega)).1
                go_wp2_with fail
                go_ret2
                exact ⟨ret2 (fin_small (neg := true) rfl (by omega) (by rw [HV.out]; omega) HV.out) (fin_ch2 (by rw [HV.out]; omega)), yb2⟩
              · have HV := hid (HR2.out (by omega))
                have HR := hid (show R < 9218868437227405312 by have := HV.out; omega)
                go_wp2_with fail
                go_ret2
                exact ⟨ret2 (fin_form (neg := true) rfl (by omega) (by omega) (by omega) (by omega) (by have := HV.out; omega)) (fin_ch2 HR.out), yb2⟩
end Go.Proofs.YthaelmnblgollaaGreatDoor
namespace Go.Ulp
open Go.RowKit
def knownB (mode : Int) : Bool := decide (0 ≤ mode ∧ mode ≤ 4)
end Go.Ulp
namespace Go.Proofs.YthaelmnblgollaaGreatDoor
open Go.RowKit Go.Ulp
set_option linter.unusedVariables false
set_option linter.unusedSimpArgs false
set_option maxHeartbeats 1000000
set_option maxRecDepth 100000
theorem known_any (mode : Int) (w : World) : Calls Tryz.prog 106 #[.int .i64 mode] w fun e w' => e = .returned (.bool (knownB mode)) ∧ w = w' := by
  by_cases h : 0 ≤ mode
  · have H := hid (show decide (mode ≤ 4) = knownB mode by unfold knownB; rw [decide_eq_decide]; omega)
    go_enter Tryz.func106, Tryz.ntmps106
    go_wp2_with fail
    go_ret
    exact ⟨ret_bool H.out, rfl⟩
  · have H := hid (show false = knownB mode by unfold knownB; rw [eq_comm, decide_eq_false_iff_not]; omega)
    go_enter Tryz.func106, Tryz.ntmps106
    go_wp2_with fail
    go_ret
    exact ⟨ret_bool H.out, rfl⟩
end Go.Proofs.YthaelmnblgollaaGreatDoor
namespace Go.Ulp
open Go.RowKit
def RetX3 (w : World) (x : Int) (ch : Bool) (er : Int) (e : Ending) (w' : World) : Prop := e = .returned (.tuple #[.int .u64 x, .bool ch, .int .i64 er]) ∧ Below w.heap.size w w'
/-- a Dyad's fields among the values of a region -/
def Fact.dy (neg : Bool) (m : Nat) (x : Int) : Fact := ⟨fun v w => ∃ am cm, v = .agg #[.bool neg, .slice am (limbs m).length cm, .int .i64 x] ∧ Ns .u32 w am cm (limbs m), fun _ _ _ h hb => by
  obtain ⟨am, cm, h1, h2⟩ := h
  exact ⟨am, cm, h1, h2.below hb⟩⟩
end Go.Ulp
namespace Go.Proofs.YthaelmnblgollaaGreatDoor
open Go.RowKit Go.Ulp
set_option linter.unusedVariables false
set_option linter.unusedSimpArgs false
set_option maxHeartbeats 1000000
set_option maxRecDepth 100000
end Go.Proofs.YthaelmnblgollaaGreatDoor
