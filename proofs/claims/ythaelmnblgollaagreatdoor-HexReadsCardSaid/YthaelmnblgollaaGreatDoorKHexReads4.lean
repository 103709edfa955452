/- HexReads: what the proof leans on, part 4 (Hr10 Frame2 Tb Tb7). -/
import Derived.WalkKit
import Derived.ReadAgain
import Derived.ChangeReads
import Derived.Lib.SmallJoins
import Derived.ChangeSlices
import Derived.OpenShut
import Derived.Test.YthaelmnblgollaaGreatDoorRows
import Derived.LaidMore
import Derived.Lib.LaidTab
import Derived.LaidLaws
import Derived.SevenTiedAt
import Derived.Stop.Joined
import Derived.Stop.LaidErr
import Derived.Lay
import Derived.Test.YthaelmnblgollaaGreatDoorKShortSays14
import Derived.Test.YthaelmnblgollaaGreatDoorKShortSays16
import Derived.Test.YthaelmnblgollaaGreatDoorKShortSays2
import Derived.Test.YthaelmnblgollaaGreatDoorKShortSays20
import Derived.Test.YthaelmnblgollaaGreatDoorKHexReads2
import Derived.Test.YthaelmnblgollaaGreatDoorKHexReads3
set_option linter.unusedVariables false
set_option linter.unusedSimpArgs false
namespace Go.Proofs.YthaelmnblgollaaGreatDoor
open Go.RowKit Go.Ulp
set_option linter.unusedVariables false
set_option linter.unusedSimpArgs false
set_option maxHeartbeats 2000000
set_option maxRecDepth 100000
theorem hxs_bad (L : List UInt8) (mode : Int) (w : World) (hm : ¬ (0 ≤ mode ∧ mode ≤ 4)) :
    Calls Tryz.prog 6 #[.string (bsOf L), .int .i64 mode] w fun e w' => e = .returned (.bool true) ∧ Below w.heap.size w w' := by
  have NB := hid (fun w => hexNum_bad L mode w hm)
  have BT := hid (fun w => between_any mode 0 4 w)
  rw [show decide (0 ≤ mode ∧ mode ≤ 4) = false from decide_eq_false hm] at BT
  generalize bsOf L = Q at *
  clear hm
  go_enter Tryz.func6, Tryz.ntmps6
  go_wp2_with (first | (go_at_call 45; (with_reducible refine (NB.out _).mono ?_); rintro en w1 ⟨rfl, hb1⟩) | (go_at_call 40; (with_reducible refine (BT.out _).mono ?_); rintro en w2 ⟨rfl, rfl⟩))
  go_ret
  exact ⟨rfl, hb1⟩
theorem hxs_no (L : List UInt8) (mode : Int) (w : World) (hm : 0 ≤ mode ∧ mode ≤ 4) (say : Int) (hs : say = 2 ∨ say = 5)
    (NB0 : ∀ w, Calls Tryz.prog 45 #[.string (bsOf L), .int .i64 mode] w (RetNm w 0 false say))
    (HR0 : ∀ w, Calls Tryz.prog 46 #[.string (bsOf L)] w (RetHr w false 0 0 say)) :
    Calls Tryz.prog 6 #[.string (bsOf L), .int .i64 mode] w fun e w' => e = .returned (.bool true) ∧ Below w.heap.size w w' := by
  have NB := hid NB0
  have HR := hid HR0
  have BT := hid (fun w => between_any mode 0 4 w)
  rw [show decide (0 ≤ mode ∧ mode ≤ 4) = true from decide_eq_true hm] at BT
  have hs0 : (say == 0) = false := beq_eq_false_iff_ne.2 (by omega)
  generalize bsOf L = Q at *
  clear hm NB0 HR0
  go_enter Tryz.func6, Tryz.ntmps6
  have hz0 : ∃ z0 : Int, z0 = 0 := ⟨_, rfl⟩
  obtain ⟨z0, hz0⟩ := hz0
  rw [← hz0] at HR
  clear hz0
  go_wp2_with (first | (go_at_call 45; (with_reducible refine (NB.out _).mono ?_); rintro en w1 ⟨rfl, hb1⟩) | (go_at_call 40; (with_reducible refine (BT.out _).mono ?_); rintro en w2 ⟨rfl, rfl⟩) | (go_at_call 46; (with_reducible refine (HR.out _).mono ?_); rintro en w3 ⟨v3, rfl, ⟨a3, c3, rfl, hz3⟩, hb3⟩))
  go_ret
  exact ⟨rfl, below_trans (below_trans hb1 hb3) (below_alloc _ _)⟩
theorem hxs_zero (L : List UInt8) (mode : Int) (w : World) (hm : 0 ≤ mode ∧ mode ≤ 4) (hl : L.length ≤ 1000) (h : hrO L = true) (h0 : hvl (hrD L) = 0) :
    Calls Tryz.prog 6 #[.string (bsOf L), .int .i64 mode] w fun e w' => e = .returned (.bool true) ∧ Below w.heap.size w w' := by
  have NB := hid (fun w => hexNum_zero L mode w hm hl h h0)
  have HR := hid (fun w => hrd_ok L w hl h)
  obtain ⟨Z, hZ⟩ : ∃ Z : Int, Z = ((hvl (hrD L) : Nat) : Int) := ⟨_, rfl⟩
  rw [← hZ] at HR
  have hZ0 : Z = 0 := by rw [hZ, h0]; rfl
  have BT := hid (fun w => between_any mode 0 4 w)
  rw [show decide (0 ≤ mode ∧ mode ≤ 4) = true from decide_eq_true hm] at BT
  have ZS := hid (fun v w hv => zsignD v Z w hv)
  rw [show cmpI Z 0 = 0 by rw [hZ0]; decide] at ZS
  have SG := hid (show ∀ w, Calls Tryz.prog 42 #[.int .u64 0, .bool (hrN L)] w fun e w' => e = .returned (.int .u64 (sgb (hrN L))) ∧ w = w' from fun w => by
    have h := rSigned_any 0 (by omega) (by omega) (hrN L) w; rwa [Int.zero_add] at h)
  generalize bsOf L = Q at *
  generalize sgb (hrN L) = sx at *
  generalize hrN L = ne at *
  generalize hrK L = kk at *
  clear hm h h0 hZ hZ0
  go_enter Tryz.func6, Tryz.ntmps6
  go_upto_region 5 with (first | (go_at_call 45; (with_reducible refine (NB.out _).mono ?_); rintro en w1 ⟨rfl, hb1⟩) | (go_at_call 40; (with_reducible refine (BT.out _).mono ?_); rintro en w2 ⟨rfl, rfl⟩) | (go_at_call 46; (with_reducible refine (HR.out _).mono ?_); rintro en w3 ⟨v3, rfl, ⟨a3, c3, rfl, hz3⟩, hb3⟩))
  refine wp_worldZ (fun WW => Below w.heap.size w WW ∧ ZV 39 3 WW w3.heap.size Z) ⟨below_trans (below_trans hb1 hb3) (below_alloc _ _), zv_made hz3 _ rfl⟩ ?_
  intro W4 ⟨y4, z9⟩
  obtain ⟨g9, hg9⟩ : ∃ g, g = w3.heap.size := ⟨_, rfl⟩
  have b9 : w.heap.size ≤ g9 := by rw [hg9]; exact (below_trans hb1 hb3).size
  rw [← hg9] at z9 ⊢
  clear hg9 hb1 hb3 hz3 NB HR BT
  obtain ⟨a4, c4, zl4, n4⟩ := id z9
  obtain ⟨j0, j1, -⟩ := id zl4
  have hzd : ZD 3 W4 Z (.agg #[.bool (zneg Z), .slice a4 (zl Z).length c4]) := ⟨a4, c4, rfl, n4⟩
  go_wp2_with (first | (go_at_call 47; (with_reducible refine (ZS.out _ _ hzd).mono ?_); rintro en w4 ⟨rfl, hb4⟩) | (go_at_call 42; (with_reducible refine (SG.out _).mono ?_); rintro en w5 ⟨rfl, rfl⟩))
  go_ret
  exact ⟨rfl, below_trans y4 hb4⟩
theorem hxs_val (L : List UInt8) (mode : Int) (w : World) (hm : 0 ≤ mode ∧ mode ≤ 4) (hl : L.length ≤ 1000) (h : hrO L = true) (M : Nat) (hM : hvl (hrD L) = M) (h0 : 0 < M) :
    Calls Tryz.prog 6 #[.string (bsOf L), .int .i64 mode] w fun e w' => e = .returned (.bool true) ∧ Below w.heap.size w w' := by
  have hDl := hrD_len L
  have hbl : bl M ≤ 4000 := by rw [← hM]; exact hvl_bl _ (hrD_hx L) (by omega)
  obtain ⟨s1, s2⟩ := hr_same (hrN L) M (hrK L) mode hm.1 hm.2 h0 hbl
  have NB := hid (fun w => hexNum_val L mode w hm hl h M hM h0)
  rw [s1, s2] at NB
  have HR := hid (fun w => hrd_ok L w hl h)
  obtain ⟨Z, hZ⟩ : ∃ Z : Int, Z = (M : Int) := ⟨_, rfl⟩
  rw [hM, ← hZ] at HR
  have BT := hid (fun w => between_any mode 0 4 w)
  rw [show decide (0 ≤ mode ∧ mode ≤ 4) = true from decide_eq_true hm] at BT
  have ZS := hid (fun v w hv => zsignD v Z w hv)
  have c0 : cmpI Z 0 = 1 := by unfold cmpI; rw [if_neg (by omega), if_pos (by omega)]
  rw [c0] at ZS
  obtain ⟨A, hA⟩ : ∃ A : Nat, A = 4000 := ⟨_, rfl⟩
  have hMA : M < 2 ^ A := Nat.lt_of_lt_of_le (lt_bl M) (Nat.pow_le_pow_right (by omega) (by omega))
  obtain ⟨kc, hkc⟩ : ∃ kc, kc = hrc (hrK L) := ⟨_, rfl⟩
  have hkb : -9000 ≤ kc ∧ kc ≤ 9000 := by rw [hkc]; unfold hrc; omega
  have hmm : min (max (hrK L) (-9000)) 9000 = kc := by rw [hkc]; rfl
  rw [← hkc] at NB
  obtain ⟨Y, hY⟩ : ∃ Y : Int, Y = sg (hrN L) (M : Int) := ⟨_, rfl⟩
  have QM := hid (show ∀ (v : Value) w, ZD 3 w Y v → Calls Tryz.prog 50 #[v, .int .i64 kc] w (RetQD 3 w (nrm Y kc) (A + 9000) 9000) from fun v w hv => by
    obtain ⟨a, c, rfl, hz⟩ := hv
    exact qmake_any a c Y kc A 9000 w hz (by rw [hY, sg_abs, Int.natAbs_natCast]; exact hMA) (by omega) (by omega) (by omega))
  have RD := hid (show ∀ (v : Value) w, QD 3 w (nrm Y kc) (A + 9000) 9000 v → Calls Tryz.prog 49 #[v, .int .i64 0, .int .i64 mode] w (RetX w (numX (hrN L) M kc mode) (numC (hrN L) M kc mode)) from fun v w hq =>
    roundedP_any v (hrN L) M kc (A + 9000) 9000 mode w (by rw [← hY]; exact hq) (by omega) (by omega) hm.1 hm.2 (fun h9 => by omega))
  have ZN := hid (fun v w hv => znegD v Z w hv)
  have hYf : hrN L = false → Y = Z := fun h => by rw [hY, h, hZ]; rfl
  have hYt : hrN L = true → -Z = Y := fun h => by rw [hY, h, hZ]; rfl
  generalize bsOf L = Q at *
  generalize hrN L = ne at *
  generalize hrK L = kk at *
  generalize A + 9000 = A9 at *
  generalize numX ne M kc mode = X at *
  generalize numC ne M kc mode = C at *
  obtain ⟨k1, hk1⟩ : ∃ k1, max kk (-9000) = k1 := ⟨_, rfl⟩
  rw [hk1] at hmm
  clear hm h h0 c0 hMA hA s1 s2 hkc hDl hbl hM hY hZ hkb
  go_enter Tryz.func6, Tryz.ntmps6
  go_upto_region 5 with (first | (go_at_call 45; (with_reducible refine (NB.out _).mono ?_); rintro en w1 ⟨rfl, hb1⟩) | (go_at_call 40; (with_reducible refine (BT.out _).mono ?_); rintro en w2 ⟨rfl, rfl⟩) | (go_at_call 46; (with_reducible refine (HR.out _).mono ?_); rintro en w3 ⟨v3, rfl, ⟨a3, c3, rfl, hz3⟩, hb3⟩))
  refine wp_worldZ (fun WW => Below w.heap.size w WW ∧ ZV 39 3 WW w3.heap.size Z) ⟨below_trans (below_trans hb1 hb3) (below_alloc _ _), zv_made hz3 _ rfl⟩ ?_
  intro W4 ⟨y4, z9⟩
  obtain ⟨g9, hg9⟩ : ∃ g, g = w3.heap.size := ⟨_, rfl⟩
  have b9 : w.heap.size ≤ g9 := by rw [hg9]; exact (below_trans hb1 hb3).size
  rw [← hg9] at z9 ⊢
  clear hg9 hb1 hb3 hz3 NB HR BT
  obtain ⟨a4, c4, zl4, n4⟩ := id z9
  obtain ⟨j0, j1, -⟩ := id zl4
  have hzd : ZD 3 W4 Z (.agg #[.bool (zneg Z), .slice a4 (zl Z).length c4]) := ⟨a4, c4, rfl, n4⟩
  go_upto_if 69 with (go_at_call 47; (with_reducible refine (ZS.out _ _ hzd).mono ?_); rintro en w4 ⟨rfl, hb4⟩)
  have y5 := below_trans y4 hb4
  have z5 := z9.below hb4
  obtain ⟨W5, hW5⟩ : ∃ W, W = w4 := ⟨_, rfl⟩
  subst hW5
  clear y4 hb4 z9 hzd j0 j1 zl4 n4 ZS
  go_cut [] (fun wx => Below w.heap.size w wx ∧ ZV 39 3 wx g9 Y)
  case first => as_aux_lemma =>
    cases ne
    · have e1 := hYf rfl
      have z6 : ZV 39 3 W5 g9 Y := by rw [e1]; exact z5
      have Z6 := hid z6
      clear hYf hYt QM RD ZN z5 z6 e1
      go_wp2_with fail
      go_meet
      exact ⟨y5, Z6.out⟩
    · rw [hYt rfl] at ZN
      clear hYf hYt QM RD
      obtain ⟨a5, c5, zl5, n5⟩ := id z5
      obtain ⟨j0, j1, -⟩ := id zl5
      have hzd : ZD 3 W5 Z (.agg #[.bool (zneg Z), .slice a5 (zl Z).length c5]) := ⟨a5, c5, rfl, n5⟩
      go_wp2_with (go_at_call 48; (with_reducible refine (ZN.out _ _ hzd).mono ?_); rintro en w6 ⟨v6, rfl, ⟨a6, c6, rfl, n6⟩, hb6⟩; obtain ⟨a7, c7, zl7, n7⟩ := z5.below hb6; have HS := hid (zv_store1 (by decide) (below_trans y5 hb6) b9 zl7 n6); obtain ⟨k0, k1, kf0, kf1, -⟩ := id zl7)
      go_meet
      exact HS.out
  case rest =>
  obtain ⟨y6, z6⟩ := hcut
  obtain ⟨W6, hW6⟩ : ∃ W, W = wc := ⟨_, rfl⟩
  subst hW6
  clear y5 z5 hYf hYt ZN
  obtain ⟨a6, c6, zl6, n6⟩ := id z6
  obtain ⟨j0, j1, -⟩ := id zl6
  have hzd : ZD 3 W6 Y (.agg #[.bool (zneg Y), .slice a6 (zl Y).length c6]) := ⟨a6, c6, rfl, n6⟩
  go_wp2_with (first | (go_at_call 50; (with_reducible refine (QM.out _ _ hzd).mono ?_); rintro en w7 ⟨v7, rfl, hq7, hb7⟩) | (go_at_call 49; (with_reducible refine (RD.out _ _ hq7).mono ?_); rintro en w8 ⟨rfl, hb8⟩))
  go_ret
  exact ⟨rfl, below_trans (below_trans y6 hb7) hb8⟩
theorem hexReads_walk (s : ByteArray) (mode : Int) (hs : s.size ≤ 9223372036854775807) (hm : -9223372036854775808 ≤ mode ∧ mode ≤ 9223372036854775807) (w : World) (_hT : Tab 0 w) (_hT10 : Tab10 w) :
    Calls Tryz.prog 6 #[.string s, .int .i64 mode] w fun e w' => e = .returned (.bool true) ∧ Below w.heap.size w w' := by
  obtain ⟨L, rfl⟩ : ∃ L, s = bsOf L := ⟨s.data.toList, rfl⟩
  rw [bs_size] at hs
  by_cases c0 : 0 ≤ mode ∧ mode ≤ 4
  · by_cases c1 : 1000 < L.length
    · exact hxs_no L mode w c0 2 (.inl rfl) (fun w => hexNum_long L mode w c0 c1 hs) (fun w => hrd_long L w c1 hs)
    · cases c2 : hrO L
      · exact hxs_no L mode w c0 5 (.inr rfl) (fun w => hexNum_err L mode w c0 (by omega) c2) (fun w => hrd_err L w (by omega) c2)
      · by_cases c3 : hvl (hrD L) = 0
        · exact hxs_zero L mode w c0 (by omega) c2 c3
        · exact hxs_val L mode w c0 (by omega) c2 _ rfl (by omega)
  · exact hxs_bad L mode w c0
end Go.Proofs.YthaelmnblgollaaGreatDoor

set_option linter.unusedVariables false
set_option linter.unusedSimpArgs false
namespace Go.Ulp
open Go.RowKit Go.WideShapes Go.ChangeShapes Go.Joins Go.Deep
section
variable {H : Type} {enc : TypeId × Value → H} {P : Program} {w : World} {base : Nat} {spare : Nat → Bool} {held : Bool}
theorem trodAll_still {w' : World} : ∀ {ts : List TypeId} {vs : List Value} {ds : List (DataW H)} {ps : List MemPlace}, DataW.TrodAll enc P w base spare held ts vs ds ps → (∀ p ∈ ps, w.sameAt w' p) → DataW.TrodAll enc P w' base spare held ts vs ds ps
  | [], _, _, _, h, _ => by
    obtain ⟨rfl, rfl, rfl⟩ := trodAll_nil h
    exact trodAll_mk0
  | _ :: _, _, _, _, h, hs => by
    obtain ⟨v, vs, d, ds, p, q, rfl, rfl, rfl, ⟨n, h1⟩, h2⟩ := trodAll_cons h
    exact ⟨p, q, ⟨n, DataW.trod_carry n _ _ _ h1 (fun x hx => hs x (List.mem_append_left _ hx))⟩, trodAll_still h2 (fun x hx => hs x (List.mem_append_right _ hx)), rfl⟩
theorem post_reads {f : Func} {s : ChangeSpec} {apart fresh handsOn : Bool} {W W' : World} {args : Array Value} {v : Value} {ds : List (DataW H)} {p : List MemPlace}
    (hW : DataW.Whole enc P f.params.toList s.vars apart W args.toList ds [] (p ++ [])) (hA : DataW.TrodAll enc P W 0 (fun _ => true) true f.params.toList args.toList ds p)
    (K : Kids P (· < P.types.size)) (full : ∀ t e, t < P.types.size → P.underlying t = some (.slice e) → 0 < P.cellsOf e) (hts : ∀ t ∈ f.params.toList, t < P.types.size)
    (hres : ∀ b, DataW.TrodAll enc P W' b (fun _ => false) handsOn f.resultTypes.toList (v.resultList f.resultTypes.size) (s.fn H (ds ++ [])).results [])
    (hargs : (s.fn H (ds ++ [])).args = ds) (hvars : DataW.TrodVars enc P W' (fun b => decide (b < W.heap.size)) s.vars (s.fn H (ds ++ [])).vars [])
    (hb : Below W.heap.size W W') : s.post enc P f apart fresh handsOn false W args v W' := by
  have hlt : ∀ x ∈ p, x.block < W.heap.size := fun x hx => hW.lt x (List.mem_append_left _ hx)
  have h1 := DataW.TrodAll.respare (spare' := fun b => decide (b < W.heap.size)) K full hts hA (fun x hx => by simpa using hlt x hx)
  have h2 := trodAll_still (w' := W') h1 (fun x hx => hb.same (hlt x hx))
  refine ⟨ds, [], p ++ [], [], p, [], hW, hres _, ?_, hvars, hb.frame _, fun h => by cases h⟩
  rw [hargs]; exact h2
end
end Go.Ulp
set_option linter.unusedVariables false
set_option linter.unusedSimpArgs false
namespace Go.Ulp
open Go.RowKit Go.WideShapes Go.ChangeShapes Go.Joins Go.Deep
section
variable {H : Type} {enc : TypeId × Value → H} {P : Program} {w : World} {base : Nat} {spare : Nat → Bool} {held : Bool}
end
end Go.Ulp
set_option linter.unusedVariables false
set_option linter.unusedSimpArgs false
namespace Go.Ulp
open Go.RowKit Go.WideShapes Go.ChangeShapes Go.Joins Go.Deep
section
variable {H : Type} {enc : TypeId × Value → H} {P : Program} {w : World} {base : Nat} {spare : Nat → Bool} {held : Bool}
end
end Go.Ulp

set_option linter.unusedVariables false
set_option linter.unusedSimpArgs false
namespace Go.Proofs.YthaelmnblgollaaGreatDoor
open Go Go.RowKit Go.Ulp Go.ChangeShapes Go.WideShapes Go.ChangeAt
theorem gTab : Tryz.prog.globalNamed "math/bits.deBruijn32tab" = some 0 := by kernel_rfl
def tabZ : List Int := Lib.deBruijn32tab.map fun n : Nat => (n : Int)
end Go.Proofs.YthaelmnblgollaaGreatDoor

set_option linter.unusedVariables false
set_option linter.unusedSimpArgs false
namespace Go.Proofs.YthaelmnblgollaaGreatDoor
open Go Go.RowKit Go.Ulp Go.ChangeShapes Go.WideShapes Go.ChangeAt
def laidV : List (String × DataW Unit) := [("math/bits.deBruijn32tab", Rows.laid_math_bits_deBruijn32tab), ("math/bits.deBruijn64tab", Rows.laid_math_bits_deBruijn64tab), ("internal/strconv.uint64pow10", Rows.laid_internal_strconv_uint64pow10), ("unicode/utf8.acceptRanges", Rows.laid_unicode_utf8_acceptRanges), ("strconv.ErrRange", Rows.laid_strconv_ErrRange), ("strconv.ErrSyntax", Rows.laid_strconv_ErrSyntax), ("unicode/utf8.first", Rows.laid_unicode_utf8_first)]
theorem gTenV : Tryz.prog.globalNamed "internal/strconv.uint64pow10" = some 6 := by kernel_rfl
theorem laid32V_eq : (("math/bits.deBruijn32tab", Rows.laid_math_bits_deBruijn32tab) : String × DataW Unit) = ("math/bits.deBruijn32tab", Lib.tabData .u8 tabZ) := by rfl
theorem laid10V_eq : (("internal/strconv.uint64pow10", Rows.laid_internal_strconv_uint64pow10) : String × DataW Unit) = ("internal/strconv.uint64pow10", Lib.tabData .u64 Lib.pow10Tab) := by rfl
theorem plainV {W : World} (h : laidMetH Tryz.prog laidV W) : laidMet Tryz.prog laidV W := by
  rwa [MakeChecks.laidMetH_plain _ _ _ (by kernel_rfl)] at h
theorem tabV {W : World} (h : laidMetH Tryz.prog laidV W) : Tab 0 W := by
  have h := plainV h
  unfold laidV at h
  rw [laid32V_eq] at h
  have h1 := Lib.tabIs_of_head gTab (by kernel_rfl) Tryz.underlying261 Tryz.underlying5 (by kernel_rfl) (by kernel_rfl) h
  intro j hj
  have h2 := h1.cell gTab j (by unfold tabZ; rw [List.length_map]; exact hj)
  rw [h2]
  unfold tabZ
  congr 2
  rw [List.getD_eq_getElem?_getD, List.getElem?_map, List.getElem?_eq_getElem hj, List.getD_eq_getElem?_getD, List.getElem?_eq_getElem hj]; rfl
theorem tenV {W : World} (h : laidMetH Tryz.prog laidV W) : Tab10 W := by
  have h := laidMet.tail (laidMet.tail (plainV h))
  rw [laid10V_eq] at h
  exact Lib.tabIs_of_head gTenV (by kernel_rfl) Tryz.underlying309 Tryz.underlying23 (by kernel_rfl) (by kernel_rfl) h
theorem doorV_met (os : Os) (args : Array Value) : laidMetH Tryz.prog laidV ((World.laidAll Tryz.prog os laidV).forCall (fun _ _ => 0) ⟨#[], args, []⟩).memory := by
  rw [MakeChecks.laidMetH_plain _ _ _ (by kernel_rfl)]; exact laidMet_laidAll _ (by kernel_rfl) (by kernel_rfl)
theorem shapedV (os : Os) : (World.laidAll Tryz.prog os laidV).Shaped Tryz.prog := World.shaped_of_ZipB (by kernel_rfl) (by kernel_rfl)
end Go.Proofs.YthaelmnblgollaaGreatDoor
