/- ShortSays: what the proof leans on, part 15 (Dn5 Sh Qt1 ShelfS). -/
import Derived.Deep.DeepCutAuto
import Derived.Deep.CutBlock
import Derived.Shelf.Strings.Builder1
import Derived.Shelf.Strings.Builder2
import Derived.Shelf.Strings.OnBuilder
import Derived.Shelf.Strings.Trim
import Derived.Shelf.Small.Utf8
import Derived.Shelf.Small.Bits
import Derived.Shelf.Small.Strs
import Derived.Shelf.Small.Wraps
import Derived.Shelf.Strings.BuilderF
import Derived.Shelf.Strconv.Atoi
import Derived.Shelf.Strconv.Itoa0
import Derived.Shelf.Strconv.Itoa1
import Derived.Shelf.LaysM
import Derived.Shelf.Strconv.Itoa2
import Derived.Shelf.Strconv.Itoa3
import Derived.Shelf.Strings.Search1
import Derived.Shelf.Strings.Search2
import Derived.Shelf.Strings.Search3
import Derived.Shelf.Strings.Cut
import Derived.Shelf.Strings.Shaped
import Derived.Shelf.Strings.Prefix
import Derived.Shelf.Strings.Runes
import Derived.Shelf.Strings.AsciiSet
import Derived.Shelf.Bits.Mul64
import Derived.Shelf.Strings.Repeat
import Derived.Shelf.Unicode.DecodeSlow
import Derived.Ground.Names2Prog
import Derived.Shelf.Slices.ReverseS
import Derived.Shelf.Slices.SearchI
import Derived.Test.YthaelmnblgollaaGreatDoorKShortSays6
import Derived.Test.YthaelmnblgollaaGreatDoorKShortSays10
import Derived.Test.YthaelmnblgollaaGreatDoorKShortSays11
import Derived.Test.YthaelmnblgollaaGreatDoorKShortSays12
import Derived.Test.YthaelmnblgollaaGreatDoorKShortSays14
namespace Go.Ulp
open Go.RowKit
theorem dy_len (D : Dy) : (limbs D.1.natAbs).length = 0 ↔ D.1 = 0 := by
  rw [List.length_eq_zero_iff, limbs_nil]; omega
/-- a Dyad of value D among the values of a region; a number's limbs -/
def Fact.vd (D : Dy) : Fact := ⟨fun v w => VD w D v, fun _ _ _ h hb => h.below hb⟩
def Fact.li (m : Nat) : Fact := ⟨fun v w => ∃ ao cap, v = .slice ao (limbs m).length cap ∧ Ns .u32 w ao cap (limbs m), fun _ _ _ h hb => by
  obtain ⟨ao, cap, h1, h2⟩ := h
  exact ⟨ao, cap, h1, h2.below hb⟩⟩
theorem QL.farD {t : TypeId} {w : World} {g : Nat} {n : Bool} {v : Value} {k : Int} (h : QL t w g n v k) (a : Addr) (u : Value) (hne : g ≠ a.block) : QL t (w.setCell a u) g n v k := by
  refine ⟨h.1.far a u hne, ?_, ?_⟩
  · rw [World.cell?_setCell_other (h := fun e => hne (by rw [e]))]; exact h.2.1
  · rw [frozen_setCell]; exact h.2.2
theorem QL.set0D {t : TypeId} {w : World} {g : Nat} {n : Bool} {v : Value} {k : Int} (h : QL t w g n v k) (u : Bool) : QL t (w.setCell ⟨g, 0, none⟩ (.bool u)) g u v k :=
  ⟨h.1.set0 u, (cell_set_ne (by omega)).trans h.2.1, (frozen_setCell _ _ _ _).trans h.2.2⟩
theorem QL.set1D {t : TypeId} {w : World} {g : Nat} {n : Bool} {v : Value} {k : Int} (h : QL t w g n v k) (u : Value) : QL t (w.setCell ⟨g, 1, none⟩ u) g n u k :=
  ⟨h.1.set1 u, (cell_set_ne (by omega)).trans h.2.1, (frozen_setCell _ _ _ _).trans h.2.2⟩
end Go.Ulp
namespace Go.Proofs.YthaelmnblgollaaGreatDoor
open Go.RowKit Go.Ulp
set_option linter.unusedVariables false
set_option linter.unusedSimpArgs false
set_option maxHeartbeats 1000000
set_option maxRecDepth 100000
end Go.Proofs.YthaelmnblgollaaGreatDoor
namespace Go.Ulp
open Go.RowKit
/-- what Align hands back -/
def RetAl (w : World) (A B : Nat) (m : Int) (e : Ending) (w' : World) : Prop :=
  ∃ ao cap bo cbp, e = .returned (.tuple #[.slice ao (limbs A).length cap, .slice bo (limbs B).length cbp, .int .i64 m]) ∧ Ns .u32 w' ao cap (limbs A) ∧ Ns .u32 w' bo cbp (limbs B) ∧ Below w.heap.size w w'
/-- the size of a number as a multiple of 2^m -/
def alN (D : Dy) (m : Int) : Nat := D.1.natAbs * 2 ^ (D.2 - m).toNat
theorem sg_alN (D : Dy) (m : Int) : sg (decide (D.1 < 0)) (alN D m : Int) = sc D.1 D.2 m := by
  unfold alN sc
  rw [Int.natCast_mul, ← pw_nat]
  rcases Int.lt_or_le D.1 0 with h | h
  · have e : (D.1.natAbs : Int) = -D.1 := by omega
    rw [decide_eq_true h, e]
    show -(-D.1 * _) = _
    rw [Int.neg_mul, Int.neg_neg]
  · have e : (D.1.natAbs : Int) = D.1 := by omega
    rw [decide_eq_false (by omega), e]; rfl
theorem add_same (D E : Dy) (m : Int) (n : Bool) (h0 : decide (D.1 < 0) = n) (h1 : decide (E.1 < 0) = n) : sg n ((alN D m + alN E m : Nat) : Int) = sc D.1 D.2 m + sc E.1 E.2 m := by
  rw [← sg_alN, ← sg_alN, h0, h1]
  unfold sg; cases n <;> simp <;> omega
theorem add_ge (D E : Dy) (m : Int) (h : decide (D.1 < 0) ≠ decide (E.1 < 0)) (hg : alN E m ≤ alN D m) : sg (decide (D.1 < 0)) ((alN D m - alN E m : Nat) : Int) = sc D.1 D.2 m + sc E.1 E.2 m := by
  rw [← sg_alN, ← sg_alN]
  generalize decide (D.1 < 0) = n0 at *
  generalize decide (E.1 < 0) = n1 at *
  unfold sg
  cases n0 <;> cases n1
  · exact absurd rfl h
  · simp; omega
  · simp; omega
  · exact absurd rfl h
theorem add_lt (D E : Dy) (m : Int) (h : decide (D.1 < 0) ≠ decide (E.1 < 0)) (hg : alN D m ≤ alN E m) : sg (decide (E.1 < 0)) ((alN E m - alN D m : Nat) : Int) = sc D.1 D.2 m + sc E.1 E.2 m := by
  rw [add_ge E D m h.symm hg]; omega
theorem addD_left (D E : Dy) (h : D.1 = 0) : addD D E = nrm E.1 E.2 := by
  unfold addD
  rw [h, sc_zero, Int.zero_add]
  unfold sc
  rw [nrm_scale]; congr 1; omega
theorem addD_right (D E : Dy) (h : E.1 = 0) : addD D E = nrm D.1 D.2 := by
  unfold addD
  rw [h, sc_zero, Int.add_zero]
  unfold sc
  rw [nrm_scale]; congr 1; omega
theorem sg_self (x : Int) : sg (decide (x < 0)) (x.natAbs : Int) = x := by
  rcases Int.lt_or_le x 0 with h | h
  · rw [decide_eq_true h]; show -(x.natAbs : Int) = x; omega
  · rw [decide_eq_false (by omega)]; show (x.natAbs : Int) = x; omega
theorem alN_len (D : Dy) (m : Int) (k j : Nat) (hl : (limbs D.1.natAbs).length ≤ k) (hd : D.2 - m < 32 * ((j : Int) + 1)) : (limbs (alN D m)).length ≤ k + (j + 1) := by
  unfold alN
  have := limbs_len_shl D.1.natAbs (D.2 - m).toNat j (by omega)
  omega
end Go.Ulp
namespace Go.Proofs.YthaelmnblgollaaGreatDoor
open Go.RowKit Go.Ulp
set_option linter.unusedVariables false
set_option linter.unusedSimpArgs false
set_option maxHeartbeats 1000000
set_option maxRecDepth 100000
theorem align_any (v u : Value) (D E : Dy) (w : World) (hv : VD w D v) (hu : VD w E u) (hl : (limbs D.1.natAbs).length ≤ 100000) (hl' : (limbs E.1.natAbs).length ≤ 100000) (he : -1000000 ≤ D.2 ∧ D.2 ≤ 1000000) (he' : -1000000 ≤ E.2 ∧ E.2 ≤ 1000000) :
    Calls Tryz.prog 230 #[v, u] w (RetAl w (alN D (min D.2 E.2)) (alN E (min D.2 E.2)) (min D.2 E.2)) := by
  obtain ⟨am, cm, rfl, hN⟩ := hv
  obtain ⟨bm, dm, rfl, hM⟩ := hu
  have HN := hid hN
  have HM := hid hM
  obtain ⟨m, hm⟩ : ∃ m, m = min D.2 E.2 := ⟨_, rfl⟩
  have hmb : -1000000 ≤ m ∧ m ≤ D.2 ∧ m ≤ E.2 := by omega
  have LA := hid (show ∀ w, Ns .u32 w am cm (limbs D.1.natAbs) → Calls Tryz.prog 192 #[.slice am (limbs D.1.natAbs).length cm, .int .i64 (D.2 - m)] w fun e w' => RetN w (alN D m) e w' from fun w h => by
    have := leftN_any am cm D.1.natAbs (D.2 - m).toNat w h (by omega) (by omega)
    rwa [show (((D.2 - m).toNat : Nat) : Int) = D.2 - m by omega] at this)
  have LB := hid (show ∀ w, Ns .u32 w bm dm (limbs E.1.natAbs) → Calls Tryz.prog 192 #[.slice bm (limbs E.1.natAbs).length dm, .int .i64 (E.2 - m)] w fun e w' => RetN w (alN E m) e w' from fun w h => by
    have := leftN_any bm dm E.1.natAbs (E.2 - m).toNat w h (by omega) (by omega)
    rwa [show (((E.2 - m).toNat : Nat) : Int) = E.2 - m by omega] at this)
  have HM2 := hid hm.symm
  rw [← hm]
  generalize alN D m = A at *
  generalize alN E m = B at *
  generalize D.1.natAbs = M0 at *
  generalize E.1.natAbs = M1 at *
  generalize decide (D.1 < 0) = n0 at *
  generalize decide (E.1 < 0) = n1 at *
  generalize D.2 = e0 at *
  generalize E.2 = e1 at *
  have hw1 : IntKind.i64.wrap (e0 - m) = e0 - m := IntWalk.i64_in _ (by omega)
  have hw2 : IntKind.i64.wrap (e1 - m) = e1 - m := IntWalk.i64_in _ (by omega)
  clear hN hM hm
  have zA : QL 26 ((w.alloc (.cells #[.bool n0, .slice am (limbs M0).length cm, .int .i64 e0] 26)).alloc (.cells #[.bool n1, .slice bm (limbs M1).length dm, .int .i64 e1] 26)) w.heap.size n0 (.slice am (limbs M0).length cm) e0 := (QL.made rfl).alloc _
  have zB : QL 26 ((w.alloc (.cells #[.bool n0, .slice am (limbs M0).length cm, .int .i64 e0] 26)).alloc (.cells #[.bool n1, .slice bm (limbs M1).length dm, .int .i64 e1] 26)) (w.heap.size + 1) n1 (.slice bm (limbs M1).length dm) e1 := QL.made (by first | omega | (simp; done) | (simp; omega))
  have yb0 : Below w.heap.size w ((w.alloc (.cells #[.bool n0, .slice am (limbs M0).length cm, .int .i64 e0] 26)).alloc (.cells #[.bool n1, .slice bm (limbs M1).length dm, .int .i64 e1] 26)) := by (repeat' (first | (with_reducible assumption) | (with_reducible exact Below.refl _ _) | (with_reducible refine below_al ?_ _) | (with_reducible refine below_drewN ?_ _) | (with_reducible refine Below.drew ?_) | (with_reducible refine Below.alloc ?_ ?_ _) | (with_reducible refine Below.setCell ?_ ?_ _) | (refine below_trans ?_ (by assumption)) | go_size))
  go_enter Tryz.func230, Tryz.ntmps230
  go_upto_region 2 with fail
  rw [HM2.out]
  refine wp_region_grow 18 [13, 14, 15, 16, 17, 18, 19, 20, 21, 22, 23, 24, 25, 26, 27, 4, 5, 6] [Fact.is (.pointer (some ⟨w.heap.size, 1, none⟩)), Fact.is (.slice am (limbs M0).length cm), Fact.is (.pointer (some ⟨w.heap.size, 2, none⟩)), Fact.is (.int .i64 e0), Fact.is (.int .i64 m), Fact.is (.int .i64 (e0 - m)), Fact.li A, Fact.is (.pointer (some ⟨w.heap.size + 1, 1, none⟩)), Fact.is (.slice bm (limbs M1).length dm), Fact.is (.pointer (some ⟨w.heap.size + 1, 2, none⟩)), Fact.is (.int .i64 e1), Fact.is (.int .i64 m), Fact.is (.int .i64 (e1 - m)), Fact.li B, Fact.is (.int .i64 m), Fact.li A, Fact.li B, Fact.is (.int .i64 m)] (by kernel_rfl) (by kernel_rfl) ⟨?o0, ?o1, ?o2, ?o3, ?o4, ?o5, ?o6, ?o7, ?o8, ?o9, ?o10, ?o11, ?o12, ?o13, ?o14, ?o15, ?o16, ?o17, trivial⟩ ?after
  case o0 => (refine StepOK.plain rfl ?_; intro ρ w1 R hρ hb hp hR; have e2 : ρ (.tmp 2) = .pointer (some ⟨w.heap.size, 0, none⟩) := hρ.tmp 2 rfl; have hcon := hρ.con; have hfn := hρ.fn; clear hρ hp; unfold OpRun; go_simp; exact hR _ _ (Below.refl _ _) rfl)
  case o1 => (refine StepOK.plain rfl ?_; intro ρ w1 R hρ hb hp hR; have e13 : ρ (.tmp 13) = _ := hp 0 13 rfl rfl; obtain ⟨⟨j0, j1, -, -, -⟩, j2, -⟩ := zA.below hb; have hcon := hρ.con; have hfn := hρ.fn; clear hρ hp; unfold OpRun; go_simp; exact hR _ _ (Below.refl _ _) rfl)
  case o2 => (refine StepOK.plain rfl ?_; intro ρ w1 R hρ hb hp hR; have e2 : ρ (.tmp 2) = .pointer (some ⟨w.heap.size, 0, none⟩) := hρ.tmp 2 rfl; have hcon := hρ.con; have hfn := hρ.fn; clear hρ hp; unfold OpRun; go_simp; exact hR _ _ (Below.refl _ _) rfl)
  case o3 => (refine StepOK.plain rfl ?_; intro ρ w1 R hρ hb hp hR; have e15 : ρ (.tmp 15) = _ := hp 2 15 rfl rfl; obtain ⟨⟨j0, j1, -, -, -⟩, j2, -⟩ := zA.below hb; have hcon := hρ.con; have hfn := hρ.fn; clear hρ hp; unfold OpRun; go_simp; exact hR _ _ (Below.refl _ _) rfl)
  case o4 => (refine StepOK.plain rfl ?_; intro ρ w1 R hρ hb hp hR; have e7 : ρ (.tmp 7) = .int .i64 m := hρ.tmp 7 rfl; have hcon := hρ.con; have hfn := hρ.fn; clear hρ hp; unfold OpRun; go_simp; exact hR _ _ (Below.refl _ _) rfl)
  case o5 => (refine StepOK.plain rfl ?_; intro ρ w1 R hρ hb hp hR; have e16 : ρ (.tmp 16) = _ := hp 3 16 rfl rfl; have e17 : ρ (.tmp 17) = _ := hp 4 17 rfl rfl; have hcon := hρ.con; have hfn := hρ.fn; clear hρ hp; unfold OpRun; go_simp; exact hR _ _ (Below.refl _ _) rfl)
  case o6 => (refine StepOK.plain rfl ?_; intro ρ w1 R hρ hb hp hR; have e14 : ρ (.tmp 14) = _ := hp 1 14 rfl rfl; have e18 : ρ (.tmp 18) = _ := hp 5 18 rfl rfl; have hcon := hρ.con; have hfn := hρ.fn; clear hρ hp; unfold OpRun; go_simp; (refine (LA.out _ (HN.out.below (below_trans yb0 hb))).mono ?_; rintro e wn ⟨a9, rfl, hn9, hbn⟩; exact ⟨_, rfl, hR _ _ hbn ⟨a9, _, rfl, hn9⟩⟩))
  case o7 => (refine StepOK.plain rfl ?_; intro ρ w1 R hρ hb hp hR; have e3 : ρ (.tmp 3) = .pointer (some ⟨w.heap.size + 1, 0, none⟩) := hρ.tmp 3 rfl; have hcon := hρ.con; have hfn := hρ.fn; clear hρ hp; unfold OpRun; go_simp; exact hR _ _ (Below.refl _ _) rfl)
  case o8 => (refine StepOK.plain rfl ?_; intro ρ w1 R hρ hb hp hR; have e20 : ρ (.tmp 20) = _ := hp 7 20 rfl rfl; obtain ⟨⟨j0, j1, -, -, -⟩, j2, -⟩ := zB.below hb; have hcon := hρ.con; have hfn := hρ.fn; clear hρ hp; unfold OpRun; go_simp; exact hR _ _ (Below.refl _ _) rfl)
  case o9 => (refine StepOK.plain rfl ?_; intro ρ w1 R hρ hb hp hR; have e3 : ρ (.tmp 3) = .pointer (some ⟨w.heap.size + 1, 0, none⟩) := hρ.tmp 3 rfl; have hcon := hρ.con; have hfn := hρ.fn; clear hρ hp; unfold OpRun; go_simp; exact hR _ _ (Below.refl _ _) rfl)
  case o10 => (refine StepOK.plain rfl ?_; intro ρ w1 R hρ hb hp hR; have e22 : ρ (.tmp 22) = _ := hp 9 22 rfl rfl; obtain ⟨⟨j0, j1, -, -, -⟩, j2, -⟩ := zB.below hb; have hcon := hρ.con; have hfn := hρ.fn; clear hρ hp; unfold OpRun; go_simp; exact hR _ _ (Below.refl _ _) rfl)
  case o11 => (refine StepOK.plain rfl ?_; intro ρ w1 R hρ hb hp hR; have e7 : ρ (.tmp 7) = .int .i64 m := hρ.tmp 7 rfl; have hcon := hρ.con; have hfn := hρ.fn; clear hρ hp; unfold OpRun; go_simp; exact hR _ _ (Below.refl _ _) rfl)
  case o12 => (refine StepOK.plain rfl ?_; intro ρ w1 R hρ hb hp hR; have e23 : ρ (.tmp 23) = _ := hp 10 23 rfl rfl; have e24 : ρ (.tmp 24) = _ := hp 11 24 rfl rfl; have hcon := hρ.con; have hfn := hρ.fn; clear hρ hp; unfold OpRun; go_simp; exact hR _ _ (Below.refl _ _) rfl)
  case o13 => (refine StepOK.plain rfl ?_; intro ρ w1 R hρ hb hp hR; have e21 : ρ (.tmp 21) = _ := hp 8 21 rfl rfl; have e25 : ρ (.tmp 25) = _ := hp 12 25 rfl rfl; have hcon := hρ.con; have hfn := hρ.fn; clear hρ hp; unfold OpRun; go_simp; (refine (LB.out _ (HM.out.below (below_trans yb0 hb))).mono ?_; rintro e wn ⟨a9, rfl, hn9, hbn⟩; exact ⟨_, rfl, hR _ _ hbn ⟨a9, _, rfl, hn9⟩⟩))
  case o14 => (refine StepOK.plain rfl ?_; intro ρ w1 R hρ hb hp hR; have e7 : ρ (.tmp 7) = .int .i64 m := hρ.tmp 7 rfl; have hcon := hρ.con; have hfn := hρ.fn; clear hρ hp; unfold OpRun; go_simp; exact hR _ _ (Below.refl _ _) rfl)
  case o15 => (refine StepOK.plain rfl ?_; intro ρ w1 R hρ hb hp hR; have f19 := hp 6 19 rfl rfl; have hcon := hρ.con; have hfn := hρ.fn; clear hρ hp; unfold OpRun; go_simp; exact hR _ _ (Below.refl _ _) f19)
  case o16 => (refine StepOK.plain rfl ?_; intro ρ w1 R hρ hb hp hR; have f26 := hp 13 26 rfl rfl; have hcon := hρ.con; have hfn := hρ.fn; clear hρ hp; unfold OpRun; go_simp; exact hR _ _ (Below.refl _ _) f26)
  case o17 => (refine StepOK.plain rfl ?_; intro ρ w1 R hρ hb hp hR; have e27 : ρ (.tmp 27) = _ := hp 14 27 rfl rfl; have hcon := hρ.con; have hfn := hρ.fn; clear hρ hp; unfold OpRun; go_simp; exact hR _ _ (Below.refl _ _) rfl)
  case after =>
    intro u wn hb hf
    have f4 := hf 15 4 (by omega) rfl
    have f5 := hf 16 5 (by omega) rfl
    have e6 : u 6 = _ := hf 17 6 (by omega) rfl
    clear hf
    simp only [putAll, Act.put, List.setIfInBounds_toArray, List.set_cons_zero, List.set_cons_succ, List.drop_succ_cons, List.drop_zero, List.drop_nil]
    rw [e6]
    obtain ⟨a4, c4, e4, hN4⟩ := f4
    obtain ⟨a5, c5, e5, hN5⟩ := f5
    rw [e4, e5]
    clear e4 e5
    go_wp2_with fail
    refine bodyPost_ret (by simp [results, Tryz.results230, go_sem]; try rfl) rfl ?_
    exact ⟨_, _, _, _, rfl, hN4, hN5, below_trans yb0 hb⟩
theorem plusD_any (v u : Value) (D E : Dy) (w : World) (hv : VD w D v) (hu : VD w E u) (hl : (limbs D.1.natAbs).length ≤ 100000) (hl' : (limbs E.1.natAbs).length ≤ 100000) (he : -1000000 ≤ D.2 ∧ D.2 ≤ 1000000) (he' : -1000000 ≤ E.2 ∧ E.2 ≤ 1000000) (hT : Tab 0 w) :
    Calls Tryz.prog 160 #[v, u] w (RetVD w (addD D E)) := by
  have HV := hid hv
  have HU := hid hu
  obtain ⟨am, cm, rfl, hN⟩ := hv
  obtain ⟨bm, dm, rfl, hM⟩ := hu
  have HN := hid hN
  have HM := hid hM
  have HT := hid hT
  have lD := dy_len D
  have lE := dy_len E
  have zA : QL 26 (((w.alloc (.cells #[.bool (decide (D.1 < 0)), .slice am (limbs D.1.natAbs).length cm, .int .i64 D.2] 26)).alloc (.cells #[.bool (decide (E.1 < 0)), .slice bm (limbs E.1.natAbs).length dm, .int .i64 E.2] 26)).alloc (.cells #[.bool false, .slice none 0 0, .int .i64 0] 26)) w.heap.size (decide (D.1 < 0)) (.slice am (limbs D.1.natAbs).length cm) D.2 := ((QL.made rfl).alloc _).alloc _
  have zB : QL 26 (((w.alloc (.cells #[.bool (decide (D.1 < 0)), .slice am (limbs D.1.natAbs).length cm, .int .i64 D.2] 26)).alloc (.cells #[.bool (decide (E.1 < 0)), .slice bm (limbs E.1.natAbs).length dm, .int .i64 E.2] 26)).alloc (.cells #[.bool false, .slice none 0 0, .int .i64 0] 26)) (w.heap.size + 1) (decide (E.1 < 0)) (.slice bm (limbs E.1.natAbs).length dm) E.2 := (QL.made (by first | omega | (simp; done) | (simp; omega))).alloc _
  have zR0 : QL 26 (((w.alloc (.cells #[.bool (decide (D.1 < 0)), .slice am (limbs D.1.natAbs).length cm, .int .i64 D.2] 26)).alloc (.cells #[.bool (decide (E.1 < 0)), .slice bm (limbs E.1.natAbs).length dm, .int .i64 E.2] 26)).alloc (.cells #[.bool false, .slice none 0 0, .int .i64 0] 26)) (w.heap.size + 1 + 1) false (.slice none 0 0) 0 := QL.made (by first | omega | (simp; done) | (simp; omega))
  have yb0 : Below w.heap.size w (((w.alloc (.cells #[.bool (decide (D.1 < 0)), .slice am (limbs D.1.natAbs).length cm, .int .i64 D.2] 26)).alloc (.cells #[.bool (decide (E.1 < 0)), .slice bm (limbs E.1.natAbs).length dm, .int .i64 E.2] 26)).alloc (.cells #[.bool false, .slice none 0 0, .int .i64 0] 26)) := by (repeat' (first | (with_reducible assumption) | (with_reducible exact Below.refl _ _) | (with_reducible refine below_al ?_ _) | (with_reducible refine below_drewN ?_ _) | (with_reducible refine Below.drew ?_) | (with_reducible refine Below.alloc ?_ ?_ _) | (with_reducible refine Below.setCell ?_ ?_ _) | (refine below_trans ?_ (by assumption)) | go_size))
  by_cases hD : D.1 = 0
  · have NO := hid (show ∀ w, Ns .u32 w bm dm (limbs E.1.natAbs) → Tab 0 w → Calls Tryz.prog 131 #[.bool (decide (E.1 < 0)), .slice bm (limbs E.1.natAbs).length dm, .int .i64 E.2] w (RetVD w (addD D E)) from fun w k t => by
      have := normD_any (decide (E.1 < 0)) bm dm E.1.natAbs E.2 w k (by omega) (by omega) t
      rw [sg_self] at this
      rw [addD_left D E hD]; exact this)
    rw [lD.2 hD] at zA zB zR0 yb0 ⊢
    generalize addD D E = R at *
    generalize E.1.natAbs = M1 at *
    generalize decide (D.1 < 0) = n0 at *
    generalize decide (E.1 < 0) = n1 at *
    generalize D.2 = e0 at *
    generalize E.2 = e1 at *
    clear hN hM hT HV HU HN lD lE hD
    go_enter Tryz.func160, Tryz.ntmps160
    go_upto_region 2 with fail
    have zR5 := zR0
    have yb5 := yb0
    obtain ⟨⟨j0, j1, -, -, -⟩, j2, -⟩ := id zB
    go_wp2_with (go_at_call 131; (with_reducible refine (NO.out _ (HM.out.below yb0) (HT.out.below yb0)).mono ?_); rintro en w3 ⟨v3, rfl, ⟨a3, c3, rfl, hN3⟩, hb3⟩; have zR3 := zR5.below hb3; have yb3 := below_trans yb5 hb3; obtain ⟨⟨k0, k1, f0, f1, hs2⟩, k2, f2⟩ := id zR3)
    refine bodyPost_ret (by simp [results, Tryz.results160, go_sem, k0, k1, k2]; try rfl) rfl ?_
    exact ⟨_, rfl, ⟨a3, c3, rfl, hN3.set3 zR3 (by intro x h; cases h) _ _ _⟩, ((yb3.setCell (by first | omega | (simp; done) | (simp; omega)) _).setCell (by first | omega | (simp; done) | (simp; omega)) _).setCell (by first | omega | (simp; done) | (simp; omega)) _⟩
  · have hlD : (((limbs D.1.natAbs).length : Int) == 0) = false := beq_eq_false_iff_ne.2 (fun h => hD (lD.1 (by omega)))
    by_cases hE : E.1 = 0
    · have NO := hid (show ∀ w, Ns .u32 w am cm (limbs D.1.natAbs) → Tab 0 w → Calls Tryz.prog 131 #[.bool (decide (D.1 < 0)), .slice am (limbs D.1.natAbs).length cm, .int .i64 D.2] w (RetVD w (addD D E)) from fun w k t => by
        have := normD_any (decide (D.1 < 0)) am cm D.1.natAbs D.2 w k (by omega) (by omega) t
        rw [sg_self] at this
        rw [addD_right D E hE]; exact this)
      rw [lE.2 hE] at zA zB zR0 yb0 ⊢
      generalize addD D E = R at *
      generalize D.1.natAbs = M0 at *
      generalize decide (D.1 < 0) = n0 at *
      generalize decide (E.1 < 0) = n1 at *
      generalize D.2 = e0 at *
      generalize E.2 = e1 at *
      clear hN hM hT HV HU HM lD lE hD hE
      go_enter Tryz.func160, Tryz.ntmps160
      obtain ⟨⟨j0, j1, -, -, -⟩, j2, -⟩ := id zA
      obtain ⟨⟨i0, i1, -, -, -⟩, i2, -⟩ := id zB
      go_upto_region 4 with fail
      have zR5 := zR0
      have yb5 := yb0
      go_wp2_with (go_at_call 131; (with_reducible refine (NO.out _ (HN.out.below yb0) (HT.out.below yb0)).mono ?_); rintro en w3 ⟨v3, rfl, ⟨a3, c3, rfl, hN3⟩, hb3⟩; have zR3 := zR5.below hb3; have yb3 := below_trans yb5 hb3; obtain ⟨⟨k0, k1, f0, f1, hs2⟩, k2, f2⟩ := id zR3)
      refine bodyPost_ret (by simp [results, Tryz.results160, go_sem, k0, k1, k2]; try rfl) rfl ?_
      exact ⟨_, rfl, ⟨a3, c3, rfl, hN3.set3 zR3 (by intro x h; cases h) _ _ _⟩, ((yb3.setCell (by first | omega | (simp; done) | (simp; omega)) _).setCell (by first | omega | (simp; done) | (simp; omega)) _).setCell (by first | omega | (simp; done) | (simp; omega)) _⟩
    · have hlE : (((limbs E.1.natAbs).length : Int) == 0) = false := beq_eq_false_iff_ne.2 (fun h => hE (lE.1 (by omega)))
      obtain ⟨m, hm⟩ : ∃ m, m = min D.2 E.2 := ⟨_, rfl⟩
      have hmb : -1000000 ≤ m ∧ m ≤ D.2 ∧ m ≤ E.2 ∧ m ≤ 1000000 := by omega
      have AL := hid (show ∀ w', Below w.heap.size w w' → Calls Tryz.prog 230 #[.agg #[.bool (decide (D.1 < 0)), .slice am (limbs D.1.natAbs).length cm, .int .i64 D.2], .agg #[.bool (decide (E.1 < 0)), .slice bm (limbs E.1.natAbs).length dm, .int .i64 E.2]] w' (RetAl w' (alN D m) (alN E m) m) from fun w' hb => by
        rw [hm]; exact align_any _ _ D E w' (HV.out.below hb) (HU.out.below hb) hl hl' he he')
      have lA := alN_len D m 100000 62500 hl (by omega)
      have lB := alN_len E m 100000 62500 hl' (by omega)
      have hadd : addD D E = nrm (sc D.1 D.2 m + sc E.1 E.2 m) m := by unfold addD; rw [← hm]
      have CM := hid (fun a b c d w h0 h1 => compare_any a b c d (alN D m) (alN E m) w h0 h1)
      have PL := hid (fun a b c d w h0 h1 => plus_any a b c d (alN D m) (alN E m) w h0 h1 (by omega) (by omega))
      have MI1 := hid (fun a b c d w h0 h1 (hg : alN E m ≤ alN D m) => minus_any a b c d (alN D m) (alN E m) w h0 h1 (by omega) hg)
      have MI2 := hid (fun a b c d w h0 h1 (hg : alN D m ≤ alN E m) => minus_any a b c d (alN E m) (alN D m) w h0 h1 (by omega) hg)
      have NOs := hid (show decide (D.1 < 0) = decide (E.1 < 0) → ∀ a c w, Ns .u32 w a c (limbs (alN D m + alN E m)) → Tab 0 w → Calls Tryz.prog 131 #[.bool (decide (D.1 < 0)), .slice a (limbs (alN D m + alN E m)).length c, .int .i64 m] w (RetVD w (addD D E)) from fun h a c w k t => by
        have h3 := limbs_len_add (alN D m) (alN E m) _ _ lA lB
        have := normD_any (decide (D.1 < 0)) a c (alN D m + alN E m) m w k (by omega) (by omega) t
        rw [add_same D E m _ rfl h.symm] at this
        rw [hadd]; exact this)
      have NO1 := hid (show decide (D.1 < 0) ≠ decide (E.1 < 0) → alN E m ≤ alN D m → ∀ a c w, Ns .u32 w a c (limbs (alN D m - alN E m)) → Tab 0 w → Calls Tryz.prog 131 #[.bool (decide (D.1 < 0)), .slice a (limbs (alN D m - alN E m)).length c, .int .i64 m] w (RetVD w (addD D E)) from fun h hg a c w k t => by
        have h3 := limbs_len_mono (Nat.sub_le (alN D m) (alN E m))
        have := normD_any (decide (D.1 < 0)) a c (alN D m - alN E m) m w k (by omega) (by omega) t
        rw [add_ge D E m h hg] at this
        rw [hadd]; exact this)
      have NO2 := hid (show decide (D.1 < 0) ≠ decide (E.1 < 0) → alN D m ≤ alN E m → ∀ a c w, Ns .u32 w a c (limbs (alN E m - alN D m)) → Tab 0 w → Calls Tryz.prog 131 #[.bool (decide (E.1 < 0)), .slice a (limbs (alN E m - alN D m)).length c, .int .i64 m] w (RetVD w (addD D E)) from fun h hg a c w k t => by
        have h3 := limbs_len_mono (Nat.sub_le (alN E m) (alN D m))
        have := normD_any (decide (E.1 < 0)) a c (alN E m - alN D m) m w k (by omega) (by omega) t
        rw [add_lt D E m h hg] at this
        rw [hadd]; exact this)
      generalize addD D E = R at *
      generalize alN D m = A at *
      generalize alN E m = B at *
      generalize D.1.natAbs = M0 at *
      generalize E.1.natAbs = M1 at *
      generalize decide (D.1 < 0) = n0 at *
      generalize decide (E.1 < 0) = n1 at *
      generalize D.2 = e0 at *
      generalize E.2 = e1 at *
      clear hN hM hT HV HU HN HM lD lE hD hE hm hadd lA lB
      go_enter Tryz.func160, Tryz.ntmps160
      obtain ⟨⟨j0, j1, -, -, -⟩, j2, -⟩ := id zA
      obtain ⟨⟨i0, i1, -, -, -⟩, i2, -⟩ := id zB
      go_upto_region 6 with (go_at_call 230; (with_reducible refine (AL.out _ yb0).mono ?_); rintro en w4 ⟨a4, c4, a5, c5, rfl, hN4, hN5, hb4⟩)
      have zA4 := zA.below hb4
      have zB4 := zB.below hb4
      have zR4 := zR0.below hb4
      have yb4 := below_trans yb0 hb4
      clear zA zB zR0 j0 j1 j2 i0 i1 i2
      obtain ⟨⟨j0, j1, -, -, -⟩, j2, -⟩ := id zA4
      obtain ⟨⟨i0, i1, -, -, -⟩, i2, -⟩ := id zB4
      by_cases hn : n0 = n1
      · subst hn
        have NOx := hid (NOs.out rfl)
        go_upto_region 7 with fail
        refine wp_region_grow 7 [43, 44, 45, 46, 47, 48, 49] [Fact.is (.pointer (some ⟨w.heap.size, 0, none⟩)), Fact.is (.bool n0), Fact.is (.slice a4 (limbs A).length c4), Fact.is (.slice a5 (limbs B).length c5), Fact.li (A + B), Fact.is (.int .i64 m), Fact.vd R] (by kernel_rfl) (by kernel_rfl) ⟨?o0, ?o1, ?o2, ?o3, ?o4, ?o5, ?o6, trivial⟩ ?after
        case o0 => (refine StepOK.plain rfl ?_; intro ρ w1 R hρ hb hp hR; have e2 : ρ (.tmp 2) = .pointer (some ⟨w.heap.size, 0, none⟩) := hρ.tmp 2 rfl; have hcon := hρ.con; have hfn := hρ.fn; clear hρ hp; unfold OpRun; go_simp; exact hR _ _ (Below.refl _ _) rfl)
        case o1 => (refine StepOK.plain rfl ?_; intro ρ w1 R hρ hb hp hR; have e43 : ρ (.tmp 43) = _ := hp 0 43 rfl rfl; obtain ⟨⟨j0, j1, -, -, -⟩, j2, -⟩ := zA4.below hb; have hcon := hρ.con; have hfn := hρ.fn; clear hρ hp; unfold OpRun; go_simp; exact hR _ _ (Below.refl _ _) rfl)
        case o2 => (refine StepOK.plain rfl ?_; intro ρ w1 R hρ hb hp hR; have e5 : ρ (.tmp 5) = .slice a4 (limbs A).length c4 := hρ.tmp 5 rfl; have hcon := hρ.con; have hfn := hρ.fn; clear hρ hp; unfold OpRun; go_simp; exact hR _ _ (Below.refl _ _) rfl)
        case o3 => (refine StepOK.plain rfl ?_; intro ρ w1 R hρ hb hp hR; have e6 : ρ (.tmp 6) = .slice a5 (limbs B).length c5 := hρ.tmp 6 rfl; have hcon := hρ.con; have hfn := hρ.fn; clear hρ hp; unfold OpRun; go_simp; exact hR _ _ (Below.refl _ _) rfl)
        case o4 => (refine StepOK.plain rfl ?_; intro ρ w1 R hρ hb hp hR; have e45 : ρ (.tmp 45) = _ := hp 2 45 rfl rfl; have e46 : ρ (.tmp 46) = _ := hp 3 46 rfl rfl; have hcon := hρ.con; have hfn := hρ.fn; clear hρ hp; unfold OpRun; go_simp; (refine (PL.out _ _ _ _ _ (hN4.below hb) (hN5.below hb)).mono ?_; rintro e wn ⟨a9, rfl, hn9, hbn⟩; exact ⟨_, rfl, hR _ _ hbn ⟨a9, _, rfl, hn9⟩⟩))
        case o5 => (refine StepOK.plain rfl ?_; intro ρ w1 R hρ hb hp hR; have e7 : ρ (.tmp 7) = .int .i64 m := hρ.tmp 7 rfl; have hcon := hρ.con; have hfn := hρ.fn; clear hρ hp; unfold OpRun; go_simp; exact hR _ _ (Below.refl _ _) rfl)
        case o6 => (refine StepOK.plain rfl ?_; intro ρ w1 R hρ hb hp hR; have e44 : ρ (.tmp 44) = _ := hp 1 44 rfl rfl; have f47 := hp 4 47 rfl rfl; have e48 : ρ (.tmp 48) = _ := hp 5 48 rfl rfl; obtain ⟨a9, c9, e47, hn9⟩ := f47; have hcon := hρ.con; have hfn := hρ.fn; clear hρ hp; unfold OpRun; go_simp; (skip; refine (NOx.out a9 c9 _ hn9 (HT.out.below (below_trans yb4 hb))).mono ?_; rintro e wn ⟨v9, rfl, hv9, hbn⟩; exact ⟨_, rfl, hR _ _ hbn hv9⟩))
        case after =>
          intro u wn hb hf
          have f49 := hf 6 49 (by omega) rfl
          clear hf
          simp only [putAll, Act.put, List.setIfInBounds_toArray, List.set_cons_zero, List.set_cons_succ, List.drop_succ_cons, List.drop_zero, List.drop_nil]
          obtain ⟨a3, c3, e49, hN3⟩ := f49
          rw [e49]
          have zR3 := zR4.below hb
          have yb3 := below_trans yb4 hb
          obtain ⟨⟨k0, k1, f0, f1, hs2⟩, k2, f2⟩ := id zR3
          clear e49
          go_wp2_with fail
          refine bodyPost_ret (by simp [results, Tryz.results160, go_sem, k0, k1, k2]; try rfl) rfl ?_
          exact ⟨_, rfl, ⟨a3, c3, rfl, hN3.set3 zR3 (by intro x h; cases h) _ _ _⟩, ((yb3.setCell (by first | omega | (simp; done) | (simp; omega)) _).setCell (by first | omega | (simp; done) | (simp; omega)) _).setCell (by first | omega | (simp; done) | (simp; omega)) _⟩
      · have hnb : (n0 == n1) = false := beq_eq_false_iff_ne.2 hn
        have CMx := hid (CM.out a4 a5 c4 c5 w4 hN4 hN5)
        obtain ⟨cmv, hcmv⟩ : ∃ c, c = cmpI (A : Int) (B : Int) := ⟨_, rfl⟩
        rw [← hcmv] at CMx
        have HCV := hid hcmv
        clear hcmv
        go_upto_region 8 with fail
        go_cut [50] (fun s50 wx => s50 = .bool (decide (0 ≤ cmv)) ∧ Below w4.heap.size w4 wx)
        case first =>
          go_wp2_with (go_at_call 203; (with_reducible refine CMx.out.mono ?_); rintro en w5 ⟨rfl, nq, rfl⟩)
          go_meet
          exact ⟨rfl, below_drewN (Below.refl _ _) nq⟩
        case rest =>
          obtain ⟨rfl, hb5⟩ := hcut
          have n4 := hN4.below hb5
          have n5 := hN5.below hb5
          have zA5 := zA4.below hb5
          have zB5 := zB4.below hb5
          have zR5 := zR4.below hb5
          have yb5 := below_trans yb4 hb5
          clear hN4 hN5 zA4 zB4 zR4 yb4 hb5 j0 j1 j2 i0 i1 i2 CM CMx PL NOs
          by_cases hg : B ≤ A
          · have hd : decide (0 ≤ cmv) = true := decide_eq_true (by rw [HCV.out]; unfold cmpI; split <;> (try split) <;> omega)
            rw [hd]
            clear hd
            have MIx := hid (fun a b c d w h0 h1 => MI1.out a b c d w h0 h1 hg)
            have NOx := hid (NO1.out hn hg)
            go_upto_region 9 with fail
            refine wp_region_grow 7 [55, 56, 57, 58, 59, 60, 61] [Fact.is (.pointer (some ⟨w.heap.size, 0, none⟩)), Fact.is (.bool n0), Fact.is (.slice a4 (limbs A).length c4), Fact.is (.slice a5 (limbs B).length c5), Fact.li (A - B), Fact.is (.int .i64 m), Fact.vd R] (by kernel_rfl) (by kernel_rfl) ⟨?o0, ?o1, ?o2, ?o3, ?o4, ?o5, ?o6, trivial⟩ ?after
            case o0 => (refine StepOK.plain rfl ?_; intro ρ w1 R hρ hb hp hR; have e2 : ρ (.tmp 2) = .pointer (some ⟨w.heap.size, 0, none⟩) := hρ.tmp 2 rfl; have hcon := hρ.con; have hfn := hρ.fn; clear hρ hp; unfold OpRun; go_simp; exact hR _ _ (Below.refl _ _) rfl)
            case o1 => (refine StepOK.plain rfl ?_; intro ρ w1 R hρ hb hp hR; have e55 : ρ (.tmp 55) = _ := hp 0 55 rfl rfl; obtain ⟨⟨j0, j1, -, -, -⟩, j2, -⟩ := zA5.below hb; have hcon := hρ.con; have hfn := hρ.fn; clear hρ hp; unfold OpRun; go_simp; exact hR _ _ (Below.refl _ _) rfl)
            case o2 => (refine StepOK.plain rfl ?_; intro ρ w1 R hρ hb hp hR; have e5 : ρ (.tmp 5) = .slice a4 (limbs A).length c4 := hρ.tmp 5 rfl; have hcon := hρ.con; have hfn := hρ.fn; clear hρ hp; unfold OpRun; go_simp; exact hR _ _ (Below.refl _ _) rfl)
            case o3 => (refine StepOK.plain rfl ?_; intro ρ w1 R hρ hb hp hR; have e6 : ρ (.tmp 6) = .slice a5 (limbs B).length c5 := hρ.tmp 6 rfl; have hcon := hρ.con; have hfn := hρ.fn; clear hρ hp; unfold OpRun; go_simp; exact hR _ _ (Below.refl _ _) rfl)
            case o4 => (refine StepOK.plain rfl ?_; intro ρ w1 R hρ hb hp hR; have e57 : ρ (.tmp 57) = _ := hp 2 57 rfl rfl; have e58 : ρ (.tmp 58) = _ := hp 3 58 rfl rfl; have hcon := hρ.con; have hfn := hρ.fn; clear hρ hp; unfold OpRun; go_simp; (refine (MIx.out _ _ _ _ _ (n4.below hb) (n5.below hb)).mono ?_; rintro e wn ⟨a9, rfl, hn9, hbn⟩; exact ⟨_, rfl, hR _ _ hbn ⟨a9, _, rfl, hn9⟩⟩))
            case o5 => (refine StepOK.plain rfl ?_; intro ρ w1 R hρ hb hp hR; have e7 : ρ (.tmp 7) = .int .i64 m := hρ.tmp 7 rfl; have hcon := hρ.con; have hfn := hρ.fn; clear hρ hp; unfold OpRun; go_simp; exact hR _ _ (Below.refl _ _) rfl)
            case o6 => (refine StepOK.plain rfl ?_; intro ρ w1 R hρ hb hp hR; have e56 : ρ (.tmp 56) = _ := hp 1 56 rfl rfl; have f59 := hp 4 59 rfl rfl; have e60 : ρ (.tmp 60) = _ := hp 5 60 rfl rfl; obtain ⟨a9, c9, e59, hn9⟩ := f59; have hcon := hρ.con; have hfn := hρ.fn; clear hρ hp; unfold OpRun; go_simp; (skip; refine (NOx.out a9 c9 _ hn9 (HT.out.below (below_trans yb5 hb))).mono ?_; rintro e wn ⟨v9, rfl, hv9, hbn⟩; exact ⟨_, rfl, hR _ _ hbn hv9⟩))
            case after =>
              intro u wn hb hf
              have f61 := hf 6 61 (by omega) rfl
              clear hf
              simp only [putAll, Act.put, List.setIfInBounds_toArray, List.set_cons_zero, List.set_cons_succ, List.drop_succ_cons, List.drop_zero, List.drop_nil]
              obtain ⟨a3, c3, e61, hN3⟩ := f61
              rw [e61]
              have zR3 := zR5.below hb
              have yb3 := below_trans yb5 hb
              obtain ⟨⟨k0, k1, f0, f1, hs2⟩, k2, f2⟩ := id zR3
              clear e61
              go_wp2_with fail
              refine bodyPost_ret (by simp [results, Tryz.results160, go_sem, k0, k1, k2]; try rfl) rfl ?_
              exact ⟨_, rfl, ⟨a3, c3, rfl, hN3.set3 zR3 (by intro x h; cases h) _ _ _⟩, ((yb3.setCell (by first | omega | (simp; done) | (simp; omega)) _).setCell (by first | omega | (simp; done) | (simp; omega)) _).setCell (by first | omega | (simp; done) | (simp; omega)) _⟩
          · have hd : decide (0 ≤ cmv) = false := decide_eq_false (by rw [HCV.out]; unfold cmpI; split <;> (try split) <;> omega)
            have hg2 : A ≤ B := by omega
            rw [hd]
            clear hd
            have MIx := hid (fun a b c d w h0 h1 => MI2.out a b c d w h0 h1 hg2)
            have NOx := hid (NO2.out hn hg2)
            go_upto_region 10 with fail
            refine wp_region_grow 7 [62, 63, 64, 65, 66, 67, 68] [Fact.is (.pointer (some ⟨w.heap.size + 1, 0, none⟩)), Fact.is (.bool n1), Fact.is (.slice a5 (limbs B).length c5), Fact.is (.slice a4 (limbs A).length c4), Fact.li (B - A), Fact.is (.int .i64 m), Fact.vd R] (by kernel_rfl) (by kernel_rfl) ⟨?o0, ?o1, ?o2, ?o3, ?o4, ?o5, ?o6, trivial⟩ ?after
            case o0 => (refine StepOK.plain rfl ?_; intro ρ w1 R hρ hb hp hR; have e3 : ρ (.tmp 3) = .pointer (some ⟨w.heap.size + 1, 0, none⟩) := hρ.tmp 3 rfl; have hcon := hρ.con; have hfn := hρ.fn; clear hρ hp; unfold OpRun; go_simp; exact hR _ _ (Below.refl _ _) rfl)
            case o1 => (refine StepOK.plain rfl ?_; intro ρ w1 R hρ hb hp hR; have e62 : ρ (.tmp 62) = _ := hp 0 62 rfl rfl; obtain ⟨⟨j0, j1, -, -, -⟩, j2, -⟩ := zB5.below hb; have hcon := hρ.con; have hfn := hρ.fn; clear hρ hp; unfold OpRun; go_simp; exact hR _ _ (Below.refl _ _) rfl)
            case o2 => (refine StepOK.plain rfl ?_; intro ρ w1 R hρ hb hp hR; have e6 : ρ (.tmp 6) = .slice a5 (limbs B).length c5 := hρ.tmp 6 rfl; have hcon := hρ.con; have hfn := hρ.fn; clear hρ hp; unfold OpRun; go_simp; exact hR _ _ (Below.refl _ _) rfl)
            case o3 => (refine StepOK.plain rfl ?_; intro ρ w1 R hρ hb hp hR; have e5 : ρ (.tmp 5) = .slice a4 (limbs A).length c4 := hρ.tmp 5 rfl; have hcon := hρ.con; have hfn := hρ.fn; clear hρ hp; unfold OpRun; go_simp; exact hR _ _ (Below.refl _ _) rfl)
            case o4 => (refine StepOK.plain rfl ?_; intro ρ w1 R hρ hb hp hR; have e64 : ρ (.tmp 64) = _ := hp 2 64 rfl rfl; have e65 : ρ (.tmp 65) = _ := hp 3 65 rfl rfl; have hcon := hρ.con; have hfn := hρ.fn; clear hρ hp; unfold OpRun; go_simp; (refine (MIx.out _ _ _ _ _ (n5.below hb) (n4.below hb)).mono ?_; rintro e wn ⟨a9, rfl, hn9, hbn⟩; exact ⟨_, rfl, hR _ _ hbn ⟨a9, _, rfl, hn9⟩⟩))
            case o5 => (refine StepOK.plain rfl ?_; intro ρ w1 R hρ hb hp hR; have e7 : ρ (.tmp 7) = .int .i64 m := hρ.tmp 7 rfl; have hcon := hρ.con; have hfn := hρ.fn; clear hρ hp; unfold OpRun; go_simp; exact hR _ _ (Below.refl _ _) rfl)
            case o6 => (refine StepOK.plain rfl ?_; intro ρ w1 R hρ hb hp hR; have e63 : ρ (.tmp 63) = _ := hp 1 63 rfl rfl; have f66 := hp 4 66 rfl rfl; have e67 : ρ (.tmp 67) = _ := hp 5 67 rfl rfl; obtain ⟨a9, c9, e66, hn9⟩ := f66; have hcon := hρ.con; have hfn := hρ.fn; clear hρ hp; unfold OpRun; go_simp; (skip; refine (NOx.out a9 c9 _ hn9 (HT.out.below (below_trans yb5 hb))).mono ?_; rintro e wn ⟨v9, rfl, hv9, hbn⟩; exact ⟨_, rfl, hR _ _ hbn hv9⟩))
            case after =>
              intro u wn hb hf
              have f68 := hf 6 68 (by omega) rfl
              clear hf
              simp only [putAll, Act.put, List.setIfInBounds_toArray, List.set_cons_zero, List.set_cons_succ, List.drop_succ_cons, List.drop_zero, List.drop_nil]
              obtain ⟨a3, c3, e68, hN3⟩ := f68
              rw [e68]
              have zR3 := zR5.below hb
              have yb3 := below_trans yb5 hb
              obtain ⟨⟨k0, k1, f0, f1, hs2⟩, k2, f2⟩ := id zR3
              clear e68
              go_wp2_with fail
              refine bodyPost_ret (by simp [results, Tryz.results160, go_sem, k0, k1, k2]; try rfl) rfl ?_
              exact ⟨_, rfl, ⟨a3, c3, rfl, hN3.set3 zR3 (by intro x h; cases h) _ _ _⟩, ((yb3.setCell (by first | omega | (simp; done) | (simp; omega)) _).setCell (by first | omega | (simp; done) | (simp; omega)) _).setCell (by first | omega | (simp; done) | (simp; omega)) _⟩
end Go.Proofs.YthaelmnblgollaaGreatDoor
namespace Go.Ulp
open Go.RowKit
/-- within the bounds? -/
def bndB (D : Dy) : Bool := dyB (limbs D.1.natAbs).length D.2
end Go.Ulp
namespace Go.Proofs.YthaelmnblgollaaGreatDoor
open Go.RowKit Go.Ulp
set_option linter.unusedVariables false
set_option linter.unusedSimpArgs false
set_option maxHeartbeats 1000000
set_option maxRecDepth 100000
end Go.Proofs.YthaelmnblgollaaGreatDoor

set_option linter.unusedVariables false
set_option linter.unusedSimpArgs false
namespace Go.Ulp
open Go.RowKit
theorem limbs_le_bits (M n : Nat) : (limbs M).length ≤ n ↔ M < 2 ^ (32 * n) := by
  have h := digs_len_le 4294967296 (by omega) M n
  rw [Nat.pow_mul]; exact h
end Go.Ulp
namespace Go.Ulp
open Go.RowKit
/-- a variable of type Dyad that holds D -/
def DV (t : TypeId) (w : World) (g : Nat) (D : Dy) : Prop := ∃ am cm, QL t w g (decide (D.1 < 0)) (.slice am (limbs D.1.natAbs).length cm) D.2 ∧ Ns .u32 w am cm (limbs D.1.natAbs)
theorem DV.below {t : TypeId} {w w' : World} {g : Nat} {D : Dy} (h : DV t w g D) (hb : Below w.heap.size w w') : DV t w' g D := by
  obtain ⟨am, cm, h1, h2⟩ := h; exact ⟨am, cm, h1.below hb, h2.below hb⟩
theorem QL.put {t : TypeId} {w : World} {g : Nat} {n : Bool} {v : Value} {k : Int} (h : QL t w g n v k) (n' : Bool) (v' : Value) (k' : Int) :
    QL t (((w.setCell ⟨g, 0, none⟩ (.bool n')).setCell ⟨g, 1, none⟩ v').setCell ⟨g, 2, none⟩ (.int .i64 k')) g n' v' k' := by
  have h1 := (h.set0D n').set1D v'
  refine ⟨⟨(cell_set_ne (by omega)).trans h1.1.1, (cell_set_ne (by omega)).trans h1.1.2.1, ?_, ?_, ?_⟩, ?_, ?_⟩
  · rw [frozen_setCell]; exact h1.1.2.2.1
  · rw [frozen_setCell]; exact h1.1.2.2.2.1
  · exact h1.1.2.2.2.2.setCell _ _
  · exact World.cell?_setCell_same _ _ _ ((cell_set_ne (by omega)).trans ((cell_set_ne (by omega)).trans h.2.1))
  · rw [frozen_setCell]; exact h1.2.2
theorem DV.put {t : TypeId} {w : World} {g : Nat} {n : Bool} {v : Value} {k : Int} {D : Dy} {am : Option Addr} {cm : Nat} (h : QL t w g n v k) (hN : Ns .u32 w am cm (limbs D.1.natAbs)) (hv : ∀ x, v ≠ .int .u32 x) :
    DV t (((w.setCell ⟨g, 0, none⟩ (.bool (decide (D.1 < 0)))).setCell ⟨g, 1, none⟩ (.slice am (limbs D.1.natAbs).length cm)).setCell ⟨g, 2, none⟩ (.int .i64 D.2)) g D :=
  ⟨am, cm, h.put _ _ _, hN.set3 h hv _ _ _⟩
theorem DV.none_form {t : TypeId} {w : World} {g : Nat} (h : DV t w g (0, 0)) : ∃ am cm, QL t w g false (.slice am 0 cm) 0 := by
  obtain ⟨am, cm, h1, -⟩ := h
  refine ⟨am, cm, ?_⟩
  have e : (limbs ((0 : Int), (0 : Int)).1.natAbs).length = 0 := by rw [show limbs ((0 : Int), (0 : Int)).1.natAbs = [] from limbs_zero]; rfl
  rw [e] at h1
  exact h1
/-- a fresh variable for a number over a power of two -/
def Fact.q0 (B : Nat) (t : TypeId) : Fact := ⟨fun v w => ∃ g, v = .pointer (some ⟨g, 0, none⟩) ∧ B ≤ g ∧ QL t w g false (.slice none 0 0) 0, fun _ _ _ h hb => by
  obtain ⟨g, h1, h2, h3⟩ := h; exact ⟨g, h1, h2, h3.below hb⟩⟩
theorem QL.far3 {t : TypeId} {w : World} {g : Nat} {n : Bool} {v : Value} {k : Int} (h : QL t w g n v k) {b : Nat} (hne : g ≠ b) (u0 u1 u2 : Value) :
    QL t (((w.setCell ⟨b, 0, none⟩ u0).setCell ⟨b, 1, none⟩ u1).setCell ⟨b, 2, none⟩ u2) g n v k := ((h.farD _ _ hne).farD _ _ hne).farD _ _ hne
theorem Nz.set3Q {t e : TypeId} {w : World} {ao : Option Addr} {cap : Nat} {L : List Nat} (h : Nz e w ao cap L) {g : Nat} {n : Bool} {v : Value} {k : Int} (z : QL t w g n v k) (hne : t ≠ e) (u0 u1 u2 : Value) :
    Nz e (((w.setCell ⟨g, 0, none⟩ u0).setCell ⟨g, 1, none⟩ u1).setCell ⟨g, 2, none⟩ u2) ao cap L :=
  ((h.setCell z.1.2.2.2.2 hne _ _).setCell (z.1.2.2.2.2.setCell _ _) hne _ _).setCell ((z.1.2.2.2.2.setCell _ _).setCell _ _) hne _ _
theorem Below.put3 {B : Nat} {w w' : World} (h : Below B w w') {g : Nat} (hg : B ≤ g) (u0 u1 u2 : Value) : Below B w (((w'.setCell ⟨g, 0, none⟩ u0).setCell ⟨g, 1, none⟩ u1).setCell ⟨g, 2, none⟩ u2) :=
  ((h.setCell hg _).setCell hg _).setCell hg _
end Go.Ulp
namespace Go.Ulp
open Go.RowKit
theorem hasVal_class (x : Int) (h0 : 0 ≤ x) (h1 : x < 18446744073709551616) : hasVal x = !decide (4 ≤ classOf x) := by
  have h := class_val x h0 h1
  unfold hasVal
  unfold absOf at h
  rw [Bool.eq_iff_iff, Bool.not_eq_true', decide_eq_true_eq, decide_eq_false_iff_not]
  omega
theorem tw_lt {n A : Nat} (h0 : 0 < n) (h : n < 2 ^ A) : tw n < A := by
  have h1 := (od_tw n h0).1
  have h2 := od_pos n h0
  have h3 : 2 ^ tw n ≤ n := by
    conv => rhs; rw [← h1]
    exact Nat.le_mul_of_pos_left _ h2
  exact (Nat.pow_lt_pow_iff_right (a := 2) (by omega)).1 (Nat.lt_of_le_of_lt h3 h)
/-- the bounds of a number in its one form -/
theorem nrm_bd (y e : Int) (A : Nat) (h : y.natAbs < 2 ^ A) : (nrm y e).1.natAbs < 2 ^ A ∧ ((nrm y e).1 = 0 ∧ (nrm y e).2 = 0 ∨ e ≤ (nrm y e).2 ∧ (nrm y e).2 < e + A) := by
  by_cases h0 : y = 0
  · subst h0; exact ⟨h, .inl ⟨rfl, rfl⟩⟩
  · refine ⟨by rw [nrm_abs y e h0]; exact Nat.lt_of_le_of_lt (od_le _) h, .inr ?_⟩
    have h1 := tw_lt (n := y.natAbs) (by omega) h
    have h2 : (nrm y e).2 = e + tw y.natAbs := by unfold nrm; rw [if_neg h0]
    rw [h2]; omega
theorem fv_bd (x : Int) (h0 : 0 ≤ x) (h1 : x < 18446744073709551616) : bndB (fv x) = true ∧ ((fv x).1.natAbs < 2 ^ 53 ∧ -1074 ≤ (fv x).2 ∧ (fv x).2 ≤ 1024) := by
  have hm := mantOf_bd x
  have he := dexp_bd x
  have hA : (sg (negB x) (mantOf x)).natAbs < 2 ^ 53 := by rw [sg_abs]; omega
  obtain ⟨k1, k2⟩ := nrm_bd (sg (negB x) (mantOf x)) (dexp x) 53 hA
  have k3 : (fv x).1.natAbs < 2 ^ 53 ∧ -1074 ≤ (fv x).2 ∧ (fv x).2 ≤ 1024 := ⟨k1, by unfold fv; omega, by unfold fv; omega⟩
  refine ⟨?_, k3⟩
  have hl : (limbs (fv x).1.natAbs).length ≤ 2 := (limbs_le_bits _ 2).2 (Nat.lt_of_lt_of_le k3.1 (Nat.pow_le_pow_right (by omega) (by omega)))
  unfold bndB dyB
  exact decide_eq_true ⟨by omega, by omega, by omega⟩
end Go.Ulp

set_option linter.unusedVariables false
set_option linter.unusedSimpArgs false
namespace Go.Ulp
open Go.RowKit
end Go.Ulp
set_option linter.unusedVariables false
set_option linter.unusedSimpArgs false
namespace Go.Ulp
open Go.RowKit
/-- the number that a slice of a world holds: a loop's measure -/
def rdL (w : World) (v : Value) : Nat :=
  match v with
  | .slice (some a) l _ => lval ((List.range l).map fun i => (intOf ((w.cell? ⟨a.block, a.off + i, none⟩).getD undef)).toNat)
  | _ => 0
theorem rdL_eq {w : World} {ao : Option Addr} {cap : Nat} {L : List Nat} (h : Ns .u32 w ao cap L) : rdL w (.slice ao L.length cap) = lval L := by
  obtain ⟨h1, h2, h3⟩ := h
  rcases Nat.eq_zero_or_pos L.length with hl | hl
  · have : L = [] := List.length_eq_zero_iff.1 hl
    subst this
    cases ao <;> rfl
  · obtain ⟨b, off, rfl, hc⟩ := h3 hl
    show lval ((List.range L.length).map _) = lval L
    congr 1
    refine List.ext_getElem (by simp) (fun i k1 k2 => ?_)
    rw [List.getElem_map, List.getElem_range, hc i k2]
    show (lb L i).toNat = L[i]
    unfold lb
    rw [Int.toNat_natCast, List.getD_eq_getElem?_getD, List.getElem?_eq_getElem k2]; rfl
end Go.Ulp
namespace Go.Proofs.YthaelmnblgollaaGreatDoor
open Go.RowKit Go.Ulp
set_option linter.unusedVariables false
set_option linter.unusedSimpArgs false
set_option maxHeartbeats 4000000
set_option maxRecDepth 100000
end Go.Proofs.YthaelmnblgollaaGreatDoor

namespace Go.Proofs
open Go.Shelf
def Tryz.lays156_ren : Go.Shelf.Ren := ⟨fun | 156 => 208 | 165 => 210 | 166 => 211 | 169 => 213 | 240 => 254 | 241 => 255 | 276 => 286 | 277 => 287 | n => n, fun | 31 => 229 | 9 => 9 | 3 => 3 | 4 => 4 | 0 => 0 | 20 => 20 | 72 => 238 | 76 => 204 | 70 => 236 | 37 => 141 | 75 => 203 | 127 => 268 | 164 => 290 | 5 => 5 | 80 => 241 | n => n, fun | n => n⟩
theorem Tryz.lays156 : Go.Proofs.Lays.n156 Tryz.prog Tryz.lays156_ren := {
  mixed := by kernel_rfl
  f156 := Tryz.func208.trans (congrArg some (by kernel_rfl))
  f165 := Tryz.func210.trans (congrArg some (by kernel_rfl))
  f166 := Tryz.func211.trans (congrArg some (by kernel_rfl))
  f169 := Tryz.func213.trans (congrArg some (by kernel_rfl))
  f240 := Tryz.func254.trans (congrArg some (by kernel_rfl))
  f241 := Tryz.func255.trans (congrArg some (by kernel_rfl))
  f276 := Tryz.func286.trans (congrArg some (by kernel_rfl))
  f277 := Tryz.func287.trans (congrArg some (by kernel_rfl))
  t0 := Tryz.underlying0
  a0 := Tryz.isAgg0
  z0 := Tryz.sizeOf0
  v0 := Tryz.zeroValue0
  t3 := Tryz.underlying3
  a3 := Tryz.isAgg3
  z3 := Tryz.sizeOf3
  v3 := Tryz.zeroValue3
  t4 := Tryz.underlying4
  a4 := Tryz.isAgg4
  z4 := Tryz.sizeOf4
  v4 := Tryz.zeroValue4
  t9 := Tryz.underlying9
  a9 := Tryz.isAgg9
  z9 := Tryz.sizeOf9
  v9 := Tryz.zeroValue9
  t20 := Tryz.underlying20
  a20 := Tryz.isAgg20
  z20 := Tryz.sizeOf20
  v20 := Tryz.zeroValue20
  t31 := Tryz.underlying229
  a31 := Tryz.isAgg229
  z31 := Tryz.sizeOf229
  v31 := Tryz.zeroValue229
  t37 := Tryz.underlying141
  a37 := Tryz.isAgg141
  z37 := Tryz.sizeOf141
  v37 := Tryz.zeroValue141
  t70 := Tryz.underlying236
  a70 := Tryz.isAgg236
  z70 := Tryz.sizeOf236
  v70 := Tryz.zeroValue236
  t72 := Tryz.underlying238
  a72 := Tryz.isAgg238
  z72 := Tryz.sizeOf238
  v72 := Tryz.zeroValue238
  t75 := Tryz.underlying203
  a75 := Tryz.isAgg203
  z75 := Tryz.sizeOf203
  v75 := Tryz.zeroValue203
  t76 := Tryz.underlying204
  a76 := Tryz.isAgg204
  z76 := Tryz.sizeOf204
  v76 := Tryz.zeroValue204
  t127 := Tryz.underlying268
  a127 := Tryz.isAgg268
  z127 := Tryz.sizeOf268
  v127 := Tryz.zeroValue268
  t164 := Tryz.underlying290
  a164 := Tryz.isAgg290
  z164 := Tryz.sizeOf290
  v164 := Tryz.zeroValue290 }
theorem Tryz.Builder_Extra_156 : Builder.Extra Tryz.prog Tryz.lays156_ren := {
  sizeBuilder := by kernel_rfl
  liesBuilder := by kernel_rfl
  t5 := Tryz.underlying5
  a5 := Tryz.isAgg5
  z5 := Tryz.sizeOf5
  v5 := Tryz.zeroValue5
  infoByte := by kernel_rfl
  cellsByte := by kernel_rfl
  sizeByte := by kernel_rfl
  neB5 := by decide }
open Go.RowKit in
/-- strings.Join: "Join concatenates the elements of its first argument to create a single string. The separator string sep is placed between elements in the resulting string.": HOWEVER MANY ELEMENTS. Below the heap's end the world is as it was. (LAID: no walk: one application.) -/
theorem Tryz.strings_Join (bk o c : Nat) (xs : List ByteArray) (sep : ByteArray) (w : World) (hcells : ∀ (j : Nat) x, xs[j]? = some x → w.cell? ⟨bk, o + j, none⟩ = some (.string x)) (hbk : bk < w.heap.size) (hN : xs.length ≤ 140737488355328) (hcap : xs.length ≤ c) (hlen : (Lib.join (xs.map (·.data.toList)) sep.data.toList).length ≤ 140737488355328) :
    Calls Tryz.prog 208 #[.slice (some ⟨bk, o, none⟩) xs.length c, .string sep] w fun e w' => e = .returned (.string ⟨(Lib.join (xs.map (·.data.toList)) sep.data.toList).toArray⟩) ∧ Below w.heap.size w w' := Any.strings_Join Tryz.lays156 Tryz.Builder_Extra_156 bk o c xs sep w hcells hbk hN hcap hlen
def Tryz.laysM171_ren : Go.Shelf.Ren := ⟨fun | 171 => 206 | 243 => 251 | 246 => 285 | 283 => 292 | 284 => 293 | 285 => 294 | 286 => 295 | 129 => 297 | 317 => 296 | 318 => 298 | 319 => 299 | 320 => 300 | 337 => 199 | 338 => 301 | n => n, fun | 3 => 3 | 9 => 9 | 2 => 2 | 4 => 4 | 171 => 301 | 0 => 0 | 53 => 23 | 37 => 141 | 5 => 5 | 173 => 303 | 212 => 309 | 51 => 166 | 20 => 20 | 213 => 310 | 46 => 168 | 232 => 261 | 233 => 312 | n => n, fun | 17 => 6 | 18 => 0 | 19 => 7 | n => n⟩
theorem Tryz.laysM171 : Go.Proofs.LaysM.n171 Tryz.prog Tryz.laysM171_ren := {
  mixed := by kernel_rfl
  f129 := Tryz.func297.trans (congrArg some (by kernel_rfl))
  f171 := Tryz.func206.trans (congrArg some (by kernel_rfl))
  f243 := Tryz.func251.trans (congrArg some (by kernel_rfl))
  f246 := Tryz.func285.trans (congrArg some (by kernel_rfl))
  f283 := Tryz.func292.trans (congrArg some (by kernel_rfl))
  f284 := Tryz.func293.trans (congrArg some (by kernel_rfl))
  f285 := Tryz.func294.trans (congrArg some (by kernel_rfl))
  f286 := Tryz.func295.trans (congrArg some (by kernel_rfl))
  f317 := Tryz.func296.trans (congrArg some (by kernel_rfl))
  f318 := Tryz.func298.trans (congrArg some (by kernel_rfl))
  f319 := Tryz.func299.trans (congrArg some (by kernel_rfl))
  f320 := Tryz.func300.trans (congrArg some (by kernel_rfl))
  f337 := Tryz.func199.trans (congrArg some (by kernel_rfl))
  f338 := Tryz.func301.trans (congrArg some (by kernel_rfl))
  t0 := Tryz.underlying0
  a0 := Tryz.isAgg0
  z0 := Tryz.sizeOf0
  v0 := Tryz.zeroValue0
  t2 := Tryz.underlying2
  a2 := Tryz.isAgg2
  z2 := Tryz.sizeOf2
  v2 := Tryz.zeroValue2
  t3 := Tryz.underlying3
  a3 := Tryz.isAgg3
  z3 := Tryz.sizeOf3
  v3 := Tryz.zeroValue3
  t4 := Tryz.underlying4
  a4 := Tryz.isAgg4
  z4 := Tryz.sizeOf4
  v4 := Tryz.zeroValue4
  t5 := Tryz.underlying5
  a5 := Tryz.isAgg5
  z5 := Tryz.sizeOf5
  v5 := Tryz.zeroValue5
  t9 := Tryz.underlying9
  a9 := Tryz.isAgg9
  z9 := Tryz.sizeOf9
  v9 := Tryz.zeroValue9
  t20 := Tryz.underlying20
  a20 := Tryz.isAgg20
  z20 := Tryz.sizeOf20
  v20 := Tryz.zeroValue20
  t37 := Tryz.underlying141
  a37 := Tryz.isAgg141
  z37 := Tryz.sizeOf141
  v37 := Tryz.zeroValue141
  t46 := Tryz.underlying168
  a46 := Tryz.isAgg168
  z46 := Tryz.sizeOf168
  v46 := Tryz.zeroValue168
  t51 := Tryz.underlying166
  a51 := Tryz.isAgg166
  z51 := Tryz.sizeOf166
  v51 := Tryz.zeroValue166
  t53 := Tryz.underlying23
  a53 := Tryz.isAgg23
  z53 := Tryz.sizeOf23
  v53 := Tryz.zeroValue23
  t171 := Tryz.underlying301
  a171 := Tryz.isAgg301
  z171 := Tryz.sizeOf301
  v171 := Tryz.zeroValue301
  t173 := Tryz.underlying303
  a173 := Tryz.isAgg303
  z173 := Tryz.sizeOf303
  v173 := Tryz.zeroValue303
  t212 := Tryz.underlying309
  a212 := Tryz.isAgg309
  z212 := Tryz.sizeOf309
  v212 := Tryz.zeroValue309
  t213 := Tryz.underlying310
  a213 := Tryz.isAgg310
  z213 := Tryz.sizeOf310
  t232 := Tryz.underlying261
  a232 := Tryz.isAgg261
  z232 := Tryz.sizeOf261
  v232 := Tryz.zeroValue261
  t233 := Tryz.underlying312
  a233 := Tryz.isAgg312
  z233 := Tryz.sizeOf312
  v233 := Tryz.zeroValue312
  g17 := by kernel_rfl
  g18 := by kernel_rfl
  g19 := by kernel_rfl
  i0 := by kernel_rfl
  i2 := by kernel_rfl
  i3 := by kernel_rfl
  i4 := by kernel_rfl
  i5 := by kernel_rfl
  i9 := by kernel_rfl
  i20 := by kernel_rfl
  i37 := by kernel_rfl
  i46 := by kernel_rfl
  i51 := by kernel_rfl
  i53 := by kernel_rfl
  i171 := by kernel_rfl
  i173 := by kernel_rfl
  i212 := by kernel_rfl
  i232 := by kernel_rfl
  i233 := by kernel_rfl
  m17 := by kernel_rfl
  m18 := by kernel_rfl
  m19 := by kernel_rfl }
open Go.RowKit Go.Sort Go.Lib in
/-- strconv.Itoa: "Itoa is equivalent to FormatInt(int64(i), 10).": i's DECIMAL NUMERAL ('Lib.itoa': a '-' where i is negative, then the digits), FOR EVERY int. The world behind the call: the world before it, new blocks behind the heap (the library's 'var a [24]byte'), draws. (LAID: no walk: one application.) -/
theorem Tryz.strconv_Itoa (n : Int) (h0 : -9223372036854775808 ≤ n) (h1 : n ≤ 9223372036854775807) (w : World) (htab : Lib.TabIs Tryz.prog w "internal/strconv.uint64pow10" .u64 Lib.pow10Tab) :
    Calls Tryz.prog 206 #[.int .i64 n] w fun e w' => e = .returned (.string ⟨(Lib.itoa n).toArray⟩) ∧ ∃ k os, w' = grow (w.drewN k) os := Any.strconv_Itoa Tryz.laysM171 n h0 h1 w htab
def Tryz.lays105_ren : Go.Shelf.Ren := ⟨fun | 105 => 141 | 212 => 209 | 99 => 110 | 165 => 210 | 166 => 211 | 170 => 212 | 169 => 213 | 263 => 252 | 264 => 253 | 206 => 189 | 240 => 254 | 241 => 255 | 276 => 286 | 277 => 287 | n => n, fun | 9 => 9 | 3 => 3 | 4 => 4 | 20 => 20 | 0 => 0 | 46 => 168 | 109 => 234 | 5 => 5 | 72 => 238 | 76 => 204 | 51 => 166 | 146 => 264 | 53 => 23 | 148 => 266 | 70 => 236 | 37 => 141 | 75 => 203 | 127 => 268 | 164 => 290 | 80 => 241 | n => n, fun | n => n⟩
theorem Tryz.lays105 : Go.Proofs.Lays.n105 Tryz.prog Tryz.lays105_ren := {
  mixed := by kernel_rfl
  f99 := Tryz.func110.trans (congrArg some (by kernel_rfl))
  f105 := Tryz.func141.trans (congrArg some (by kernel_rfl))
  f165 := Tryz.func210.trans (congrArg some (by kernel_rfl))
  f166 := Tryz.func211.trans (congrArg some (by kernel_rfl))
  f169 := Tryz.func213.trans (congrArg some (by kernel_rfl))
  f170 := Tryz.func212.trans (congrArg some (by kernel_rfl))
  f206 := Tryz.func189.trans (congrArg some (by kernel_rfl))
  f212 := Tryz.func209.trans (congrArg some (by kernel_rfl))
  f240 := Tryz.func254.trans (congrArg some (by kernel_rfl))
  f241 := Tryz.func255.trans (congrArg some (by kernel_rfl))
  f263 := Tryz.func252.trans (congrArg some (by kernel_rfl))
  f264 := Tryz.func253.trans (congrArg some (by kernel_rfl))
  f276 := Tryz.func286.trans (congrArg some (by kernel_rfl))
  f277 := Tryz.func287.trans (congrArg some (by kernel_rfl))
  t0 := Tryz.underlying0
  a0 := Tryz.isAgg0
  z0 := Tryz.sizeOf0
  v0 := Tryz.zeroValue0
  t3 := Tryz.underlying3
  a3 := Tryz.isAgg3
  z3 := Tryz.sizeOf3
  v3 := Tryz.zeroValue3
  t4 := Tryz.underlying4
  a4 := Tryz.isAgg4
  z4 := Tryz.sizeOf4
  v4 := Tryz.zeroValue4
  t5 := Tryz.underlying5
  a5 := Tryz.isAgg5
  z5 := Tryz.sizeOf5
  v5 := Tryz.zeroValue5
  t9 := Tryz.underlying9
  a9 := Tryz.isAgg9
  z9 := Tryz.sizeOf9
  v9 := Tryz.zeroValue9
  t20 := Tryz.underlying20
  a20 := Tryz.isAgg20
  z20 := Tryz.sizeOf20
  v20 := Tryz.zeroValue20
  t37 := Tryz.underlying141
  a37 := Tryz.isAgg141
  z37 := Tryz.sizeOf141
  v37 := Tryz.zeroValue141
  t46 := Tryz.underlying168
  a46 := Tryz.isAgg168
  z46 := Tryz.sizeOf168
  v46 := Tryz.zeroValue168
  t51 := Tryz.underlying166
  a51 := Tryz.isAgg166
  z51 := Tryz.sizeOf166
  v51 := Tryz.zeroValue166
  t53 := Tryz.underlying23
  a53 := Tryz.isAgg23
  z53 := Tryz.sizeOf23
  v53 := Tryz.zeroValue23
  t70 := Tryz.underlying236
  a70 := Tryz.isAgg236
  z70 := Tryz.sizeOf236
  v70 := Tryz.zeroValue236
  t72 := Tryz.underlying238
  a72 := Tryz.isAgg238
  z72 := Tryz.sizeOf238
  v72 := Tryz.zeroValue238
  t75 := Tryz.underlying203
  a75 := Tryz.isAgg203
  z75 := Tryz.sizeOf203
  v75 := Tryz.zeroValue203
  t76 := Tryz.underlying204
  a76 := Tryz.isAgg204
  z76 := Tryz.sizeOf204
  v76 := Tryz.zeroValue204
  t109 := Tryz.underlying234
  a109 := Tryz.isAgg234
  z109 := Tryz.sizeOf234
  v109 := Tryz.zeroValue234
  t127 := Tryz.underlying268
  a127 := Tryz.isAgg268
  z127 := Tryz.sizeOf268
  v127 := Tryz.zeroValue268
  t146 := Tryz.underlying264
  a146 := Tryz.isAgg264
  z146 := Tryz.sizeOf264
  v146 := Tryz.zeroValue264
  t148 := Tryz.underlying266
  a148 := Tryz.isAgg266
  z148 := Tryz.sizeOf266
  v148 := Tryz.zeroValue266
  t164 := Tryz.underlying290
  a164 := Tryz.isAgg290
  z164 := Tryz.sizeOf290
  v164 := Tryz.zeroValue290 }
theorem Tryz.Builder_Extra_105 : Builder.Extra Tryz.prog Tryz.lays105_ren := {
  sizeBuilder := by kernel_rfl
  liesBuilder := by kernel_rfl
  t5 := Tryz.underlying5
  a5 := Tryz.isAgg5
  z5 := Tryz.sizeOf5
  v5 := Tryz.zeroValue5
  infoByte := by kernel_rfl
  cellsByte := by kernel_rfl
  sizeByte := by kernel_rfl
  neB5 := by decide }
open Go.RowKit Go.Lib in
/-- **strings.Repeat: count ≥ 0, the result within one allocation: count copies of s.** (LAID: no walk: one application.) -/
theorem Tryz.strings_Repeat (s : ByteArray) (c : Nat) (w : World) (hc : c ≤ 9223372036854775807) (hlen : s.size * c ≤ 140737488355328) :
    Calls Tryz.prog 141 #[.string s, .int .i64 c] w fun e w' => e = .returned (.string ⟨(Lib.repeatL s.data.toList c).toArray⟩) ∧ Below w.heap.size w w' := Any.strings_Repeat Tryz.lays105 Tryz.Builder_Extra_105 s c w hc hlen
def Tryz.laysNm217_ren : Go.Shelf.Ren := ⟨fun | 17 => 207 | n => n, fun | 24 => 229 | 9 => 9 | 3 => 3 | 4 => 4 | 0 => 0 | n => n, fun | n => n⟩
theorem Tryz.laysNm217 : Go.Proofs.Lays2.n17 Tryz.prog Tryz.laysNm217_ren := {
  mixed := by kernel_rfl
  f17 := Tryz.func207.trans (congrArg some (by kernel_rfl))
  t0 := Tryz.underlying0
  a0 := Tryz.isAgg0
  z0 := Tryz.sizeOf0
  v0 := Tryz.zeroValue0
  t3 := Tryz.underlying3
  a3 := Tryz.isAgg3
  z3 := Tryz.sizeOf3
  v3 := Tryz.zeroValue3
  t4 := Tryz.underlying4
  a4 := Tryz.isAgg4
  z4 := Tryz.sizeOf4
  v4 := Tryz.zeroValue4
  t9 := Tryz.underlying9
  a9 := Tryz.isAgg9
  z9 := Tryz.sizeOf9
  v9 := Tryz.zeroValue9
  t24 := Tryz.underlying229
  a24 := Tryz.isAgg229
  z24 := Tryz.sizeOf229
  v24 := Tryz.zeroValue229 }
open Go.RowKit Go.Lib Go.Sort in
/-- slices.Reverse at []string: "Reverse reverses the elements of the slice in place.": THE SLICE's CELLS HOLD 'zs.reverse' BEHIND THE CALL; all else is as it was, but for the count of draws (the exchange 's[i], s[j] = s[j], s[i]' draws its order, once a round). IN THE WORDS OF slices.Sort's CONTRACT: 'Holds': the cells hold zs and none is frozen; 'putRow': the world with those cells holding another array. A slice of length 0 that is not nil is among them ('zs = []'); nil: '.._nil'. (LAID: no walk: one application.) -/
theorem Tryz.slices_Reverse_string (blk off cap : Nat) (zs : List (List UInt8)) (w : World) (hH : Holds encStr w blk off zs.toArray) (hsz : zs.length ≤ 9223372036854775807) :
    Calls Tryz.prog 207 #[.slice (some ⟨blk, off, none⟩) zs.length cap] w fun e w' => e = .returned (.tuple #[]) ∧ ∃ n, w' = putRow encStr (Sort.ahead w n) blk off zs.reverse.toArray := Any.slices_Reverse_string Tryz.laysNm217 blk off cap zs w hH hsz
end Go.Proofs
