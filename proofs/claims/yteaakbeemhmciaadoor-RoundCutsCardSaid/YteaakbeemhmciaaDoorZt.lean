/- The reference: a whole number without its factors 2 (ZTwos). -/
import Derived.Test.YteaakbeemhmciaaDoorZ9
import Derived.Test.YteaakbeemhmciaaDoorDy
import Derived.Test.YteaakbeemhmciaaDoorRegL
set_option linter.unusedVariables false
set_option linter.unusedSimpArgs false
namespace Go.Ulp
open Go.RowKit
theorem tw_neg_abs (x : Int) (k : Nat) : (x * pw k).natAbs = x.natAbs * 2 ^ k := natAbs_mul_pw x k
/-- divisible, and what comes of it -/
theorem div_step {x z : Int} {n k : Nat} (h : x = z * pw n) (hr : z % pw k = 0) : x = z / pw k * pw (n + k) := by
  have h1 : z = z / pw k * pw k := by
    have := Int.mul_ediv_add_emod z (pw k)
    rw [hr, Int.add_zero] at this
    rw [Int.mul_comm]; exact this.symm
  rw [h]
  conv => lhs; rw [h1]
  rw [Int.mul_assoc, ← pw_add]; congr 2; omega
theorem div_less {z : Int} {k : Nat} (hz : z ≠ 0) (hk : 0 < k) (hr : z % pw k = 0) : (z / pw k).natAbs < z.natAbs ∧ z / pw k ≠ 0 := by
  have h1 : z = z / pw k * pw k := by
    have := Int.mul_ediv_add_emod z (pw k)
    rw [hr, Int.add_zero] at this
    rw [Int.mul_comm]; exact this.symm
  have h0 : z / pw k ≠ 0 := fun h => by rw [h, Int.zero_mul] at h1; exact hz h1
  refine ⟨?_, h0⟩
  have h2 : z.natAbs = (z / pw k).natAbs * 2 ^ k := by
    conv => lhs; rw [h1]
    exact natAbs_mul_pw _ _
  rw [h2]
  have h3 : 2 ≤ 2 ^ k := by
    have := Nat.pow_le_pow_right (n := 2) (by omega) (show 1 ≤ k by omega)
    omega
  have h4 : 0 < (z / pw k).natAbs := by omega
  have := Nat.mul_le_mul_left (z / pw k).natAbs h3
  omega
/-- what is left when 2 does not divide any more -/
theorem tw_done {x z : Int} {n : Nat} (h : x = z * pw n) (hz : z % 2 ≠ 0) : n = tw x.natAbs ∧ z = x / pw (tw x.natAbs) := by
  have h1 : x.natAbs = z.natAbs * 2 ^ n := by rw [h]; exact natAbs_mul_pw z n
  have h2 : z.natAbs % 2 = 1 := by omega
  have h3 := (tw_od_mul z.natAbs n h2).1
  rw [← h1] at h3
  refine ⟨h3.symm, ?_⟩
  have hp := pw_pos n
  rw [h3, h, Int.mul_ediv_cancel _ (by omega)]
end Go.Ulp
set_option linter.unusedVariables false
set_option linter.unusedSimpArgs false
namespace Go.Ulp
open Go.RowKit
theorem tw_bound {x z : Int} {n L : Nat} (h : x = z * pw n) (hz : z ≠ 0) (hl : (zl x).length ≤ L) : n ≤ 14 * L ∧ (zl z).length ≤ L := by
  have h1 : x.natAbs = z.natAbs * 2 ^ n := by rw [h]; exact natAbs_mul_pw z n
  have h2 : 0 < z.natAbs := by omega
  have h3 : 0 < 2 ^ n := Nat.pow_pos (by omega)
  have h4 : z.natAbs ≤ x.natAbs := by rw [h1]; exact Nat.le_mul_of_pos_right _ h3
  have h5 : 2 ^ n ≤ x.natAbs := by rw [h1]; exact Nat.le_mul_of_pos_left _ h2
  have h6 : x.natAbs < 10000 ^ L := (digs_len_le 10000 (by omega) _ _).1 hl
  have h7 : 10000 ^ L ≤ (2 ^ 14) ^ L := Nat.pow_le_pow_left (by omega) L
  rw [← Nat.pow_mul] at h7
  have h8 : 2 ^ n < 2 ^ (14 * L) := by omega
  have h9 := (Nat.pow_lt_pow_iff_right (a := 2) (by omega)).1 h8
  exact ⟨by omega, Nat.le_trans (zl_len_le h4) hl⟩
def ZD2 (t : TypeId) (w : World) (x y : Int) (v : Value) : Prop :=
  ∃ ao cap bo cbp, v = .tuple #[.agg #[.bool (zneg x), .slice ao (zl x).length cap], .agg #[.bool (zneg y), .slice bo (zl y).length cbp]] ∧ Nz t w ao cap (zl x) ∧ Nz t w bo cbp (zl y)
def Fact.z2 (t : TypeId) (x y : Int) : Fact := ⟨fun v w => ZD2 t w x y v, fun _ _ _ h hb => by
  obtain ⟨ao, cap, bo, cbp, h1, h2, h3⟩ := h; exact ⟨ao, cap, bo, cbp, h1, h2.below hb, h3.below hb⟩⟩
def Fact.z0 (B : Nat) (t : TypeId) : Fact := ⟨fun v w => ∃ g, v = .pointer (some ⟨g, 0, none⟩) ∧ B ≤ g ∧ ZL t w g false (.slice none 0 0), fun _ _ _ h hb => by
  obtain ⟨g, h1, h2, h3⟩ := h; exact ⟨g, h1, h2, h3.below hb⟩⟩
/-- what ZTwos leaves -/
def RetTw (t : TypeId) (w : World) (n : Nat) (y : Int) (e : Ending) (w' : World) : Prop :=
  ∃ ao cap, e = .returned (.tuple #[.int .i64 (n : Int), .agg #[.bool (zneg y), .slice ao (zl y).length cap]]) ∧ Nz t w' ao cap (zl y) ∧ Below w.heap.size w w'
theorem zl_zero_iff (r : Int) : (zl r).length = 0 ↔ r = 0 := by
  unfold zl
  rw [List.length_eq_zero_iff, decs_nil]
  omega
end Go.Ulp
namespace Go.Proofs.YteaakbeemhmciaaDoor
open Go.RowKit Go.Ulp
set_option linter.unusedVariables false
set_option linter.unusedSimpArgs false
set_option maxHeartbeats 4000000
set_option maxRecDepth 100000
theorem zdiv_v (a0 : Option Addr) (c0 : Nat) (x y : Int) (v : Value) (w : World) (h0 : Nz 3 w a0 c0 (zl x)) (h1 : ZD 3 w y v) (hl0 : (zl x).length ≤ 1000000) (hl1 : (zl y).length ≤ 1000000) (hy : y ≠ 0) :
    Calls Tryd.prog 110 #[.agg #[.bool (zneg x), .slice a0 (zl x).length c0], v] w fun e w' => RetZ2 3 w (x / y) (x % y) e w' := by
  obtain ⟨a1, c1, rfl, h1⟩ := h1
  exact zdiv_any a0 a1 c0 c1 x y w h0 h1 hl0 hl1 hy
theorem ztwos_any (a0 : Option Addr) (c0 : Nat) (x : Int) (w : World) (h0 : Nz 3 w a0 c0 (zl x)) (hl0 : (zl x).length ≤ 1000000) (hx : x ≠ 0) :
    Calls Tryd.prog 103 #[.agg #[.bool (zneg x), .slice a0 (zl x).length c0]] w fun e w' => RetTw 3 w (tw x.natAbs) (x / pw (tw x.natAbs)) e w' := by
  have hne : (40 : TypeId) ≠ 3 := by decide
  have BD := hid (fun (n : Nat) (z : Int) (h : x = z * pw n) (hz : z ≠ 0) => tw_bound h hz hl0)
  have zA0 : ZL 40 ((w.alloc (.cells #[.bool (zneg x), .slice a0 (zl x).length c0] 40)).alloc (.cells #[.bool false, .slice none 0 0] 40)) w.heap.size (zneg x) (.slice a0 (zl x).length c0) := (ZL.made rfl).alloc _
  have zR0 : ZL 40 ((w.alloc (.cells #[.bool (zneg x), .slice a0 (zl x).length c0] 40)).alloc (.cells #[.bool false, .slice none 0 0] 40)) (w.heap.size + 1) false (.slice none 0 0) := ZL.made (by first | omega | (simp; done) | (simp; omega))
  have yb0 : Below w.heap.size w ((w.alloc (.cells #[.bool (zneg x), .slice a0 (zl x).length c0] 40)).alloc (.cells #[.bool false, .slice none 0 0] 40)) := by (repeat' (first | (with_reducible assumption) | (with_reducible exact Below.refl _ _) | (with_reducible refine below_al ?_ _) | (with_reducible refine below_drewN ?_ _) | (with_reducible refine Below.drew ?_) | (with_reducible refine Below.alloc ?_ ?_ _) | (with_reducible refine Below.setCell ?_ ?_ _) | (refine below_trans ?_ (by assumption)) | go_size))
  have h0' := h0.below yb0
  have ST := hid (show ∃ z, ZV 40 3 ((w.alloc (.cells #[.bool (zneg x), .slice a0 (zl x).length c0] 40)).alloc (.cells #[.bool false, .slice none 0 0] 40)) w.heap.size z ∧ z ≠ 0 ∧ x = z * pw 0 from ⟨x, ⟨_, _, zA0, h0'⟩, hx, by simp [pw]⟩)
  clear h0 h0' zA0
  go_enter Tryd.func103, Tryd.ntmps103
  go_upto_block 0 with fail
  go_cut [4, 5, 6, 7] (fun s4 _ _ _ wx => ∃ (n : Nat) (z : Int), s4 = .int .i64 (n : Int) ∧ x = z * pw n ∧ z % 2 ≠ 0 ∧ ZV 40 3 wx w.heap.size z ∧ ZL 40 wx (w.heap.size + 1) false (.slice none 0 0) ∧ Below w.heap.size w wx)
  case first =>
    obtain ⟨w1, hw1⟩ : ∃ w1, w1 = ((w.alloc (.cells #[.bool (zneg x), .slice a0 (zl x).length c0] 40)).alloc (.cells #[.bool false, .slice none 0 0] 40)) := ⟨_, rfl⟩
    rw [← hw1] at ST zR0 yb0 ⊢
    clear hw1
    have ZR := hid zR0
    have YB := hid yb0
    have hR1 := zR0.lt
    clear zR0 yb0
    go_wp2_with fail
    go_loopw [4, 5, 6, 7] (fun s4 s5 _ _ wr => ∃ (n k : Nat) (z : Int), s4 = .int .i64 (n : Int) ∧ s5 = .int .i64 (k : Int) ∧ k ≤ 4096 ∧ x = z * pw n ∧ z ≠ 0 ∧ (k = 0 → z % 2 ≠ 0) ∧ ZV 40 3 wr w.heap.size z ∧ ZL 40 wr (w.heap.size + 1) false (.slice none 0 0) ∧ Below w.heap.size w wr) (fun _ s5 _ _ _ => (intOf s5).toNat)
    case atStart =>
      obtain ⟨z, h1, h2, h3⟩ := ST.out
      exact ⟨0, 4096, z, rfl, rfl, by omega, h3, h2, by omega, h1, ZR.out, YB.out⟩
    case round =>
      obtain ⟨n, k, z, rfl, rfl, hk, hxz, hz, hk0, hV, hRz, hb⟩ := hrel
      have HXZ := hid hxz
      have HZ := hid hz
      have HK0 := hid hk0
      have HV := hid hV
      have HR := hid hRz
      have HB := hid hb
      clear hxz hz hk0 hV hRz hb
      by_cases hk1 : k = 0
      · have HK1 := hid (HK0.out hk1)
        subst hk1
        clear HK0
        go_wp2_with fail
        go_meet
        exact ⟨n, z, rfl, HXZ.out, HK1.out, HV.out, HR.out, HB.out⟩
      · have hkp : 0 < (k : Int) := by omega
        go_upto_block 0 with fail
        clear HK0
        go_wp2_with fail
        go_loopw [4, 6, 7] (fun s4 _ _ wr => ∃ (n : Nat) (z : Int), s4 = .int .i64 (n : Int) ∧ x = z * pw n ∧ z ≠ 0 ∧ ZV 40 3 wr w.heap.size z ∧ ZL 40 wr (w.heap.size + 1) false (.slice none 0 0) ∧ Below w.heap.size w wr) (fun s4 _ _ _ => (14000000 - intOf s4).toNat)
        case atStart => exact ⟨n, z, rfl, HXZ.out, HZ.out, HV.out, HR.out, HB.out⟩
        case round =>
          clear HXZ HZ HV HR HB
          obtain ⟨n, z, rfl, hxz, hz, hV, hRz, hb⟩ := hrel
          obtain ⟨hn, hlz⟩ := BD.out n z hxz hz
          have hn' : n ≤ 14000000 := by omega
          have lp := zl_len_pw k
          have HXZ := hid hxz
          have HZ := hid hz
          obtain ⟨za, zc, zZ, hNz⟩ := hV
          have NZ := hid hNz
          have ZPk := hid (fun w => zpow_any k w (by omega))
          have DV := hid (fun v w h0 h1 => zdiv_v za zc z (pw k) v w h0 h1 hlz (by omega) (by have := pw_pos k; omega))
          have B0 := hid hb
          have hlt := zZ.lt
          have hltR := hRz.lt
          clear hxz hz hn hlz lp hNz hb
          go_upto_region 5 with fail
          refine wp_region_growL 9 6 [13, 14, 15, 16, 12, 17, 18, 6, 7] [Fact.is (.agg #[.bool (zneg z), .slice za (zl z).length zc]), Fact.is (.int .i64 (k : Int)), Fact.z 3 (pw k), Fact.z2 3 (z / pw k) (z % pw k), Fact.z2 3 (z / pw k) (z % pw k), Fact.z 3 (z / pw k), Fact.z 3 (z % pw k), Fact.z0 wr.heap.size 40, Fact.z0 wr.heap.size 40] [7, 8] (by kernel_rfl) (by kernel_rfl) rfl ⟨?o0, ?o1, ?o2, ?o3, ?o4, ?o5, ?o6, ?o7, ?o8, trivial⟩ ?late (fun d _ _ _ _ h => by cases d <;> exact h) ?after
          case o0 => (refine StepOKF.plain rfl ?_; intro ρ w1 R hρ hb hp hR; have e1 : ρ (.tmp 1) = .pointer (some ⟨w.heap.size, 0, none⟩) := hρ.tmp 1 rfl; obtain ⟨j0, j1, -, -, -⟩ := zZ.below hb; replace hR := fun v w2 h1 h2 => hR v w2 h1 h2 (fun h => absurd h (by decide)); have hcon := hρ.con; have hfn := hρ.fn; clear hρ hp; unfold OpRun; go_simp; exact hR _ _ (Below.refl _ _) rfl)
          case o1 => (refine StepOKF.plain rfl ?_; intro ρ w1 R hρ hb hp hR; have e5 : ρ (.tmp 5) = .int .i64 (k : Int) := hρ.tmp 5 rfl; replace hR := fun v w2 h1 h2 => hR v w2 h1 h2 (fun h => absurd h (by decide)); have hcon := hρ.con; have hfn := hρ.fn; clear hρ hp; unfold OpRun; go_simp; exact hR _ _ (Below.refl _ _) rfl)
          case o2 => (refine StepOKF.plain rfl ?_; intro ρ w1 R hρ hb hp hR; have e14 : ρ (.tmp 14) = _ := hp 1 14 rfl rfl; replace hR := fun v w2 h1 h2 => hR v w2 h1 h2 (fun h => absurd h (by decide)); have hcon := hρ.con; have hfn := hρ.fn; clear hρ hp; unfold OpRun; go_simp; (refine (ZPk.out _).mono ?_; rintro e wn ⟨az, cz, rfl, hz9, hbn⟩; exact ⟨_, rfl, hR _ _ hbn ⟨az, cz, rfl, hz9⟩⟩))
          case o3 => (refine StepOKF.plain rfl ?_; intro ρ w1 R hρ hb hp hR; have e13 : ρ (.tmp 13) = _ := hp 0 13 rfl rfl; have f15 := hp 2 15 rfl rfl; replace hR := fun v w2 h1 h2 => hR v w2 h1 h2 (fun h => absurd h (by decide)); have hcon := hρ.con; have hfn := hρ.fn; clear hρ hp; unfold OpRun; go_simp; (refine (DV.out _ _ (NZ.out.below hb) f15).mono ?_; rintro e wn ⟨ao, cap, bo, cbp, rfl, hq, hr, hbn⟩; exact ⟨_, rfl, hR _ _ hbn ⟨ao, cap, bo, cbp, rfl, hq, hr⟩⟩))
          case o4 => (refine StepOKF.plain rfl ?_; intro ρ w1 R hρ hb hp hR; have f16 := hp 3 16 rfl rfl; replace hR := fun v w2 h1 h2 => hR v w2 h1 h2 (fun h => absurd h (by decide)); have hcon := hρ.con; have hfn := hρ.fn; clear hρ hp; unfold OpRun; go_simp; exact hR _ _ (Below.refl _ _) f16)
          case o5 => (refine StepOKF.plain rfl ?_; intro ρ w1 R hρ hb hp hR; have f12 := hp 4 12 rfl rfl; replace hR := fun v w2 h1 h2 => hR v w2 h1 h2 (fun h => absurd h (by decide)); have hcon := hρ.con; have hfn := hρ.fn; clear hρ hp; unfold OpRun; go_simp; (obtain ⟨ao, cap, bo, cbp, e12, hq, hr⟩ := f12; rw [e12]; exact hR _ _ (Below.refl _ _) ⟨_, _, rfl, hq⟩))
          case o6 => (refine StepOKF.plain rfl ?_; intro ρ w1 R hρ hb hp hR; have f12 := hp 4 12 rfl rfl; replace hR := fun v w2 h1 h2 => hR v w2 h1 h2 (fun h => absurd h (by decide)); have hcon := hρ.con; have hfn := hρ.fn; clear hρ hp; unfold OpRun; go_simp; (obtain ⟨ao, cap, bo, cbp, e12, hq, hr⟩ := f12; rw [e12]; exact hR _ _ (Below.refl _ _) ⟨_, _, rfl, hr⟩))
          case o7 => (refine StepOKF.plain rfl ?_; intro ρ w1 R hρ hb hp hR; have hcon := hρ.con; have hfn := hρ.fn; clear hρ hp; unfold OpRun; go_simp; exact hR _ _ (below_alloc _ _) ⟨_, rfl, hb.size, ZL.made rfl⟩ (fun _ => ⟨_, rfl, Nat.le_refl _, by simp⟩))
          case o8 => (refine StepOKF.plain rfl ?_; intro ρ w1 R hρ hb hp hR; have hcon := hρ.con; have hfn := hρ.fn; clear hρ hp; unfold OpRun; go_simp; exact hR _ _ (below_alloc _ _) ⟨_, rfl, hb.size, ZL.made rfl⟩ (fun _ => ⟨_, rfl, Nat.le_refl _, by simp⟩))
          case late =>
            intro o ho
            simp only [List.getElem?_cons_succ, List.getElem?_cons_zero, Option.some.injEq] at ho
            subst ho
            refine ⟨rfl, ?_⟩
            intro ρ w1 hρ hb hp
            have f12 := hp 4 12 rfl rfl
            obtain ⟨ao, cap, bo, cbp, e12, hq, hr⟩ := f12
            refine ⟨_, ?_, ⟨_, _, rfl, hr⟩⟩
            intro w2
            have hcon := hρ.con
            go_simp
            try rfl
          case after =>
            intro u wn hb hf hd
            have f17 := hf 5 17 (by omega) rfl
            have f18 := hf 6 18 (by omega) rfl
            have f6 := hf 7 6 (by omega) rfl
            have f7 := hf 8 7 (by omega) rfl
            have d6_7 : u 6 ≠ u 7 := hd 7 8 6 7 (by omega) (by omega) (by omega) rfl rfl rfl rfl
            clear hf hd
            simp only [putAll, Act.put, List.setIfInBounds_toArray, List.set_cons_zero, List.set_cons_succ, List.drop_succ_cons, List.drop_zero, List.drop_nil]
            obtain ⟨qa, qc, e17, hq⟩ := f17
            obtain ⟨ra, rc, e18, hr⟩ := f18
            obtain ⟨g6, e6, hg6, z6⟩ := f6
            obtain ⟨g7, e7, hg7, z7⟩ := f7
            have h67 : g6 ≠ g7 := by intro h; apply d6_7; rw [e6, e7, h]
            rw [e17, e18, e6, e7]
            clear e17 e18 e6 e7 d6_7
            have zb := zZ.below hb
            have zRb := hRz.below hb
            have hB := below_trans B0.out hb
            have hlw : w.heap.size < wr.heap.size := hlt
            obtain ⟨a60, a61, af0, af1, as6⟩ := id z6
            obtain ⟨b70, b71, bf0, bf1, bs7⟩ := id z7
            obtain ⟨c10, c11, cf0, cf1, cs1⟩ := id zb
            have h16 : w.heap.size ≠ g6 := by omega
            have h17 : w.heap.size ≠ g7 := by omega
            have h26 : w.heap.size + 1 ≠ g6 := by omega
            have h27 : w.heap.size + 1 ≠ g7 := by omega
            have h76 := h67.symm
            have h61 := h16.symm
            have h71 := h17.symm
            by_cases hr0 : z % pw k = 0
            · have hl0r : (zl (z % pw k)).length = 0 := (zl_zero_iff _).2 hr0
              have hds := div_step HXZ.out hr0
              have hdl := div_less HZ.out (by omega) hr0
              obtain ⟨hn2, -⟩ := BD.out _ _ hds hdl.2
              have hw1 : IntKind.i64.wrap ((n : Int) + (k : Int)) = (n : Int) + (k : Int) := IntWalk.i64_in _ (by omega)
              have HDS := hid hds
              have HDL := hid hdl.2
              rw [hl0r]
              clear hds hdl hl0r hr0
              go_wp2_with fail
              go_region
              all_goals
                go_wp2_with fail
                go_round
                case rel =>
                  refine ⟨n + k, z / pw k, by rw [Int.natCast_add], HDS.out, HDL.out, ?_, ?_, ?_⟩
                  · refine ZV.below (ZV.store (n := zneg z) (v := .slice za (zl z).length zc) ?_ ?_ (by decide)) (Below.drew (Below.refl _ _))
                    · exact (((zb.far _ _ h16).far _ _ h16).far _ _ h17).far _ _ h17
                    · exact (hq.st2 as6 (by decide) _ _).st2 ((bs7.setCell _ _).setCell _ _) (by decide) _ _
                  · exact ((((((zRb.far _ _ h26).far _ _ h26).far _ _ h27).far _ _ h27).far _ _ (by first | omega | (simp; done) | (simp; omega))).far _ _ (by first | omega | (simp; done) | (simp; omega))).drew
                  · (repeat' (first | (with_reducible assumption) | (with_reducible exact Below.refl _ _) | (with_reducible refine below_al ?_ _) | (with_reducible refine below_drewN ?_ _) | (with_reducible refine Below.drew ?_) | (with_reducible refine Below.alloc ?_ ?_ _) | (with_reducible refine Below.setCell ?_ ?_ _) | (refine below_trans ?_ (by assumption)) | go_size))
                case measure => simp [intOf]; omega
            · have hlp : 0 < ((zl (z % pw k)).length : Int) := by have := mt (zl_zero_iff (z % pw k)).1 hr0; omega
              have HR0 := hid hr0
              clear hr0
              generalize (zl (z % pw k)).length = rl at *
              go_wp2_with fail
              go_round
              case rel =>
                refine ⟨n, k / 2, z, rfl, by rw [show ((k / 2 : Nat) : Int) = (k : Int) / 2 by omega], by omega, HXZ.out, HZ.out, fun h => ?_, ⟨za, zc, ?_, ?_⟩, ?_, ?_⟩
                · have hk1 : k = 1 := by omega
                  have h9 := HR0.out
                  rw [hk1, show pw 1 = 2 from rfl] at h9
                  exact h9
                · exact (((zb.far _ _ h16).far _ _ h16).far _ _ h17).far _ _ h17
                · have h9 := NZ.out.below hb
                  exact (h9.st2 as6 (by decide) _ _).st2 ((bs7.setCell _ _).setCell _ _) (by decide) _ _
                · exact (((zRb.far _ _ h26).far _ _ h26).far _ _ h27).far _ _ h27
                · (repeat' (first | (with_reducible assumption) | (with_reducible exact Below.refl _ _) | (with_reducible refine below_al ?_ _) | (with_reducible refine below_drewN ?_ _) | (with_reducible refine Below.drew ?_) | (with_reducible refine Below.alloc ?_ ?_ _) | (with_reducible refine Below.setCell ?_ ?_ _) | (refine below_trans ?_ (by assumption)) | go_size))
              case measure => simp [intOf]; omega
  case rest =>
    obtain ⟨n, z, rfl, hxz, hz2, ⟨za, zc, zZ, hNz⟩, hRz, hb⟩ := hcut
    have TD := hid (tw_done hxz hz2)
    have HNz := hid hNz
    have HB := hid hb
    obtain ⟨c10, c11, cf0, cf1, cs1⟩ := id zZ
    obtain ⟨r10, r11, rf0, rf1, rs1⟩ := id hRz
    clear hxz hz2 hNz hb BD ST
    go_wp2_with fail
    go_region
    all_goals
      go_wp2_with fail
      refine bodyPost_ret (by simp [results, Tryd.results103, go_sem, r10, r11]; try rfl) rfl ?_
      have TD2 := TD.out
      rw [← TD2.2, ← TD2.1]
      exact ⟨za, zc, rfl, (HNz.out.st2 rs1 (by decide) _ _).below (Below.drew (Below.refl _ _)), by (repeat' (first | (with_reducible assumption) | (with_reducible exact Below.refl _ _) | (with_reducible refine below_al ?_ _) | (with_reducible refine below_drewN ?_ _) | (with_reducible refine Below.drew ?_) | (with_reducible refine Below.alloc ?_ ?_ _) | (with_reducible refine Below.setCell ?_ ?_ _) | (refine below_trans ?_ (by assumption)) | go_size))⟩
end Go.Proofs.YteaakbeemhmciaaDoor
