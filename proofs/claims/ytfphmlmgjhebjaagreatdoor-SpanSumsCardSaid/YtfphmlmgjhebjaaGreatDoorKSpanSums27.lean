/- SpanSums: what the proof leans on, part 27 (Ss22). -/
import Derived.Test.YtfphmlmgjhebjaaGreatDoorKSpanSums26
set_option linter.unusedVariables false
set_option linter.unusedSimpArgs false
namespace Go.Ulp
open Go.RowKit
def MS (w W : World) (gS gD gP gQ : Nat) (s1 s2 d1 d2 p1 p2 q1 q2 : Int) : Prop := Below w.heap.size w W ∧ SV W gS s1 s2 ∧ SV W gD d1 d2 ∧ SV W gP p1 p2 ∧ SV W gQ q1 q2
theorem MS.below {w W W' : World} {gS gD gP gQ : Nat} {s1 s2 d1 d2 p1 p2 q1 q2 : Int} (h : MS w W gS gD gP gQ s1 s2 d1 d2 p1 p2 q1 q2) (hb : Below W.heap.size W W') : MS w W' gS gD gP gQ s1 s2 d1 d2 p1 p2 q1 q2 :=
  ⟨below_trans h.1 hb, h.2.1.below hb, h.2.2.1.below hb, h.2.2.2.1.below hb, h.2.2.2.2.below hb⟩
/-- the four ends -/
def MX (ti te : TypeId) (W : World) (gx gy gz gw : Nat) (X Y Z V : Int × Dy) : Prop := XE ti te W gx X.1 X.2 1200 ∧ XE ti te W gy Y.1 Y.2 1200 ∧ XE ti te W gz Z.1 Z.2 1200 ∧ XE ti te W gw V.1 V.2 1200
theorem MX.below {ti te : TypeId} {W W' : World} {gx gy gz gw : Nat} {X Y Z V : Int × Dy} (h : MX ti te W gx gy gz gw X Y Z V) (hb : Below W.heap.size W W') : MX ti te W' gx gy gz gw X Y Z V :=
  ⟨h.1.below hb, h.2.1.below hb, h.2.2.1.below hb, h.2.2.2.below hb⟩
theorem XE.grown {ti te : TypeId} {w w' : World} {g : Nat} {way : Int} {D : Dy} {A : Nat} {row : Option Nat} (h : XE ti te w g way D A) (k : w.grownBy w' row) (hrow : ∀ k, row = some k → ElemIs w k te) (hne : te ≠ ti) (hg : some g ≠ row) : XE ti te w' g way D A := by
  have hl := h.lt
  have hB := k.block g hl hg
  obtain ⟨n, ao, l, c, t, h0, h1, h2, h3, f0, f1, f2, f3, ⟨m, s⟩, q⟩ := h
  exact ⟨n, ao, l, c, t, (World.cell?_of_block (a := ⟨g, 0, none⟩) hB).trans h0, (World.cell?_of_block (a := ⟨g, 1, none⟩) hB).trans h1, (World.cell?_of_block (a := ⟨g, 2, none⟩) hB).trans h2, (World.cell?_of_block (a := ⟨g, 3, none⟩) hB).trans h3,
    (World.frozen?_of_block (a := ⟨g, 0, none⟩) hB).trans f0, (World.frozen?_of_block (a := ⟨g, 1, none⟩) hB).trans f1, (World.frozen?_of_block (a := ⟨g, 2, none⟩) hB).trans f2, (World.frozen?_of_block (a := ⟨g, 3, none⟩) hB).trans f3, ⟨m, by rw [shape_of_block hB]; exact s⟩, q.grown k hrow hne⟩
/-- a row of two ends -/
def XR (ti : TypeId) (w : World) (g : Nat) (X Y : Int × Dy) : Prop :=
  ∃ n ao l c t n' ao' l' c' t', w.cell? ⟨g, 0, none⟩ = some (.bool n) ∧ w.cell? ⟨g, 1, none⟩ = some (.slice ao l c) ∧ w.cell? ⟨g, 2, none⟩ = some (.int .i64 t) ∧ w.cell? ⟨g, 3, none⟩ = some (.int .i64 X.1) ∧
    w.cell? ⟨g, 4, none⟩ = some (.bool n') ∧ w.cell? ⟨g, 5, none⟩ = some (.slice ao' l' c') ∧ w.cell? ⟨g, 6, none⟩ = some (.int .i64 t') ∧ w.cell? ⟨g, 7, none⟩ = some (.int .i64 Y.1) ∧
    QD ti w X.2 1200 1100 (.agg #[.bool n, .slice ao l c, .int .i64 t]) ∧ QD ti w Y.2 1200 1100 (.agg #[.bool n', .slice ao' l' c', .int .i64 t'])
theorem XR.lt {ti : TypeId} {w : World} {g : Nat} {X Y : Int × Dy} (h : XR ti w g X Y) : g < w.heap.size := by
  obtain ⟨_, _, _, _, _, _, _, _, _, _, h0, _⟩ := h; exact World.block_lt_of_cell? w _ h0
theorem XR.of_block {ti : TypeId} {w w' : World} {g : Nat} {X Y : Int × Dy} (h : XR ti w g X Y) (hB : w'.heap[g]? = w.heap[g]?) (hq : ∀ D v, QD ti w D 1200 1100 v → QD ti w' D 1200 1100 v) : XR ti w' g X Y := by
  obtain ⟨n, ao, l, c, t, n', ao', l', c', t', h0, h1, h2, h3, h4, h5, h6, h7, q, q'⟩ := h
  exact ⟨n, ao, l, c, t, n', ao', l', c', t', (World.cell?_of_block (a := ⟨g, 0, none⟩) hB).trans h0, (World.cell?_of_block (a := ⟨g, 1, none⟩) hB).trans h1, (World.cell?_of_block (a := ⟨g, 2, none⟩) hB).trans h2, (World.cell?_of_block (a := ⟨g, 3, none⟩) hB).trans h3,
    (World.cell?_of_block (a := ⟨g, 4, none⟩) hB).trans h4, (World.cell?_of_block (a := ⟨g, 5, none⟩) hB).trans h5, (World.cell?_of_block (a := ⟨g, 6, none⟩) hB).trans h6, (World.cell?_of_block (a := ⟨g, 7, none⟩) hB).trans h7, hq _ _ q, hq _ _ q'⟩
theorem XR.below {ti : TypeId} {w w' : World} {g : Nat} {X Y : Int × Dy} (h : XR ti w g X Y) (hb : Below w.heap.size w w') : XR ti w' g X Y := h.of_block (hb.block g h.lt) (fun _ _ q => q.below hb)
theorem XR.grown {ti te : TypeId} {w w' : World} {g : Nat} {X Y : Int × Dy} {row : Option Nat} (h : XR ti w g X Y) (k : w.grownBy w' row) (hrow : ∀ k, row = some k → ElemIs w k te) (hne : te ≠ ti) (hg : some g ≠ row) : XR ti w' g X Y := h.of_block (k.block g h.lt hg) (fun _ _ q => q.grown k hrow hne)
theorem XR.made {ti te : TypeId} {w : World} {n n' : Bool} {ao ao' : Option Addr} {l c l' c' : Nat} {t t' wx wy : Int} {D E : Dy} (q : QD ti w D 1200 1100 (.agg #[.bool n, .slice ao l c, .int .i64 t])) (q' : QD ti w E 1200 1100 (.agg #[.bool n', .slice ao' l' c', .int .i64 t'])) :
    XR ti (w.alloc (.cells #[.bool n, .slice ao l c, .int .i64 t, .int .i64 wx, .bool n', .slice ao' l' c', .int .i64 t', .int .i64 wy] te)) w.heap.size (wx, D) (wy, E) := by
  refine ⟨n, ao, l, c, t, n', ao', l', c', t', ?_, ?_, ?_, ?_, ?_, ?_, ?_, ?_, q.below (below_alloc _ _), q'.below (below_alloc _ _)⟩ <;> (rw [World.cell?_alloc_at (hn := rfl)]; rfl)
theorem XO.grown {base : Nat} {ti te : TypeId} {w w' : World} {v : Value} {L : List (Int × Dy)} {row : Option Nat} (h : XO base ti te w v L) (k : w.grownBy w' row) (hrow : ∀ k, row = some k → ElemIs w k te) (hne : te ≠ ti) (hap : ∀ b, v.ownBlock = some b → some b ≠ row) : XO base ti te w' v L := by
  obtain ⟨xs, ⟨h1, h2⟩, h3⟩ := h
  refine ⟨xs, ⟨h1, ?_⟩, fun j hj => ?_⟩
  · rcases h2 with hn | ⟨g, cap, cur, rfl, hg, hh, rest⟩
    · exact .inl hn
    · refine .inr ⟨g, cap, cur, rfl, hg, ?_, rest⟩
      rw [k.block g (Array.getElem?_eq_some_iff.1 hh).1 (hap g rfl)]; exact hh
  · obtain ⟨n, ao, l, c, t, a0, a1, a2, a3, q⟩ := h3 j hj
    exact ⟨n, ao, l, c, t, a0, a1, a2, a3, q.grown k hrow hne⟩
theorem XO.lt {base : Nat} {ti te : TypeId} {w : World} {v : Value} {L : List (Int × Dy)} (h : XO base ti te w v L) (b : Nat) (hb : v.ownBlock = some b) : b < w.heap.size := (h.elem b hb).1.lt
/-- four ends in a row, made -/
theorem XL.made4 {ti te : TypeId} {w : World} {A B C D : Int × Dy} {n1 n2 n3 n4 : Bool} {a1 a2 a3 a4 : Option Addr} {l1 l2 l3 l4 c1 c2 c3 c4 : Nat} {t1 t2 t3 t4 : Int}
    (q1 : QD ti w A.2 6000 5900 (.agg #[.bool n1, .slice a1 l1 c1, .int .i64 t1])) (q2 : QD ti w B.2 6000 5900 (.agg #[.bool n2, .slice a2 l2 c2, .int .i64 t2])) (q3 : QD ti w C.2 6000 5900 (.agg #[.bool n3, .slice a3 l3 c3, .int .i64 t3])) (q4 : QD ti w D.2 6000 5900 (.agg #[.bool n4, .slice a4 l4 c4, .int .i64 t4])) :
    XL ti (w.alloc (.cells #[.bool n1, .slice a1 l1 c1, .int .i64 t1, .int .i64 A.1, .bool n2, .slice a2 l2 c2, .int .i64 t2, .int .i64 B.1, .bool n3, .slice a3 l3 c3, .int .i64 t3, .int .i64 C.1, .bool n4, .slice a4 l4 c4, .int .i64 t4, .int .i64 D.1] te)) w.heap.size [A, B, C, D] := by
  intro j hj
  have hj : j < 4 := hj
  rcases (show j = 0 ∨ j = 1 ∨ j = 2 ∨ j = 3 by omega) with e | e | e | e <;> subst e
  · refine ⟨n1, a1, l1, c1, t1, ?_, ?_, ?_, ?_, q1.below (below_alloc _ _)⟩ <;> (rw [World.cell?_alloc_at (hn := rfl)]; rfl)
  · refine ⟨n2, a2, l2, c2, t2, ?_, ?_, ?_, ?_, q2.below (below_alloc _ _)⟩ <;> (rw [World.cell?_alloc_at (hn := rfl)]; rfl)
  · refine ⟨n3, a3, l3, c3, t3, ?_, ?_, ?_, ?_, q3.below (below_alloc _ _)⟩ <;> (rw [World.cell?_alloc_at (hn := rfl)]; rfl)
  · refine ⟨n4, a4, l4, c4, t4, ?_, ?_, ?_, ?_, q4.below (below_alloc _ _)⟩ <;> (rw [World.cell?_alloc_at (hn := rfl)]; rfl)
def Fact.xl (ti : TypeId) (L : List (Int × Dy)) : Fact := ⟨fun v w => ∃ g cap, v = .slice (some ⟨g, 0, none⟩) L.length cap ∧ XL ti w g L, fun _ _ _ h hb => by obtain ⟨g, c, h1, h2⟩ := h; exact ⟨g, c, h1, h2.below hb⟩⟩
/-- two ends handed back -/
def XX (ti : TypeId) (w : World) (A B : Int × Dy) (v : Value) : Prop := ∃ r s, v = .tuple #[r, s] ∧ EX ti w A.1 A.2 6000 r ∧ EX ti w B.1 B.2 6000 s
def Fact.xx (ti : TypeId) (A B : Int × Dy) : Fact := ⟨fun v w => XX ti w A B v, fun _ _ _ h hb => by obtain ⟨r, s, h1, h2, h3⟩ := h; exact ⟨r, s, h1, h2.below hb, h3.below hb⟩⟩
theorem MX.puts {ti te : TypeId} {w : World} {g1 g2 g3 g4 : Nat} {X Y Z V : Int × Dy} {n1 n2 n3 n4 : Bool} {a1 a2 a3 a4 : Option Addr} {l1 l2 l3 l4 c1 c2 c3 c4 : Nat} {t1 t2 t3 t4 : Int} (hne : te ≠ ti)
    (z1 : E0 te w g1) (z2 : E0 te w g2) (z3 : E0 te w g3) (z4 : E0 te w g4) (d12 : g1 ≠ g2) (d13 : g1 ≠ g3) (d14 : g1 ≠ g4) (d23 : g2 ≠ g3) (d24 : g2 ≠ g4) (d34 : g3 ≠ g4)
    (q1 : QD ti w X.2 1200 1100 (.agg #[.bool n1, .slice a1 l1 c1, .int .i64 t1])) (q2 : QD ti w Y.2 1200 1100 (.agg #[.bool n2, .slice a2 l2 c2, .int .i64 t2])) (q3 : QD ti w Z.2 1200 1100 (.agg #[.bool n3, .slice a3 l3 c3, .int .i64 t3])) (q4 : QD ti w V.2 1200 1100 (.agg #[.bool n4, .slice a4 l4 c4, .int .i64 t4])) :
    MX ti te (put4 (put4 (put4 (put4 w g1 (.bool n1) (.slice a1 l1 c1) (.int .i64 t1) (.int .i64 X.1)) g2 (.bool n2) (.slice a2 l2 c2) (.int .i64 t2) (.int .i64 Y.1)) g3 (.bool n3) (.slice a3 l3 c3) (.int .i64 t3) (.int .i64 Z.1)) g4 (.bool n4) (.slice a4 l4 c4) (.int .i64 t4) (.int .i64 V.1)) g1 g2 g3 g4 X Y Z V := by
  have el : ∀ {W : World} {g : Nat}, E0 te W g → ElemIs W g te := fun h => by obtain ⟨_, _, _, h2⟩ := h; exact h2
  have s1 := el z1
  have z2a := z2.far4 d12.symm (.bool n1) (.slice a1 l1 c1) (.int .i64 t1) (.int .i64 X.1)
  have z3a := z3.far4 d13.symm (.bool n1) (.slice a1 l1 c1) (.int .i64 t1) (.int .i64 X.1)
  have z4a := z4.far4 d14.symm (.bool n1) (.slice a1 l1 c1) (.int .i64 t1) (.int .i64 X.1)
  have s2 := el z2a
  have z3b := z3a.far4 d23.symm (.bool n2) (.slice a2 l2 c2) (.int .i64 t2) (.int .i64 Y.1)
  have z4b := z4a.far4 d24.symm (.bool n2) (.slice a2 l2 c2) (.int .i64 t2) (.int .i64 Y.1)
  have s3 := el z3b
  have z4c := z4b.far4 d34.symm (.bool n3) (.slice a3 l3 c3) (.int .i64 t3) (.int .i64 Z.1)
  have s4 := el z4c
  have x1 : XE ti te (put4 w g1 (.bool n1) (.slice a1 l1 c1) (.int .i64 t1) (.int .i64 X.1)) g1 X.1 X.2 1200 := XE.put z1 hne q1
  have x2 : XE ti te (put4 (put4 w g1 (.bool n1) (.slice a1 l1 c1) (.int .i64 t1) (.int .i64 X.1)) g2 (.bool n2) (.slice a2 l2 c2) (.int .i64 t2) (.int .i64 Y.1)) g2 Y.1 Y.2 1200 := XE.put z2a hne (q2.put4 s1 hne _ _ _ _)
  have x3 : XE ti te (put4 (put4 (put4 w g1 (.bool n1) (.slice a1 l1 c1) (.int .i64 t1) (.int .i64 X.1)) g2 (.bool n2) (.slice a2 l2 c2) (.int .i64 t2) (.int .i64 Y.1)) g3 (.bool n3) (.slice a3 l3 c3) (.int .i64 t3) (.int .i64 Z.1)) g3 Z.1 Z.2 1200 := XE.put z3b hne ((q3.put4 s1 hne _ _ _ _).put4 s2 hne _ _ _ _)
  refine ⟨((x1.far s2 hne d12 _ _ _ _).far s3 hne d13 _ _ _ _).far s4 hne d14 _ _ _ _, (x2.far s3 hne d23 _ _ _ _).far s4 hne d24 _ _ _ _, x3.far s4 hne d34 _ _ _ _, ?_⟩
  exact XE.put z4c hne (((q4.put4 s1 hne _ _ _ _).put4 s2 hne _ _ _ _).put4 s3 hne _ _ _ _)
/-- the four ends' cells -/
theorem MX.parts {ti te : TypeId} {W : World} {gx gy gz gw : Nat} {X Y Z V : Int × Dy} (h : MX ti te W gx gy gz gw X Y Z V) :
    ∃ n1 a1 l1 c1 t1 n2 a2 l2 c2 t2 n3 a3 l3 c3 t3 n4 a4 l4 c4 t4, (XV W gx (.bool n1) (.slice a1 l1 c1) (.int .i64 t1) (.int .i64 X.1) ∧ XV W gy (.bool n2) (.slice a2 l2 c2) (.int .i64 t2) (.int .i64 Y.1) ∧ XV W gz (.bool n3) (.slice a3 l3 c3) (.int .i64 t3) (.int .i64 Z.1) ∧ XV W gw (.bool n4) (.slice a4 l4 c4) (.int .i64 t4) (.int .i64 V.1)) ∧
      EX ti W X.1 X.2 1200 (.agg #[.bool n1, .slice a1 l1 c1, .int .i64 t1, .int .i64 X.1]) ∧ EX ti W Y.1 Y.2 1200 (.agg #[.bool n2, .slice a2 l2 c2, .int .i64 t2, .int .i64 Y.1]) ∧ EX ti W Z.1 Z.2 1200 (.agg #[.bool n3, .slice a3 l3 c3, .int .i64 t3, .int .i64 Z.1]) ∧ EX ti W V.1 V.2 1200 (.agg #[.bool n4, .slice a4 l4 c4, .int .i64 t4, .int .i64 V.1]) := by
  obtain ⟨⟨n1, a1, l1, c1, t1, x0, x1, x2, x3, -, -, -, -, -, q1⟩, ⟨n2, a2, l2, c2, t2, y0, y1, y2, y3, -, -, -, -, -, q2⟩, ⟨n3, a3, l3, c3, t3, z0, z1, z2, z3, -, -, -, -, -, q3⟩, ⟨n4, a4, l4, c4, t4, v0, v1, v2, v3, -, -, -, -, -, q4⟩⟩ := h
  exact ⟨n1, a1, l1, c1, t1, n2, a2, l2, c2, t2, n3, a3, l3, c3, t3, n4, a4, l4, c4, t4, ⟨⟨x0, x1, x2, x3⟩, ⟨y0, y1, y2, y3⟩, ⟨z0, z1, z2, z3⟩, ⟨v0, v1, v2, v3⟩⟩, ⟨_, _, _, _, _, rfl, q1⟩, ⟨_, _, _, _, _, rfl, q2⟩, ⟨_, _, _, _, _, rfl, q3⟩, ⟨_, _, _, _, _, rfl, q4⟩⟩
/-- sums, turned, products of ends -/
def adP (X Z : Int × Dy) : Int × Dy := (addW X.1 Z.1, addE X.1 X.2 Z.1 Z.2)
def tnP (V : Int × Dy) : Int × Dy := (-V.1, negD V.2)
def muP (X Z : Int × Dy) : Int × Dy := (mulW X.1 X.2 Z.1 Z.2, mulE X.1 X.2 Z.1 Z.2)
theorem isN_neg {D : Dy} (h : IsN D) : IsN (negD D) := by
  rcases h with ⟨h1, h2⟩ | h
  · exact .inl ⟨by unfold negD; simp only; omega, h2⟩
  · exact .inr (by unfold negD; simp only; rw [Int.natAbs_neg]; exact h)
theorem adP_ok {X Z : Int × Dy} (hX : XOk X) (hZ : XOk Z) : XOk (adP X Z) := by
  obtain ⟨x1, x2⟩ := hX
  obtain ⟨z1, z2⟩ := hZ
  refine ⟨?_, ?_⟩
  · show addW X.1 Z.1 = 0 ∨ addW X.1 Z.1 = 1 ∨ addW X.1 Z.1 = -1; unfold addW; split; exact x1; exact z1
  · show IsN (addE _ _ _ _); unfold addE; split; exact x2; split; exact z2; exact nrm_isN _ _
theorem tnP_ok {V : Int × Dy} (h : XOk V) : XOk (tnP V) := ⟨by have := h.1; show -V.1 = 0 ∨ -V.1 = 1 ∨ -V.1 = -1; omega, isN_neg h.2⟩
theorem muP_ok {X Z : Int × Dy} (hX : XOk X) (hZ : XOk Z) : XOk (muP X Z) := by
  refine ⟨mulW_ok _ _ _ _ hX.1 hZ.1, ?_⟩
  show IsN (mulE _ _ _ _); unfold mulE; split; exact nrm_isN 0 0; split; exact nrm_isN 0 0; exact nrm_isN _ _
theorem four_ok {A B C D : Int × Dy} (a : XOk A) (b : XOk B) (c : XOk C) (d : XOk D) : XOk (lowF [A, B, C, D] 4) ∧ XOk (highF [A, B, C, D] 4) := by
  have ok : ∀ j, j < [A, B, C, D].length → XOk ([A, B, C, D].getD j (0, (0, 0))) := fun j hj => by
    have hj : j < 4 := hj
    rcases (show j = 0 ∨ j = 1 ∨ j = 2 ∨ j = 3 by omega) with e | e | e | e <;> subst e
    · exact a
    · exact b
    · exact c
    · exact d
  exact ⟨lowF_ok _ (by simp) ok 4 (by simp), highF_ok _ (by simp) ok 4 (by simp)⟩
theorem two_eq {a b c d : Int} (h : (#[.int .u64 a, .int .u64 b] : Array Value) = #[.int .u64 c, .int .u64 d]) : a = c ∧ b = d := by
  simp at h; exact h
theorem XO.kept {base : Nat} {ti te : TypeId} {w w' : World} {v : Value} {L : List (Int × Dy)} (h : XO base ti te w v L) (k : w.grownBy w' v.ownBlock) (hs : base ≤ w.heap.size) : Below base w w' :=
  ⟨k.os, k.tape, k.output, k.size, fun b hb => k.block b (by omega) (fun e => by have := (h.elem b e.symm).2; omega)⟩
/-- the two rows -/
def RS (ti te : TypeId) (W wr : World) (v u : Value) (L M : List (Int × Dy)) : Prop :=
  Below W.heap.size W wr ∧ XO W.heap.size ti te wr v L ∧ XO W.heap.size ti te wr u M ∧ (∀ b, v.ownBlock = some b → u.ownBlock ≠ some b)
theorem RS.below {ti te : TypeId} {W wr w' : World} {v u : Value} {L M : List (Int × Dy)} (h : RS ti te W wr v u L M) (hb : Below wr.heap.size wr w') : RS ti te W w' v u L M := ⟨below_trans h.1 hb, h.2.1.below hb, h.2.2.1.below hb, h.2.2.2⟩
/-- the rows, a variable and a row of two beside them -/
def RI (ti te : TypeId) (W wr : World) (gu gv : Nat) (U Z V : Int × Dy) (v u : Value) (L M : List (Int × Dy)) : Prop :=
  RS ti te W wr v u L M ∧ XE ti te wr gu U.1 U.2 1200 ∧ XR ti wr gv Z V ∧ (∀ b, v.ownBlock = some b → b ≠ gu ∧ b ≠ gv) ∧ (∀ b, u.ownBlock = some b → b ≠ gu ∧ b ≠ gv)
theorem RI.below {ti te : TypeId} {W wr w' : World} {gu gv : Nat} {U Z V : Int × Dy} {v u : Value} {L M : List (Int × Dy)} (h : RI ti te W wr gu gv U Z V v u L M) (hb : Below wr.heap.size wr w') : RI ti te W w' gu gv U Z V v u L M :=
  ⟨h.1.below hb, h.2.1.below hb, h.2.2.1.below hb, h.2.2.2.1, h.2.2.2.2⟩
theorem RI.first {ti te : TypeId} {W wr w' : World} {gu gv : Nat} {U Z V a : Int × Dy} {v u v' : Value} {L M : List (Int × Dy)} (h : RI ti te W wr gu gv U Z V v u L M) (hne : te ≠ ti) (x : XO W.heap.size ti te w' v' (L ++ [a])) (k : wr.grownBy w' v.ownBlock) (o : v'.ownBlock = v.ownBlock ∨ v'.ownBlock = some wr.heap.size) :
    RI ti te W w' gu gv U Z V v' u (L ++ [a]) M := by
  obtain ⟨⟨h1, h2, h3, h4⟩, h5, h6, h7, h8⟩ := h
  have hrow : ∀ b, v.ownBlock = some b → ElemIs wr b te := fun b hb => (h2.elem b hb).1
  have sz := h1.size
  refine ⟨⟨h1.trans (h2.kept k h1.size), x, h3.grown k hrow hne (fun b hb e => h4 b e.symm hb), fun b hb => ?_⟩, h5.grown k hrow hne (fun e => (h7 gu e.symm).1 rfl), h6.grown k hrow hne (fun e => (h7 gv e.symm).2 rfl), fun b hb => ?_, h8⟩
  · rcases o with e | e
    · exact h4 b (e ▸ hb)
    · rw [e] at hb
      intro hu
      have := h3.lt b hu
      injection hb with hb; omega
  · rcases o with e | e
    · exact h7 b (e ▸ hb)
    · rw [e] at hb
      injection hb with hb
      have a1 := h5.lt
      have a2 := h6.lt
      omega
theorem RI.second {ti te : TypeId} {W wr w' : World} {gu gv : Nat} {U Z V a : Int × Dy} {v u u' : Value} {L M : List (Int × Dy)} (h : RI ti te W wr gu gv U Z V v u L M) (hne : te ≠ ti) (x : XO W.heap.size ti te w' u' (M ++ [a])) (k : wr.grownBy w' u.ownBlock) (o : u'.ownBlock = u.ownBlock ∨ u'.ownBlock = some wr.heap.size) :
    RI ti te W w' gu gv U Z V v u' L (M ++ [a]) := by
  obtain ⟨⟨h1, h2, h3, h4⟩, h5, h6, h7, h8⟩ := h
  have hrow : ∀ b, u.ownBlock = some b → ElemIs wr b te := fun b hb => (h3.elem b hb).1
  have sz := h1.size
  refine ⟨⟨h1.trans (h3.kept k h1.size), h2.grown k hrow hne (fun b hb e => h4 b hb e.symm), x, fun b hb => ?_⟩, h5.grown k hrow hne (fun e => (h8 gu e.symm).1 rfl), h6.grown k hrow hne (fun e => (h8 gv e.symm).2 rfl), h7, fun b hb => ?_⟩
  · rcases o with e | e
    · rw [e]; exact h4 b hb
    · rw [e]
      intro hu
      have := h2.lt b hb
      injection hu with hu; omega
  · rcases o with e | e
    · exact h8 b (e ▸ hb)
    · rw [e] at hb
      injection hb with hb
      have a1 := h5.lt
      have a2 := h6.lt
      omega
/-- an end of a row of two -/
theorem XR.at {ti : TypeId} {w : World} {g : Nat} {X Y : Int × Dy} (h : XR ti w g X Y) (k : Nat) (hk : k < 2) (U : Int × Dy) (hU : U = if k = 0 then X else Y) :
    ∃ n ao l c t, w.cell? ⟨g, k * 4, none⟩ = some (.bool n) ∧ w.cell? ⟨g, k * 4 + 1, none⟩ = some (.slice ao l c) ∧ w.cell? ⟨g, k * 4 + 2, none⟩ = some (.int .i64 t) ∧ w.cell? ⟨g, k * 4 + 3, none⟩ = some (.int .i64 U.1) ∧ QD ti w U.2 1200 1100 (.agg #[.bool n, .slice ao l c, .int .i64 t]) := by
  obtain ⟨n, ao, l, c, t, n', ao', l', c', t', h0, h1, h2, h3, h4, h5, h6, h7, q, q'⟩ := h
  rcases (show k = 0 ∨ k = 1 by omega) with e | e <;> subst e
  · rw [if_pos rfl] at hU; subst hU
    exact ⟨n, ao, l, c, t, h0, h1, h2, h3, q⟩
  · rw [if_neg (by decide)] at hU; subst hU
    exact ⟨n', ao', l', c', t', h4, h5, h6, h7, q'⟩
/-- the row of four, one more -/
theorem row_step (A B C D : Int × Dy) (j k : Nat) (hj : j < 2) (hk : k < 2) (r : Int × Dy) (hr : r = if j = 0 then (if k = 0 then A else B) else (if k = 0 then C else D)) : [A, B, C, D].take (2 * j + (k + 1)) = [A, B, C, D].take (2 * j + k) ++ [r] := by
  rcases (show j = 0 ∨ j = 1 by omega) with e | e <;> subst e <;> rcases (show k = 0 ∨ k = 1 by omega) with e | e <;> subst e <;> subst hr <;> rfl
/-- what the quotient asks of an end -/
theorem exP_small (x : Nat) (hx : x < 18446744073709551616) : (exP (x : Int)).2.1.natAbs < 2 ^ 53 ∧ -1074 ≤ (exP (x : Int)).2.2 ∧ (exP (x : Int)).2.2 ≤ 1024 := by
  show (exD (x : Int)).1.natAbs < 2 ^ 53 ∧ -1074 ≤ (exD (x : Int)).2 ∧ (exD (x : Int)).2 ≤ 1024
  unfold exD
  split
  · exact (fv_bd (x : Int) (by omega) (by omega)).2
  · exact ⟨by decide, by decide, by decide⟩
theorem exP_nz (x : Nat) (hx : x < 18446744073709551616) (hc : classOf (x : Int) ≠ 1) : (exP (x : Int)).1 = 0 → (exP (x : Int)).2.1 ≠ 0 := by
  intro h
  have hv : valB (x : Int) = true := by
    cases hv : valB (x : Int)
    · exfalso
      have : exW (x : Int) = 0 := h
      unfold exW at this
      rw [hv, if_neg (by decide)] at this
      split at this <;> omega
    · rfl
  show (exD (x : Int)).1 ≠ 0
  unfold exD
  rw [hv, if_pos rfl]
  exact fv_nz (x : Int) (by omega) (by omega) (of_decide_eq_true hv) hc
end Go.Ulp
namespace Go.Proofs.YtfphmlmgjhebjaaGreatDoor
open Go.RowKit Go.Ulp
set_option linter.unusedVariables false
set_option linter.unusedSimpArgs false
theorem addP_any (X Z : Int × Dy) (W : World) (v u : Value) (a : EX 3 W X.1 X.2 1200 v) (b : EX 3 W Z.1 Z.2 1200 u) :
    Calls Tryz.prog 17 #[v, u] W fun e w' => ∃ r, e = .returned r ∧ EX 3 w' (adP X Z).1 (adP X Z).2 6000 r ∧ Below W.heap.size W w' := extAdd_any v u X.1 Z.1 X.2 Z.2 W a b
theorem mulP_any (X Z : Int × Dy) (hX : XOk X) (hZ : XOk Z) (W : World) (v u : Value) (a : EX 3 W X.1 X.2 1200 v) (b : EX 3 W Z.1 Z.2 1200 u) :
    Calls Tryz.prog 19 #[v, u] W fun e w' => ∃ r, e = .returned r ∧ EX 3 w' (muP X Z).1 (muP X Z).2 6000 r ∧ Below W.heap.size W w' := extMul_any v u X.1 Z.1 X.2 Z.2 W a b hX.1 hZ.1
theorem turnP_any (V : Int × Dy) (hV : XOk V) (W : World) (v : Value) (a : EX 3 W V.1 V.2 1200 v) :
    Calls Tryz.prog 13 #[v] W fun e w' => ∃ r, e = .returned r ∧ EX 3 w' (tnP V).1 (tnP V).2 1200 r ∧ Below W.heap.size W w' := turned_any v V.1 V.2 W a hV.1
theorem outP_any (A B : Int × Dy) (hA : XOk A) (hB : XOk B) (s t : Int) (es : s = outX A.1 A.2 2) (et : t = outX B.1 B.2 1) (W : World) (v u : Value) (a : EX 3 W A.1 A.2 6000 v) (b : EX 3 W B.1 B.2 6000 u) :
    Calls Tryz.prog 15 #[v, u] W fun e w' => e = .returned (.agg #[.int .u64 s, .int .u64 t]) ∧ Below W.heap.size W w' := by
  rw [es, et]; exact outC_any v u A.1 B.1 A.2 B.2 W a b hA.1 hB.1 hA.2 hB.2
theorem far4_any (A B C D : Int × Dy) (g cap : Nat) (W : World) (h : XL 3 W g [A, B, C, D]) :
    Calls Tryz.prog 18 #[.slice (some ⟨g, 0, none⟩) 4 cap] W fun e w' => ∃ r s, e = .returned (.tuple #[r, s]) ∧ EX 3 w' (lowF [A, B, C, D] 4).1 (lowF [A, B, C, D] 4).2 6000 r ∧ EX 3 w' (highF [A, B, C, D] 4).1 (highF [A, B, C, D] 4).2 6000 s ∧ Below W.heap.size W w' :=
  furthest_any [A, B, C, D] g cap W h (by simp) (by simp)
end Go.Proofs.YtfphmlmgjhebjaaGreatDoor
