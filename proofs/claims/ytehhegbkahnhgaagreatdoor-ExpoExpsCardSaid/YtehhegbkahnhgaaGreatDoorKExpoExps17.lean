/- ExpoExps: what the proof leans on, part 17 (Gp6 Gp7 Gp8 Gp9 Gp10 Gp11). -/
import Derived.Test.YtehhegbkahnhgaaGreatDoorKExpoExps16
set_option linter.unusedVariables false
set_option linter.unusedSimpArgs false
namespace Go.Ulp
theorem hfP_le {x:PP} (n:Nat) (h:x.1≤x.2):(hfP x n).1≤(hfP x n).2:=by
 show x.1/2^n≤cdiv x.2 (2^n)
 have a:=cdiv_ge x.2 (2^n) (Nat.two_pow_pos n)
 exact Nat.div_le_of_le_mul (by rw [Nat.mul_comm];omega)
theorem tmP_le {x y:PP} (p:Nat) (h:x.1≤x.2) (k:y.1≤y.2):(tmP x y p).1≤(tmP x y p).2:=hfP_le p (Nat.mul_le_mul h k)
theorem ovP_le {x:PP} (n:Nat) (hn:0<n) (h:x.1≤x.2):(ovP x n).1≤(ovP x n).2:=by
 show x.1/n≤cdiv x.2 n
 have a:=cdiv_ge x.2 n hn
 exact Nat.div_le_of_le_mul (by rw [Nat.mul_comm];omega)
theorem grT_le {t:PP} (p:Nat) (h:t.1≤t.2): ∀i,(grT t p i).1≤(grT t p i).2
 |0=>Nat.le_refl _
 |i+1=>ovP_le _ (by omega) (tmP_le p (grT_le p h i) h)
theorem grS_le {t:PP} (p:Nat) (h:t.1≤t.2): ∀i,(geS t p i).1≤(geS t p i).2
 |0=>Nat.le_refl _
 |i+1=>Nat.add_le_add (grS_le p h i) (grT_le p h (i+1))
theorem sqP_le {x:PP} (p:Nat) (h:x.1≤x.2): ∀i,(sqP x p i).1≤(sqP x p i).2
 |0=>h
 |i+1=>tmP_le p (sqP_le p h i) (sqP_le p h i)
theorem grT_half {t:PP} {p:Nat} (hp:1≤p) (ht:t.2≤2^(p-1)) (i k:Nat) (h:(grT t p i).2≤2^(k+1)):(grT t p (i+1)).2≤2^k:=by
 show cdiv (cdiv ((grT t p i).2*t.2) (2^p)) (i+1)≤_
 refine Nat.le_trans (cdiv_self_le _ _ (by omega)) (cdiv_le (Nat.two_pow_pos p) ?_)
 refine Nat.le_trans (Nat.mul_le_mul h ht) ?_
 rw [←Nat.pow_add,←Nat.pow_add]
 exact Nat.pow_le_pow_right (by omega) (by omega)
theorem grT_hi {t:PP} {p:Nat} (hp:1≤p) (ht:t.2≤2^(p-1)): ∀i,i≤p→(grT t p i).2≤2^(p-i)
 |0,_=>Nat.le_refl _
 |i+1,h=>by
  have ih:=grT_hi hp ht i (by omega)
  rw [show p-i=p-(i+1)+1 by omega] at ih
  exact grT_half hp ht i _ ih
theorem grT_top {t:PP} {p:Nat} (hp:1≤p) (ht:t.2≤2^(p-1)) (i:Nat):(grT t p i).2≤2^p:=by
 induction i with
 |zero=>exact Nat.le_refl _
 |succ i ih=>
  have:(grT t p (i+1)).2≤(grT t p i).2:=by
   show cdiv (cdiv ((grT t p i).2*t.2) (2^p)) (i+1)≤_
   refine Nat.le_trans (cdiv_self_le _ _ (by omega)) (cdiv_le (Nat.two_pow_pos p) (Nat.mul_le_mul_left _ ?_))
   exact Nat.le_trans ht (Nat.pow_le_pow_right (by omega) (by omega))
  omega
theorem gr_end {t:PP} {p:Nat} (hp:1≤p) (ht:t.2≤2^(p-1)): ∃n,n≤p∧(grT t p n).2≤1∧ ∀i,i<n→ ¬(grT t p i).2≤1:=by
 have h:=grT_hi hp ht p (Nat.le_refl _)
 rw [Nat.sub_self] at h
 have key: ∀k,k≤p→(∃n,n<k∧(grT t p n).2≤1∧ ∀i,i<n→ ¬(grT t p i).2≤1)∨ ∀i,i<k→ ¬(grT t p i).2≤1:=by
  intro k
  induction k with
  |zero=>intro _;exact .inr (fun i hi=>absurd hi (Nat.not_lt_zero i))
  |succ k ih=>
   intro hk
   rcases ih (by omega) with ⟨n,a,b,c⟩|h1
   ·exact .inl ⟨n,by omega,b,c⟩
   ·by_cases e:(grT t p k).2≤1
    ·exact .inl ⟨k,by omega,e,h1⟩
    ·exact .inr (fun i hi=>by
      by_cases e2:i=k
      ·rw [e2];exact e
      ·exact h1 i (by omega))
 rcases key p (Nat.le_refl _) with ⟨n,a,b,c⟩|h1
 ·exact ⟨n,by omega,b,c⟩
 ·exact ⟨p,Nat.le_refl _,h,h1⟩
theorem grT_wd {t:PP} {p:Nat} (hp:4≤p) (h01:t.1≤t.2) (ht1:t.2≤t.1+1) (ht:t.2≤2^(p-2)): ∀i,(grT t p i).2≤(grT t p i).1+6
 |0=>by show 2^p≤2^p+6;omega
 |i+1=>by
  have ih:=grT_wd hp h01 ht1 ht i
  have hle:=grT_le p h01 i
  have htop:=grT_top (t:=t) (show 1≤p by omega) (Nat.le_trans ht (Nat.pow_le_pow_right (by omega) (by omega))) i
  show cdiv (cdiv ((grT t p i).2*t.2) (2^p)) (i+1)≤(grT t p i).1*t.1/2^p/(i+1)+6
  have e4:2^p=4*2^(p-2):=by
   conv=>lhs;rw [show p=p-2+2 by omega]
   rw [Nat.pow_add];omega
  have h4:4≤2^(p-2):=Nat.pow_le_pow_right (show 0<2 by omega) (show 2≤p-2 by omega)
  generalize (grT t p i).1=l at *
  generalize (grT t p i).2=h at *
  have hpp:=Nat.two_pow_pos p
  have m1:h*t.2≤l*t.1+3*2^p:=by
   have a:=Nat.mul_le_mul ih ht1
   have b:(l+6)*(t.1+1)=l*t.1+l+(6*t.1+6):=by rw [Nat.add_mul,Nat.mul_add];omega
   omega
  have hd:=Nat.div_add_mod (l*t.1) (2^p)
  have hm:=Nat.mod_lt (l*t.1) hpp
  have H:cdiv (h*t.2) (2^p)≤l*t.1/2^p+4:=by
   refine cdiv_le hpp ?_
   rw [Nat.add_mul,Nat.mul_comm (l*t.1/2^p)]
   omega
  generalize cdiv (h*t.2) (2^p)=X at *
  generalize l*t.1/2^p=Y at *
  refine cdiv_le (by omega) ?_
  have hd2:=Nat.div_add_mod Y (i+1)
  have hm2:=Nat.mod_lt Y (show 0<i+1 by omega)
  rw [Nat.add_mul,Nat.mul_comm (Y/(i+1))]
  omega
theorem grS_wd {t:PP} {p:Nat} (hp:4≤p) (h01:t.1≤t.2) (ht1:t.2≤t.1+1) (ht:t.2≤2^(p-2)): ∀i,(geS t p i).2≤(geS t p i).1+6*(i+1)
 |0=>by show 2^p≤2^p+_;omega
 |i+1=>by
  have ih:=grS_wd hp h01 ht1 ht i
  have a:=grT_wd hp h01 ht1 ht (i+1)
  show (geS t p i).2+(grT t p (i+1)).2≤(geS t p i).1+(grT t p (i+1)).1+_
  omega
theorem grS_top {t:PP} {p:Nat} (hp:1≤p) (ht:t.2≤2^(p-1)): ∀n,n≤p→(geS t p n).2+2^(p-n)≤2^(p+1)
 |0,_=>by
  show 2^p+2^(p-0)≤_
  rw [Nat.sub_zero,Nat.pow_succ];omega
 |n+1,h=>by
  have ih:=grS_top hp ht n (by omega)
  have a:=grT_hi hp ht (n+1) h
  have e:2^(p-n)=2^(p-(n+1))*2:=by rw [←Nat.pow_succ];congr 1;omega
  show (geS t p n).2+(grT t p (n+1)).2+_≤_
  omega
theorem grS_low {t:PP} {p:Nat}: ∀n,2^p≤(geS t p n).1
 |0=>Nat.le_refl _
 |n+1=>Nat.le_trans (grS_low n) (Nat.le_add_right _ _)
theorem sqP_low {x:PP} {p:Nat} (h:2^p≤x.1): ∀j,2^p≤(sqP x p j).1
 |0=>h
 |j+1=>by
  have ih:=sqP_low h j
  show 2^p≤(sqP x p j).1*(sqP x p j).1/2^p
  rw [Nat.le_div_iff_mul_le (Nat.two_pow_pos p)]
  exact Nat.mul_le_mul ih ih
theorem sq_top {x:PP} {p:Nat} (h:x.2≤2^(p+2)): ∀j,(sqP x p j).2≤2^(p+(3*2^j-1))
 |0=>h
 |j+1=>by
  have ih:=sq_top h j
  have h2:=Nat.two_pow_pos j
  show cdiv ((sqP x p j).2*(sqP x p j).2) (2^p)≤_
  refine cdiv_le (Nat.two_pow_pos p) (Nat.le_trans (Nat.mul_le_mul ih ih) ?_)
  rw [←Nat.pow_add,←Nat.pow_add]
  refine Nat.pow_le_pow_right (by omega) ?_
  rw [Nat.pow_succ];omega
theorem sq_step (l h w p C:Nat) (hlh:l≤h) (hw:h≤l+w) (hC:h≤2^(p+C)):cdiv (h*h) (2^p)≤l*l/2^p+(1+w*2^(C+1)):=by
 have hpp:=Nat.two_pow_pos p
 have hd:=Nat.div_add_mod (l*l) (2^p)
 have hm:=Nat.mod_lt (l*l) hpp
 refine cdiv_le hpp ?_
 have a:h*h≤l*l+w*(2*2^(p+C)):=by
  obtain ⟨d,rfl⟩: ∃d,h=l+d:=⟨h-l,by omega⟩
  have b:(l+d)*(l+d)=l*l+d*(2*l+d):=by
   rw [Nat.mul_add,Nat.add_mul,Nat.add_mul,Nat.mul_add,Nat.mul_comm d l,←Nat.mul_assoc d 2,Nat.mul_comm d 2,Nat.mul_assoc 2 d l,Nat.mul_comm d l];omega
  rw [b]
  exact Nat.add_le_add_left (Nat.mul_le_mul (by omega) (by omega)) _
 have e:w*(2*2^(p+C))=w*2^(C+1)*2^p:=by
  rw [Nat.mul_assoc,←Nat.pow_add,←Nat.pow_succ']
  congr 2;omega
 rw [e] at a
 rw [Nat.add_mul,Nat.add_mul,Nat.mul_comm (l*l/2^p),Nat.one_mul]
 omega
theorem sq_wd {x:PP} {p:Nat} (C A:Nat) (h01:x.1≤x.2) (hA:x.2≤x.1+2^A) (s:Nat) (hp:A+(C+2)*s≤p) (hl: ∀j,j≤s→(sqP x p j).1≤2^(p+C-1)) (hC:1≤C):
 ∀j,j≤s→(sqP x p j).2≤(sqP x p j).1+2^(A+(C+2)*j)
 |0,_=>hA
 |j+1,hj=>by
  have ih:=sq_wd C A h01 hA s hp hl hC j (by omega)
  have le:=sqP_le p h01 j
  have l1:=hl j (by omega)
  have hAj:A+(C+2)*j≤p:=Nat.le_trans (Nat.add_le_add_left (Nat.mul_le_mul_left _ (by omega)) _) hp
  have w1:2^(A+(C+2)*j)≤2^(p+C-1):=Nat.pow_le_pow_right (by omega) (by omega)
  have hC2:(sqP x p j).2≤2^(p+C):=by
   have e:2^(p+C)=2^(p+C-1)*2:=by rw [←Nat.pow_succ];congr 1;omega
   omega
  have h:=sq_step _ _ _ p C le ih hC2
  show cdiv ((sqP x p j).2*(sqP x p j).2) (2^p)≤(sqP x p j).1*(sqP x p j).1/2^p+_
  refine Nat.le_trans h (Nat.add_le_add_left ?_ _)
  have e1:2^(A+(C+2)*j)*2^(C+1)=2^(A+(C+2)*j+(C+1)):=(Nat.pow_add _ _ _).symm
  have e2:2^(A+(C+2)*(j+1))=2^(A+(C+2)*j+(C+1))*2:=by
   rw [←Nat.pow_succ];congr 1;rw [Nat.mul_succ];omega
  have e3:=Nat.two_pow_pos (A+(C+2)*j+(C+1))
  rw [e1,e2];omega
def NoFr (g pl:Nat) (y:Rat):Prop:= ∀(c d:Nat) (r:Rat),(d:Rat)*r=(c:Rat)→0<d→(d=2^pl∨(c=2^pl∧d≤2^pl+2))→ ∀S0,(∀T,S0≤T→ -1≤(2:Rat)^g*(EE y T-r)∧(2:Rat)^g*(EE y T-r)≤1)→False
theorem EE_ge_one {y:Rat} (hy:0≤y) {T:Nat} (h:1≤T):1≤EE y T:=by
 have a:=EE_le y hy h
 have e1:EE y 1=1:=by unfold EE;simp only [sumQ,ep];grind
 grind
def InD (D:Nat) (y:Rat) (x:PP):Prop:=(∃T,(x.1:Rat)≤(D:Rat)*EE y T)∧ ∀T,(D:Rat)*EE y T≤(x.2:Rat)
theorem InE.sc {p:Nat} {y:Rat} {x:PP} (h:InE p y x):InD (2^p) y x:=by
 unfold InD;rw [two_cast];exact h
theorem InD.low {D:Nat} {y:Rat} {x:PP} (hy:0≤y) (h:InD D y x): ∃T0,∀T,T0≤T→(x.1:Rat)≤(D:Rat)*EE y T∧(D:Rat)*EE y T≤(x.2:Rat):=by
 obtain ⟨⟨T0,a⟩,b⟩:=h
 refine ⟨T0,fun T hT=>⟨?_,b T⟩⟩
 have:=Rat.mul_le_mul_of_nonneg_left (EE_le y hy hT) (show (0:Rat)≤D from Rat.natCast_nonneg)
 grind
theorem div_lt_succ (a b:Nat) (hb:0<b):a<(a/b+1)*b:=by
 have h:=Nat.div_add_mod a b
 have k:=Nat.mod_lt a hb
 rw [Nat.mul_comm] at h
 rw [Nat.add_mul];omega
theorem sep_pos {D g pl:Nat} (hD:0<D) {y:Rat} {x:PP} (hy:0≤y) (hN:NoFr g pl y) (h:InD D y x) (h01:x.1≤x.2) (W:Nat) (hW:x.2≤x.1+2^W) (hp:2^(W+g)≤D):x.1*2^pl/D=x.2*2^pl/D:=by
 apply Classical.byContradiction
 intro hne
 have mono:x.1*2^pl/D≤x.2*2^pl/D:=Nat.div_le_div_right (Nat.mul_le_mul_right _ h01)
 obtain ⟨c,hc⟩: ∃c,c=x.1*2^pl/D+1:=⟨_,rfl⟩
 have c1:x.1*2^pl<c*D:=by rw [hc];exact div_lt_succ _ _ hD
 have c2:c*D≤x.2*2^pl:=Nat.le_trans (Nat.mul_le_mul_right _ (show c≤x.2*2^pl/D by omega)) (Nat.div_mul_le_self _ _)
 have P:(0:Rat)<(D:Rat):=Rat.natCast_pos.2 hD
 have L:=pow2_pos pl
 obtain ⟨r,hr⟩: ∃r:Rat,r=(c:Rat)/2^pl:=⟨_,rfl⟩
 have hr2:(2:Rat)^pl*r=(c:Rat):=by rw [hr];grind
 obtain ⟨T0,hT0⟩:=h.low hy
 refine hN c (2^pl) r (by rw [two_cast];exact hr2) (Nat.two_pow_pos pl) (.inl rfl) T0 (fun T hT=>?_)
 obtain ⟨a,b⟩:=hT0 T hT
 have d1:=Rat.natCast_lt_natCast.2 c1
 have d2:=natle c2
 have w:=natle hW
 rw [cast_mul,cast_mul,two_cast] at d1
 rw [cast_mul,cast_mul,two_cast] at d2
 rw [Rat.natCast_add,two_cast] at w
 rw [←hr2] at d1 d2
 have f1:(x.1:Rat)<D*r:=Rat.lt_of_mul_lt_mul_left (show (2:Rat)^pl*(x.1:Rat)<2^pl*(D*r) by grind) (by grind)
 have f2:D*r≤(x.2:Rat):=Rat.le_of_mul_le_mul_left (show (2:Rat)^pl*(D*r)≤2^pl*(x.2:Rat) by grind) L
 have q:(2:Rat)^g*2^W≤(D:Rat):=by
  have:=natle hp
  rw [Nat.add_comm,Nat.pow_add,cast_mul,two_cast,two_cast] at this
  exact this
 have Gp:=pow2_pos g
 have k1:=Rat.mul_le_mul_of_nonneg_left (show (x.2:Rat)-(x.1:Rat)≤2^W by grind) (show (0:Rat)≤2^g by grind)
 have k2:=Rat.mul_le_mul_of_nonneg_left (show (D:Rat)*EE y T-D*r≤(x.2:Rat)-(x.1:Rat) by grind) (show (0:Rat)≤2^g by grind)
 have k3:=Rat.mul_le_mul_of_nonneg_left (show (D:Rat)*r-D*EE y T≤(x.2:Rat)-(x.1:Rat) by grind) (show (0:Rat)≤2^g by grind)
 constructor
 ·apply Rat.le_of_mul_le_mul_left _ P
  grind
 ·apply Rat.le_of_mul_le_mul_left _ P
  grind
theorem sep_neg {D g pl:Nat} (hD:0<D) {y:Rat} {x:PP} (hy:0≤y) (hN:NoFr g pl y) (h:InD D y x) (h01:x.1≤x.2) (W C:Nat) (hW:x.2≤x.1+2^W) (hlow:D≤x.1) (hC:x.2≤D*2^C) (hp:2^(W+2*C+4+g)≤D) (hplp:2^pl≤D):
 D*D/x.2*2^pl/D=(D*D/x.1+1)*2^pl/D:=by
 apply Classical.byContradiction
 intro hne
 have hpp:=hD
 have hx1:0<x.1:=Nat.lt_of_lt_of_le hpp hlow
 have hx2:0<x.2:=Nat.lt_of_lt_of_le hx1 h01
 have dmono:D*D/x.2≤D*D/x.1+1:=Nat.le_trans (Nat.div_le_div_left h01 hx1) (Nat.le_succ _)
 have mono:D*D/x.2*2^pl/D≤(D*D/x.1+1)*2^pl/D:=Nat.div_le_div_right (Nat.mul_le_mul_right _ dmono)
 obtain ⟨c,hc⟩: ∃c,c=D*D/x.2*2^pl/D+1:=⟨_,rfl⟩
 have hc0:0<c:=by rw [hc];exact Nat.succ_pos _
 have c1:D*D/x.2*2^pl<c*D:=by rw [hc];exact div_lt_succ _ _ hD
 have hcle:c≤(D*D/x.1+1)*2^pl/D:=by rw [hc];exact Nat.lt_of_le_of_ne mono hne
 have c2:c*D≤(D*D/x.1+1)*2^pl:=Nat.le_trans (Nat.mul_le_mul_right _ hcle) (Nat.div_mul_le_self _ _)
 clear hne mono dmono hcle hc
 have hcd:c≤2^pl+2:=by
  have a:D*D/x.1≤D:=by
   exact Nat.div_le_of_le_mul (Nat.mul_le_mul_right _ hlow)
  have b:c*D≤(D+1)*2^pl:=Nat.le_trans c2 (Nat.mul_le_mul_right _ (Nat.succ_le_succ a))
  have d:=hplp
  apply Nat.le_of_mul_le_mul_right _ hpp
  rw [Nat.add_mul] at b
  rw [Nat.add_mul,Nat.mul_comm (2^pl)]
  omega
 have q1:=div_lt_succ (D*D) x.2 hx2
 have q2:=Nat.div_mul_le_self (D*D) x.1
 have P:(0:Rat)<(D:Rat):=Rat.natCast_pos.2 hD
 have L:=pow2_pos pl
 have K:=pow2_pos C
 have hcr:(0:Rat)<(c:Rat):=Rat.natCast_pos.2 hc0
 have f1:=natle (Nat.le_of_lt c1)
 have f2:=natle c2
 have g1:=natle (Nat.le_of_lt q1)
 have g2:=natle q2
 have w:=natle hW
 have k:=natle hC
 rw [cast_mul,cast_mul,two_cast] at f1
 rw [cast_mul,cast_mul,two_cast,cast_succ] at f2
 rw [cast_mul,cast_mul,cast_succ] at g1
 rw [cast_mul,cast_mul] at g2
 rw [Rat.natCast_add,two_cast] at w
 rw [cast_mul,two_cast] at k
 obtain ⟨r,hr⟩: ∃r:Rat,r=(2:Rat)^pl/(c:Rat):=⟨_,rfl⟩
 have hr2:(c:Rat)*r=(2:Rat)^pl:=by rw [hr];grind
 obtain ⟨T0,hT0⟩:=h.low hy
 refine hN (2^pl) c r (by rw [two_cast];exact hr2) hc0 (.inr ⟨rfl,hcd⟩) T0 (fun T hT=>?_)
 obtain ⟨a,b⟩:=hT0 T hT
 have hl0:(0:Rat)≤(x.1:Rat):=Rat.natCast_nonneg
 have hh0:(0:Rat)≤(x.2:Rat):=Rat.natCast_nonneg
 have hKP:2*(2:Rat)^C≤(D:Rat):=by
  have a1:=pow2_mono (show C+1≤W+2*C+4+g by omega)
  have a2:=natle hp
  rw [two_cast] at a2
  rw [pow2_succ] at a1
  grind
 have hwK:((2:Rat)^W+2*(2^C*2^C))*2^g≤(D:Rat):=by
  have a1:(2:Rat)^W≤2^(W+2*C+1):=pow2_mono (by omega)
  have a2:(2:Rat)^C*2^C≤2^(W+2*C+1):=by
   have e:(2:Rat)^C*2^C=2^(C+C):=by rw [←two_cast,←two_cast,←cast_mul,←Nat.pow_add]
   rw [e];exact pow2_mono (by omega)
  have a3:(2:Rat)^(W+2*C+4+g)=8*2^(W+2*C+1)*2^g:=by
   have e:(2:Rat)^(W+2*C+4+g)=2^(W+2*C+1)*2^3*2^g:=by
    rw [←two_cast,←two_cast,←two_cast,←two_cast,←cast_mul,←cast_mul,←Nat.pow_add,←Nat.pow_add]
   have e3:(2:Rat)^3=8:=by rw [←two_cast];rfl
   rw [e,e3];grind
  have a4:=natle hp
  rw [two_cast] at a4
  have a5:=pow2_pos (W+2*C+1)
  have a6:=Rat.mul_le_mul_of_nonneg_right (show (2:Rat)^W+2*(2^C*2^C)≤8*2^(W+2*C+1) by grind) (show (0:Rat)≤2^g by have:=pow2_pos g;grind)
  grind
 have hE0:0≤(D:Rat)*EE y T:=Rat.mul_nonneg (by grind) (EE_nonneg y hy T)
 have G:=pow2_pos g
 obtain ⟨E,hE⟩: ∃E,E=(D:Rat)*EE y T:=⟨_,rfl⟩
 rw [←hE] at a b
 clear c1 c2 q1 q2 hW hC hlow hcd hN h hT0 hp hr
 generalize ((D*D/x.2:Nat):Rat)=u at *
 generalize ((D*D/x.1:Nat):Rat)=v at *
 generalize (x.1:Rat)=l at *
 generalize (x.2:Rat)=hh at *
 generalize (2:Rat)^W=ww at *
 generalize (2:Rat)^C=κ at *
 generalize (2:Rat)^pl=lm at *
 generalize (c:Rat)=cc at *
 generalize EE y T=ee at *
 generalize (2:Rat)^g=gg at *
 generalize (D:Rat)=pp at *
 have s1:pp*pp*lm-hh*lm≤cc*pp*hh:=by
  have t1:=Rat.mul_le_mul_of_nonneg_right f1 hh0
  have t2:=Rat.mul_le_mul_of_nonneg_right g1 (show 0≤lm by grind)
  grind
 have s2:cc*pp*l≤pp*pp*lm+l*lm:=by
  have t1:=Rat.mul_le_mul_of_nonneg_right f2 hl0
  have t2:=Rat.mul_le_mul_of_nonneg_right g2 (show 0≤lm by grind)
  grind
 have s3:lm≤2*(cc*κ):=by
  have t1:=Rat.mul_le_mul_of_nonneg_left k (show 0≤cc*pp from Rat.mul_nonneg (by grind) (by grind))
  have t2:=Rat.mul_le_mul_of_nonneg_right k (show 0≤lm by grind)
  have t3:pp*(pp*lm)≤pp*(cc*pp*κ+κ*lm):=by grind
  have t4:=Rat.le_of_mul_le_mul_left t3 P
  have t5:=Rat.mul_le_mul_of_nonneg_right hKP (show 0≤lm by grind)
  exact Rat.le_of_mul_le_mul_left (show pp*lm≤pp*(2*(cc*κ)) by grind) P
 have s4:hh*lm≤pp*(2*(cc*(κ*κ))):=by
  have t1:=mul_le_mul2 hh0 k (show 0≤lm by grind) s3
  grind
 have s5:cc*hh-cc*l≤cc*ww:=by
  have t1:=Rat.mul_le_mul_of_nonneg_left w (show 0≤cc by grind)
  grind
 have s6:l*lm≤hh*lm:=Rat.mul_le_mul_of_nonneg_right (by grind) (by grind)
 have t0:=Rat.mul_le_mul_of_nonneg_left hwK (show 0≤cc by grind)
 have up:cc*E-pp*lm≤cc*(ww+2*(κ*κ)):=by
  have t1:=Rat.mul_le_mul_of_nonneg_left b (show 0≤cc by grind)
  have t2:=Rat.mul_le_mul_of_nonneg_left s5 (show 0≤pp by grind)
  have t3:pp*(cc*hh-pp*lm)≤pp*(cc*(ww+2*(κ*κ))):=by grind
  have t4:=Rat.le_of_mul_le_mul_left t3 P
  grind
 have dn: -(cc*(ww+2*(κ*κ)))≤cc*E-pp*lm:=by
  have t1:=Rat.mul_le_mul_of_nonneg_left a (show 0≤cc by grind)
  have t2:=Rat.mul_le_mul_of_nonneg_left s5 (show 0≤pp by grind)
  have t3:pp*(-(cc*(ww+2*(κ*κ))))≤pp*(cc*l-pp*lm):=by grind
  have t4:=Rat.le_of_mul_le_mul_left t3 P
  grind
 have hcp:=Rat.mul_pos hcr P
 have e9:(cc*pp)*(gg*(ee-r))=gg*(cc*E-pp*lm):=by rw [hE,←hr2];grind
 have u1:=Rat.mul_le_mul_of_nonneg_left up (show 0≤gg by grind)
 have u2:=Rat.mul_le_mul_of_nonneg_left dn (show 0≤gg by grind)
 constructor
 ·apply Rat.le_of_mul_le_mul_left _ hcp
  rw [e9];grind
 ·apply Rat.le_of_mul_le_mul_left _ hcp
  rw [e9];grind
def dyQ (m:Nat) (e:Int):Rat:=(m:Rat)*2^e.toNat/2^(-e).toNat
theorem dyQ_eq (m:Nat) (e:Int):(2:Rat)^(-e).toNat*dyQ m e=(m:Rat)*2^e.toNat:=by
 have:=pow2_pos (-e).toNat
 unfold dyQ;grind
theorem dyQ_nonneg (m:Nat) (e:Int):0≤dyQ m e:=div_nonneg' (Rat.mul_nonneg Rat.natCast_nonneg (by have:=pow2_pos e.toNat;grind)) (pow2_pos _)
theorem pow2_add (a b:Nat):(2:Rat)^(a+b)=2^a*2^b:=by rw [←two_cast,←two_cast,←two_cast,←cast_mul,←Nat.pow_add]
theorem dyQ_shift (m:Nat) (e:Int) (k:Nat):(2:Rat)^k*dyQ m e*2^(-(e+k)).toNat=(m:Rat)*2^(e+k).toNat:=by
 have a:=dyQ_eq m e
 have P:=pow2_pos (-e).toNat
 apply Rat.le_antisymm
 all_goals
  apply Rat.le_of_mul_le_mul_left _ P
  have e1:(2:Rat)^(-e).toNat*(2^k*dyQ m e*2^(-(e+k)).toNat)=(m:Rat)*(2^e.toNat*2^k*2^(-(e+k)).toNat):=by grind
  have e2:(2:Rat)^(-e).toNat*((m:Rat)*2^(e+k).toNat)=(m:Rat)*(2^(-e).toNat*2^(e+k).toNat):=by grind
  rw [e1,e2,←pow2_add,←pow2_add,←pow2_add,show e.toNat+k+(-(e+k)).toNat=(-e).toNat+(e+k).toNat by omega]
  exact Rat.le_refl
theorem dyQ_down (m:Nat) (e:Int) (s:Nat):(2:Rat)^s*dyQ m (e-s)=dyQ m e:=by
 have a:=dyQ_shift m (e-s) s
 rw [show e-(s:Int)+s=e by omega] at a
 have b:=dyQ_eq m e
 have P:=pow2_pos (-e).toNat
 apply Rat.le_antisymm
 all_goals
  apply Rat.le_of_mul_le_mul_left _ P
  grind
theorem fx_in (m:Nat) (e:Int) (p:Nat):((fxP m e p).1:Rat)≤(2:Rat)^p*dyQ m e∧(2:Rat)^p*dyQ m e≤((fxP m e p).2:Rat):=by
 have h:=dyQ_shift m e p
 unfold fxP
 by_cases c:0≤e+p
 ·rw [if_pos c]
  rw [show (-(e+(p:Int))).toNat=0 by omega,Rat.pow_zero] at h
  simp only [cast_mul,two_cast]
  constructor<;>grind
 ·rw [if_neg c]
  rw [show (e+(p:Int)).toNat=0 by omega,Rat.pow_zero] at h
  have P:=pow2_pos (-(e+(p:Int))).toNat
  have a:=fdiv_cast m (2^(-(e+(p:Int))).toNat)
  have b:=cdiv_cast m (2^(-(e+(p:Int))).toNat) (Nat.two_pow_pos _)
  rw [two_cast] at a b
  show ((m/2^(-(e+(p:Int))).toNat:Nat):Rat)≤_∧_≤((cdiv m (2^(-(e+(p:Int))).toNat):Nat):Rat)
  constructor
  ·apply Rat.le_of_mul_le_mul_left _ P
   grind
  ·apply Rat.le_of_mul_le_mul_left _ P
   grind
theorem fx_wd (m:Nat) (e:Int) (p:Nat):(fxP m e p).1≤(fxP m e p).2∧(fxP m e p).2≤(fxP m e p).1+1:=by
 unfold fxP
 split
 ·exact ⟨Nat.le_refl _,by simp⟩
 ·show m/_≤cdiv m _∧cdiv m _≤m/_+1
  unfold cdiv
  split<;>omega
theorem fx_top (m B:Nat) (e:Int) (p k:Nat) (hm:m<2^B) (h:(B:Int)+e+p≤k):(fxP m e p).2≤2^k:=by
 unfold fxP
 split
 ·show m*2^(e+(p:Int)).toNat≤_
  refine Nat.le_trans (Nat.mul_le_mul_right _ (Nat.le_of_lt hm)) ?_
  rw [←Nat.pow_add]
  exact Nat.pow_le_pow_right (by omega) (by omega)
 ·show cdiv m _≤_
  refine cdiv_le (Nat.two_pow_pos _) (Nat.le_trans (Nat.le_of_lt hm) ?_)
  rw [←Nat.pow_add]
  exact Nat.pow_le_pow_right (by omega) (by omega)
def sN (B:Nat) (e:Int):Nat:=(max 0 ((B:Int)+e+16)).toNat
def tS (m B:Nat) (e:Int) (p:Nat):PP:=fxP m (e-(sN B e:Nat)) p
def growP (m B:Nat) (e:Int) (p n:Nat):PP:=sqP (up4 (geS (tS m B e p) p n)) p (sN B e)
theorem tS_top (m B:Nat) (e:Int) (p:Nat) (hm:m<2^B) (hp:16≤p):(tS m B e p).2≤2^(p-16):=by
 unfold tS
 exact fx_top m B _ p (p-16) hm (by unfold sN;omega)
theorem tS_small (m B:Nat) (e:Int) (hm:m<2^B):2*dyQ m (e-(sN B e:Nat))≤1:=by
 have a:=(fx_in m (e-(sN B e:Nat)) 17).2
 have b:=natle (fx_top m B (e-(sN B e:Nat)) 17 1 hm (by unfold sN;omega))
 have n:=dyQ_nonneg m (e-(sN B e:Nat))
 have e17:(2:Rat)^17=131072:=by rw [←two_cast];rfl
 have e1:((2^1:Nat):Rat)=2:=rfl
 rw [e17] at a
 rw [e1] at b
 grind
theorem growP_in (m B:Nat) (e:Int) (p n:Nat) (hm:m<2^B) (hn:(grT (tS m B e p) p n).2≤1):InE p (dyQ m e) (growP m B e p n):=by
 have h:=fx_in m (e-(sN B e:Nat)) p
 have g:=grow_in (tS m B e p) p (dyQ m (e-(sN B e:Nat))) (dyQ_nonneg _ _) (tS_small m B e hm) h.1 h.2 n hn
 have k:=sq_in (dyQ_nonneg _ _) g (sN B e)
 rw [dyQ_down] at k
 exact k
theorem growP_low (m B:Nat) (e:Int) (p n:Nat):2^p≤(growP m B e p n).1:=sqP_low (x:=up4 (geS (tS m B e p) p n)) (grS_low n) _
theorem growP_le (m B:Nat) (e:Int) (p n:Nat):(growP m B e p n).1≤(growP m B e p n).2:=
 sqP_le p (x:=up4 (geS (tS m B e p) p n)) (Nat.le_trans (grS_le p (fx_wd _ _ _).1 n) (Nat.le_add_right _ _)) _
theorem growP_wd (m B:Nat) (e:Int) (p n q:Nat) (hm:m<2^B) (hq:dyQ m e≤(q:Rat)) (hs:sN B e≤26) (hn:n≤p) (hp60:p≤2^60) (hp:70+(2*q+3)*26≤p):
 (growP m B e p n).2≤(growP m B e p n).1+2^(70+(2*q+3)*26)∧(growP m B e p n).1≤2^(p+2*q):=by
 have hy:=dyQ_nonneg m (e-(sN B e:Nat))
 have htop:(tS m B e p).2≤2^(p-2):=Nat.le_trans (tS_top m B e p hm (by omega)) (Nat.pow_le_pow_right (by omega) (by omega))
 have w0:=fx_wd m (e-(sN B e:Nat)) p
 have w1:(up4 (geS (tS m B e p) p n)).2≤(up4 (geS (tS m B e p) p n)).1+2^70:=by
  have a:=grS_wd (show 4≤p by omega) w0.1 w0.2 htop n
  show (geS (tS m B e p) p n).2+4≤(geS (tS m B e p) p n).1+2^70
  have e70:2^70=1024*2^60:=by decide
  unfold tS at a ⊢
  omega
 have h01:(up4 (geS (tS m B e p) p n)).1≤(up4 (geS (tS m B e p) p n)).2:=Nat.le_trans (grS_le p w0.1 n) (Nat.le_add_right _ _)
 have hl: ∀j,j≤sN B e→(sqP (up4 (geS (tS m B e p) p n)) p j).1≤2^(p+(2*q+1)-1):=by
  intro j hj
  have g0: ∃T,((up4 (geS (tS m B e p) p n)).1:Rat)≤(2:Rat)^p*EE (dyQ m (e-(sN B e:Nat))) T:=⟨n+1,(grS_in _ p _ hy (fx_in m _ p).1 (fx_in m _ p).2 n).1⟩
  have key: ∀j:Nat,∃T,((sqP (up4 (geS (tS m B e p) p n)) p j).1:Rat)≤(2:Rat)^p*EE ((2:Rat)^j*dyQ m (e-(sN B e:Nat))) T:=by
   intro j
   induction j with
   |zero=>rw [Rat.pow_zero,Rat.one_mul];exact g0
   |succ j ih=>
    obtain ⟨T,a⟩:=ih
    have hj:=Rat.mul_nonneg (show (0:Rat)≤2^j by have:=pow2_pos j;grind) hy
    have P:=pow2_pos p
    refine ⟨T+T,?_⟩
    have ea:=EE_add_ge _ _ hj hj T
    have f:=fdiv_cast ((sqP (up4 (geS (tS m B e p) p n)) p j).1*(sqP (up4 (geS (tS m B e p) p n)) p j).1) (2^p)
    rw [two_cast,cast_mul] at f
    have g:=mul_le_mul2 Rat.natCast_nonneg a Rat.natCast_nonneg a
    have e9:(2:Rat)^(j+1)*dyQ m (e-(sN B e:Nat))=(2:Rat)^j*dyQ m (e-(sN B e:Nat))+(2:Rat)^j*dyQ m (e-(sN B e:Nat)):=by rw [pow2_succ];grind
    rw [e9]
    show (((sqP (up4 (geS (tS m B e p) p n)) p j).1*(sqP (up4 (geS (tS m B e p) p n)) p j).1/2^p:Nat):Rat)≤_
    apply Rat.le_of_mul_le_mul_left _ P
    have k2:=Rat.mul_le_mul_of_nonneg_left ea (show (0:Rat)≤2^p by grind)
    have k3:=Rat.mul_le_mul_of_nonneg_left k2 (show (0:Rat)≤2^p by grind)
    grind
  obtain ⟨T,a⟩:=key j
  have b:(2:Rat)^j*dyQ m (e-(sN B e:Nat))≤(q:Rat):=by
   have c:=Rat.mul_le_mul_of_nonneg_right (pow2_mono hj) hy
   rw [dyQ_down] at c
   grind
  have d:=EE_bound (Rat.mul_nonneg (show (0:Rat)≤2^j by have:=pow2_pos j;grind) hy) q b T
  have f:=Rat.mul_le_mul_of_nonneg_left d (show (0:Rat)≤2^p by have:=pow2_pos p;grind)
  rw [four_pow] at f
  have g:((sqP (up4 (geS (tS m B e p) p n)) p j).1:Rat)≤((2^p*2^(2*q):Nat):Rat):=by rw [cast_mul,two_cast];grind
  have k:=Rat.natCast_le_natCast.1 g
  rw [←Nat.pow_add] at k
  rw [show p+(2*q+1)-1=p+2*q by omega]
  exact k
 have hbig:70+(2*q+1+2)*sN B e≤p:=by
  have:=Nat.mul_le_mul_left (2*q+3) hs
  rw [show 2*q+1+2=2*q+3 by omega];omega
 have h:=sq_wd (p:=p) (2*q+1) 70 h01 w1 (sN B e) hbig hl (by omega) (sN B e) (Nat.le_refl _)
 constructor
 ·refine Nat.le_trans h (Nat.add_le_add_left (Nat.pow_le_pow_right (by omega) ?_) _)
  have:=Nat.mul_le_mul_left (2*q+3) hs
  rw [show 2*q+1+2=2*q+3 by omega];omega
 ·have:=hl (sN B e) (Nat.le_refl _)
  rw [show p+(2*q+1)-1=p+2*q by omega] at this
  exact this
theorem xb_case (m a b β κ H N:Nat) (e:Int) (hm:m<2^1280) (ha:a=m*2^e.toNat) (hb:b=2^β) (hβ:β=(-e).toNat) (hab:a≤2^κ*b) (hH:1000*N≤2*H):a^H*b^N≤2^(κ*H+1300*N)*b^H:=by
 by_cases h:β≤1300
 ·have h1:b^N≤2^(1300*N):=by
   rw [hb,←Nat.pow_mul];exact Nat.pow_le_pow_right (by omega) (Nat.mul_le_mul_right _ h)
  have h2:a^H≤2^(κ*H)*b^H:=by
   rw [Nat.pow_mul,←Nat.mul_pow];exact Nat.pow_le_pow_left hab H
  rw [Nat.pow_add,Nat.mul_assoc,Nat.mul_comm (2^(1300*N)),←Nat.mul_assoc]
  exact Nat.mul_le_mul h2 h1
 ·have ha2:a=m:=by rw [ha,show e.toNat=0 by omega];omega
  have h1:a^H≤2^(1280*H):=pow_le2 H (by rw [ha2];exact Nat.le_of_lt hm)
  have h2:b^N=2^(β*N):=by rw [hb,←Nat.pow_mul]
  have h3:b^H=2^(β*H):=by rw [hb,←Nat.pow_mul]
  rw [h2,h3,←Nat.pow_add]
  refine Nat.le_trans (Nat.mul_le_mul_right _ h1) ?_
  rw [←Nat.pow_add]
  refine Nat.pow_le_pow_right (by omega) ?_
  obtain ⟨k,rfl⟩: ∃k,β=1300+k:=⟨β-1300,by omega⟩
  rw [Nat.add_mul,Nat.add_mul]
  have:=Nat.mul_le_mul_left k (show N≤H by omega)
  omega
theorem big_pow:2^5000+2≤2^6000:=by decide+kernel
theorem nofr_mid (m:Nat) (e:Int) (pl u:Nat) (hm:m<2^1280) (hu:u=1303) (h1:1≤(2:Rat)^u*dyQ m e) (h2:dyQ m e≤((4096:Nat):Rat)) (hpl:pl≤5000):NoFr GG pl (dyQ m e):=by
 intro c d r hr hd0 hd S0 hS
 have hb:=pow2_pos (-e).toNat
 have hx:=dyQ_eq m e
 have ea:((m*2^e.toNat:Nat):Rat)=(m:Rat)*2^e.toNat:=by rw [cast_mul,two_cast]
 have g1:2^(-e).toNat≤m*2^e.toNat*2^u:=by
  apply Rat.natCast_le_natCast.1
  rw [cast_mul,ea,two_cast,two_cast,←hx]
  have:=Rat.mul_le_mul_of_nonneg_left h1 (show (0:Rat)≤2^(-e).toNat by grind)
  grind
 have g2:m*2^e.toNat≤2^12*2^(-e).toNat:=by
  rw [show 2^12=4096 from rfl]
  apply Rat.natCast_le_natCast.1
  rw [cast_mul 4096,ea,two_cast,←hx]
  have:=Rat.mul_le_mul_of_nonneg_left h2 (show (0:Rat)≤2^(-e).toNat by grind)
  grind
 obtain ⟨z,hz⟩: ∃z,z=6000:=⟨_,rfl⟩
 obtain ⟨w,hw⟩: ∃w,w=5000:=⟨_,rfl⟩
 have hd2:d≤2^z:=by
  have k1:2^pl≤2^w:=Nat.pow_le_pow_right (by omega) (by omega)
  have k2:2^w+2≤2^z:=by rw [hw,hz];exact big_pow
  rcases hd with h|⟨-,h⟩<;>omega
 rw [hz] at hd2
 refine gap (m*2^e.toNat) (2^(-e).toNat) c d (Nat.two_pow_pos _) (dyQ m e) r (by rw [two_cast,ea];exact hx) hr u hu g1 g2 (fun κ H N hH hab=>?_) hd0 hd2 S0 hS
 exact xb_case m _ _ (-e).toNat κ H N e hm rfl rfl rfl hab hH
theorem EE_two (y:Rat):EE y 2=1+y:=by
 have h:=ep_succ y 0
 have e1:((0+1:Nat):Rat)=1:=rfl
 have e0:ep y 0=1:=rfl
 rw [e1,e0] at h
 unfold EE
 simp only [sumQ]
 rw [e0];grind
theorem nofr_small (y:Rat) (pl u v:Nat) (hv:v+1≤GG) (h0:1≤(2:Rat)^v*y) (h1:(2:Rat)^u*y≤1) (hpl:pl+3≤u) (hpg:pl+2≤GG):NoFr GG pl y:=by
 intro c d r hr hd0 hd S0 hS
 generalize GG=G at *
 have Pv:=pow2_pos v
 have Pu:=pow2_pos u
 have PG:=pow2_pos G
 have Pp:=pow2_pos pl
 have hy:0<y:=Rat.not_le.1 (fun h=>by
  have:=Rat.mul_le_mul_of_nonneg_left h (show (0:Rat)≤2^v by grind)
  grind)
 have hu8:(8:Rat)*2^pl≤2^u:=by
  have a:=pow2_mono hpl
  have e:(2:Rat)^(pl+3)=8*2^pl:=by rw [pow2_add,show (2:Rat)^3=8 by rw [←two_cast];rfl];grind
  grind
 have hyp:8*(2^pl*y)≤1:=by
  have:=Rat.mul_le_mul_of_nonneg_right hu8 (show 0≤y by grind)
  grind
 have h1p:(1:Rat)≤2^pl:=by have:=pow2_mono (show 0≤pl by omega);rwa [Rat.pow_zero] at this
 have hy2:2*y≤1:=by
  have:=Rat.mul_le_mul_of_nonneg_right h1p (show 0≤y by grind)
  grind
 obtain ⟨a,b⟩:=hS (S0+2) (by omega)
 have lo:=EE_le y (show 0≤y by grind) (show 2≤S0+2 by omega)
 have hi:=EE_rest y (show 0≤y by grind) hy2 1 (S0+2)
 have e1:ep y 1=y:=by
  have h:=ep_succ y 0
  have e1:((0+1:Nat):Rat)=1:=rfl
  have e0:ep y 0=1:=rfl
  rw [e1,e0] at h
  grind
 rw [EE_two] at lo
 rw [show 1+1=2 from rfl,EE_two,e1] at hi
 generalize EE y (S0+2)=E at *
 have hdr:(0:Rat)<(d:Rat):=Rat.natCast_pos.2 hd0
 have hrr:r≤1∨1≤2^pl*(r-1):=by
  rcases hd with h|⟨h,-⟩
  ·rw [h,two_cast] at hr
   rcases Nat.lt_or_ge (2^pl) c with k|k
   ·right
    have:=natle (show 2^pl+1≤c from k)
    rw [cast_succ,two_cast] at this
    grind
   ·left
    have:=natle k
    rw [two_cast] at this
    exact Rat.le_of_mul_le_mul_left (show (2:Rat)^pl*r≤2^pl*1 by grind) Pp
  ·rw [h,two_cast] at hr
   rcases Nat.lt_or_ge d (2^pl) with k|k
   ·right
    have k1:=natle (show d+1≤2^pl from k)
    rw [cast_succ,two_cast] at k1
    have k2:=natle (Nat.le_of_lt k)
    rw [two_cast] at k2
    have r1:1≤(d:Rat)*(r-1):=by grind
    have r0:0≤r-1:=Rat.not_lt.1 (fun hlt=>by
     have:=Rat.mul_lt_mul_of_pos_left hlt hdr
     grind)
    have:=Rat.mul_le_mul_of_nonneg_right k2 r0
    grind
   ·left
    have:=natle k
    rw [two_cast] at this
    exact Rat.le_of_mul_le_mul_left (show (d:Rat)*r≤d*1 by grind) hdr
 rcases hrr with h|h
 ·-- above it by y at least
  have k1:y≤E-r:=by grind
  have k2:=Rat.mul_le_mul_of_nonneg_left k1 (show (0:Rat)≤2^G by grind)
  have k3:=pow2_mono hv
  rw [pow2_succ] at k3
  have k4:=Rat.mul_le_mul_of_nonneg_right k3 (show 0≤y by grind)
  grind
 ·-- below it
  have k0:=Rat.mul_le_mul_of_nonneg_left (show E≤1+2*y by grind) (show (0:Rat)≤2^pl by grind)
  have k1:2^pl*(E-r)≤ -(3/4):=by grind
  have e:(2:Rat)^G=2^pl*2^(G-pl):=by rw [←pow2_add];congr 1;omega
  have k2:=pow2_mono (show 2≤G-pl by omega)
  rw [show (2:Rat)^2=4 by rw [←two_cast];rfl] at k2
  rw [e] at a
  have k3:=Rat.mul_le_mul_of_nonneg_left k1 (show (0:Rat)≤2^(G-pl) by grind)
  grind
theorem nofr (m:Nat) (e:Int) (pl:Nat) (h0:0<m) (hm:m<2^1280) (he: -10000≤e) (h2:dyQ m e≤((4096:Nat):Rat)) (hpl:pl≤1300):NoFr GG pl (dyQ m e):=by
 obtain ⟨u,hu⟩: ∃u,u=1303:=⟨_,rfl⟩
 by_cases h:1≤(2:Rat)^u*dyQ m e
 ·exact nofr_mid m e pl u hm hu h h2 (by omega)
 ·obtain ⟨v,hv⟩: ∃v,v=10000:=⟨_,rfl⟩
  refine nofr_small (dyQ m e) pl u v (by rw [hv];decide) ?_ (by grind) (by omega) (by have:2000≤GG:=by decide
                                                                                      omega)
  have a:=dyQ_eq m e
  have b:=natle (show 1≤m from h0)
  have c:=pow2_mono (show 0≤e.toNat by omega)
  rw [Rat.pow_zero] at c
  have d:=pow2_mono (show (-e).toNat≤v by omega)
  have f:=dyQ_nonneg m e
  have g:=Rat.mul_le_mul_of_nonneg_right d f
  have k:=mul_le_mul2 (show (0:Rat)≤1 by grind) (show (1:Rat)≤(m:Rat) from b) (show (0:Rat)≤1 by grind) c
  grind
def bMul (a b:PP) (D:Nat):PP:=(a.1*b.1/D,a.2*b.2/D+1)
def bOv (a:PP) (n:Nat):PP:=(a.1/n,a.2/n+1)
def beT (y:PP) (D:Nat):Nat→PP
 |0=>(D,D)
 |n+1=>bOv (bMul (beT y D n) y D) (n+1)
def beS (y:PP) (D:Nat):Nat→PP
 |0=>beT y D 0
 |n+1=>plP (beS y D n) (beT y D (n+1))
def up9 (x:PP):PP:=(x.1,x.2+9)
theorem div_succ_ge (a b:Nat) (hb:0<b):(a:Rat)≤((a/b+1:Nat):Rat)*(b:Rat):=by
 rw [←cast_mul];exact natle (Nat.le_of_lt (div_lt_succ a b hb))
theorem bT_in (y:PP) (D:Nat) (hD:0<D) (x:Rat) (hx:0≤x) (h1:(y.1:Rat)≤(D:Rat)*x) (h2:(D:Rat)*x≤(y.2:Rat)):
 ∀i,((beT y D i).1:Rat)≤(D:Rat)*ep x i∧(D:Rat)*ep x i≤((beT y D i).2:Rat)
 |0=>by
  have e0:ep x 0=1:=rfl
  rw [e0]
  show ((D:Nat):Rat)≤_∧_≤((D:Nat):Rat)
  constructor<;>grind
 |i+1=>by
  obtain ⟨a,b⟩:=bT_in y D hD x hx h1 h2 i
  have P:(0:Rat)<(D:Rat):=Rat.natCast_pos.2 hD
  have en:=ep_nonneg x hx i
  have hi:=nat_pos i
  have es:=ep_succ x i
  have lo1:=fdiv_cast ((beT y D i).1*y.1) D
  have lo2:=fdiv_cast ((beT y D i).1*y.1/D) (i+1)
  have hi1:=div_succ_ge ((beT y D i).2*y.2) D hD
  have hi2:=div_succ_ge ((beT y D i).2*y.2/D+1) (i+1) (by omega)
  rw [cast_mul] at lo1 hi1
  have m1:=mul_le_mul2 (Rat.natCast_nonneg (a:=(beT y D i).1)) a (Rat.natCast_nonneg (a:=y.1)) h1
  have m2:=mul_le_mul2 (Rat.mul_nonneg (show (0:Rat)≤D by grind) en) b (Rat.mul_nonneg (show (0:Rat)≤D by grind) hx) h2
  show ((((beT y D i).1*y.1/D)/(i+1):Nat):Rat)≤_∧_≤(((((beT y D i).2*y.2)/D+1)/(i+1)+1:Nat):Rat)
  generalize (((beT y D i).1*y.1/D/(i+1):Nat):Rat)=A at *
  generalize (((beT y D i).1*y.1/D:Nat):Rat)=B at *
  generalize (((((beT y D i).2*y.2)/D+1)/(i+1)+1:Nat):Rat)=C at *
  generalize ((((beT y D i).2*y.2)/D+1:Nat):Rat)=E at *
  generalize ((beT y D i).1:Rat)*(y.1:Rat)=u at *
  generalize ((beT y D i).2:Rat)*(y.2:Rat)=v at *
  generalize ((i+1:Nat):Rat)=n at *
  generalize (D:Rat)=Q at *
  have c1:B≤Q*(ep x i*x):=by
   apply Rat.le_of_mul_le_mul_left _ P
   grind
  have c2:Q*(ep x i*x)≤E:=by
   apply Rat.le_of_mul_le_mul_left _ P
   grind
  constructor
  ·apply Rat.le_of_mul_le_mul_left _ hi
   have:n*(Q*ep x (i+1))=Q*(ep x i*x):=by grind
   rw [this];grind
  ·apply Rat.le_of_mul_le_mul_left _ hi
   have:n*(Q*ep x (i+1))=Q*(ep x i*x):=by grind
   rw [this];grind
theorem bS_in (y:PP) (D:Nat) (hD:0<D) (x:Rat) (hx:0≤x) (h1:(y.1:Rat)≤(D:Rat)*x) (h2:(D:Rat)*x≤(y.2:Rat)):
 ∀n,((beS y D n).1:Rat)≤(D:Rat)*EE x (n+1)∧(D:Rat)*EE x (n+1)≤((beS y D n).2:Rat)
 |0=>by
  have h:=bT_in y D hD x hx h1 h2 0
  have e:EE x (0+1)=ep x 0:=by unfold EE;simp only [sumQ];grind
  rw [e];exact h
 |n+1=>by
  obtain ⟨a,b⟩:=bS_in y D hD x hx h1 h2 n
  obtain ⟨c,d⟩:=bT_in y D hD x hx h1 h2 (n+1)
  have e:EE x (n+1+1)=EE x (n+1)+ep x (n+1):=rfl
  rw [e]
  show (((beS y D n).1+(beT y D (n+1)).1:Nat):Rat)≤_∧_≤(((beS y D n).2+(beT y D (n+1)).2:Nat):Rat)
  rw [Rat.natCast_add,Rat.natCast_add]
  constructor<;>grind
theorem EE_tail1 (y:Rat) (hy:0≤y) (h:y≤1) (n:Nat) (hn:1≤n): ∀k,EE y (n+1+k)+ep y (n+k)≤EE y (n+1)+ep y n
 |0=>by show EE y (n+1)+ep y n≤_;grind
 |k+1=>by
  have ih:=EE_tail1 y hy h n hn k
  have a:=ep_succ y (n+k)
  have b:=ep_nonneg y hy (n+k)
  have c:=ep_nonneg y hy (n+k+1)
  have d:=Rat.mul_le_mul_of_nonneg_right (natle (show 2≤n+k+1 by omega)) c
  have e:=Rat.mul_le_mul_of_nonneg_right h b
  have f:EE y (n+1+(k+1))=EE y (n+1+k)+ep y (n+1+k):=rfl
  rw [f,show n+1+k=n+k+1 by omega,show n+(k+1)=n+k+1 by omega]
  rw [show n+1+k=n+k+1 by omega] at ih
  have o:((2:Nat):Rat)=2:=rfl
  rw [o] at d
  grind
theorem bothE_in (y:PP) (D:Nat) (hD:0<D) (x:Rat) (hx:0≤x) (h:x≤1) (h1:(y.1:Rat)≤(D:Rat)*x) (h2:(D:Rat)*x≤(y.2:Rat)) (n:Nat) (hn0:1≤n) (hn:(beT y D n).2≤2):
 InD D x (up9 (beS y D n)):=by
 obtain ⟨a,b⟩:=bS_in y D hD x hx h1 h2 n
 obtain ⟨-,d⟩:=bT_in y D hD x hx h1 h2 n
 refine ⟨⟨n+1,a⟩,fun T=>?_⟩
 have e1:=EE_tail1 x hx h n hn0 T
 have e2:=ep_nonneg x hx (n+T)
 have e3:=EE_le x hx (show T≤n+1+T by omega)
 have P:(0:Rat)<(D:Rat):=Rat.natCast_pos.2 hD
 have f:=Rat.mul_le_mul_of_nonneg_left (show EE x T≤EE x (n+1)+ep x n by grind) (show (0:Rat)≤D by grind)
 have g:=natle hn
 have o:((2:Nat):Rat)=2:=rfl
 have o9:((9:Nat):Rat)=9:=rfl
 rw [o] at g
 show _≤(((beS y D n).2+9:Nat):Rat)
 rw [Rat.natCast_add,o9]
 grind
theorem bMul_in {D:Nat} (hD:0<D) {x y:Rat} {u v:PP} (hx:0≤x) (hy:0≤y) (hu:InD D x u) (hv:InD D y v):InD D (x+y) (bMul u v D):=by
 obtain ⟨⟨T,a⟩,b⟩:=hu
 obtain ⟨⟨S,c⟩,d⟩:=hv
 have P:(0:Rat)<(D:Rat):=Rat.natCast_pos.2 hD
 have P0:(0:Rat)≤(D:Rat):=by grind
 constructor
 ·refine ⟨(T+S)+(T+S),?_⟩
  have e:=EE_add_ge x y hx hy (T+S)
  have m1:=Rat.mul_le_mul_of_nonneg_left (EE_le x hx (show T≤T+S by omega)) P0
  have m2:=Rat.mul_le_mul_of_nonneg_left (EE_le y hy (show S≤T+S by omega)) P0
  have f:=fdiv_cast (u.1*v.1) D
  rw [cast_mul] at f
  have g:=mul_le_mul2 (Rat.natCast_nonneg (a:=u.1)) (show (u.1:Rat)≤(D:Rat)*EE x (T+S) by grind) (Rat.natCast_nonneg (a:=v.1)) (show (v.1:Rat)≤(D:Rat)*EE y (T+S) by grind)
  have k:=Rat.mul_le_mul_of_nonneg_left e P0
  show ((u.1*v.1/D:Nat):Rat)≤_
  apply Rat.le_of_mul_le_mul_left _ P
  have k2:=Rat.mul_le_mul_of_nonneg_left k P0
  grind
 ·intro R
  have e:=EE_add_le x y hx hy R
  have f:=div_succ_ge (u.2*v.2) D hD
  rw [cast_mul] at f
  have g:=mul_le_mul2 (Rat.mul_nonneg P0 (EE_nonneg x hx R)) (b R) (Rat.mul_nonneg P0 (EE_nonneg y hy R)) (d R)
  have k:=Rat.mul_le_mul_of_nonneg_left e P0
  have k2:=Rat.mul_le_mul_of_nonneg_left k P0
  show _≤((u.2*v.2/D+1:Nat):Rat)
  apply Rat.le_of_mul_le_mul_left _ P
  grind
def bPow (a:PP) (D:Nat):Nat→Nat→PP
 |0,_=>(D,D)
 |f+1,n=>if n=0 then (D,D) else
  let h:=bPow a D f (n/2)
  let p:=bMul h h D
  if n%2=1 then bMul p a D else p
theorem InD.one (D:Nat):InD D 0 (D,D):=by
 have e: ∀T,EE 0 (T+1)=1:=by
  intro T
  induction T with
  |zero=>unfold EE;simp only [sumQ,ep];grind
  |succ T ih=>
   unfold EE at ih ⊢
   rw [sumQ_succ,ih,ep];grind
 constructor
 ·exact ⟨1,by rw [show EE 0 1=1 from e 0];show (D:Rat)≤_;grind⟩
 ·intro T
  have a:=EE_le 0 (by grind) (show T≤T+1 by omega)
  rw [e T] at a
  have P:(0:Rat)≤(D:Rat):=Rat.natCast_nonneg
  have:=Rat.mul_le_mul_of_nonneg_left a P
  show _≤(D:Rat)
  grind
theorem bPow_in {D:Nat} (hD:0<D) {x:Rat} (hx:0≤x) {a:PP} (ha:InD D x a): ∀(f n:Nat),n≤f→InD D ((n:Rat)*x) (bPow a D f n)
 |0,n,h=>by
  rw [show n=0 by omega,show ((0:Nat):Rat)=0 from rfl,Rat.zero_mul];exact InD.one D
 |f+1,n,h=>by
  unfold bPow
  by_cases h0:n=0
  ·rw [if_pos h0,h0,show ((0:Nat):Rat)=0 from rfl,Rat.zero_mul];exact InD.one D
  ·rw [if_neg h0]
   have ih:=bPow_in hD hx ha f (n/2) (by omega)
   have hn:0≤((n/2:Nat):Rat)*x:=Rat.mul_nonneg Rat.natCast_nonneg hx
   have p:=bMul_in hD hn hn ih ih
   by_cases h1:n%2=1
   ·simp only [if_pos h1]
    have q:=bMul_in hD (show 0≤((n/2:Nat):Rat)*x+((n/2:Nat):Rat)*x by grind) hx p ha
    have e:(n:Rat)*x=((n/2:Nat):Rat)*x+((n/2:Nat):Rat)*x+x:=by
     have:n=n/2+n/2+1:=by omega
     have k:(n:Rat)=((n/2:Nat):Rat)+((n/2:Nat):Rat)+1:=by
      conv=>lhs;rw [this]
      rw [cast_succ,Rat.natCast_add]
     rw [k];grind
    rw [e];exact q
   ·simp only [if_neg h1]
    have e:(n:Rat)*x=((n/2:Nat):Rat)*x+((n/2:Nat):Rat)*x:=by
     have:n=n/2+n/2:=by omega
     have k:(n:Rat)=((n/2:Nat):Rat)+((n/2:Nat):Rat):=by
      conv=>lhs;rw [this]
      rw [Rat.natCast_add]
     rw [k];grind
    rw [e];exact p
theorem bT_step {y:PP} {D:Nat} (hy:y.2≤D) (n:Nat):(beT y D (n+1)).2≤((beT y D n).2+1)/(n+1)+1:=by
 show ((beT y D n).2*y.2/D+1)/(n+1)+1≤_
 have a:(beT y D n).2*y.2/D≤(beT y D n).2:=Nat.div_le_of_le_mul (by rw [Nat.mul_comm D];exact Nat.mul_le_mul_left _ hy)
 exact Nat.add_le_add_right (Nat.div_le_div_right (Nat.add_le_add_right a 1)) 1
theorem bT_top {y:PP} {D:Nat} (hD:5≤D) (hy:y.2≤D): ∀n,(beT y D n).2≤D+2
 |0=>Nat.le_add_right _ _
 |1=>by
  have h:=bT_step hy 0
  have e:(beT y D 0).2=D:=rfl
  rw [e,show 0+1=1 from rfl,Nat.div_one] at h
  exact h
 |n+2=>by
  have ih:=bT_top hD hy (n+1)
  have h:=bT_step hy (n+1)
  have a:((beT y D (n+1)).2+1)/(n+1+1)≤((beT y D (n+1)).2+1)/2:=Nat.div_le_div_left (by omega) (by omega)
  show (beT y D (n+1+1)).2≤_
  omega
theorem bT_two {y:PP} {D:Nat} (hD:5≤D) (hy:y.2≤D):(beT y D 2).2≤D:=by
 have a:=bT_top hD hy 1
 have h:=bT_step hy 1
 rw [show 1+1=2 from rfl] at h
 omega
theorem bT_half {y:PP} {D:Nat} (hD:5≤D) (hy:y.2≤D) (K:Nat) (hK:D≤2^K): ∀i,(beT y D (2+i)).2≤max 2 (2^(K-i))
 |0=>by
  have:=bT_two hD hy
  rw [Nat.sub_zero];show (beT y D 2).2≤_;omega
 |i+1=>by
  have ih:=bT_half hD hy K hK i
  have h:=bT_step hy (2+i)
  rw [show 2+(i+1)=2+i+1 by omega]
  have a:((beT y D (2+i)).2+1)/(2+i+1)≤((beT y D (2+i)).2+1)/3:=Nat.div_le_div_left (by omega) (by omega)
  by_cases c:K-i=0
  ·rw [c] at ih
   have:(beT y D (2+i)).2≤2:=by simpa using ih
   omega
  ·have e:2^(K-i)=2*2^(K-(i+1)):=by rw [←Nat.pow_succ'];congr 1;omega
   rw [e] at ih
   omega
theorem bT_end {y:PP} {D:Nat} (hD:5≤D) (hy:y.2≤D) (K:Nat) (hK:D≤2^K): ∃n,1≤n∧n≤K+2∧(beT y D n).2≤2∧ ∀i,i<n→ ¬(beT y D i).2≤2:=by
 have h:(beT y D (K+2)).2≤2:=by
  have:=bT_half hD hy K hK K
  rw [Nat.sub_self,Nat.add_comm] at this
  simpa using this
 have key: ∀k,k≤K+2→(∃n,n<k∧(beT y D n).2≤2∧ ∀i,i<n→ ¬(beT y D i).2≤2)∨ ∀i,i<k→ ¬(beT y D i).2≤2:=by
  intro k
  induction k with
  |zero=>intro _;exact .inr (fun i hi=>absurd hi (Nat.not_lt_zero i))
  |succ k ih=>
   intro hk
   rcases ih (by omega) with ⟨n,a,b,c⟩|h1
   ·exact .inl ⟨n,by omega,b,c⟩
   ·by_cases e:(beT y D k).2≤2
    ·exact .inl ⟨k,by omega,e,h1⟩
    ·exact .inr (fun i hi=>by
      by_cases e2:i=k
      ·rw [e2];exact e
      ·exact h1 i (by omega))
 have h0: ∀n,(beT y D n).2≤2→1≤n:=fun n hn=>by
  rcases Nat.eq_zero_or_pos n with e|e
  ·exfalso;rw [e] at hn;have:(beT y D 0).2=D:=rfl;omega
  ·exact e
 rcases key (K+2) (Nat.le_refl _) with ⟨n,a,b,c⟩|h1
 ·exact ⟨n,h0 n b,by omega,b,c⟩
 ·exact ⟨K+2,by omega,Nat.le_refl _,h,h1⟩
theorem bT_wd {y:PP} {D:Nat} (hD:12≤D) (hy:y.2≤D) (h01:y.1≤y.2) (hw:y.2≤y.1+1): ∀n,(beT y D n).2≤(beT y D n).1+8∧(beT y D n).1≤(beT y D n).2
 |0=>⟨Nat.le_add_right _ _,Nat.le_refl _⟩
 |1=>by
  show ((D*y.2/D+1)/(0+1)+1≤D*y.1/D/(0+1)+8)∧D*y.1/D/(0+1)≤(D*y.2/D+1)/(0+1)+1
  rw [Nat.mul_div_cancel_left _ (by omega),Nat.mul_div_cancel_left _ (by omega),show 0+1=1 from rfl,Nat.div_one,Nat.div_one]
  omega
 |n+2=>by
  obtain ⟨ih,il⟩:=bT_wd hD hy h01 hw (n+1)
  have ht:=bT_top (show 5≤D by omega) hy (n+1)
  show ((beT y D (n+1)).2*y.2/D+1)/(n+1+1)+1≤(beT y D (n+1)).1*y.1/D/(n+1+1)+8∧(beT y D (n+1)).1*y.1/D/(n+1+1)≤((beT y D (n+1)).2*y.2/D+1)/(n+1+1)+1
  generalize (beT y D (n+1)).1=l at *
  generalize (beT y D (n+1)).2=h at *
  have hd:=div_lt_succ (l*y.1) D (by omega)
  have m1:h*y.2≤l*y.1+10*D:=by
   have a:=Nat.mul_le_mul ih hw
   have b:(l+8)*(y.1+1)=l*y.1+l+(8*y.1+8):=by rw [Nat.add_mul,Nat.mul_add];omega
   omega
  have q1:h*y.2/D≤l*y.1/D+10:=by
   apply Nat.le_of_lt_succ
   apply (Nat.div_lt_iff_lt_mul (show 0<D by omega)).2
   rw [Nat.succ_mul,Nat.add_mul]
   rw [Nat.add_mul] at hd
   omega
  have q2:l*y.1/D≤h*y.2/D:=Nat.div_le_div_right (Nat.mul_le_mul il h01)
  generalize h*y.2/D=X at *
  generalize l*y.1/D=Y at *
  have hd2:=div_lt_succ Y (n+1+1) (by omega)
  constructor
  ·have:(X+1)/(n+1+1)≤Y/(n+1+1)+6:=by
    apply Nat.le_of_lt_succ
    apply (Nat.div_lt_iff_lt_mul (show 0<n+1+1 by omega)).2
    rw [Nat.succ_mul,Nat.add_mul]
    rw [Nat.add_mul] at hd2
    omega
   omega
  ·exact Nat.le_trans (Nat.div_le_div_right (show Y≤X+1 by omega)) (Nat.le_succ _)
theorem bS_wd {y:PP} {D:Nat} (hD:12≤D) (hy:y.2≤D) (h01:y.1≤y.2) (hw:y.2≤y.1+1): ∀n,(beS y D n).2≤(beS y D n).1+8*(n+1)∧(beS y D n).1≤(beS y D n).2∧D≤(beS y D n).1
 |0=>⟨Nat.le_add_right _ _,Nat.le_refl _,Nat.le_refl _⟩
 |n+1=>by
  obtain ⟨a,b,c⟩:=bS_wd hD hy h01 hw n
  obtain ⟨d,e⟩:=bT_wd hD hy h01 hw (n+1)
  show (beS y D n).2+(beT y D (n+1)).2≤(beS y D n).1+(beT y D (n+1)).1+_∧(beS y D n).1+(beT y D (n+1)).1≤(beS y D n).2+(beT y D (n+1)).2∧D≤(beS y D n).1+(beT y D (n+1)).1
  omega
theorem bMul_wd {a b:PP} {D M w v:Nat} (hD:0<D) (ha:a.1≤a.2) (hb:b.1≤b.2) (wa:a.2≤a.1+w) (wb:b.2≤b.1+v) (ma:a.2≤D*M) (mb:b.2≤D*M):
 (bMul a b D).2≤(bMul a b D).1+(M*(w+v)+2)∧(bMul a b D).1≤(bMul a b D).2:=by
 show a.2*b.2/D+1≤a.1*b.1/D+(M*(w+v)+2)∧a.1*b.1/D≤a.2*b.2/D+1
 constructor
 ·have hd:=div_lt_succ (a.1*b.1) D hD
  have m1:a.2*b.2≤a.1*b.1+D*(M*(w+v)):=by
   obtain ⟨x,hx⟩: ∃x,a.2=a.1+x:=⟨a.2-a.1,by omega⟩
   obtain ⟨z,hz⟩: ∃z,b.2=b.1+z:=⟨b.2-b.1,by omega⟩
   have e:a.2*b.2=a.1*b.1+(a.2*z+x*b.1):=by
    rw [hz,Nat.mul_add,hx,Nat.add_mul a.1 x b.1];omega
   have p:=Nat.mul_le_mul ma (show z≤v by omega)
   have q:=Nat.mul_le_mul (show x≤w by omega) (show b.1≤D*M by omega)
   have r:D*(M*(w+v))=D*M*v+w*(D*M):=by
    rw [Nat.mul_add,Nat.mul_add,←Nat.mul_assoc,←Nat.mul_assoc,Nat.mul_comm w];omega
   omega
  have:a.2*b.2/D≤a.1*b.1/D+M*(w+v):=by
   apply Nat.le_of_lt_succ
   apply (Nat.div_lt_iff_lt_mul hD).2
   rw [Nat.succ_mul,Nat.add_mul,Nat.mul_comm (M*(w+v)) D]
   rw [Nat.add_mul] at hd
   omega
  omega
 ·exact Nat.le_trans (Nat.div_le_div_right (Nat.mul_le_mul ha hb)) (Nat.le_succ _)
theorem bMul_low {a b:PP} {D:Nat} (hD:0<D) (ha:D≤a.1) (hb:D≤b.1):D≤(bMul a b D).1:=by
 show D≤a.1*b.1/D
 rw [Nat.le_div_iff_mul_le hD]
 exact Nat.mul_le_mul ha hb
theorem InD.top {D:Nat} {y:Rat} {x:PP} (hy:0≤y) (h:InD D y x) (q:Nat) (hq:y≤(q:Rat)):x.1≤D*2^(2*q):=by
 obtain ⟨⟨T,a⟩,-⟩:=h
 have d:=EE_bound hy q hq T
 rw [four_pow] at d
 have f:=Rat.mul_le_mul_of_nonneg_left d (Rat.natCast_nonneg (a:=D))
 apply Rat.natCast_le_natCast.1
 rw [cast_mul]
 grind
theorem bPow_low {D:Nat} (hD:0<D) {a:PP} (ha:D≤a.1): ∀(f n:Nat),D≤(bPow a D f n).1
 |0,n=>Nat.le_refl _
 |f+1,n=>by
  unfold bPow
  split
  ·exact Nat.le_refl _
  ·have ih:=bPow_low hD ha f (n/2)
   have p:=bMul_low hD ih ih
   simp only []
   split
   ·exact bMul_low hD p ha
   ·exact p
theorem two_step (q x:Nat):2^(2*q+1)*(2^x+2^x)+2≤2^(2*q+3+x):=by
 have e1:2^(2*q+1)*(2^x+2^x)=2^(2*q+2+x):=by
  rw [←Nat.two_mul,←Nat.mul_assoc,←Nat.pow_succ,←Nat.pow_add]
 have e2:2^(2*q+3+x)=2^(2*q+2+x)*2:=by rw [←Nat.pow_succ];congr 1;omega
 have e3:2^2≤2^(2*q+2+x):=Nat.pow_le_pow_right (by omega) (by omega)
 omega
theorem bPow_wd {D:Nat} (hD:0<D) {a:PP} (ha:InD D 1 a) (h01:a.1≤a.2) (A q:Nat) (hA:a.2≤a.1+2^A) (hq:1≤q):
 ∀(L f n:Nat),n≤f→n<2^L→n≤q→2^(A+(4*q+6)*L)≤D→(bPow a D f n).2≤(bPow a D f n).1+2^(A+(4*q+6)*L)∧(bPow a D f n).1≤(bPow a D f n).2
 |L,0,n,_,_,_,_=>⟨Nat.le_add_right _ _,Nat.le_refl _⟩
 |0,f+1,n,_,h,_,_=>by
  have:n=0:=by omega
  unfold bPow;rw [if_pos this];exact ⟨Nat.le_add_right _ _,Nat.le_refl _⟩
 |L+1,f+1,n,hf,h,hnq,hDL=>by
  unfold bPow
  by_cases h0:n=0
  ·rw [if_pos h0];exact ⟨Nat.le_add_right _ _,Nat.le_refl _⟩
  ·rw [if_neg h0]
   dsimp only
   have hDL0:2^(A+(4*q+6)*L)≤D:=Nat.le_trans (Nat.pow_le_pow_right (by omega) (by rw [Nat.mul_succ];omega)) hDL
   obtain ⟨w1,l1⟩:=bPow_wd hD ha h01 A q hA hq L f (n/2) (by omega) (by rw [Nat.pow_succ] at h;omega) (by omega) hDL0
   have one:(0:Rat)≤1:=by grind
   have i1:=bPow_in hD one ha f (n/2) (by omega)
   rw [Rat.mul_one] at i1
   have nn:(0:Rat)≤((n/2:Nat):Rat):=Rat.natCast_nonneg
   have t1:=i1.top nn q (natle (by omega))
   generalize bPow a D f (n/2)=u at *
   obtain ⟨x,hx⟩: ∃x,x=A+(4*q+6)*L:=⟨_,rfl⟩
   rw [←hx] at w1 hDL0
   have u2:u.2≤D*2^(2*q+1):=by
    have a1:1≤2^(2*q):=Nat.two_pow_pos _
    have a2:=Nat.mul_le_mul_left D a1
    rw [Nat.pow_succ,←Nat.mul_assoc];omega
   have p:=bMul_wd hD l1 l1 w1 w1 u2 u2
   have pi:=bMul_in hD nn nn i1 i1
   have e:((n/2:Nat):Rat)+((n/2:Nat):Rat)=((n/2+n/2:Nat):Rat):=(Rat.natCast_add _ _).symm
   rw [e] at pi
   have pt:=pi.top Rat.natCast_nonneg q (natle (by omega))
   have ts:=two_step q x
   have pw:(bMul u u D).2≤(bMul u u D).1+2^(2*q+3+x):=by omega
   have pl:=p.2
   generalize bMul u u D=v at *
   have hxx:A+(4*q+6)*(L+1)=2*q+3+(2*q+3+x):=by rw [hx,Nat.mul_succ];omega
   by_cases h1:n%2=1
   ·rw [if_pos h1]
    have hD3:2^(2*q+3+x)≤D:=Nat.le_trans (Nat.pow_le_pow_right (by omega) (by omega)) hDL
    have v2:v.2≤D*2^(2*q+1):=by
     have a1:1≤2^(2*q):=Nat.two_pow_pos _
     have a2:=Nat.mul_le_mul_left D a1
     rw [Nat.pow_succ,←Nat.mul_assoc];omega
    have at1:=ha.top one 1 (by have:((1:Nat):Rat)=1:=rfl
                               grind)
    have hAx:2^A≤2^(2*q+3+x):=Nat.pow_le_pow_right (by omega) (by omega)
    have a2:a.2≤D*2^(2*q+1):=by
     have a1:2^(2*1)≤2^(2*q):=Nat.pow_le_pow_right (by omega) (by omega)
     have a3:=Nat.mul_le_mul_left D a1
     rw [Nat.pow_succ,←Nat.mul_assoc];omega
    have r:=bMul_wd hD pl h01 pw (show a.2≤a.1+2^(2*q+3+x) by omega) v2 a2
    have ts2:=two_step q (2*q+3+x)
    rw [hxx]
    exact ⟨by omega,r.2⟩
   ·rw [if_neg h1,hxx]
    have:2^(2*q+3+x)≤2^(2*q+3+(2*q+3+x)):=Nat.pow_le_pow_right (by omega) (by omega)
    exact ⟨by omega,pl⟩
end Go.Ulp
