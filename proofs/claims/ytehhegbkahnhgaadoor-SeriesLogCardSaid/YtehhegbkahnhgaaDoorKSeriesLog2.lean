/- SeriesLog: what the proof leans on, part 2 (Gp4 Gp5 Gp6 Gp7 Gp8 Gp9 Gp10 Gp11 Gp12 Gp13 Gp14). -/
import Derived.Test.YtehhegbkahnhgaaDoorKSeriesLog1
set_option linter.unusedVariables false
set_option linter.unusedSimpArgs false
namespace Go.Ulp
theorem ep_one (s:Nat):2*ep 1 (s+2)≤ep 1 (s+1):=by
 have h:=ep_succ 1 (s+1)
 have k:=ep_nonneg 1 (by grind) (s+2)
 have e:((s+1+1:Nat):Rat)=(s:Rat)+2:=by rw [cast_succ,cast_succ];grind
 rw [e] at h
 have p:=Rat.mul_nonneg (Rat.natCast_nonneg (a:=s)) k
 grind
theorem EE_one: ∀T,EE 1 (T+2)≤3-ep 1 (T+1)
 |0=>by
  have e1:ep 1 1=1:=by
   have h:=ep_succ 1 0
   have:((0+1:Nat):Rat)=1:=rfl
   rw [this] at h
   have e0:ep 1 0=1:=rfl
   grind
  unfold EE
  simp only [sumQ]
  rw [e1]
  have e0:ep 1 0=1:=rfl
  grind
 |T+1=>by
  have h:=EE_one T
  have k:=ep_one T
  unfold EE at h ⊢
  rw [show T+1+2=T+2+1 by omega,sumQ_succ]
  grind
theorem EE_one_le (T:Nat):EE 1 T≤3:=by
 have a:=EE_le 1 (by grind) (show T≤T+2 by omega)
 have b:=EE_one T
 have c:=ep_nonneg 1 (by grind) (T+1)
 grind
theorem ep_mono {x y:Rat} (hx:0≤x) (h:x≤y): ∀s,ep x s≤ep y s
 |0=>by simp only [ep];grind
 |s+1=>by
  have ih:=ep_mono hx h s
  have a:=ep_succ x s
  have b:=ep_succ y s
  have c:=Rat.mul_le_mul_of_nonneg_right h (ep_nonneg x hx s)
  have d:=Rat.mul_le_mul_of_nonneg_left ih (show 0≤y by grind)
  exact Rat.le_of_mul_le_mul_left (show ((s+1:Nat):Rat)*ep x (s+1)≤((s+1:Nat):Rat)*ep y (s+1) by grind) (nat_pos s)
theorem EE_nat (n T:Nat):EE (n:Rat) T≤((4^n:Nat):Rat):=by
 have h0:(0:Rat)≤1:=by grind
 have a:=EE_le (n:Rat) Rat.natCast_nonneg (show T≤T+1 by omega)
 have b:=EE_pow_le 1 h0 (T+1) (by omega) n
 rw [show (n:Rat)*1=(n:Rat) by grind] at b
 have c:=pow_mono_base (EE_nonneg 1 h0 (T+1)) (show EE 1 (T+1)≤4 by have:=EE_one_le (T+1);grind) n
 rw [cast_pow]
 have:((4:Nat):Rat)=4:=rfl
 rw [this]
 grind
theorem EE_bound {x:Rat} (hx:0≤x) (n:Nat) (h:x≤(n:Rat)) (T:Nat):EE x T≤((4^n:Nat):Rat):=by
 have a:=sumQ_le (f:=ep x) (g:=ep (n:Rat)) T (fun i _=>ep_mono hx h i)
 have b:=EE_nat n T
 unfold EE at b ⊢
 grind
theorem fac_ge (n:Nat):n^n≤4^n*fac n:=by
 have a:=ep_frac n 1 (by omega) (n:Rat) (by have:((1:Nat):Rat)=1:=rfl
                                            grind) n
 have b:=sumQ_term (f:=ep (n:Rat)) (ep_nonneg _ Rat.natCast_nonneg) (show n<n+1 by omega)
 have c:=EE_nat n (n+1)
 unfold EE at c
 have d:=Rat.mul_le_mul_of_nonneg_left (show ep (n:Rat) n≤((4^n:Nat):Rat) by grind) (Rat.natCast_nonneg (a:=fac n*1^n))
 rw [a,←cast_mul,Nat.one_pow,Nat.mul_one] at d
 have:=Rat.natCast_le_natCast.1 d
 rw [Nat.mul_comm];exact this
theorem fac_le (n:Nat):fac n≤n^n:=by
 have: ∀k,k≤n→fac k≤n^k:=by
  intro k
  induction k with
  |zero=>intro _;simp [fac]
  |succ k ih=>
   intro h
   rw [fac,Nat.pow_succ,Nat.mul_comm]
   exact Nat.mul_le_mul (ih (by omega)) h
 exact this n (Nat.le_refl _)
def lcmT:Nat→Nat
 |0=>1
 |n+1=>Nat.lcm (lcmT n) (n+1)
theorem lcmT_dvd: ∀(n i:Nat),1≤i→i≤n→i∣lcmT n
 |0,i,h1,h2=>by omega
 |n+1,i,h1,h2=>by
  by_cases e:i=n+1
  ·rw [e];exact Nat.dvd_lcm_right _ _
  ·exact Nat.dvd_trans (lcmT_dvd n i h1 (by omega)) (Nat.dvd_lcm_left _ _)
def chkF (F m:Nat):Nat→Bool
 |0=>true
 |k+1=>Nat.beq (F%prT k (m+1)) 0&&chkF F m k
theorem chkF_spec (F m:Nat): ∀n,chkF F m n=true→ ∀k,k<n→prT k (m+1)∣F
 |0,_,k,h=>by omega
 |n+1,h,k,hk=>by
  rw [chkF,Bool.and_eq_true,Nat.beq_eq] at h
  by_cases e:k=n
  ·rw [e];exact Nat.dvd_of_mod_eq_zero h.1
  ·exact chkF_spec F m n h.2 k (by omega)
theorem lcm512:lcmT 512<2^750:=by decide+kernel
theorem fac512:fac 512<2^3876:=by decide+kernel
theorem chk512:chkF (fac 512) 512 513=true:=by decide+kernel
theorem two_mul_pow {a b e f:Nat} (h:a≤2^e) (k:b≤2^f):a*b≤2^(e+f):=by
 rw [Nat.pow_add];exact Nat.mul_le_mul h k
theorem pow_le2 {a e:Nat} (n:Nat) (h:a≤2^e):a^n≤2^(e*n):=by
 rw [Nat.pow_mul];exact Nat.pow_le_pow_left h n
theorem gap_nat (a b d F L N H m ρ ν h κ:Nat) (hN:N≤2^ν) (hH:2^(h+2)≤H) (hb:0<b) (hF:F≤2^3876) (hL:L≤2^750) (hd:d≤2^6000)
 (hxb:a^H*b^N≤2^(κ*H+1300*N)*b^H) (hx:3876*N+750*N+ν*N+6000*m+(1+ρ*m)+(κ*H+1300*N)<h*H):F^N*L^N*(fac N*b^N)*d^m*2^(1+ρ*m)*a^H<fac H*b^H:=by
 have h1:=pow_le2 N hF
 have h2:=pow_le2 N hL
 have h3:=pow_le2 m hd
 have h4:fac N≤2^(ν*N):=Nat.le_trans (fac_le N) (pow_le2 N hN)
 have h5:2^(h*H)≤fac H:=by
  have k:=fac_ge H
  have k2:2^((h+2)*H)≤H^H:=by rw [Nat.pow_mul];exact Nat.pow_le_pow_left hH H
  have k3:4^H=2^(2*H):=by rw [Nat.pow_mul]
  rw [k3] at k
  have k4:2^(2*H)*2^(h*H)≤2^(2*H)*fac H:=by
   rw [←Nat.pow_add,show 2*H+h*H=(h+2)*H by rw [Nat.add_mul];omega];exact Nat.le_trans k2 k
  exact Nat.le_of_mul_le_mul_left k4 (Nat.two_pow_pos _)
 have h6:=two_mul_pow (two_mul_pow (two_mul_pow (two_mul_pow h1 h2) h4) h3) (Nat.le_refl (2^(1+ρ*m)))
 have e:F^N*L^N*(fac N*b^N)*d^m*2^(1+ρ*m)*a^H=F^N*L^N*fac N*d^m*2^(1+ρ*m)*(a^H*b^N):=by
  simp only [Nat.mul_assoc,Nat.mul_left_comm,Nat.mul_comm]
 rw [e]
 have h7:=Nat.mul_le_mul h6 hxb
 refine Nat.lt_of_le_of_lt h7 ?_
 rw [←Nat.mul_assoc,←Nat.pow_add]
 refine Nat.mul_lt_mul_of_lt_of_le ?_ (Nat.le_refl _) (Nat.pow_pos hb)
 exact Nat.lt_of_lt_of_le (Nat.pow_lt_pow_right (by omega) hx) h5
theorem two_cast (n:Nat):((2^n:Nat):Rat)=2^n:=by rw [cast_pow];rfl
theorem two_inv (G:Nat):(2:Rat)^G*(1/2^G)=1:=by
 have:=pow2_pos G
 grind
def GG:Nat:=8589934592
theorem gap_at (a b c d:Nat) (N H m ρ G u F L D:Nat) (hD:D=F^N*L^N*(fac N*b^N)*d^m) (hb:0<b) (x r:Rat) (hx:(b:Rat)*x=(a:Rat)) (hx0:0≤x) (hx1:b≤a*2^u)
 (hd0:0<d) (hL0:0<L) (hF0:0<F) (hρ1:1≤ρ) (hE: ∀T,EE x T≤(2:Rat)^(ρ-1)) (hM:(m+1)*N=H+1) (hm10:m+1≤2^10) (hH27:H+1≤2^27) (hm9:m≤2^9)
 (hxs:46+ρ+ρ*m+(H+1+N)+(27+u)*H<G) (hnat:D*2^(1+ρ*m)*a^H<fac H*b^H)
 (hint:IsZ ((D:Rat)*sumQ (fun k=>sumQ (fun i=>alp (nodes N (m+1)) k i*(ep x i*r^k)) (H+1)) (m+1)))
 (S0:Nat) (hS: ∀T,S0≤T→ -1≤(2:Rat)^G*(EE x T-r)∧(2:Rat)^G*(EE x T-r)≤1):False:=by
 have g2:=pow2_pos G
 obtain ⟨eps,heps⟩: ∃eps:Rat,eps=1/2^G:=⟨_,rfl⟩
 have he:(2:Rat)^G*eps=1:=by rw [heps];exact two_inv G
 have he0:0<eps:=Rat.not_le.1 (fun h=>by
  have:=Rat.mul_le_mul_of_nonneg_left h (show (0:Rat)≤2^G by grind)
  grind)
 have he1:eps≤1:=by
  have h:=pow2_mono (show 0≤G by omega)
  rw [Rat.pow_zero] at h
  have:=Rat.mul_le_mul_of_nonneg_right h (show 0≤eps by grind)
  grind
 have hS2: ∀T,S0≤T→ -eps≤EE x T-r∧EE x T-r≤eps:=fun T hT=>by
  obtain ⟨p,q⟩:=hS T hT
  constructor
  ·apply Rat.le_of_mul_le_mul_left _ g2
   grind
  ·apply Rat.le_of_mul_le_mul_left _ g2
   grind
 clear hS heps
 have hρ2:(2:Rat)^ρ=2*2^(ρ-1):=by
  conv=>lhs;rw [show ρ=ρ-1+1 by omega]
  exact pow2_succ _
 have hR1:=pow2_mono (show 0≤ρ-1 by omega)
 rw [Rat.pow_zero] at hR1
 have hr0:0≤r:=by
  have p:=(hS2 (S0+1) (by omega)).2
  have q:=EE_le x hx0 (show 1≤S0+1 by omega)
  have e1:EE x 1=1:=by unfold EE;simp only [sumQ,ep];grind
  grind
 have hrR:r≤(2:Rat)^ρ:=by
  have p:=(hS2 S0 (Nat.le_refl _)).1
  have q:=hE S0
  grind
 obtain ⟨z0,zt,hzs⟩: ∃z0 zt,nodes N (m+1)=z0::zt:=by
  cases h:nodes N (m+1) with
  |nil=>have:=nodes_len N (m+1);rw [h,hM] at this;simp at this
  |cons z zt=>exact ⟨z,zt,rfl⟩
 have hlen:=nodes_len N (m+1)
 have hlt:=nodes_lt N (m+1)
 rw [hzs,List.length_cons,hM] at hlen
 have hHl:zt.length=H:=by omega
 rw [hzs] at hint
 have hsz:=fun k i=>alp_size N (m+1) k i
 rw [hzs,hM] at hsz
 have hDp:0<D:=by
  rw [hD]
  exact Nat.mul_pos (Nat.mul_pos (Nat.mul_pos (Nat.pow_pos hF0) (Nat.pow_pos hL0)) (Nat.mul_pos (fac_pos _) (Nat.pow_pos hb))) (Nat.pow_pos hd0)
 clear hD
 have hep:=ep_frac a b hb x hx H
 have hbH:0<b^H:=Nat.pow_pos hb
 have hlowN:b^H≤a^H*2^(u*H):=by
  rw [Nat.pow_mul,←Nat.mul_pow];exact Nat.pow_le_pow_left hx1 H
 have hfH:fac H≤2^(27*H):=Nat.le_trans (fac_le H) (pow_le2 H (by omega))
 have hep0:=ep_nonneg x hx0 H
 have hlow:1≤(2:Rat)^((27+u)*H)*ep x H:=by
  have k1:((b^H:Nat):Rat)≤((a^H:Nat):Rat)*2^(u*H):=by
   rw [←two_cast,←cast_mul];exact natle hlowN
  rw [←hep,cast_mul] at k1
  have k2:(fac H:Rat)≤2^(27*H):=by rw [←two_cast];exact natle hfH
  have hbr:(0:Rat)<((b^H:Nat):Rat):=Rat.natCast_pos.2 hbH
  have p1:=pow2_pos (u*H)
  have e:(2:Rat)^((27+u)*H)=2^(27*H)*2^(u*H):=by
   rw [←two_cast,←two_cast,←two_cast,←cast_mul,←Nat.pow_add];congr 2;rw [←Nat.add_mul]
  rw [e]
  apply Rat.le_of_mul_le_mul_left _ hbr
  have k3:=Rat.mul_le_mul_of_nonneg_right k2 (Rat.mul_nonneg (Rat.mul_nonneg (show (0:Rat)≤((b^H:Nat):Rat) by grind) hep0) (show (0:Rat)≤2^(u*H) by grind))
  grind
 obtain ⟨er,her⟩: ∃er:Rat,er=((m+1:Nat):Rat)*(((H+1:Nat):Rat)*((2:Rat)^(H+1+N)*((2:Rat)^ρ*((m:Rat)*((2:Rat)^ρ)^m*eps)))):=⟨_,rfl⟩
 have e1:((2:Rat)^ρ)^m=2^(ρ*m):=by
  rw [←two_cast,←two_cast,←cast_pow,←Nat.pow_mul]
 have her2:(2:Rat)^G*er≤2^(46+ρ+ρ*m+(H+1+N)):=by
  have b1:((m+1:Nat):Rat)≤2^10:=by rw [←two_cast];exact natle hm10
  have b2:((H+1:Nat):Rat)≤2^27:=by rw [←two_cast];exact natle hH27
  have b3:(m:Rat)≤2^9:=by rw [←two_cast];exact natle hm9
  have e2:(2:Rat)^G*er=((m+1:Nat):Rat)*((H+1:Nat):Rat)*(m:Rat)*((2:Rat)^(H+1+N)*2^ρ*2^(ρ*m)):=by
   rw [her,e1];grind
  have e3:(2:Rat)^(46+ρ+ρ*m+(H+1+N))=(2:Rat)^10*2^27*2^9*(2^(H+1+N)*2^ρ*2^(ρ*m)):=by
   simp only [←two_cast,←cast_mul,←Nat.pow_add];congr 2;omega
  rw [e2,e3]
  have q0:=pow2_pos 10
  have q1:=pow2_pos 27
  have c1:=Rat.mul_le_mul_of_nonneg_right b1 (Rat.natCast_nonneg (a:=H+1))
  have c2:=Rat.mul_le_mul_of_nonneg_left b2 (show (0:Rat)≤2^10 by grind)
  have c3:=Rat.mul_le_mul_of_nonneg_right (show ((m+1:Nat):Rat)*((H+1:Nat):Rat)≤2^10*2^27 by grind) (Rat.natCast_nonneg (a:=m))
  have c4:=Rat.mul_le_mul_of_nonneg_left b3 (show (0:Rat)≤2^10*2^27 from Rat.mul_nonneg (by grind) (by grind))
  refine Rat.mul_le_mul_of_nonneg_right (by grind) ?_
  exact Rat.mul_nonneg (Rat.mul_nonneg (by have:=pow2_pos (H+1+N);grind) (by have:=pow2_pos ρ;grind)) (by have:=pow2_pos (ρ*m);grind)
 have h1:er<ep x H:=Rat.not_le.1 (fun hle=>by
  obtain ⟨E1,hE1⟩: ∃E,E=46+ρ+ρ*m+(H+1+N):=⟨_,rfl⟩
  rw [←hE1] at her2 hxs
  have k1:=Rat.mul_le_mul_of_nonneg_left hle (show (0:Rat)≤2^G by grind)
  have e4:(2:Rat)^G=2^(G-(27+u)*H)*2^((27+u)*H):=by
   rw [←two_cast,←two_cast,←two_cast,←cast_mul,←Nat.pow_add];congr 2;omega
  have k2:=Rat.mul_le_mul_of_nonneg_left hlow (show (0:Rat)≤2^(G-(27+u)*H) by have:=pow2_pos (G-(27+u)*H);grind)
  have k3:(2:Rat)^(E1+1)≤2^(G-(27+u)*H):=pow2_mono (by omega)
  rw [pow2_succ] at k3
  have k4:=pow2_pos E1
  rw [e4] at k1 her2
  grind)
 have h2:(D:Rat)*(ep x H*((2:Rat)^ρ)^m+er)<1:=by
  have hDr:(0:Rat)≤(D:Rat):=Rat.natCast_nonneg
  have hge:1≤((2:Rat)^ρ)^m:=by
   rw [e1]
   have:=pow2_mono (show 0≤ρ*m by omega)
   rwa [Rat.pow_zero] at this
  have k0:=Rat.mul_le_mul_of_nonneg_left hge hep0
  have k1:=Rat.mul_le_mul_of_nonneg_left (show ep x H*((2:Rat)^ρ)^m+er≤2*(ep x H*((2:Rat)^ρ)^m) by grind) hDr
  have hfb:(0:Rat)<((fac H*b^H:Nat):Rat):=Rat.natCast_pos.2 (Nat.mul_pos (fac_pos _) hbH)
  have k2:((D*2^(1+ρ*m)*a^H:Nat):Rat)<((fac H*b^H:Nat):Rat):=Rat.natCast_lt_natCast.2 hnat
  rw [cast_mul,cast_mul,←hep,two_cast,Nat.add_comm 1,pow2_succ,←e1] at k2
  have k3:(D:Rat)*(2*(ep x H*((2:Rat)^ρ)^m))<1:=by
   apply Rat.lt_of_mul_lt_mul_left _ (show (0:Rat)≤((fac H*b^H:Nat):Rat) by grind)
   generalize ((fac H*b^H:Nat):Rat)=w at *
   generalize ((2:Rat)^ρ)^m=v at *
   grind
  grind
 refine gap_core m (H+1) z0 zt (fun z hz=>by
  have:=hlt z (by rw [hzs];exact hz);omega) (by simp;omega) x r ((2:Rat)^ρ) ((2:Rat)^(H+1+N)) eps D hx0 hr0 (by grind) hrR (fun T=>by have:=hE T;grind) hsz S0 hS2 hint hDp ?_ ?_
 ·rw [hHl,←her];exact h1
 ·rw [hHl,←her];exact h2
theorem four_pow (q:Nat):(4:Nat)^q=2^(2*q):=by rw [Nat.pow_mul]
theorem gap_with (a b c d:Nat) (hb:0<b) (x r:Rat) (hx:(b:Rat)*x=(a:Rat)) (hx0:0≤x) (q:Nat) (hx4:x≤(q:Rat)) (hr:(d:Rat)*r=(c:Rat)) (u:Nat) (hx1:b≤a*2^u) (N H m ρ ν h κ:Nat) (hm:m=512) (hM:(m+1)*N=H+1) (hρ:ρ-1=2*q) (hρ1:1≤ρ)
 (hN:N≤2^ν) (hH:2^(h+2)≤H) (hH27:H+1≤2^27) (hxs:46+ρ+ρ*m+(H+1+N)+(27+u)*H<GG) (hxx:3876*N+750*N+ν*N+6000*m+(1+ρ*m)+(κ*H+1300*N)<h*H)
 (hxb:a^H*b^N≤2^(κ*H+1300*N)*b^H) (hd0:0<d) (hd:d≤2^6000)
 (S0:Nat) (hS: ∀T,S0≤T→ -1≤(2:Rat)^GG*(EE x T-r)∧(2:Rat)^GG*(EE x T-r)≤1):False:=by
 refine gap_at a b c d N H m ρ GG u (fac 512) (lcmT 512) _ rfl hb x r hx hx0 hx1 hd0 (by decide+kernel) (fac_pos _) hρ1 ?_ hM (by rw [hm];decide) hH27 (by rw [hm];decide) hxs ?_ ?_ S0 hS
 ·intro T
  have h:=EE_bound hx0 q hx4 T
  rw [four_pow,two_cast] at h
  rw [hρ]
  exact h
 ·exact gap_nat a b d (fac 512) (lcmT 512) N H m ρ ν h κ hN hH hb (Nat.le_of_lt fac512) (Nat.le_of_lt lcm512) hd hxb hxx
 ·exact comb_int m N (lcmT 512) (fac 512) a b c d hb x r hx hr (fun i h1 h2=>lcmT_dvd 512 i h1 (by rw [hm] at h2;exact h2)) (fun k hk=>by
   rw [hm];exact chkF_spec (fac 512) 512 513 chk512 k (by rw [hm] at hk;exact Nat.lt_succ_of_le hk)) (H+1)
theorem gap (a b c d:Nat) (hb:0<b) (x r:Rat) (hx:(b:Rat)*x=(a:Rat)) (hr:(d:Rat)*r=(c:Rat)) (u:Nat) (hu:u=1303) (hx1:b≤a*2^u) (hx2:a≤2^12*b)
 (hxb: ∀κ H N:Nat,1000*N≤2*H→a≤2^κ*b→a^H*b^N≤2^(κ*H+1300*N)*b^H) (hd0:0<d) (hd:d≤2^6000)
 (S0:Nat) (hS: ∀T,S0≤T→ -1≤(2:Rat)^GG*(EE x T-r)∧(2:Rat)^GG*(EE x T-r)≤1):False:=by
 have hbp:(0:Rat)<(b:Rat):=Rat.natCast_pos.2 hb
 have hx0:0≤x:=Rat.not_lt.1 (fun h=>by
  have:=Rat.mul_lt_mul_of_pos_left h hbp
  have q:=Rat.natCast_nonneg (a:=a)
  clear hS hxb hd hx1
  grind)
 obtain ⟨q,hq⟩: ∃q,q=4096:=⟨_,rfl⟩
 have hx4:x≤(q:Rat):=by
  apply Rat.le_of_mul_le_mul_left _ hbp
  rw [hx,Rat.mul_comm,←cast_mul]
  refine natle (Nat.le_trans hx2 (Nat.mul_le_mul_right _ ?_))
  rw [hq];decide
 obtain ⟨m,hm⟩: ∃m,m=512:=⟨_,rfl⟩
 obtain ⟨ρ,hρ⟩: ∃ρ,ρ=8193:=⟨_,rfl⟩
 by_cases hab:b≤a
 ·obtain ⟨N,hN⟩: ∃N,N=131072:=⟨_,rfl⟩
  obtain ⟨H,hH⟩: ∃H,H=67239935:=⟨_,rfl⟩
  exact gap_with a b c d hb x r hx hx0 q hx4 hr 0 (by rw [Nat.pow_zero,Nat.mul_one];exact hab) N H m ρ 17 24 12 hm (by rw [hm,hN,hH]) (by rw [hρ,hq]) (by rw [hρ];decide) (by rw [hN];decide) (by rw [hH];decide) (by rw [hH];decide)
   (by unfold GG;rw [hρ,hm,hH,hN];decide) (by rw [hρ,hm,hH,hN];decide) (hxb 12 H N (by rw [hH,hN];decide) hx2) hd0 hd S0 hS
 ·obtain ⟨N,hN⟩: ∃N,N=8192:=⟨_,rfl⟩
  obtain ⟨H,hH⟩: ∃H,H=4202495:=⟨_,rfl⟩
  exact gap_with a b c d hb x r hx hx0 q hx4 hr u hx1 N H m ρ 13 20 0 hm (by rw [hm,hN,hH]) (by rw [hρ,hq]) (by rw [hρ];decide) (by rw [hN];decide) (by rw [hH];decide) (by rw [hH];decide)
   (by unfold GG;rw [hρ,hm,hH,hN,hu];decide) (by rw [hρ,hm,hH,hN];decide) (hxb 0 H N (by rw [hH,hN];decide) (by rw [Nat.pow_zero,Nat.one_mul];exact Nat.le_of_lt (Nat.lt_of_not_le hab))) hd0 hd S0 hS
def cdiv (a b:Nat):Nat:=if a%b=0 then a/b else a/b+1
theorem cdiv_ge (a b:Nat) (hb:0<b):a≤cdiv a b*b:=by
 have h:=Nat.div_add_mod a b
 have k:=Nat.mod_lt a hb
 rw [Nat.mul_comm] at h
 unfold cdiv;split
 ·omega
 ·rw [Nat.add_mul];omega
theorem cdiv_lt (a b:Nat) (hb:0<b):cdiv a b*b<a+b:=by
 have h:=Nat.div_add_mod a b
 have k:=Nat.mod_lt a hb
 rw [Nat.mul_comm] at h
 unfold cdiv;split
 ·omega
 ·rw [Nat.add_mul];omega
theorem cdiv_le {a b c:Nat} (hb:0<b) (h:a≤c*b):cdiv a b≤c:=by
 have k:=cdiv_lt a b hb
 rcases Nat.lt_or_ge c (cdiv a b) with h1|h1
 ·have:(c+1)*b≤cdiv a b*b:=Nat.mul_le_mul_right b h1
  rw [Nat.add_mul] at this;omega
 ·exact h1
theorem cdiv_self_le (a b:Nat) (hb:0<b):cdiv a b≤a:=cdiv_le hb (Nat.le_mul_of_pos_right a hb)
abbrev PP:=Nat×Nat
def hfP (x:PP) (n:Nat):PP:=(x.1/2^n,cdiv x.2 (2^n))
def tmP (x y:PP) (p:Nat):PP:=hfP (x.1*y.1,x.2*y.2) p
def ovP (x:PP) (n:Nat):PP:=(x.1/n,cdiv x.2 n)
def plP (x y:PP):PP:=(x.1+y.1,x.2+y.2)
def InE (p:Nat) (y:Rat) (x:PP):Prop:=(∃T,(x.1:Rat)≤(2:Rat)^p*EE y T)∧ ∀T,(2:Rat)^p*EE y T≤(x.2:Rat)
theorem fdiv_cast (a b:Nat):((a/b:Nat):Rat)*(b:Rat)≤(a:Rat):=by
 rw [←cast_mul];exact natle (Nat.div_mul_le_self a b)
theorem cdiv_cast (a b:Nat) (hb:0<b):(a:Rat)≤((cdiv a b:Nat):Rat)*(b:Rat):=by
 rw [←cast_mul];exact natle (cdiv_ge a b hb)
theorem mul_le_mul2 {a b c d:Rat} (ha:0≤a) (h:a≤b) (hc:0≤c) (k:c≤d):a*c≤b*d:=by
 have p:=Rat.mul_le_mul_of_nonneg_right h hc
 have q:=Rat.mul_le_mul_of_nonneg_left k (show 0≤b by grind)
 grind
theorem EE_tail (y:Rat) (hy:0≤y) (h:2*y≤1) (n:Nat): ∀k,EE y (n+1+k)+ep y (n+k)≤EE y (n+1)+ep y n
 |0=>by show EE y (n+1)+ep y n≤_;grind
 |k+1=>by
  have ih:=EE_tail y hy h n k
  have a:=ep_succ y (n+k)
  have b:=ep_nonneg y hy (n+k)
  have c:=ep_nonneg y hy (n+k+1)
  have d:=Rat.mul_le_mul_of_nonneg_right (natle (show 1≤n+k+1 by omega)) c
  have e:=Rat.mul_le_mul_of_nonneg_right h b
  have f:EE y (n+1+(k+1))=EE y (n+1+k)+ep y (n+1+k):=rfl
  rw [f,show n+1+k=n+k+1 by omega,show n+(k+1)=n+k+1 by omega]
  rw [show n+1+k=n+k+1 by omega] at ih
  have o:((1:Nat):Rat)=1:=rfl
  rw [o] at d
  grind
theorem EE_rest (y:Rat) (hy:0≤y) (h:2*y≤1) (n T:Nat):EE y T≤EE y (n+1)+ep y n:=by
 have a:=EE_tail y hy h n T
 have b:=ep_nonneg y hy (n+T)
 have c:=EE_le y hy (show T≤n+1+T by omega)
 grind
theorem hfP_le {x:PP} (n:Nat) (h:x.1≤x.2):(hfP x n).1≤(hfP x n).2:=by
 show x.1/2^n≤cdiv x.2 (2^n)
 have a:=cdiv_ge x.2 (2^n) (Nat.two_pow_pos n)
 exact Nat.div_le_of_le_mul (by rw [Nat.mul_comm];omega)
theorem tmP_le {x y:PP} (p:Nat) (h:x.1≤x.2) (k:y.1≤y.2):(tmP x y p).1≤(tmP x y p).2:=hfP_le p (Nat.mul_le_mul h k)
theorem ovP_le {x:PP} (n:Nat) (hn:0<n) (h:x.1≤x.2):(ovP x n).1≤(ovP x n).2:=by
 show x.1/n≤cdiv x.2 n
 have a:=cdiv_ge x.2 n hn
 exact Nat.div_le_of_le_mul (by rw [Nat.mul_comm];omega)
theorem EE_ge_one {y:Rat} (hy:0≤y) {T:Nat} (h:1≤T):1≤EE y T:=by
 have a:=EE_le y hy h
 have e1:EE y 1=1:=by unfold EE;simp only [sumQ,ep];grind
 grind
def InD (D:Nat) (y:Rat) (x:PP):Prop:=(∃T,(x.1:Rat)≤(D:Rat)*EE y T)∧ ∀T,(D:Rat)*EE y T≤(x.2:Rat)
theorem InE.sc {p:Nat} {y:Rat} {x:PP} (h:InE p y x):InD (2^p) y x:=by
 unfold InD;rw [two_cast];exact h
theorem InD.low {D:Nat} {y:Rat} {x:PP} (hy:0≤y) (h:InD D y x): ∃T0,∀T,T0≤T→(x.1:Rat)≤(D:Rat)*EE y T∧(D:Rat)*EE y T≤(x.2:Rat):=by
 obtain ⟨⟨T0,a⟩,b⟩:=h
 refine ⟨T0,fun T hT=>⟨?_,b T⟩⟩
 have:=Rat.mul_le_mul_of_nonneg_left (EE_le y hy hT) (show (0:Rat)≤D from Rat.natCast_nonneg)
 grind
theorem div_lt_succ (a b:Nat) (hb:0<b):a<(a/b+1)*b:=by
 have h:=Nat.div_add_mod a b
 have k:=Nat.mod_lt a hb
 rw [Nat.mul_comm] at h
 rw [Nat.add_mul];omega
def dyQ (m:Nat) (e:Int):Rat:=(m:Rat)*2^e.toNat/2^(-e).toNat
theorem dyQ_eq (m:Nat) (e:Int):(2:Rat)^(-e).toNat*dyQ m e=(m:Rat)*2^e.toNat:=by
 have:=pow2_pos (-e).toNat
 unfold dyQ;grind
theorem dyQ_nonneg (m:Nat) (e:Int):0≤dyQ m e:=div_nonneg' (Rat.mul_nonneg Rat.natCast_nonneg (by have:=pow2_pos e.toNat;grind)) (pow2_pos _)
theorem pow2_add (a b:Nat):(2:Rat)^(a+b)=2^a*2^b:=by rw [←two_cast,←two_cast,←two_cast,←cast_mul,←Nat.pow_add]
theorem EE_two (y:Rat):EE y 2=1+y:=by
 have h:=ep_succ y 0
 have e1:((0+1:Nat):Rat)=1:=rfl
 have e0:ep y 0=1:=rfl
 rw [e1,e0] at h
 unfold EE
 simp only [sumQ]
 rw [e0];grind
def bMul (a b:PP) (D:Nat):PP:=(a.1*b.1/D,a.2*b.2/D+1)
def bOv (a:PP) (n:Nat):PP:=(a.1/n,a.2/n+1)
def beT (y:PP) (D:Nat):Nat→PP
 |0=>(D,D)
 |n+1=>bOv (bMul (beT y D n) y D) (n+1)
def beS (y:PP) (D:Nat):Nat→PP
 |0=>beT y D 0
 |n+1=>plP (beS y D n) (beT y D (n+1))
def up9 (x:PP):PP:=(x.1,x.2+9)
theorem div_succ_ge (a b:Nat) (hb:0<b):(a:Rat)≤((a/b+1:Nat):Rat)*(b:Rat):=by
 rw [←cast_mul];exact natle (Nat.le_of_lt (div_lt_succ a b hb))
theorem bT_in (y:PP) (D:Nat) (hD:0<D) (x:Rat) (hx:0≤x) (h1:(y.1:Rat)≤(D:Rat)*x) (h2:(D:Rat)*x≤(y.2:Rat)):
 ∀i,((beT y D i).1:Rat)≤(D:Rat)*ep x i∧(D:Rat)*ep x i≤((beT y D i).2:Rat)
 |0=>by
  have e0:ep x 0=1:=rfl
  rw [e0]
  show ((D:Nat):Rat)≤_∧_≤((D:Nat):Rat)
  constructor<;>grind
 |i+1=>by
  obtain ⟨a,b⟩:=bT_in y D hD x hx h1 h2 i
  have P:(0:Rat)<(D:Rat):=Rat.natCast_pos.2 hD
  have en:=ep_nonneg x hx i
  have hi:=nat_pos i
  have es:=ep_succ x i
  have lo1:=fdiv_cast ((beT y D i).1*y.1) D
  have lo2:=fdiv_cast ((beT y D i).1*y.1/D) (i+1)
  have hi1:=div_succ_ge ((beT y D i).2*y.2) D hD
  have hi2:=div_succ_ge ((beT y D i).2*y.2/D+1) (i+1) (by omega)
  rw [cast_mul] at lo1 hi1
  have m1:=mul_le_mul2 (Rat.natCast_nonneg (a:=(beT y D i).1)) a (Rat.natCast_nonneg (a:=y.1)) h1
  have m2:=mul_le_mul2 (Rat.mul_nonneg (show (0:Rat)≤D by grind) en) b (Rat.mul_nonneg (show (0:Rat)≤D by grind) hx) h2
  show ((((beT y D i).1*y.1/D)/(i+1):Nat):Rat)≤_∧_≤(((((beT y D i).2*y.2)/D+1)/(i+1)+1:Nat):Rat)
  generalize (((beT y D i).1*y.1/D/(i+1):Nat):Rat)=A at *
  generalize (((beT y D i).1*y.1/D:Nat):Rat)=B at *
  generalize (((((beT y D i).2*y.2)/D+1)/(i+1)+1:Nat):Rat)=C at *
  generalize ((((beT y D i).2*y.2)/D+1:Nat):Rat)=E at *
  generalize ((beT y D i).1:Rat)*(y.1:Rat)=u at *
  generalize ((beT y D i).2:Rat)*(y.2:Rat)=v at *
  generalize ((i+1:Nat):Rat)=n at *
  generalize (D:Rat)=Q at *
  have c1:B≤Q*(ep x i*x):=by
   apply Rat.le_of_mul_le_mul_left _ P
   grind
  have c2:Q*(ep x i*x)≤E:=by
   apply Rat.le_of_mul_le_mul_left _ P
   grind
  constructor
  ·apply Rat.le_of_mul_le_mul_left _ hi
   have:n*(Q*ep x (i+1))=Q*(ep x i*x):=by grind
   rw [this];grind
  ·apply Rat.le_of_mul_le_mul_left _ hi
   have:n*(Q*ep x (i+1))=Q*(ep x i*x):=by grind
   rw [this];grind
theorem bS_in (y:PP) (D:Nat) (hD:0<D) (x:Rat) (hx:0≤x) (h1:(y.1:Rat)≤(D:Rat)*x) (h2:(D:Rat)*x≤(y.2:Rat)):
 ∀n,((beS y D n).1:Rat)≤(D:Rat)*EE x (n+1)∧(D:Rat)*EE x (n+1)≤((beS y D n).2:Rat)
 |0=>by
  have h:=bT_in y D hD x hx h1 h2 0
  have e:EE x (0+1)=ep x 0:=by unfold EE;simp only [sumQ];grind
  rw [e];exact h
 |n+1=>by
  obtain ⟨a,b⟩:=bS_in y D hD x hx h1 h2 n
  obtain ⟨c,d⟩:=bT_in y D hD x hx h1 h2 (n+1)
  have e:EE x (n+1+1)=EE x (n+1)+ep x (n+1):=rfl
  rw [e]
  show (((beS y D n).1+(beT y D (n+1)).1:Nat):Rat)≤_∧_≤(((beS y D n).2+(beT y D (n+1)).2:Nat):Rat)
  rw [Rat.natCast_add,Rat.natCast_add]
  constructor<;>grind
theorem EE_tail1 (y:Rat) (hy:0≤y) (h:y≤1) (n:Nat) (hn:1≤n): ∀k,EE y (n+1+k)+ep y (n+k)≤EE y (n+1)+ep y n
 |0=>by show EE y (n+1)+ep y n≤_;grind
 |k+1=>by
  have ih:=EE_tail1 y hy h n hn k
  have a:=ep_succ y (n+k)
  have b:=ep_nonneg y hy (n+k)
  have c:=ep_nonneg y hy (n+k+1)
  have d:=Rat.mul_le_mul_of_nonneg_right (natle (show 2≤n+k+1 by omega)) c
  have e:=Rat.mul_le_mul_of_nonneg_right h b
  have f:EE y (n+1+(k+1))=EE y (n+1+k)+ep y (n+1+k):=rfl
  rw [f,show n+1+k=n+k+1 by omega,show n+(k+1)=n+k+1 by omega]
  rw [show n+1+k=n+k+1 by omega] at ih
  have o:((2:Nat):Rat)=2:=rfl
  rw [o] at d
  grind
theorem bothE_in (y:PP) (D:Nat) (hD:0<D) (x:Rat) (hx:0≤x) (h:x≤1) (h1:(y.1:Rat)≤(D:Rat)*x) (h2:(D:Rat)*x≤(y.2:Rat)) (n:Nat) (hn0:1≤n) (hn:(beT y D n).2≤2):
 InD D x (up9 (beS y D n)):=by
 obtain ⟨a,b⟩:=bS_in y D hD x hx h1 h2 n
 obtain ⟨-,d⟩:=bT_in y D hD x hx h1 h2 n
 refine ⟨⟨n+1,a⟩,fun T=>?_⟩
 have e1:=EE_tail1 x hx h n hn0 T
 have e2:=ep_nonneg x hx (n+T)
 have e3:=EE_le x hx (show T≤n+1+T by omega)
 have P:(0:Rat)<(D:Rat):=Rat.natCast_pos.2 hD
 have f:=Rat.mul_le_mul_of_nonneg_left (show EE x T≤EE x (n+1)+ep x n by grind) (show (0:Rat)≤D by grind)
 have g:=natle hn
 have o:((2:Nat):Rat)=2:=rfl
 have o9:((9:Nat):Rat)=9:=rfl
 rw [o] at g
 show _≤(((beS y D n).2+9:Nat):Rat)
 rw [Rat.natCast_add,o9]
 grind
def bPow (a:PP) (D:Nat):Nat→Nat→PP
 |0,_=>(D,D)
 |f+1,n=>if n=0 then (D,D) else
  let h:=bPow a D f (n/2)
  let p:=bMul h h D
  if n%2=1 then bMul p a D else p
theorem InD.one (D:Nat):InD D 0 (D,D):=by
 have e: ∀T,EE 0 (T+1)=1:=by
  intro T
  induction T with
  |zero=>unfold EE;simp only [sumQ,ep];grind
  |succ T ih=>
   unfold EE at ih ⊢
   rw [sumQ_succ,ih,ep];grind
 constructor
 ·exact ⟨1,by rw [show EE 0 1=1 from e 0];show (D:Rat)≤_;grind⟩
 ·intro T
  have a:=EE_le 0 (by grind) (show T≤T+1 by omega)
  rw [e T] at a
  have P:(0:Rat)≤(D:Rat):=Rat.natCast_nonneg
  have:=Rat.mul_le_mul_of_nonneg_left a P
  show _≤(D:Rat)
  grind
theorem bT_step {y:PP} {D:Nat} (hy:y.2≤D) (n:Nat):(beT y D (n+1)).2≤((beT y D n).2+1)/(n+1)+1:=by
 show ((beT y D n).2*y.2/D+1)/(n+1)+1≤_
 have a:(beT y D n).2*y.2/D≤(beT y D n).2:=Nat.div_le_of_le_mul (by rw [Nat.mul_comm D];exact Nat.mul_le_mul_left _ hy)
 exact Nat.add_le_add_right (Nat.div_le_div_right (Nat.add_le_add_right a 1)) 1
theorem bT_top {y:PP} {D:Nat} (hD:5≤D) (hy:y.2≤D): ∀n,(beT y D n).2≤D+2
 |0=>Nat.le_add_right _ _
 |1=>by
  have h:=bT_step hy 0
  have e:(beT y D 0).2=D:=rfl
  rw [e,show 0+1=1 from rfl,Nat.div_one] at h
  exact h
 |n+2=>by
  have ih:=bT_top hD hy (n+1)
  have h:=bT_step hy (n+1)
  have a:((beT y D (n+1)).2+1)/(n+1+1)≤((beT y D (n+1)).2+1)/2:=Nat.div_le_div_left (by omega) (by omega)
  show (beT y D (n+1+1)).2≤_
  omega
theorem bT_wd {y:PP} {D:Nat} (hD:12≤D) (hy:y.2≤D) (h01:y.1≤y.2) (hw:y.2≤y.1+1): ∀n,(beT y D n).2≤(beT y D n).1+8∧(beT y D n).1≤(beT y D n).2
 |0=>⟨Nat.le_add_right _ _,Nat.le_refl _⟩
 |1=>by
  show ((D*y.2/D+1)/(0+1)+1≤D*y.1/D/(0+1)+8)∧D*y.1/D/(0+1)≤(D*y.2/D+1)/(0+1)+1
  rw [Nat.mul_div_cancel_left _ (by omega),Nat.mul_div_cancel_left _ (by omega),show 0+1=1 from rfl,Nat.div_one,Nat.div_one]
  omega
 |n+2=>by
  obtain ⟨ih,il⟩:=bT_wd hD hy h01 hw (n+1)
  have ht:=bT_top (show 5≤D by omega) hy (n+1)
  show ((beT y D (n+1)).2*y.2/D+1)/(n+1+1)+1≤(beT y D (n+1)).1*y.1/D/(n+1+1)+8∧(beT y D (n+1)).1*y.1/D/(n+1+1)≤((beT y D (n+1)).2*y.2/D+1)/(n+1+1)+1
  generalize (beT y D (n+1)).1=l at *
  generalize (beT y D (n+1)).2=h at *
  have hd:=div_lt_succ (l*y.1) D (by omega)
  have m1:h*y.2≤l*y.1+10*D:=by
   have a:=Nat.mul_le_mul ih hw
   have b:(l+8)*(y.1+1)=l*y.1+l+(8*y.1+8):=by rw [Nat.add_mul,Nat.mul_add];omega
   omega
  have q1:h*y.2/D≤l*y.1/D+10:=by
   apply Nat.le_of_lt_succ
   apply (Nat.div_lt_iff_lt_mul (show 0<D by omega)).2
   rw [Nat.succ_mul,Nat.add_mul]
   rw [Nat.add_mul] at hd
   omega
  have q2:l*y.1/D≤h*y.2/D:=Nat.div_le_div_right (Nat.mul_le_mul il h01)
  generalize h*y.2/D=X at *
  generalize l*y.1/D=Y at *
  have hd2:=div_lt_succ Y (n+1+1) (by omega)
  constructor
  ·have:(X+1)/(n+1+1)≤Y/(n+1+1)+6:=by
    apply Nat.le_of_lt_succ
    apply (Nat.div_lt_iff_lt_mul (show 0<n+1+1 by omega)).2
    rw [Nat.succ_mul,Nat.add_mul]
    rw [Nat.add_mul] at hd2
    omega
   omega
  ·exact Nat.le_trans (Nat.div_le_div_right (show Y≤X+1 by omega)) (Nat.le_succ _)
theorem bS_wd {y:PP} {D:Nat} (hD:12≤D) (hy:y.2≤D) (h01:y.1≤y.2) (hw:y.2≤y.1+1): ∀n,(beS y D n).2≤(beS y D n).1+8*(n+1)∧(beS y D n).1≤(beS y D n).2∧D≤(beS y D n).1
 |0=>⟨Nat.le_add_right _ _,Nat.le_refl _,Nat.le_refl _⟩
 |n+1=>by
  obtain ⟨a,b,c⟩:=bS_wd hD hy h01 hw n
  obtain ⟨d,e⟩:=bT_wd hD hy h01 hw (n+1)
  show (beS y D n).2+(beT y D (n+1)).2≤(beS y D n).1+(beT y D (n+1)).1+_∧(beS y D n).1+(beT y D (n+1)).1≤(beS y D n).2+(beT y D (n+1)).2∧D≤(beS y D n).1+(beT y D (n+1)).1
  omega
theorem bMul_wd {a b:PP} {D M w v:Nat} (hD:0<D) (ha:a.1≤a.2) (hb:b.1≤b.2) (wa:a.2≤a.1+w) (wb:b.2≤b.1+v) (ma:a.2≤D*M) (mb:b.2≤D*M):
 (bMul a b D).2≤(bMul a b D).1+(M*(w+v)+2)∧(bMul a b D).1≤(bMul a b D).2:=by
 show a.2*b.2/D+1≤a.1*b.1/D+(M*(w+v)+2)∧a.1*b.1/D≤a.2*b.2/D+1
 constructor
 ·have hd:=div_lt_succ (a.1*b.1) D hD
  have m1:a.2*b.2≤a.1*b.1+D*(M*(w+v)):=by
   obtain ⟨x,hx⟩: ∃x,a.2=a.1+x:=⟨a.2-a.1,by omega⟩
   obtain ⟨z,hz⟩: ∃z,b.2=b.1+z:=⟨b.2-b.1,by omega⟩
   have e:a.2*b.2=a.1*b.1+(a.2*z+x*b.1):=by
    rw [hz,Nat.mul_add,hx,Nat.add_mul a.1 x b.1];omega
   have p:=Nat.mul_le_mul ma (show z≤v by omega)
   have q:=Nat.mul_le_mul (show x≤w by omega) (show b.1≤D*M by omega)
   have r:D*(M*(w+v))=D*M*v+w*(D*M):=by
    rw [Nat.mul_add,Nat.mul_add,←Nat.mul_assoc,←Nat.mul_assoc,Nat.mul_comm w];omega
   omega
  have:a.2*b.2/D≤a.1*b.1/D+M*(w+v):=by
   apply Nat.le_of_lt_succ
   apply (Nat.div_lt_iff_lt_mul hD).2
   rw [Nat.succ_mul,Nat.add_mul,Nat.mul_comm (M*(w+v)) D]
   rw [Nat.add_mul] at hd
   omega
  omega
 ·exact Nat.le_trans (Nat.div_le_div_right (Nat.mul_le_mul ha hb)) (Nat.le_succ _)
theorem bMul_low {a b:PP} {D:Nat} (hD:0<D) (ha:D≤a.1) (hb:D≤b.1):D≤(bMul a b D).1:=by
 show D≤a.1*b.1/D
 rw [Nat.le_div_iff_mul_le hD]
 exact Nat.mul_le_mul ha hb
theorem InD.top {D:Nat} {y:Rat} {x:PP} (hy:0≤y) (h:InD D y x) (q:Nat) (hq:y≤(q:Rat)):x.1≤D*2^(2*q):=by
 obtain ⟨⟨T,a⟩,-⟩:=h
 have d:=EE_bound hy q hq T
 rw [four_pow] at d
 have f:=Rat.mul_le_mul_of_nonneg_left d (Rat.natCast_nonneg (a:=D))
 apply Rat.natCast_le_natCast.1
 rw [cast_mul]
 grind
theorem bPow_low {D:Nat} (hD:0<D) {a:PP} (ha:D≤a.1): ∀(f n:Nat),D≤(bPow a D f n).1
 |0,n=>Nat.le_refl _
 |f+1,n=>by
  unfold bPow
  split
  ·exact Nat.le_refl _
  ·have ih:=bPow_low hD ha f (n/2)
   have p:=bMul_low hD ih ih
   simp only []
   split
   ·exact bMul_low hD p ha
   ·exact p
def frB (r b D:Nat):PP:=(r*D/b,cdiv (r*D) b)
theorem frB_ok (r b D:Nat) (hb:0<b) (hr:r<b):(frB r b D).2≤D∧(frB r b D).1≤(frB r b D).2∧(frB r b D).2≤(frB r b D).1+1:=by
 refine ⟨cdiv_le hb (by rw [Nat.mul_comm];exact Nat.mul_le_mul_left _ (Nat.le_of_lt hr)),?_,?_⟩
 ·show r*D/b≤cdiv (r*D) b
  unfold cdiv;split<;>omega
 ·show cdiv (r*D) b≤r*D/b+1
  unfold cdiv;split<;>omega
theorem frB_in (r b D:Nat) (hb:0<b) (x:Rat) (hx:(b:Rat)*x=(r:Rat)):((frB r b D).1:Rat)≤(D:Rat)*x∧(D:Rat)*x≤((frB r b D).2:Rat):=by
 have a:=fdiv_cast (r*D) b
 have c:=cdiv_cast (r*D) b hb
 have P:(0:Rat)<(b:Rat):=Rat.natCast_pos.2 hb
 rw [cast_mul] at a c
 show ((r*D/b:Nat):Rat)≤_∧_≤((cdiv (r*D) b:Nat):Rat)
 constructor
 ·apply Rat.le_of_mul_le_mul_left _ P
  grind
 ·apply Rat.le_of_mul_le_mul_left _ P
  grind
def eB (N b D n1 n2:Nat):PP:=bMul (bPow (up9 (beS (D,D) D n1)) D (N/b) (N/b)) (up9 (beS (frB (N%b) b D) D n2)) D
theorem frac_parts (N b:Nat) (hb:0<b) (y:Rat) (hy:(b:Rat)*y=(N:Rat)): ∃x:Rat,0≤x∧x≤1∧(b:Rat)*x=((N%b:Nat):Rat)∧y=((N/b:Nat):Rat)+x:=by
 have P:(0:Rat)<(b:Rat):=Rat.natCast_pos.2 hb
 have e:(N:Rat)=(b:Rat)*((N/b:Nat):Rat)+((N%b:Nat):Rat):=by
  rw [←cast_mul,←Rat.natCast_add,Nat.div_add_mod]
 have h0:(0:Rat)≤((N%b:Nat):Rat):=Rat.natCast_nonneg
 have h1:=natle (Nat.le_of_lt (Nat.mod_lt N hb))
 refine ⟨y-((N/b:Nat):Rat),?_,?_,by grind,by grind⟩
 ·exact Rat.le_of_mul_le_mul_left (show (b:Rat)*0≤b*(y-((N/b:Nat):Rat)) by grind) P
 ·exact Rat.le_of_mul_le_mul_left (show (b:Rat)*(y-((N/b:Nat):Rat))≤b*1 by grind) P
theorem eB_low (N b D n1 n2:Nat) (hb:0<b) (hD:12≤D):D≤(eB N b D n1 n2).1:=by
 have a:=(bS_wd hD (y:=(D,D)) (Nat.le_refl _) (Nat.le_refl _) (Nat.le_succ _) n1).2.2
 obtain ⟨f1,f2,f3⟩:=frB_ok (N%b) b D hb (Nat.mod_lt _ hb)
 have c:=(bS_wd hD f1 f2 f3 n2).2.2
 exact bMul_low (by omega) (bPow_low (by omega) (show D≤(up9 (beS (D,D) D n1)).1 from a) _ _) (show D≤(up9 (beS (frB (N%b) b D) D n2)).1 from c)
def conv (f g:Nat→Rat) (n:Nat):Rat:=sumQ (fun i=>f i*g (n-i)) (n+1)
theorem sumQ_cut (f:Nat→Rat) (n:Nat): ∀m,n≤m→sumQ (fun j=>if j<n then f j else 0) m=sumQ f n
 |0,h=>by rw [show n=0 by omega];rfl
 |m+1,h=>by
  by_cases e:n=m+1
  ·rw [←e]
   exact sumQ_congr _ (fun i hi=>by rw [if_pos hi])
  ·rw [sumQ_succ,sumQ_cut f n m (by omega),if_neg (by omega)];grind
theorem conv_swap (f g h:Nat→Rat) (n:Nat):conv f (conv g h) n=conv g (conv f h) n:=by
 have key: ∀f g:Nat→Rat,conv f (conv g h) n=sumQ (fun i=>sumQ (fun j=>if i+j≤n then f i*g j*h (n-(i+j)) else 0) (n+1)) (n+1):=by
  intro f g
  unfold conv
  refine sumQ_congr _ (fun i hi=>?_)
  rw [←sumQ_mul,←sumQ_cut (fun j=>f i*(g j*h (n-i-j))) (n-i+1) (n+1) (by omega)]
  refine sumQ_congr _ (fun j hj=>?_)
  by_cases c:i+j≤n
  ·rw [if_pos c,if_pos (by omega),show n-i-j=n-(i+j) by omega];grind
  ·rw [if_neg c,if_neg (by omega)]
 rw [key f g,key g f,sumQ_swap (fun i j=>if i+j≤n then f i*g j*h (n-(i+j)) else 0)]
 refine sumQ_congr _ (fun j hj=>sumQ_congr _ (fun i hi=>?_))
 rw [Nat.add_comm i j]
 split<;>grind
def dx (f:Nat→Rat) (n:Nat):Rat:=(n:Rat)*f n
theorem dx_conv (f g:Nat→Rat) (n:Nat):dx (conv f g) n=conv (dx f) g n+conv f (dx g) n:=by
 unfold dx conv
 rw [←sumQ_mul,←sumQ_add]
 refine sumQ_congr _ (fun i hi=>?_)
 have e:(n:Rat)=(i:Rat)+((n-i:Nat):Rat):=by rw [←Rat.natCast_add];congr 1;omega
 rw [e];grind
theorem conv_smul (c:Rat) (f g:Nat→Rat) (n:Nat):conv f (fun i=>c*g i) n=c*conv f g n:=by
 unfold conv
 rw [←sumQ_mul]
 exact sumQ_congr _ (fun i _=>by grind)
theorem conv_congr {f f' g g':Nat→Rat} {n:Nat} (hf: ∀i,i≤n→f i=f' i) (hg: ∀i,i≤n→g i=g' i):conv f g n=conv f' g' n:=by
 unfold conv
 exact sumQ_congr _ (fun i hi=>by rw [hf i (by omega),hg (n-i) (by omega)])
theorem conv_le {f f' g g':Nat→Rat} {n:Nat} (hf0: ∀i,0≤f i) (hg0: ∀i,0≤g i) (hf: ∀i,f i≤f' i) (hg: ∀i,g i≤g' i):conv f g n≤conv f' g' n:=by
 unfold conv
 exact sumQ_le _ (fun i hi=>mul_le_mul2 (hf0 i) (hf i) (hg0 _) (hg _))
theorem conv_nonneg {f g:Nat→Rat} (hf: ∀i,0≤f i) (hg: ∀i,0≤g i) (n:Nat):0≤conv f g n:=sumQ_nonneg _ (fun i _=>Rat.mul_nonneg (hf i) (hg _))
def pwS (a:Nat→Rat):Nat→Nat→Rat
 |0=>fun n=>if n=0 then 1 else 0
 |s+1=>fun n=>conv a (pwS a s) n/((s+1:Nat):Rat)
theorem pwS_succ (a:Nat→Rat) (s n:Nat):((s+1:Nat):Rat)*pwS a (s+1) n=conv a (pwS a s) n:=by
 have:=nat_ne s
 simp only [pwS];grind
theorem pwS_nonneg {a:Nat→Rat} (ha: ∀i,0≤a i): ∀s n,0≤pwS a s n
 |0,n=>by simp only [pwS];split<;>grind
 |s+1,n=>by simp only [pwS];exact div_nonneg' (conv_nonneg ha (pwS_nonneg ha s) n) (nat_pos s)
theorem pwS_le {a b:Nat→Rat} (ha: ∀i,0≤a i) (h: ∀i,a i≤b i): ∀s n,pwS a s n≤pwS b s n
 |0,n=>by simp only [pwS];grind
 |s+1,n=>by
  have e:=conv_le (n:=n) ha (pwS_nonneg ha s) h (pwS_le ha h s)
  have p:=pwS_succ a s n
  have q:=pwS_succ b s n
  exact Rat.le_of_mul_le_mul_left (show ((s+1:Nat):Rat)*pwS a (s+1) n≤((s+1:Nat):Rat)*pwS b (s+1) n by grind) (nat_pos s)
theorem pwS_congr {a b:Nat→Rat} {m:Nat} (h: ∀i,i≤m→a i=b i): ∀s n,n≤m→pwS a s n=pwS b s n
 |0,n,_=>rfl
 |s+1,n,hn=>by
  simp only [pwS]
  rw [conv_congr (n:=n) (fun i hi=>h i (by omega)) (fun i hi=>pwS_congr h s i (by omega))]
theorem pwS_low {a:Nat→Rat} (h0:a 0=0): ∀s n,n<s→pwS a s n=0
 |0,n,h=>by omega
 |s+1,n,h=>by
  have e:conv a (pwS a s) n=0:=by
   unfold conv
   rw [sumQ_congr (g:=fun _=>0) _ (fun i hi=>?_),sumQ_none]
   by_cases hi0:i=0
   ·rw [hi0,h0];grind
   ·rw [pwS_low h0 s (n-i) (by omega)];grind
  have p:=pwS_succ a s n
  rw [e] at p
  have:=nat_ne s
  grind
theorem pwS_dx (a:Nat→Rat): ∀s n,dx (pwS a (s+1)) n=conv (dx a) (pwS a s) n
 |0,n=>by
  have e: ∀n,pwS a 1 n=a n:=by
   intro n
   have p:=pwS_succ a 0 n
   have o:((0+1:Nat):Rat)=1:=rfl
   rw [o] at p
   have c:conv a (pwS a 0) n=a n:=by
    unfold conv
    rw [sumQ_succ,sumQ_congr (g:=fun _=>0) n (fun i hi=>by simp only [pwS];rw [if_neg (by omega)];grind),sumQ_none,Nat.sub_self]
    simp only [pwS,if_true];grind
   rw [c] at p
   grind
  have c:conv (dx a) (pwS a 0) n=dx a n:=by
   unfold conv
   rw [sumQ_succ,sumQ_congr (g:=fun _=>0) n (fun i hi=>by simp only [pwS];rw [if_neg (by omega)];grind),sumQ_none,Nat.sub_self]
   simp only [pwS,if_true];grind
  rw [c]
  unfold dx
  rw [show 0+1=1 from rfl,e n]
 |s+1,n=>by
  have ih:=pwS_dx a s
  apply cancel_nat (s+1)
  have e1:((s+1+1:Nat):Rat)*dx (pwS a (s+1+1)) n=dx (conv a (pwS a (s+1))) n:=by
   unfold dx
   have p:=pwS_succ a (s+1) n
   rw [←p];grind
  rw [e1,dx_conv]
  have e2:conv a (dx (pwS a (s+1))) n=((s+1:Nat):Rat)*conv (dx a) (pwS a (s+1)) n:=by
   rw [conv_congr (f':=a) (g':=conv (dx a) (pwS a s)) (fun _ _=>rfl) (fun i _=>ih i),conv_swap,←conv_smul]
   exact conv_congr (fun _ _=>rfl) (fun i _=>(pwS_succ a s i).symm)
  rw [e2,cast_succ (s+1)]
  grind
def exS (a:Nat→Rat) (T n:Nat):Rat:=sumQ (fun s=>pwS a s n) T
theorem exS_end {a:Nat→Rat} (h0:a 0=0) (n:Nat): ∀d,exS a (n+1+d) n=exS a (n+1) n
 |0=>rfl
 |d+1=>by
  have ih:=exS_end h0 n d
  unfold exS at ih ⊢
  rw [show n+1+(d+1)=n+1+d+1 by omega,sumQ_succ,ih,pwS_low h0 _ _ (by omega)]
  grind
theorem exS_rec {a:Nat→Rat} (h0:a 0=0) (n:Nat):(n:Rat)*exS a (n+1) n=conv (dx a) (fun j=>exS a (j+1) j) n:=by
 have e1:(n:Rat)*exS a (n+1) n=sumQ (fun s=>dx (pwS a s) n) (n+1):=by
  unfold exS dx;rw [←sumQ_mul]
 rw [e1,sumQ_head]
 have e2:dx (pwS a 0) n=0:=by
  unfold dx;simp only [pwS]
  by_cases h:n=0
  ·rw [h];have:((0:Nat):Rat)=0:=rfl
   rw [this];grind
  ·rw [if_neg h];grind
 rw [e2,Rat.zero_add,sumQ_congr (g:=fun s=>conv (dx a) (pwS a s) n) n (fun s _=>pwS_dx a s n)]
 unfold conv
 rw [sumQ_swap (fun s i=>dx a i*pwS a s (n-i))]
 refine sumQ_congr _ (fun i hi=>?_)
 rw [sumQ_mul]
 by_cases hi0:i=0
 ·rw [hi0]
  have:dx a 0=0:=by unfold dx;have:((0:Nat):Rat)=0:=rfl
                    rw [this];grind
  rw [this];grind
 ·congr 1
  have:=exS_end h0 (n-i) (i-1)
  unfold exS at this ⊢
  rw [show n-i+1+(i-1)=n by omega] at this
  exact this
def atA (i:Nat):Rat:=if i%2=1 then 2/(i:Rat) else 0
def atF (n:Nat):Rat:=if n=0 then 1 else 2
def od2 (i:Nat):Rat:=if i%2=1 then 2 else 0
theorem dx_atA (i:Nat):dx atA i=od2 i:=by
 unfold dx atA od2
 split
 ·rename_i h
  have:(i:Rat)≠0:=fun e=>by
   have:=Rat.natCast_eq_zero_iff.1 e
   omega
  grind
 ·grind
theorem atF_conv: ∀n,conv od2 atF n=2*(n:Rat)
 |0=>by
  unfold conv
  have:((0:Nat):Rat)=0:=rfl
  rw [this]
  simp only [sumQ,od2,atF];grind
 |n+1=>by
  have ih:=atF_conv n
  have e:conv od2 atF (n+1)=conv od2 atF n+od2 n+od2 (n+1):=by
   unfold conv
   rw [sumQ_succ,Nat.sub_self]
   have a:sumQ (fun i=>od2 i*atF (n+1-i)) (n+1)=sumQ (fun i=>od2 i*atF (n-i)) (n+1)+od2 n:=by
    rw [sumQ_succ,sumQ_succ,sumQ_congr (f:=fun i=>od2 i*atF (n+1-i)) (g:=fun i=>od2 i*atF (n-i)) n (fun i hi=>by
     unfold atF;rw [if_neg (by omega),if_neg (by omega)])]
    have b1:atF (n+1-n)=2:=by unfold atF;rw [if_neg (by omega)]
    have b2:atF (n-n)=1:=by unfold atF;rw [if_pos (by omega)]
    rw [b1,b2];grind
   have b3:atF 0=1:=rfl
   rw [a,b3];grind
  have f:od2 n+od2 (n+1)=2:=by
   unfold od2
   by_cases h:n%2=1
   ·rw [if_pos h,if_neg (by omega)];grind
   ·rw [if_neg h,if_pos (by omega)];grind
  rw [e,ih,cast_succ];grind
theorem atA_zero:atA 0=0:=by unfold atA;rw [if_neg (by omega)]
theorem atA_nonneg (i:Nat):0≤atA i:=by
 unfold atA
 split
 ·rename_i h
  exact div_nonneg' (by grind) (Rat.natCast_pos.2 (by omega))
 ·grind
theorem conv_zero {f g g':Nat→Rat} {n:Nat} (hf:f 0=0) (hg: ∀i,i<n→g i=g' i):conv f g n=conv f g' n:=by
 unfold conv
 rw [sumQ_head,sumQ_head,hf]
 rw [sumQ_congr (f:=fun i=>f (i+1)*g (n-(i+1))) (g:=fun i=>f (i+1)*g' (n-(i+1))) n (fun i hi=>by rw [hg (n-(i+1)) (by omega)])]
 grind
theorem exS_atF (n:Nat):exS atA (n+1) n=atF n:=by
 induction n using Nat.strongRecOn with
 |ind n ih=>
  cases n with
  |zero=>unfold exS atF;simp only [sumQ,pwS];grind
  |succ n=>
   have h:=exS_rec atA_zero (n+1)
   rw [conv_congr (f':=od2) (g':=fun j=>exS atA (j+1) j) (fun i _=>dx_atA i) (fun i _=>rfl),conv_zero (g':=atF) (by unfold od2;rw [if_neg (by omega)]) (fun i hi=>ih i (by omega))] at h
   rw [atF_conv] at h
   have e:atF (n+1)=2:=by unfold atF;rw [if_neg (by omega)]
   rw [e]
   apply cancel_nat n
   grind
def atN (N i:Nat):Rat:=if i<2*N then atA i else 0
theorem atN_nonneg (N i:Nat):0≤atN N i:=by
 unfold atN;split
 ·exact atA_nonneg i
 ·grind
theorem atN_le (N i:Nat):atN N i≤atA i:=by
 unfold atN;split
 ·grind
 ·exact atA_nonneg i
theorem exS_mono {a:Nat→Rat} (ha: ∀i,0≤a i) (n:Nat) {T S:Nat} (h:T≤S):exS a T n≤exS a S n:=sumQ_mono (fun s=>pwS_nonneg ha s n) h
theorem exS_le (N T n:Nat):exS (atN N) T n≤atF n:=by
 have a:exS (atN N) T n≤exS atA T n:=sumQ_le _ (fun s _=>pwS_le (atN_nonneg N) (atN_le N) s n)
 have b:=exS_mono atA_nonneg n (show T≤n+1+T by omega)
 rw [exS_end atA_zero n T,exS_atF] at b
 grind
theorem exS_eq (N T n:Nat) (hn:n<2*N) (hT:n+1≤T):exS (atN N) T n=atF n:=by
 have h0:atN N 0=0:=by unfold atN;rw [if_pos (by omega)];exact atA_zero
 have b:=exS_end h0 n (T-(n+1))
 rw [show n+1+(T-(n+1))=T by omega] at b
 rw [b,←exS_atF n]
 unfold exS
 exact sumQ_congr _ (fun s _=>pwS_congr (m:=n) (fun i hi=>by unfold atN;rw [if_pos (by omega)]) s n (Nat.le_refl n))
def at' (f:Nat→Rat) (z:Rat) (n:Nat):Rat:=f n*z^n
theorem at_conv (f g:Nat→Rat) (z:Rat) (n:Nat):sumQ (fun i=>at' f z i*at' g z (n-i)) (n+1)=conv f g n*z^n:=by
 unfold conv
 rw [sumQ_mul_right]
 refine sumQ_congr _ (fun i hi=>?_)
 unfold at'
 have e:z^n=z^i*z^(n-i):=by
  have: ∀j,z^(i+j)=z^i*z^j:=by
   intro j
   induction j with
   |zero=>rw [Rat.pow_zero,Nat.add_zero];grind
   |succ j ih=>rw [←Nat.add_assoc,Rat.pow_succ,Rat.pow_succ,ih];grind
  rw [←this];congr 1;omega
 rw [e];grind
theorem cv_at (f g:Nat→Rat) (z:Rat): ∀M,cv (at' f z) (at' g z) M=sumQ (at' (conv f g) z) M
 |0=>rfl
 |M+1=>by
  rw [cv_succ,cv_at f g z M,at_conv];rfl
theorem at_nonneg {f:Nat→Rat} {z:Rat} (hf: ∀i,0≤f i) (hz:0≤z) (n:Nat):0≤at' f z n:=Rat.mul_nonneg (hf n) (Rat.pow_nonneg hz)
def lnN (z:Rat) (N:Nat):Rat:=sumQ (at' (atN N) z) (2*N)
theorem lnN_all (z:Rat) (N M:Nat) (h:2*N≤M):sumQ (at' (atN N) z) M=lnN z N:=by
 unfold lnN
 induction M with
 |zero=>rw [show 2*N=0 by omega]
 |succ M ih=>
  by_cases e:2*N=M+1
  ·rw [e]
  ·rw [sumQ_succ,ih (by omega)]
   have:at' (atN N) z M=0:=by unfold at' atN;rw [if_neg (by omega)];grind
   rw [this];grind
theorem lnN_nonneg (z:Rat) (hz:0≤z) (N:Nat):0≤lnN z N:=sumQ_nonneg _ (fun i _=>at_nonneg (atN_nonneg N) hz i)
theorem lnN_part (z:Rat) (hz:0≤z) (N M:Nat):sumQ (at' (atN N) z) M≤lnN z N:=by
 have a:=sumQ_mono (fun i=>at_nonneg (atN_nonneg N) hz i) (show M≤M+2*N by omega)
 rw [lnN_all z N (M+2*N) (by omega)] at a
 exact a
theorem at_pow_le (z:Rat) (hz:0≤z) (N:Nat): ∀s M,sumQ (at' (pwS (atN N) s) z) M≤ep (lnN z N) s
 |0,M=>by
  have e0:ep (lnN z N) 0=1:=rfl
  rw [e0]
  have: ∀M,sumQ (at' (pwS (atN N) 0) z) (M+1)=1:=by
   intro M
   induction M with
   |zero=>simp only [sumQ,at',pwS];rw [Rat.pow_zero];grind
   |succ M ih=>
    rw [sumQ_succ,ih]
    unfold at';simp only [pwS];rw [if_neg (by omega)];grind
  have a:=sumQ_mono (fun i=>at_nonneg (pwS_nonneg (atN_nonneg N) 0) hz i) (show M≤M+1 by omega)
  rw [this M] at a
  exact a
 |s+1,M=>by
  have ih:=at_pow_le z hz N s M
  have a:=cv_le (at_nonneg (atN_nonneg N) hz) (at_nonneg (pwS_nonneg (atN_nonneg N) s) hz) M
  rw [cv_at] at a
  have b:=mul_le_mul2 (sumQ_nonneg M (fun i _=>at_nonneg (atN_nonneg N) hz i)) (lnN_part z hz N M) (sumQ_nonneg M (fun i _=>at_nonneg (pwS_nonneg (atN_nonneg N) s) hz i)) ih
  have c:=ep_succ (lnN z N) s
  have d:((s+1:Nat):Rat)*sumQ (at' (pwS (atN N) (s+1)) z) M=sumQ (at' (conv (atN N) (pwS (atN N) s)) z) M:=by
   rw [←sumQ_mul]
   refine sumQ_congr _ (fun i _=>?_)
   unfold at'
   rw [←pwS_succ];grind
  exact Rat.le_of_mul_le_mul_left (show ((s+1:Nat):Rat)*_≤((s+1:Nat):Rat)*_ by rw [d,c];grind) (nat_pos s)
theorem at_pow_ge (z:Rat) (hz:0≤z) (N:Nat): ∀s,∃M0,∀M,M0≤M→ep (lnN z N) s≤sumQ (at' (pwS (atN N) s) z) M
 |0=>⟨1,fun M hM=>by
  have a:=sumQ_mono (fun i=>at_nonneg (pwS_nonneg (atN_nonneg N) 0) hz i) hM
  have e:sumQ (at' (pwS (atN N) 0) z) 1=1:=by simp only [sumQ,at',pwS];rw [Rat.pow_zero];grind
  have e0:ep (lnN z N) 0=1:=rfl
  rw [e0];grind⟩
 |s+1=>by
  obtain ⟨M0,ih⟩:=at_pow_ge z hz N s
  refine ⟨(M0+2*N)+(M0+2*N),fun M hM=>?_⟩
  have i1:=ih (M0+2*N) (by omega)
  have a:=cv_ge (at_nonneg (atN_nonneg N) hz) (at_nonneg (pwS_nonneg (atN_nonneg N) s) hz) (M0+2*N)
  rw [cv_at,lnN_all z N _ (by omega)] at a
  have b:=sumQ_mono (fun i=>at_nonneg (conv_nonneg (atN_nonneg N) (pwS_nonneg (atN_nonneg N) s)) hz i) hM
  have c:=ep_succ (lnN z N) s
  have e:=Rat.mul_le_mul_of_nonneg_left i1 (lnN_nonneg z hz N)
  have d:((s+1:Nat):Rat)*sumQ (at' (pwS (atN N) (s+1)) z) M=sumQ (at' (conv (atN N) (pwS (atN N) s)) z) M:=by
   rw [←sumQ_mul]
   refine sumQ_congr _ (fun i _=>?_)
   unfold at'
   rw [←pwS_succ];grind
  exact Rat.le_of_mul_le_mul_left (show ((s+1:Nat):Rat)*_≤((s+1:Nat):Rat)*_ by rw [d,c];grind) (nat_pos s)
theorem at_ex (z:Rat) (N T M:Nat):sumQ (fun s=>sumQ (at' (pwS (atN N) s) z) M) T=sumQ (fun n=>exS (atN N) T n*z^n) M:=by
 rw [sumQ_swap (fun s n=>at' (pwS (atN N) s) z n)]
 refine sumQ_congr _ (fun n _=>?_)
 unfold exS
 rw [sumQ_mul_right];rfl
theorem geo (z:Rat): ∀M,(1-z)*sumQ (at' atF z) (M+1)=1+z-2*z^(M+1)
 |0=>by
  simp only [sumQ,at',atF];rw [Rat.pow_zero,Rat.pow_succ,Rat.pow_zero];grind
 |M+1=>by
  have ih:=geo z M
  rw [sumQ_succ]
  have e:at' atF z (M+1)=2*z^(M+1):=by unfold at' atF;rw [if_neg (by omega)]
  rw [e,Rat.pow_succ z (M+1)]
  grind
theorem ln_up (z:Rat) (hz:0≤z) (hz1:z≤1) (N T:Nat):(1-z)*EE (lnN z N) T≤1+z:=by
 have key: ∀T,∃M0,∀M,M0≤M→EE (lnN z N) T≤sumQ (fun s=>sumQ (at' (pwS (atN N) s) z) M) T:=by
  intro T
  induction T with
  |zero=>exact ⟨0,fun M _=>by unfold EE;rw [sumQ_zero,sumQ_zero];grind⟩
  |succ T ih=>
   obtain ⟨A,hA⟩:=ih
   obtain ⟨B,hB⟩:=at_pow_ge z hz N T
   refine ⟨A+B,fun M hM=>?_⟩
   have a:=hA M (by omega)
   have b:=hB M (by omega)
   unfold EE at a ⊢
   rw [sumQ_succ,sumQ_succ];grind
 obtain ⟨M0,h⟩:=key T
 have a:=h (M0+1) (by omega)
 rw [at_ex] at a
 have b:sumQ (fun n=>exS (atN N) T n*z^n) (M0+1)≤sumQ (at' atF z) (M0+1):=sumQ_le _ (fun n _=>Rat.mul_le_mul_of_nonneg_right (exS_le N T n) (Rat.pow_nonneg hz))
 have c:=geo z M0
 have d:=Rat.mul_le_mul_of_nonneg_left (show EE (lnN z N) T≤sumQ (at' atF z) (M0+1) by grind) (show 0≤1-z by grind)
 have e:=Rat.pow_nonneg (n:=M0+1) hz
 grind
theorem ln_low (z:Rat) (hz:0≤z) (hz1:z≤1) (N T:Nat) (hN:1≤N) (hT:2*N≤T):1+z-2*z^(2*N)≤(1-z)*EE (lnN z N) T:=by
 have a:sumQ (fun s=>sumQ (at' (pwS (atN N) s) z) (2*N)) T≤EE (lnN z N) T:=sumQ_le _ (fun s _=>at_pow_le z hz N s (2*N))
 rw [at_ex,sumQ_congr (g:=at' atF z) (2*N) (fun n hn=>by rw [exS_eq N T n hn (by omega)];rfl)] at a
 have c:=geo z (2*N-1)
 rw [show 2*N-1+1=2*N by omega] at c
 have d:=Rat.mul_le_mul_of_nonneg_left a (show 0≤1-z by grind)
 grind
end Go.Ulp
