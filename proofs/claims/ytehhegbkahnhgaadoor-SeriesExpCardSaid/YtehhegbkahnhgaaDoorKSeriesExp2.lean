/- SeriesExp: what the proof leans on, part 2 (Gp4 Gp5 Gp6 Gp7). -/
import Derived.Test.YtehhegbkahnhgaaDoorKSeriesExp1
set_option linter.unusedVariables false
set_option linter.unusedSimpArgs false
namespace Go.Ulp
theorem ep_one (s:Nat):2*ep 1 (s+2)≤ep 1 (s+1):=by
 have h:=ep_succ 1 (s+1)
 have k:=ep_nonneg 1 (by grind) (s+2)
 have e:((s+1+1:Nat):Rat)=(s:Rat)+2:=by rw [cast_succ,cast_succ];grind
 rw [e] at h
 have p:=Rat.mul_nonneg (Rat.natCast_nonneg (a:=s)) k
 grind
theorem EE_one: ∀T,EE 1 (T+2)≤3-ep 1 (T+1)
 |0=>by
  have e1:ep 1 1=1:=by
   have h:=ep_succ 1 0
   have:((0+1:Nat):Rat)=1:=rfl
   rw [this] at h
   have e0:ep 1 0=1:=rfl
   grind
  unfold EE
  simp only [sumQ]
  rw [e1]
  have e0:ep 1 0=1:=rfl
  grind
 |T+1=>by
  have h:=EE_one T
  have k:=ep_one T
  unfold EE at h ⊢
  rw [show T+1+2=T+2+1 by omega,sumQ_succ]
  grind
theorem EE_one_le (T:Nat):EE 1 T≤3:=by
 have a:=EE_le 1 (by grind) (show T≤T+2 by omega)
 have b:=EE_one T
 have c:=ep_nonneg 1 (by grind) (T+1)
 grind
theorem ep_mono {x y:Rat} (hx:0≤x) (h:x≤y): ∀s,ep x s≤ep y s
 |0=>by simp only [ep];grind
 |s+1=>by
  have ih:=ep_mono hx h s
  have a:=ep_succ x s
  have b:=ep_succ y s
  have c:=Rat.mul_le_mul_of_nonneg_right h (ep_nonneg x hx s)
  have d:=Rat.mul_le_mul_of_nonneg_left ih (show 0≤y by grind)
  exact Rat.le_of_mul_le_mul_left (show ((s+1:Nat):Rat)*ep x (s+1)≤((s+1:Nat):Rat)*ep y (s+1) by grind) (nat_pos s)
theorem EE_nat (n T:Nat):EE (n:Rat) T≤((4^n:Nat):Rat):=by
 have h0:(0:Rat)≤1:=by grind
 have a:=EE_le (n:Rat) Rat.natCast_nonneg (show T≤T+1 by omega)
 have b:=EE_pow_le 1 h0 (T+1) (by omega) n
 rw [show (n:Rat)*1=(n:Rat) by grind] at b
 have c:=pow_mono_base (EE_nonneg 1 h0 (T+1)) (show EE 1 (T+1)≤4 by have:=EE_one_le (T+1);grind) n
 rw [cast_pow]
 have:((4:Nat):Rat)=4:=rfl
 rw [this]
 grind
theorem EE_bound {x:Rat} (hx:0≤x) (n:Nat) (h:x≤(n:Rat)) (T:Nat):EE x T≤((4^n:Nat):Rat):=by
 have a:=sumQ_le (f:=ep x) (g:=ep (n:Rat)) T (fun i _=>ep_mono hx h i)
 have b:=EE_nat n T
 unfold EE at b ⊢
 grind
theorem fac_ge (n:Nat):n^n≤4^n*fac n:=by
 have a:=ep_frac n 1 (by omega) (n:Rat) (by have:((1:Nat):Rat)=1:=rfl
                                            grind) n
 have b:=sumQ_term (f:=ep (n:Rat)) (ep_nonneg _ Rat.natCast_nonneg) (show n<n+1 by omega)
 have c:=EE_nat n (n+1)
 unfold EE at c
 have d:=Rat.mul_le_mul_of_nonneg_left (show ep (n:Rat) n≤((4^n:Nat):Rat) by grind) (Rat.natCast_nonneg (a:=fac n*1^n))
 rw [a,←cast_mul,Nat.one_pow,Nat.mul_one] at d
 have:=Rat.natCast_le_natCast.1 d
 rw [Nat.mul_comm];exact this
theorem fac_le (n:Nat):fac n≤n^n:=by
 have: ∀k,k≤n→fac k≤n^k:=by
  intro k
  induction k with
  |zero=>intro _;simp [fac]
  |succ k ih=>
   intro h
   rw [fac,Nat.pow_succ,Nat.mul_comm]
   exact Nat.mul_le_mul (ih (by omega)) h
 exact this n (Nat.le_refl _)
def lcmT:Nat→Nat
 |0=>1
 |n+1=>Nat.lcm (lcmT n) (n+1)
theorem lcmT_dvd: ∀(n i:Nat),1≤i→i≤n→i∣lcmT n
 |0,i,h1,h2=>by omega
 |n+1,i,h1,h2=>by
  by_cases e:i=n+1
  ·rw [e];exact Nat.dvd_lcm_right _ _
  ·exact Nat.dvd_trans (lcmT_dvd n i h1 (by omega)) (Nat.dvd_lcm_left _ _)
def chkF (F m:Nat):Nat→Bool
 |0=>true
 |k+1=>Nat.beq (F%prT k (m+1)) 0&&chkF F m k
theorem chkF_spec (F m:Nat): ∀n,chkF F m n=true→ ∀k,k<n→prT k (m+1)∣F
 |0,_,k,h=>by omega
 |n+1,h,k,hk=>by
  rw [chkF,Bool.and_eq_true,Nat.beq_eq] at h
  by_cases e:k=n
  ·rw [e];exact Nat.dvd_of_mod_eq_zero h.1
  ·exact chkF_spec F m n h.2 k (by omega)
theorem lcm512:lcmT 512<2^750:=by decide+kernel
theorem fac512:fac 512<2^3876:=by decide+kernel
theorem chk512:chkF (fac 512) 512 513=true:=by decide+kernel
theorem two_mul_pow {a b e f:Nat} (h:a≤2^e) (k:b≤2^f):a*b≤2^(e+f):=by
 rw [Nat.pow_add];exact Nat.mul_le_mul h k
theorem pow_le2 {a e:Nat} (n:Nat) (h:a≤2^e):a^n≤2^(e*n):=by
 rw [Nat.pow_mul];exact Nat.pow_le_pow_left h n
theorem gap_nat (a b d F L N H m ρ ν h κ:Nat) (hN:N≤2^ν) (hH:2^(h+2)≤H) (hb:0<b) (hF:F≤2^3876) (hL:L≤2^750) (hd:d≤2^6000)
 (hxb:a^H*b^N≤2^(κ*H+1300*N)*b^H) (hx:3876*N+750*N+ν*N+6000*m+(1+ρ*m)+(κ*H+1300*N)<h*H):F^N*L^N*(fac N*b^N)*d^m*2^(1+ρ*m)*a^H<fac H*b^H:=by
 have h1:=pow_le2 N hF
 have h2:=pow_le2 N hL
 have h3:=pow_le2 m hd
 have h4:fac N≤2^(ν*N):=Nat.le_trans (fac_le N) (pow_le2 N hN)
 have h5:2^(h*H)≤fac H:=by
  have k:=fac_ge H
  have k2:2^((h+2)*H)≤H^H:=by rw [Nat.pow_mul];exact Nat.pow_le_pow_left hH H
  have k3:4^H=2^(2*H):=by rw [Nat.pow_mul]
  rw [k3] at k
  have k4:2^(2*H)*2^(h*H)≤2^(2*H)*fac H:=by
   rw [←Nat.pow_add,show 2*H+h*H=(h+2)*H by rw [Nat.add_mul];omega];exact Nat.le_trans k2 k
  exact Nat.le_of_mul_le_mul_left k4 (Nat.two_pow_pos _)
 have h6:=two_mul_pow (two_mul_pow (two_mul_pow (two_mul_pow h1 h2) h4) h3) (Nat.le_refl (2^(1+ρ*m)))
 have e:F^N*L^N*(fac N*b^N)*d^m*2^(1+ρ*m)*a^H=F^N*L^N*fac N*d^m*2^(1+ρ*m)*(a^H*b^N):=by
  simp only [Nat.mul_assoc,Nat.mul_left_comm,Nat.mul_comm]
 rw [e]
 have h7:=Nat.mul_le_mul h6 hxb
 refine Nat.lt_of_le_of_lt h7 ?_
 rw [←Nat.mul_assoc,←Nat.pow_add]
 refine Nat.mul_lt_mul_of_lt_of_le ?_ (Nat.le_refl _) (Nat.pow_pos hb)
 exact Nat.lt_of_lt_of_le (Nat.pow_lt_pow_right (by omega) hx) h5
theorem two_cast (n:Nat):((2^n:Nat):Rat)=2^n:=by rw [cast_pow];rfl
theorem two_inv (G:Nat):(2:Rat)^G*(1/2^G)=1:=by
 have:=pow2_pos G
 grind
def GG:Nat:=8589934592
theorem gap_at (a b c d:Nat) (N H m ρ G u F L D:Nat) (hD:D=F^N*L^N*(fac N*b^N)*d^m) (hb:0<b) (x r:Rat) (hx:(b:Rat)*x=(a:Rat)) (hx0:0≤x) (hx1:b≤a*2^u)
 (hd0:0<d) (hL0:0<L) (hF0:0<F) (hρ1:1≤ρ) (hE: ∀T,EE x T≤(2:Rat)^(ρ-1)) (hM:(m+1)*N=H+1) (hm10:m+1≤2^10) (hH27:H+1≤2^27) (hm9:m≤2^9)
 (hxs:46+ρ+ρ*m+(H+1+N)+(27+u)*H<G) (hnat:D*2^(1+ρ*m)*a^H<fac H*b^H)
 (hint:IsZ ((D:Rat)*sumQ (fun k=>sumQ (fun i=>alp (nodes N (m+1)) k i*(ep x i*r^k)) (H+1)) (m+1)))
 (S0:Nat) (hS: ∀T,S0≤T→ -1≤(2:Rat)^G*(EE x T-r)∧(2:Rat)^G*(EE x T-r)≤1):False:=by
 have g2:=pow2_pos G
 obtain ⟨eps,heps⟩: ∃eps:Rat,eps=1/2^G:=⟨_,rfl⟩
 have he:(2:Rat)^G*eps=1:=by rw [heps];exact two_inv G
 have he0:0<eps:=Rat.not_le.1 (fun h=>by
  have:=Rat.mul_le_mul_of_nonneg_left h (show (0:Rat)≤2^G by grind)
  grind)
 have he1:eps≤1:=by
  have h:=pow2_mono (show 0≤G by omega)
  rw [Rat.pow_zero] at h
  have:=Rat.mul_le_mul_of_nonneg_right h (show 0≤eps by grind)
  grind
 have hS2: ∀T,S0≤T→ -eps≤EE x T-r∧EE x T-r≤eps:=fun T hT=>by
  obtain ⟨p,q⟩:=hS T hT
  constructor
  ·apply Rat.le_of_mul_le_mul_left _ g2
   grind
  ·apply Rat.le_of_mul_le_mul_left _ g2
   grind
 clear hS heps
 have hρ2:(2:Rat)^ρ=2*2^(ρ-1):=by
  conv=>lhs;rw [show ρ=ρ-1+1 by omega]
  exact pow2_succ _
 have hR1:=pow2_mono (show 0≤ρ-1 by omega)
 rw [Rat.pow_zero] at hR1
 have hr0:0≤r:=by
  have p:=(hS2 (S0+1) (by omega)).2
  have q:=EE_le x hx0 (show 1≤S0+1 by omega)
  have e1:EE x 1=1:=by unfold EE;simp only [sumQ,ep];grind
  grind
 have hrR:r≤(2:Rat)^ρ:=by
  have p:=(hS2 S0 (Nat.le_refl _)).1
  have q:=hE S0
  grind
 obtain ⟨z0,zt,hzs⟩: ∃z0 zt,nodes N (m+1)=z0::zt:=by
  cases h:nodes N (m+1) with
  |nil=>have:=nodes_len N (m+1);rw [h,hM] at this;simp at this
  |cons z zt=>exact ⟨z,zt,rfl⟩
 have hlen:=nodes_len N (m+1)
 have hlt:=nodes_lt N (m+1)
 rw [hzs,List.length_cons,hM] at hlen
 have hHl:zt.length=H:=by omega
 rw [hzs] at hint
 have hsz:=fun k i=>alp_size N (m+1) k i
 rw [hzs,hM] at hsz
 have hDp:0<D:=by
  rw [hD]
  exact Nat.mul_pos (Nat.mul_pos (Nat.mul_pos (Nat.pow_pos hF0) (Nat.pow_pos hL0)) (Nat.mul_pos (fac_pos _) (Nat.pow_pos hb))) (Nat.pow_pos hd0)
 clear hD
 have hep:=ep_frac a b hb x hx H
 have hbH:0<b^H:=Nat.pow_pos hb
 have hlowN:b^H≤a^H*2^(u*H):=by
  rw [Nat.pow_mul,←Nat.mul_pow];exact Nat.pow_le_pow_left hx1 H
 have hfH:fac H≤2^(27*H):=Nat.le_trans (fac_le H) (pow_le2 H (by omega))
 have hep0:=ep_nonneg x hx0 H
 have hlow:1≤(2:Rat)^((27+u)*H)*ep x H:=by
  have k1:((b^H:Nat):Rat)≤((a^H:Nat):Rat)*2^(u*H):=by
   rw [←two_cast,←cast_mul];exact natle hlowN
  rw [←hep,cast_mul] at k1
  have k2:(fac H:Rat)≤2^(27*H):=by rw [←two_cast];exact natle hfH
  have hbr:(0:Rat)<((b^H:Nat):Rat):=Rat.natCast_pos.2 hbH
  have p1:=pow2_pos (u*H)
  have e:(2:Rat)^((27+u)*H)=2^(27*H)*2^(u*H):=by
   rw [←two_cast,←two_cast,←two_cast,←cast_mul,←Nat.pow_add];congr 2;rw [←Nat.add_mul]
  rw [e]
  apply Rat.le_of_mul_le_mul_left _ hbr
  have k3:=Rat.mul_le_mul_of_nonneg_right k2 (Rat.mul_nonneg (Rat.mul_nonneg (show (0:Rat)≤((b^H:Nat):Rat) by grind) hep0) (show (0:Rat)≤2^(u*H) by grind))
  grind
 obtain ⟨er,her⟩: ∃er:Rat,er=((m+1:Nat):Rat)*(((H+1:Nat):Rat)*((2:Rat)^(H+1+N)*((2:Rat)^ρ*((m:Rat)*((2:Rat)^ρ)^m*eps)))):=⟨_,rfl⟩
 have e1:((2:Rat)^ρ)^m=2^(ρ*m):=by
  rw [←two_cast,←two_cast,←cast_pow,←Nat.pow_mul]
 have her2:(2:Rat)^G*er≤2^(46+ρ+ρ*m+(H+1+N)):=by
  have b1:((m+1:Nat):Rat)≤2^10:=by rw [←two_cast];exact natle hm10
  have b2:((H+1:Nat):Rat)≤2^27:=by rw [←two_cast];exact natle hH27
  have b3:(m:Rat)≤2^9:=by rw [←two_cast];exact natle hm9
  have e2:(2:Rat)^G*er=((m+1:Nat):Rat)*((H+1:Nat):Rat)*(m:Rat)*((2:Rat)^(H+1+N)*2^ρ*2^(ρ*m)):=by
   rw [her,e1];grind
  have e3:(2:Rat)^(46+ρ+ρ*m+(H+1+N))=(2:Rat)^10*2^27*2^9*(2^(H+1+N)*2^ρ*2^(ρ*m)):=by
   simp only [←two_cast,←cast_mul,←Nat.pow_add];congr 2;omega
  rw [e2,e3]
  have q0:=pow2_pos 10
  have q1:=pow2_pos 27
  have c1:=Rat.mul_le_mul_of_nonneg_right b1 (Rat.natCast_nonneg (a:=H+1))
  have c2:=Rat.mul_le_mul_of_nonneg_left b2 (show (0:Rat)≤2^10 by grind)
  have c3:=Rat.mul_le_mul_of_nonneg_right (show ((m+1:Nat):Rat)*((H+1:Nat):Rat)≤2^10*2^27 by grind) (Rat.natCast_nonneg (a:=m))
  have c4:=Rat.mul_le_mul_of_nonneg_left b3 (show (0:Rat)≤2^10*2^27 from Rat.mul_nonneg (by grind) (by grind))
  refine Rat.mul_le_mul_of_nonneg_right (by grind) ?_
  exact Rat.mul_nonneg (Rat.mul_nonneg (by have:=pow2_pos (H+1+N);grind) (by have:=pow2_pos ρ;grind)) (by have:=pow2_pos (ρ*m);grind)
 have h1:er<ep x H:=Rat.not_le.1 (fun hle=>by
  obtain ⟨E1,hE1⟩: ∃E,E=46+ρ+ρ*m+(H+1+N):=⟨_,rfl⟩
  rw [←hE1] at her2 hxs
  have k1:=Rat.mul_le_mul_of_nonneg_left hle (show (0:Rat)≤2^G by grind)
  have e4:(2:Rat)^G=2^(G-(27+u)*H)*2^((27+u)*H):=by
   rw [←two_cast,←two_cast,←two_cast,←cast_mul,←Nat.pow_add];congr 2;omega
  have k2:=Rat.mul_le_mul_of_nonneg_left hlow (show (0:Rat)≤2^(G-(27+u)*H) by have:=pow2_pos (G-(27+u)*H);grind)
  have k3:(2:Rat)^(E1+1)≤2^(G-(27+u)*H):=pow2_mono (by omega)
  rw [pow2_succ] at k3
  have k4:=pow2_pos E1
  rw [e4] at k1 her2
  grind)
 have h2:(D:Rat)*(ep x H*((2:Rat)^ρ)^m+er)<1:=by
  have hDr:(0:Rat)≤(D:Rat):=Rat.natCast_nonneg
  have hge:1≤((2:Rat)^ρ)^m:=by
   rw [e1]
   have:=pow2_mono (show 0≤ρ*m by omega)
   rwa [Rat.pow_zero] at this
  have k0:=Rat.mul_le_mul_of_nonneg_left hge hep0
  have k1:=Rat.mul_le_mul_of_nonneg_left (show ep x H*((2:Rat)^ρ)^m+er≤2*(ep x H*((2:Rat)^ρ)^m) by grind) hDr
  have hfb:(0:Rat)<((fac H*b^H:Nat):Rat):=Rat.natCast_pos.2 (Nat.mul_pos (fac_pos _) hbH)
  have k2:((D*2^(1+ρ*m)*a^H:Nat):Rat)<((fac H*b^H:Nat):Rat):=Rat.natCast_lt_natCast.2 hnat
  rw [cast_mul,cast_mul,←hep,two_cast,Nat.add_comm 1,pow2_succ,←e1] at k2
  have k3:(D:Rat)*(2*(ep x H*((2:Rat)^ρ)^m))<1:=by
   apply Rat.lt_of_mul_lt_mul_left _ (show (0:Rat)≤((fac H*b^H:Nat):Rat) by grind)
   generalize ((fac H*b^H:Nat):Rat)=w at *
   generalize ((2:Rat)^ρ)^m=v at *
   grind
  grind
 refine gap_core m (H+1) z0 zt (fun z hz=>by
  have:=hlt z (by rw [hzs];exact hz);omega) (by simp;omega) x r ((2:Rat)^ρ) ((2:Rat)^(H+1+N)) eps D hx0 hr0 (by grind) hrR (fun T=>by have:=hE T;grind) hsz S0 hS2 hint hDp ?_ ?_
 ·rw [hHl,←her];exact h1
 ·rw [hHl,←her];exact h2
theorem four_pow (q:Nat):(4:Nat)^q=2^(2*q):=by rw [Nat.pow_mul]
theorem gap_with (a b c d:Nat) (hb:0<b) (x r:Rat) (hx:(b:Rat)*x=(a:Rat)) (hx0:0≤x) (q:Nat) (hx4:x≤(q:Rat)) (hr:(d:Rat)*r=(c:Rat)) (u:Nat) (hx1:b≤a*2^u) (N H m ρ ν h κ:Nat) (hm:m=512) (hM:(m+1)*N=H+1) (hρ:ρ-1=2*q) (hρ1:1≤ρ)
 (hN:N≤2^ν) (hH:2^(h+2)≤H) (hH27:H+1≤2^27) (hxs:46+ρ+ρ*m+(H+1+N)+(27+u)*H<GG) (hxx:3876*N+750*N+ν*N+6000*m+(1+ρ*m)+(κ*H+1300*N)<h*H)
 (hxb:a^H*b^N≤2^(κ*H+1300*N)*b^H) (hd0:0<d) (hd:d≤2^6000)
 (S0:Nat) (hS: ∀T,S0≤T→ -1≤(2:Rat)^GG*(EE x T-r)∧(2:Rat)^GG*(EE x T-r)≤1):False:=by
 refine gap_at a b c d N H m ρ GG u (fac 512) (lcmT 512) _ rfl hb x r hx hx0 hx1 hd0 (by decide+kernel) (fac_pos _) hρ1 ?_ hM (by rw [hm];decide) hH27 (by rw [hm];decide) hxs ?_ ?_ S0 hS
 ·intro T
  have h:=EE_bound hx0 q hx4 T
  rw [four_pow,two_cast] at h
  rw [hρ]
  exact h
 ·exact gap_nat a b d (fac 512) (lcmT 512) N H m ρ ν h κ hN hH hb (Nat.le_of_lt fac512) (Nat.le_of_lt lcm512) hd hxb hxx
 ·exact comb_int m N (lcmT 512) (fac 512) a b c d hb x r hx hr (fun i h1 h2=>lcmT_dvd 512 i h1 (by rw [hm] at h2;exact h2)) (fun k hk=>by
   rw [hm];exact chkF_spec (fac 512) 512 513 chk512 k (by rw [hm] at hk;exact Nat.lt_succ_of_le hk)) (H+1)
theorem gap (a b c d:Nat) (hb:0<b) (x r:Rat) (hx:(b:Rat)*x=(a:Rat)) (hr:(d:Rat)*r=(c:Rat)) (u:Nat) (hu:u=1303) (hx1:b≤a*2^u) (hx2:a≤2^12*b)
 (hxb: ∀κ H N:Nat,1000*N≤2*H→a≤2^κ*b→a^H*b^N≤2^(κ*H+1300*N)*b^H) (hd0:0<d) (hd:d≤2^6000)
 (S0:Nat) (hS: ∀T,S0≤T→ -1≤(2:Rat)^GG*(EE x T-r)∧(2:Rat)^GG*(EE x T-r)≤1):False:=by
 have hbp:(0:Rat)<(b:Rat):=Rat.natCast_pos.2 hb
 have hx0:0≤x:=Rat.not_lt.1 (fun h=>by
  have:=Rat.mul_lt_mul_of_pos_left h hbp
  have q:=Rat.natCast_nonneg (a:=a)
  clear hS hxb hd hx1
  grind)
 obtain ⟨q,hq⟩: ∃q,q=4096:=⟨_,rfl⟩
 have hx4:x≤(q:Rat):=by
  apply Rat.le_of_mul_le_mul_left _ hbp
  rw [hx,Rat.mul_comm,←cast_mul]
  refine natle (Nat.le_trans hx2 (Nat.mul_le_mul_right _ ?_))
  rw [hq];decide
 obtain ⟨m,hm⟩: ∃m,m=512:=⟨_,rfl⟩
 obtain ⟨ρ,hρ⟩: ∃ρ,ρ=8193:=⟨_,rfl⟩
 by_cases hab:b≤a
 ·obtain ⟨N,hN⟩: ∃N,N=131072:=⟨_,rfl⟩
  obtain ⟨H,hH⟩: ∃H,H=67239935:=⟨_,rfl⟩
  exact gap_with a b c d hb x r hx hx0 q hx4 hr 0 (by rw [Nat.pow_zero,Nat.mul_one];exact hab) N H m ρ 17 24 12 hm (by rw [hm,hN,hH]) (by rw [hρ,hq]) (by rw [hρ];decide) (by rw [hN];decide) (by rw [hH];decide) (by rw [hH];decide)
   (by unfold GG;rw [hρ,hm,hH,hN];decide) (by rw [hρ,hm,hH,hN];decide) (hxb 12 H N (by rw [hH,hN];decide) hx2) hd0 hd S0 hS
 ·obtain ⟨N,hN⟩: ∃N,N=8192:=⟨_,rfl⟩
  obtain ⟨H,hH⟩: ∃H,H=4202495:=⟨_,rfl⟩
  exact gap_with a b c d hb x r hx hx0 q hx4 hr u hx1 N H m ρ 13 20 0 hm (by rw [hm,hN,hH]) (by rw [hρ,hq]) (by rw [hρ];decide) (by rw [hN];decide) (by rw [hH];decide) (by rw [hH];decide)
   (by unfold GG;rw [hρ,hm,hH,hN,hu];decide) (by rw [hρ,hm,hH,hN];decide) (hxb 0 H N (by rw [hH,hN];decide) (by rw [Nat.pow_zero,Nat.one_mul];exact Nat.le_of_lt (Nat.lt_of_not_le hab))) hd0 hd S0 hS
def cdiv (a b:Nat):Nat:=if a%b=0 then a/b else a/b+1
theorem cdiv_ge (a b:Nat) (hb:0<b):a≤cdiv a b*b:=by
 have h:=Nat.div_add_mod a b
 have k:=Nat.mod_lt a hb
 rw [Nat.mul_comm] at h
 unfold cdiv;split
 ·omega
 ·rw [Nat.add_mul];omega
theorem cdiv_lt (a b:Nat) (hb:0<b):cdiv a b*b<a+b:=by
 have h:=Nat.div_add_mod a b
 have k:=Nat.mod_lt a hb
 rw [Nat.mul_comm] at h
 unfold cdiv;split
 ·omega
 ·rw [Nat.add_mul];omega
theorem cdiv_le {a b c:Nat} (hb:0<b) (h:a≤c*b):cdiv a b≤c:=by
 have k:=cdiv_lt a b hb
 rcases Nat.lt_or_ge c (cdiv a b) with h1|h1
 ·have:(c+1)*b≤cdiv a b*b:=Nat.mul_le_mul_right b h1
  rw [Nat.add_mul] at this;omega
 ·exact h1
theorem cdiv_self_le (a b:Nat) (hb:0<b):cdiv a b≤a:=cdiv_le hb (Nat.le_mul_of_pos_right a hb)
abbrev PP:=Nat×Nat
def hfP (x:PP) (n:Nat):PP:=(x.1/2^n,cdiv x.2 (2^n))
def tmP (x y:PP) (p:Nat):PP:=hfP (x.1*y.1,x.2*y.2) p
def ovP (x:PP) (n:Nat):PP:=(x.1/n,cdiv x.2 n)
def plP (x y:PP):PP:=(x.1+y.1,x.2+y.2)
def fxP (m:Nat) (e:Int) (p:Nat):PP:=if 0≤e+p then (m*2^(e+p).toNat,m*2^(e+p).toNat) else hfP (m,m) (-(e+p)).toNat
def grT (t:PP) (p:Nat):Nat→PP
 |0=>(2^p,2^p)
 |i+1=>ovP (tmP (grT t p i) t p) (i+1)
def geS (t:PP) (p:Nat):Nat→PP
 |0=>grT t p 0
 |n+1=>plP (geS t p n) (grT t p (n+1))
def sqP (x:PP) (p:Nat):Nat→PP
 |0=>x
 |j+1=>tmP (sqP x p j) (sqP x p j) p
def up4 (x:PP):PP:=(x.1,x.2+4)
def InE (p:Nat) (y:Rat) (x:PP):Prop:=(∃T,(x.1:Rat)≤(2:Rat)^p*EE y T)∧ ∀T,(2:Rat)^p*EE y T≤(x.2:Rat)
theorem fdiv_cast (a b:Nat):((a/b:Nat):Rat)*(b:Rat)≤(a:Rat):=by
 rw [←cast_mul];exact natle (Nat.div_mul_le_self a b)
theorem cdiv_cast (a b:Nat) (hb:0<b):(a:Rat)≤((cdiv a b:Nat):Rat)*(b:Rat):=by
 rw [←cast_mul];exact natle (cdiv_ge a b hb)
theorem mul_le_mul2 {a b c d:Rat} (ha:0≤a) (h:a≤b) (hc:0≤c) (k:c≤d):a*c≤b*d:=by
 have p:=Rat.mul_le_mul_of_nonneg_right h hc
 have q:=Rat.mul_le_mul_of_nonneg_left k (show 0≤b by grind)
 grind
theorem grT_in (t:PP) (p:Nat) (y:Rat) (hy:0≤y) (h1:(t.1:Rat)≤(2:Rat)^p*y) (h2:(2:Rat)^p*y≤(t.2:Rat)):
 ∀i,((grT t p i).1:Rat)≤(2:Rat)^p*ep y i∧(2:Rat)^p*ep y i≤((grT t p i).2:Rat)
 |0=>by
  have e0:ep y 0=1:=rfl
  rw [e0]
  show ((2^p:Nat):Rat)≤_∧_≤((2^p:Nat):Rat)
  rw [two_cast]
  constructor<;>grind
 |i+1=>by
  obtain ⟨a,b⟩:=grT_in t p y hy h1 h2 i
  have P:=pow2_pos p
  have en:=ep_nonneg y hy i
  have hi:=nat_pos i
  have es:=ep_succ y i
  have lo1:=fdiv_cast ((grT t p i).1*t.1) (2^p)
  have lo2:=fdiv_cast ((grT t p i).1*t.1/2^p) (i+1)
  have hi1:=cdiv_cast ((grT t p i).2*t.2) (2^p) (Nat.two_pow_pos _)
  have hi2:=cdiv_cast (cdiv ((grT t p i).2*t.2) (2^p)) (i+1) (by omega)
  rw [two_cast,cast_mul] at lo1 hi1
  have m1:=mul_le_mul2 (Rat.natCast_nonneg (a:=(grT t p i).1)) a (Rat.natCast_nonneg (a:=t.1)) h1
  have m2:=mul_le_mul2 (Rat.mul_nonneg (show (0:Rat)≤2^p by grind) en) b (Rat.mul_nonneg (show (0:Rat)≤2^p by grind) hy) h2
  show ((((grT t p i).1*t.1/2^p)/(i+1):Nat):Rat)≤_∧_≤((cdiv (cdiv ((grT t p i).2*t.2) (2^p)) (i+1):Nat):Rat)
  generalize (((grT t p i).1*t.1/2^p/(i+1):Nat):Rat)=A at *
  generalize (((grT t p i).1*t.1/2^p:Nat):Rat)=B at *
  generalize ((cdiv (cdiv ((grT t p i).2*t.2) (2^p)) (i+1):Nat):Rat)=C at *
  generalize ((cdiv ((grT t p i).2*t.2) (2^p):Nat):Rat)=E at *
  generalize ((grT t p i).1:Rat)*(t.1:Rat)=u at *
  generalize ((grT t p i).2:Rat)*(t.2:Rat)=v at *
  generalize ((i+1:Nat):Rat)=n at *
  generalize (2:Rat)^p=Q at *
  have c1:B≤Q*(ep y i*y):=by
   apply Rat.le_of_mul_le_mul_left _ P
   grind
  have c2:Q*(ep y i*y)≤E:=by
   apply Rat.le_of_mul_le_mul_left _ P
   grind
  constructor
  ·apply Rat.le_of_mul_le_mul_left _ hi
   have:n*(Q*ep y (i+1))=Q*(ep y i*y):=by grind
   rw [this];grind
  ·apply Rat.le_of_mul_le_mul_left _ hi
   have:n*(Q*ep y (i+1))=Q*(ep y i*y):=by grind
   rw [this];grind
theorem grS_in (t:PP) (p:Nat) (y:Rat) (hy:0≤y) (h1:(t.1:Rat)≤(2:Rat)^p*y) (h2:(2:Rat)^p*y≤(t.2:Rat)):
 ∀n,((geS t p n).1:Rat)≤(2:Rat)^p*EE y (n+1)∧(2:Rat)^p*EE y (n+1)≤((geS t p n).2:Rat)
 |0=>by
  have h:=grT_in t p y hy h1 h2 0
  have e:EE y (0+1)=ep y 0:=by unfold EE;simp only [sumQ];grind
  rw [e];exact h
 |n+1=>by
  obtain ⟨a,b⟩:=grS_in t p y hy h1 h2 n
  obtain ⟨c,d⟩:=grT_in t p y hy h1 h2 (n+1)
  have e:EE y (n+1+1)=EE y (n+1)+ep y (n+1):=rfl
  rw [e]
  show (((geS t p n).1+(grT t p (n+1)).1:Nat):Rat)≤_∧_≤(((geS t p n).2+(grT t p (n+1)).2:Nat):Rat)
  rw [Rat.natCast_add,Rat.natCast_add]
  constructor<;>grind
theorem EE_tail (y:Rat) (hy:0≤y) (h:2*y≤1) (n:Nat): ∀k,EE y (n+1+k)+ep y (n+k)≤EE y (n+1)+ep y n
 |0=>by show EE y (n+1)+ep y n≤_;grind
 |k+1=>by
  have ih:=EE_tail y hy h n k
  have a:=ep_succ y (n+k)
  have b:=ep_nonneg y hy (n+k)
  have c:=ep_nonneg y hy (n+k+1)
  have d:=Rat.mul_le_mul_of_nonneg_right (natle (show 1≤n+k+1 by omega)) c
  have e:=Rat.mul_le_mul_of_nonneg_right h b
  have f:EE y (n+1+(k+1))=EE y (n+1+k)+ep y (n+1+k):=rfl
  rw [f,show n+1+k=n+k+1 by omega,show n+(k+1)=n+k+1 by omega]
  rw [show n+1+k=n+k+1 by omega] at ih
  have o:((1:Nat):Rat)=1:=rfl
  rw [o] at d
  grind
theorem EE_rest (y:Rat) (hy:0≤y) (h:2*y≤1) (n T:Nat):EE y T≤EE y (n+1)+ep y n:=by
 have a:=EE_tail y hy h n T
 have b:=ep_nonneg y hy (n+T)
 have c:=EE_le y hy (show T≤n+1+T by omega)
 grind
theorem grow_in (t:PP) (p:Nat) (y:Rat) (hy:0≤y) (h:2*y≤1) (h1:(t.1:Rat)≤(2:Rat)^p*y) (h2:(2:Rat)^p*y≤(t.2:Rat)) (n:Nat) (hn:(grT t p n).2≤1):
 InE p y (up4 (geS t p n)):=by
 obtain ⟨a,b⟩:=grS_in t p y hy h1 h2 n
 obtain ⟨-,d⟩:=grT_in t p y hy h1 h2 n
 refine ⟨⟨n+1,a⟩,fun T=>?_⟩
 have e:=EE_rest y hy h n T
 have P:=pow2_pos p
 have f:=Rat.mul_le_mul_of_nonneg_left e (show (0:Rat)≤2^p by grind)
 have g:=natle hn
 have o:((1:Nat):Rat)=1:=rfl
 have o4:((4:Nat):Rat)=4:=rfl
 rw [o] at g
 show _≤(((geS t p n).2+4:Nat):Rat)
 rw [Rat.natCast_add,o4]
 grind
theorem times_in {p:Nat} {x y:Rat} {u v:PP} (hx:0≤x) (hy:0≤y) (hu:InE p x u) (hv:InE p y v):InE p (x+y) (tmP u v p):=by
 obtain ⟨⟨T,a⟩,b⟩:=hu
 obtain ⟨⟨S,c⟩,d⟩:=hv
 have P:=pow2_pos p
 constructor
 ·refine ⟨(T+S)+(T+S),?_⟩
  have e:=EE_add_ge x y hx hy (T+S)
  have e1:=EE_le x hx (show T≤T+S by omega)
  have e2:=EE_le y hy (show S≤T+S by omega)
  have m1:=Rat.mul_le_mul_of_nonneg_left e1 (show (0:Rat)≤2^p by grind)
  have m2:=Rat.mul_le_mul_of_nonneg_left e2 (show (0:Rat)≤2^p by grind)
  have f:=fdiv_cast (u.1*v.1) (2^p)
  rw [two_cast,cast_mul] at f
  have g:=mul_le_mul2 (Rat.natCast_nonneg (a:=u.1)) (show (u.1:Rat)≤(2:Rat)^p*EE x (T+S) by grind) (Rat.natCast_nonneg (a:=v.1)) (show (v.1:Rat)≤(2:Rat)^p*EE y (T+S) by grind)
  have k:=Rat.mul_le_mul_of_nonneg_left e (show (0:Rat)≤2^p by grind)
  show ((u.1*v.1/2^p:Nat):Rat)≤_
  apply Rat.le_of_mul_le_mul_left _ P
  have k2:=Rat.mul_le_mul_of_nonneg_left k (show (0:Rat)≤2^p by grind)
  grind
 ·intro R
  have e:=EE_add_le x y hx hy R
  have f:=cdiv_cast (u.2*v.2) (2^p) (Nat.two_pow_pos _)
  rw [two_cast,cast_mul] at f
  have g:=mul_le_mul2 (Rat.mul_nonneg (show (0:Rat)≤2^p by grind) (EE_nonneg x hx R)) (b R) (Rat.mul_nonneg (show (0:Rat)≤2^p by grind) (EE_nonneg y hy R)) (d R)
  have k:=Rat.mul_le_mul_of_nonneg_left e (show (0:Rat)≤2^p by grind)
  have k2:=Rat.mul_le_mul_of_nonneg_left k (show (0:Rat)≤2^p by grind)
  show _≤((cdiv (u.2*v.2) (2^p):Nat):Rat)
  apply Rat.le_of_mul_le_mul_left _ P
  grind
theorem sq_in {p:Nat} {y:Rat} {x:PP} (hy:0≤y) (h:InE p y x): ∀j:Nat,InE p ((2:Rat)^j*y) (sqP x p j)
 |0=>by rw [Rat.pow_zero,Rat.one_mul];exact h
 |j+1=>by
  have ih:=sq_in hy h j
  have hj:=Rat.mul_nonneg (show (0:Rat)≤2^j by have:=pow2_pos j;grind) hy
  have:=times_in hj hj ih ih
  have e:(2:Rat)^(j+1)*y=(2:Rat)^j*y+(2:Rat)^j*y:=by rw [pow2_succ];grind
  rw [e];exact this
theorem hfP_le {x:PP} (n:Nat) (h:x.1≤x.2):(hfP x n).1≤(hfP x n).2:=by
 show x.1/2^n≤cdiv x.2 (2^n)
 have a:=cdiv_ge x.2 (2^n) (Nat.two_pow_pos n)
 exact Nat.div_le_of_le_mul (by rw [Nat.mul_comm];omega)
theorem tmP_le {x y:PP} (p:Nat) (h:x.1≤x.2) (k:y.1≤y.2):(tmP x y p).1≤(tmP x y p).2:=hfP_le p (Nat.mul_le_mul h k)
theorem ovP_le {x:PP} (n:Nat) (hn:0<n) (h:x.1≤x.2):(ovP x n).1≤(ovP x n).2:=by
 show x.1/n≤cdiv x.2 n
 have a:=cdiv_ge x.2 n hn
 exact Nat.div_le_of_le_mul (by rw [Nat.mul_comm];omega)
theorem grT_le {t:PP} (p:Nat) (h:t.1≤t.2): ∀i,(grT t p i).1≤(grT t p i).2
 |0=>Nat.le_refl _
 |i+1=>ovP_le _ (by omega) (tmP_le p (grT_le p h i) h)
theorem grS_le {t:PP} (p:Nat) (h:t.1≤t.2): ∀i,(geS t p i).1≤(geS t p i).2
 |0=>Nat.le_refl _
 |i+1=>Nat.add_le_add (grS_le p h i) (grT_le p h (i+1))
theorem sqP_le {x:PP} (p:Nat) (h:x.1≤x.2): ∀i,(sqP x p i).1≤(sqP x p i).2
 |0=>h
 |i+1=>tmP_le p (sqP_le p h i) (sqP_le p h i)
theorem grT_half {t:PP} {p:Nat} (hp:1≤p) (ht:t.2≤2^(p-1)) (i k:Nat) (h:(grT t p i).2≤2^(k+1)):(grT t p (i+1)).2≤2^k:=by
 show cdiv (cdiv ((grT t p i).2*t.2) (2^p)) (i+1)≤_
 refine Nat.le_trans (cdiv_self_le _ _ (by omega)) (cdiv_le (Nat.two_pow_pos p) ?_)
 refine Nat.le_trans (Nat.mul_le_mul h ht) ?_
 rw [←Nat.pow_add,←Nat.pow_add]
 exact Nat.pow_le_pow_right (by omega) (by omega)
theorem grT_hi {t:PP} {p:Nat} (hp:1≤p) (ht:t.2≤2^(p-1)): ∀i,i≤p→(grT t p i).2≤2^(p-i)
 |0,_=>Nat.le_refl _
 |i+1,h=>by
  have ih:=grT_hi hp ht i (by omega)
  rw [show p-i=p-(i+1)+1 by omega] at ih
  exact grT_half hp ht i _ ih
theorem grT_top {t:PP} {p:Nat} (hp:1≤p) (ht:t.2≤2^(p-1)) (i:Nat):(grT t p i).2≤2^p:=by
 induction i with
 |zero=>exact Nat.le_refl _
 |succ i ih=>
  have:(grT t p (i+1)).2≤(grT t p i).2:=by
   show cdiv (cdiv ((grT t p i).2*t.2) (2^p)) (i+1)≤_
   refine Nat.le_trans (cdiv_self_le _ _ (by omega)) (cdiv_le (Nat.two_pow_pos p) (Nat.mul_le_mul_left _ ?_))
   exact Nat.le_trans ht (Nat.pow_le_pow_right (by omega) (by omega))
  omega
theorem gr_end {t:PP} {p:Nat} (hp:1≤p) (ht:t.2≤2^(p-1)): ∃n,n≤p∧(grT t p n).2≤1∧ ∀i,i<n→ ¬(grT t p i).2≤1:=by
 have h:=grT_hi hp ht p (Nat.le_refl _)
 rw [Nat.sub_self] at h
 have key: ∀k,k≤p→(∃n,n<k∧(grT t p n).2≤1∧ ∀i,i<n→ ¬(grT t p i).2≤1)∨ ∀i,i<k→ ¬(grT t p i).2≤1:=by
  intro k
  induction k with
  |zero=>intro _;exact .inr (fun i hi=>absurd hi (Nat.not_lt_zero i))
  |succ k ih=>
   intro hk
   rcases ih (by omega) with ⟨n,a,b,c⟩|h1
   ·exact .inl ⟨n,by omega,b,c⟩
   ·by_cases e:(grT t p k).2≤1
    ·exact .inl ⟨k,by omega,e,h1⟩
    ·exact .inr (fun i hi=>by
      by_cases e2:i=k
      ·rw [e2];exact e
      ·exact h1 i (by omega))
 rcases key p (Nat.le_refl _) with ⟨n,a,b,c⟩|h1
 ·exact ⟨n,by omega,b,c⟩
 ·exact ⟨p,Nat.le_refl _,h,h1⟩
theorem grT_wd {t:PP} {p:Nat} (hp:4≤p) (h01:t.1≤t.2) (ht1:t.2≤t.1+1) (ht:t.2≤2^(p-2)): ∀i,(grT t p i).2≤(grT t p i).1+6
 |0=>by show 2^p≤2^p+6;omega
 |i+1=>by
  have ih:=grT_wd hp h01 ht1 ht i
  have hle:=grT_le p h01 i
  have htop:=grT_top (t:=t) (show 1≤p by omega) (Nat.le_trans ht (Nat.pow_le_pow_right (by omega) (by omega))) i
  show cdiv (cdiv ((grT t p i).2*t.2) (2^p)) (i+1)≤(grT t p i).1*t.1/2^p/(i+1)+6
  have e4:2^p=4*2^(p-2):=by
   conv=>lhs;rw [show p=p-2+2 by omega]
   rw [Nat.pow_add];omega
  have h4:4≤2^(p-2):=Nat.pow_le_pow_right (show 0<2 by omega) (show 2≤p-2 by omega)
  generalize (grT t p i).1=l at *
  generalize (grT t p i).2=h at *
  have hpp:=Nat.two_pow_pos p
  have m1:h*t.2≤l*t.1+3*2^p:=by
   have a:=Nat.mul_le_mul ih ht1
   have b:(l+6)*(t.1+1)=l*t.1+l+(6*t.1+6):=by rw [Nat.add_mul,Nat.mul_add];omega
   omega
  have hd:=Nat.div_add_mod (l*t.1) (2^p)
  have hm:=Nat.mod_lt (l*t.1) hpp
  have H:cdiv (h*t.2) (2^p)≤l*t.1/2^p+4:=by
   refine cdiv_le hpp ?_
   rw [Nat.add_mul,Nat.mul_comm (l*t.1/2^p)]
   omega
  generalize cdiv (h*t.2) (2^p)=X at *
  generalize l*t.1/2^p=Y at *
  refine cdiv_le (by omega) ?_
  have hd2:=Nat.div_add_mod Y (i+1)
  have hm2:=Nat.mod_lt Y (show 0<i+1 by omega)
  rw [Nat.add_mul,Nat.mul_comm (Y/(i+1))]
  omega
theorem grS_wd {t:PP} {p:Nat} (hp:4≤p) (h01:t.1≤t.2) (ht1:t.2≤t.1+1) (ht:t.2≤2^(p-2)): ∀i,(geS t p i).2≤(geS t p i).1+6*(i+1)
 |0=>by show 2^p≤2^p+_;omega
 |i+1=>by
  have ih:=grS_wd hp h01 ht1 ht i
  have a:=grT_wd hp h01 ht1 ht (i+1)
  show (geS t p i).2+(grT t p (i+1)).2≤(geS t p i).1+(grT t p (i+1)).1+_
  omega
theorem grS_top {t:PP} {p:Nat} (hp:1≤p) (ht:t.2≤2^(p-1)): ∀n,n≤p→(geS t p n).2+2^(p-n)≤2^(p+1)
 |0,_=>by
  show 2^p+2^(p-0)≤_
  rw [Nat.sub_zero,Nat.pow_succ];omega
 |n+1,h=>by
  have ih:=grS_top hp ht n (by omega)
  have a:=grT_hi hp ht (n+1) h
  have e:2^(p-n)=2^(p-(n+1))*2:=by rw [←Nat.pow_succ];congr 1;omega
  show (geS t p n).2+(grT t p (n+1)).2+_≤_
  omega
theorem grS_low {t:PP} {p:Nat}: ∀n,2^p≤(geS t p n).1
 |0=>Nat.le_refl _
 |n+1=>Nat.le_trans (grS_low n) (Nat.le_add_right _ _)
theorem sqP_low {x:PP} {p:Nat} (h:2^p≤x.1): ∀j,2^p≤(sqP x p j).1
 |0=>h
 |j+1=>by
  have ih:=sqP_low h j
  show 2^p≤(sqP x p j).1*(sqP x p j).1/2^p
  rw [Nat.le_div_iff_mul_le (Nat.two_pow_pos p)]
  exact Nat.mul_le_mul ih ih
theorem sq_top {x:PP} {p:Nat} (h:x.2≤2^(p+2)): ∀j,(sqP x p j).2≤2^(p+(3*2^j-1))
 |0=>h
 |j+1=>by
  have ih:=sq_top h j
  have h2:=Nat.two_pow_pos j
  show cdiv ((sqP x p j).2*(sqP x p j).2) (2^p)≤_
  refine cdiv_le (Nat.two_pow_pos p) (Nat.le_trans (Nat.mul_le_mul ih ih) ?_)
  rw [←Nat.pow_add,←Nat.pow_add]
  refine Nat.pow_le_pow_right (by omega) ?_
  rw [Nat.pow_succ];omega
theorem sq_step (l h w p C:Nat) (hlh:l≤h) (hw:h≤l+w) (hC:h≤2^(p+C)):cdiv (h*h) (2^p)≤l*l/2^p+(1+w*2^(C+1)):=by
 have hpp:=Nat.two_pow_pos p
 have hd:=Nat.div_add_mod (l*l) (2^p)
 have hm:=Nat.mod_lt (l*l) hpp
 refine cdiv_le hpp ?_
 have a:h*h≤l*l+w*(2*2^(p+C)):=by
  obtain ⟨d,rfl⟩: ∃d,h=l+d:=⟨h-l,by omega⟩
  have b:(l+d)*(l+d)=l*l+d*(2*l+d):=by
   rw [Nat.mul_add,Nat.add_mul,Nat.add_mul,Nat.mul_add,Nat.mul_comm d l,←Nat.mul_assoc d 2,Nat.mul_comm d 2,Nat.mul_assoc 2 d l,Nat.mul_comm d l];omega
  rw [b]
  exact Nat.add_le_add_left (Nat.mul_le_mul (by omega) (by omega)) _
 have e:w*(2*2^(p+C))=w*2^(C+1)*2^p:=by
  rw [Nat.mul_assoc,←Nat.pow_add,←Nat.pow_succ']
  congr 2;omega
 rw [e] at a
 rw [Nat.add_mul,Nat.add_mul,Nat.mul_comm (l*l/2^p),Nat.one_mul]
 omega
theorem sq_wd {x:PP} {p:Nat} (C A:Nat) (h01:x.1≤x.2) (hA:x.2≤x.1+2^A) (s:Nat) (hp:A+(C+2)*s≤p) (hl: ∀j,j≤s→(sqP x p j).1≤2^(p+C-1)) (hC:1≤C):
 ∀j,j≤s→(sqP x p j).2≤(sqP x p j).1+2^(A+(C+2)*j)
 |0,_=>hA
 |j+1,hj=>by
  have ih:=sq_wd C A h01 hA s hp hl hC j (by omega)
  have le:=sqP_le p h01 j
  have l1:=hl j (by omega)
  have hAj:A+(C+2)*j≤p:=Nat.le_trans (Nat.add_le_add_left (Nat.mul_le_mul_left _ (by omega)) _) hp
  have w1:2^(A+(C+2)*j)≤2^(p+C-1):=Nat.pow_le_pow_right (by omega) (by omega)
  have hC2:(sqP x p j).2≤2^(p+C):=by
   have e:2^(p+C)=2^(p+C-1)*2:=by rw [←Nat.pow_succ];congr 1;omega
   omega
  have h:=sq_step _ _ _ p C le ih hC2
  show cdiv ((sqP x p j).2*(sqP x p j).2) (2^p)≤(sqP x p j).1*(sqP x p j).1/2^p+_
  refine Nat.le_trans h (Nat.add_le_add_left ?_ _)
  have e1:2^(A+(C+2)*j)*2^(C+1)=2^(A+(C+2)*j+(C+1)):=(Nat.pow_add _ _ _).symm
  have e2:2^(A+(C+2)*(j+1))=2^(A+(C+2)*j+(C+1))*2:=by
   rw [←Nat.pow_succ];congr 1;rw [Nat.mul_succ];omega
  have e3:=Nat.two_pow_pos (A+(C+2)*j+(C+1))
  rw [e1,e2];omega
def NoFr (g pl:Nat) (y:Rat):Prop:= ∀(c d:Nat) (r:Rat),(d:Rat)*r=(c:Rat)→0<d→(d=2^pl∨(c=2^pl∧d≤2^pl+2))→ ∀S0,(∀T,S0≤T→ -1≤(2:Rat)^g*(EE y T-r)∧(2:Rat)^g*(EE y T-r)≤1)→False
def IsFl (y:Rat) (neg:Bool) (pl z:Nat):Prop:= ∃T0,∀T,T0≤T→if neg=true then (z:Rat)*EE y T≤2^pl∧(2:Rat)^pl<((z+1:Nat):Rat)*EE y T else (z:Rat)≤2^pl*EE y T∧(2:Rat)^pl*EE y T<((z+1:Nat):Rat)
theorem EE_ge_one {y:Rat} (hy:0≤y) {T:Nat} (h:1≤T):1≤EE y T:=by
 have a:=EE_le y hy h
 have e1:EE y 1=1:=by unfold EE;simp only [sumQ,ep];grind
 grind
theorem fl_uniq {y:Rat} (hy:0≤y) {neg:Bool} {pl z w:Nat} (h:IsFl y neg pl z) (k:IsFl y neg pl w):z=w:=by
 obtain ⟨S,h⟩:=h
 obtain ⟨T,k⟩:=k
 have a:=h (S+T+1) (by omega)
 have b:=k (S+T+1) (by omega)
 have c:=EE_ge_one hy (show 1≤S+T+1 by omega)
 generalize EE y (S+T+1)=E at *
 cases neg
 ·simp only [Bool.false_eq_true,if_false] at a b
  have p:=Rat.natCast_lt_natCast.1 (show (z:Rat)<((w+1:Nat):Rat) by grind)
  have q:=Rat.natCast_lt_natCast.1 (show (w:Rat)<((z+1:Nat):Rat) by grind)
  omega
 ·simp only [if_true] at a b
  have hE:0<E:=by grind
  have p:=Rat.natCast_lt_natCast.1 (Rat.lt_of_mul_lt_mul_right (show (z:Rat)*E<((w+1:Nat):Rat)*E by grind) (by grind))
  have q:=Rat.natCast_lt_natCast.1 (Rat.lt_of_mul_lt_mul_right (show (w:Rat)*E<((z+1:Nat):Rat)*E by grind) (by grind))
  omega
def InD (D:Nat) (y:Rat) (x:PP):Prop:=(∃T,(x.1:Rat)≤(D:Rat)*EE y T)∧ ∀T,(D:Rat)*EE y T≤(x.2:Rat)
theorem InE.sc {p:Nat} {y:Rat} {x:PP} (h:InE p y x):InD (2^p) y x:=by
 unfold InD;rw [two_cast];exact h
theorem InD.low {D:Nat} {y:Rat} {x:PP} (hy:0≤y) (h:InD D y x): ∃T0,∀T,T0≤T→(x.1:Rat)≤(D:Rat)*EE y T∧(D:Rat)*EE y T≤(x.2:Rat):=by
 obtain ⟨⟨T0,a⟩,b⟩:=h
 refine ⟨T0,fun T hT=>⟨?_,b T⟩⟩
 have:=Rat.mul_le_mul_of_nonneg_left (EE_le y hy hT) (show (0:Rat)≤D from Rat.natCast_nonneg)
 grind
theorem div_lt_succ (a b:Nat) (hb:0<b):a<(a/b+1)*b:=by
 have h:=Nat.div_add_mod a b
 have k:=Nat.mod_lt a hb
 rw [Nat.mul_comm] at h
 rw [Nat.add_mul];omega
theorem fl_pos {D:Nat} (hD:0<D) {y:Rat} {x:PP} (hy:0≤y) (h:InD D y x) (pl z:Nat) (h1:x.1*2^pl/D=z) (h2:x.2*2^pl/D=z):IsFl y false pl z:=by
 obtain ⟨T0,h⟩:=h.low hy
 refine ⟨T0,fun T hT=>?_⟩
 obtain ⟨a,b⟩:=h T hT
 simp only [Bool.false_eq_true,if_false]
 have P:(0:Rat)<(D:Rat):=Rat.natCast_pos.2 hD
 have L:=pow2_pos pl
 have c:=natle (Nat.div_mul_le_self (x.1*2^pl) (D))
 have d:=Rat.natCast_lt_natCast.2 (div_lt_succ (x.2*2^pl) (D) hD)
 rw [h1,cast_mul,cast_mul,two_cast] at c
 rw [h2,cast_mul,cast_mul,two_cast] at d
 have a2:=Rat.mul_le_mul_of_nonneg_right a (show (0:Rat)≤2^pl by grind)
 have b2:=Rat.mul_le_mul_of_nonneg_right b (show (0:Rat)≤2^pl by grind)
 constructor
 ·apply Rat.le_of_mul_le_mul_left _ P
  grind
 ·apply Rat.lt_of_mul_lt_mul_left _ (show (0:Rat)≤D by grind)
  grind
theorem fl_neg {D:Nat} (hD:0<D) {y:Rat} {x:PP} (hy:0≤y) (h:InD D y x) (hx:0<x.1) (pl z:Nat) (h1:D*D/x.2*2^pl/D=z) (h2:(D*D/x.1+1)*2^pl/D=z):IsFl y true pl z:=by
 obtain ⟨T0,h⟩:=h.low hy
 refine ⟨T0,fun T hT=>?_⟩
 obtain ⟨a,b⟩:=h T hT
 simp only [if_true]
 have P:(0:Rat)<(D:Rat):=Rat.natCast_pos.2 hD
 have L:=pow2_pos pl
 have n1:z*x.2≤2^pl*D:=by
  have c:=Nat.div_mul_le_self (D*D/x.2*2^pl) (D)
  rw [h1] at c
  have d:=Nat.div_mul_le_self (D*D) x.2
  apply Nat.le_of_mul_le_mul_right _ hD
  calc z*x.2*D=z*D*x.2:=Nat.mul_right_comm _ _ _
   _≤D*D/x.2*2^pl*x.2:=Nat.mul_le_mul_right _ c
   _=D*D/x.2*x.2*2^pl:=Nat.mul_right_comm _ _ _
   _≤D*D*2^pl:=Nat.mul_le_mul_right _ d
   _=2^pl*D*D:=by simp only [Nat.mul_comm,Nat.mul_left_comm,Nat.mul_assoc]
 have n2:2^pl*D<(z+1)*x.1:=by
  have c:=div_lt_succ ((D*D/x.1+1)*2^pl) (D) hD
  rw [h2] at c
  have d:=div_lt_succ (D*D) x.1 hx
  apply Nat.lt_of_mul_lt_mul_right (a:=D)
  calc 2^pl*D*D=D*D*2^pl:=by simp only [Nat.mul_comm,Nat.mul_left_comm,Nat.mul_assoc]
   _<(D*D/x.1+1)*x.1*2^pl:=Nat.mul_lt_mul_of_pos_right d (Nat.two_pow_pos _)
   _=(D*D/x.1+1)*2^pl*x.1:=Nat.mul_right_comm _ _ _
   _≤(z+1)*D*x.1:=Nat.mul_le_mul_right _ (Nat.le_of_lt c)
   _=(z+1)*x.1*D:=Nat.mul_right_comm _ _ _
 have m1:=natle n1
 have m2:=Rat.natCast_lt_natCast.2 n2
 rw [cast_mul,cast_mul,two_cast] at m1
 rw [cast_mul,cast_mul,two_cast] at m2
 have b2:=Rat.mul_le_mul_of_nonneg_left b (Rat.natCast_nonneg (a:=z))
 have a2:=Rat.mul_le_mul_of_nonneg_left a (Rat.natCast_nonneg (a:=z+1))
 constructor
 ·apply Rat.le_of_mul_le_mul_left _ P
  grind
 ·apply Rat.lt_of_mul_lt_mul_left _ (show (0:Rat)≤D by grind)
  grind
theorem sep_pos {D g pl:Nat} (hD:0<D) {y:Rat} {x:PP} (hy:0≤y) (hN:NoFr g pl y) (h:InD D y x) (h01:x.1≤x.2) (W:Nat) (hW:x.2≤x.1+2^W) (hp:2^(W+g)≤D):x.1*2^pl/D=x.2*2^pl/D:=by
 apply Classical.byContradiction
 intro hne
 have mono:x.1*2^pl/D≤x.2*2^pl/D:=Nat.div_le_div_right (Nat.mul_le_mul_right _ h01)
 obtain ⟨c,hc⟩: ∃c,c=x.1*2^pl/D+1:=⟨_,rfl⟩
 have c1:x.1*2^pl<c*D:=by rw [hc];exact div_lt_succ _ _ hD
 have c2:c*D≤x.2*2^pl:=Nat.le_trans (Nat.mul_le_mul_right _ (show c≤x.2*2^pl/D by omega)) (Nat.div_mul_le_self _ _)
 have P:(0:Rat)<(D:Rat):=Rat.natCast_pos.2 hD
 have L:=pow2_pos pl
 obtain ⟨r,hr⟩: ∃r:Rat,r=(c:Rat)/2^pl:=⟨_,rfl⟩
 have hr2:(2:Rat)^pl*r=(c:Rat):=by rw [hr];grind
 obtain ⟨T0,hT0⟩:=h.low hy
 refine hN c (2^pl) r (by rw [two_cast];exact hr2) (Nat.two_pow_pos pl) (.inl rfl) T0 (fun T hT=>?_)
 obtain ⟨a,b⟩:=hT0 T hT
 have d1:=Rat.natCast_lt_natCast.2 c1
 have d2:=natle c2
 have w:=natle hW
 rw [cast_mul,cast_mul,two_cast] at d1
 rw [cast_mul,cast_mul,two_cast] at d2
 rw [Rat.natCast_add,two_cast] at w
 rw [←hr2] at d1 d2
 have f1:(x.1:Rat)<D*r:=Rat.lt_of_mul_lt_mul_left (show (2:Rat)^pl*(x.1:Rat)<2^pl*(D*r) by grind) (by grind)
 have f2:D*r≤(x.2:Rat):=Rat.le_of_mul_le_mul_left (show (2:Rat)^pl*(D*r)≤2^pl*(x.2:Rat) by grind) L
 have q:(2:Rat)^g*2^W≤(D:Rat):=by
  have:=natle hp
  rw [Nat.add_comm,Nat.pow_add,cast_mul,two_cast,two_cast] at this
  exact this
 have Gp:=pow2_pos g
 have k1:=Rat.mul_le_mul_of_nonneg_left (show (x.2:Rat)-(x.1:Rat)≤2^W by grind) (show (0:Rat)≤2^g by grind)
 have k2:=Rat.mul_le_mul_of_nonneg_left (show (D:Rat)*EE y T-D*r≤(x.2:Rat)-(x.1:Rat) by grind) (show (0:Rat)≤2^g by grind)
 have k3:=Rat.mul_le_mul_of_nonneg_left (show (D:Rat)*r-D*EE y T≤(x.2:Rat)-(x.1:Rat) by grind) (show (0:Rat)≤2^g by grind)
 constructor
 ·apply Rat.le_of_mul_le_mul_left _ P
  grind
 ·apply Rat.le_of_mul_le_mul_left _ P
  grind
theorem sep_neg {D g pl:Nat} (hD:0<D) {y:Rat} {x:PP} (hy:0≤y) (hN:NoFr g pl y) (h:InD D y x) (h01:x.1≤x.2) (W C:Nat) (hW:x.2≤x.1+2^W) (hlow:D≤x.1) (hC:x.2≤D*2^C) (hp:2^(W+2*C+4+g)≤D) (hplp:2^pl≤D):
 D*D/x.2*2^pl/D=(D*D/x.1+1)*2^pl/D:=by
 apply Classical.byContradiction
 intro hne
 have hpp:=hD
 have hx1:0<x.1:=Nat.lt_of_lt_of_le hpp hlow
 have hx2:0<x.2:=Nat.lt_of_lt_of_le hx1 h01
 have dmono:D*D/x.2≤D*D/x.1+1:=Nat.le_trans (Nat.div_le_div_left h01 hx1) (Nat.le_succ _)
 have mono:D*D/x.2*2^pl/D≤(D*D/x.1+1)*2^pl/D:=Nat.div_le_div_right (Nat.mul_le_mul_right _ dmono)
 obtain ⟨c,hc⟩: ∃c,c=D*D/x.2*2^pl/D+1:=⟨_,rfl⟩
 have hc0:0<c:=by rw [hc];exact Nat.succ_pos _
 have c1:D*D/x.2*2^pl<c*D:=by rw [hc];exact div_lt_succ _ _ hD
 have hcle:c≤(D*D/x.1+1)*2^pl/D:=by rw [hc];exact Nat.lt_of_le_of_ne mono hne
 have c2:c*D≤(D*D/x.1+1)*2^pl:=Nat.le_trans (Nat.mul_le_mul_right _ hcle) (Nat.div_mul_le_self _ _)
 clear hne mono dmono hcle hc
 have hcd:c≤2^pl+2:=by
  have a:D*D/x.1≤D:=by
   exact Nat.div_le_of_le_mul (Nat.mul_le_mul_right _ hlow)
  have b:c*D≤(D+1)*2^pl:=Nat.le_trans c2 (Nat.mul_le_mul_right _ (Nat.succ_le_succ a))
  have d:=hplp
  apply Nat.le_of_mul_le_mul_right _ hpp
  rw [Nat.add_mul] at b
  rw [Nat.add_mul,Nat.mul_comm (2^pl)]
  omega
 have q1:=div_lt_succ (D*D) x.2 hx2
 have q2:=Nat.div_mul_le_self (D*D) x.1
 have P:(0:Rat)<(D:Rat):=Rat.natCast_pos.2 hD
 have L:=pow2_pos pl
 have K:=pow2_pos C
 have hcr:(0:Rat)<(c:Rat):=Rat.natCast_pos.2 hc0
 have f1:=natle (Nat.le_of_lt c1)
 have f2:=natle c2
 have g1:=natle (Nat.le_of_lt q1)
 have g2:=natle q2
 have w:=natle hW
 have k:=natle hC
 rw [cast_mul,cast_mul,two_cast] at f1
 rw [cast_mul,cast_mul,two_cast,cast_succ] at f2
 rw [cast_mul,cast_mul,cast_succ] at g1
 rw [cast_mul,cast_mul] at g2
 rw [Rat.natCast_add,two_cast] at w
 rw [cast_mul,two_cast] at k
 obtain ⟨r,hr⟩: ∃r:Rat,r=(2:Rat)^pl/(c:Rat):=⟨_,rfl⟩
 have hr2:(c:Rat)*r=(2:Rat)^pl:=by rw [hr];grind
 obtain ⟨T0,hT0⟩:=h.low hy
 refine hN (2^pl) c r (by rw [two_cast];exact hr2) hc0 (.inr ⟨rfl,hcd⟩) T0 (fun T hT=>?_)
 obtain ⟨a,b⟩:=hT0 T hT
 have hl0:(0:Rat)≤(x.1:Rat):=Rat.natCast_nonneg
 have hh0:(0:Rat)≤(x.2:Rat):=Rat.natCast_nonneg
 have hKP:2*(2:Rat)^C≤(D:Rat):=by
  have a1:=pow2_mono (show C+1≤W+2*C+4+g by omega)
  have a2:=natle hp
  rw [two_cast] at a2
  rw [pow2_succ] at a1
  grind
 have hwK:((2:Rat)^W+2*(2^C*2^C))*2^g≤(D:Rat):=by
  have a1:(2:Rat)^W≤2^(W+2*C+1):=pow2_mono (by omega)
  have a2:(2:Rat)^C*2^C≤2^(W+2*C+1):=by
   have e:(2:Rat)^C*2^C=2^(C+C):=by rw [←two_cast,←two_cast,←cast_mul,←Nat.pow_add]
   rw [e];exact pow2_mono (by omega)
  have a3:(2:Rat)^(W+2*C+4+g)=8*2^(W+2*C+1)*2^g:=by
   have e:(2:Rat)^(W+2*C+4+g)=2^(W+2*C+1)*2^3*2^g:=by
    rw [←two_cast,←two_cast,←two_cast,←two_cast,←cast_mul,←cast_mul,←Nat.pow_add,←Nat.pow_add]
   have e3:(2:Rat)^3=8:=by rw [←two_cast];rfl
   rw [e,e3];grind
  have a4:=natle hp
  rw [two_cast] at a4
  have a5:=pow2_pos (W+2*C+1)
  have a6:=Rat.mul_le_mul_of_nonneg_right (show (2:Rat)^W+2*(2^C*2^C)≤8*2^(W+2*C+1) by grind) (show (0:Rat)≤2^g by have:=pow2_pos g;grind)
  grind
 have hE0:0≤(D:Rat)*EE y T:=Rat.mul_nonneg (by grind) (EE_nonneg y hy T)
 have G:=pow2_pos g
 obtain ⟨E,hE⟩: ∃E,E=(D:Rat)*EE y T:=⟨_,rfl⟩
 rw [←hE] at a b
 clear c1 c2 q1 q2 hW hC hlow hcd hN h hT0 hp hr
 generalize ((D*D/x.2:Nat):Rat)=u at *
 generalize ((D*D/x.1:Nat):Rat)=v at *
 generalize (x.1:Rat)=l at *
 generalize (x.2:Rat)=hh at *
 generalize (2:Rat)^W=ww at *
 generalize (2:Rat)^C=κ at *
 generalize (2:Rat)^pl=lm at *
 generalize (c:Rat)=cc at *
 generalize EE y T=ee at *
 generalize (2:Rat)^g=gg at *
 generalize (D:Rat)=pp at *
 have s1:pp*pp*lm-hh*lm≤cc*pp*hh:=by
  have t1:=Rat.mul_le_mul_of_nonneg_right f1 hh0
  have t2:=Rat.mul_le_mul_of_nonneg_right g1 (show 0≤lm by grind)
  grind
 have s2:cc*pp*l≤pp*pp*lm+l*lm:=by
  have t1:=Rat.mul_le_mul_of_nonneg_right f2 hl0
  have t2:=Rat.mul_le_mul_of_nonneg_right g2 (show 0≤lm by grind)
  grind
 have s3:lm≤2*(cc*κ):=by
  have t1:=Rat.mul_le_mul_of_nonneg_left k (show 0≤cc*pp from Rat.mul_nonneg (by grind) (by grind))
  have t2:=Rat.mul_le_mul_of_nonneg_right k (show 0≤lm by grind)
  have t3:pp*(pp*lm)≤pp*(cc*pp*κ+κ*lm):=by grind
  have t4:=Rat.le_of_mul_le_mul_left t3 P
  have t5:=Rat.mul_le_mul_of_nonneg_right hKP (show 0≤lm by grind)
  exact Rat.le_of_mul_le_mul_left (show pp*lm≤pp*(2*(cc*κ)) by grind) P
 have s4:hh*lm≤pp*(2*(cc*(κ*κ))):=by
  have t1:=mul_le_mul2 hh0 k (show 0≤lm by grind) s3
  grind
 have s5:cc*hh-cc*l≤cc*ww:=by
  have t1:=Rat.mul_le_mul_of_nonneg_left w (show 0≤cc by grind)
  grind
 have s6:l*lm≤hh*lm:=Rat.mul_le_mul_of_nonneg_right (by grind) (by grind)
 have t0:=Rat.mul_le_mul_of_nonneg_left hwK (show 0≤cc by grind)
 have up:cc*E-pp*lm≤cc*(ww+2*(κ*κ)):=by
  have t1:=Rat.mul_le_mul_of_nonneg_left b (show 0≤cc by grind)
  have t2:=Rat.mul_le_mul_of_nonneg_left s5 (show 0≤pp by grind)
  have t3:pp*(cc*hh-pp*lm)≤pp*(cc*(ww+2*(κ*κ))):=by grind
  have t4:=Rat.le_of_mul_le_mul_left t3 P
  grind
 have dn: -(cc*(ww+2*(κ*κ)))≤cc*E-pp*lm:=by
  have t1:=Rat.mul_le_mul_of_nonneg_left a (show 0≤cc by grind)
  have t2:=Rat.mul_le_mul_of_nonneg_left s5 (show 0≤pp by grind)
  have t3:pp*(-(cc*(ww+2*(κ*κ))))≤pp*(cc*l-pp*lm):=by grind
  have t4:=Rat.le_of_mul_le_mul_left t3 P
  grind
 have hcp:=Rat.mul_pos hcr P
 have e9:(cc*pp)*(gg*(ee-r))=gg*(cc*E-pp*lm):=by rw [hE,←hr2];grind
 have u1:=Rat.mul_le_mul_of_nonneg_left up (show 0≤gg by grind)
 have u2:=Rat.mul_le_mul_of_nonneg_left dn (show 0≤gg by grind)
 constructor
 ·apply Rat.le_of_mul_le_mul_left _ hcp
  rw [e9];grind
 ·apply Rat.le_of_mul_le_mul_left _ hcp
  rw [e9];grind
end Go.Ulp
