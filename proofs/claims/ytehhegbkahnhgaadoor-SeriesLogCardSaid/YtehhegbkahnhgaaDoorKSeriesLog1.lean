/- SeriesLog: what the proof leans on, part 1 (Gp0 Gp1 Gp2 Gp3). -/
set_option linter.unusedVariables false
set_option linter.unusedSimpArgs false
namespace Go.Ulp
def sumQ (f:Nat→Rat):Nat→Rat
 |0=>0
 |n+1=>sumQ f n+f n
theorem sumQ_zero (f:Nat→Rat):sumQ f 0=0:=rfl
theorem sumQ_succ (f:Nat→Rat) (n:Nat):sumQ f (n+1)=sumQ f n+f n:=rfl
theorem sumQ_congr {f g:Nat→Rat}: ∀n,(∀i,i<n→f i=g i)→sumQ f n=sumQ g n
 |0,_=>rfl
 |n+1,h=>by rw [sumQ,sumQ,sumQ_congr n (fun i hi=>h i (by omega)),h n (by omega)]
theorem sumQ_add (f g:Nat→Rat): ∀n,sumQ (fun i=>f i+g i) n=sumQ f n+sumQ g n
 |0=>by simp only [sumQ];grind
 |n+1=>by simp only [sumQ];rw [sumQ_add f g n];grind
theorem sumQ_mul (c:Rat) (f:Nat→Rat): ∀n,sumQ (fun i=>c*f i) n=c*sumQ f n
 |0=>by simp only [sumQ];grind
 |n+1=>by simp only [sumQ];rw [sumQ_mul c f n];grind
theorem sumQ_none: ∀n,sumQ (fun _=>0) n=0
 |0=>rfl
 |n+1=>by simp only [sumQ];rw [sumQ_none n];grind
theorem sumQ_head (f:Nat→Rat): ∀n,sumQ f (n+1)=f 0+sumQ (fun i=>f (i+1)) n
 |0=>by simp only [sumQ];grind
 |n+1=>by rw [sumQ_succ,sumQ_head f n,sumQ_succ];grind
theorem sumQ_le {f g:Nat→Rat}: ∀n,(∀i,i<n→f i≤g i)→sumQ f n≤sumQ g n
 |0,_=>by simp only [sumQ];grind
 |n+1,h=>by
  have a:=sumQ_le n (fun i hi=>h i (by omega))
  have b:=h n (by omega)
  simp only [sumQ];grind
theorem sumQ_nonneg {f:Nat→Rat} (n:Nat) (h: ∀i,i<n→0≤f i):0≤sumQ f n:=by
 have:=sumQ_le n h
 rwa [sumQ_none] at this
theorem sumQ_swap (f:Nat→Nat→Rat) (a:Nat): ∀b,sumQ (fun i=>sumQ (f i) b) a=sumQ (fun j=>sumQ (fun i=>f i j) a) b
 |0=>by simp only [sumQ];exact sumQ_none a
 |b+1=>by simp only [sumQ];rw [sumQ_add,sumQ_swap f a b]
def divS (c:Rat) (f:Nat→Rat):Nat→Rat
 |0=>f 0/c
 |i+1=>(f (i+1)-divS c f i)/c
theorem divS_zero {c:Rat} (hc:c≠0) (f:Nat→Rat):c*divS c f 0=f 0:=by unfold divS;grind
theorem divS_succ {c:Rat} (hc:c≠0) (f:Nat→Rat) (i:Nat):c*divS c f (i+1)+divS c f i=f (i+1):=by
 rw [divS];grind
theorem divS_uniq {c:Rat} (hc:c≠0) {f g:Nat→Rat} (h0:c*g 0=f 0) (h: ∀i,c*g (i+1)+g i=f (i+1)): ∀i,g i=divS c f i
 |0=>by have:=divS_zero hc f;grind
 |i+1=>by
  have a:=divS_uniq hc h0 h i
  have b:=divS_succ hc f i
  have d:=h i
  grind
theorem divS_swap {a b:Rat} (ha:a≠0) (hb:b≠0) (f:Nat→Rat) (i:Nat):divS a (divS b f) i=divS b (divS a f) i:=by
 have e:divS a (divS b f)=divS b (divS a f):=by
  funext j
  refine divS_uniq (f:=divS a f) hb ?_ ?_ j
  ·have p:=divS_zero ha (divS b f)
   have q:=divS_zero hb f
   have r:=divS_zero ha f
   grind
  ·intro j
   have: ∀j,divS a f j=b*divS a (divS b f) j+(if j=0 then 0 else divS a (divS b f) (j-1)):=by
    intro j
    refine (divS_uniq (g:=fun j=>b*divS a (divS b f) j+(if j=0 then 0 else divS a (divS b f) (j-1))) (f:=f) ha ?_ ?_ j).symm
    ·have p:=divS_zero ha (divS b f)
     have q:=divS_zero hb f
     grind
    ·intro j
     cases j with
     |zero=>
      have p:=divS_zero ha (divS b f)
      have q:=divS_succ ha (divS b f) 0
      have r:=divS_succ hb f 0
      grind
     |succ j=>
      have q:=divS_succ ha (divS b f) (j+1)
      have q2:=divS_succ ha (divS b f) j
      have r:=divS_succ hb f (j+1)
      grind
   have:=this (j+1)
   grind
 rw [e]
def resS (k:Nat):List Nat→Nat→Rat
 | []=>fun i=>if i=0 then 1 else 0
 |z::zs=>if z=k then resS k zs else divS ((k:Rat)-(z:Rat)) (resS k zs)
theorem natne {a b:Nat} (h:a≠b):(a:Rat)-(b:Rat)≠0:=by
 intro e
 apply h
 have:(a:Rat)=(b:Rat):=by grind
 exact Rat.natCast_inj.1 this
theorem resS_swap (k y z:Nat) (zs:List Nat):resS k (y::z::zs)=resS k (z::y::zs):=by
 funext i
 simp only [resS]
 by_cases hy:y=k
 ·rw [if_pos hy,if_pos hy]
 ·by_cases hz:z=k
  ·rw [if_pos hz,if_pos hz]
  ·rw [if_neg hy,if_neg hz,if_neg hy,if_neg hz]
   exact divS_swap (natne (Ne.symm hy)) (natne (Ne.symm hz)) _ _
theorem resS_perm (k:Nat) {a b:List Nat} (h:a.Perm b):resS k a=resS k b:=by
 induction h with
 |nil=>rfl
 |cons x _ ih=>simp only [resS];rw [ih]
 |swap x y l=>exact resS_swap k y x l
 |trans _ _ i1 i2=>exact i1.trans i2
def alp (zs:List Nat) (k i:Nat):Rat:=if i<zs.count k then resS k zs (zs.count k-1-i) else 0
theorem alp_perm {a b:List Nat} (h:a.Perm b) (k i:Nat):alp a k i=alp b k i:=by
 unfold alp;rw [resS_perm k h,h.count_eq k]
theorem alp_step (z:Nat) (zs:List Nat) (k i:Nat):alp zs k i=((k:Rat)-(z:Rat))*alp (z::zs) k i+alp (z::zs) k (i+1):=by
 unfold alp
 by_cases h:z=k
 ·subst h
  rw [List.count_cons_self]
  simp only [resS,if_true]
  by_cases h1:i<zs.count z
  ·rw [if_pos h1,if_pos (by omega),if_pos (by omega),show zs.count z+1-1-(i+1)=zs.count z-1-i by omega]
   grind
  ·rw [if_neg h1,if_neg (show ¬i+1<zs.count z+1 by omega)]
   grind
 ·rw [List.count_cons_of_ne (by exact h)]
  simp only [resS,if_neg h]
  by_cases h1:i<zs.count k
  ·rw [if_pos h1,if_pos h1]
   have hc:=natne (Ne.symm h)
   by_cases h2:i+1<zs.count k
   ·rw [if_pos h2]
    have e:=divS_succ hc (resS k zs) (zs.count k-1-(i+1))
    rw [show zs.count k-1-(i+1)+1=zs.count k-1-i by omega] at e
    grind
   ·rw [if_neg h2]
    have e:=divS_zero hc (resS k zs)
    rw [show zs.count k-1-i=0 by omega]
    grind
  ·rw [if_neg h1,if_neg h1,if_neg (by omega)]
   grind
theorem sumQ_one (c:Rat) (z:Nat): ∀n,sumQ (fun k=>if k=z then c else 0) n=if z<n then c else 0
 |0=>by simp [sumQ]
 |n+1=>by
  rw [sumQ,sumQ_one c z n]
  by_cases h:n=z
  ·subst h;rw [if_neg (by omega),if_pos rfl,if_pos (by omega)];grind
  ·rw [if_neg h]
   by_cases h2:z<n
   ·rw [if_pos h2,if_pos (by omega)];grind
   ·rw [if_neg h2,if_neg (by omega)];grind
theorem alp_one (z k i:Nat):alp [z] k i=if i=0 then (if k=z then 1 else 0) else 0:=by
 unfold alp
 by_cases h:z=k
 ·subst h
  rw [List.count_cons_self,List.count_nil,if_pos rfl]
  by_cases hi:i=0
  ·subst hi;rw [if_pos (by omega),if_pos rfl];simp [resS]
  ·rw [if_neg (by omega),if_neg hi]
 ·rw [List.count_cons_of_ne h,List.count_nil,if_neg (by omega)]
  split
  ·rw [if_neg (Ne.symm h)]
  ·rfl
theorem alp_nil (k i:Nat):alp [] k i=0:=by unfold alp;simp
theorem resS_rep (z:Nat): ∀n,resS z (List.replicate n z)=resS z []
 |0=>rfl
 |n+1=>by rw [List.replicate_succ];simp only [resS,if_true];exact resS_rep z n
theorem alp_rep (z n k:Nat):alp (List.replicate (n+2) z) k 0=0:=by
 unfold alp
 rw [List.count_replicate]
 by_cases h:(z==k)=true
 ·rw [if_pos h]
  have e:z=k:=by simpa using h
  subst e
  rw [resS_rep]
  simp [resS]
 ·rw [if_neg h];simp
theorem res_sum (m:Nat): ∀(n:Nat) (zs:List Nat),zs.length=n+1→(∀z∈zs,z≤m)→sumQ (fun k=>alp zs k 0) (m+1)=if n=0 then 1 else 0
 |0,zs,hl,hm=>by
  match zs,hl with
  | [z],_=>
    rw [sumQ_congr (g:=fun k=>if k=z then 1 else 0) _ (fun k _=>by rw [alp_one,if_pos rfl]),sumQ_one,if_pos (by have:=hm z (by simp);omega),if_pos rfl]
 |n+1,zs,hl,hm=>by
  match zs,hl with
  |z::t,hl=>
   rw [if_neg (by omega)]
   by_cases hall: ∀y∈t,y=z
   ·have e:z::t=List.replicate (n+2) z:=List.eq_replicate_iff.2 ⟨hl,fun b hb=>by rcases List.mem_cons.1 hb with h|h;exact h;exact hall b h⟩
    rw [e,sumQ_congr (g:=fun _=>0) _ (fun k _=>alp_rep z n k),sumQ_none]
   ·have ⟨y,hy,hne⟩: ∃y,y∈t∧y≠z:=by
     apply Classical.byContradiction
     intro h9
     exact hall (fun y hy=>Classical.byContradiction fun h8=>h9 ⟨y,hy,h8⟩)
    have p:=List.perm_cons_erase hy
    generalize t.erase y=u at p
    have lu:u.length=n:=by have:=p.length_eq;simp at this hl;omega
    have i1:=res_sum m n (y::u) (by simp [lu]) (fun b hb=>hm b (List.mem_cons_of_mem _ (p.mem_iff.2 hb)))
    have i2:=res_sum m n (z::u) (by simp [lu]) (fun b hb=>by
     rcases List.mem_cons.1 hb with h|h
     ·exact hm b (by rw [h];exact List.mem_cons_self ..)
     ·exact hm b (List.mem_cons_of_mem _ (p.mem_iff.2 (List.mem_cons_of_mem _ h))))
    have e1: ∀k,alp (z::t) k 0=alp (z::y::u) k 0:=fun k=>alp_perm (p.cons z) k 0
    have key: ∀k,alp (y::u) k 0+(-1)*alp (z::u) k 0=((y:Rat)-(z:Rat))*alp (z::t) k 0:=fun k=>by
     have a:=alp_step z (y::u) k 0
     have b:=alp_step y (z::u) k 0
     rw [alp_perm (List.Perm.swap z y u) k 0,alp_perm (List.Perm.swap z y u) k 1] at b
     rw [e1 k]
     grind
    have s1:=sumQ_congr (f:=fun k=>alp (y::u) k 0+(-1)*alp (z::u) k 0) (g:=fun k=>((y:Rat)-(z:Rat))*alp (z::t) k 0) (m+1) (fun k _=>key k)
    rw [sumQ_add,sumQ_mul,sumQ_mul,i1,i2] at s1
    have hd:=natne hne
    have:((y:Rat)-(z:Rat))*sumQ (fun k=>alp (z::t) k 0) (m+1)=0:=by rw [←s1];grind
    rcases Rat.mul_eq_zero.1 this with h|h
    ·exact absurd h hd
    ·exact h
def bin (k:Rat):Nat→Nat→Rat
 |0,0=>1
 |0,s+1=>k*bin k 0 s
 |_+1,0=>0
 |i+1,s+1=>k*bin k (i+1) s+bin k i s
theorem bin_zero (k:Rat) (i:Nat):bin k i 0=if i=0 then 1 else 0:=by cases i<;>simp [bin]
theorem bin_succ (k:Rat) (i s:Nat):bin k i (s+1)=k*bin k i s+(if i=0 then 0 else bin k (i-1) s):=by
 cases i with
 |zero=>simp [bin];grind
 |succ i=>simp [bin]
def grs:List Nat→Nat→Rat
 | [],_=>0
 |_::zs,0=>if zs= [] then 1 else 0
 |z::zs,s+1=>(z:Rat)*grs (z::zs) s+grs zs s
def comb (m I:Nat) (zs:List Nat) (s:Nat):Rat:=sumQ (fun k=>sumQ (fun i=>alp zs k i*bin (k:Rat) i s) I) (m+1)
theorem alp_end (zs:List Nat) (k I:Nat) (h:zs.length≤I):alp zs k I=0:=by
 unfold alp
 rw [if_neg (by have:=List.count_le_length (a:=k) (l:=zs);omega)]
theorem comb_row (z:Nat) (zs:List Nat) (k I s:Nat) (hI:zs.length+1≤I):
 sumQ (fun i=>alp (z::zs) k i*bin (k:Rat) i (s+1)) I=(z:Rat)*sumQ (fun i=>alp (z::zs) k i*bin (k:Rat) i s) I+sumQ (fun i=>alp zs k i*bin (k:Rat) i s) I:=by
 have a:sumQ (fun i=>alp zs k i*bin (k:Rat) i s) I=((k:Rat)-(z:Rat))*sumQ (fun i=>alp (z::zs) k i*bin (k:Rat) i s) I+sumQ (fun i=>alp (z::zs) k (i+1)*bin (k:Rat) i s) I:=by
  rw [←sumQ_mul,←sumQ_add]
  refine sumQ_congr _ (fun i _=>?_)
  rw [alp_step z zs k i];grind
 have b:sumQ (fun i=>alp (z::zs) k i*bin (k:Rat) i (s+1)) I=(k:Rat)*sumQ (fun i=>alp (z::zs) k i*bin (k:Rat) i s) I+sumQ (fun i=>alp (z::zs) k i*(if i=0 then 0 else bin (k:Rat) (i-1) s)) I:=by
  rw [←sumQ_mul,←sumQ_add]
  refine sumQ_congr _ (fun i _=>?_)
  rw [bin_succ];grind
 have c:sumQ (fun i=>alp (z::zs) k i*(if i=0 then 0 else bin (k:Rat) (i-1) s)) I=sumQ (fun i=>alp (z::zs) k (i+1)*bin (k:Rat) i s) I:=by
  obtain ⟨J,rfl⟩: ∃J,I=J+1:=⟨I-1,by omega⟩
  rw [sumQ_head,sumQ_succ,alp_end (z::zs) k (J+1) (by simpa using hI)]
  rw [sumQ_congr (g:=fun i=>alp (z::zs) k (i+1)*bin (k:Rat) i s) _ (fun i _=>by rw [if_neg (by omega),Nat.add_sub_cancel])]
  rw [if_pos rfl]
  grind
 rw [b,c,a]
 grind
theorem comb_step (m I z:Nat) (zs:List Nat) (s:Nat) (hI:zs.length+1≤I):comb m I (z::zs) (s+1)=(z:Rat)*comb m I (z::zs) s+comb m I zs s:=by
 unfold comb
 rw [←sumQ_mul,←sumQ_add]
 exact sumQ_congr _ (fun k _=>comb_row z zs k I s hI)
theorem comb_zero (m I z:Nat) (zs:List Nat) (hI:0<I) (hm: ∀y∈z::zs,y≤m):comb m I (z::zs) 0=if zs= [] then 1 else 0:=by
 unfold comb
 have h:=res_sum m zs.length (z::zs) rfl hm
 rw [show (if zs= [] then (1:Rat) else 0)=if zs.length=0 then 1 else 0 by cases zs<;>simp,←h]
 refine sumQ_congr _ (fun k _=>?_)
 obtain ⟨J,rfl⟩: ∃J,I=J+1:=⟨I-1,by omega⟩
 rw [sumQ_head,sumQ_congr (g:=fun _=>0) _ (fun i _=>by rw [bin_zero,if_neg (by omega)];grind),sumQ_none,bin_zero,if_pos rfl]
 grind
theorem comb_grs (m I:Nat): ∀(zs:List Nat),zs.length≤I→(∀z∈zs,z≤m)→ ∀s,comb m I zs s=grs zs s
 | [],_,_,s=>by
   unfold comb grs
   rw [sumQ_congr (g:=fun _=>0) _ (fun k _=>by rw [sumQ_congr (g:=fun _=>0) _ (fun i _=>by rw [alp_nil];grind),sumQ_none]),sumQ_none]
 |z::zs,hI,hm,s=>by
  have ih:=comb_grs m I zs (by simp at hI;omega) (fun y hy=>hm y (List.mem_cons_of_mem _ hy))
  induction s with
  |zero=>rw [comb_zero m I z zs (by simp at hI;omega) hm];rfl
  |succ s ihs=>
   rw [comb_step m I z zs s (by simpa using hI),ihs,ih s];rfl
theorem grs_nonneg: ∀(zs:List Nat) (s:Nat),0≤grs zs s
 | [],_=>by simp [grs]
 |z::zs,0=>by rw [grs];split<;>grind
 |z::zs,s+1=>by
  have a:=grs_nonneg (z::zs) s
  have b:=grs_nonneg zs s
  have c:=Rat.mul_nonneg (Rat.natCast_nonneg (a:=z)) a
  rw [grs];grind
theorem grs_low: ∀(zs:List Nat) (s:Nat),s+1<zs.length→grs zs s=0
 | [],_,h=>by simp at h
 | [_],_,h=>by simp at h
 |z::y::t,0,_=>by rw [grs,if_neg (by simp)]
 |z::y::t,s+1,h=>by
  rw [grs,grs_low (z::y::t) s (by omega),grs_low (y::t) s (by simp at h ⊢;omega)];grind
theorem grs_one: ∀(zs:List Nat) (z:Nat),grs (z::zs) zs.length=1
 | [],z=>by simp [grs]
 |y::t,z=>by
  rw [List.length_cons,grs,grs_low (z::y::t) t.length (by simp),grs_one t y];grind
theorem bin_low (k:Rat): ∀(i s:Nat),s<i→bin k i s=0
 |0,_,h=>by omega
 |_+1,0,_=>by simp only [bin]
 |i+1,s+1,h=>by simp only [bin];rw [bin_low k (i+1) s (by omega),bin_low k i s (by omega)];grind
theorem natle {a b:Nat} (h:a≤b):(a:Rat)≤(b:Rat):=Rat.natCast_le_natCast.2 h
theorem grs_le (m:Nat): ∀(zs:List Nat) (z:Nat) (s:Nat),(∀y∈z::zs,y≤m)→grs (z::zs) s≤bin (m:Rat) zs.length s
 |zs,z,0,h=>by
  rw [grs,bin_zero]
  cases zs with
  |nil=>simp
  |cons y t=>rw [if_neg (by simp),if_neg (by simp)];grind
 |zs,z,s+1,h=>by
  have a:=grs_le m zs z s h
  have hz:(z:Rat)≤(m:Rat):=natle (h z (List.mem_cons_self ..))
  have b1:=Rat.mul_le_mul_of_nonneg_right hz (grs_nonneg (z::zs) s)
  have b2:=Rat.mul_le_mul_of_nonneg_left a (Rat.natCast_nonneg (a:=m))
  rw [grs,bin_succ]
  cases zs with
  |nil=>simp only [grs,List.length_nil,if_true] at *;grind
  |cons y t=>
   have c:=grs_le m t y s (fun x hx=>h x (List.mem_cons_of_mem _ hx))
   rw [if_neg (by simp),List.length_cons,Nat.add_sub_cancel]
   rw [List.length_cons] at b2
   grind
def ep (x:Rat):Nat→Rat
 |0=>1
 |s+1=>ep x s*x/((s+1:Nat):Rat)
theorem nat_ne (s:Nat):((s+1:Nat):Rat)≠0:=fun h=>by
 have:=Rat.natCast_eq_zero_iff.1 h;omega
theorem ep_succ (x:Rat) (s:Nat):((s+1:Nat):Rat)*ep x (s+1)=x*ep x s:=by
 have:=nat_ne s
 rw [ep];grind
theorem nat_pos (s:Nat):(0:Rat)<((s+1:Nat):Rat):=Rat.natCast_pos.2 (by omega)
theorem div_nonneg' {a b:Rat} (ha:0≤a) (hb:0<b):0≤a/b:=Rat.not_lt.1 (fun h=>by
 have:=(Rat.div_lt_iff hb).1 h
 grind)
theorem ep_nonneg (x:Rat) (hx:0≤x): ∀s,0≤ep x s
 |0=>by simp only [ep];grind
 |s+1=>by rw [ep];exact div_nonneg' (Rat.mul_nonneg (ep_nonneg x hx s) hx) (nat_pos s)
theorem cancel_nat (s:Nat) {a b:Rat} (h:((s+1:Nat):Rat)*a=((s+1:Nat):Rat)*b):a=b:=by
 have:=nat_ne s
 grind
theorem cast_succ (s:Nat):((s+1:Nat):Rat)=(s:Rat)+1:=by rw [Rat.natCast_add];rfl
theorem bin_ep (k x:Rat): ∀(n i j:Nat),i+j=n→bin k i n*ep x n=ep x i*ep (k*x) j
 |0,i,j,h=>by
  obtain ⟨rfl,rfl⟩:i=0∧j=0:=by omega
  simp only [bin,ep]
 |n+1,0,j,h=>by
  obtain rfl:j=n+1:=by omega
  have a:=bin_ep k x n 0 n (by omega)
  apply cancel_nat n
  have p:=ep_succ x n
  have q:=ep_succ (k*x) n
  simp only [bin]
  have e0:ep x 0=1:=rfl
  rw [e0] at a ⊢
  grind
 |n+1,i+1,0,h=>by
  obtain rfl:i=n:=by omega
  have a:=bin_ep k x i i 0 (by omega)
  have e0:ep (k*x) 0=1:=rfl
  simp only [bin]
  rw [bin_low k (i+1) i (by omega),e0]
  have p:=ep_succ x i
  have c:bin k i i*ep x i=ep x i:=by rw [a,e0];grind
  apply cancel_nat i
  grind
 |n+1,i+1,j+1,h=>by
  have a:=bin_ep k x n (i+1) j (by omega)
  have b:=bin_ep k x n i (j+1) (by omega)
  have p:=ep_succ x n
  have q:=ep_succ x i
  have r:=ep_succ (k*x) j
  apply cancel_nat n
  simp only [bin]
  have e:((n+1:Nat):Rat)=((i+1:Nat):Rat)+((j+1:Nat):Rat):=by
   rw [←Rat.natCast_add];congr 1;omega
  have s1:((n+1:Nat):Rat)*((k*bin k (i+1) n+bin k i n)*ep x (n+1))=k*x*(bin k (i+1) n*ep x n)+x*(bin k i n*ep x n):=by grind
  rw [s1,a,b,e]
  grind
def EE (x:Rat) (T:Nat):Rat:=sumQ (ep x) T
theorem EE_mono (x:Rat) (hx:0≤x): ∀(a d:Nat),EE x a≤EE x (a+d)
 |a,0=>by grind
 |a,d+1=>by
  have h:=EE_mono x hx a d
  have k:=ep_nonneg x hx (a+d)
  show _≤sumQ (ep x) (a+d+1)
  rw [sumQ_succ]
  unfold EE at h ⊢
  grind
theorem EE_le (x:Rat) (hx:0≤x) {a b:Nat} (h:a≤b):EE x a≤EE x b:=by
 have:=EE_mono x hx a (b-a)
 rwa [show a+(b-a)=b by omega] at this
theorem EE_nonneg (x:Rat) (hx:0≤x) (T:Nat):0≤EE x T:=sumQ_nonneg T (fun i _=>ep_nonneg x hx i)
theorem bin_sum (k x:Rat) (i:Nat): ∀S,sumQ (fun s=>bin k i s*ep x s) S=ep x i*EE (k*x) (S-i)
 |0=>by
  rw [show 0-i=0 by omega];unfold EE;rw [sumQ_zero,sumQ_zero];grind
 |S+1=>by
  rw [sumQ_succ,bin_sum k x i S]
  by_cases h:S<i
  ·rw [bin_low k i S h,show S-i=0 by omega,show S+1-i=0 by omega];grind
  ·rw [bin_ep k x S i (S-i) (by omega),show S+1-i=(S-i)+1 by omega]
   unfold EE
   rw [sumQ_succ];grind
theorem sumQ_mul_right (f:Nat→Rat) (c:Rat) (n:Nat):sumQ f n*c=sumQ (fun i=>f i*c) n:=by
 rw [sumQ_congr (f:=fun i=>f i*c) (g:=fun i=>c*f i) n (fun i _=>by grind),sumQ_mul];grind
theorem id_main (m I:Nat) (zs:List Nat) (hI:zs.length≤I) (hm: ∀z∈zs,z≤m) (x:Rat) (S:Nat):
 sumQ (fun s=>grs zs s*ep x s) S=sumQ (fun k=>sumQ (fun i=>alp zs k i*(ep x i*EE ((k:Rat)*x) (S-i))) I) (m+1):=by
 have a:sumQ (fun s=>grs zs s*ep x s) S=sumQ (fun s=>sumQ (fun k=>sumQ (fun i=>alp zs k i*bin (k:Rat) i s*ep x s) I) (m+1)) S:=by
  refine sumQ_congr _ (fun s _=>?_)
  rw [←comb_grs m I zs hI hm s]
  unfold comb
  rw [sumQ_mul_right]
  exact sumQ_congr _ (fun k _=>sumQ_mul_right _ _ _)
 rw [a,sumQ_swap (fun s k=>sumQ (fun i=>alp zs k i*bin (k:Rat) i s*ep x s) I)]
 refine sumQ_congr _ (fun k _=>?_)
 rw [sumQ_swap (fun s i=>alp zs k i*bin (k:Rat) i s*ep x s)]
 refine sumQ_congr _ (fun i _=>?_)
 rw [←bin_sum,←sumQ_mul]
 exact sumQ_congr _ (fun s _=>by grind)
def cv (f g:Nat→Rat) (T:Nat):Rat:=sumQ (fun i=>f i*sumQ g (T-i)) T
theorem cv_succ (f g:Nat→Rat) (T:Nat):cv f g (T+1)=cv f g T+sumQ (fun i=>f i*g (T-i)) (T+1):=by
 unfold cv
 rw [sumQ_succ,sumQ_succ,Nat.sub_self,show T+1-T=1 by omega]
 have a:sumQ (fun i=>f i*sumQ g (T+1-i)) T=sumQ (fun i=>f i*sumQ g (T-i)+f i*g (T-i)) T:=
  sumQ_congr _ (fun i hi=>by rw [show T+1-i=T-i+1 by omega,sumQ_succ];grind)
 rw [a,sumQ_add]
 have b:sumQ g 1=g 0:=by simp only [sumQ];grind
 rw [b];grind
theorem sumQ_mono {f:Nat→Rat} (hf: ∀i,0≤f i) {a b:Nat} (h:a≤b):sumQ f a≤sumQ f b:=by
 induction b with
 |zero=>rw [show a=0 by omega];grind
 |succ b ih=>
  by_cases e:a=b+1
  ·rw [e];grind
  ·have:=ih (by omega)
   have:=hf b
   rw [sumQ_succ];grind
theorem cv_le {f g:Nat→Rat} (hf: ∀i,0≤f i) (hg: ∀i,0≤g i) (T:Nat):cv f g T≤sumQ f T*sumQ g T:=by
 unfold cv
 rw [sumQ_mul_right]
 exact sumQ_le T (fun i _=>Rat.mul_le_mul_of_nonneg_left (sumQ_mono hg (by omega)) (hf i))
theorem cv_ge {f g:Nat→Rat} (hf: ∀i,0≤f i) (hg: ∀i,0≤g i) (T:Nat):sumQ f T*sumQ g T≤cv f g (T+T):=by
 have a:sumQ (fun i=>f i*sumQ g (T+T-i)) T≤cv f g (T+T):=sumQ_mono (fun i=>Rat.mul_nonneg (hf i) (sumQ_nonneg _ (fun j _=>hg j))) (by omega)
 have b:sumQ f T*sumQ g T≤sumQ (fun i=>f i*sumQ g (T+T-i)) T:=by
  rw [sumQ_mul_right]
  exact sumQ_le T (fun i hi=>Rat.mul_le_mul_of_nonneg_left (sumQ_mono hg (by omega)) (hf i))
 grind
theorem ep_binom (x y:Rat): ∀T,sumQ (fun i=>ep x i*ep y (T-i)) (T+1)=ep (x+y) T
 |0=>by
  show 0+ep x 0*ep y 0=ep (x+y) 0
  simp only [ep];grind
 |T+1=>by
  have ih:=ep_binom x y T
  apply cancel_nat T
  rw [ep_succ (x+y) T,←ih]
  have a:sumQ (fun i=>(i:Rat)*(ep x i*ep y (T+1-i))) (T+1+1)=x*sumQ (fun i=>ep x i*ep y (T-i)) (T+1):=by
   rw [sumQ_head,←sumQ_mul]
   have e0:((0:Nat):Rat)=0:=rfl
   rw [e0,Rat.zero_mul,Rat.zero_add]
   refine sumQ_congr _ (fun i _=>?_)
   have:=ep_succ x i
   rw [show T+1-(i+1)=T-i by omega]
   grind
  have b:sumQ (fun i=>((T+1-i:Nat):Rat)*(ep x i*ep y (T+1-i))) (T+1+1)=y*sumQ (fun i=>ep x i*ep y (T-i)) (T+1):=by
   rw [sumQ_succ,←sumQ_mul,Nat.sub_self]
   have e0:((0:Nat):Rat)=0:=rfl
   rw [e0,Rat.zero_mul,Rat.add_zero]
   refine sumQ_congr _ (fun i hi=>?_)
   have:=ep_succ y (T-i)
   rw [show T+1-i=T-i+1 by omega]
   grind
  have c:((T+1:Nat):Rat)*sumQ (fun i=>ep x i*ep y (T+1-i)) (T+1+1)=sumQ (fun i=>(i:Rat)*(ep x i*ep y (T+1-i))+((T+1-i:Nat):Rat)*(ep x i*ep y (T+1-i))) (T+1+1):=by
   rw [←sumQ_mul]
   refine sumQ_congr _ (fun i hi=>?_)
   have e:((T+1:Nat):Rat)=(i:Rat)+((T+1-i:Nat):Rat):=by rw [←Rat.natCast_add];congr 1;omega
   rw [e];grind
  rw [c,sumQ_add,a,b];grind
theorem cv_ep (x y:Rat): ∀T,cv (ep x) (ep y) T=EE (x+y) T
 |0=>rfl
 |T+1=>by rw [cv_succ,cv_ep x y T,ep_binom];rfl
theorem EE_add_le (x y:Rat) (hx:0≤x) (hy:0≤y) (T:Nat):EE (x+y) T≤EE x T*EE y T:=by
 rw [←cv_ep];exact cv_le (ep_nonneg x hx) (ep_nonneg y hy) T
theorem EE_add_ge (x y:Rat) (hx:0≤x) (hy:0≤y) (T:Nat):EE x T*EE y T≤EE (x+y) (T+T):=by
 rw [←cv_ep];exact cv_ge (ep_nonneg x hx) (ep_nonneg y hy) T
theorem EE_pow_le (x:Rat) (hx:0≤x) (T:Nat) (hT:1≤T): ∀k:Nat,EE ((k:Rat)*x) T≤EE x T^k
 |0=>by
  have e0:((0:Nat):Rat)=0:=rfl
  have: ∀T,EE 0 (T+1)=1:=by
   intro T
   induction T with
   |zero=>unfold EE;simp only [sumQ,ep];grind
   |succ T ih=>
    unfold EE at ih ⊢
    rw [sumQ_succ,ih,ep];grind
  rw [e0,Rat.zero_mul,Rat.pow_zero,show T=T-1+1 by omega,this];grind
 |k+1=>by
  have a:=EE_pow_le x hx T hT k
  have b:=EE_add_le ((k:Rat)*x) x (Rat.mul_nonneg Rat.natCast_nonneg hx) hx T
  have c:=Rat.mul_le_mul_of_nonneg_right a (EE_nonneg x hx T)
  have e:((k+1:Nat):Rat)*x=(k:Rat)*x+x:=by rw [cast_succ];grind
  rw [e,Rat.pow_succ]
  grind
theorem EE_pow_ge (x:Rat) (hx:0≤x): ∀(k T:Nat),∃T',EE x T^k≤EE ((k:Rat)*x) T'
 |0,T=>⟨1,by
  have e0:((0:Nat):Rat)=0:=rfl
  rw [e0,Rat.zero_mul,Rat.pow_zero];unfold EE;simp only [sumQ,ep];grind⟩
 |k+1,T=>by
  obtain ⟨T',h⟩:=EE_pow_ge x hx k T
  have hk:0≤(k:Rat)*x:=Rat.mul_nonneg Rat.natCast_nonneg hx
  have e:((k+1:Nat):Rat)*x=(k:Rat)*x+x:=by rw [cast_succ];grind
  refine ⟨(T'+T)+(T'+T),?_⟩
  have a:=EE_add_ge ((k:Rat)*x) x hk hx (T'+T)
  have b:=EE_le ((k:Rat)*x) hk (show T'≤T'+T by omega)
  have c:=EE_le x hx (show T≤T'+T by omega)
  have d1:EE x T^k≤EE ((k:Rat)*x) (T'+T):=by grind
  have d2:=Rat.mul_le_mul_of_nonneg_right d1 (EE_nonneg x hx T)
  have d3:=Rat.mul_le_mul_of_nonneg_left c (EE_nonneg ((k:Rat)*x) hk (T'+T))
  rw [e,Rat.pow_succ]
  grind
theorem mul_bd2 {a b A B:Rat} (a1: -A≤a) (a2:a≤A) (b1: -B≤b) (b2:b≤B): -(A*B)≤a*b∧a*b≤A*B:=by
 have p:=Rat.mul_nonneg (show 0≤A-a by grind) (show 0≤B+b by grind)
 have q:=Rat.mul_nonneg (show 0≤A+a by grind) (show 0≤B-b by grind)
 have r:=Rat.mul_nonneg (show 0≤A-a by grind) (show 0≤B-b by grind)
 have s:=Rat.mul_nonneg (show 0≤A+a by grind) (show 0≤B+b by grind)
 constructor<;>grind
theorem sumQ_near {f g:Nat→Rat} {c:Rat}: ∀n,(∀i,i<n→ -c≤f i-g i∧f i-g i≤c)→ -((n:Rat)*c)≤sumQ f n-sumQ g n∧sumQ f n-sumQ g n≤(n:Rat)*c
 |0,_=>by
  have e0:((0:Nat):Rat)=0:=rfl
  rw [e0];simp only [sumQ];constructor<;>grind
 |n+1,h=>by
  obtain ⟨a,b⟩:=sumQ_near n (fun i hi=>h i (by omega))
  obtain ⟨d,e⟩:=h n (by omega)
  rw [sumQ_succ,sumQ_succ,cast_succ]
  constructor<;>grind
theorem sumQ_term {f:Nat→Rat} (hf: ∀i,0≤f i) {j n:Nat} (h:j<n):f j≤sumQ f n:=by
 have a:=sumQ_mono hf (show j+1≤n by omega)
 have b:=sumQ_nonneg (f:=f) j (fun i _=>hf i)
 rw [sumQ_succ] at a
 grind
theorem pow_ge_one {R:Rat} (h:1≤R): ∀k:Nat,1≤R^k
 |0=>by rw [Rat.pow_zero];grind
 |k+1=>by
  have a:=pow_ge_one h k
  have b:=Rat.mul_le_mul_of_nonneg_left h (show 0≤R^k by grind)
  rw [Rat.pow_succ];grind
theorem pow_mono_exp {R:Rat} (h:1≤R) {a b:Nat} (hab:a≤b):R^a≤R^b:=by
 induction b with
 |zero=>rw [show a=0 by omega];grind
 |succ b ih=>
  by_cases e:a=b+1
  ·rw [e];grind
  ·have i:=ih (by omega)
   have p:=pow_ge_one h b
   have q:=Rat.mul_le_mul_of_nonneg_left h (show 0≤R^b by grind)
   rw [Rat.pow_succ];grind
theorem pow_mono_base {y R:Rat} (h0:0≤y) (h:y≤R): ∀k:Nat,y^k≤R^k
 |0=>by rw [Rat.pow_zero,Rat.pow_zero];grind
 |k+1=>by
  have a:=pow_mono_base h0 h k
  have b:=Rat.mul_le_mul_of_nonneg_right a h0
  have c:=Rat.mul_le_mul_of_nonneg_left h (Rat.pow_nonneg (n:=k) (show 0≤R by grind))
  rw [Rat.pow_succ,Rat.pow_succ];grind
theorem pow_near {y r R e:Rat} (hR:1≤R) (y0:0≤y) (y1:y≤R) (r0:0≤r) (r1:r≤R) (h1: -e≤y-r) (h2:y-r≤e): ∀k:Nat,-((k:Rat)*R^k*e)≤y^k-r^k∧y^k-r^k≤(k:Rat)*R^k*e
 |0=>by
  have e0:((0:Nat):Rat)=0:=rfl
  rw [e0,Rat.pow_zero,Rat.pow_zero];constructor<;>grind
 |k+1=>by
  obtain ⟨i1,i2⟩:=pow_near hR y0 y1 r0 r1 h1 h2 k
  have e0:0≤e:=by grind
  have p0:=Rat.pow_nonneg (n:=k) y0
  have p1:=pow_mono_base y0 y1 k
  have g1:=pow_ge_one hR k
  obtain ⟨a1,a2⟩:=mul_bd2 (a:=y^k) (A:=R^k) (b:=y-r) (B:=e) (by grind) p1 h1 h2
  obtain ⟨b1,b2⟩:=mul_bd2 (a:=r) (A:=R) (b:=y^k-r^k) (B:=(k:Rat)*R^k*e) (by grind) r1 i1 i2
  have s1:y^(k+1)-r^(k+1)=y^k*(y-r)+r*(y^k-r^k):=by rw [Rat.pow_succ,Rat.pow_succ];grind
  have t1:R^k*e≤R^(k+1)*e:=Rat.mul_le_mul_of_nonneg_right (pow_mono_exp hR (by omega)) e0
  have t2:((k+1:Nat):Rat)*R^(k+1)*e=R^(k+1)*e+R*((k:Rat)*R^k*e):=by rw [cast_succ,Rat.pow_succ];grind
  rw [s1,t2]
  constructor<;>grind
theorem near_pow (x r R eps:Rat) (m:Nat) (hx:0≤x) (hr:0≤r) (hR:1≤R) (hrR:r≤R) (hE: ∀T,EE x T≤R) (S0:Nat) (hS: ∀T,S0≤T→ -eps≤EE x T-r∧EE x T-r≤eps) (k:Nat) (hk:k≤m):
 ∃T0,∀T,T0≤T→ -((m:Rat)*R^m*eps)≤EE ((k:Rat)*x) T-r^k∧EE ((k:Rat)*x) T-r^k≤(m:Rat)*R^m*eps:=by
 obtain ⟨T',hT'⟩:=EE_pow_ge x hx k S0
 have e0:0≤eps:=by have:=hS S0 (Nat.le_refl _);grind
 have c:(k:Rat)*R^k*eps≤(m:Rat)*R^m*eps:=by
  refine Rat.mul_le_mul_of_nonneg_right ?_ e0
  have a:=Rat.mul_le_mul_of_nonneg_left (pow_mono_exp hR hk) (Rat.natCast_nonneg (a:=k))
  have b:=Rat.mul_le_mul_of_nonneg_right (natle hk) (show 0≤R^m by have:=pow_ge_one hR m;grind)
  grind
 refine ⟨S0+T'+1,fun T hT=>?_⟩
 obtain ⟨u1,u2⟩:=hS T (by omega)
 obtain ⟨l1,l2⟩:=hS S0 (Nat.le_refl _)
 obtain ⟨-,p2⟩:=pow_near hR (EE_nonneg x hx T) (hE T) hr hrR u1 u2 k
 obtain ⟨q1,-⟩:=pow_near hR (EE_nonneg x hx S0) (hE S0) hr hrR l1 l2 k
 have a:=EE_pow_le x hx T (by omega) k
 have b:=EE_le ((k:Rat)*x) (Rat.mul_nonneg Rat.natCast_nonneg hx) (show T'≤T by omega)
 constructor<;>grind
theorem near_all (x r R eps:Rat) (m:Nat) (hx:0≤x) (hr:0≤r) (hR:1≤R) (hrR:r≤R) (hE: ∀T,EE x T≤R) (S0:Nat) (hS: ∀T,S0≤T→ -eps≤EE x T-r∧EE x T-r≤eps):
 ∀n,n≤m+1→ ∃T0,∀k,k<n→ ∀T,T0≤T→ -((m:Rat)*R^m*eps)≤EE ((k:Rat)*x) T-r^k∧EE ((k:Rat)*x) T-r^k≤(m:Rat)*R^m*eps
 |0,_=>⟨0,fun k hk=>absurd hk (Nat.not_lt_zero k)⟩
 |n+1,hn=>by
  obtain ⟨A,hA⟩:=near_all x r R eps m hx hr hR hrR hE S0 hS n (by omega)
  obtain ⟨B,hB⟩:=near_pow x r R eps m hx hr hR hrR hE S0 hS n (by omega)
  refine ⟨A+B,fun k hk T hT=>?_⟩
  by_cases e:k=n
  ·subst e;exact hB T (by omega)
  ·exact hA k (by omega) T (by omega)
theorem gap_core (m I:Nat) (z0:Nat) (zt:List Nat) (hm: ∀z∈z0::zt,z≤m) (hI:(z0::zt).length≤I) (x r R A eps:Rat) (D:Nat)
 (hx:0≤x) (hr:0≤r) (hR:1≤R) (hrR:r≤R) (hE: ∀T,EE x T≤R) (hA: ∀k i,-A≤alp (z0::zt) k i∧alp (z0::zt) k i≤A)
 (S0:Nat) (hS: ∀T,S0≤T→ -eps≤EE x T-r∧EE x T-r≤eps)
 (hint: ∃z:Int,(D:Rat)*sumQ (fun k=>sumQ (fun i=>alp (z0::zt) k i*(ep x i*r^k)) I) (m+1)=(z:Rat)) (hD:0<D)
 (h1:((m+1:Nat):Rat)*((I:Rat)*(A*(R*((m:Rat)*R^m*eps))))<ep x zt.length)
 (h2:(D:Rat)*(ep x zt.length*R^m+((m+1:Nat):Rat)*((I:Rat)*(A*(R*((m:Rat)*R^m*eps)))))<1):False:=by
 obtain ⟨T0,hT0⟩:=near_all x r R eps m hx hr hR hrR hE S0 hS (m+1) (Nat.le_refl _)
 obtain ⟨S,hSS⟩: ∃S,S=T0+I+1:=⟨_,rfl⟩
 have idm:=id_main m I (z0::zt) hI hm x S
 have hep: ∀i,-R≤ep x i∧ep x i≤R:=fun i=>by
  have a:=ep_nonneg x hx i
  have b:=sumQ_term (f:=ep x) (ep_nonneg x hx) (show i<i+1 by omega)
  have c:=hE (i+1)
  unfold EE at c
  constructor<;>grind
 have near:=sumQ_near (f:=fun k=>sumQ (fun i=>alp (z0::zt) k i*(ep x i*EE ((k:Rat)*x) (S-i))) I) (g:=fun k=>sumQ (fun i=>alp (z0::zt) k i*(ep x i*r^k)) I) (c:=(I:Rat)*(A*(R*((m:Rat)*R^m*eps)))) (m+1) (fun k hk=>by
  refine sumQ_near (f:=fun i=>alp (z0::zt) k i*(ep x i*EE ((k:Rat)*x) (S-i))) (g:=fun i=>alp (z0::zt) k i*(ep x i*r^k)) I (fun i hi=>?_)
  obtain ⟨n1,n2⟩:=hT0 k hk (S-i) (by omega)
  obtain ⟨p1,p2⟩:=mul_bd2 (hep i).1 (hep i).2 n1 n2
  obtain ⟨q1,q2⟩:=mul_bd2 (hA k i).1 (hA k i).2 p1 p2
  have e:alp (z0::zt) k i*(ep x i*EE ((k:Rat)*x) (S-i))-alp (z0::zt) k i*(ep x i*r^k)=alp (z0::zt) k i*(ep x i*(EE ((k:Rat)*x) (S-i)-r^k)):=by grind
  rw [e]
  exact ⟨q1,q2⟩)
 rw [←idm] at near
 have tnn: ∀s,0≤grs (z0::zt) s*ep x s:=fun s=>Rat.mul_nonneg (grs_nonneg _ s) (ep_nonneg x hx s)
 have low:ep x zt.length≤sumQ (fun s=>grs (z0::zt) s*ep x s) S:=by
  have h:=sumQ_term (f:=fun s=>grs (z0::zt) s*ep x s) tnn (show zt.length<S by simp at hI;omega)
  rw [grs_one zt z0,Rat.one_mul] at h
  exact h
 have high:sumQ (fun s=>grs (z0::zt) s*ep x s) S≤ep x zt.length*R^m:=by
  have a:=sumQ_le (f:=fun s=>grs (z0::zt) s*ep x s) (g:=fun s=>bin (m:Rat) zt.length s*ep x s) S (fun s _=>Rat.mul_le_mul_of_nonneg_right (grs_le m zt z0 s hm) (ep_nonneg x hx s))
  rw [bin_sum] at a
  have b:=EE_pow_le x hx (S-zt.length) (by simp at hI;omega) m
  have c:=pow_mono_base (EE_nonneg x hx (S-zt.length)) (hE (S-zt.length)) m
  have d:=Rat.mul_le_mul_of_nonneg_left (show EE ((m:Rat)*x) (S-zt.length)≤R^m by grind) (ep_nonneg x hx zt.length)
  grind
 obtain ⟨z,hz⟩:=hint
 generalize sumQ (fun k=>sumQ (fun i=>alp (z0::zt) k i*(ep x i*r^k)) I) (m+1)=V at *
 generalize sumQ (fun s=>grs (z0::zt) s*ep x s) S=W at *
 generalize ((m+1:Nat):Rat)*((I:Rat)*(A*(R*((m:Rat)*R^m*eps))))=er at *
 have hDp:(0:Rat)<(D:Rat):=Rat.natCast_pos.2 hD
 have v0:0<V:=by grind
 have v1:V≤ep x zt.length*R^m+er:=by grind
 have w0:=Rat.mul_pos hDp v0
 have w1:=Rat.mul_le_mul_of_nonneg_left v1 (show (0:Rat)≤D by grind)
 rw [hz] at w0 w1
 have z0':0<z:=Rat.intCast_pos.1 w0
 have z1':z<1:=Rat.intCast_lt_intCast.1 (show (z:Rat)<((1:Int):Rat) by
  have:((1:Int):Rat)=1:=rfl
  rw [this];grind)
 omega
def IsZ (q:Rat):Prop:= ∃n:Int,q=(n:Rat)
theorem IsZ.int (n:Int):IsZ (n:Rat):=⟨n,rfl⟩
theorem IsZ.nat (n:Nat):IsZ (n:Rat):=⟨(n:Int),(Rat.intCast_natCast n).symm⟩
theorem IsZ.zero:IsZ 0:=⟨0,rfl⟩
theorem IsZ.add {p q:Rat} (h:IsZ p) (k:IsZ q):IsZ (p+q):=by
 obtain ⟨a,rfl⟩:=h;obtain ⟨b,rfl⟩:=k
 exact ⟨a+b,(Rat.intCast_add a b).symm⟩
theorem IsZ.mul {p q:Rat} (h:IsZ p) (k:IsZ q):IsZ (p*q):=by
 obtain ⟨a,rfl⟩:=h;obtain ⟨b,rfl⟩:=k
 exact ⟨a*b,(Rat.intCast_mul a b).symm⟩
theorem IsZ.neg {p:Rat} (h:IsZ p):IsZ (-p):=by
 obtain ⟨a,rfl⟩:=h
 exact ⟨-a,(Rat.intCast_neg a).symm⟩
theorem IsZ.sub {p q:Rat} (h:IsZ p) (k:IsZ q):IsZ (p-q):=by
 have:=h.add k.neg
 rwa [←Rat.sub_eq_add_neg] at this
theorem IsZ.sum {f:Nat→Rat}: ∀n,(∀i,i<n→IsZ (f i))→IsZ (sumQ f n)
 |0,_=>IsZ.zero
 |n+1,h=>(IsZ.sum n (fun i hi=>h i (by omega))).add (h n (by omega))
def dist (k z:Nat):Nat:=(k-z)+(z-k)
theorem dist_pos {k z:Nat} (h:z≠k):0<dist k z:=by unfold dist;omega
theorem dist_cast (k z:Nat):((dist k z:Nat):Rat)=(k:Rat)-(z:Rat)∨((dist k z:Nat):Rat)= -((k:Rat)-(z:Rat)):=by
 unfold dist
 rcases Nat.le_total z k with h|h
 ·left
  have e:(k:Rat)=((k-z+(z-k):Nat):Rat)+(z:Rat):=by rw [←Rat.natCast_add];congr 1;omega
  rw [e];grind
 ·right
  have e:(z:Rat)=((k-z+(z-k):Nat):Rat)+(k:Rat):=by rw [←Rat.natCast_add];congr 1;omega
  rw [e];grind
def prL (k:Nat):List Nat→Nat
 | []=>1
 |z::zs=>(if z=k then 1 else dist k z)*prL k zs
theorem cast_mul (a b:Nat):((a*b:Nat):Rat)=(a:Rat)*(b:Rat):=Rat.natCast_mul a b
theorem cast_pow (a n:Nat):((a^n:Nat):Rat)=(a:Rat)^n:=Rat.natCast_pow a n
theorem res_int (L k:Nat): ∀zs:List Nat,(∀z∈zs,z≠k→dist k z∣L)→ ∀j,IsZ ((prL k zs:Rat)*(L:Rat)^j*resS k zs j)
 | [],_,j=>by
   simp only [prL,resS]
   split
   ·rename_i h;subst h
    rw [Rat.pow_zero]
    have:((1:Nat):Rat)*1*1=((1:Nat):Rat):=by grind
    rw [this];exact IsZ.nat 1
   ·have:((1:Nat):Rat)*(L:Rat)^j*0=0:=by grind
    rw [this];exact IsZ.zero
 |z::zs,h,j=>by
  have ih:=res_int L k zs (fun y hy=>h y (List.mem_cons_of_mem _ hy))
  by_cases hz:z=k
  ·simp only [prL,resS,if_pos hz,Nat.one_mul];exact ih j
  ·simp only [prL,resS,if_neg hz]
   obtain ⟨q,hq⟩:=h z (List.mem_cons_self ..) hz
   have hc:(k:Rat)-(z:Rat)≠0:=natne (fun e=>hz e.symm)
   obtain ⟨c,hcc⟩: ∃c,c=(k:Rat)-(z:Rat):=⟨_,rfl⟩
   have hd:=dist_cast k z
   rw [←hcc] at hc hd ⊢
   rw [cast_mul]
   have hL:(L:Rat)=(dist k z:Rat)*(q:Rat):=by rw [←cast_mul,←hq]
   generalize (dist k z:Rat)=e at *
   generalize (prL k zs:Rat)=p at *
   induction j with
   |zero=>
    have a:=divS_zero hc (resS k zs)
    have b:=ih 0
    rw [Rat.pow_zero] at b ⊢
    rcases hd with h1|h1
    ·have:e*p*1*divS c (resS k zs) 0=p*1*resS k zs 0:=by rw [h1];grind
     rw [this];exact b
    ·have:e*p*1*divS c (resS k zs) 0= -(p*1*resS k zs 0):=by rw [h1];grind
     rw [this];exact b.neg
   |succ j ihj=>
    have a:=divS_succ hc (resS k zs) j
    have b:=ih (j+1)
    have d:=(IsZ.nat q).mul ihj
    have f:p*(L:Rat)^(j+1)*(resS k zs (j+1)-divS c (resS k zs) j)=p*(L:Rat)^(j+1)*resS k zs (j+1)-(q:Rat)*(e*p*(L:Rat)^j*divS c (resS k zs) j):=by
     rw [Rat.pow_succ]
     generalize (L:Rat)^j=w at *
     rw [hL];grind
    have g:=b.sub d
    rw [←f] at g
    rcases hd with h1|h1
    ·have:e*p*(L:Rat)^(j+1)*divS c (resS k zs) (j+1)=p*(L:Rat)^(j+1)*(resS k zs (j+1)-divS c (resS k zs) j):=by
      generalize (L:Rat)^(j+1)=w at *
      rw [h1];grind
     rw [this];exact g
    ·have:e*p*(L:Rat)^(j+1)*divS c (resS k zs) (j+1)= -(p*(L:Rat)^(j+1)*(resS k zs (j+1)-divS c (resS k zs) j)):=by
      generalize (L:Rat)^(j+1)=w at *
      rw [h1];grind
     rw [this];exact g.neg
theorem pow2_pos (n:Nat):(0:Rat)<2^n:=Rat.pow_pos (by grind)
theorem pow2_succ (n:Nat):(2:Rat)^(n+1)=2*2^n:=by rw [Rat.pow_succ];grind
theorem pow2_mono {a b:Nat} (h:a≤b):(2:Rat)^a≤2^b:=pow_mono_exp (by grind) h
theorem res_size (k:Nat): ∀(zs:List Nat) (j:Nat),-(2:Rat)^(zs.length+j)≤resS k zs j∧resS k zs j≤2^(zs.length+j)
 | [],j=>by
   have h:=pow2_pos (([]:List Nat).length+j)
   have h1:=pow2_mono (show 0≤([]:List Nat).length+j by omega)
   rw [Rat.pow_zero] at h1
   simp only [resS]
   split<;>constructor<;>grind
 |z::zs,j=>by
  have ih:=res_size k zs
  by_cases hz:z=k
  ·simp only [resS,if_pos hz]
   have a:=ih j
   have b:=pow2_mono (show zs.length+j≤(z::zs).length+j by simp)
   constructor<;>grind
  ·simp only [resS,if_neg hz]
   have hc:(k:Rat)-(z:Rat)≠0:=natne (fun e=>hz e.symm)
   have h1:(1:Rat)≤(dist k z:Rat):=natle (dist_pos hz)
   have hd:=dist_cast k z
   generalize (k:Rat)-(z:Rat)=c at *
   have key: ∀f g B:Rat,c*g=f→ -B≤f→f≤B→ -B≤g∧g≤B:=by
    intro f g B hg f1 f2
    have B0:0≤B:=by grind
    rcases hd with hd|hd
    ·have c1:1≤c:=by grind
     constructor
     ·refine Rat.not_lt.1 (fun hlt=>?_)
      have:=Rat.mul_le_mul_of_nonneg_right c1 (show 0≤ -g by grind)
      grind
     ·refine Rat.not_lt.1 (fun hlt=>?_)
      have:=Rat.mul_le_mul_of_nonneg_right c1 (show 0≤g by grind)
      grind
    ·have c1:1≤ -c:=by grind
     constructor
     ·refine Rat.not_lt.1 (fun hlt=>?_)
      have:=Rat.mul_le_mul_of_nonneg_right c1 (show 0≤ -g by grind)
      grind
     ·refine Rat.not_lt.1 (fun hlt=>?_)
      have:=Rat.mul_le_mul_of_nonneg_right c1 (show 0≤g by grind)
      grind
   induction j with
   |zero=>
    have a:=ih 0
    have e:=pow2_mono (show zs.length+0≤(z::zs).length+0 by simp)
    exact key _ _ _ (divS_zero hc _) (by grind) (by grind)
   |succ j ihj=>
    have a:=ih (j+1)
    have e:(z::zs).length+(j+1)=(zs.length+j+1)+1:=by simp;omega
    have e2:(z::zs).length+j=zs.length+j+1:=by simp;omega
    rw [e2] at ihj
    rw [show zs.length+(j+1)=zs.length+j+1 by omega] at a
    rw [e,pow2_succ]
    have b:=divS_succ hc (resS k zs) j
    exact key (resS k zs (j+1)-divS c (resS k zs) j) _ _ (by grind) (by grind) (by grind)
def nodes (N:Nat):Nat→List Nat
 |0=> []
 |n+1=>List.replicate N n++nodes N n
theorem nodes_len (N:Nat): ∀n,(nodes N n).length=n*N
 |0=>by simp [nodes]
 |n+1=>by rw [nodes,List.length_append,List.length_replicate,nodes_len N n,Nat.succ_mul];omega
theorem nodes_lt (N:Nat): ∀n,∀z∈nodes N n,z<n
 |0,z,h=>by simp [nodes] at h
 |n+1,z,h=>by
  rw [nodes] at h
  rcases List.mem_append.1 h with h|h
  ·rw [(List.mem_replicate.1 h).2];omega
  ·have:=nodes_lt N n z h;omega
theorem nodes_count (N k:Nat): ∀n,(nodes N n).count k=if k<n then N else 0
 |0=>by simp [nodes]
 |n+1=>by
  rw [nodes,List.count_append,nodes_count N k n,List.count_replicate]
  by_cases h:k=n
  ·subst h;rw [if_pos (by simp),if_neg (by omega),if_pos (by omega)];omega
  ·by_cases h2:k<n
   ·rw [if_neg (by simpa using fun e=>h e.symm),if_pos h2,if_pos (by omega)];omega
   ·rw [if_neg (by simpa using fun e=>h e.symm),if_neg h2,if_neg (by omega)]
def prT (k:Nat):Nat→Nat
 |0=>1
 |z+1=>(bif Nat.beq z k then 1 else dist k z)*prT k z
theorem prL_app (k:Nat): ∀a b:List Nat,prL k (a++b)=prL k a*prL k b
 | [],b=>by simp [prL]
 |z::a,b=>by rw [List.cons_append,prL,prL_app k a b,prL,Nat.mul_assoc]
theorem prL_rep (k z:Nat): ∀N,prL k (List.replicate N z)=(if z=k then 1 else dist k z)^N
 |0=>by simp [prL]
 |N+1=>by rw [List.replicate_succ,prL,prL_rep k z N,Nat.pow_succ,Nat.mul_comm]
theorem prL_nodes (N k:Nat): ∀n,prL k (nodes N n)=prT k n^N
 |0=>by simp [prL,nodes,prT]
 |n+1=>by
  rw [nodes,prL_app,prL_rep,prL_nodes N k n,prT,Nat.mul_pow]
  congr 2
  by_cases h:n=k
  ·rw [if_pos h,show Nat.beq n k=true by rw [Nat.beq_eq];exact h];rfl
  ·rw [if_neg h,show Nat.beq n k=false by rw [Bool.eq_false_iff,ne_eq,Nat.beq_eq];exact h];rfl
def fac:Nat→Nat
 |0=>1
 |n+1=>(n+1)*fac n
theorem fac_pos: ∀n,0<fac n
 |0=>by decide
 |n+1=>Nat.mul_pos (by omega) (fac_pos n)
theorem fac_dvd {i n:Nat} (h:i≤n):fac i∣fac n:=by
 induction n with
 |zero=>rw [show i=0 by omega];exact Nat.dvd_refl _
 |succ n ih=>
  by_cases e:i=n+1
  ·rw [e];exact Nat.dvd_refl _
  ·exact Nat.dvd_trans (ih (by omega)) (Nat.dvd_mul_left _ _)
theorem ep_frac (a b:Nat) (hb:0<b) (x:Rat) (hx:(b:Rat)*x=(a:Rat)): ∀i,((fac i*b^i:Nat):Rat)*ep x i=((a^i:Nat):Rat)
 |0=>by simp only [fac,ep,Nat.pow_zero];grind
 |i+1=>by
  have ih:=ep_frac a b hb x hx i
  have p:=ep_succ x i
  rw [fac,Nat.pow_succ,Nat.pow_succ]
  have e:(((i+1)*fac i*(b^i*b):Nat):Rat)=((i+1:Nat):Rat)*((fac i*b^i:Nat):Rat)*(b:Rat):=by
   rw [←cast_mul,←cast_mul];congr 1;simp only [Nat.mul_assoc]
  rw [e,cast_mul (a^i) a,←ih,←hx]
  grind
theorem comb_int (m N L F a b c d:Nat) (hb:0<b) (x r:Rat) (hx:(b:Rat)*x=(a:Rat)) (hr:(d:Rat)*r=(c:Rat))
 (hL: ∀i,1≤i→i≤m→i∣L) (hF: ∀k,k≤m→prT k (m+1)∣F) (I:Nat):
 IsZ (((F^N*L^N*(fac N*b^N)*d^m:Nat):Rat)*sumQ (fun k=>sumQ (fun i=>alp (nodes N (m+1)) k i*(ep x i*r^k)) I) (m+1)):=by
 rw [←sumQ_mul]
 refine IsZ.sum _ (fun k hk=>?_)
 rw [←sumQ_mul]
 refine IsZ.sum _ (fun i _=>?_)
 unfold alp
 rw [nodes_count,if_pos hk]
 by_cases hi:i<N
 ·rw [if_pos hi]
  have h1:=res_int L k (nodes N (m+1)) (fun z hz hne=>hL _ (dist_pos hne) (by have:=nodes_lt N (m+1) z hz;unfold dist;omega)) (N-1-i)
  rw [prL_nodes] at h1
  obtain ⟨f,hf⟩:=hF k (by omega)
  obtain ⟨g,hg⟩:=fac_dvd (show i≤N by omega)
  have h2:=ep_frac a b hb x hx i
  have h3: ∀k,(d:Rat)^k*r^k=((c^k:Nat):Rat):=by
   intro k
   induction k with
   |zero=>rw [Rat.pow_zero,Rat.pow_zero,Nat.pow_zero];grind
   |succ k ih=>rw [Rat.pow_succ,Rat.pow_succ,Nat.pow_succ,cast_mul,←ih,←hr];grind
  have e1:((F^N:Nat):Rat)=((prT k (m+1)^N:Nat):Rat)*((f^N:Nat):Rat):=by rw [←cast_mul,←Nat.mul_pow,←hf]
  have e2:((L^N:Nat):Rat)=(L:Rat)^(N-1-i)*((L^(1+i):Nat):Rat):=by
   rw [←cast_pow,←cast_mul,←Nat.pow_add];congr 2;omega
  have e3:((fac N*b^N:Nat):Rat)=((fac i*b^i:Nat):Rat)*((g*b^(N-i):Nat):Rat):=by
   rw [←cast_mul];congr 1
   rw [hg,show fac i*b^i*(g*b^(N-i))=fac i*g*(b^i*b^(N-i)) by simp only [Nat.mul_assoc,Nat.mul_left_comm,Nat.mul_comm],←Nat.pow_add]
   congr 2;omega
  have e4:((d^m:Nat):Rat)=(d:Rat)^k*((d^(m-k):Nat):Rat):=by
   rw [←cast_pow,←cast_mul,←Nat.pow_add];congr 2;omega
  rw [cast_mul _ (d^m),cast_mul _ (fac N*b^N),cast_mul (F^N),e1,e2,e3,e4]
  have key:((prT k (m+1)^N:Nat):Rat)*((f^N:Nat):Rat)*((L:Rat)^(N-1-i)*((L^(1+i):Nat):Rat))*(((fac i*b^i:Nat):Rat)*((g*b^(N-i):Nat):Rat))*((d:Rat)^k*((d^(m-k):Nat):Rat))*(resS k (nodes N (m+1)) (N-1-i)*(ep x i*r^k))=
   (((prT k (m+1)^N:Nat):Rat)*(L:Rat)^(N-1-i)*resS k (nodes N (m+1)) (N-1-i))*((f^N:Nat):Rat)*((L^(1+i):Nat):Rat)*((((fac i*b^i:Nat):Rat)*ep x i)*((g*b^(N-i):Nat):Rat))*(((d:Rat)^k*r^k)*((d^(m-k):Nat):Rat)):=by
   generalize ((prT k (m+1)^N:Nat):Rat)=t1
   generalize ((f^N:Nat):Rat)=t2
   generalize (L:Rat)^(N-1-i)=t3
   generalize ((L^(1+i):Nat):Rat)=t4
   generalize ((fac i*b^i:Nat):Rat)=t5
   generalize ((g*b^(N-i):Nat):Rat)=t6
   generalize (d:Rat)^k=t7
   generalize ((d^(m-k):Nat):Rat)=t8
   generalize resS k (nodes N (m+1)) (N-1-i)=t9
   generalize ep x i=t10
   generalize r^k=t11
   grind
  rw [key,h2,h3]
  exact (((h1.mul (IsZ.nat _)).mul (IsZ.nat _)).mul ((IsZ.nat _).mul (IsZ.nat _))).mul ((IsZ.nat _).mul (IsZ.nat _))
 ·rw [if_neg hi,Rat.zero_mul,Rat.mul_zero]
  exact IsZ.zero
theorem alp_size (N n k i:Nat): -(2:Rat)^(n*N+N)≤alp (nodes N n) k i∧alp (nodes N n) k i≤2^(n*N+N):=by
 have h0:=pow2_pos (n*N+N)
 unfold alp
 rw [nodes_count]
 by_cases h:k<n
 ·rw [if_pos h]
  by_cases hi:i<N
  ·rw [if_pos hi]
   have a:=res_size k (nodes N n) (N-1-i)
   rw [nodes_len] at a
   have b:=pow2_mono (show n*N+(N-1-i)≤n*N+N by omega)
   constructor<;>grind
  ·rw [if_neg hi];constructor<;>grind
 ·rw [if_neg h,if_neg (by omega)];constructor<;>grind
end Go.Ulp
