/- TopSum: what the proof leans on, part 2 (Tw0 Nat3 Z2 Step Z6 Q1 Q3). -/
import Derived.Test.YtfphmlmgjhebjaaGreatDoorRows
import Derived.Deep.RegionWith
import Derived.Maps.AppendAt
import Derived.Deep.RegionLaw
import Derived.Test.YtfphmlmgjhebjaaGreatDoorKTopSum1
set_option linter.unusedVariables false
set_option linter.unusedSimpArgs false
namespace Go.Ulp
open Go.RowKit
def Rp (v:Int):Prop:= ∃(m:Int) (k:Nat),v=m*pw k∧m.natAbs<9007199254740992
theorem pw_le_nat {a b:Nat} (h:a≤b):pw a≤pw b:=by
 unfold pw;have:=Nat.pow_le_pow_right (show 0<2 by omega) h;omega
theorem pw_succ (k:Nat):pw (k+1)=2*pw k:=by rw [pw_add];show pw k*((2^1:Nat):Int)=_;omega
theorem pw_split {a b:Nat} (h:a≤b):pw b=pw (b-a)*pw a:=by rw [←pw_add];congr 1;omega
theorem rp_zero:Rp 0:=⟨0,0,by omega,by decide⟩
theorem rp_neg {v:Int} (h:Rp v):Rp (-v):=by
 obtain ⟨m,k,e,hm⟩:=h
 exact ⟨-m,k,by rw [e,Int.neg_mul],by omega⟩
theorem rp_of (m:Int) (k:Nat) (h:m.natAbs≤9007199254740992):Rp (m*pw k):=by
 by_cases h1:m.natAbs<9007199254740992
 ·exact ⟨m,k,rfl,h1⟩
 ·rcases Int.lt_or_le m 0 with h2|h2
  ·exact ⟨-4503599627370496,k+1,by rw [pw_succ,show m= -9007199254740992 by omega];omega,by decide⟩
  ·exact ⟨4503599627370496,k+1,by rw [pw_succ,show m=9007199254740992 by omega];omega,by decide⟩
theorem abs_mul_pw (m:Int) (k:Nat):((m*pw k).natAbs:Int)=(m.natAbs:Int)*pw k:=by
 rw [natAbs_mul_pw,Int.natCast_mul];rfl
theorem rp_bd {v:Int} {k:Nat} (h:pw k∣v) (hb:(v.natAbs:Int)≤9007199254740992*pw k):Rp v:=by
 obtain ⟨m,e⟩:=h
 rw [Int.mul_comm] at e
 have h1:=abs_mul_pw m k
 rw [e,h1] at hb
 have:=Int.le_of_mul_le_mul_right hb (pw_pos k)
 rw [e]
 exact rp_of m k (by omega)
theorem pw_dvd {a b:Nat} (h:a≤b):pw a∣pw b:=⟨pw (b-a),by rw [Int.mul_comm];exact pw_split h⟩
theorem dvd_down {a b:Nat} {v:Int} (h:a≤b) (hv:pw b∣v):pw a∣v:=Int.dvd_trans (pw_dvd h) hv
def NearR (B:Int) (r:Int→Int):Prop:= ∀v,-B≤v→v≤B→Rp (r v)∧ ∀u,Rp u→(r v-v).natAbs≤(u-v).natAbs
variable {B:Int} {r:Int→Int}
theorem near_self (hr:NearR B r) {v:Int} (h0: -B≤v) (h1:v≤B) (h:Rp v):r v=v:=by
 have:=(hr v h0 h1).2 v h
 omega
theorem near_small (hr:NearR B r) {v:Int} (h0: -B≤v) (h1:v≤B):(r v-v).natAbs≤v.natAbs:=by
 have:=(hr v h0 h1).2 0 rp_zero
 omega
theorem rp_form {v:Int} (h:Rp v) {k:Nat} (hb:9007199254740992*pw k≤(v.natAbs:Int)):pw (k+1)∣v:=by
 obtain ⟨m,j,e,hm⟩:=h
 rcases Nat.lt_or_ge k j with h1|h1
 ·exact dvd_down h1 ⟨m,by rw [e,Int.mul_comm]⟩
 ·exfalso
  have h2:=abs_mul_pw m j
  rw [e,h2] at hb
  have h3:=pw_le_nat h1
  have h4:(m.natAbs:Int)*pw j≤9007199254740991*pw j:=Int.mul_le_mul_of_nonneg_right (by omega) (Int.le_of_lt (pw_pos j))
  have:=pw_pos j
  omega
theorem near_big (hr:NearR B r) {v:Int} (h0: -B≤v) (h1:v≤B) {u:Int} (hu:Rp u) (hb:u.natAbs≤v.natAbs):u.natAbs≤(r v).natAbs:=by
 have a:=(hr v h0 h1).2 u hu
 have b:=(hr v h0 h1).2 (-u) (rp_neg hu)
 omega
theorem near_gran (hr:NearR B r) {v:Int} (h0: -B≤v) (h1:v≤B) {k:Nat} (hd:pw k∣v):pw k∣r v:=by
 rcases Classical.em ((v.natAbs:Int)≤9007199254740992*pw k) with h|h
 ·rw [near_self hr h0 h1 (rp_bd hd h)];exact hd
 ·have hu:Rp (9007199254740992*pw k):=rp_of _ k (by decide)
  have h2:=near_big hr h0 h1 hu (by have:=pw_pos k;omega)
  have:=pw_pos k
  exact dvd_down (Nat.le_succ k) (rp_form (hr v h0 h1).1 (by omega))
theorem near_inexact (hr:NearR B r) {v:Int} (h0: -B≤v) (h1:v≤B) {k:Nat} (hd:pw k∣v) (hn:r v≠v):pw (k+1)∣r v∧9007199254740992*pw k<(v.natAbs:Int):=by
 rcases Classical.em ((v.natAbs:Int)≤9007199254740992*pw k) with h|h
 ·exact absurd (near_self hr h0 h1 (rp_bd hd h)) hn
 ·have hu:Rp (9007199254740992*pw k):=rp_of _ k (by decide)
  have h2:=near_big hr h0 h1 hu (by have:=pw_pos k;omega)
  have:=pw_pos k
  exact ⟨rp_form (hr v h0 h1).1 (by omega),by omega⟩
theorem near_half (hr:NearR B r) {v:Int} (h0: -B≤v) (h1:v≤B) (hn:r v≠v): ∃t,pw t∣r v∧2*((v-r v).natAbs:Int)≤pw t:=by
 obtain ⟨⟨m,j,e,hm⟩,hu⟩:=hr v h0 h1
 refine ⟨j,⟨m,by rw [e,Int.mul_comm]⟩,?_⟩
 have a:=hu ((m+1)*pw j) (rp_of _ _ (by omega))
 have b:=hu ((m-1)*pw j) (rp_of _ _ (by omega))
 rw [Int.add_mul,Int.one_mul,←e] at a
 rw [Int.sub_mul,Int.one_mul,←e] at b
 have:=pw_pos j
 omega
theorem rp_low {x y v:Int} (hx:Rp x) (hy:Rp y) (hd: ∀k,pw k∣x→pw k∣y→pw k∣v) (bx:v.natAbs≤x.natAbs) (hb:v.natAbs≤y.natAbs):Rp v:=by
 obtain ⟨m,k,ex,hm⟩:=hx
 obtain ⟨n,j,ey,hn⟩:=hy
 have dx:pw k∣x:=⟨m,by rw [ex,Int.mul_comm]⟩
 have dy:pw j∣y:=⟨n,by rw [ey,Int.mul_comm]⟩
 have ax:=abs_mul_pw m k
 have ay:=abs_mul_pw n j
 rw [←ex] at ax
 rw [←ey] at ay
 have px:=pw_pos k
 have py:=pw_pos j
 rcases Nat.le_total j k with h|h
 ·refine rp_bd (hd j (dvd_down h dx) dy) ?_
  have:(n.natAbs:Int)*pw j≤9007199254740992*pw j:=Int.mul_le_mul_of_nonneg_right (by omega) (Int.le_of_lt py)
  omega
 ·refine rp_bd (hd k dx (dvd_down h dy)) ?_
  have:(m.natAbs:Int)*pw k≤9007199254740992*pw k:=Int.mul_le_mul_of_nonneg_right (by omega) (Int.le_of_lt px)
  omega
theorem err_le (hr:NearR B r) {x y:Int} (h0: -B≤x+y) (h1:x+y≤B) (hx:Rp x) (hy:Rp y):(x+y-r (x+y)).natAbs≤x.natAbs∧(x+y-r (x+y)).natAbs≤y.natAbs:=by
 have a:=(hr _ h0 h1).2 x hx
 have b:=(hr _ h0 h1).2 y hy
 omega
theorem err_gran (hr:NearR B r) {x y:Int} (h0: -B≤x+y) (h1:x+y≤B) {k:Nat} (dx:pw k∣x) (dy:pw k∣y):pw k∣r (x+y)∧pw k∣x+y-r (x+y):=by
 have hd:=near_gran hr h0 h1 (Int.dvd_add dx dy)
 exact ⟨hd,Int.dvd_sub (Int.dvd_add dx dy) hd⟩
theorem rp_err (hr:NearR B r) {x y:Int} (h0: -B≤x+y) (h1:x+y≤B) (hx:Rp x) (hy:Rp y):Rp (x+y-r (x+y)):=by
 obtain ⟨a,b⟩:=err_le hr h0 h1 hx hy
 exact rp_low hx hy (fun k dx dy=>(err_gran hr h0 h1 dx dy).2) a b
theorem fast (hr:NearR B r) {x y:Int} (h0: -B≤x+y) (h1:x+y≤B) (hx:Rp x) (hy:Rp y) (hxy:y.natAbs≤x.natAbs):Rp (r (x+y)-x):=by
 obtain ⟨e1,e2⟩:=err_le hr h0 h1 hx hy
 by_cases he:r (x+y)=x+y
 ·rw [he,show x+y-x=y by omega];exact hy
 ·obtain ⟨m,k,ex,hm⟩:=id hx
  obtain ⟨n,j,ey,hn⟩:=id hy
  have dx:pw k∣x:=⟨m,by rw [ex,Int.mul_comm]⟩
  have dy:pw j∣y:=⟨n,by rw [ey,Int.mul_comm]⟩
  have ax:=abs_mul_pw m k
  have ay:=abs_mul_pw n j
  rw [←ex] at ax
  rw [←ey] at ay
  have px:=pw_pos k
  have py:=pw_pos j
  obtain ⟨i,hik,di,bi⟩: ∃i,i≤k∧pw i∣y∧(y.natAbs:Int)≤9007199254740991*pw i:=by
   rcases Nat.le_total j k with h|h
   ·exact ⟨j,h,dy,by
     have:(n.natAbs:Int)*pw j≤9007199254740991*pw j:=Int.mul_le_mul_of_nonneg_right (by omega) (Int.le_of_lt py)
     omega⟩
   ·exact ⟨k,Nat.le_refl _,dvd_down h dy,by
     have:(m.natAbs:Int)*pw k≤9007199254740991*pw k:=Int.mul_le_mul_of_nonneg_right (by omega) (Int.le_of_lt px)
     omega⟩
  have pi:=pw_pos i
  have dxi:=dvd_down hik dx
  obtain ⟨ds,hv⟩:=near_inexact hr h0 h1 (Int.dvd_add dxi di) he
  have ps:=pw_succ i
  rcases Nat.lt_or_ge i k with hlt|hge
  ·refine rp_bd (k:=i+1) (Int.dvd_sub ds (dvd_down hlt dx)) ?_
   omega
  ·have hk:i=k:=by omega
   subst hk
   obtain ⟨q,hq⟩:=Int.dvd_add dxi di
   have bx:(x.natAbs:Int)≤9007199254740991*pw i:=by
    have:(m.natAbs:Int)*pw i≤9007199254740991*pw i:=Int.mul_le_mul_of_nonneg_right (by omega) (Int.le_of_lt px)
    omega
   have hqb:(q.natAbs:Int)*pw i≤18014398509481982*pw i:=by
    have:=abs_mul_pw q i
    rw [Int.mul_comm,←hq] at this
    omega
   have hqb2:=Int.le_of_mul_le_mul_right hqb pi
   have hodd: ¬2∣q:=fun ⟨c,hc⟩=>he (near_self hr h0 h1 (by
    rw [hq,hc,show pw i*(2*c)=c*pw (i+1) by rw [ps,←Int.mul_assoc,Int.mul_comm (pw i) 2,Int.mul_comm]]
    exact rp_of c (i+1) (by omega)))
   obtain ⟨c,hc⟩: ∃c,q+1=2*c:=⟨(q+1)/2,by omega⟩
   have hup:Rp (x+y+pw i):=by
    rw [hq,show pw i*q+pw i=c*pw (i+1) by rw [ps,show pw i*q+pw i=pw i*(q+1) by rw [Int.mul_add,Int.mul_one],hc,←Int.mul_assoc,Int.mul_comm (pw i) 2,Int.mul_comm]]
    exact rp_of c (i+1) (by omega)
   have hen:=(hr _ h0 h1).2 _ hup
   refine rp_bd (k:=i) (Int.dvd_sub (dvd_down (Nat.le_succ i) ds) dx) ?_
   omega
theorem two_sum (hr:NearR B r) (x y:Int) (hx:Rp x) (hy:Rp y) (bx:16*(x.natAbs:Int)≤B) (bw:16*(y.natAbs:Int)≤B):
 r (r (x-r (r (x+y)-y))+r (y-r (r (x+y)-r (r (x+y)-y))))=x+y-r (x+y):=by
 obtain ⟨s,hs⟩: ∃s,s=r (x+y):=⟨_,rfl⟩
 have e0:=err_le hr (x:=x) (y:=y) (by omega) (by omega) hx hy
 have eR:=rp_err hr (x:=x) (y:=y) (by omega) (by omega) hx hy
 have sR:Rp s:=by rw [hs];exact (hr _ (by omega) (by omega)).1
 rw [←hs] at e0 eR ⊢
 have nz:r 0=0:=near_self hr (by omega) (by omega) rp_zero
 rcases Nat.le_total x.natAbs y.natAbs with hxy|hxy
 ·have f:=fast hr (x:=y) (y:=x) (by omega) (by omega) hy hx hxy
  rw [Int.add_comm y x,←hs] at f
  have ha:r (s-y)=s-y:=near_self hr (by omega) (by omega) f
  rw [ha,show s-(s-y)=y by omega,show x-(s-y)=x+y-s by omega]
  rw [near_self hr (by omega) (by omega) hy,Int.sub_self,nz,Int.add_zero]
  rw [near_self hr (by omega) (by omega) eR,near_self hr (by omega) (by omega) eR]
 ·obtain ⟨a,ha⟩: ∃a,a=r (s-y):=⟨_,rfl⟩
  have yn:=rp_neg hy
  have ea:=err_le hr (x:=s) (y:= -y) (by omega) (by omega) sR yn
  have eaR:=rp_err hr (x:=s) (y:= -y) (by omega) (by omega) sR yn
  have aR:Rp a:=by rw [ha];exact (hr _ (by omega) (by omega)).1
  rw [show s+ -y=s-y by omega,←ha] at ea eaR
  rw [←ha]
  have b1:Rp (s-a):=by
   rcases Nat.lt_or_ge s.natAbs y.natAbs with h|h
   ·have hsm:(x+y).natAbs<y.natAbs:=by
     rcases Nat.lt_or_ge (x+y).natAbs y.natAbs with k|k
     ·exact k
     ·have:=near_big hr (v:=x+y) (by omega) (by omega) hy k
      omega
    have hex:Rp (x+y):=rp_low hx hy (fun k dx dy=>Int.dvd_add dx dy) (by omega) (by omega)
    have hsx:s=x+y:=by rw [hs];exact near_self hr (by omega) (by omega) hex
    have hax:a=x:=by rw [ha,hsx,show x+y-y=x by omega];exact near_self hr (by omega) (by omega) hx
    rw [hsx,hax,show x+y-x=y by omega];exact hy
   ·have f:=fast hr (x:=s) (y:= -y) (by omega) (by omega) sR yn (by omega)
    rw [show s+ -y=s-y by omega,←ha] at f
    have:=rp_neg f
    rw [show -(a-s)=s-a by omega] at this
    exact this
  have b2:Rp (x-a):=by
   have f:=fast hr (x:=x) (y:= -(x+y-s)) (by omega) (by omega) hx (rp_neg eR) (by omega)
   rw [show x+ -(x+y-s)=s-y by omega,←ha] at f
   have:=rp_neg f
   rw [show -(a-x)=x-a by omega] at this
   exact this
  have b3:Rp (y-(s-a)):=by
   have:=rp_neg eaR
   rw [show -(s-y-a)=y-(s-a) by omega] at this
   exact this
  rw [near_self hr (v:=s-a) (by omega) (by omega) b1,near_self hr (by omega) (by omega) b2,near_self hr (by omega) (by omega) b3,show x-a+(y-(s-a))=x+y-s by omega]
  exact near_self hr (by omega) (by omega) eR
end Go.Ulp
namespace Go.Proofs.YtfphmlmgjhebjaaGreatDoor
open Go.RowKit Go.Ulp
set_option maxHeartbeats 400000
theorem ei_u32:ElemInfo Tryz.prog 65 181 .u32 4:=ElemInfo.mk Tryz.underlying65 (by kernel_rfl)
theorem norm_any (ao:Option Addr) (cap:Nat) (L:List Nat) (w:World) (h:Ns .u32 w ao cap L) (hl:Lim L):
 Calls Tryz.prog 174 #[.slice ao L.length cap] w fun e w'=>e=.returned (.slice ao (limbs (lval L)).length (limbs (lval L)).length)∧w=w':=by
 obtain ⟨h1,h2,h3⟩:=h
 unfold maxLen at h2
 go_enter Tryz.func174,Tryz.ntmps174
 go_wp2_with fail
 go_loop [0] (fun v=> ∃k:Nat,k≤L.length∧v=.slice ao k cap∧ ∀d∈L.drop k,d=0) (fun v=>match v with| .slice _ k _=>k|_=>0)
 case atStart=>exact ⟨L.length,Nat.le_refl _,rfl,by simp⟩
 case round=>
  obtain ⟨k,hk,rfl,hz⟩:=hrel
  have HZ:=hid hz
  clear hz
  cases k with
  |zero=>
   have e:=hid (limbs_cut L hl 0 HZ.out (fun h=>by simp at h))
   go_wp2
   go_ret
   refine ⟨?_,rfl⟩
   rw [e.out];rfl
  |succ m=>
   obtain ⟨b,off,rfl,hc⟩:=h3 (by omega)
   have hcell:=hc m (by omega)
   clear hc h3
   by_cases hd:lb L m=0
   ·go_wp2
    go_round
    case rel=>exact ⟨m,by omega,by go_num,drop_zero_succ L m (by omega) (by unfold lb at hd;omega) HZ.out⟩
    case measure=>simp
   ·have hd':(lb L m==0)=false:=by simpa using hd
    have hdn:L.getD m 0≠0:=by unfold lb at hd;omega
    have e:=hid (limbs_cut L hl (m+1) HZ.out (trim_take L m (by omega) hdn))
    clear hdn
    go_wp2
    go_ret
    refine ⟨?_,rfl⟩
    rw [e.out,List.length_take,Nat.min_eq_left (by omega)]
    rfl
theorem natOf_any (n:Nat) (hn:n<18446744073709551616) (w:World):
 Calls Tryz.prog 95 #[.int .u64 (n:Int)] w fun e w'=>RetN w n e w':=by
 have hl:Lim [n%4294967296,n/4294967296]:=AllLt.cons.2 ⟨by omega,AllLt.cons.2 ⟨by omega,AllLt.nil⟩⟩
 have hv:lval [n%4294967296,n/4294967296]=n:=by unfold lval;simp only [val];omega
 have hN:Ns .u32 (w.alloc (.cells #[.int .u32 ((n:Int)%4294967296),.int .u32 ((n:Int)/4294967296)] 181)) (some ⟨w.heap.size,0,none⟩) 2 [n%4294967296,n/4294967296]:=by
  refine ⟨by simp,by unfold maxLen;omega,fun _=>⟨_,_,rfl,fun i hi=>?_⟩⟩
  match i,hi with
  |0,_=>rw [World.cell?_alloc_at (hn:=rfl)];simp [lb]
  |1,_=>rw [World.cell?_alloc_at (hn:=rfl)];simp [lb]
 have hN':=hN.norm hl
 rw [hv] at hN'
 have HV:=hid hv
 clear hv
 go_enter Tryz.func95,Tryz.ntmps95
 go_wp2_with fail
 refine (norm_any _ 2 _ _ hN hl).mono ?_;rintro e w' ⟨rfl,rfl⟩
 rw [HV.out]
 go_wp2_with fail
 go_ret
 exact ⟨_,rfl,hN',below_alloc _ _⟩
theorem cmpInt_any (a b:Int) (w:World):
 Calls Tryz.prog 234 #[.int .i64 a,.int .i64 b] w fun e w'=>e=.returned (.int .i64 (cmpI a b))∧w=w':=by
 have hc:=hid (show cmpI a b=if a<b then -1 else if b<a then 1 else 0 from rfl)
 by_cases h1:a<b
 ·go_enter Tryz.func234,Tryz.ntmps234
  go_wp2
  go_ret
  exact ⟨ret_int (by rw [hc.out,if_pos h1]),rfl⟩
 ·by_cases h2:b<a
  all_goals
   go_enter Tryz.func234,Tryz.ntmps234
   go_wp2
   go_ret
   exact ⟨ret_int (by rw [hc.out,if_neg (by omega)];first|rw [if_pos (by omega)]|rw [if_neg (by omega)]),rfl⟩
theorem cmpU32_any (a b:Int) (w:World):
 Calls Tryz.prog 241 #[.int .u32 a,.int .u32 b] w fun e w'=>e=.returned (.int .i64 (cmpI a b))∧w=w':=by
 have hc:=hid (show cmpI a b=if a<b then -1 else if b<a then 1 else 0 from rfl)
 by_cases h1:a<b
 ·go_enter Tryz.func241,Tryz.ntmps241
  go_wp2
  go_ret
  exact ⟨ret_int (by rw [hc.out,if_pos h1]),rfl⟩
 ·by_cases h2:b<a
  all_goals
   go_enter Tryz.func241,Tryz.ntmps241
   go_wp2
   go_ret
   exact ⟨ret_int (by rw [hc.out,if_neg (by omega)];first|rw [if_pos (by omega)]|rw [if_neg (by omega)]),rfl⟩
theorem compare_any (a0 a1:Option Addr) (c0 c1:Nat) (m n:Nat) (w:World) (h0:Ns .u32 w a0 c0 (limbs m)) (h1:Ns .u32 w a1 c1 (limbs n)):
 Calls Tryz.prog 210 #[.slice a0 (limbs m).length c0,.slice a1 (limbs n).length c1] w fun e w'=>e=.returned (.int .i64 (cmpI m n))∧ ∃nq,w'=w.drewN nq:=by
 have hc:=hid (show cmpI m n=if (m:Int)<n then -1 else if (n:Int)<m then 1 else 0 from rfl)
 obtain ⟨h01,h02,h03⟩:=h0
 obtain ⟨h11,h12,h13⟩:=h1
 unfold maxLen at h02 h12
 by_cases hl:(limbs m).length=(limbs n).length
 ·have hlb:(((limbs m).length:Int) !=((limbs n).length:Int))=false:=by rw [bne_eq_false_iff_eq];omega
  have hl1:(limbs m).length≤(limbs n).length:=by omega
  have hl2:(limbs n).length≤(limbs m).length:=by omega
  have HL:=hid hl
  clear hl
  go_enter Tryz.func210,Tryz.ntmps210
  go_wp2_with fail
  go_loopw [5] (fun i wr=> ∃i0:Int,i=.int .i64 i0∧ -1≤i0∧i0<(limbs m).length∧(limbs m).drop (i0+1).toNat=(limbs n).drop (i0+1).toNat∧ ∃nq,wr=w.drewN nq) (fun i _=>(intOf i+1).toNat)
  case atStart=>
   refine ⟨_,rfl,by omega,by omega,?_,0,rfl⟩
   rw [List.drop_eq_nil_iff.2 (by omega),List.drop_eq_nil_iff.2 (by omega)]
  case round=>
   obtain ⟨i0,rfl,hi1,hi2,hdr,nq,rfl⟩:=hrel
   by_cases hi:i0<0
   ·have heq:=hid (limbs_cmp_eq m n (by rw [show (i0+1).toNat=0 by omega] at hdr;exact hdr))
    clear hdr
    go_wp2_with fail
    go_ret
    refine ⟨ret_int ?_,nq,rfl⟩
    have:=heq.out
    rw [hc.out,if_neg (by omega),if_neg (by omega)]
   ·obtain ⟨j,rfl⟩:=Int.eq_ofNat_of_zero_le (show 0≤i0 by omega)
    rw [show ((j:Int)+1).toNat=j+1 by omega] at hdr
    obtain ⟨b0,o0,rfl,hc0⟩:=h03 (by omega)
    obtain ⟨b1,o1,rfl,hc1⟩:=h13 (by omega)
    have k0:=hc0 j (by omega)
    have k1:=hc1 j (by omega)
    clear hc0 hc1 h03 h13
    have HD:=hid hdr
    clear hdr
    have hj1:(j:Int)<((limbs n).length:Int):=by omega
    by_cases he:lb (limbs m) j=lb (limbs n) j
    ·have heb:(lb (limbs m) j !=lb (limbs n) j)=false:=by simpa using he
     have HE:=hid he
     clear he
     go_wp2_with fail
     go_quiet (fail)
     go_wp2_with fail
     go_roundw
     case rel=>exact ⟨(j:Int)-1,by go_num,by omega,by omega,by rw [show ((j:Int)-1+1).toNat=j by omega];exact drop_eq_step _ _ j (by omega) (by omega) HD.out HE.out,_,rfl⟩
     case measure=>simp [intOf]
    ·have heb:(lb (limbs m) j !=lb (limbs n) j)=true:=by simpa using he
     go_wp2_with fail
     go_quiet (fail)
     go_wp2_with fail
     go_quiet ((go_at_call 241;first|exact quiet_add_left (cmpU32_any _ _ _)|exact quiet_left (cmpU32_any _ _ _)))
     go_wp2_with fail
     go_ret
     refine ⟨ret_int ?_,_,by rw [World.drewN_drewN,World.drewN_drewN]⟩
     rw [hc.out]
     rcases Int.lt_or_gt_of_ne he with hlt|hgt
     ·have:=limbs_cmp_top m n j HL.out (by omega) HD.out hlt
      rw [if_pos (by omega)];unfold cmpI;rw [if_pos hlt]
     ·have:=limbs_cmp_top n m j HL.out.symm (by omega) HD.out.symm hgt
      rw [if_neg (by omega),if_pos (by omega)];unfold cmpI;rw [if_neg (by omega),if_pos hgt]
 ·have hlb:(((limbs m).length:Int) !=((limbs n).length:Int))=true:=by rw [bne_iff_ne];omega
  go_enter Tryz.func210,Tryz.ntmps210
  go_wp2_with (go_at_call 234;refine (cmpInt_any _ _ _).mono ?_;rintro e w' ⟨rfl,rfl⟩)
  go_ret
  refine ⟨ret_int ?_,0,rfl⟩
  rw [hc.out]
  rcases Nat.lt_or_gt_of_ne hl with hlt|hgt
  ·have:=limbs_cmp_len m n hlt
   rw [if_pos (by omega)];unfold cmpI;rw [if_pos (by omega)]
  ·have:=limbs_cmp_len n m hgt
   rw [if_neg (by omega),if_pos (by omega)];unfold cmpI;rw [if_neg (by omega),if_pos (by omega)]
end Go.Proofs.YtfphmlmgjhebjaaGreatDoor
namespace Go.Ulp
theorem plus_step {m n c x y:Nat} (h:m+4294967296^n*c=x+y) (u v:Nat):
 m+4294967296^n*((c+u+v)%4294967296)+4294967296^(n+1)*((c+u+v)/4294967296)=(x+4294967296^n*u)+(y+4294967296^n*v):=by
 rw [Nat.pow_succ,Nat.mul_assoc,Nat.add_assoc,←Nat.mul_add,Nat.mod_add_div,Nat.mul_add,Nat.mul_add];omega
end Go.Ulp
namespace Go.Proofs.YtfphmlmgjhebjaaGreatDoor
open Go.RowKit Go.Ulp
set_option maxHeartbeats 400000
set_option maxRecDepth 100000
theorem plus_core (aL aM:Option Addr) (cL cM:Nat) (m n:Nat) (w:World) (hL:Ns .u32 w aL cL (limbs m)) (hM:Ns .u32 w aM cM (limbs n)) (hs:(limbs m).length≤4294967296)
 (args:Array Value) (hargs:(args= #[.slice aL (limbs m).length cL,.slice aM (limbs n).length cM]∧(limbs n).length≤(limbs m).length∧decide ((limbs m).length<(limbs n).length)=false)∨(args= #[.slice aM (limbs n).length cM,.slice aL (limbs m).length cL]∧(limbs n).length≤(limbs m).length∧decide ((limbs n).length<(limbs m).length)=true)):
 Calls Tryz.prog 163 args w fun e w'=>RetN w (m+n) e w':=by
 have lL:=limbs_lim m
 have lM:=limbs_lim n
 obtain ⟨hL1,hL2,hL3⟩:=hL
 obtain ⟨hM1,hM2,hM3⟩:=hM
 unfold maxLen at hL2 hM2
 rcases hargs with ⟨rfl,hlen,hdl⟩|⟨rfl,hlen,hdl⟩
 all_goals
  go_enter Tryz.func163,Tryz.ntmps163
  go_wp2_with fail
  go_loopw [5,6,18] (fun o c i wr=> ∃(k cc:Nat) (Q:List Nat),k≤(limbs m).length∧i=.int .i64 k∧c=.int .u64 cc∧cc≤1∧Q.length=k∧Lim Q∧lval Q+4294967296^k*cc=lval ((limbs m).take k)+lval ((limbs n).take k)∧Own w.heap.size 181 .u32 wr o Q∧Below w.heap.size w wr) (fun _ _ i _=>(limbs m).length-(intOf i).toNat)
  case atStart=>exact ⟨0,0,[],by omega,rfl,rfl,by omega,rfl,AllLt.nil,by simp [lval,val],Own.nil,Below.refl _ _⟩
  case round=>
   obtain ⟨k,cc,Q,hk,rfl,rfl,hcc,hQ,lQ,hv,hown,hb⟩:=hrel
   have HQ:=hid hQ
   have HV:=hid hv
   clear hQ hv
   by_cases hlt:k<(limbs m).length
   ·obtain ⟨b0,o0,rfl,hc0⟩:=hL3 (by omega)
    obtain ⟨x,hx⟩: ∃x,x=(limbs m).getD k 0:=⟨_,rfl⟩
    have hx1:x<4294967296:=by rw [hx];exact lL.getD (by omega) k
    have hcell:wr.cell? ⟨b0,o0+k,none⟩=some (.int .u32 (x:Int)):=by
     have h1:=hc0 k hlt
     have h2:=hb.cell (p:=⟨b0,o0+k,none⟩) (World.block_lt_of_cell? w _ h1)
     rw [h2,h1,hx];rfl
    clear hc0 hL3
    have HX:=hid hx
    clear hx
    by_cases hlt2:k<(limbs n).length
    ·obtain ⟨b1,o1,rfl,hc1⟩:=hM3 (by omega)
     obtain ⟨y,hy⟩: ∃y,y=(limbs n).getD k 0:=⟨_,rfl⟩
     have hy1:y<4294967296:=by rw [hy];exact lM.getD (by omega) k
     have hcell1:wr.cell? ⟨b1,o1+k,none⟩=some (.int .u32 (y:Int)):=by
      have h1:=hc1 k hlt2
      have h2:=hb.cell (p:=⟨b1,o1+k,none⟩) (World.block_lt_of_cell? w _ h1)
      rw [h2,h1,hy];rfl
     clear hc1 hM3
     have HY:=hid hy
     clear hy
     go_wp2_with (at_builtin;refine wpList_push ei_u32 (by omega) rfl _ _ rfl w.heap.size Q ((cc+x+y)%4294967296) _ rfl (Own.alloc hown _) ⟨wr.heap.size,0,none⟩ rfl (cell_push _ _ _ _ _ (by omega)) (by rw [HQ.out];omega) (by simp;have:=hb.size;omega) ?_;intro v1 w1 hown1 hb1)
     go_roundw
     case rel=>exact ⟨k+1,(cc+x+y)/4294967296,Q++ [(cc+x+y)%4294967296],by omega,by go_num,by go_num,by omega,by rw [List.length_append,HQ.out];rfl,AllLt.append.2 ⟨lQ,AllLt.cons.2 ⟨Nat.mod_lt _ (by omega),AllLt.nil⟩⟩,by
      have:=plus_step HV.out x y
      unfold lval at *
      rw [val_snoc,HQ.out,val_take_succ _ _ _ hlt,val_take_succ _ _ _ hlt2,←HX.out,←HY.out];exact this,hown1,(hb.trans ((below_alloc wr _).mono hb.size)).trans hb1⟩
     case measure=>simp [intOf];omega
    ·have HY:=hid (show (limbs n).take (k+1)=(limbs n).take k by rw [List.take_of_length_le (by omega),List.take_of_length_le (by omega)])
     go_wp2_with (at_builtin;refine wpList_push ei_u32 (by omega) rfl _ _ rfl w.heap.size Q ((cc+x)%4294967296) _ rfl (Own.alloc hown _) ⟨wr.heap.size,0,none⟩ rfl (cell_push _ _ _ _ _ (by omega)) (by rw [HQ.out];omega) (by simp;have:=hb.size;omega) ?_;intro v1 w1 hown1 hb1)
     go_roundw
     case rel=>exact ⟨k+1,(cc+x)/4294967296,Q++ [(cc+x)%4294967296],by omega,by go_num,by go_num,by omega,by rw [List.length_append,HQ.out];rfl,AllLt.append.2 ⟨lQ,AllLt.cons.2 ⟨Nat.mod_lt _ (by omega),AllLt.nil⟩⟩,by
      have:=plus_step HV.out x 0
      unfold lval at *
      rw [val_snoc,HQ.out,val_take_succ _ _ _ hlt,HY.out,←HX.out];simpa using this,hown1,(hb.trans ((below_alloc wr _).mono hb.size)).trans hb1⟩
     case measure=>simp [intOf];omega
   ·have hke:k=(limbs m).length:=by omega
    have hfin:lval (Q++ [cc])=m+n:=by
     have:=HV.out
     rw [hke,List.take_of_length_le (Nat.le_refl _),List.take_of_length_le hlen,lval_limbs,lval_limbs,←hke] at this
     unfold lval at *
     rw [val_snoc,HQ.out];exact this
    have HF:=hid hfin
    clear hfin hke
    go_wp2_with (at_builtin;refine wpList_push ei_u32 (by omega) rfl _ _ rfl w.heap.size Q cc _ rfl (Own.alloc hown _) ⟨wr.heap.size,0,none⟩ rfl (cell_push _ _ _ _ _ (by omega)) (by rw [HQ.out];omega) (by simp;have:=hb.size;omega) ?_;intro v1 w1 hown1 hb1)
    obtain ⟨ao,cap,rfl,hN⟩:=hown1.ns
    go_wp2_with fail
    have lQ1:Lim (Q++ [cc]):=AllLt.append.2 ⟨lQ,AllLt.cons.2 ⟨by omega,AllLt.nil⟩⟩
    refine (norm_any _ _ _ _ hN lQ1).mono ?_
    rintro e w' ⟨rfl,rfl⟩
    have hN':=hN.norm lQ1
    rw [HF.out] at hN' ⊢
    go_wp2_with fail
    go_ret
    exact ⟨_,rfl,hN',(hb.trans ((below_alloc wr _).mono hb.size)).trans hb1⟩
end Go.Proofs.YtfphmlmgjhebjaaGreatDoor
namespace Go.Ulp
theorem minus_step0 {m n q b k:Nat} (h:m+4294967296^k*b=q+n) (x y:Nat) (hxy:b+y≤x):
 (m+4294967296^k*x)+4294967296^(k+1)*0=(q+4294967296^k*(x-b-y))+(n+4294967296^k*y):=by
 obtain ⟨z,rfl⟩: ∃z,x=z+b+y:=⟨x-b-y,by omega⟩
 rw [show z+b+y-b-y=z by omega,Nat.mul_add,Nat.mul_add];omega
theorem minus_step1 {m n q b k:Nat} (h:m+4294967296^k*b=q+n) (x y:Nat) (hx:x<4294967296) (hy:y<4294967296) (hb:b≤1) (hxy:x<b+y):
 (m+4294967296^k*x)+4294967296^(k+1)*1=(q+4294967296^k*(x+4294967296-b-y))+(n+4294967296^k*y):=by
 obtain ⟨z,hz⟩: ∃z,x+4294967296=z+b+y:=⟨x+4294967296-b-y,by omega⟩
 have e:=congrArg (fun t=>4294967296^k*t) hz
 simp only [Nat.mul_add] at e
 rw [show x+4294967296-b-y=z by omega,Nat.pow_succ,Nat.mul_one];omega
theorem minus_end {m n q b k:Nat} (h:m+4294967296^k*b=q+n) (hb:b≤1) (hq:q<4294967296^k) (hn:n≤m):q=m-n:=by
 have:b=0∨b=1:=by omega
 rcases this with rfl|rfl
 ·omega
 ·rw [Nat.mul_one] at h;omega
end Go.Ulp
namespace Go.Proofs.YtfphmlmgjhebjaaGreatDoor
open Go.RowKit Go.Ulp
set_option maxHeartbeats 400000
set_option maxRecDepth 100000
theorem plus_any (a0 a1:Option Addr) (c0 c1:Nat) (m n:Nat) (w:World) (h0:Ns .u32 w a0 c0 (limbs m)) (h1:Ns .u32 w a1 c1 (limbs n)) (hm:(limbs m).length≤4294967296) (hn:(limbs n).length≤4294967296):
 Calls Tryz.prog 163 #[.slice a0 (limbs m).length c0,.slice a1 (limbs n).length c1] w fun e w'=>RetN w (m+n) e w':=by
 by_cases h:(limbs m).length<(limbs n).length
 ·have:=plus_core a1 a0 c1 c0 n m w h1 h0 hn _ (.inr ⟨rfl,by omega,by simpa using h⟩)
  rwa [Nat.add_comm] at this
 ·exact plus_core a0 a1 c0 c1 m n w h0 h1 hm _ (.inl ⟨rfl,by omega,by simpa using h⟩)
theorem minus_any (aL aM:Option Addr) (cL cM:Nat) (m n:Nat) (w:World) (hL:Ns .u32 w aL cL (limbs m)) (hM:Ns .u32 w aM cM (limbs n)) (hs:(limbs m).length≤4294967296) (hnm:n≤m):
 Calls Tryz.prog 211 #[.slice aL (limbs m).length cL,.slice aM (limbs n).length cM] w fun e w'=>RetN w (m-n) e w':=by
 have lL:=limbs_lim m
 have lM:=limbs_lim n
 have hlen:(limbs n).length≤(limbs m).length:=digs_len_mono _ (by omega) hnm
 have HNM:=hid hnm
 clear hnm
 obtain ⟨hL1,hL2,hL3⟩:=hL
 obtain ⟨hM1,hM2,hM3⟩:=hM
 unfold maxLen at hL2 hM2
 go_enter Tryz.func211,Tryz.ntmps211
 go_wp2_with fail
 go_loopw [5,6,12] (fun o c i wr=> ∃(k bb:Nat) (Q:List Nat),k≤(limbs m).length∧i=.int .i64 k∧c=.int .i64 bb∧bb≤1∧Q.length=k∧Lim Q∧lval ((limbs m).take k)+4294967296^k*bb=lval Q+lval ((limbs n).take k)∧Own w.heap.size 181 .u32 wr o Q∧Below w.heap.size w wr) (fun _ _ i _=>(limbs m).length-(intOf i).toNat)
 case atStart=>exact ⟨0,0,[],by omega,rfl,rfl,by omega,rfl,AllLt.nil,by simp [lval,val],Own.nil,Below.refl _ _⟩
 case round=>
  obtain ⟨k,bb,Q,hk,rfl,rfl,hbb,hQ,lQ,hv,hown,hb⟩:=hrel
  have HQ:=hid hQ
  have HV:=hid hv
  clear hQ hv
  by_cases hlt:k<(limbs m).length
  ·obtain ⟨b0,o0,rfl,hc0⟩:=hL3 (by omega)
   obtain ⟨x,hx⟩: ∃x,x=(limbs m).getD k 0:=⟨_,rfl⟩
   have hx1:x<4294967296:=by rw [hx];exact lL.getD (by omega) k
   have hcell:wr.cell? ⟨b0,o0+k,none⟩=some (.int .u32 (x:Int)):=by
    have h1:=hc0 k hlt
    have h2:=hb.cell (p:=⟨b0,o0+k,none⟩) (World.block_lt_of_cell? w _ h1)
    rw [h2,h1,hx];rfl
   clear hc0 hL3
   have HX:=hid hx
   clear hx
   by_cases hlt2:k<(limbs n).length
   ·obtain ⟨b1,o1,rfl,hc1⟩:=hM3 (by omega)
    obtain ⟨y,hy⟩: ∃y,y=(limbs n).getD k 0:=⟨_,rfl⟩
    have hy1:y<4294967296:=by rw [hy];exact lM.getD (by omega) k
    have hcell1:wr.cell? ⟨b1,o1+k,none⟩=some (.int .u32 (y:Int)):=by
     have h1:=hc1 k hlt2
     have h2:=hb.cell (p:=⟨b1,o1+k,none⟩) (World.block_lt_of_cell? w _ h1)
     rw [h2,h1,hy];rfl
    clear hc1 hM3
    have HY:=hid hy
    clear hy
    by_cases hxy:x<bb+y
    ·go_wp2_with (at_builtin;refine wpList_push ei_u32 (by omega) rfl _ _ rfl w.heap.size Q (x+4294967296-bb-y) _ rfl (Own.alloc hown _) ⟨wr.heap.size,0,none⟩ rfl (cell_push _ _ _ _ _ (by omega)) (by rw [HQ.out];omega) (by simp;have:=hb.size;omega) ?_;intro v1 w1 hown1 hb1)
     go_roundw
     case rel=>exact ⟨k+1,1,Q++ [x+4294967296-bb-y],by omega,by go_num,by go_num,by omega,by rw [List.length_append,HQ.out];rfl,AllLt.append.2 ⟨lQ,AllLt.cons.2 ⟨by omega,AllLt.nil⟩⟩,by
      have:=minus_step1 HV.out x y hx1 hy1 hbb hxy
      unfold lval at *
      rw [val_snoc,HQ.out,val_take_succ _ _ _ hlt,val_take_succ _ _ _ hlt2,←HX.out,←HY.out];exact this,hown1,(hb.trans ((below_alloc wr _).mono hb.size)).trans hb1⟩
     case measure=>simp [intOf];omega
    ·go_wp2_with (at_builtin;refine wpList_push ei_u32 (by omega) rfl _ _ rfl w.heap.size Q (x-bb-y) _ rfl (Own.alloc hown _) ⟨wr.heap.size,0,none⟩ rfl (cell_push _ _ _ _ _ (by omega)) (by rw [HQ.out];omega) (by simp;have:=hb.size;omega) ?_;intro v1 w1 hown1 hb1)
     go_roundw
     case rel=>exact ⟨k+1,0,Q++ [x-bb-y],by omega,by go_num,by go_num,by omega,by rw [List.length_append,HQ.out];rfl,AllLt.append.2 ⟨lQ,AllLt.cons.2 ⟨by omega,AllLt.nil⟩⟩,by
      have:=minus_step0 HV.out x y (by omega)
      unfold lval at *
      rw [val_snoc,HQ.out,val_take_succ _ _ _ hlt,val_take_succ _ _ _ hlt2,←HX.out,←HY.out];exact this,hown1,(hb.trans ((below_alloc wr _).mono hb.size)).trans hb1⟩
     case measure=>simp [intOf];omega
   ·have HY:=hid (show (limbs n).take (k+1)=(limbs n).take k by rw [List.take_of_length_le (by omega),List.take_of_length_le (by omega)])
    by_cases hxy:x<bb
    ·go_wp2_with (at_builtin;refine wpList_push ei_u32 (by omega) rfl _ _ rfl w.heap.size Q (x+4294967296-bb) _ rfl (Own.alloc hown _) ⟨wr.heap.size,0,none⟩ rfl (cell_push _ _ _ _ _ (by omega)) (by rw [HQ.out];omega) (by simp;have:=hb.size;omega) ?_;intro v1 w1 hown1 hb1)
     go_roundw
     case rel=>exact ⟨k+1,1,Q++ [x+4294967296-bb],by omega,by go_num,by go_num,by omega,by rw [List.length_append,HQ.out];rfl,AllLt.append.2 ⟨lQ,AllLt.cons.2 ⟨by omega,AllLt.nil⟩⟩,by
      have:=minus_step1 HV.out x 0 hx1 (by omega) hbb (by omega)
      unfold lval at *
      rw [val_snoc,HQ.out,val_take_succ _ _ _ hlt,HY.out,←HX.out];simpa using this,hown1,(hb.trans ((below_alloc wr _).mono hb.size)).trans hb1⟩
     case measure=>simp [intOf];omega
    ·go_wp2_with (at_builtin;refine wpList_push ei_u32 (by omega) rfl _ _ rfl w.heap.size Q (x-bb) _ rfl (Own.alloc hown _) ⟨wr.heap.size,0,none⟩ rfl (cell_push _ _ _ _ _ (by omega)) (by rw [HQ.out];omega) (by simp;have:=hb.size;omega) ?_;intro v1 w1 hown1 hb1)
     go_roundw
     case rel=>exact ⟨k+1,0,Q++ [x-bb],by omega,by go_num,by go_num,by omega,by rw [List.length_append,HQ.out];rfl,AllLt.append.2 ⟨lQ,AllLt.cons.2 ⟨by omega,AllLt.nil⟩⟩,by
      have:=minus_step0 HV.out x 0 (by omega)
      unfold lval at *
      rw [val_snoc,HQ.out,val_take_succ _ _ _ hlt,HY.out,←HX.out];simpa using this,hown1,(hb.trans ((below_alloc wr _).mono hb.size)).trans hb1⟩
     case measure=>simp [intOf];omega
  ·have hke:k=(limbs m).length:=by omega
   have hfin:lval Q=m-n:=by
    have:=HV.out
    rw [hke,List.take_of_length_le (Nat.le_refl _),List.take_of_length_le hlen,lval_limbs,lval_limbs,←hke] at this
    exact minus_end this hbb (by have:=lval_lt Q lQ;rwa [HQ.out] at this) HNM.out
   have HF:=hid hfin
   clear hfin hke
   obtain ⟨ao,cap,rfl,hN⟩:=hown.ns
   go_wp2_with fail
   refine (norm_any _ _ _ _ hN lQ).mono ?_
   rintro e w' ⟨rfl,rfl⟩
   have hN':=hN.norm lQ
   rw [HF.out] at hN' ⊢
   go_wp2_with fail
   go_ret
   exact ⟨_,rfl,hN',hb⟩
end Go.Proofs.YtfphmlmgjhebjaaGreatDoor
namespace Go.Ulp
open Go.RowKit
def zneg (x:Int):Bool:=decide (x<0)
def zl (x:Int):List Nat:=decs x.natAbs
def RetZ (t:TypeId) (w:World) (x:Int) (e:Ending) (w':World):Prop:=
 ∃ao cap,e=.returned (.agg #[.bool (zneg x),.slice ao (zl x).length cap])∧Nz t w' ao cap (zl x)∧Below w.heap.size w w'
def RetZA (t:TypeId) (ao:Option Addr) (w:World) (x:Int) (e:Ending) (w':World):Prop:=
 ∃cap,e=.returned (.agg #[.bool (zneg x),.slice ao (zl x).length cap])∧Nz t w' ao cap (zl x)∧Below w.heap.size w w'
def RetZF (t:TypeId) (w:World) (x:Int) (e:Ending) (w':World):Prop:=
 ∃ao cap,e=.returned (.agg #[.bool (zneg x),.slice ao (zl x).length cap])∧Nz t w' ao cap (zl x)∧Below w.heap.size w w'∧ ∀p,ao=some p→w.heap.size≤p.block
theorem RetZA.any {t:TypeId} {ao:Option Addr} {w:World} {x:Int} {e:Ending} {w':World} (h:RetZA t ao w x e w'):RetZ t w x e w':=by
 obtain ⟨cap,h1,h2,h3⟩:=h;exact ⟨ao,cap,h1,h2,h3⟩
theorem RetZF.any {t:TypeId} {w:World} {x:Int} {e:Ending} {w':World} (h:RetZF t w x e w'):RetZ t w x e w':=by
 obtain ⟨ao,cap,h1,h2,h3,_⟩:=h;exact ⟨ao,cap,h1,h2,h3⟩
def ZL (t:TypeId) (w:World) (g:Nat) (n:Bool) (v:Value):Prop:=
 w.cell? ⟨g,0,none⟩=some (.bool n)∧w.cell? ⟨g,1,none⟩=some v∧w.frozen? ⟨g,0,none⟩=false∧w.frozen? ⟨g,1,none⟩=false∧ElemIs w g t
theorem ZL.lt {t:TypeId} {w:World} {g:Nat} {n:Bool} {v:Value} (h:ZL t w g n v):g<w.heap.size:=h.2.2.2.2.lt
theorem ZL.belowB {t:TypeId} {B:Nat} {w w':World} {g:Nat} {n:Bool} {v:Value} (h:ZL t w g n v) (hb:Below B w w') (hB:g<B):ZL t w' g n v:=
 ⟨(hb.cell (p:=⟨g,0,none⟩) hB).trans h.1,(hb.cell (p:=⟨g,1,none⟩) hB).trans h.2.1,(hb.frozen (p:=⟨g,0,none⟩) hB).trans h.2.2.1,(hb.frozen (p:=⟨g,1,none⟩) hB).trans h.2.2.2.1,h.2.2.2.2.belowB hb hB⟩
theorem ZL.below {t:TypeId} {w w':World} {g:Nat} {n:Bool} {v:Value} (h:ZL t w g n v) (hb:Below w.heap.size w w'):ZL t w' g n v:=h.belowB hb h.lt
theorem ZL.alloc {t:TypeId} {w:World} {g:Nat} {n:Bool} {v:Value} (h:ZL t w g n v) (o:Obj):ZL t (w.alloc o) g n v:=h.below (below_alloc _ _)
theorem ZL.made {t:TypeId} {w:World} {g:Nat} {n:Bool} {v:Value} (hg:g=w.heap.size):ZL t (w.alloc (.cells #[.bool n,v] t)) g n v:=by
 subst hg
 refine ⟨?_,?_,?_,?_,ElemIs.made _ _ _⟩
 ·rw [World.cell?_alloc_at (hn:=rfl)];rfl
 ·rw [World.cell?_alloc_at (hn:=rfl)];rfl
 ·unfold World.frozen?;rw [heap_alloc_new];simp
 ·unfold World.frozen?;rw [heap_alloc_new];simp
theorem frozen_setCell (w:World) (a p:Addr) (u:Value):(w.setCell a u).frozen? p=w.frozen? p:=by
 by_cases h:a.block=p.block
 ·simp only [World.frozen?,World.setCell,Array.getElem?_modify]
  rw [if_pos h,←h]
  cases hx:w.heap[a.block]? with
  |none=>rfl
  |some o=>cases o<;>rfl
 ·exact World.frozen?_of_block (Below.heap_setCell _ _ _ _ (fun e=>h e.symm))
theorem ZL.far {t:TypeId} {w:World} {g:Nat} {n:Bool} {v:Value} (h:ZL t w g n v) (a:Addr) (u:Value) (hne:g≠a.block):ZL t (w.setCell a u) g n v:=by
 refine ⟨?_,?_,?_,?_,h.2.2.2.2.setCell _ _⟩
 ·rw [World.cell?_setCell_other (h:=fun e=>hne (by rw [e]))];exact h.1
 ·rw [World.cell?_setCell_other (h:=fun e=>hne (by rw [e]))];exact h.2.1
 ·rw [frozen_setCell];exact h.2.2.1
 ·rw [frozen_setCell];exact h.2.2.2.1
theorem ZL.set1 {t:TypeId} {w:World} {g:Nat} {n:Bool} {v:Value} (h:ZL t w g n v) (u:Value):ZL t (w.setCell ⟨g,1,none⟩ u) g n u:=by
 refine ⟨?_,?_,?_,?_,h.2.2.2.2.setCell _ _⟩
 ·rw [World.cell?_setCell_other (h:=by simp)];exact h.1
 ·exact World.cell?_setCell_same _ _ _ h.2.1
 ·rw [frozen_setCell];exact h.2.2.1
 ·rw [frozen_setCell];exact h.2.2.2.1
theorem ZL.set0 {t:TypeId} {w:World} {g:Nat} {n:Bool} {v:Value} (h:ZL t w g n v) (u:Bool):ZL t (w.setCell ⟨g,0,none⟩ (.bool u)) g u v:=by
 refine ⟨?_,?_,?_,?_,h.2.2.2.2.setCell _ _⟩
 ·exact World.cell?_setCell_same _ _ _ h.1
 ·rw [World.cell?_setCell_other (h:=by simp)];exact h.2.1
 ·rw [frozen_setCell];exact h.2.2.1
 ·rw [frozen_setCell];exact h.2.2.2.1
end Go.Ulp
namespace Go.Proofs.YtfphmlmgjhebjaaGreatDoor
open Go.RowKit Go.Ulp
set_option maxHeartbeats 400000
end Go.Proofs.YtfphmlmgjhebjaaGreatDoor
namespace Go.Ulp
open Go.RowKit
end Go.Ulp
namespace Go.Proofs.YtfphmlmgjhebjaaGreatDoor
open Go.RowKit Go.Ulp
set_option maxHeartbeats 400000
theorem _root_.Go.Ulp.RetZ.pre {t:TypeId} {w w1:World} {x:Int} {e:Ending} {w':World} (h:RetZ t w1 x e w') (hb:Below w.heap.size w w1):RetZ t w x e w':=by
 obtain ⟨ao,cap,h1,h2,h3⟩:=h
 exact ⟨ao,cap,h1,h2,below_trans hb h3⟩
end Go.Proofs.YtfphmlmgjhebjaaGreatDoor
namespace Go.Ulp
open Go.RowKit
end Go.Ulp
namespace Go.Proofs.YtfphmlmgjhebjaaGreatDoor
open Go.RowKit Go.Ulp
set_option maxHeartbeats 1000000
set_option maxRecDepth 100000
end Go.Proofs.YtfphmlmgjhebjaaGreatDoor
namespace Go.Ulp
open Go.RowKit
end Go.Ulp
namespace Go.Proofs.YtfphmlmgjhebjaaGreatDoor
open Go.RowKit Go.Ulp
set_option maxHeartbeats 1000000
set_option maxRecDepth 100000
end Go.Proofs.YtfphmlmgjhebjaaGreatDoor
namespace Go.Ulp
theorem ZL.drew {t:TypeId} {w:World} {g:Nat} {n:Bool} {v:Value} (h:ZL t w g n v):ZL t w.drew g n v:=h
theorem ZL.drewN {t:TypeId} {w:World} {g:Nat} {n:Bool} {v:Value} (h:ZL t w g n v) (k:Nat):ZL t (w.drewN k) g n v:=h
end Go.Ulp
namespace Go.Proofs.YtfphmlmgjhebjaaGreatDoor
open Go.RowKit Go.Ulp
set_option maxHeartbeats 1000000
set_option maxRecDepth 100000
end Go.Proofs.YtfphmlmgjhebjaaGreatDoor
namespace Go.Ulp
open Go.RowKit
/- short names for the chains -/
section
variable {P:Program} {w:World}
theorem run_push_nil {t ty e:TypeId} {k:IntKind} {bytes:Nat} (he:ElemInfo P t e k bytes) (base:Nat) (v:Value) (L:List Nat) (hown:Own base e k w v L) (ao:Option Addr) (c:Nat) (hao:ao=none):
 (Builtin.append_ #[t,t] ty #[v,.slice ao 0 c]).run P w=.ok v w:=by
 subst hao
 obtain ⟨ht,i,hi,hz,hsz,hb⟩:=he
 rcases hown.2 with ⟨rfl,_⟩|⟨g,cap,cur,rfl,_,_,hnc,_⟩
 ·simp [Builtin.append_,run_underlying ht,sizeOf,typeInfo,hi,Builtin.lenOf,Builtin.firstCells]
 ·simp [Builtin.append_,run_underlying ht,sizeOf,typeInfo,hi,Builtin.lenOf,Builtin.firstCells,hnc,storeCells]
theorem run_push {t ty e:TypeId} {k:IntKind} {bytes:Nat} (he:ElemInfo P t e k bytes) (hby:bytes≤8) (base:Nat) (v:Value) (L M:List Nat) (hown:Own base e k w v L) (ao:Option Addr) (c:Nat) (hN:Ns k w ao c M) (hlen:L.length+M.length≤8796093022207) (hbase:base≤w.heap.size):
 ∃v' w',(Builtin.append_ #[t,t] ty #[v,.slice ao M.length c]).run P w=.ok v' w'∧Own base e k w' v' (L++M)∧Below base w w':=by
 cases ao with
 |none=>
  have hM:M= []:=by
   rcases Nat.eq_zero_or_pos M.length with h|h
   ·exact List.length_eq_zero_iff.1 h
   ·obtain ⟨_,_,e,_⟩:=hN.2.2 h;cases e
  subst hM
  exact ⟨v,w,run_push_nil he base v L hown none c rfl,by rw [List.append_nil];exact hown,Below.refl _ _⟩
 |some ad=>
  have hb:(L.length+M.length)*bytes≤140737488355328:=by
   have:(L.length+M.length)*bytes≤(L.length+M.length)*8:=Nat.mul_le_mul_left _ hby
   omega
  obtain ⟨ht,i,hi,hz,hsz,hbb⟩:=he
  have hcells: ∀j u,(nums k M)[j]? =some u→w.cell? (ad.add j)=some u:=by
   intro j u hu
   have hj:j<M.length:=by
    rcases Nat.lt_or_ge j M.length with h|h
    ·exact h
    ·rw [List.getElem?_eq_none (by rw [nums_len];exact h)] at hu;cases hu
   obtain ⟨b,off,ea,hc⟩:=hN.2.2 (by omega)
   injection ea with ea
   subst ea
   rw [nums_at k M j hj] at hu
   injection hu with hu
   subst hu
   have h6:=hc j hj
   by_cases h0:j=0
   ·subst h0;simpa [Addr.add] using h6
   ·simpa [Addr.add,h0] using h6
  obtain ⟨v',w',hrun,h2,h3,_,h5⟩:=run_append_own_at (P:=P) w base t ty e i (.int k 0) 1 bytes ht hi hz hsz hbb rfl (by decide) v L.length (nums k L) hown ad M.length c (nums k M) (by rw [nums_len,Nat.mul_one]) hcells (by intro u hu;unfold nums at hu;obtain ⟨d,_,rfl⟩:=List.mem_map.1 hu;rfl) (by unfold maxLen;omega) hb hbase
  refine ⟨v',w',hrun,?_,?_⟩
  ·unfold Own
   rw [List.length_append]
   have e2:nums k (L++M)=nums k L++nums k M:=by unfold nums;rw [List.map_append]
   rw [e2];exact h2
  ·exact ⟨h3.os,h3.tape,h3.output,h3.size,fun b hbk=>h3.block b (by omega) (fun e=>by have:=(hown.lt b e.symm).1;omega)⟩
theorem wpList_pushall {ops:Array Oper} {rest:List Oper} {o:Oper} {a:Act} {Q:Exit→Act→World→Prop} {t e:TypeId} {k:IntKind} {bytes:Nat} (he:ElemInfo P t e k bytes) (hby:bytes≤8) (hgd:o.guard=none) (s x:Operand)
 (ho:o.op=.call {callee:=.builtin .append,args:= #[s,x],argTypes:= #[t,t]})
 (base:Nat) (L M:List Nat) (v:Value) (hs:a.eval s=v) (hown:Own base e k w v L) (ao:Option Addr) (c n:Nat) (hx:a.eval x=.slice ao n c) (hn:n=M.length) (hN:Ns k w ao c M) (hlen:L.length+M.length≤8796093022207) (hbase:base≤w.heap.size)
 (h: ∀v' w',Own base e k w' v' (L++M)→Below base w w'→wpList P ops Q rest (a.put o.dst v') w'):wpList P ops Q (o::rest) a w:=by
 refine wpList_plain hgd fun K hK'=>?_
 subst hn
 obtain ⟨v',w',hrun,h2,h3⟩:=run_push (P:=P) (ty:=o.type) he hby base v L M hown ao c hN hlen hbase
 unfold Oper.wp execOp
 simp only [ho,resolve,invoke,builtin,Sem.run_bind,Sem.run_pure,Result.andThen_ok,List.map_toArray,List.map_cons,List.map_nil,hs,hx,hrun]
 exact hK' _ _ (h v' w' h2 h3)
end
def RV (tz ti:TypeId) (f:Nat) (w:World) (g:Nat) (x:Int):Prop:=
 ∃ao cap,ZL tz w g (zneg x) (.slice ao (zl x).length cap)∧Nz ti w ao cap (zl x)∧ ∀p,ao=some p→p.block≠f
theorem RV.below {tz ti:TypeId} {f:Nat} {w w':World} {g:Nat} {x:Int} (h:RV tz ti f w g x) (hb:Below w.heap.size w w'):RV tz ti f w' g x:=by
 obtain ⟨ao,cap,h1,h2,h3⟩:=h
 exact ⟨ao,cap,h1.below hb,h2.below hb,h3⟩
theorem RV.drew {tz ti:TypeId} {f:Nat} {w:World} {g:Nat} {x:Int} (h:RV tz ti f w g x):RV tz ti f w.drew g x:=h.below (Below.drew (Below.refl _ _))
theorem RV.alloc {tz ti:TypeId} {f:Nat} {w:World} {g:Nat} {x:Int} (h:RV tz ti f w g x) (o:Obj):RV tz ti f (w.alloc o) g x:=h.below (below_alloc _ _)
theorem RV.lt {tz ti:TypeId} {f:Nat} {w:World} {g:Nat} {x:Int} (h:RV tz ti f w g x):g<w.heap.size:=by obtain ⟨_,_,h1,_⟩:=h;exact h1.lt
theorem RV.set2 {tz ti:TypeId} {f:Nat} {w:World} {g b:Nat} {x:Int} (h:RV tz ti f w g x) (hs:ElemIs w b tz) (hne:tz≠ti) (hgb:g≠b) (u v:Value):RV tz ti f ((w.setCell ⟨b,0,none⟩ u).setCell ⟨b,1,none⟩ v) g x:=by
 obtain ⟨ao,cap,h1,h2,h3⟩:=h
 exact ⟨ao,cap,(h1.far _ _ hgb).far _ _ hgb,(h2.setCell hs hne 0 u).setCell (hs.setCell _ _) hne 1 v,h3⟩
theorem RV.store {tz ti:TypeId} {f:Nat} {w:World} {g:Nat} {n:Bool} {v:Value} {y:Int} {ao:Option Addr} {cap:Nat} (h:ZL tz w g n v) (hN:Nz ti w ao cap (zl y)) (hne:tz≠ti) (hf: ∀p,ao=some p→p.block≠f):
 RV tz ti f ((w.setCell ⟨g,0,none⟩ (.bool (zneg y))).setCell ⟨g,1,none⟩ (.slice ao (zl y).length cap)) g y:=
 ⟨ao,cap,(h.set0 _).set1 _,(hN.setCell h.2.2.2.2 hne 0 _).setCell (h.2.2.2.2.setCell _ _) hne 1 _,hf⟩
theorem RV.made {tz ti:TypeId} {f:Nat} {w:World} {g:Nat} {y:Int} {ao:Option Addr} {cap:Nat} (hg:g=w.heap.size) (hN:Nz ti w ao cap (zl y)) (hf: ∀p,ao=some p→p.block≠f):
 RV tz ti f (w.alloc (.cells #[.bool (zneg y),.slice ao (zl y).length cap] tz)) g y:=
 ⟨ao,cap,ZL.made hg,hN.below (below_alloc _ _),hf⟩
def KV (tz:TypeId) (w:World) (l:List (Nat×Bool×Value)):Prop:= ∀e∈l,ZL tz w e.1 e.2.1 e.2.2
theorem KV.below {tz:TypeId} {w w':World} {l:List (Nat×Bool×Value)} (h:KV tz w l) (hb:Below w.heap.size w w'):KV tz w' l:=fun e he=>(h e he).below hb
theorem KV.drew {tz:TypeId} {w:World} {l:List (Nat×Bool×Value)} (h:KV tz w l):KV tz w.drew l:=h
theorem KV.far {tz:TypeId} {w:World} {l:List (Nat×Bool×Value)} (h:KV tz w l) (a:Addr) (u:Value) (hne: ∀e∈l,e.1≠a.block):KV tz (w.setCell a u) l:=fun e he=>(h e he).far a u (hne e he)
theorem KV.far2 {tz:TypeId} {w:World} {l:List (Nat×Bool×Value)} (h:KV tz w l) {b:Nat} (hne: ∀e∈l,e.1≠b) (u v:Value):KV tz ((w.setCell ⟨b,0,none⟩ u).setCell ⟨b,1,none⟩ v) l:=(h.far _ _ hne).far _ _ hne
theorem Own.far {base:Nat} {e:TypeId} {k:IntKind} {w:World} {g n cap:Nat} {L:List Nat} (h:Own base e k w (.slice (some ⟨g,0,none⟩) n cap) L) (a:Addr) (hne:a.block≠g) (u:Value):Own base e k (w.setCell a u) (.slice (some ⟨g,0,none⟩) n cap) L:=by
 obtain ⟨h1,h2⟩:=h
 refine ⟨h1,?_⟩
 rcases h2 with hn|⟨g',cap',cur,hv,hg,hh,rest⟩
 ·exact .inl hn
 ·refine .inr ⟨g',cap',cur,hv,hg,?_,rest⟩
  injection hv with h3 _ _
  injection h3 with h3
  have h4:g=g':=by simpa using congrArg Addr.block h3
  subst h4
  rw [Below.heap_setCell _ _ _ _ (fun e=>hne e.symm)];exact hh
theorem Own.mono {base base':Nat} {e:TypeId} {k:IntKind} {w:World} {v:Value} {L:List Nat} (h:Own base e k w v L) (hb:base'≤base):Own base' e k w v L:=by
 obtain ⟨h1,h2⟩:=h
 refine ⟨h1,?_⟩
 rcases h2 with hn|⟨g,cap,cur,hv,hg,rest⟩
 ·exact .inl hn
 ·exact .inr ⟨g,cap,cur,hv,Nat.le_trans hb hg,rest⟩
end Go.Ulp
namespace Go.Proofs.YtfphmlmgjhebjaaGreatDoor
open Go.RowKit Go.Ulp
set_option maxHeartbeats 1000000
set_option maxRecDepth 100000
end Go.Proofs.YtfphmlmgjhebjaaGreatDoor
namespace Go.Ulp
open Go.RowKit
end Go.Ulp
namespace Go.Proofs.YtfphmlmgjhebjaaGreatDoor
open Go.RowKit Go.Ulp
set_option maxHeartbeats 1000000
set_option maxRecDepth 100000
end Go.Proofs.YtfphmlmgjhebjaaGreatDoor
namespace Go.Ulp
open Go.RowKit
theorem Ns.drop {k:IntKind} {w:World} {b off cap:Nat} {L:List Nat} (h:Ns k w (some ⟨b,off,none⟩) cap L) (n:Nat) (hn:n≤L.length):Ns k w (some ⟨b,off+n,none⟩) (cap-n) (L.drop n):=by
 obtain ⟨h1,h2,h3⟩:=h
 refine ⟨by rw [List.length_drop];omega,by omega,fun hp=>?_⟩
 rw [List.length_drop] at hp
 obtain ⟨b',off',e,hc⟩:=h3 (by omega)
 obtain ⟨rfl,rfl⟩:b=b'∧off=off':=by simpa using e
 refine ⟨b,off+n,rfl,fun i hi=>?_⟩
 rw [List.length_drop] at hi
 have:=hc (n+i) (by omega)
 rw [Nat.add_assoc,this]
 unfold lb
 rw [getD_in L (n+i) (by omega),getD_in (L.drop n) i (by rw [List.length_drop];omega),List.getElem_drop]
theorem Lim.take {L:List Nat} (h:Lim L) (k:Nat):Lim (L.take k):=AllLt.take h k
theorem Lim.drop {L:List Nat} (h:Lim L) (k:Nat):Lim (L.drop k):=AllLt.drop h k
end Go.Ulp
namespace Go.Proofs.YtfphmlmgjhebjaaGreatDoor
open Go.RowKit Go.Ulp
set_option maxHeartbeats 1000000
set_option maxRecDepth 100000
end Go.Proofs.YtfphmlmgjhebjaaGreatDoor
namespace Go.Ulp
open Go.RowKit
def QL (t:TypeId) (w:World) (g:Nat) (n:Bool) (v:Value) (k:Int):Prop:=
 ZL t w g n v∧w.cell? ⟨g,2,none⟩=some (.int .i64 k)∧w.frozen? ⟨g,2,none⟩=false
theorem QL.lt {t:TypeId} {w:World} {g:Nat} {n:Bool} {v:Value} {k:Int} (h:QL t w g n v k):g<w.heap.size:=h.1.lt
theorem QL.belowB {t:TypeId} {B:Nat} {w w':World} {g:Nat} {n:Bool} {v:Value} {k:Int} (h:QL t w g n v k) (hb:Below B w w') (hB:g<B):QL t w' g n v k:=
 ⟨h.1.belowB hb hB,(hb.cell (p:=⟨g,2,none⟩) hB).trans h.2.1,(hb.frozen (p:=⟨g,2,none⟩) hB).trans h.2.2⟩
theorem QL.below {t:TypeId} {w w':World} {g:Nat} {n:Bool} {v:Value} {k:Int} (h:QL t w g n v k) (hb:Below w.heap.size w w'):QL t w' g n v k:=h.belowB hb h.lt
theorem QL.alloc {t:TypeId} {w:World} {g:Nat} {n:Bool} {v:Value} {k:Int} (h:QL t w g n v k) (o:Obj):QL t (w.alloc o) g n v k:=h.below (below_alloc _ _)
theorem QL.drew {t:TypeId} {w:World} {g:Nat} {n:Bool} {v:Value} {k:Int} (h:QL t w g n v k):QL t w.drew g n v k:=h
theorem QL.drewN {t:TypeId} {w:World} {g:Nat} {n:Bool} {v:Value} {k:Int} (h:QL t w g n v k) (j:Nat):QL t (w.drewN j) g n v k:=h
theorem QL.made {t:TypeId} {w:World} {g:Nat} {n:Bool} {v:Value} {k:Int} (hg:g=w.heap.size):QL t (w.alloc (.cells #[.bool n,v,.int .i64 k] t)) g n v k:=by
 subst hg
 refine ⟨⟨?_,?_,?_,?_,ElemIs.made _ _ _⟩,?_,?_⟩
 ·rw [World.cell?_alloc_at (hn:=rfl)];rfl
 ·rw [World.cell?_alloc_at (hn:=rfl)];rfl
 ·unfold World.frozen?;rw [heap_alloc_new];simp
 ·unfold World.frozen?;rw [heap_alloc_new];simp
 ·rw [World.cell?_alloc_at (hn:=rfl)];rfl
 ·unfold World.frozen?;rw [heap_alloc_new];simp
end Go.Ulp
namespace Go.Proofs.YtfphmlmgjhebjaaGreatDoor
open Go.RowKit Go.Ulp
set_option maxHeartbeats 1000000
set_option maxRecDepth 100000
end Go.Proofs.YtfphmlmgjhebjaaGreatDoor
namespace Go.Ulp
open Go.RowKit
theorem Nz.drew {e:TypeId} {w:World} {ao:Option Addr} {cap:Nat} {L:List Nat} (h:Nz e w ao cap L):Nz e w.drew ao cap L:=h.below (Below.drew (Below.refl _ _))
theorem ElemIs.set2 {w:World} {b:Nat} {t:TypeId} (h:ElemIs w b t) (g:Nat) (u v:Value):ElemIs ((w.setCell ⟨g,0,none⟩ u).setCell ⟨g,1,none⟩ v) b t:=(h.setCell _ _).setCell _ _
theorem Nz.set2 {e t:TypeId} {w:World} {ao:Option Addr} {cap:Nat} {L:List Nat} (h:Nz e w ao cap L) {g:Nat} (hs:ElemIs w g t) (hne:t≠e) (u v:Value):Nz e ((w.setCell ⟨g,0,none⟩ u).setCell ⟨g,1,none⟩ v) ao cap L:=
 (h.setCell hs hne 0 u).setCell (hs.setCell _ _) hne 1 v
end Go.Ulp
namespace Go.Proofs.YtfphmlmgjhebjaaGreatDoor
open Go.RowKit Go.Ulp
set_option maxHeartbeats 1000000
set_option maxRecDepth 100000
end Go.Proofs.YtfphmlmgjhebjaaGreatDoor
namespace Go.Ulp
open Go.RowKit
def QD (t:TypeId) (w:World) (D:Dy) (A T:Nat) (v:Value):Prop:=
 ∃(x:Int) (n:Nat) (ao:Option Addr) (cap:Nat),v=.agg #[.bool (zneg x),.slice ao (zl x).length cap,.int .i64 (n:Int)]∧Nz t w ao cap (zl x)∧nrm x (-(n:Int))=D∧x.natAbs<2^A∧n≤T
theorem QD.below {t:TypeId} {w w':World} {D:Dy} {A T:Nat} {v:Value} (h:QD t w D A T v) (hb:Below w.heap.size w w'):QD t w' D A T v:=by
 obtain ⟨x,n,ao,cap,h1,h2,h3⟩:=h
 exact ⟨x,n,ao,cap,h1,h2.below hb,h3⟩
theorem abs_add_lt {x y:Int} {A:Nat} (h:x.natAbs<2^A) (h':y.natAbs<2^A):(x+y).natAbs<2^(A+1):=by
 rw [Nat.pow_succ];omega
end Go.Ulp
namespace Go.Proofs.YtfphmlmgjhebjaaGreatDoor
open Go.RowKit Go.Ulp
set_option maxHeartbeats 1000000
set_option maxRecDepth 100000
end Go.Proofs.YtfphmlmgjhebjaaGreatDoor
