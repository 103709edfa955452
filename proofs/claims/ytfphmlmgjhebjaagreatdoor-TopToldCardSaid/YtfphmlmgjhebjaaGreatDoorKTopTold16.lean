/- TopTold: what the proof leans on, part 16 (Sy3 ShelfU Sy5). -/
import Derived.Shelf.Strings.Builder1
import Derived.Shelf.Strings.Builder2
import Derived.Shelf.Strings.OnBuilder
import Derived.Shelf.Strings.Trim
import Derived.Shelf.Small.Utf8
import Derived.Shelf.Small.Bits
import Derived.Shelf.Small.Strs
import Derived.Shelf.Small.Wraps
import Derived.Shelf.Strings.BuilderF
import Derived.Shelf.Strconv.Atoi
import Derived.Shelf.Strconv.Itoa0
import Derived.Shelf.Strconv.Itoa1
import Derived.Shelf.LaysM
import Derived.Shelf.Strconv.Itoa2
import Derived.Shelf.Strconv.Itoa3
import Derived.Ground.MpProg
import Derived.Shelf.Pu.ParseUintPublic10
import Derived.Shelf.Strings.Search1
import Derived.Shelf.Strings.Search2
import Derived.Shelf.Strings.Search3
import Derived.Shelf.Strings.Shaped
import Derived.Shelf.Strings.Prefix
import Derived.Shelf.Strings.Runes
import Derived.Shelf.Strings.AsciiSet
import Derived.Shelf.Bits.Mul64
import Derived.Shelf.Strings.Repeat
import Derived.Shelf.Unicode.DecodeSlow
import Derived.Ground.Names2Prog
import Derived.Shelf.Slices.ReverseS
import Derived.Shelf.Slices.SearchI
import Derived.Test.YtfphmlmgjhebjaaGreatDoorKTopTold4
import Derived.Test.YtfphmlmgjhebjaaGreatDoorKTopTold8
import Derived.Test.YtfphmlmgjhebjaaGreatDoorKTopTold11
import Derived.Test.YtfphmlmgjhebjaaGreatDoorKTopTold12
import Derived.Test.YtfphmlmgjhebjaaGreatDoorKTopTold13
import Derived.Test.YtfphmlmgjhebjaaGreatDoorKTopTold15
set_option linter.unusedVariables false
set_option linter.unusedSimpArgs false
namespace Go.Ulp
open Go.RowKit
def stp (L:List UInt8):List UInt8:=(L.reverse.dropWhile fun b=>b==48).reverse
theorem stp_nil:stp []= []:=rfl
theorem stp_zero (L:List UInt8):stp (L++ [48])=stp L:=by
 unfold stp
 rw [List.reverse_append,show ([48]:List UInt8).reverse= [48] from rfl,List.singleton_append,List.dropWhile_cons,if_pos (by decide)]
theorem stp_other (L:List UInt8) (b:UInt8) (h:b≠48):stp (L++ [b])=L++ [b]:=by
 unfold stp
 rw [List.reverse_append,show ([b]:List UInt8).reverse= [b] from rfl,List.singleton_append,List.dropWhile_cons,if_neg (by simpa using h),List.reverse_cons,List.reverse_reverse]
theorem snoc_cases (L:List UInt8):L= []∨ ∃M b,L=M++ [b]:=by
 rcases List.eq_nil_or_concat L with h|⟨M,b,h⟩
 ·exact .inl h
 ·exact .inr ⟨M,b,by rw [h,List.concat_eq_append]⟩
theorem stp_val: ∀(n:Nat) (L:List UInt8),L.length=n→dvl (stp L)*10^(L.length-(stp L).length)=dvl L∧(stp L).length≤L.length:=by
 intro n
 induction n with
 |zero=>
  intro L h
  obtain rfl:=List.length_eq_zero_iff.1 h
  rw [stp_nil];exact ⟨by simp,by simp⟩
 |succ n ih=>
  intro L h
  rcases snoc_cases L with rfl|⟨M,b,rfl⟩
  ·exact absurd h (by simp)
  ·by_cases hb:b=48
   ·subst hb
    rw [List.length_append,List.length_singleton] at h
    obtain ⟨h1,h2⟩:=ih M (by omega)
    rw [stp_zero,List.length_append,List.length_singleton,show M.length+1-(stp M).length=(M.length-(stp M).length)+1 by omega,Nat.pow_succ,←Nat.mul_assoc,h1]
    refine ⟨?_,by omega⟩
    unfold dvl
    rw [dvA_app,dvA_cons];rfl
   ·rw [stp_other M b hb,Nat.sub_self,Nat.pow_zero,Nat.mul_one]
    exact ⟨rfl,Nat.le_refl _⟩
theorem stp_dg {L:List UInt8} (h:AllDg L):AllDg (stp L):=fun b hb=>by
 unfold stp at hb
 rw [List.mem_reverse] at hb
 exact h b (List.mem_reverse.1 ((List.dropWhile_sublist _).mem hb))
theorem stp_head {L:List UInt8} {b:UInt8} {r:List UInt8} (h:L=b::r) (hb:b≠48): ∃q,stp L=b::q:=by
 subst h
 suffices H: ∀(n:Nat) (r:List UInt8),r.length=n→ ∃q,stp (b::r)=b::q from H _ r rfl
 intro n
 induction n with
 |zero=>
  intro r h
  obtain rfl:=List.length_eq_zero_iff.1 h
  exact ⟨[],by rw [show [b]= []++ [b] from rfl,stp_other _ _ hb]⟩
 |succ n ih=>
  intro r h
  rcases snoc_cases r with rfl|⟨M,c,rfl⟩
  ·exact absurd h (by simp)
  ·rw [List.length_append,List.length_singleton] at h
   by_cases hc:c=48
   ·subst hc
    rw [←List.cons_append,stp_zero];exact ih M (by omega)
   ·rw [←List.cons_append,stp_other _ _ hc];exact ⟨M++ [c],rfl⟩
theorem decD_dg (n:Nat):AllDg (decD n):=by
 induction n using Nat.strongRecOn with
 |ind n ih=>
  by_cases h:n<10
  ·rw [decD_small h]
   intro b hb
   rw [List.mem_singleton] at hb;subst hb
   unfold isDg
   rw [decide_eq_true_eq,UInt8.toNat_ofNat'];omega
  ·rw [decD_big h]
   intro b hb
   rcases List.mem_append.1 hb with h1|h1
   ·exact ih (n/10) (by omega) b h1
   ·rw [List.mem_singleton] at h1;subst h1
    unfold isDg
    rw [decide_eq_true_eq,UInt8.toNat_ofNat'];omega
theorem dvl_decD (n:Nat):dvl (decD n)=n:=by
 induction n using Nat.strongRecOn with
 |ind n ih=>
  by_cases h:n<10
  ·rw [decD_small h,dvl_cons]
   show (UInt8.ofNat (48+n)).toNat-48=n
   rw [UInt8.toNat_ofNat'];omega
  ·rw [decD_big h]
   have h1:=ih (n/10) (by omega)
   unfold dvl at h1 ⊢
   rw [dvA_app,h1,dvA_cons]
   show n/10*10+((UInt8.ofNat (48+n%10)).toNat-48)=n
   rw [UInt8.toNat_ofNat'];omega
theorem decD_head (n:Nat) (h:0<n): ∃b r,decD n=b::r∧b≠48:=by
 cases hd:decD n with
 |nil=>exact absurd hd (decD_ne n)
 |cons b r=>
  refine ⟨b,r,rfl,fun h48=>?_⟩
  have h1:=decD_ge n h
  have h2:=dvl_decD n
  have h3:=decD_dg n
  rw [hd] at h1 h2 h3
  rw [dvl_cons,h48,show (48:UInt8).toNat-48=0 from rfl] at h2
  have h4:=dvl_lt r h3.tail
  rw [List.length_cons,Nat.add_sub_cancel] at h1
  have h5:dvl r=n:=h2
  omega
theorem stp_decD (n:Nat) (h:0<n):dvl (stp (decD n))*10^((decD n).length-(stp (decD n)).length)=n∧1≤(stp (decD n)).length∧(stp (decD n)).length≤(decD n).length∧AllDg (stp (decD n))∧(stp (decD n)).dropWhile (fun b=>b==48)=stp (decD n):=by
 obtain ⟨b,r,h1,h2⟩:=decD_head n h
 obtain ⟨q,h3⟩:=stp_head h1 h2
 obtain ⟨h4,h5⟩:=stp_val _ (decD n) rfl
 rw [dvl_decD] at h4
 refine ⟨h4,by rw [h3];simp,h5,stp_dg (decD_dg n),?_⟩
 rw [h3,List.dropWhile_cons,if_neg (by simpa using h2)]
theorem rdM_ratio (K A B A2 B2:Nat) (l:Int) (hB:0<B) (hB2:0<B2) (h:A*B2=A2*B):rdM K A B l=rdM K A2 B2 l:=by
 unfold rdM
 have e1:=cmpI_scale ((rvs l+rvs (l+1))*(B:Int)) (2*((A:Int)*pw K)) (B2:Int) (by omega)
 have e2:=cmpI_scale ((rvs l+rvs (l+1))*(B2:Int)) (2*((A2:Int)*pw K)) (B:Int) (by omega)
 rw [←e1,←e2]
 have h2:(A:Int)*(B2:Int)=(A2:Int)*(B:Int):=by rw [←Int.natCast_mul,h,Int.natCast_mul]
 congr 1
 ·rw [Int.mul_right_comm]
 ·rw [Int.mul_assoc 2,Int.mul_assoc 2,Int.mul_right_comm,h2,Int.mul_right_comm]
theorem fitR_ratio (K A B A2 B2 r:Nat) (hB:0<B) (hB2:0<B2) (h:A*B2=A2*B):fitR K A B r↔fitR K A2 B2 r:=by
 unfold fitR
 rw [rdM_ratio K A B A2 B2 _ hB hB2 h,rdM_ratio K A B A2 B2 _ hB hB2 h]
def shA (D:Dy) (k:Nat) (pd:Int):Nat:=dA D*tnN ((k:Int)-pd)
def shB (D:Dy) (k:Nat) (pd:Int):Nat:=dB D*tnN (-((k:Int)-pd))
def shL (D:Dy) (k:Nat) (pd:Int):Nat:=shA D k pd/shB D k pd
def shR (D:Dy) (k:Nat) (pd:Int):Nat:=shA D k pd%shB D k pd
theorem shB_pos (D:Dy) (k:Nat) (pd:Int):0<shB D k pd:=Nat.mul_pos (dB_pos D) (tnN_pos _)
def shU (D:Dy) (E f k:Nat) (pd:Int):Bool:=
 decide (shR D k pd≠0)&&fitP E f (shL D k pd+1) (pd-k)&&!(fitP E f (shL D k pd) (pd-k)&&(decide (2*shR D k pd<shB D k pd)||(decide (2*shR D k pd=shB D k pd)&&decide (shL D k pd%2=0))))
def shZ (D:Dy) (E f k:Nat) (pd:Int):Nat:=if shU D E f k pd=true then shL D k pd+1 else shL D k pd
def shS (D:Dy) (E f k:Nat) (pd:Int):Bool:=fitP E f (shL D k pd) (pd-k)||fitP E f (shL D k pd+1) (pd-k)
def IsVal (D:Dy) (E f:Nat):Prop:=dA D*2^1074=lmM E f*2^lmH E*dB D
theorem p1074: ∃P:Nat,0<P∧P=2^1074:=⟨_,Nat.two_pow_pos 1074,rfl⟩
theorem sh_half (D:Dy) (E f k:Nat) (pd:Int) (hv:IsVal D E f) (hf:f<4503599627370496):
 cmpT (2*shL D k pd+1) (pd-k) (4*lmM E f) (lmX E+1)= -cmpI ((2*shR D k pd:Nat):Int) ((shB D k pd:Nat):Int):=by
 obtain ⟨x,hx⟩: ∃x:Int,x=(k:Int)-pd:=⟨_,rfl⟩
 have e0:pd-k= -x:=by omega
 obtain ⟨T,hT⟩: ∃T,T=tnN (-x):=⟨_,rfl⟩
 obtain ⟨B,hB⟩: ∃B,B=tnN x:=⟨_,rfl⟩
 have hTp:0<T:=by rw [hT];exact tnN_pos _
 have hBp:0<B:=by rw [hB];exact tnN_pos _
 have hbp:=dB_pos D
 have h1:=cmpT_at (2*shL D k pd+1) (pd-k) (4*lmM E f) (lmH E+1) (4*(lmM E f*2^lmH E)) ((2*shL D k pd+1)*T) B (by rw [hT,e0];rfl) (by rw [hB,e0,Int.neg_neg];rfl) (by
  rw [Nat.pow_succ]
  generalize 2^lmH E=Q
  rw [Nat.mul_assoc 4,←Nat.mul_assoc (lmM E f) Q 2];omega)
 rw [show lmX E+1=((lmH E+1:Nat):Int)-1076 by unfold lmX;omega,h1]
 refine congrArg (fun z:Int=> -z) ?_
 have hL:shB D k pd*shL D k pd+shR D k pd=shA D k pd:=Nat.div_add_mod _ _
 have hBv:shB D k pd=dB D*T:=by unfold shB;rw [hT,hx]
 have hAv:shA D k pd=dA D*B:=by unfold shA;rw [hB,hx]
 unfold IsVal at hv
 generalize shL D k pd=L at *
 generalize shR D k pd=R at *
 rw [hBv] at hL ⊢
 rw [hAv] at hL
 generalize lmM E f*2^lmH E=V at *
 obtain ⟨P,hKp,hP⟩:=p1074
 rw [←hP] at hv ⊢
 clear hP h1 e0
 generalize dA D=a at *
 generalize dB D=b at *
 rw [←cmpI_nat_scale (4*V*B) (2*((2*L+1)*T*P)) b hbp]
 have e1:4*V*B*b=4*(b*T*L+R)*P:=by
  rw [hL]
  have:V*b*B=a*P*B:=by rw [hv]
  have h2:4*V*B*b=4*(V*b*B):=by simp only [Nat.mul_assoc,Nat.mul_left_comm,Nat.mul_comm]
  have h3:4*(a*B)*P=4*(a*P*B):=by simp only [Nat.mul_assoc,Nat.mul_left_comm,Nat.mul_comm]
  rw [h2,h3,this]
 have e2:2*((2*L+1)*T*P)*b=2*(2*(b*T*L)+b*T)*P:=by
  have h2:2*((2*L+1)*T*P)*b=2*((2*L+1)*(b*T))*P:=by simp only [Nat.mul_assoc,Nat.mul_left_comm,Nat.mul_comm]
  rw [h2,Nat.add_mul,Nat.one_mul,Nat.mul_assoc 2 L,Nat.mul_comm L]
 rw [e1,e2,cmpI_nat_scale _ _ P hKp]
 have e3:4*(b*T*L+R)=2*(2*(b*T*L))+2*(2*R):=by omega
 have e4:2*(2*(b*T*L)+b*T)=2*(2*(b*T*L))+2*(b*T):=by omega
 rw [e3,e4]
 unfold cmpI
 generalize b*T*L=q
 by_cases h5:2*R<b*T
 ·rw [if_pos (by omega),if_pos (by omega)]
 ·by_cases h6:b*T<2*R
  ·rw [if_neg (by omega),if_pos (by omega),if_neg (by omega),if_pos (by omega)]
  ·rw [if_neg (by omega),if_neg (by omega),if_neg (by omega),if_neg (by omega)]
theorem sh_exact (D:Dy) (E f k:Nat) (pd:Int) (hv:IsVal D E f) (hf:f<4503599627370496) (hr:1≤E*4503599627370496+f) (h0:shR D k pd=0):fitP E f (shL D k pd) (pd-k)=true:=by
 rw [fitP_iff E f _ _ hf hr]
 obtain ⟨r,hr2⟩: ∃r,r=E*4503599627370496+f:=⟨_,rfl⟩
 have hrv:rvi r=lmM E f*2^lmH E:=by rw [hr2];exact (rvi_lm E f hf).1
 obtain ⟨x,hx⟩: ∃x:Int,x=(k:Int)-pd:=⟨_,rfl⟩
 have e0:pd-k= -x:=by omega
 have hA2:10^(pd-k).toNat=tnN (-x):=by rw [e0];rfl
 have hB2:10^(-(pd-k)).toNat=tnN x:=by rw [e0,Int.neg_neg];rfl
 rw [hA2,hB2,←hr2]
 have hTp:=tnN_pos (-x)
 have hBp:=tnN_pos x
 have hbp:=dB_pos D
 have hL:shB D k pd*shL D k pd+shR D k pd=shA D k pd:=Nat.div_add_mod _ _
 rw [h0,Nat.add_zero] at hL
 have hBv:shB D k pd=dB D*tnN (-x):=by unfold shB;rw [hx]
 have hAv:shA D k pd=dA D*tnN x:=by unfold shA;rw [hx]
 rw [hBv,hAv] at hL
 unfold IsVal at hv
 rw [←hrv] at hv
 generalize shL D k pd=L at *
 generalize tnN (-x)=T at *
 generalize tnN x=B at *
 generalize dA D=a at *
 generalize dB D=b at *
 have key:L*T*2^1074=rvi r*B:=by
  obtain ⟨P,hKp,hP⟩:=p1074
  rw [←hP] at hv ⊢
  apply Nat.eq_of_mul_eq_mul_right hbp
  have h1:L*T*P*b=b*T*L*P:=by simp only [Nat.mul_assoc,Nat.mul_left_comm,Nat.mul_comm]
  have h2:rvi r*B*b=rvi r*b*B:=by rw [Nat.mul_right_comm]
  rw [h1,hL,h2,←hv,Nat.mul_right_comm]
 have g1:=rdM_nat 1074 (L*T) B (r-1)
 have g2:=rdM_nat 1074 (L*T) B r
 rw [show ((r-1:Nat):Int)=(r:Int)-1 by omega,show r-1+1=r by omega] at g1
 rw [key] at g1 g2
 have m1:rvi (r-1)*B<rvi r*B:=Nat.mul_lt_mul_of_pos_right (rvi_mono (by omega)) hBp
 have m2:rvi r*B<rvi (r+1)*B:=Nat.mul_lt_mul_of_pos_right (rvi_mono (by omega)) hBp
 unfold fitR
 rw [g1,g2]
 left
 exact ⟨(cmpI_ng _ _).2 (by omega),(cmpI_ps _ _).2 (by omega)⟩
theorem sh_prog (D:Dy) (E f k:Nat) (pd:Int) (hv:IsVal D E f) (hf:f<4503599627370496) (hr:1≤E*4503599627370496+f) (a c:Bool) (ha:a=fitP E f (shL D k pd) (pd-k)) (hc:c=fitP E f (shL D k pd+1) (pd-k)) (half:Int) (hh:half=cmpT (2*shL D k pd+1) (pd-k) (4*lmM E f) (lmX E+1)):
 (if (a&&c)=true then (decide (half<0)||(decide (half=0)&&decide (shL D k pd%2=1))) else if a=true then false else c)=shU D E f k pd:=by
 rw [sh_half D E f k pd hv hf] at hh
 have hx:=sh_exact D E f k pd hv hf hr
 rw [←ha] at hx
 unfold shU
 rw [←ha,←hc]
 have hB:=shB_pos D k pd
 generalize shL D k pd=L at *
 generalize shR D k pd=R at *
 generalize shB D k pd=B at *
 have c1:=cmpI_ps ((2*R:Nat):Int) ((B:Nat):Int)
 have c2:=cmpI_eq_zero ((2*R:Nat):Int) ((B:Nat):Int)
 have h1:(half<0)↔B<2*R:=by rw [hh];omega
 have h2:(half=0)↔2*R=B:=by rw [hh];omega
 by_cases h0:R=0
 ·have:=hx h0
  subst this
  rw [Bool.eq_iff_iff]
  cases c<;>simp [h0,h1,h2]<;>omega
 ·rw [Bool.eq_iff_iff]
  cases a<;>cases c<;>simp [h0,h1,h2]<;>omega
theorem sh_some (D:Dy) (E f k:Nat) (pd:Int) (hv:IsVal D E f) (hf:f<4503599627370496) (hr:1≤E*4503599627370496+f) (h0:shR D k pd=0):shS D E f k pd=true:=by
 unfold shS;rw [sh_exact D E f k pd hv hf hr h0];rfl
theorem sh_ends (D:Dy) (k:Nat) (pd:Int) (hD: -1074≤D.2) (hk:pd+1074≤(k:Int)):shR D k pd=0:=by
 unfold shR shA shB
 apply Nat.mod_eq_zero_of_dvd
 obtain ⟨x,hx⟩: ∃x:Nat,(x:Int)=(k:Int)-pd:=⟨((k:Int)-pd).toNat,by omega⟩
 rw [←hx]
 unfold tnN dB
 rw [show (-(x:Int)).toNat=0 by omega,Int.toNat_natCast,Nat.pow_zero,Nat.mul_one]
 refine Nat.dvd_mul_left_of_dvd ?_ _
 have h10:(10:Nat)^x=5^x*2^x:=by rw [←Nat.mul_pow]
 rw [h10]
 exact Nat.dvd_mul_left_of_dvd (Nat.pow_dvd_pow 2 (by omega)) _
end Go.Ulp
namespace Go.Proofs
open Go.Shelf
def Tryz.lays162_ren:Go.Shelf.Ren:=⟨fun|162=>167|232=>224|227=>216|234=>225|236=>226|228=>242|271=>244|151=>72|120=>258|197=>243|152=>134|260=>257|137=>66|119=>192|224=>193|225=>194|217=>123|266=>181|n=>n,fun|9=>9|4=>4|3=>3|5=>5|117=>239|116=>238|0=>0|124=>242|21=>21|105=>259|46=>62|119=>280|139=>283|138=>282|n=>n,fun|3=>4|4=>5|n=>n⟩
theorem Tryz.lays162:Go.Proofs.Lays.n162 Tryz.prog Tryz.lays162_ren:= {
 mixed:=by kernel_rfl
 f119:=Tryz.func192.trans (congrArg some (by kernel_rfl))
 f120:=Tryz.func258.trans (congrArg some (by kernel_rfl))
 f137:=Tryz.func66.trans (congrArg some (by kernel_rfl))
 f151:=Tryz.func72.trans (congrArg some (by kernel_rfl))
 f152:=Tryz.func134.trans (congrArg some (by kernel_rfl))
 f162:=Tryz.func167.trans (congrArg some (by kernel_rfl))
 f197:=Tryz.func243.trans (congrArg some (by kernel_rfl))
 f217:=Tryz.func123.trans (congrArg some (by kernel_rfl))
 f224:=Tryz.func193.trans (congrArg some (by kernel_rfl))
 f225:=Tryz.func194.trans (congrArg some (by kernel_rfl))
 f227:=Tryz.func216.trans (congrArg some (by kernel_rfl))
 f228:=Tryz.func242.trans (congrArg some (by kernel_rfl))
 f232:=Tryz.func224.trans (congrArg some (by kernel_rfl))
 f234:=Tryz.func225.trans (congrArg some (by kernel_rfl))
 f236:=Tryz.func226.trans (congrArg some (by kernel_rfl))
 f260:=Tryz.func257.trans (congrArg some (by kernel_rfl))
 f266:=Tryz.func181.trans (congrArg some (by kernel_rfl))
 f271:=Tryz.func244.trans (congrArg some (by kernel_rfl))
 t0:=Tryz.underlying0
 a0:=Tryz.isAgg0
 z0:=Tryz.sizeOf0
 v0:=Tryz.zeroValue0
 t3:=Tryz.underlying3
 a3:=Tryz.isAgg3
 z3:=Tryz.sizeOf3
 v3:=Tryz.zeroValue3
 t4:=Tryz.underlying4
 a4:=Tryz.isAgg4
 z4:=Tryz.sizeOf4
 v4:=Tryz.zeroValue4
 t5:=Tryz.underlying5
 a5:=Tryz.isAgg5
 z5:=Tryz.sizeOf5
 v5:=Tryz.zeroValue5
 t9:=Tryz.underlying9
 a9:=Tryz.isAgg9
 z9:=Tryz.sizeOf9
 v9:=Tryz.zeroValue9
 t21:=Tryz.underlying21
 a21:=Tryz.isAgg21
 z21:=Tryz.sizeOf21
 v21:=Tryz.zeroValue21
 t46:=Tryz.underlying62
 a46:=Tryz.isAgg62
 z46:=Tryz.sizeOf62
 v46:=Tryz.zeroValue62
 t105:=Tryz.underlying259
 a105:=Tryz.isAgg259
 z105:=Tryz.sizeOf259
 v105:=Tryz.zeroValue259
 t116:=Tryz.underlying238
 a116:=Tryz.isAgg238
 z116:=Tryz.sizeOf238
 t117:=Tryz.underlying239
 a117:=Tryz.isAgg239
 z117:=Tryz.sizeOf239
 v117:=Tryz.zeroValue239
 t119:=Tryz.underlying280
 a119:=Tryz.isAgg280
 z119:=Tryz.sizeOf280
 t124:=Tryz.underlying242
 a124:=Tryz.isAgg242
 z124:=Tryz.sizeOf242
 v124:=Tryz.zeroValue242
 t138:=Tryz.underlying282
 a138:=Tryz.isAgg282
 z138:=Tryz.sizeOf282
 v138:=Tryz.zeroValue282
 t139:=Tryz.underlying283
 a139:=Tryz.isAgg283
 z139:=Tryz.sizeOf283
 v139:=Tryz.zeroValue283
 g3:=by kernel_rfl
 g4:=by kernel_rfl}
open Go.RowKit in
theorem Tryz.strings_TrimRight_one (s:ByteArray) (c:UInt8) (hc:c.toNat<128) (w:World) (hs:s.size≤9223372036854775807):
 Calls Tryz.prog 167 #[.string s,.string ⟨#[c]⟩] w fun e w'=>e=.returned (.string ⟨(Lib.trimRightB s.data.toList c).toArray⟩)∧w'=w:=Any.strings_TrimRight_one Tryz.lays162 s c hc w hs
def Tryz.lays137_ren:Go.Shelf.Ren:=⟨fun|137=>66|217=>123|266=>181|n=>n,fun|9=>9|5=>5|3=>3|n=>n,fun|n=>n⟩
theorem Tryz.lays137:Go.Proofs.Lays.n137 Tryz.prog Tryz.lays137_ren:= {
 mixed:=by kernel_rfl
 f137:=Tryz.func66.trans (congrArg some (by kernel_rfl))
 f217:=Tryz.func123.trans (congrArg some (by kernel_rfl))
 f266:=Tryz.func181.trans (congrArg some (by kernel_rfl))
 t3:=Tryz.underlying3
 a3:=Tryz.isAgg3
 z3:=Tryz.sizeOf3
 v3:=Tryz.zeroValue3
 t5:=Tryz.underlying5
 a5:=Tryz.isAgg5
 z5:=Tryz.sizeOf5
 v5:=Tryz.zeroValue5
 t9:=Tryz.underlying9
 a9:=Tryz.isAgg9
 z9:=Tryz.sizeOf9
 v9:=Tryz.zeroValue9}
open Go.RowKit in
theorem Tryz.strings_IndexByte (s:ByteArray) (c:Int) (w:World):
 Calls Tryz.prog 66 #[.string s,.int .u8 c] w fun e w'=>e=.returned (.int .i64 (Lib.indexByte s.data.toList c.toNat.toUInt8))∧w'=w:=Any.strings_IndexByte Tryz.lays137 s c w
def Tryz.lays144_ren:Go.Shelf.Ren:=⟨fun|144=>74|143=>135|219=>195|217=>123|225=>194|224=>193|267=>239|266=>181|314=>254|n=>n,fun|9=>9|4=>4|3=>3|5=>5|46=>62|146=>216|51=>181|n=>n,fun|1=>0|n=>n⟩
theorem Tryz.lays144:Go.Proofs.Lays.n144 Tryz.prog Tryz.lays144_ren:= {
 mixed:=by kernel_rfl
 f143:=Tryz.func135.trans (congrArg some (by kernel_rfl))
 f144:=Tryz.func74.trans (congrArg some (by kernel_rfl))
 f217:=Tryz.func123.trans (congrArg some (by kernel_rfl))
 f219:=Tryz.func195.trans (congrArg some (by kernel_rfl))
 f224:=Tryz.func193.trans (congrArg some (by kernel_rfl))
 f225:=Tryz.func194.trans (congrArg some (by kernel_rfl))
 f266:=Tryz.func181.trans (congrArg some (by kernel_rfl))
 f267:=Tryz.func239.trans (congrArg some (by kernel_rfl))
 f314:=Tryz.func254.trans (congrArg some (by kernel_rfl))
 t3:=Tryz.underlying3
 a3:=Tryz.isAgg3
 z3:=Tryz.sizeOf3
 v3:=Tryz.zeroValue3
 t4:=Tryz.underlying4
 a4:=Tryz.isAgg4
 z4:=Tryz.sizeOf4
 v4:=Tryz.zeroValue4
 t5:=Tryz.underlying5
 a5:=Tryz.isAgg5
 z5:=Tryz.sizeOf5
 v5:=Tryz.zeroValue5
 t9:=Tryz.underlying9
 a9:=Tryz.isAgg9
 z9:=Tryz.sizeOf9
 v9:=Tryz.zeroValue9
 t46:=Tryz.underlying62
 a46:=Tryz.isAgg62
 z46:=Tryz.sizeOf62
 v46:=Tryz.zeroValue62
 t51:=Tryz.underlying181
 a51:=Tryz.isAgg181
 z51:=Tryz.sizeOf181
 v51:=Tryz.zeroValue181
 t146:=Tryz.underlying216
 a146:=Tryz.isAgg216
 z146:=Tryz.sizeOf216
 v146:=Tryz.zeroValue216
 g1:=by kernel_rfl}
open Go.RowKit Go.Lib in
theorem Tryz.strings_Contains_one (s:ByteArray) (c:UInt8) (w:World):
 Calls Tryz.prog 74 #[.string s,.string ⟨#[c]⟩] w fun e w'=>e=.returned (.bool (decide (0≤Lib.indexByte s.data.toList c)))∧w'=w:=Any.strings_Contains_one Tryz.lays144 s c w
def Tryz.lays102_ren:Go.Shelf.Ren:=⟨fun|102=>208|209=>240|207=>255|n=>n,fun|9=>9|4=>4|3=>3|n=>n,fun|n=>n⟩
theorem Tryz.lays102:Go.Proofs.Lays.n102 Tryz.prog Tryz.lays102_ren:= {
 mixed:=by kernel_rfl
 f102:=Tryz.func208.trans (congrArg some (by kernel_rfl))
 f207:=Tryz.func255.trans (congrArg some (by kernel_rfl))
 f209:=Tryz.func240.trans (congrArg some (by kernel_rfl))
 t3:=Tryz.underlying3
 a3:=Tryz.isAgg3
 z3:=Tryz.sizeOf3
 v3:=Tryz.zeroValue3
 t4:=Tryz.underlying4
 a4:=Tryz.isAgg4
 z4:=Tryz.sizeOf4
 v4:=Tryz.zeroValue4
 t9:=Tryz.underlying9
 a9:=Tryz.isAgg9
 z9:=Tryz.sizeOf9
 v9:=Tryz.zeroValue9}
open Go.RowKit Go.Lib in
theorem Tryz.strings_TrimSuffix (s p:ByteArray) (w:World) (hs:s.size≤9223372036854775807):
 Calls Tryz.prog 208 #[.string s,.string p] w fun e w'=>e=.returned (.string ⟨(Lib.trimSuffix s.data.toList p.data.toList).toArray⟩)∧w'=w:=Any.strings_TrimSuffix Tryz.lays102 s p w hs
end Go.Proofs
namespace Go.Ulp
open Go.RowKit
def shX (D:Dy) (E f k:Nat) (pd:Int):Int:=pd-k+(((decD (shZ D E f k pd)).length-(stp (decD (shZ D E f k pd))).length:Nat):Int)
def RetSh (D:Dy) (E f:Nat) (pd:Int) (w:World) (e:Ending) (w':World):Prop:=
 ∃k:Nat,(∀j,j<k→shS D E f j pd=false)∧shS D E f k pd=true∧e=.returned (.tuple #[.string (bsOf (stp (decD (shZ D E f k pd)))),.int .i64 (shX D E f k pd),.int .i64 0])∧Below w.heap.size w w'
theorem rtN_dn (neg:Bool) (a b:Nat):rtN neg a b 3=a/b:=by
 unfold rtN
 rw [if_neg]
 intro h
 have h2:=h.2
 revert h2
 unfold upN
 cases neg<;>simp
theorem shL_sci (D:Dy) (k:Nat) (pd:Int):sciQ false (dA D) (dB D) k pd 3=shL D k pd:=by
 unfold sciQ shL shA shB;exact rtN_dn _ _ _
theorem shL_bd (D:Dy) (k:Nat) (pd:Int) (hp:IsDec (dA D) (dB D) pd):10^k≤shL D k pd∧shL D k pd<10^(k+1):=by
 have h:=(sciQ_bd false (dA D) (dB D) k pd 3 (dB_pos D) hp).1
 rw [shL_sci] at h
 refine ⟨h,?_⟩
 have h2:=hp.2
 rw [lessT_tens (dA D) (dB D) (pd+1) (k+1),show (((k+1:Nat):Int)-(pd+1))=(k:Int)-pd by omega] at h2
 have h2:=of_decide_eq_true h2
 unfold shL
 rw [Nat.div_lt_iff_lt_mul (shB_pos D k pd)]
 exact h2
theorem shL_sciD (D:Dy) (k:Nat) (pd:Int) (hp:IsDec (dA D) (dB D) pd):sciD (sciQ false (dA D) (dB D) k pd 3) k=decD (shL D k pd):=by
 rw [shL_sci];unfold sciD
 have:=(shL_bd D k pd hp).2
 rw [if_neg (by omega)]
theorem val_parts (E f:Nat) (hf:f<4503599627370496):nrm (4*lmM E f:Nat) (lmX E)=rkD ((E*4503599627370496+f:Nat):Int)∧IsVal (rkD ((E*4503599627370496+f:Nat):Int)) E f:=by
 obtain ⟨r,hr⟩: ∃r,r=E*4503599627370496+f:=⟨_,rfl⟩
 have h1:=(rvi_lm E f hf).1
 rw [←hr] at h1 ⊢
 constructor
 ·unfold rkD
  rw [rvs_nat,h1]
  have s1:=nrm_scale ((4*lmM E f:Nat):Int) ((lmH E:Int)-1076-(lmH E:Int)) (lmH E)
  rw [show (lmH E:Int)-1076-(lmH E:Int)+(lmH E:Int)=lmX E by unfold lmX;omega,show (lmH E:Int)-1076-(lmH E:Int)= -1076 by omega] at s1
  have s2:=nrm_scale ((lmM E f*2^lmH E:Nat):Int) (-1076) 2
  rw [show (-1076:Int)+((2:Nat):Int)= -1074 by omega] at s2
  rw [←s1,←s2]
  congr 1
  rw [pw_nat,pw_nat,←Int.natCast_mul,←Int.natCast_mul]
  congr 1
  rw [Nat.mul_comm _ (2^2),←Nat.mul_assoc]
 ·have h2:=nrm_ratio (X:=rvs (r:Int)) (n:=1074) (D:=rkD (r:Int)) rfl
  unfold IsVal
  rw [rvs_nat,Int.natAbs_natCast,h1] at h2
  exact h2.symm
end Go.Ulp
namespace Go.Proofs.YtfphmlmgjhebjaaGreatDoor
open Go.RowKit Go.Ulp
set_option maxHeartbeats 4000000
set_option maxRecDepth 100000
theorem shDigits_any (x:Int) (h0:0≤x) (h1:x<18446744073709551616) (hv:hasVal x=true) (hc:classOf x≠1) (E f:Nat) (hE:expOf x=(E:Int)) (hf:fracOf x=(f:Int)) (hr:1≤E*4503599627370496+f) (hE2:E<2047) (pd:Int)
 (hp:IsDec (dA (rkD ((E*4503599627370496+f:Nat):Int))) (dB (rkD ((E*4503599627370496+f:Nat):Int))) pd) (hpb: -330≤pd∧pd≤320) (w:World) (hT:Tab 1 w) (hT10:Tab10 w):
 Calls Tryz.prog 90 #[.int .u64 x] w (RetSh (rkD ((E*4503599627370496+f:Nat):Int)) E f pd w):=by
 have hfb:=fracOf_bd x
 have hfb2:f<4503599627370496:=by omega
 obtain ⟨vp1,vp2⟩:=val_parts E f hfb2
 have hm1:1≤lmM E f:=by unfold lmM;split<;>omega
 have hMb:lmM E f<9007199254740992:=by unfold lmM;split<;>omega
 obtain ⟨R,hR⟩: ∃R:Int,R=((E*4503599627370496+f:Nat):Int):=⟨_,rfl⟩
 have hDb:(rkD R).1.natAbs<2^53∧ -1074≤(rkD R).2∧(rkD R).2≤1024:=by
  rw [←rkD_fv R (by omega) (by omega)];exact (fv_bd R (by omega) (by omega)).2
 rw [←hR] at vp1 vp2 hp ⊢
 have hDp:0<(rkD R).1:=by
  obtain ⟨k,e1,-⟩:=nrm_rep ((4*lmM E f:Nat):Int) (lmX E)
  rw [vp1] at e1
  rcases Int.lt_trichotomy (rkD R).1 0 with h|h|h
  ·have:=Int.mul_neg_of_neg_of_pos h (pw_pos k);omega
  ·rw [h,Int.zero_mul] at e1;omega
  ·exact h
 obtain ⟨D,hD⟩: ∃D,D=rkD R:=⟨_,rfl⟩
 rw [←hD] at vp1 vp2 hp hDb hDp ⊢
 clear hR hD
 have VP2:=hid vp2
 clear vp2
 have hDn:D.1≠0:=by omega
 have hd0:decide (D.1<0)=false:=decide_eq_false (by omega)
 have l60:D.1.natAbs<2^60:=Nat.lt_of_lt_of_le hDb.1 (Nat.pow_le_pow_right (by omega) (by omega))
 have HV:=hid (fun w=>hasValue_any x h0 h1 w)
 have CL:=hid (fun w=>class_any x h0 h1 w)
 rw [hv] at HV
 have hcb:(classOf x==1)=false:=beq_eq_false_iff_ne.2 hc
 have LM:=hid (fun w=>limits_any x h0 h1 E f hE hf hm1 w)
 have l4M:(limbs (4*lmM E f)).length≤10000:=Nat.le_trans (limbs_short2 64 3 (by omega) _ (by omega)) (by omega)
 have hxb: -2000≤lmX E∧lmX E≤2000:=by unfold lmX lmH;omega
 have NO:=hid (fun a c w hN t=>by
  have h9:=normD_any false a c (4*lmM E f) (lmX E) w hN (by omega) (by omega) t
  rwa [show sg false ((4*lmM E f:Nat):Int)=((4*lmM E f:Nat):Int) from rfl,vp1] at h9)
 have LG:=hid (fun v w h=>log10_any v D pd w h l60 (by omega) hp (by omega))
 have DG:=hid (fun v (k:Nat) w h (hk:k≤2000) t=>by
  have h9:=digits10_any v D k 3 pd w h hDn l60 (by omega) hp (by omega) hk t
  rwa [hd0,shL_sciD D k pd hp] at h9)
 have RD:=hid (fun (k:Nat) w (hk:k≤1500)=>by
  have b1:=shL_bd D k pd hp
  have b2:=decD_len k (shL D k pd) b1.2
  have h9:=natRead_any (decD (shL D k pd)) w (decD_dg _) (by omega)
  rwa [dvl_decD] at h9)
 have O1:=hid (show ∀w,Calls Tryz.prog 95 #[.int .u64 1] w (RetN w 1) from fun w=>natOf_any 1 (by omega) w)
 have y0:=Below.refl w.heap.size w
 have HT:=hid hT
 have HT10:=hid hT10
 clear hT hT10 hv hc hE hf
 go_enter Tryz.func90,Tryz.ntmps90
 go_upto_region 6 with (first|(go_at_call 47;(with_reducible refine (HV.out _).mono ?_);rintro en w1 ⟨rfl,rfl⟩)|(go_at_call 33;(with_reducible refine (CL.out _).mono ?_);rintro en w1 ⟨rfl,rfl⟩)|(go_at_call 160;(with_reducible refine (LM.out _).mono ?_);rintro en w2 ⟨v2,rfl,⟨a1,b1,c1,d1,e1,f1,rfl,n1,n2,n3⟩,hb2⟩))
 have zB:=B5.made (t:=191) (w:=w2) (v0:=.slice a1 (limbs (4*lmM E f)).length d1) (v1:=.slice b1 (limbs (lmL E f)).length e1) (v2:=.slice c1 (limbs (4*lmM E f+2)).length f1) (v3:=.int .i64 (lmX E)) (v4:=.bool (decide (f%2=0))) rfl
 obtain ⟨ev,hev⟩: ∃b,b=decide (f%2=0):=⟨_,rfl⟩
 have HEV:=hid hev
 rw [←hev] at zB
 rw [←hev]
 refine wp_worldZ (fun WW=>Below w.heap.size w WW∧B5 191 WW w2.heap.size (.slice a1 (limbs (4*lmM E f)).length d1) (.slice b1 (limbs (lmL E f)).length e1) (.slice c1 (limbs (4*lmM E f+2)).length f1) (.int .i64 (lmX E)) (.bool ev)∧Ns .u32 WW a1 d1 (limbs (4*lmM E f))∧Ns .u32 WW b1 e1 (limbs (lmL E f))∧Ns .u32 WW c1 f1 (limbs (4*lmM E f+2))) ⟨below_trans hb2 (below_alloc _ _),zB,n1.below (below_alloc _ _),n2.below (below_alloc _ _),n3.below (below_alloc _ _)⟩ ?_
 intro W1 ⟨y1,zB1,p1,p2,p3⟩
 obtain ⟨g5,hg5⟩: ∃g,g=w2.heap.size:=⟨_,rfl⟩
 rw [←hg5] at zB1 ⊢
 clear hg5 zB n1 n2 n3 hb2 y0 hev HV CL LM
 obtain ⟨i0,i1,i2,i3,i4,-⟩:=id zB1
 go_upto_region 7 with (go_at_call 156;(with_reducible refine (NO.out _ _ _ p1 (HT.out.below y1)).mono ?_);rintro en w3 ⟨v3,rfl,⟨am,cm,rfl,hN3⟩,hb3⟩)
 have zQ:QL 67 (w3.alloc (.cells #[.bool false,.slice am (limbs D.1.natAbs).length cm,.int .i64 D.2] 67)) w3.heap.size false (.slice am (limbs D.1.natAbs).length cm) D.2:=QL.made rfl
 refine wp_worldZ (fun WW=>Below w.heap.size w WW∧B5 191 WW g5 (.slice a1 (limbs (4*lmM E f)).length d1) (.slice b1 (limbs (lmL E f)).length e1) (.slice c1 (limbs (4*lmM E f+2)).length f1) (.int .i64 (lmX E)) (.bool ev)∧Ns .u32 WW a1 d1 (limbs (4*lmM E f))∧Ns .u32 WW b1 e1 (limbs (lmL E f))∧Ns .u32 WW c1 f1 (limbs (4*lmM E f+2))∧QL 67 WW w3.heap.size false (.slice am (limbs D.1.natAbs).length cm) D.2∧Ns .u32 WW am cm (limbs D.1.natAbs))
  ⟨below_trans (below_trans y1 hb3) (below_alloc _ _),(zB1.below hb3).below (below_alloc _ _),(p1.below hb3).below (below_alloc _ _),(p2.below hb3).below (below_alloc _ _),(p3.below hb3).below (below_alloc _ _),zQ,hN3.below (below_alloc _ _)⟩ ?_
 intro W2 ⟨y2,zB2,q1,q2,q3,zQ2,qn⟩
 obtain ⟨g6,hg6⟩: ∃g,g=w3.heap.size:=⟨_,rfl⟩
 rw [←hg6] at zQ2 ⊢
 clear hg6 zQ hN3 hb3 zB1 p1 p2 p3 y1 i0 i1 i2 i3 i4 NO
 have VDW:=hid (show ∀w',Below W2.heap.size W2 w'→VD w' D (.agg #[.bool false,.slice am (limbs D.1.natAbs).length cm,.int .i64 D.2]) from fun w' h=>⟨am,cm,by rw [hd0],qn.below h⟩)
 have VBW:=hid (show ∀w',Below W2.heap.size W2 w'→VB w' (4*lmM E f) (lmL E f) (4*lmM E f+2) (lmX E) (decide (f%2=0)) (.agg #[.slice a1 (limbs (4*lmM E f)).length d1,.slice b1 (limbs (lmL E f)).length e1,.slice c1 (limbs (4*lmM E f+2)).length f1,.int .i64 (lmX E),.bool ev]) from fun w' h=>⟨a1,b1,c1,d1,e1,f1,by rw [HEV.out],q1.below h,q2.below h,q3.below h⟩)
 have ZB:=hid (show ∀w',Below W2.heap.size W2 w'→B5 191 w' g5 (.slice a1 (limbs (4*lmM E f)).length d1) (.slice b1 (limbs (lmL E f)).length e1) (.slice c1 (limbs (4*lmM E f+2)).length f1) (.int .i64 (lmX E)) (.bool ev) from fun w' h=>zB2.below h)
 have ZQ:=hid (show ∀w',Below W2.heap.size W2 w'→QL 67 w' g6 false (.slice am (limbs D.1.natAbs).length cm) D.2 from fun w' h=>zQ2.below h)
 have Q1:=hid (show ∀w',Below W2.heap.size W2 w'→Ns .u32 w' a1 d1 (limbs (4*lmM E f)) from fun w' h=>q1.below h)
 obtain ⟨⟨j0,j1,-⟩,j2,-⟩:=id zQ2
 clear zB2 zQ2 q1 q2 q3 qn
 go_upto_block 0 with (go_at_call 161;(with_reducible refine (LG.out _ _ (VDW.out _ (Below.refl _ _))).mono ?_);rintro en w4 ⟨rfl,hb4⟩)
 obtain ⟨W3,hW3⟩: ∃W,W=w4:=⟨_,rfl⟩
 subst hW3
 clear j0 j1 j2 LG
 have yW3:=hb4
 clear hb4
 go_wp2_with fail
 go_loopw [8,9,10,11,12,13,14,15,16,17,18,19] (fun s8 s9 s10 s11 s12 s13 s14 s15 s16 s17 s18 s19 wr=> ∃k:Nat,s8=.int .i64 ((k:Int)+1)∧k≤1400∧(∀j,j<k→shS D E f j pd=false)∧Below W3.heap.size W3 wr) (fun s8 s9 s10 s11 s12 s13 s14 s15 s16 s17 s18 s19 _=>2000-(intOf s8).toNat)
 case atStart=>exact ⟨0,rfl,by omega,fun j h=>by omega,Below.refl _ _⟩
 case round=>
  obtain ⟨k,rfl,hk,hks,yr⟩:=hrel
  have yr2:=below_trans yW3 yr
  obtain ⟨sb1,sb2⟩:=shL_bd D k pd hp
  have hkn:=sh_prog D E f k pd VP2.out hfb2 hr
  have hke:=fun h=>sh_ends D k pd hDb.2.1 h
  have hksome:=fun h=>sh_some D E f k pd VP2.out hfb2 hr h
  have RDk:=hid (fun w=>RD.out k w (by omega))
  obtain ⟨L,hL⟩: ∃L,L=shL D k pd:=⟨_,rfl⟩
  have lL:(limbs L).length≤3002:=by
   have h9:=limbs_ten (k+1) (by omega)
   rw [hL]
   exact Nat.le_trans (limbs_len_mono (Nat.le_of_lt sb2)) h9
  have lL1:(limbs (L+1)).length≤3002:=by
   have h9:=limbs_ten (k+1) (by omega)
   rw [hL]
   exact Nat.le_trans (limbs_len_mono sb2) h9
  have hLp:1≤L:=by
   have:=Nat.pow_pos (n:=k) (show 0<10 by omega)
   omega
  have hkb: -10000≤pd-(k:Int)∧pd-(k:Int)≤10000:=by omega
  have PL:=hid (fun a c b d w h0 h1=>plus_any a b c d L 1 w h0 h1 (by omega) (by rw [show (limbs 1).length=1 from by decide];omega))
  have P2:=hid (fun a c b d w h0 h1=>plus_any a b c d L (L+1) w h0 h1 (by omega) (by omega))
  have FA:=hid (fun v a c w h0 h1=>fits_any v L (4*lmM E f) E f (decide (f%2=0)) (pd-k) a c w h0 h1 (by omega) hE2 hfb2 hkb)
  have FC:=hid (fun v a c w h0 h1=>fits_any v (L+1) (4*lmM E f) E f (decide (f%2=0)) (pd-k) a c w h0 h1 (by omega) hE2 hfb2 hkb)
  have l2L:(limbs (L+(L+1))).length≤10000:=Nat.le_trans (limbs_len_add L (L+1) 3002 3002 lL lL1) (by omega)
  have HC:=hid (fun a c b d w h0 h1=>shCmp_any (L+(L+1)) (4*lmM E f) (pd-k) (lmX E+1) a b c d w h0 h1 l2L l4M hkb (by omega))
  obtain ⟨sp,hsp⟩: ∃z,z=sciP (sciQ false (dA D) (dB D) k pd 3) k pd:=⟨_,rfl⟩
  obtain ⟨sc,hsc⟩: ∃z,z=sciC (dA D) (dB D) k pd:=⟨_,rfl⟩
  have DGk:=hid (show ∀w,VD w D (.agg #[.bool false,.slice am (limbs D.1.natAbs).length cm,.int .i64 D.2])→Tab10 w→Calls Tryz.prog 162 #[.agg #[.bool false,.slice am (limbs D.1.natAbs).length cm,.int .i64 D.2],.int .i64 ((k:Int)+1),.int .i64 3] w fun e w'=>e=.returned (.tuple #[.string (bsOf (decD L)),.int .i64 sp,.bool sc])∧Below w.heap.size w w' from fun w h t=>by
   rw [hL,hsp,hsc];exact DG.out _ k w h (by omega) t)
  rw [←hL] at RDk
  have e9:pd+1-((k:Int)+1)=pd-k:=by omega
  have HL:=hid hL
  clear hsp hsc hL sb1 sb2
  go_upto_region 11 with fail
  clear e9
  obtain ⟨⟨j0,j1,-⟩,j2,-⟩:=ZQ.out _ yr2
  have yw:=below_trans y2 yr2
  have HT9:=hid (HT10.out.below yw)
  go_upto_region 14 with (first|(go_at_call 162;(with_reducible refine (DGk.out _ (VDW.out _ yr2) HT9.out).mono ?_);rintro en w5 ⟨rfl,hb5⟩)|(go_at_call 158;(with_reducible refine (RDk.out _).mono ?_);rintro en w6 ⟨a6,c6,rfl,n6,hb6⟩)|(go_at_call 95;(with_reducible refine (O1.out _).mono ?_);rintro en w7 ⟨a7,rfl,n7,hb7⟩)|(go_at_call 163;(with_reducible refine (PL.out _ _ _ _ _ (n6.below hb7) n7).mono ?_);rintro en w8 ⟨a8,rfl,n8,hb8⟩))
  have yr8:=below_trans (below_trans (below_trans (below_trans yr2 hb5) hb6) hb7) hb8
  have yr8':=below_trans (below_trans (below_trans (below_trans yr hb5) hb6) hb7) hb8
  have m6:=(n6.below hb7).below hb8
  obtain ⟨W8,hW8⟩: ∃W,W=w8:=⟨_,rfl⟩
  subst hW8
  clear j0 j1 j2 n6 n7 hb5 hb6 hb7 hb8 yr yr2 yw HT9 DGk RDk PL
  obtain ⟨a,ha⟩: ∃b,b=fitP E f L (pd-k):=⟨_,rfl⟩
  obtain ⟨c,hc⟩: ∃b,b=fitP E f (L+1) (pd-k):=⟨_,rfl⟩
  rw [←ha] at FA
  rw [←hc] at FC
  have HA:=hid ha
  have HCC:=hid hc
  clear ha hc
  refine wp_region_grow 10 [53,54,55,56,57,58,59,60,15,16] [Fact.is (.agg #[.slice a1 (limbs (4*lmM E f)).length d1,.slice b1 (limbs (lmL E f)).length e1,.slice c1 (limbs (4*lmM E f+2)).length f1,.int .i64 (lmX E),.bool ev]),Fact.is (.slice a6 (limbs L).length c6),Fact.is (.int .i64 (pd-k)),Fact.is (.bool a),Fact.is (.agg #[.slice a1 (limbs (4*lmM E f)).length d1,.slice b1 (limbs (lmL E f)).length e1,.slice c1 (limbs (4*lmM E f+2)).length f1,.int .i64 (lmX E),.bool ev]),Fact.is (.slice a8 (limbs (L+1)).length (limbs (L+1)).length),Fact.is (.int .i64 (pd-k)),Fact.is (.bool c),Fact.is (.bool a),Fact.is (.bool c)] (by kernel_rfl) (by kernel_rfl) ⟨?o0,?o1,?o2,?o3,?o4,?o5,?o6,?o7,?o8,?o9,trivial⟩ ?after
  case o0=>(refine oQ rfl ?_;intro ρ w1 R hcon hfn hρ hb hp hR;have e5:ρ (.tmp 5)=.pointer (some ⟨g5,0,none⟩):=hρ.tmp 5 rfl;obtain ⟨j0,j1,j2,j3,j4,-⟩:=ZB.out _ (below_trans yr8 hb);clear hρ hp;unfold OpRun;go_simp;exact hR _ _ (Below.refl _ _) rfl)
  case o1=>(refine oQ rfl ?_;intro ρ w1 R hcon hfn hρ hb hp hR;have e13:ρ (.tmp 13)=.slice a6 (limbs L).length c6:=hρ.tmp 13 rfl;clear hρ hp;unfold OpRun;go_simp;exact hR _ _ (Below.refl _ _) rfl)
  case o2=>(refine oQ rfl ?_;intro ρ w1 R hcon hfn hρ hb hp hR;have e9:ρ (.tmp 9)=.int .i64 (pd-k):=hρ.tmp 9 rfl;clear hρ hp;unfold OpRun;go_simp;exact hR _ _ (Below.refl _ _) rfl)
  case o3=>(refine oQ rfl ?_;intro ρ w1 R hcon hfn hρ hb hp hR;have e53:ρ (.tmp 53)=_:=hp 0 53 rfl rfl;have e54:ρ (.tmp 54)=_:=hp 1 54 rfl rfl;have e55:ρ (.tmp 55)=_:=hp 2 55 rfl rfl;clear hρ hp;unfold OpRun;go_simp;(refine (FA.out _ a6 c6 _ (VBW.out _ (below_trans yr8 hb)) (m6.below hb)).mono ?_;rintro e wn ⟨rfl,hbn⟩;exact ⟨_,rfl,hR _ _ hbn rfl⟩))
  case o4=>(refine oQ rfl ?_;intro ρ w1 R hcon hfn hρ hb hp hR;have e5:ρ (.tmp 5)=.pointer (some ⟨g5,0,none⟩):=hρ.tmp 5 rfl;obtain ⟨j0,j1,j2,j3,j4,-⟩:=ZB.out _ (below_trans yr8 hb);clear hρ hp;unfold OpRun;go_simp;exact hR _ _ (Below.refl _ _) rfl)
  case o5=>(refine oQ rfl ?_;intro ρ w1 R hcon hfn hρ hb hp hR;have e14:ρ (.tmp 14)=.slice a8 (limbs (L+1)).length (limbs (L+1)).length:=hρ.tmp 14 rfl;clear hρ hp;unfold OpRun;go_simp;exact hR _ _ (Below.refl _ _) rfl)
  case o6=>(refine oQ rfl ?_;intro ρ w1 R hcon hfn hρ hb hp hR;have e9:ρ (.tmp 9)=.int .i64 (pd-k):=hρ.tmp 9 rfl;clear hρ hp;unfold OpRun;go_simp;exact hR _ _ (Below.refl _ _) rfl)
  case o7=>(refine oQ rfl ?_;intro ρ w1 R hcon hfn hρ hb hp hR;have e57:ρ (.tmp 57)=_:=hp 4 57 rfl rfl;have e58:ρ (.tmp 58)=_:=hp 5 58 rfl rfl;have e59:ρ (.tmp 59)=_:=hp 6 59 rfl rfl;clear hρ hp;unfold OpRun;go_simp;(refine (FC.out _ a8 _ _ (VBW.out _ (below_trans yr8 hb)) (n8.below hb)).mono ?_;rintro e wn ⟨rfl,hbn⟩;exact ⟨_,rfl,hR _ _ hbn rfl⟩))
  case o8=>(refine oQ rfl ?_;intro ρ w1 R hcon hfn hρ hb hp hR;have e56:ρ (.tmp 56)=_:=hp 3 56 rfl rfl;clear hρ hp;unfold OpRun;go_simp;exact hR _ _ (Below.refl _ _) rfl)
  case o9=>(refine oQ rfl ?_;intro ρ w1 R hcon hfn hρ hb hp hR;have e60:ρ (.tmp 60)=_:=hp 7 60 rfl rfl;clear hρ hp;unfold OpRun;go_simp;exact hR _ _ (Below.refl _ _) rfl)
  case after=>
   intro u wn hb hf
   have e15:u 15=_:=hf 8 15 (by omega) rfl
   have e16:u 16=_:=hf 9 16 (by omega) rfl
   clear hf
   simp only [putAll,Act.put,List.setIfInBounds_toArray,List.set_cons_zero,List.set_cons_succ,List.drop_succ_cons,List.drop_zero,List.drop_nil]
   rw [e15,e16]
   have yn:=below_trans yr8 hb
   have yn':=below_trans yr8' hb
   replace m6:=m6.below hb
   replace n8:=n8.below hb
   obtain ⟨W9,hW9⟩: ∃W,W=wn:=⟨_,rfl⟩
   subst hW9
   clear yr8 yr8' hb FA FC e15 e16
   obtain ⟨half,hhalf⟩: ∃h,h=cmpT (L+(L+1)) (pd-k) (4*lmM E f) (lmX E+1):=⟨_,rfl⟩
   rw [←hhalf] at HC
   have e2L:L+(L+1)=2*L+1:=by omega
   have HKN:=hid (show (if (a&&c)=true then (decide (half<0)||(decide (half=0)&&decide (L%2=1))) else if a=true then false else c)=shU D E f k pd by
    have h9:=hkn a c (by rw [HA.out,HL.out]) (by rw [HCC.out,HL.out]) half (by rw [hhalf,e2L,HL.out])
    rw [←HL.out] at h9;exact h9)
   obtain ⟨U,hU⟩: ∃U,U=shU D E f k pd:=⟨_,rfl⟩
   rw [←hU] at HKN
   have HZ:=hid (show shZ D E f k pd=if U=true then L+1 else L by unfold shZ;rw [←hU,←HL.out])
   have HS:=hid (show shS D E f k pd=(a||c) by unfold shS;rw [HA.out,HCC.out,HL.out])
   clear hkn hhalf e2L hU
   go_upto_region 15 with fail
   go_cut [64] (fun s64 wx=>s64=.bool (a&&c)∧wx=W9)
   case first=>as_aux_lemma=>
    clear HKN HA HCC HZ HS
    cases a
    all_goals
     go_wp2_with fail
     go_meet
     exact ⟨rfl,rfl⟩
   case rest=>
   obtain ⟨rfl,rfl⟩:=hcut
   obtain ⟨W9,hW9⟩: ∃W,W=wc:=⟨_,rfl⟩
   subst hW9
   go_upto_if 64 with fail
   go_cut [16] (fun s16 wx=>s16=.bool U∧Below W9.heap.size W9 wx)
   case first=>as_aux_lemma=>
    by_cases hac:(a&&c)=true
    ·have h9:=HKN.out
     rw [if_pos hac] at h9
     rw [Bool.and_eq_true] at hac
     obtain ⟨rfl,rfl⟩:=hac
     have H9:=hid h9
     clear h9 HKN HA HCC HZ HS VP2 hksome hke
     go_upto_region 16 with fail
     refine wp_region_grow 11 [65,66,67,68,69,70,71,72,73,74,17] [Fact.is (.slice a6 (limbs L).length c6),Fact.is (.slice a8 (limbs (L+1)).length (limbs (L+1)).length),Fact.li (L+(L+1)),Fact.is (.int .i64 (pd-k)),Fact.is (.pointer (some ⟨g5,0,none⟩)),Fact.is (.slice a1 (limbs (4*lmM E f)).length d1),Fact.is (.pointer (some ⟨g5,3,none⟩)),Fact.is (.int .i64 (lmX E)),Fact.is (.int .i64 (lmX E+1)),Fact.is (.int .i64 half),Fact.is (.int .i64 half)] (by kernel_rfl) (by kernel_rfl) ⟨?o0,?o1,?o2,?o3,?o4,?o5,?o6,?o7,?o8,?o9,?o10,trivial⟩ ?after
     case o0=>(refine oQ rfl ?_;intro ρ w1 R hcon hfn hρ hb hp hR;have e13:ρ (.tmp 13)=.slice a6 (limbs L).length c6:=hρ.tmp 13 rfl;clear hρ hp;unfold OpRun;go_simp;exact hR _ _ (Below.refl _ _) rfl)
     case o1=>(refine oQ rfl ?_;intro ρ w1 R hcon hfn hρ hb hp hR;have e14:ρ (.tmp 14)=.slice a8 (limbs (L+1)).length (limbs (L+1)).length:=hρ.tmp 14 rfl;clear hρ hp;unfold OpRun;go_simp;exact hR _ _ (Below.refl _ _) rfl)
     case o2=>(refine oQ rfl ?_;intro ρ w1 R hcon hfn hρ hb hp hR;have e65:ρ (.tmp 65)=_:=hp 0 65 rfl rfl;have e66:ρ (.tmp 66)=_:=hp 1 66 rfl rfl;clear hρ hp;unfold OpRun;go_simp;(refine (P2.out _ _ _ _ _ (m6.below hb) (n8.below hb)).mono ?_;rintro e wn ⟨b9,rfl,hn9,hbn⟩;exact ⟨_,rfl,hR _ _ hbn ⟨b9,_,rfl,hn9⟩⟩))
     case o3=>(refine oQ rfl ?_;intro ρ w1 R hcon hfn hρ hb hp hR;have e9:ρ (.tmp 9)=.int .i64 (pd-k):=hρ.tmp 9 rfl;clear hρ hp;unfold OpRun;go_simp;exact hR _ _ (Below.refl _ _) rfl)
     case o4=>(refine oQ rfl ?_;intro ρ w1 R hcon hfn hρ hb hp hR;have e5:ρ (.tmp 5)=.pointer (some ⟨g5,0,none⟩):=hρ.tmp 5 rfl;clear hρ hp;unfold OpRun;go_simp;exact hR _ _ (Below.refl _ _) rfl)
     case o5=>(refine oQ rfl ?_;intro ρ w1 R hcon hfn hρ hb hp hR;have e69:ρ (.tmp 69)=_:=hp 4 69 rfl rfl;obtain ⟨j0,j1,j2,j3,j4,-⟩:=ZB.out _ (below_trans yn hb);clear hρ hp;unfold OpRun;go_simp;exact hR _ _ (Below.refl _ _) rfl)
     case o6=>(refine oQ rfl ?_;intro ρ w1 R hcon hfn hρ hb hp hR;have e5:ρ (.tmp 5)=.pointer (some ⟨g5,0,none⟩):=hρ.tmp 5 rfl;clear hρ hp;unfold OpRun;go_simp;exact hR _ _ (Below.refl _ _) rfl)
     case o7=>(refine oQ rfl ?_;intro ρ w1 R hcon hfn hρ hb hp hR;have e71:ρ (.tmp 71)=_:=hp 6 71 rfl rfl;obtain ⟨j0,j1,j2,j3,j4,-⟩:=ZB.out _ (below_trans yn hb);clear hρ hp;unfold OpRun;go_simp;exact hR _ _ (Below.refl _ _) rfl)
     case o8=>(refine oQ rfl ?_;intro ρ w1 R hcon hfn hρ hb hp hR;have e72:ρ (.tmp 72)=_:=hp 7 72 rfl rfl;have hwp:IntKind.i64.wrap (lmX E+1)=lmX E+1:=IntWalk.i64_in _ (by omega);clear hρ hp;unfold OpRun;go_simp;exact hR _ _ (Below.refl _ _) rfl)
     case o9=>(refine oQ rfl ?_;intro ρ w1 R hcon hfn hρ hb hp hR;have f67:=hp 2 67 rfl rfl;have e68:ρ (.tmp 68)=_:=hp 3 68 rfl rfl;have e70:ρ (.tmp 70)=_:=hp 5 70 rfl rfl;have e73:ρ (.tmp 73)=_:=hp 8 73 rfl rfl;obtain ⟨b67,d67,e67,hn67⟩:=f67;clear hρ hp;unfold OpRun;go_simp;(refine (HC.out _ _ _ _ _ hn67 (Q1.out _ (below_trans yn hb))).mono ?_;rintro e wn ⟨rfl,hbn⟩;exact ⟨_,rfl,hR _ _ hbn rfl⟩))
     case o10=>(refine oQ rfl ?_;intro ρ w1 R hcon hfn hρ hb hp hR;have e74:ρ (.tmp 74)=_:=hp 9 74 rfl rfl;clear hρ hp;unfold OpRun;go_simp;exact hR _ _ (Below.refl _ _) rfl)
     case after=>
      intro u wn hb hf
      have e17:u 17=_:=hf 10 17 (by omega) rfl
      clear hf
      simp only [putAll,Act.put,List.setIfInBounds_toArray,List.set_cons_zero,List.set_cons_succ,List.drop_succ_cons,List.drop_zero,List.drop_nil]
      rw [e17]
      have hwn:=below_trans (Below.refl W9.heap.size W9) hb
      have hnb:=m6.below hb
      obtain ⟨W10,hW10⟩: ∃W,W=wn:=⟨_,rfl⟩
      subst hW10
      by_cases h1:half<0
      ·have H5:=hid (show U=true by rw [←H9.out];simp [h1])
       clear H9
       go_wp2_with fail
       go_meet
       exact ⟨by rw [H5.out],hwn⟩
      ·by_cases h2:half=0
       ·have h3:(half==0)=true:=beq_iff_eq.2 h2
        have hpos:0<(limbs L).length:=List.length_pos_iff.2 (fun e=>by have:=(limbs_nil L).1 e;omega)
        obtain ⟨bb,off,rfl,hcell⟩:=hnb.2.2 hpos
        obtain ⟨x0,hx⟩: ∃x,x=(limbs L).getD 0 0:=⟨_,rfl⟩
        have kc:W10.cell? ⟨bb,off,none⟩=some (.int .u32 (x0:Int)):=by have:=hcell 0 hpos;rw [hx];exact this
        have hxo:x0%2=L%2:=by rw [hx];exact limbs_odd L hpos
        have hx2:x0<4294967296:=by rw [hx];exact (limbs_lim L).getD (by omega) 0
        by_cases h4:L%2=1
        ·have HO:((x0:Int)%2==1)=true:=beq_iff_eq.2 (by omega)
         have H5:=hid (show U=true by rw [←H9.out];simp [h2,h4])
         clear hcell hx hxo H9 h2 h4
         go_wp2_with fail
         go_meet
         exact ⟨by rw [H5.out],hwn⟩
        ·have HO:((x0:Int)%2==1)=false:=beq_eq_false_iff_ne.2 (by omega)
         have H5:=hid (show U=false by rw [←H9.out];simp [h2,h4])
         clear hcell hx hxo H9 h2 h4
         go_wp2_with fail
         go_meet
         exact ⟨by rw [H5.out],hwn⟩
       ·have h3:(half==0)=false:=beq_eq_false_iff_ne.2 h2
        have H5:=hid (show U=false by rw [←H9.out];simp [h1,h2])
        clear H9 h2
        go_wp2_with fail
        go_meet
        exact ⟨by rw [H5.out],hwn⟩
    ·have h9:=HKN.out
     rw [if_neg hac] at h9
     have hacf:(a&&c)=false:=eq_false_of_ne_true hac
     have H5:=hid (show c=U by
      rw [←h9]
      cases a
      ·rfl
      ·cases c
       ·rfl
       ·exact absurd rfl hac)
     rw [hacf]
     clear h9 HKN HA HCC HZ HS hac hacf
     go_wp2_with fail
     go_meet
     exact ⟨by rw [H5.out],Below.refl _ _⟩
   case rest=>
    obtain ⟨rfl,yc⟩:=hcut
    obtain ⟨W11,hW11⟩: ∃W,W=wc:=⟨_,rfl⟩
    subst hW11
    have y11:=below_trans yn yc
    have y11':=below_trans yn' yc
    have n11:=n8.below yc
    have HTT:=hid (HT10.out.below (below_trans y2 y11))
    clear yn yn' yc m6 n8 P2 HC
    go_upto_region 18 with fail
    go_cut [93] (fun s93 wx=>s93=.bool (!a&&!U)∧wx=W11)
    case first=>as_aux_lemma=>
     clear HKN HA HCC HZ HS
     cases a
     all_goals
      go_wp2_with fail
      go_meet
      exact ⟨rfl,rfl⟩
    case rest=>
     obtain ⟨rfl,rfl⟩:=hcut
     obtain ⟨W12,hW12⟩: ∃W,W=wc:=⟨_,rfl⟩
     subst hW12
     by_cases hau:(!a&&!U)=true
     ·have hSf:shS D E f k pd=false:=by
       rw [HS.out]
       have h9:=HKN.out
       cases a
       ·cases U
        ·have h8:c=false:=by simpa using h9
         rw [h8];rfl
        ·exact absurd hau (by simp)
       ·exact absurd hau (by simp)
      have hkk:k<1400:=by
       rcases Nat.lt_or_ge k 1400 with h|h
       ·exact h
       ·have:=hksome (hke (by omega))
        rw [hSf] at this;cases this
      have HREL:=hid (show ∀j,j<k+1→shS D E f j pd=false from fun j hj=>by
       by_cases h:j=k
       ·rw [h];exact hSf
       ·exact hks j (by omega))
      have wk9:IntKind.i64.wrap ((k:Int)+1+1)=(k:Int)+1+1:=IntWalk.i64_in _ (by omega)
      rw [hau]
      clear hau hSf hks hke hksome HKN HA HCC HZ HS
      go_wp2_with fail
      go_roundw
      case rel=>exact ⟨k+1,by go_num,by omega,HREL.out,y11'⟩
      case measure=>simp [intOf];omega
     ·have hauf:(!a&&!U)=false:=eq_false_of_ne_true hau
      have hSt:shS D E f k pd=true:=by
       rw [HS.out]
       have h9:=HKN.out
       cases a
       ·cases U
        ·exact absurd rfl hau
        ·have h8:c=true:=by simpa using h9
         rw [h8];rfl
       ·rfl
      have HSS:=hid hSt
      rw [hauf]
      obtain ⟨Z,hZ⟩: ∃Z,Z=if U=true then L+1 else L:=⟨_,rfl⟩
      have hZp:0<Z:=by rw [hZ];split<;>omega
      have HZZ:=hid (show shZ D E f k pd=Z by rw [HZ.out,hZ])
      have hzl:(decD Z).length≤2000:=by
       have h9:=(shL_bd D k pd hp).2
       rw [←HL.out] at h9
       have h8:Z<10^(k+1+1):=by
        rw [Nat.pow_succ]
        rw [hZ];split<;>omega
       exact Nat.le_trans (decD_len (k+1) Z h8) (by omega)
      have DE:=hid (fun ao c w h t=>decimal_any ao c (L+1) w h (by omega) t)
      clear hau hauf hSt hke hksome HKN HA HCC HZ HS
      go_upto_if 95 with fail
      go_cut [18] (fun s18 wx=>s18=.string (bsOf (decD Z))∧Below W12.heap.size W12 wx)
      case first=>as_aux_lemma=>
       cases U
       ·have H5:=hid (show Z=L by rw [hZ];rfl)
        clear hZ
        go_wp2_with fail
        go_meet
        exact ⟨by rw [H5.out],Below.refl _ _⟩
       ·have H5:=hid (show Z=L+1 by rw [hZ];rfl)
        clear hZ
        go_wp2_with (go_at_call 166;(with_reducible refine (DE.out _ _ _ n11 HTT.out).mono ?_);rintro en w13 ⟨rfl,hb13⟩)
        go_meet
        exact ⟨by rw [H5.out],hb13⟩
      case rest=>
       obtain ⟨rfl,y13⟩:=hcut
       have TR:=hid (show ∀w,Calls Tryz.prog 167 #[.string (bsOf (decD Z)),.string ⟨#[48]⟩] w fun e w'=>e=.returned (.string (bsOf (stp (decD Z))))∧w=w' from fun w=>by
        refine (Tryz.strings_TrimRight_one (bsOf (decD Z)) 48 (by decide) w (by rw [bs_size];omega)).mono ?_
        rintro e w1 ⟨h1,rfl⟩
        refine ⟨?_,rfl⟩
        rw [bs_list] at h1
        rw [h1]
        exact ret_bs (by first|rfl|(unfold Lib.trimRightB;rfl)))
       have d3:=(stp_decD Z hZp).2.2.1
       have hsz1:=bs_size (decD Z)
       have hsz2:=bs_size (stp (decD Z))
       have HX:=hid (show shX D E f k pd=pd-k+(((decD Z).length-(stp (decD Z)).length:Nat):Int) by unfold shX;rw [HZZ.out])
       have HTX:=hid (show stp (decD (shZ D E f k pd))=stp (decD Z) by rw [HZZ.out])
       generalize decD Z=T at *
       generalize stp T=S at *
       have w7:IntKind.i64.wrap (pd-(k:Int)+(T.length:Int))=pd-(k:Int)+(T.length:Int):=IntWalk.i64_in _ (by omega)
       obtain ⟨q,hq⟩: ∃q:Int,q=pd-(k:Int)+(T.length:Int)-(S.length:Int):=⟨_,rfl⟩
       have w8:IntKind.i64.wrap (pd-(k:Int)+(T.length:Int)-(S.length:Int))=q:=by rw [IntWalk.i64_in _ (by omega)];exact hq.symm
       have HQ:=hid (show q=shX D E f k pd by rw [HX.out,hq];omega)
       have yend:=below_trans (below_trans y2 y11) y13
       clear hZ hZp HZZ HX hq hzl d3 y11 y11' y13
       go_wp2_with (go_at_call 167;(with_reducible refine (TR.out _).mono ?_);rintro en w14 ⟨rfl,rfl⟩)
       go_ret3
       exact ⟨k,hks,HSS.out,by rw [HTX.out,←HQ.out];rfl,yend⟩
end Go.Proofs.YtfphmlmgjhebjaaGreatDoor
