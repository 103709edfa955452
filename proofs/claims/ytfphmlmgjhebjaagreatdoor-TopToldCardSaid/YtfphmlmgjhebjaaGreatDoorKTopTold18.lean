/- TopTold: what the proof leans on, part 18 (Hr5 Hr4 Hx0 Hx1 Hp). -/
import Derived.Laws.Runes
import Derived.Test.YtfphmlmgjhebjaaGreatDoorKTopTold1
import Derived.Test.YtfphmlmgjhebjaaGreatDoorKTopTold7
import Derived.Test.YtfphmlmgjhebjaaGreatDoorKTopTold9
import Derived.Test.YtfphmlmgjhebjaaGreatDoorKTopTold11
import Derived.Test.YtfphmlmgjhebjaaGreatDoorKTopTold17
set_option linter.unusedVariables false
set_option linter.unusedSimpArgs false
namespace Go.Ulp
open Go.RowKit
def hxd (b:UInt8):Nat:=if b.toNat≤57 then b.toNat-48 else b.toNat-87
def hvA (acc:Nat) (L:List UInt8):Nat:=L.foldl (fun a b=>a*16+hxd b) acc
def hvl (L:List UInt8):Nat:=hvA 0 L
theorem hvA_cons (acc:Nat) (b:UInt8) (r:List UInt8):hvA acc (b::r)=hvA (acc*16+hxd b) r:=by unfold hvA;rw [List.foldl_cons]
theorem hvA_app (acc:Nat) (A B:List UInt8):hvA acc (A++B)=hvA (hvA acc A) B:=by unfold hvA;rw [List.foldl_append]
theorem hvl_cons (b:UInt8) (r:List UInt8):hvl (b::r)=hvA (hxd b) r:=by unfold hvl;rw [hvA_cons,Nat.zero_mul,Nat.zero_add]
theorem hvA_acc (L:List UInt8): ∀(acc:Nat),hvA acc L=acc*16^L.length+hvl L:=by
 induction L with
 |nil=>intro acc;rw [List.length_nil,Nat.pow_zero,Nat.mul_one];rfl
 |cons b r ih=>
  intro acc
  rw [hvA_cons,ih,hvl_cons,ih,List.length_cons,Nat.pow_succ,Nat.add_mul,Nat.mul_assoc,Nat.mul_comm 16,Nat.add_assoc]
theorem hx_bd {b:UInt8} (h:isHx b=true):(48≤b.toNat∧b.toNat≤57∧hxd b=b.toNat-48)∨(97≤b.toNat∧b.toNat≤102∧hxd b=b.toNat-87):=by
 rcases of_decide_eq_true h with h|h
 ·exact .inl ⟨h.1,h.2,by unfold hxd;rw [if_pos h.2]⟩
 ·exact .inr ⟨h.1,h.2,by unfold hxd;rw [if_neg (by omega)]⟩
theorem hxd_lt {b:UInt8} (h:isHx b=true):hxd b<16:=by
 rcases hx_bd h with h|h<;>omega
theorem AllHx.tail {b:UInt8} {r:List UInt8} (h:AllHx (b::r)):AllHx r:=fun x hx=>h x (List.mem_cons_of_mem _ hx)
theorem AllHx.take {L:List UInt8} (h:AllHx L) (k:Nat):AllHx (L.take k):=fun x hx=>h x (List.mem_of_mem_take hx)
theorem AllHx.drop {L:List UInt8} (h:AllHx L) (k:Nat):AllHx (L.drop k):=fun x hx=>h x (List.mem_of_mem_drop hx)
theorem hvl_lt: ∀(L:List UInt8),AllHx L→hvl L<16^L.length
 | [],_=>by show 0<1;omega
 |b::r,h=>by
  have h1:=hvl_lt r h.tail
  have h2:=hxd_lt (h b (List.mem_cons_self ..))
  rw [hvl_cons,hvA_acc,List.length_cons,Nat.pow_succ]
  have h3:hxd b*16^r.length≤15*16^r.length:=Nat.mul_le_mul_right _ (by omega)
  omega
theorem hvA_split (x k:Nat) (Q:List UInt8):hvA (x*16^(Q.take k).length+hvl (Q.take k)) (Q.drop k)=hvA x Q:=by
 rw [←hvA_acc,←hvA_app,List.take_append_drop]
theorem low_hx (b:UInt8) (h0:97≤b.toNat) (h1:b.toNat≤102):bits .or .u8 (b.toNat:Int) 32=(b.toNat:Int):=by
 have: ∀n:Fin 256,97≤n.1→n.1≤102→bits .or .u8 ((n.1:Nat):Int) 32=((n.1:Nat):Int):=by decide+kernel
 exact this ⟨b.toNat,b.toNat_lt⟩ h0 h1
end Go.Ulp
namespace Go.Proofs.YtfphmlmgjhebjaaGreatDoor
open Go.RowKit Go.Ulp
set_option maxHeartbeats 4000000
set_option maxRecDepth 100000
theorem lower_any (c:Int) (w:World):
 Calls Tryz.prog 251 #[.int .u8 c] w fun e w'=>e=.returned (.int .u8 (bits .or .u8 c 32))∧w'=w:=by
 go_enter Tryz.func251,Tryz.ntmps251
 go_wp2_with fail
 go_ret
 exact ⟨rfl,rfl⟩
theorem puIn_any (L:List UInt8) (w:World) (hL:AllHx L) (h1:1≤L.length) (h8:L.length≤8):
 Calls Tryz.prog 230 #[.string (bsOf L),.int .i64 16,.int .i64 64] w fun e w'=>e=.returned (.tuple #[.int .u64 ((hvl L:Nat):Int),.nilIface])∧Below w.heap.size w w':=by
 have hne:(bsOf L).toList.isEmpty=false:=by rw [bs_toList];exact List.isEmpty_eq_false_iff.2 (List.length_pos_iff.1 h1)
 have hcv:=Lib.run_convert_string_bytes (P:=Tryz.prog) w 9 105 5 (bsOf L) (u:=.string) Tryz.underlying9 Tryz.underlying105 Tryz.underlying5
 have hB: ∀j b r,L.drop j=b::r→(Lib.bytesWorld w 5 (bsOf L)).cell? ⟨w.heap.size,j,none⟩=some (.int .u8 (b.toNat:Int)):=fun j b r h=>by
  obtain ⟨q1,-,q3⟩:=drop_cons h
  have h9:=Lib.bytesWorld_cell w 5 (bsOf L) j (by rw [bs_size];exact q1)
  rw [bs_list,q3] at h9
  exact h9
 have yb:=Lib.bytesWorld_below w 5 (bsOf L)
 have hsz:=bs_size L
 obtain ⟨n,hn⟩: ∃n,n=L.length:=⟨_,rfl⟩
 rw [←hn] at hsz
 rw [hsz] at hcv
 obtain ⟨W1,hW1⟩: ∃W1,W1=Lib.bytesWorld w 5 (bsOf L):=⟨_,rfl⟩
 rw [←hW1] at hcv hB yb
 generalize grownCap w n 0 5=gc at *
 obtain ⟨V,hV⟩: ∃V,V=hvl L:=⟨_,rfl⟩
 rw [←hV]
 have HV:=hid hV
 have HNL:=hid hn
 have hn1:1≤n:=by omega
 have hn8:n≤8:=by omega
 obtain ⟨S,hS⟩: ∃S,S=bsOf L:=⟨_,rfl⟩
 rw [←hS] at hne hcv hsz ⊢
 clear hW1 hV hn h1 h8 hS
 have hmv:IntKind.u64.wrap (IntKind.u64.wrap 18446744073709551616-1)=18446744073709551615:=by
  rw [IntKind.wrap_u64,IntKind.wrap_u64]
  decide
 go_enter Tryz.func230,Tryz.ntmps230
 go_wp2_with fail
 go_loopw [12,13,101] (fun s12 s13 s101 wr=> ∃(j:Nat) (a:Int),s12=.bool false∧s13=.int .u64 a∧s101=.int .i64 (j:Int)∧j≤n∧Hid (∃acc:Nat,a=(acc:Int)∧hvA acc (L.drop j)=V∧acc<16^j)∧wr=W1) (fun _ _ s101 _=>n-(intOf s101).toNat)
 case atStart=>exact ⟨0,0,rfl,rfl,rfl,by omega,hid ⟨0,rfl,HV.out.symm,by show 0<1;omega⟩,rfl⟩
 case round=>
  obtain ⟨j,a,rfl,rfl,rfl,hj,hh,rfl⟩:=hrel
  obtain ⟨acc,ha,hacc,hab⟩:=hh.out
  clear hh
  have hNL:=HNL.out
  cases hd:L.drop j with
  |nil=>
   have g1: ¬(j:Int)<(n:Int):=by
    have:=congrArg List.length hd
    rw [List.length_drop,List.length_nil] at this;omega
   rw [hd] at hacc
   have e:acc=V:=hacc
   subst e
   subst ha
   have HY:=hid yb
   clear hacc hd hB hNL hab hmv yb
   go_wp2_with fail
   go_ret2
   exact ⟨rfl,HY.out⟩
  |cons b r=>
   obtain ⟨q1,q2,-⟩:=drop_cons hd
   have hc:=hB j b r hd
   have hx:=hL b (List.mem_of_mem_drop (by rw [hd];exact List.mem_cons_self ..))
   have hbd:=hx_bd hx
   have hlow:=low_hx b
   have hlt:=hxd_lt hx
   rw [hd,hvA_cons] at hacc
   have g1:(j:Int)<(n:Int):=by omega
   have hb8:16^j≤16^7:=Nat.pow_le_pow_right (by omega) (by omega)
   have hab2:acc*16+hxd b<16^(j+1):=by
    rw [Nat.pow_succ]
    have:(acc+1)*16≤16^j*16:=Nat.mul_le_mul_right _ hab
    omega
   obtain ⟨y,hy⟩: ∃y:Nat,y=acc*16+hxd b:=⟨_,rfl⟩
   rw [←hy] at hacc hab2
   have hHN:Hid (∃q:Nat,(y:Int)=(q:Int)∧hvA q (L.drop (j+1))=V∧q<16^(j+1)):=hid ⟨y,rfl,by rw [q2];exact hacc,hab2⟩
   obtain ⟨d,hdd⟩: ∃d:Nat,d=hxd b:=⟨_,rfl⟩
   rw [←hdd] at hbd hlt hy
   obtain ⟨x,hxx⟩: ∃x:Int,x=(b.toNat:Int):=⟨_,rfl⟩
   rw [←hxx] at hc hlow
   have a0:0≤a:=by omega
   have a1:a<268435456:=by
    have:(16:Nat)^7=268435456:=by decide
    omega
   have hym:a*16+(d:Int)=(y:Int):=by omega
   have wA:IntKind.u64.wrap (a*16)=a*16:=by rw [IntKind.wrap_u64];omega
   have wD:IntKind.u64.wrap (a*16+(d:Int))=a*16+(d:Int):=by rw [IntKind.wrap_u64];omega
   have wI:IntKind.i64.wrap ((j:Int)+1)=(j:Int)+1:=IntWalk.i64_in _ (by omega)
   have hjn:j+1≤n:=by omega
   have dcase:(48≤x∧x≤57∧x-48=(d:Int))∨(97≤x∧x≤102∧x-87=(d:Int)):=by omega
   have hlow2:97≤x→x≤102→bits .or .u8 x 32=x:=fun h0 h1=>hlow (by omega) (by omega)
   have d15:(d:Int)<16:=by omega
   have d00:0≤(d:Int):=by omega
   have HYM:=hid hym
   have HA3:=hid hHN
   clear hd hB hacc hy hxx q1 q2 hbd hNL hlow hlt hdd hab hab2 hb8 ha hHN hx hym
   obtain ⟨D,hD⟩: ∃D:Int,D=(d:Int):=⟨_,rfl⟩
   rw [←hD] at wD dcase d15 d00 HYM
   clear hD
   rcases dcase with ⟨x0,x1,x2⟩|⟨x0,x1,x2⟩
   ·have wB:IntKind.u8.wrap (x-48)=D:=by rw [IntKind.wrap_u8];omega
    clear hlow2
    go_wp2_with fail
    go_roundw
    case rel=>exact ⟨j+1,a*16+D,rfl,by first|rfl|(congr 1;omega),by go_num,hjn,hid (by have:=HA3.out.out;rw [HYM.out];exact this),by first|rfl|trivial⟩
    case measure=>simp [intOf];omega
   ·have LW:=hid (show ∀w,Calls Tryz.prog 251 #[.int .u8 x] w fun e w'=>e=.returned (.int .u8 x)∧w'=w from fun w=>by
     have h:=lower_any x w
     rw [hlow2 x0 x1] at h;exact h)
    have wB:IntKind.u8.wrap (x-97)=x-97:=by rw [IntKind.wrap_u8];omega
    have wB2:IntKind.u8.wrap (x-97+10)=D:=by rw [IntKind.wrap_u8];omega
    clear hlow2
    go_wp2_with (go_at_call 251;(with_reducible refine (LW.out _).mono ?_);rintro en w1 ⟨rfl,rfl⟩)
    go_roundw
    case rel=>exact ⟨j+1,a*16+D,rfl,by first|rfl|(congr 1;omega),by go_num,hjn,hid (by have:=HA3.out.out;rw [HYM.out];exact this),by first|rfl|trivial⟩
    case measure=>simp [intOf];omega
theorem pu16_any (L:List UInt8) (w:World) (hL:AllHx L) (h1:1≤L.length) (h8:L.length≤8):
 Calls Tryz.prog 171 #[.string (bsOf L),.int .i64 16,.int .i64 64] w fun e w'=>e=.returned (.tuple #[.int .u64 ((hvl L:Nat):Int),.nilIface])∧Below w.heap.size w w':=by
 have PI:=hid (fun w=>puIn_any L w hL h1 h8)
 generalize hvl L=V at *
 generalize bsOf L=S at *
 go_enter Tryz.func171,Tryz.ntmps171
 go_wp2_with (go_at_call 230;(with_reducible refine (PI.out _).mono ?_);rintro en w1 ⟨rfl,hb1⟩)
 go_ret2
 exact ⟨rfl,hb1⟩
end Go.Proofs.YtfphmlmgjhebjaaGreatDoor
namespace Go.Ulp
open Go.RowKit
def hrT (L:List UInt8):List UInt8:=Lib.trimPrefix (rdT L) [48,120]
def hrO (L:List UInt8):Bool:=Lib.hasPrefix (rdT L) [48,120]&&hxOk (hrT L)
def hrN (L:List UInt8):Bool:=Lib.hasPrefix L [45]
def hrD (L:List UInt8):List UInt8:=tkH (hrT L)++hxPA (hrT L)
def hrP (L:List UInt8):List UInt8:=tkD (hxR4 (hrT L))
def hrK (L:List UInt8):Int:=(if hxDn (hrT L)=true then -((dvl (hrP L):Nat):Int) else ((dvl (hrP L):Nat):Int))-4*((hxPA (hrT L)).length:Int)
theorem tkH_hx (L:List UInt8):AllHx (tkH L):=tw_all isHx L
theorem hxPA_hx (T:List UInt8):AllHx (hxPA T):=by
 unfold hxPA;split
 ·exact tkH_hx _
 ·intro b hb;cases hb
theorem hrD_hx (L:List UInt8):AllHx (hrD L):=fun b hb=>by
 rcases List.mem_append.1 hb with h|h
 ·exact tkH_hx _ b h
 ·exact hxPA_hx _ b h
theorem tkH_len (L:List UInt8):(tkH L).length≤L.length:=by have:=dpH_len L;omega
theorem hxPA_len (T:List UInt8):(tkH T).length+(hxPA T).length≤T.length:=by
 have h1:=dpH_len T
 unfold hxPA;split
 ·have:=tkH_len ((dpH T).drop 1);rw [List.length_drop] at this;omega
 ·rw [List.length_nil];omega
theorem hrT_len (L:List UInt8):(hrT L).length≤L.length:=Nat.le_trans (trimPrefix_len _ _) (trimPrefix_len L [45])
theorem hrD_len (L:List UInt8):(hrD L).length≤L.length:=by
 unfold hrD;rw [List.length_append]
 exact Nat.le_trans (hxPA_len _) (hrT_len L)
theorem hrP_lt (L:List UInt8) (h:hrO L=true):dvl (hrP L)<100000∧1≤(hrP L).length∧(hrP L).length≤5:=by
 unfold hrO hxOk at h
 simp only [Bool.and_eq_true,Bool.not_eq_true',decide_eq_true_eq] at h
 obtain ⟨-,⟨⟨⟨-,h3⟩,h4⟩,-⟩⟩:=h
 have h5:=dvl_lt (hrP L) (all_tk _)
 have h6:10^(hrP L).length≤10^5:=Nat.pow_le_pow_right (by omega) h4
 have h7:=List.isEmpty_eq_false_iff.1 h3
 have h8:0<(hrP L).length:=List.length_pos_iff.2 h7
 have h9:(10:Nat)^5=100000:=by decide
 exact ⟨by omega,h8,h4⟩
theorem hrK_bd (L:List UInt8) (hl:L.length≤1000) (h:hrO L=true): -110000≤hrK L∧hrK L≤110000:=by
 obtain ⟨h1,-,-⟩:=hrP_lt L h
 have h2:=hxPA_len (hrT L)
 have h3:=hrT_len L
 unfold hrK;split<;>omega
theorem hvl_bl (L:List UInt8) (h:AllHx L) (hl:L.length≤1000):bl (hvl L)≤4000:=by
 refine (bl_le _ _).2 (Nat.lt_of_lt_of_le (hvl_lt L h) ?_)
 obtain ⟨T,hT⟩: ∃T:Nat,T=4000:=⟨_,rfl⟩
 rw [←hT,show (16:Nat)=2^4 from rfl,←Nat.pow_mul]
 exact Nat.pow_le_pow_right (by omega) (by omega)
end Go.Ulp
namespace Go.Proofs.YtfphmlmgjhebjaaGreatDoor
open Go.RowKit Go.Ulp
set_option maxHeartbeats 4000000
set_option maxRecDepth 100000
theorem cutP_any (L:List UInt8) (p:List UInt8) (w:World):Calls Tryz.prog 64 #[.string (bsOf L),.string (bsOf p)] w fun e w'=>e=.returned (.tuple #[.string (bsOf (Lib.trimPrefix L p)),.bool (Lib.hasPrefix L p)])∧w=w':=by
 have h:=Tryz.strings_CutPrefix (bsOf L) (bsOf p) w
 rw [bs_list,bs_list] at h
 refine h.mono ?_
 rintro e w1 ⟨rfl,rfl⟩
 exact ⟨rfl,rfl⟩
theorem hasP_any (L:List UInt8) (p:List UInt8) (w:World):Calls Tryz.prog 71 #[.string (bsOf L),.string (bsOf p)] w fun e w'=>e=.returned (.bool (Lib.hasPrefix L p))∧w=w':=by
 have h:=Tryz.strings_HasPrefix (bsOf L) (bsOf p) w
 rw [bs_list,bs_list] at h
 refine h.mono ?_
 rintro e w1 ⟨rfl,rfl⟩
 exact ⟨rfl,rfl⟩
theorem hx_r4 (R3:List UInt8) (dn pl:Bool) (h1:Lib.hasPrefix R3 [45]=dn) (h2:Lib.hasPrefix R3 [43]=pl):(dn||pl)=true→1≤R3.length:=fun h=>by
 rcases Bool.or_eq_true _ _ |>.mp h with h3|h3
 ·rw [←h1] at h3;exact hp_len h3
 ·rw [←h2] at h3;exact hp_len h3
theorem hparse_core (L T0 T W Y Y1 PA R2 R3 X4 PW RX A:List UInt8) (neg ok pt p dn pl sgn:Bool) (v0:Bool) (v1:List UInt8) (v2:Int) (v3:Bool) (w:World) (hl:L.length≤1000)
 (eT0:rdT L=T0) (en:Lib.hasPrefix L [45]=neg) (eT:Lib.trimPrefix T0 [48,120]=T) (eok:Lib.hasPrefix T0 [48,120]=ok) (eW:tkH T=W) (eY:dpH T=Y) (ept:Lib.hasPrefix Y [46]=pt) (eY1:Lib.trimPrefix Y [46]=Y1)
 (ePA:hxPA T=PA) (eR2:hxR2 T=R2) (ep:Lib.hasPrefix R2 [112]=p) (eR3:Lib.trimPrefix R2 [112]=R3) (edn:Lib.hasPrefix R3 [45]=dn) (epl:Lib.hasPrefix R3 [43]=pl) (esg:sgn=(dn||pl)) (eX4:hxR4 T=X4) (ePW:tkD X4=PW) (eRX:dpD X4=RX) (eA:W++PA=A)
 (hno:(ok=false∨p=false∨A= []∨PW= []∨5<PW.length∨RX≠ [])→v0=false∧v1= []∧v2=0∧v3=false)
 (hyes:ok=true→p=true→A≠ []→PW≠ []→PW.length≤5→RX= []→v0=neg∧v1=A∧v2=(if dn=true then -((dvl PW:Nat):Int) else ((dvl PW:Nat):Int))-4*(PA.length:Int)∧v3=true):
 Calls Tryz.prog 92 #[.string (bsOf L)] w fun e w'=>e=.returned (.tuple #[.bool v0,.string (bsOf v1),.int .i64 v2,.bool v3])∧Below w.heap.size w w':=by
 have lT0:T0.length≤1000:=by rw [←eT0];exact Nat.le_trans (trimPrefix_len L [45]) hl
 have lT:T.length≤1000:=by rw [←eT];exact Nat.le_trans (trimPrefix_len _ _) lT0
 have lW:W.length+PA.length≤1000:=by rw [←eW,←ePA];exact Nat.le_trans (hxPA_len T) lT
 have lY:Y.length≤1000:=by have:=dpH_len T;rw [eY] at this;omega
 have lY1:Y1.length≤1000:=by rw [←eY1];exact Nat.le_trans (trimPrefix_len _ _) lY
 have hpt:pt=true→tkH Y1=PA∧dpH Y1=R2:=fun h=>by
  have e1:Y1=Y.drop 1:=by rw [←eY1,trimPrefix_one,if_pos (by rw [ept,h])]
  have e2:hxPt T=true:=by unfold hxPt;rw [eY,ept,h]
  rw [e1,←ePA,←eR2]
  unfold hxPA hxR2
  rw [e2,if_pos rfl,if_pos rfl,eY]
  exact ⟨rfl,rfl⟩
 have hpf:pt=false→PA= []∧R2=Y:=fun h=>by
  have e2:hxPt T=false:=by unfold hxPt;rw [eY,ept,h]
  rw [←ePA,←eR2]
  unfold hxPA hxR2
  rw [e2,if_neg (by decide),if_neg (by decide)]
  exact ⟨rfl,eY⟩
 have lR2:R2.length≤1000:=by
  cases hp:pt
  ·rw [(hpf hp).2];exact lY
  ·have:=dpH_len Y1;rw [(hpt hp).2] at this;omega
 have lR3:R3.length≤1000:=by rw [←eR3];exact Nat.le_trans (trimPrefix_len _ _) lR2
 have eR3':hxR3 T=R3:=by unfold hxR3;rw [eR2,eR3]
 have eX:(sgn=true→X4=R3.drop 1)∧(sgn=false→X4=R3):=by
  rw [←eX4]
  unfold hxR4 hxSg hxDn
  rw [eR3',edn,epl,←esg]
  exact ⟨fun h=>by rw [h,if_pos rfl],fun h=>by rw [h,if_neg (by decide)]⟩
 have hr1:sgn=true→1≤R3.length:=fun h=>hx_r4 R3 dn pl edn epl (by rw [←esg];exact h)
 have lX4:X4.length≤1000:=by
  cases hs:sgn
  ·rw [eX.2 hs];exact lR3
  ·rw [eX.1 hs,List.length_drop];omega
 have hPWd:AllDg PW:=by rw [←ePW];exact all_tk X4
 have C1:=hid (show ∀w,Calls Tryz.prog 64 #[.string (bsOf L),.string ⟨#[45]⟩] w fun e w'=>e=.returned (.tuple #[.string (bsOf T0),.bool neg])∧w=w' from fun w=>by
  have h:=cutP_any L [45] w
  rw [en] at h;rw [←eT0];exact h)
 have C2:=hid (show ∀w,Calls Tryz.prog 64 #[.string (bsOf T0),.string ⟨#[48,120]⟩] w fun e w'=>e=.returned (.tuple #[.string (bsOf T),.bool ok])∧w=w' from fun w=>by
  have h:=cutP_any T0 [48,120] w
  rw [eT,eok] at h;exact h)
 have C3:=hid (show ∀w,Calls Tryz.prog 64 #[.string (bsOf Y),.string ⟨#[46]⟩] w fun e w'=>e=.returned (.tuple #[.string (bsOf Y1),.bool pt])∧w=w' from fun w=>by
  have h:=cutP_any Y [46] w
  rw [eY1,ept] at h;exact h)
 have C4:=hid (show ∀w,Calls Tryz.prog 64 #[.string (bsOf R2),.string ⟨#[112]⟩] w fun e w'=>e=.returned (.tuple #[.string (bsOf R3),.bool p])∧w=w' from fun w=>by
  have h:=cutP_any R2 [112] w
  rw [eR3,ep] at h;exact h)
 have H1:=hid (show ∀w,Calls Tryz.prog 71 #[.string (bsOf R3),.string ⟨#[45]⟩] w fun e w'=>e=.returned (.bool dn)∧w=w' from fun w=>by
  have h:=hasP_any R3 [45] w
  rw [edn] at h;exact h)
 have H2:=hid (show ∀w,Calls Tryz.prog 71 #[.string (bsOf R3),.string ⟨#[43]⟩] w fun e w'=>e=.returned (.bool pl)∧w=w' from fun w=>by
  have h:=hasP_any R3 [43] w
  rw [epl] at h;exact h)
 have K1:=hid (fun w=>takeHx_any T w (by omega))
 rw [eW,eY] at K1
 have K2:=hid (fun w=>takeHx_any Y1 w (by omega))
 have K3:=hid (fun w=>takeDg_any X4 w (by omega))
 rw [ePW,eRX] at K3
 have SD: ∀w,(Instr.slice 9 (.string ⟨#[48,49,50,51,52,53,54,55,56,57,97,98,99,100,101,102]⟩) none (some (.int .i64 10)) none).run Tryz.prog w=.ok (.string ⟨#[48,49,50,51,52,53,54,55,56,57]⟩) w:=fun w=>
  slice_to (P:=Tryz.prog) Tryz.underlying9 [48,49,50,51,52,53,54,55,56,57,97,98,99,100,101,102] 10 (by omega) (by simp) w
 have S1:sgn=true→ ∀w,(Instr.slice 9 (.string (bsOf R3)) (some (.int .i64 1)) none none).run Tryz.prog w=.ok (.string (bsOf X4)) w:=fun h w=>by
  have h9:=slice_from (P:=Tryz.prog) Tryz.underlying9 R3 1 (by omega) (by have:=hr1 h;omega) w
  rw [h9,eX.1 h];rfl
 have S2:sgn=false→bsOf R3=bsOf X4:=fun h=>by rw [eX.2 h]
 have ka:=add_bs (P:=Tryz.prog) W PA (by omega)
 rw [eA] at ka
 have hAe:(bsOf A).toList.isEmpty=A.isEmpty:=by rw [bs_toList]
 have hPe:(bsOf PW).toList.isEmpty=PW.isEmpty:=by rw [bs_toList]
 have hRe:(bsOf RX).toList.isEmpty=RX.isEmpty:=by rw [bs_toList]
 have hPz:=bs_size PW
 have hPAz:=bs_size PA
 obtain ⟨d,hd⟩: ∃d,d=dvl PW:=⟨_,rfl⟩
 have AT:=hid (show PW≠ []→PW.length≤5→ ∀w,Calls Tryz.prog 170 #[.string (bsOf PW)] w fun e w'=>e=.returned (.tuple #[.int .i64 (d:Int),.nilIface])∧Below w.heap.size w w' from fun h0 h5 w=>by
  refine (Tryz.strconv_Atoi (bsOf PW) (d:Int) (by rw [bs_size];omega) (by rw [bs_list,hd];exact atoi_dv PW hPWd h0) w).mono ?_
  rintro e w1 ⟨rfl,t,rfl⟩
  exact ⟨rfl,Lib.bytesWorld_below _ _ _⟩)
 have hdb:PW.length≤5→d<100000:=fun h=>by
  have h1:=dvl_lt PW hPWd
  have h2:10^PW.length≤10^5:=Nat.pow_le_pow_right (by omega) h
  have h3:(10:Nat)^5=100000:=by decide
  omega
 rw [←hd] at hyes
 have HD:=hid hdb
 have HY:=hid hyes
 have HN:=hid hno
 have HS:=hid esg
 obtain ⟨n,hn⟩: ∃n,n=PW.length:=⟨_,rfl⟩
 obtain ⟨m,hm⟩: ∃n,n=PA.length:=⟨_,rfl⟩
 rw [←hn] at hPz
 rw [←hm] at hPAz
 have HNn:=hid hn
 have HM:=hid (show m≤1000∧m=PA.length from ⟨by omega,hm⟩)
 clear eT0 en eT eok eW eY ept eY1 ePA eR2 ep eR3 edn epl esg eX4 ePW eRX eA hno hyes lT0 lT lW lY lY1 lR2 lR3 eR3' eX hr1 lX4 hPWd hdb hd hn hm
 go_enter Tryz.func92,Tryz.ntmps92
 go_upto_if 39 with (first
  |(go_at_call 64;first|((with_reducible refine (C1.out _).mono ?_);rintro en w1 ⟨rfl,rfl⟩)|((with_reducible refine (C2.out _).mono ?_);rintro en w1 ⟨rfl,rfl⟩)|((with_reducible refine (C3.out _).mono ?_);rintro en w1 ⟨rfl,rfl⟩))
  |(go_at_call 169;(with_reducible refine (K1.out _).mono ?_);rintro en w1 ⟨rfl,hb1⟩))
 obtain ⟨W1,hW1⟩: ∃W,W=w1:=⟨_,rfl⟩
 subst hW1
 go_cut [6,10] (fun s6 s10 wx=>s6=.string (bsOf R2)∧s10=.string (bsOf PA)∧Below W1.heap.size W1 wx)
 case first=>as_aux_lemma=>
  clear C1 C2 C4 H1 H2 K1 K3 HY HN HD AT ka
  cases pt
  ·obtain ⟨e1,e2⟩:=hpf rfl
   subst e1
   subst e2
   clear hpf hpt
   go_wp2_with fail
   go_meet
   exact ⟨rfl,rfl,Below.refl _ _⟩
  ·obtain ⟨e1,e2⟩:=hpt rfl
   rw [e1,e2] at K2
   clear hpf hpt e1 e2
   go_wp2_with (go_at_call 169;(with_reducible refine (K2.out _).mono ?_);rintro en w2 ⟨rfl,hb2⟩)
   go_meet
   exact ⟨rfl,rfl,hb2⟩
 case rest=>
 obtain ⟨rfl,rfl,hb2⟩:=hcut
 obtain ⟨W2,hW2⟩: ∃W,W=wc:=⟨_,rfl⟩
 subst hW2
 clear C1 C2 C3 K1 K2 hpf hpt
 go_upto_region 10 with (first
  |(go_at_call 64;(with_reducible refine (C4.out _).mono ?_);rintro en w1 ⟨rfl,rfl⟩)
  |(go_at_call 71;(with_reducible refine (H1.out _).mono ?_);rintro en w1 ⟨rfl,rfl⟩))
 go_cut [56] (fun s56 wx=>s56=.bool sgn∧wx=W2)
 case first=>as_aux_lemma=>
  clear C4 H1 K3 HY HN HD AT ka S1 S2
  have HS:=HS.out
  cases dn
  ·have HS9:=hid (show sgn=pl by rw [HS];rfl)
   clear HS
   go_wp2_with (go_at_call 71;(with_reducible refine (H2.out _).mono ?_);rintro en w1 ⟨rfl,rfl⟩)
   go_meet
   exact ⟨by rw [HS9.out],rfl⟩
  ·have HS9:=hid (show sgn=true by rw [HS];rfl)
   clear HS
   go_wp2_with fail
   go_meet
   exact ⟨by rw [HS9.out],rfl⟩
 case rest=>
 obtain ⟨rfl,hwc⟩:=hcut
 subst hwc
 clear C4 H1 H2
 go_upto_if 56 with fail
 go_cut [6] (fun s6 wx=>s6=.string (bsOf X4)∧wx=wc)
 case first=>as_aux_lemma=>
  clear K3 HY HN HD AT ka HS
  cases sgn
  ·have e1:=hid (S2 rfl)
   clear S1 S2
   go_wp2_with fail
   go_meet
   exact ⟨by rw [e1.out],rfl⟩
  ·have e1:=S1 rfl
   clear S1 S2
   go_wp2_with fail
   go_meet
   exact ⟨rfl,rfl⟩
 case rest=>
 obtain ⟨rfl,hwc⟩:=hcut
 subst hwc
 clear S1 S2 HS
 go_upto_region 13 with (go_at_call 169;(with_reducible refine (K3.out _).mono ?_);rintro en w3 ⟨rfl,hb3⟩)
 have hb:=below_trans (below_trans hb1 hb2) hb3
 obtain ⟨W3,hW3⟩: ∃W,W=w3:=⟨_,rfl⟩
 subst hW3
 clear hb1 hb2 hb3 K3 SD
 cases ok
 ·obtain ⟨rfl,rfl,rfl,rfl⟩:=HN.out (.inl rfl)
  clear HN HY HD AT HM HNn
  go_wp2_with fail
  (try simp only [Exit.inBlock,Exit.then]);refine bodyPost_ret (ret4 rfl _ _ _) rfl ?_
  exact ⟨rfl,hb⟩
 cases p
 ·obtain ⟨rfl,rfl,rfl,rfl⟩:=HN.out (.inr (.inl rfl))
  clear HN HY HD AT HM HNn
  go_wp2_with fail
  (try simp only [Exit.inBlock,Exit.then]);refine bodyPost_ret (ret4 rfl _ _ _) rfl ?_
  exact ⟨rfl,hb⟩
 by_cases hA:A= []
 ·have hAe2:(bsOf A).toList.isEmpty=true:=by rw [hAe,hA];rfl
  have hA9:=hid hA
  clear hAe hA
  obtain ⟨rfl,rfl,rfl,rfl⟩:=HN.out (.inr (.inr (.inl hA9.out)))
  clear HN HY HD AT HM HNn
  go_wp2_with fail
  (try simp only [Exit.inBlock,Exit.then]);refine bodyPost_ret (ret4 rfl _ _ _) rfl ?_
  exact ⟨rfl,hb⟩
 have hAe2:(bsOf A).toList.isEmpty=false:=by rw [hAe];exact List.isEmpty_eq_false_iff.2 hA
 have hA9:=hid hA
 clear hAe hA
 by_cases hP:PW= []
 ·have hPe2:(bsOf PW).toList.isEmpty=true:=by rw [hPe,hP];rfl
  have hP9:=hid hP
  clear hPe hP
  obtain ⟨rfl,rfl,rfl,rfl⟩:=HN.out (.inr (.inr (.inr (.inl hP9.out))))
  clear HN HY HD AT HM HNn
  go_wp2_with fail
  (try simp only [Exit.inBlock,Exit.then]);refine bodyPost_ret (ret4 rfl _ _ _) rfl ?_
  exact ⟨rfl,hb⟩
 have hPe2:(bsOf PW).toList.isEmpty=false:=by rw [hPe];exact List.isEmpty_eq_false_iff.2 hP
 have hP9:=hid hP
 clear hPe hP
 by_cases h5:5<n
 ·have h59:=hid (show 5<PW.length by rw [←HNn.out];exact h5)
  obtain ⟨rfl,rfl,rfl,rfl⟩:=HN.out (.inr (.inr (.inr (.inr (.inl h59.out)))))
  clear HN HY HD AT HM HNn
  go_wp2_with fail
  (try simp only [Exit.inBlock,Exit.then]);refine bodyPost_ret (ret4 rfl _ _ _) rfl ?_
  exact ⟨rfl,hb⟩
 have h59:=hid (show PW.length≤5 by have:=HNn.out;omega)
 by_cases hR:RX= []
 ·have hRe2:(bsOf RX).toList.isEmpty=true:=by rw [hRe,hR];rfl
  obtain ⟨rfl,rfl,e2,rfl⟩:=HY.out rfl rfl hA9.out hP9.out h59.out hR
  have AT2:=hid (AT.out hP9.out h59.out)
  have hd9:=HD.out h59.out
  have hm9:=HM.out
  rw [←hm9.2] at e2
  replace hm9:=hm9.1
  clear hRe hR HY HN HD AT HM HNn hA9 hP9 h59
  have w1:IntKind.i64.wrap (-(d:Int))= -(d:Int):=IntWalk.i64_in _ (by omega)
  have w2:IntKind.i64.wrap (4*(m:Int))=4*(m:Int):=IntWalk.i64_in _ (by omega)
  have w3:IntKind.i64.wrap ((d:Int)-4*(m:Int))=(d:Int)-4*(m:Int):=IntWalk.i64_in _ (by omega)
  have w4:IntKind.i64.wrap (-(d:Int)-4*(m:Int))= -(d:Int)-4*(m:Int):=IntWalk.i64_in _ (by omega)
  cases dn
  ·rw [if_neg (by decide)] at e2
   subst e2
   go_wp2_with (go_at_call 170;(with_reducible refine (AT2.out _).mono ?_);rintro en w5 ⟨rfl,hb5⟩)
   (try simp only [Exit.inBlock,Exit.then]);refine bodyPost_ret (ret4 rfl _ _ _) rfl ?_
   exact ⟨rfl,below_trans hb hb5⟩
  ·rw [if_pos rfl] at e2
   subst e2
   go_wp2_with (go_at_call 170;(with_reducible refine (AT2.out _).mono ?_);rintro en w5 ⟨rfl,hb5⟩)
   (try simp only [Exit.inBlock,Exit.then]);refine bodyPost_ret (ret4 rfl _ _ _) rfl ?_
   exact ⟨rfl,below_trans hb hb5⟩
 ·have hRe2:(bsOf RX).toList.isEmpty=false:=by rw [hRe];exact List.isEmpty_eq_false_iff.2 hR
  have hR9:=hid hR
  clear hRe hR
  obtain ⟨rfl,rfl,rfl,rfl⟩:=HN.out (.inr (.inr (.inr (.inr (.inr hR9.out)))))
  clear HN HY HD AT HM HNn
  go_wp2_with fail
  (try simp only [Exit.inBlock,Exit.then]);refine bodyPost_ret (ret4 rfl _ _ _) rfl ?_
  exact ⟨rfl,hb⟩
theorem hrO_yes {L:List UInt8} (h:hrO L=true):Lib.hasPrefix (rdT L) [48,120]=true∧Lib.hasPrefix (hxR2 (hrT L)) [112]=true∧tkH (hrT L)++hxPA (hrT L)≠ []∧tkD (hxR4 (hrT L))≠ []∧(tkD (hxR4 (hrT L))).length≤5∧dpD (hxR4 (hrT L))= []:=by
 unfold hrO hxOk at h
 simp only [Bool.and_eq_true,Bool.not_eq_true',decide_eq_true_eq,List.isEmpty_iff,List.isEmpty_eq_false_iff] at h
 obtain ⟨h1,⟨⟨⟨h2,h3⟩,h4⟩,h5⟩,h6⟩:=h
 exact ⟨h1,h2,h3,h4,h5,h6⟩
theorem hparse_ok (L:List UInt8) (w:World) (hl:L.length≤1000) (h:hrO L=true):
 Calls Tryz.prog 92 #[.string (bsOf L)] w fun e w'=>e=.returned (.tuple #[.bool (hrN L),.string (bsOf (hrD L)),.int .i64 (hrK L),.bool true])∧Below w.heap.size w w':=by
 obtain ⟨h1,h2,h3,h4,h5,h6⟩:=hrO_yes h
 exact hparse_core L _ (hrT L) _ _ _ _ _ _ _ _ _ _ _ _ _ _ (hxDn (hrT L)) _ _ _ _ _ _ w hl rfl rfl rfl rfl rfl rfl rfl rfl rfl rfl rfl rfl rfl rfl rfl rfl rfl rfl rfl
  (fun h9=>by
   rcases h9 with h9|h9|h9|h9|h9|h9
   ·rw [h1] at h9;cases h9
   ·rw [h2] at h9;cases h9
   ·exact absurd h9 h3
   ·exact absurd h9 h4
   ·omega
   ·exact absurd h6 h9)
  (fun _ _ _ _ _ _=>⟨rfl,rfl,rfl,rfl⟩)
end Go.Proofs.YtfphmlmgjhebjaaGreatDoor
namespace Go.Ulp
open Go.RowKit
def hxc (d:Nat):UInt8:=if d<10 then UInt8.ofNat (48+d) else UInt8.ofNat (87+d)
def hxD:Nat→Nat→List UInt8
 |0,_=> []
 |n+1,m=>hxc (m/16^n%16)::hxD n m
theorem hxD_len: ∀n m,(hxD n m).length=n
 |0,_=>rfl
 |n+1,m=>by show (hxD n m).length+1=n+1;rw [hxD_len n m]
theorem hxD_take: ∀(n m i:Nat),i<n→(hxD n m).take (n-i)=(hxD n m).take (n-(i+1))++ [hxc (m/16^i%16)]
 |0,_,_,h=>by omega
 |n+1,m,i,h=>by
  by_cases e:i=n
  ·subst e
   rw [show i+1-i=1 by omega,show i+1-(i+1)=0 by omega]
   rfl
  ·have ih:=hxD_take n m i (by omega)
   rw [show n+1-i=(n-i)+1 by omega,show n+1-(i+1)=(n-(i+1))+1 by omega]
   show hxc _::(hxD n m).take (n-i)=(hxc _::(hxD n m).take (n-(i+1)))++_
   rw [ih];rfl
theorem getD_val (B:Nat) (hB:0<B) (L:List Nat) (hL:AllLt B L) (j:Nat):L.getD j 0=val B L/B^j%B:=by
 have hp:0<B^j:=Nat.pow_pos hB
 by_cases h:j<L.length
 ·have h1:=val_take_drop B L j (by omega)
  have h2:=val_lt B (L.take j) (fun d h=>hL d (List.mem_of_mem_take h))
  rw [List.length_take,Nat.min_eq_left (by omega)] at h2
  have h3:=val_drop B L j h
  have h4:=hL.getD hB j
  rw [h1,Nat.add_mul_div_left _ _ hp,Nat.div_eq_of_lt h2,Nat.zero_add,h3,Nat.add_mul_mod_self_left,Nat.mod_eq_of_lt h4]
 ·rw [getD_out _ _ (by omega)]
  have h1:=val_lt B L hL
  have h2:B^L.length≤B^j:=Nat.pow_le_pow_right hB (by omega)
  rw [Nat.div_eq_of_lt (by omega),Nat.zero_mod]
theorem limb_digit (m i:Nat):(limbs m).getD (i/8) 0/2^(4*(i%8))%16=m/16^i%16:=by
 rw [getD_val 4294967296 (by omega) (limbs m) (limbs_lim m),show val 4294967296 (limbs m)=m from lval_limbs m]
 obtain ⟨a,ha⟩: ∃a,a=i/8:=⟨_,rfl⟩
 obtain ⟨b,hb⟩: ∃b,b=i%8:=⟨_,rfl⟩
 have hi:i=8*a+b:=by omega
 have hb8:b<8:=by omega
 rw [←ha,←hb]
 have e1:(4294967296:Nat)^a=16^(8*a):=by rw [show (4294967296:Nat)=16^8 by decide,←Nat.pow_mul]
 have e2:(2:Nat)^(4*b)=16^b:=by rw [show (16:Nat)=2^4 by decide,←Nat.pow_mul]
 rw [e1,e2,hi,Nat.pow_add,←Nat.div_div_eq_div_mul]
 generalize m/16^(8*a)=y
 have e3:(4294967296:Nat)=16^b*16^(8-b):=by rw [←Nat.pow_add,show b+(8-b)=8 by omega]
 obtain ⟨c,hc⟩: ∃c,8-b=c+1:=⟨8-b-1,by omega⟩
 rw [e3,Nat.mod_mul_right_div_self,hc,Nat.pow_succ,Nat.mul_comm,Nat.mod_mul_right_mod]
theorem hx_enc: ∀d:Nat,d<16→Utf8.encode ((hxc d).toNat:Int)=⟨#[hxc d]⟩:=by decide
theorem hx_get: ∀(d:Nat) (h:d<16),((ByteArray.mk #[48,49,50,51,52,53,54,55,56,57,97,98,99,100,101,102])[d]'h)=hxc d:=by decide
def hxP (p:Int):List UInt8:=112::(if p<0 then 45 else 43)::decD p.natAbs
def hxT (neg:Bool) (n m:Nat) (p:Int):List UInt8:=dsh neg (48::120::49::((if n=0 then [] else 46::hxD n m)++hxP p))
def hxZ (neg:Bool) (n:Nat):List UInt8:=dsh neg (48::120::48::((if n=0 then [] else 46::List.replicate n 48)++ [112,43,48]))
end Go.Ulp
namespace Go.Proofs.YtfphmlmgjhebjaaGreatDoor
open Go.RowKit Go.Ulp
set_option maxHeartbeats 2000000
set_option maxRecDepth 100000
theorem writeZ_any (x:Int) (h0:0≤x) (h1:x<18446744073709551616) (v:Value) (D:Dy) (n:Nat) (w:World) (hv:VD w D v) (hD:D.1=0) (hn:n≤1000):
 Calls Tryz.prog 97 #[.int .u64 x,v,.int .i64 (n:Int)] w fun e w'=>e=.returned (.string (bsOf (hxZ (negB x) n)))∧Below w.heap.size w w':=by
 obtain ⟨am,cm,rfl,hN⟩:=hv
 have hl0:(limbs D.1.natAbs).length=0:=by rw [hD];rfl
 rw [hl0]
 have RP:=hid (show ∀w,Calls Tryz.prog 70 #[.string (bsOf [48]),.int .i64 (n:Int)] w fun e w'=>e=.returned (.string (bsOf (List.replicate n 48)))∧Below w.heap.size w w' from fun w=>repeat_any 48 n (by omega) w)
 have zQ:QL 67 (w.alloc (.cells #[.bool (decide (D.1<0)),.slice am 0 cm,.int .i64 D.2] 67)) w.heap.size (decide (D.1<0)) (.slice am 0 cm) D.2:=QL.made rfl
 have yb0:=below_alloc w (.cells #[.bool (decide (D.1<0)),.slice am 0 cm,.int .i64 D.2] 67)
 obtain ⟨⟨j0,j1,-⟩,j2,-⟩:=zQ
 clear hD hN
 generalize decide (D.1<0)=neg at *
 obtain ⟨HH,hHH⟩: ∃H:List UInt8,H=if negB x=true then [45,48,120] else [48,120]:=⟨_,rfl⟩
 have hHl:HH.length≤3:=by rw [hHH];split<;>simp
 have a1:=add_bs (P:=Tryz.prog) HH [48] (by simp;omega)
 have a2:=add_bs (P:=Tryz.prog) [46] (List.replicate n 48) (by simp;omega)
 have a3:=add_bs (P:=Tryz.prog) (HH++ [48]) (46::List.replicate n 48) (by simp;omega)
 have a4:=add_bs (P:=Tryz.prog) (HH++ [48]++(46::List.replicate n 48)) [112,43,48] (by simp;omega)
 have a5:=add_bs (P:=Tryz.prog) (HH++ [48]) [112,43,48] (by simp;omega)
 have b1:(ByteArray.mk #[48])=bsOf [48]:=rfl
 have b2:(ByteArray.mk #[46])=bsOf [46]:=rfl
 have b3:(ByteArray.mk #[112,43,48])=bsOf [112,43,48]:=rfl
 have b4:(ByteArray.mk #[48,120])=bsOf [48,120]:=rfl
 have b5:(ByteArray.mk #[45,48,120])=bsOf [45,48,120]:=rfl
 have HR:=hid (show hxZ (negB x) n=if n=0 then HH++ [48]++ [112,43,48] else HH++ [48]++(46::List.replicate n 48)++ [112,43,48] by
  rw [hHH];unfold hxZ dsh
  cases negB x<;>by_cases h:n=0<;>simp [h])
 obtain ⟨RZ,hRZ⟩: ∃R,R=hxZ (negB x) n:=⟨_,rfl⟩
 rw [←hRZ] at HR ⊢
 generalize HH++ [48]++(46::List.replicate n 48)++ [112,43,48]=T4 at *
 generalize HH++ [48]++(46::List.replicate n 48)=T3 at *
 simp only [List.cons_append,List.nil_append] at a2
 generalize HH++ [48]++ [112,43,48]=T5 at *
 generalize HH++ [48]=T1 at *
 have HS:=hid (show (9223372036854775808≤x→bsOf HH=bsOf [45,48,120])∧(x<9223372036854775808→bsOf HH=bsOf [48,120]) from ⟨fun h=>by rw [hHH,if_pos (show negB x=true from decide_eq_true h)],fun h=>by rw [hHH,if_neg (by unfold negB;simp;omega)]⟩)
 clear hHH hRZ
 go_enter Tryz.func97,Tryz.ntmps97
 by_cases hx:9223372036854775808≤x
 ·have hs:x/9223372036854775808=1:=by omega
  have hb:=(HS.out.1 hx).symm
  by_cases hn0:n=0
  ·have hn1: ¬0<(n:Int):=by omega
   have hn2:decide (0<n)=false:=decide_eq_false (by omega)
   have HRR:=hid (show RZ=T5 by rw [HR.out,if_pos hn0])
   clear HR hn0 HS
   go_wp2_with fail
   go_ret
   exact ⟨by rw [HRR.out];rfl,yb0⟩
  ·have hn1:0<(n:Int):=by omega
   have hn2:decide (0<n)=true:=decide_eq_true (by omega)
   have HRR:=hid (show RZ=T4 by rw [HR.out,if_neg hn0])
   clear HR hn0 HS
   go_wp2_with (go_at_call 70;(with_reducible refine (RP.out _).mono ?_);rintro en w1 ⟨rfl,hb1⟩)
   go_ret
   exact ⟨by rw [HRR.out];rfl,below_trans yb0 hb1⟩
 ·have hs:x/9223372036854775808=0:=by omega
  have hb:=(HS.out.2 (by omega)).symm
  by_cases hn0:n=0
  ·have hn1: ¬0<(n:Int):=by omega
   have hn2:decide (0<n)=false:=decide_eq_false (by omega)
   have HRR:=hid (show RZ=T5 by rw [HR.out,if_pos hn0])
   clear HR hn0 HS
   go_wp2_with fail
   go_ret
   exact ⟨by rw [HRR.out];rfl,yb0⟩
  ·have hn1:0<(n:Int):=by omega
   have hn2:decide (0<n)=true:=decide_eq_true (by omega)
   have HRR:=hid (show RZ=T4 by rw [HR.out,if_neg hn0])
   clear HR hn0 HS
   go_wp2_with (go_at_call 70;(with_reducible refine (RP.out _).mono ?_);rintro en w1 ⟨rfl,hb1⟩)
   go_ret
   exact ⟨by rw [HRR.out];rfl,below_trans yb0 hb1⟩
theorem write_any (x:Int) (h0:0≤x) (h1:x<18446744073709551616) (v:Value) (D:Dy) (n:Nat) (p:Int) (s m:Nat) (w:World) (hv:VD w D v) (hD:D.1≠0) (hl:(limbs D.1.natAbs).length≤100) (he: -20000≤D.2∧D.2≤20000) (hn:n≤1000) (hp:p=(bl D.1.natAbs:Int)+D.2-1) (hs:(s:Int)=D.2-p+4*n) (hm:m=D.1.natAbs*2^s) (hT10:Tab10 w):
 Calls Tryz.prog 97 #[.int .u64 x,v,.int .i64 (n:Int)] w fun e w'=>e=.returned (.string (bsOf (hxT (negB x) n m p)))∧Below w.heap.size w w':=by
 obtain ⟨am,cm,rfl,hN⟩:=hv
 obtain ⟨M,hM⟩: ∃M,M=D.1.natAbs:=⟨_,rfl⟩
 have hM0:0<M:=by omega
 rw [←hM] at hN hl hp hm ⊢
 have hbl:=bl_len2 M 100 hl
 have LN:=hid (fun w h=>natLen_any am cm M w h (by omega))
 have LE:=hid (show ∀w,Ns .u32 w am cm (limbs M)→Calls Tryz.prog 172 #[.slice am (limbs M).length cm,.int .i64 (s:Int)] w fun e w'=>RetN w m e w' from fun w h=>by
  rw [hm];exact leftN_any am cm M s w h (by omega) (by omega))
 have hml:(limbs m).length≤3000:=by
  rw [hm]
  refine limbs_short1 (bl M+s) 3000 (by omega) _ ?_
  rw [Nat.pow_add]
  exact Nat.mul_lt_mul_of_pos_right (lt_bl M) (Nat.two_pow_pos s)
 obtain ⟨y,hy⟩: ∃y,y=D.2:=⟨_,rfl⟩
 obtain ⟨b,hb⟩: ∃b,b=bl M:=⟨_,rfl⟩
 rw [←hy] at he hp hs
 rw [←hb] at hp LN hbl
 have hlp:0<(limbs M).length:=(digs_len_pos 4294967296 (by omega) M).2 hM0
 have hlz:(((limbs M).length:Int)==0)=false:=beq_eq_false_iff_ne.2 (by omega)
 have HN:=hid hN
 have HY:=hid hy
 have zQ:QL 67 (w.alloc (.cells #[.bool (decide (D.1<0)),.slice am (limbs M).length cm,.int .i64 D.2] 67)) w.heap.size (decide (D.1<0)) (.slice am (limbs M).length cm) D.2:=QL.made rfl
 have yb0:=below_alloc w (.cells #[.bool (decide (D.1<0)),.slice am (limbs M).length cm,.int .i64 D.2] 67)
 rw [←hy] at zQ yb0 ⊢
 have HP:=hid hp
 have HSS:=hid hs
 have hpb: -30000≤p∧p≤30000:=by omega
 have hsb:s≤100000:=by omega
 have hpp:(b:Int)+y-1=p:=by omega
 have hss:y-p+4*(n:Int)=(s:Int):=by omega
 clear hN hM hb hm hy hM0 hlp hD hp hs
 generalize decide (D.1<0)=neg at *
 obtain ⟨HH,hHH⟩: ∃H:List UInt8,H=if negB x=true then [45,48,120] else [48,120]:=⟨_,rfl⟩
 have HS:=hid (show (9223372036854775808≤x→bsOf HH=bsOf [45,48,120])∧(x<9223372036854775808→bsOf HH=bsOf [48,120]) from ⟨fun h=>by rw [hHH,if_pos (show negB x=true from decide_eq_true h)],fun h=>by rw [hHH,if_neg (by unfold negB;simp;omega)]⟩)
 have HHH:=hid hHH
 have HT:=hid hT10
 clear hHH hT10
 go_enter Tryz.func97,Tryz.ntmps97
 go_upto_region 1 with fail
 refine wp_worldZ (fun WW=>Below w.heap.size w WW∧QL 67 WW w.heap.size neg (.slice am (limbs M).length cm) y∧Ns .u32 WW am cm (limbs M)) ⟨yb0,zQ,HN.out.below yb0⟩ ?_
 intro W1 ⟨y1,z1,hN1⟩
 obtain ⟨g1,hg1⟩: ∃g,g=w.heap.size:=⟨_,rfl⟩
 rw [←hg1] at z1 ⊢
 have H1:=hid z1
 have HN1:=hid hN1
 clear hg1 zQ yb0 HN hN1 z1
 go_upto_if 14 with fail
 go_cut [7] (fun s7 wx=>s7=.string (bsOf HH)∧wx=W1)
 case first=>
  by_cases hx:9223372036854775808≤x
  ·have hs:x/9223372036854775808=1:=by omega
   have hb:=hid (HS.out.1 hx)
   clear HS HHH
   go_wp2_with fail
   go_meet
   exact ⟨by rw [hb.out];rfl,rfl⟩
  ·have hs:x/9223372036854775808=0:=by omega
   have hb:=hid (HS.out.2 (by omega))
   clear HS HHH
   go_wp2_with fail
   go_meet
   exact ⟨by rw [hb.out];rfl,rfl⟩
 case rest=>
  obtain ⟨rfl,hwc⟩:=hcut
  subst hwc
  obtain ⟨⟨j0,j1,-⟩,j2,-⟩:=id H1.out
  have hHl:HH.length≤3:=by rw [HHH.out];split<;>simp
  have hw1:IntKind.i64.wrap ((b:Int)+y)=(b:Int)+y:=IntWalk.i64_in _ (by omega)
  have hw2:IntKind.i64.wrap p=p:=IntWalk.i64_in _ (by omega)
  go_upto_region 9 with fail
  refine wp_region_grow 8 [30,31,32,33,34,35,36,8] [Fact.is (.pointer (some ⟨g1,1,none⟩)),Fact.is (.slice am (limbs M).length cm),Fact.is (.int .i64 (b:Int)),Fact.is (.pointer (some ⟨g1,2,none⟩)),Fact.is (.int .i64 y),Fact.is (.int .i64 ((b:Int)+y)),Fact.is (.int .i64 p),Fact.is (.int .i64 p)] (by kernel_rfl) (by kernel_rfl) ⟨?o0,?o1,?o2,?o3,?o4,?o5,?o6,?o7,trivial⟩ ?after
  case o0=>(refine oQ rfl ?_;intro ρ w1 R hcon hfn hρ hb hp hR;have e4:ρ (.tmp 4)=.pointer (some ⟨g1,0,none⟩):=hρ.tmp 4 rfl;clear hρ hp;unfold OpRun;go_simp;exact hR _ _ (Below.refl _ _) rfl)
  case o1=>(refine oQ rfl ?_;intro ρ w1 R hcon hfn hρ hb hp hR;have e30:ρ (.tmp 30)=_:=hp 0 30 rfl rfl;obtain ⟨⟨j0,j1,-⟩,j2,-⟩:=H1.out.below hb;clear hρ hp;unfold OpRun;go_simp;exact hR _ _ (Below.refl _ _) rfl)
  case o2=>(refine oQ rfl ?_;intro ρ w1 R hcon hfn hρ hb hp hR;have e31:ρ (.tmp 31)=_:=hp 1 31 rfl rfl;clear hρ hp;unfold OpRun;go_simp;(refine (LN.out _ (HN1.out.below hb)).mono ?_;rintro e wn ⟨rfl,rfl⟩;exact ⟨_,rfl,hR _ _ (Below.refl _ _) rfl⟩))
  case o3=>(refine oQ rfl ?_;intro ρ w1 R hcon hfn hρ hb hp hR;have e4:ρ (.tmp 4)=.pointer (some ⟨g1,0,none⟩):=hρ.tmp 4 rfl;clear hρ hp;unfold OpRun;go_simp;exact hR _ _ (Below.refl _ _) rfl)
  case o4=>(refine oQ rfl ?_;intro ρ w1 R hcon hfn hρ hb hp hR;have e33:ρ (.tmp 33)=_:=hp 3 33 rfl rfl;obtain ⟨⟨j0,j1,-⟩,j2,-⟩:=H1.out.below hb;clear hρ hp;unfold OpRun;go_simp;exact hR _ _ (Below.refl _ _) rfl)
  case o5=>(refine oQ rfl ?_;intro ρ w1 R hcon hfn hρ hb hp hR;have e32:ρ (.tmp 32)=_:=hp 2 32 rfl rfl;have e34:ρ (.tmp 34)=_:=hp 4 34 rfl rfl;clear hρ hp;unfold OpRun;go_simp;exact hR _ _ (Below.refl _ _) rfl)
  case o6=>(refine oQ rfl ?_;intro ρ w1 R hcon hfn hρ hb hp hR;have e35:ρ (.tmp 35)=_:=hp 5 35 rfl rfl;clear hρ hp;unfold OpRun;go_simp;exact hR _ _ (Below.refl _ _) rfl)
  case o7=>(refine oQ rfl ?_;intro ρ w1 R hcon hfn hρ hb hp hR;have e36:ρ (.tmp 36)=_:=hp 6 36 rfl rfl;clear hρ hp;unfold OpRun;go_simp;exact hR _ _ (Below.refl _ _) rfl)
  case after=>
   intro u wn hb hf
   have e8:u 8=_:=hf 7 8 (by omega) rfl
   clear hf
   simp only [putAll,Act.put,List.setIfInBounds_toArray,List.set_cons_zero,List.set_cons_succ,List.drop_succ_cons,List.drop_zero,List.drop_nil]
   rw [e8]
   have y2:=below_trans y1 hb
   have H2:=hid (H1.out.below hb)
   have HN2:=hid (HN1.out.below hb)
   obtain ⟨W2,hW2⟩: ∃W,W=wn:=⟨_,rfl⟩
   subst hW2
   clear H1 HN1 y1 hb j0 j1 j2 hw1 hpp
   obtain ⟨⟨j0,j1,-⟩,j2,-⟩:=id H2.out
   have hw3:IntKind.i64.wrap (y-p)=y-p:=IntWalk.i64_in _ (by omega)
   have hw4:IntKind.i64.wrap (4*(n:Int))=4*(n:Int):=IntWalk.i64_in _ (by omega)
   have hw5:IntKind.i64.wrap (s:Int)=(s:Int):=IntWalk.i64_in _ (by omega)
   have a1:=add_bs (P:=Tryz.prog) HH [49] (by simp;omega)
   have b1:(ByteArray.mk #[49])=bsOf [49]:=rfl
   go_upto_if 50 with (go_at_call 172;(with_reducible refine (LE.out _ HN2.out).mono ?_);rintro en w3 ⟨a9,rfl,hN9,hb3⟩)
   obtain ⟨B0,hB0⟩: ∃B,B=HH++ [49]++(if n=0 then [] else [46]):=⟨_,rfl⟩
   have hB0l:B0.length≤5:=by rw [hB0];split<;>simp<;>omega
   have HB0:=hid hB0
   clear hB0
   go_cut [7] (fun s7 wx=>s7=.string (bsOf B0)∧wx=w3)
   case first=>as_aux_lemma=>
    by_cases hn0:n=0
    ·have hn1: ¬0<(n:Int):=by omega
     have hn2:decide (0<n)=false:=decide_eq_false (by omega)
     have HBB:=hid (show B0=HH++ [49] by rw [HB0.out,if_pos hn0];simp)
     clear hn0 HB0
     go_wp2_with fail
     go_meet
     exact ⟨by rw [HBB.out],rfl⟩
    ·have hn1:0<(n:Int):=by omega
     have hn2:decide (0<n)=true:=decide_eq_true (by omega)
     have HBB:=hid (show B0=HH++ [49]++ [46] by rw [HB0.out,if_neg hn0])
     have a2:=add_bs (P:=Tryz.prog) (HH++ [49]) [46] (by simp;omega)
     have b2:(ByteArray.mk #[46])=bsOf [46]:=rfl
     rw [←HBB.out] at a2
     clear hn0 HB0 HBB
     go_wp2_with fail
     go_meet
     exact ⟨rfl,rfl⟩
   case rest=>
    obtain ⟨rfl,hwc⟩:=hcut
    subst hwc
    have y4:=below_trans y2 hb3
    have hNm:=hN9
    have hmc:=hN9.1
    have HN9:=hid hN9
    have hml9:=hml
    obtain ⟨W3,hW3⟩: ∃W,W=wc:=⟨_,rfl⟩
    subst hW3
    clear hN9 hb3 H2 HN2 y2 j0 j1 j2 a1 b1 hHl hNm
    have hw6:IntKind.i64.wrap ((n:Int)-1)=(n:Int)-1:=IntWalk.i64_in _ (by omega)
    go_wp2_with fail
    go_loopw [7,10,11] (fun s7 s10 s11 wr=> ∃j:Int,-1≤j∧j<n∧s10=.int .i64 j∧s7=.string (bsOf (B0++(hxD n m).take (n-(j+1).toNat)))∧wr=W3) (fun _ s10 _ _=>(intOf s10+1).toNat)
    case atStart=>exact ⟨(n:Int)-1,by omega,by omega,rfl,by rw [show n-((n:Int)-1+1).toNat=0 by omega];simp,rfl⟩
    case round=>
     obtain ⟨j,hj1,hj2,rfl,rfl,rfl⟩:=hrel
     by_cases hj0:j<0
     ·have hcc: ¬0≤j:=by omega
      have hTT:=hid (show B0++(hxD n m).take (n-(j+1).toNat)=B0++hxD n m by
       rw [show n-(j+1).toNat=n by omega,List.take_of_length_le (by rw [hxD_len];omega)])
      rw [hTT.out]
      have hBl:(B0++hxD n m).length≤1005:=by rw [List.length_append,hxD_len];omega
      have HFI:=hid (show B0++hxD n m++hxP p=hxT (negB x) n m p by
       rw [HB0.out,HHH.out]
       unfold hxT dsh
       by_cases hn0:n=0
       ·rw [if_pos hn0,if_pos hn0,hn0]
        cases negB x<;>simp [hxD]
       ·rw [if_neg hn0,if_neg hn0]
        cases negB x<;>simp)
      obtain ⟨B1,hB1⟩: ∃B,B=B0++hxD n m:=⟨_,rfl⟩
      rw [←hB1] at hBl HFI ⊢
      obtain ⟨RT,hRT⟩: ∃R,R=hxT (negB x) n m p:=⟨_,rfl⟩
      rw [←hRT] at HFI
      have HRT:=hid hRT
      clear hRT
      have lDp:(decD p.natAbs).length≤6:=decD_len 5 _ (by omega)
      have IT:=hid (fun w t=>itoa_any p (by omega) (by omega) w t)
      have HT4:=hid (HT.out.below y4)
      clear hB1 HB0 HHH HP HSS hTT hj0 hj1 hj2 HS
      by_cases hp0:0≤p
      ·have hit:Lib.itoa p=decD p.natAbs:=by
        unfold Lib.itoa
        rw [if_neg (by omega)]
        congr 1
        omega
       have HFJ:=hid (show RT=B1++ [112,43]++decD p.natAbs by
        rw [←HFI.out];unfold hxP;rw [if_neg (by omega)];simp)
       rw [hit] at IT
       have a1:=add_bs (P:=Tryz.prog) B1 [112,43] (by simp;omega)
       have a2:=add_bs (P:=Tryz.prog) (B1++ [112,43]) (decD p.natAbs) (by simp;omega)
       have b1:(ByteArray.mk #[112,43])=bsOf [112,43]:=rfl
       rw [←HFJ.out] at a2
       clear HFI hit
       go_wp2_with (go_at_call 168;(with_reducible refine (IT.out _ HT4.out).mono ?_);rintro en w8 ⟨rfl,hb8⟩)
       go_ret
       exact ⟨by rw [←HRT.out];rfl,below_trans y4 hb8⟩
      ·have hit:Lib.itoa p=45::decD p.natAbs:=by
        unfold Lib.itoa
        rw [if_pos (by omega)]
       have HFJ:=hid (show RT=B1++ [112]++45::decD p.natAbs by
        rw [←HFI.out];unfold hxP;rw [if_pos (by omega)];simp)
       rw [hit] at IT
       have a1:=add_bs (P:=Tryz.prog) B1 [112] (by simp;omega)
       have a2:=add_bs (P:=Tryz.prog) (B1++ [112]) (45::decD p.natAbs) (by simp;omega)
       have b1:(ByteArray.mk #[112])=bsOf [112]:=rfl
       rw [←HFJ.out] at a2
       clear HFI hit
       go_wp2_with (go_at_call 168;(with_reducible refine (IT.out _ HT4.out).mono ?_);rintro en w8 ⟨rfl,hb8⟩)
       go_ret
       exact ⟨by rw [←HRT.out];rfl,below_trans y4 hb8⟩
     ·obtain ⟨i,rfl⟩:=Int.eq_ofNat_of_zero_le (show 0≤j by omega)
      have hST:=hxD_take n m i (by omega)
      obtain ⟨dg,hdg⟩: ∃d,d=m/16^i%16:=⟨_,rfl⟩
      have hd16:dg<16:=by omega
      have hLD:=limb_digit m i
      rw [←hdg] at hLD hST
      obtain ⟨k,hk⟩: ∃k,k=i/8:=⟨_,rfl⟩
      obtain ⟨r,hr⟩: ∃r,r=i%8:=⟨_,rfl⟩
      have e8:(i:Int)/8=(k:Int):=by omega
      have e9:(i:Int)%8=(r:Int):=by omega
      have hr8:r<8:=by omega
      rw [←hk,←hr] at hLD
      obtain ⟨lb9,hlb⟩: ∃l,l=(limbs m).getD k 0:=⟨_,rfl⟩
      rw [←hlb] at hLD
      have hlb2:lb9<4294967296:=by rw [hlb];exact (limbs_lim m).getD (by omega) _
      have hlh:=hxD_len n m
      rw [show ((i:Int)+1).toNat=i+1 by omega]
      have htk:((hxD n m).take (n-(i+1))).length≤1000:=by rw [List.length_take];omega
      obtain ⟨TK,hTK⟩: ∃X,X=(hxD n m).take (n-(i+1)):=⟨_,rfl⟩
      rw [←hTK] at hST htk ⊢
      have hA:=add_bs (P:=Tryz.prog) (B0++TK) [hxc dg] (by simp;omega)
      rw [List.append_assoc,←hST] at hA
      have HST:=hid (show (hxD n m).take (n-i)=(hxD n m).take (n-((i:Int)-1+1).toNat) by rw [show ((i:Int)-1+1).toNat=i by omega])
      have HLB:=hid hlb
      have HLD:=hid hLD
      have hwi:IntKind.i64.wrap ((i:Int)-1)=(i:Int)-1:=IntWalk.i64_in _ (by omega)
      clear hST hTK hlh hk hr hdg hlb hLD
      go_upto_if 63 with fail
      go_cut [11] (fun s11 wx=>s11=.int .u32 (lb9:Int)∧wx=wr)
      case first=>as_aux_lemma=>
       by_cases hkl:k<(limbs m).length
       ·obtain ⟨b9,o9,rfl,hc9⟩:=HN9.out.2.2 (by omega)
        have hcell:wr.cell? ⟨b9,o9+k,none⟩=some (.int .u32 (lb9:Int)):=by
         rw [HLB.out];exact hc9 k hkl
        have hk2:(k:Int)<((limbs m).length:Int):=by omega
        clear hc9
        go_wp2_with fail
        go_meet
        exact ⟨rfl,rfl⟩
       ·have hz:=hid (show lb9=0 by rw [HLB.out];exact getD_out _ _ (by omega))
        have hk2: ¬(k:Int)<((limbs m).length:Int):=by omega
        have hk3:decide (k<(limbs m).length)=false:=decide_eq_false hkl
        go_wp2_with fail
        go_meet
        exact ⟨by rw [hz.out];rfl,rfl⟩
      case rest=>
       obtain ⟨rfl,hwc⟩:=hcut
       subst hwc
       have hBA:bits .and .u32 ((lb9:Int)/2^(4*r)) 15=(dg:Int):=by
        have e1:(lb9:Int)/2^(4*r)=((lb9/2^(4*r):Nat):Int):=by rw [Int.natCast_ediv];simp
        rw [e1]
        have h:=and_mask_u32 (lb9/2^(4*r)) 4 (by omega) (Nat.lt_of_le_of_lt (Nat.div_le_self _ _) hlb2)
        rw [show (((2^4-1:Nat)):Int)=15 from rfl,show (2:Nat)^4=16 from rfl,HLD.out] at h
        exact h
       have hIX: ∀w,(Instr.index 9 (.string (ByteArray.mk #[48,49,50,51,52,53,54,55,56,57,97,98,99,100,101,102])) (.int .u32 (dg:Int))).run Tryz.prog w=.ok (.int .u8 ((hxc dg).toNat:Int)) w:=fun w=>by
        rw [run_index_string _ _ _ _ _ Tryz.underlying9,dif_pos ⟨by omega,by show (dg:Int)<16;omega⟩]
        have h8:(dg:Int).toNat=dg:=by omega
        simp only [h8,hx_get dg hd16]
       have hwc:wrap32 ((hxc dg).toNat:Int)=((hxc dg).toNat:Int):=IntWalk.wrap32_in _ (by have:=(hxc dg).toNat_lt;omega)
       have hEN:Utf8.encode ((hxc dg).toNat:Int)=bsOf [hxc dg]:=hx_enc dg hd16
       generalize (hxc dg).toNat=cn at *
       go_wp2_with fail
       go_roundw
       case rel=>exact ⟨(i:Int)-1,by omega,by omega,rfl,by rw [←HST.out];try rfl,by first|rfl|trivial⟩
       case measure=>first|(simp [intOf];done)|(simp [intOf];omega)
end Go.Proofs.YtfphmlmgjhebjaaGreatDoor
namespace Go.Ulp
open Go.RowKit
def hfK (D:Dy):Int:=(bl D.1.natAbs:Int)+D.2-1
theorem hfK_nrm (y e:Int) (h:y≠0):hfK (nrm y e)=(bl y.natAbs:Int)+e-1:=by
 obtain ⟨k,h1,h2⟩:=nrm_rep y e
 have h2:=h2 h
 have h3:y.natAbs=(nrm y e).1.natAbs*2^k:=by conv=>lhs;rw [h1]
                                             exact natAbs_mul_pw _ _
 have h4:0<(nrm y e).1.natAbs:=by
  rcases Nat.eq_zero_or_pos (nrm y e).1.natAbs with h|h
  ·rw [h] at h3;omega
  ·exact h
 unfold hfK
 rw [h3,bl_mul _ _ h4,h2]
 omega
def QW (tq ti:TypeId) (w:World) (g:Nat) (D:Dy) (A T:Nat) (X:Int) (n:Nat) (ao:Option Addr) (cap:Nat):Prop:=
 QL tq w g (zneg X) (.slice ao (zl X).length cap) (n:Int)∧QD ti w D A T (.agg #[.bool (zneg X),.slice ao (zl X).length cap,.int .i64 (n:Int)])
theorem QW.below {tq ti:TypeId} {w w':World} {g:Nat} {D:Dy} {A T:Nat} {X:Int} {n:Nat} {ao:Option Addr} {cap:Nat} (h:QW tq ti w g D A T X n ao cap) (hb:Below w.heap.size w w'):QW tq ti w' g D A T X n ao cap:=⟨h.1.below hb,h.2.below hb⟩
theorem QW.made {tq ti:TypeId} {w:World} {D:Dy} {A T:Nat} {X:Int} {n:Nat} {ao:Option Addr} {cap:Nat} (h:QD ti w D A T (.agg #[.bool (zneg X),.slice ao (zl X).length cap,.int .i64 (n:Int)])):
 QW tq ti (w.alloc (.cells #[.bool (zneg X),.slice ao (zl X).length cap,.int .i64 (n:Int)] tq)) w.heap.size D A T X n ao cap:=⟨QL.made rfl,h.below (below_alloc _ _)⟩
theorem QW.cells {tq ti:TypeId} {w:World} {g:Nat} {D:Dy} {A T:Nat} {X:Int} {n:Nat} {ao:Option Addr} {cap:Nat} (h:QW tq ti w g D A T X n ao cap):
 w.cell? ⟨g,0,none⟩=some (.bool (zneg X))∧w.cell? ⟨g,1,none⟩=some (.slice ao (zl X).length cap)∧w.cell? ⟨g,2,none⟩=some (.int .i64 (n:Int)):=⟨h.1.1.1,h.1.1.2.1,h.1.2.1⟩
theorem QW.stored {tq ti:TypeId} {w0 wn:World} {g:Nat} {D:Dy} {A T:Nat} {X:Int} {n:Nat} {ao:Option Addr} {cap:Nat} {b:Bool} {v:Value} {k:Int} (hne:tq≠ti) (hb:Below w0.heap.size w0 wn) (hg:w0.heap.size≤g) (z:QL tq wn g b v k) (h:QD ti wn D A T (.agg #[.bool (zneg X),.slice ao (zl X).length cap,.int .i64 (n:Int)])):
 Below w0.heap.size w0 (((wn.setCell ⟨g,0,none⟩ (.bool (zneg X))).setCell ⟨g,1,none⟩ (.slice ao (zl X).length cap)).setCell ⟨g,2,none⟩ (.int .i64 (n:Int)))∧QW tq ti (((wn.setCell ⟨g,0,none⟩ (.bool (zneg X))).setCell ⟨g,1,none⟩ (.slice ao (zl X).length cap)).setCell ⟨g,2,none⟩ (.int .i64 (n:Int))) g D A T X n ao cap:=by
 obtain ⟨x,m,a,c,h1,h2,h3,h4,h5⟩:=h
 refine ⟨Go.Ulp.Below.put3 hb hg _ _ _,z.put _ _ _,⟨x,m,a,c,h1,?_,h3,h4,h5⟩⟩
 exact h2.set3Q z hne _ _ _
end Go.Ulp
