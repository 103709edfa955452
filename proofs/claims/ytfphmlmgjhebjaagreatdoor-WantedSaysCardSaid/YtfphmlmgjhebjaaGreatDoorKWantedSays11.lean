/- WantedSays: what the proof leans on, part 11 (Nat11 Nat13b Rn1 Dd2). -/
import Derived.WalkSpells
import Derived.ArgAppend
import Derived.Lib.BitFns
import Derived.Test.YtfphmlmgjhebjaaGreatDoorKWantedSays2
import Derived.Test.YtfphmlmgjhebjaaGreatDoorKWantedSays4
import Derived.Test.YtfphmlmgjhebjaaGreatDoorKWantedSays5
import Derived.Test.YtfphmlmgjhebjaaGreatDoorKWantedSays6
import Derived.Test.YtfphmlmgjhebjaaGreatDoorKWantedSays8
import Derived.Test.YtfphmlmgjhebjaaGreatDoorKWantedSays9
import Derived.Test.YtfphmlmgjhebjaaGreatDoorKWantedSays10
set_option linter.unusedVariables false
set_option linter.unusedSimpArgs false
namespace Go.Ulp
open Go.RowKit
theorem run_eql_slice_nil {P:Program} (w:World) (t e:TypeId) (a:Option Addr) (n c n' c':Nat) (h:P.underlying t=some (.slice e)):
 (binOp .eql t (.slice a n c) (.slice none n' c')).run P w=.ok (.bool a.isNone) w:=Lib.run_eql_slice_nil w t e a n c n' c' h
theorem own_empty (w:World) (k:IntKind) (e:TypeId):Own w.heap.size e k (w.alloc (.cells #[] e)) (.slice (some ⟨w.heap.size,0,none⟩) 0 0) []:=by
 unfold Own
 exact ⟨by simp [nums],.inr ⟨w.heap.size,0,#[],rfl,Nat.le_refl _,heap_alloc_new w _,Nat.le_refl _,by unfold maxLen;omega,by simp,by simp [nums]⟩⟩
def RetNN (w:World) (q r:Nat) (e:Ending) (w':World):Prop:=
 ∃ao cap bo cbp,e=.returned (.tuple #[.slice ao (limbs q).length cap,.slice bo (limbs r).length cbp])∧Ns .u32 w' ao cap (limbs q)∧Ns .u32 w' bo cbp (limbs r)∧Below w.heap.size w w'
def RetNc (w:World) (n:Nat) (e:Ending) (w':World):Prop:=
 ∃ao cap,e=.returned (.slice ao (limbs n).length cap)∧Ns .u32 w' ao cap (limbs n)∧Below w.heap.size w w'
end Go.Ulp
namespace Go.Proofs.YtfphmlmgjhebjaaGreatDoor
open Go.RowKit Go.Ulp
set_option maxHeartbeats 1600000
set_option maxRecDepth 100000
theorem clone_any (ao:Option Addr) (c:Nat) (n:Nat) (w:World) (h:Ns .u32 w ao c (limbs n)) (hl:(limbs n).length≤4294967296):
 Calls Tryz.prog 235 #[.slice ao (limbs n).length c] w fun e w'=>RetNc w n e w':=by
 cases ao with
 |none=>
  have hn:limbs n= []:=by
   rcases Nat.eq_zero_or_pos (limbs n).length with h0|h0
   ·exact List.length_eq_zero_iff.1 h0
   ·obtain ⟨_,_,e,_⟩:=h.2.2 h0;cases e
  have HN:=hid hn
  clear hn
  have hq:=fun w=>run_eql_slice_nil (P:=Tryz.prog) w 65 181 none (limbs n).length c 0 0 ei_u32.1
  go_enter Tryz.func235,Tryz.ntmps235
  go_wp2_with fail
  go_ret
  exact ⟨none,0,by rw [HN.out];rfl,by rw [HN.out];exact Ns.nil,Below.refl _ _⟩
 |some a=>
  have hq:=fun w=>run_eql_slice_nil (P:=Tryz.prog) w 65 181 (some a) (limbs n).length c 0 0 ei_u32.1
  go_enter Tryz.func235,Tryz.ntmps235
  go_wp2_with (at_builtin;go_loud (refine wpList_pushall ei_u32 (by omega) rfl _ _ rfl w.heap.size [] (limbs n) _ rfl (own_empty w .u32 181) _ _ _ rfl rfl (h.below (below_alloc _ _)) (by simp;omega) (by simp) ?_;intro v1 w1 hown1 hb1;obtain ⟨ao1,cap1,rfl,hN1⟩:=hown1.ns))
  go_ret
  exact ⟨ao1,cap1,rfl,hN1,(below_alloc _ _).trans hb1⟩
end Go.Proofs.YtfphmlmgjhebjaaGreatDoor
namespace Go.Ulp
open Go.RowKit
theorem bitLenAux_bl2 (f:Nat): ∀n,n<2^f→Lib.bitLenAux f n=bl n:=by
 induction f with
 |zero=>intro n h;have:n=0:=by simpa using h
        subst this;rfl
 |succ f ih=>
  intro n h
  unfold Lib.bitLenAux
  by_cases h0:n=0
  ·subst h0;rfl
  ·rw [if_neg h0,bl_half n (by omega),ih (n/2) (by rw [Nat.pow_succ] at h;omega)]
theorem bitLen_bl2 (n:Nat) (h:n<18446744073709551616):Lib.bitLen n=bl n:=bitLenAux_bl2 64 n (by simpa using h)
theorem over_lead {n lo P top k:Nat} (hn:n=lo+P*top) (hlo:lo<P) (htop:0<top) (hB:top<4294967296) (hk:k=32-bl top):k≤31∧P*2147483648≤n*2^k∧n*2^k<P*4294967296:=by
 have b1:=(bl_pos top).2 htop
 have b2:bl top≤32:=(bl_le top 32).2 (by simpa using hB)
 have l1:=lt_bl top
 have l2:=pow_bl top htop
 have e1:2^bl top*2^k=4294967296:=by rw [←Nat.pow_add,hk,show bl top+(32-bl top)=32 by omega]
 have e2:2^(bl top-1)*2^k=2147483648:=by rw [←Nat.pow_add,hk,show bl top-1+(32-bl top)=31 by omega]
 refine ⟨by omega,?_,?_⟩
 ·rw [←e2,←Nat.mul_assoc]
  exact Nat.mul_le_mul_right _ (Nat.le_trans (Nat.mul_le_mul_left P l2) (by omega))
 ·rw [←e1,←Nat.mul_assoc]
  refine Nat.mul_lt_mul_of_pos_right ?_ (Nat.two_pow_pos k)
  have:P*(top+1)≤P*2^bl top:=Nat.mul_le_mul_left P l1
  rw [Nat.mul_add,Nat.mul_one] at this
  omega
theorem over_step {a u v P Qd M lF:Nat} (hv:0<v) (ha:a<P) (hF:lF=a+P*u) (hlt:lF<v*(P*4294967296)) (hM:M=Qd*(P*4294967296*v)+lF):
 u<v*4294967296∧a+P*(u%v)<v*P∧M=(u/v+4294967296*Qd)*(P*v)+(a+P*(u%v)):=by
 have hP:0<P:=by omega
 have hd:=Nat.div_add_mod u v
 have hm:=Nat.mod_lt u hv
 refine ⟨?_,?_,?_⟩
 ·have h1:P*u<P*(v*4294967296):=by rw [show P*(v*4294967296)=v*(P*4294967296) by rw [Nat.mul_left_comm]];omega
  exact Nat.lt_of_mul_lt_mul_left h1
 ·have h1:P*(u%v+1)≤P*v:=Nat.mul_le_mul_left P hm
  rw [Nat.mul_add,Nat.mul_one] at h1
  rw [Nat.mul_comm v P];omega
 ·rw [hM,hF]
  have e1:P*u=P*v*(u/v)+P*(u%v):=by
   have:=congrArg (fun z=>P*z) hd
   simp only [Nat.mul_add] at this
   rw [←this,Nat.mul_assoc]
  have e2:(u/v+4294967296*Qd)*(P*v)=P*v*(u/v)+Qd*(P*4294967296*v):=by
   rw [Nat.add_mul,Nat.mul_comm (u/v)]
   congr 1
   rw [Nat.mul_comm 4294967296 Qd,Nat.mul_assoc,show P*4294967296*v=4294967296*(P*v) by rw [Nat.mul_comm P,Nat.mul_assoc]]
  omega
theorem over_end {m n k Q r:Nat} (hn:0<n) (h:m*2^k=Q*(n*2^k)+r) (hr:r<n*2^k):Q=m/n∧r/2^k=m%n:=by
 have hk:=Nat.two_pow_pos k
 have h1:Q=m*2^k/(n*2^k):=by
  rw [h,Nat.mul_comm Q,Nat.mul_add_div (by omega),Nat.div_eq_of_lt hr,Nat.add_zero]
 have h2:r=m*2^k%(n*2^k):=by
  rw [h,Nat.mul_comm Q,Nat.mul_add_mod,Nat.mod_eq_of_lt hr]
 refine ⟨?_,?_⟩
 ·rw [h1,Nat.mul_div_mul_right _ _ hk]
 ·rw [h2,Nat.mul_mod_mul_right,Nat.mul_div_cancel _ hk]
theorem Own.block {base:Nat} {e:TypeId} {k:IntKind} {w:World} {v:Value} {L:List Nat} (h:Own base e k w v L) (hl:0<L.length): ∃g cap,v=.slice (some ⟨g,0,none⟩) L.length cap∧L.length≤cap∧cap≤9223372036854775807∧base≤g∧g<w.heap.size:=by
 obtain ⟨h1,h2⟩:=h
 rcases h2 with ⟨_,hn⟩|⟨g,cap,cur,rfl,hg,hh,h3,h4,_⟩
 ·exact absurd hn (by omega)
 ·exact ⟨g,cap,rfl,h3,h4,hg,(Array.getElem?_eq_some_iff.1 hh).1⟩
theorem Own.onl {base g:Nat} {e:TypeId} {k:IntKind} {w w':World} {gq n cap:Nat} {L:List Nat} (h:Own base e k w (.slice (some ⟨gq,0,none⟩) n cap) L) (hne:gq≠g) (hb: ∀b,b≠g→w'.heap[b]? =w.heap[b]?):Own base e k w' (.slice (some ⟨gq,0,none⟩) n cap) L:=by
 obtain ⟨h1,h2⟩:=h
 refine ⟨h1,?_⟩
 rcases h2 with hn|⟨g',cap',cur,hv,hg,hh,rest⟩
 ·exact .inl hn
 ·have:gq=g':=by injection hv with e1;injection e1 with e1;injection e1
  subst this
  refine .inr ⟨gq,cap',cur,hv,hg,?_,rest⟩
  rw [hb gq hne];exact hh
theorem Own.mono2 {base base':Nat} {e:TypeId} {k:IntKind} {w:World} {v:Value} {L:List Nat} (h:Own base e k w v L) (hb:base'≤base):Own base' e k w v L:=by
 obtain ⟨h1,h2⟩:=h
 refine ⟨h1,?_⟩
 rcases h2 with hn|⟨g,cap,cur,rfl,hg,rest⟩
 ·exact .inl hn
 ·exact .inr ⟨g,cap,cur,rfl,Nat.le_trans hb hg,rest⟩
section
variable {P:Program} {w:World}
theorem wpList_grow1 {ops:Array Oper} {rest:List Oper} {o:Oper} {a:Act} {Q:Exit→Act→World→Prop} {t e:TypeId} {k:IntKind} {bytes:Nat} (he:ElemInfo P t e k bytes) (hby:bytes≤8) (hgd:o.guard=none) (s x:Operand)
 (ho:o.op=.call {callee:=.builtin .append,args:= #[s,x],argTypes:= #[t,t]})
 (L:List Nat) (d:Nat) (b off:Nat) (hs:a.eval s=.slice (some ⟨b,off,none⟩) L.length L.length) (hN:Ns k w (some ⟨b,off,none⟩) L.length L) (hp:0<L.length) (ad:Addr) (hx:a.eval x=.slice (some ad) 1 1)
 (hcell:w.cell? ad=some (.int k (d:Int))) (hlen:L.length≤8796093022207)
 (h: ∀v' w',Own w.heap.size e k w' v' (L++ [d])→Below w.heap.size w w'→wpList P ops Q rest (a.put o.dst v') w'):wpList P ops Q (o::rest) a w:=by
 obtain ⟨ht,i,hi,hz,hsz,hb⟩:=he
 have hm:=Nat.mul_le_mul hby hlen
 refine wpList_append_grows w hgd s x t ho e i (.int k 0) 1 bytes ht hi hz hsz hb rfl (by decide) _ L.length L.length (nums k L) hs (fun e=>by cases e) (by rw [nums_len];simp) ?_ ad 1 1 [.int k (d:Int)] hx rfl ?_ ?_ (by omega) (by unfold maxLen;omega) ?_ ?_
 ·intro b' hb' j u hj
  injection hb' with hb'
  subst hb'
  have hj2:j<L.length:=by
   have:=(List.getElem?_eq_some_iff.1 hj).1
   rwa [nums_len] at this
  rw [nums_at k L j hj2] at hj
  injection hj with hj
  subst hj
  obtain ⟨b2,o2,e2,hc⟩:=hN.2.2 hp
  injection e2 with e2
  injection e2 with e3 e4
  subst e3 e4
  have hcj:=hc j hj2
  simp only [Addr.add]
  split
  ·rename_i h0;subst h0;simpa using hcj
  ·exact hcj
 ·intro j u hj
  match j,hj with
  |0,hj=>simp at hj;subst hj;simpa [Addr.add] using hcell
 ·intro u hu;simp at hu;subst hu;rfl
 ·have:(L.length+1)*bytes≤(L.length+1)*8:=Nat.mul_le_mul_left _ hby
  omega
 ·intro v' w' h1 h2
  refine h v' w' ?_ ?_
  ·unfold Own nums;rw [List.length_append,List.map_append];exact h1
  ·exact ⟨h2.os,h2.tape,h2.output,h2.size,fun b hbk=>h2.block b hbk (fun e=>by cases e)⟩
end
end Go.Ulp
namespace Go.Proofs.YtfphmlmgjhebjaaGreatDoor
open Go.RowKit Go.Ulp
set_option maxHeartbeats 2000000
set_option maxRecDepth 100000
theorem over_slice (g la cap j s0:Nat) (h1:la+1≤cap) (h2:j+s0+3≤la+1): ∀w,(Instr.sliceAt 65 (.slice (some ⟨g,0,none⟩) (la+1) cap) (some (.int .i64 (j:Int))) (some (.int .i64 ((j:Int)+((s0:Int)+2)+1))) none).run Tryz.prog w=.ok (.slice (some ⟨g,j,none⟩) (s0+3) (cap-j)) w:=by
 intro w
 have x1: ¬cap=j:=by omega
 obtain ⟨e,he⟩: ∃e,e=j+(s0+3):=⟨_,rfl⟩
 have x2:((j:Int)+((s0:Int)+2)+1)=(e:Int):=by omega
 have x3:e≤cap:=by omega
 have x4:j≤e:=by omega
 have x5:e-j=s0+3:=by omega
 rw [x2]
 clear x2 he h1 h2
 go_simp
theorem over_long (a0 a1:Option Addr) (c0 c1:Nat) (m n s0:Nat) (w:World) (h0:Ns .u32 w a0 c0 (limbs m)) (h1:Ns .u32 w a1 c1 (limbs n)) (hm:(limbs m).length≤1000000) (hs:(limbs n).length=s0+2) (hge:n≤m):
 Calls Tryz.prog 177 #[.slice a0 (limbs m).length c0,.slice a1 (limbs n).length c1] w fun e w'=>RetNN w (m/n) (m%n) e w':=by
 obtain ⟨la,hla⟩: ∃la,la=(limbs m).length:=⟨_,rfl⟩
 obtain ⟨top,htop⟩: ∃top,top=(limbs n).getD (s0+1) 0:=⟨_,rfl⟩
 have lN:=limbs_lim n
 have btop:top<4294967296:=by rw [htop];exact lN.getD (by omega) _
 have ptop:0<top:=by
  have:=(trim_iff (limbs n)).1 (limbs_trim n)
  rw [hs] at this
  rcases this with h|h
  ·omega
  ·rw [htop];exact Nat.pos_of_ne_zero h
 obtain ⟨b1,o1,rfl,hc1⟩:=h1.2.2 (by omega)
 have k1:w.cell? ⟨b1,o1+(s0+1),none⟩=some (.int .u32 (top:Int)):=by rw [hc1 (s0+1) (by omega),htop];rfl
 have hsla:s0+2≤la:=by
  rw [hla,←hs];exact digs_len_mono 4294967296 (by omega) hge
 obtain ⟨b0,o0,rfl,hc0⟩:=h0.2.2 (by omega)
 obtain ⟨k,hk⟩: ∃k,k=32-bl top:=⟨_,rfl⟩
 have vn:n=lval ((limbs n).take (s0+1))+4294967296^(s0+1)*top:=by
  have:=lval_take_succ (limbs n) (s0+1) (by omega)
  rw [List.take_of_length_le (by omega),lval_limbs,←htop] at this
  exact this
 obtain ⟨hk31,hlo,hhi⟩:=over_lead vn (lval_take_lt _ _ lN (by omega)) ptop btop hk
 have LZ:=hid (show ∀w,Calls Tryz.prog 173 #[.int .u32 (top:Int)] w fun e w'=>e=.returned (.int .i64 (k:Int))∧w=w' from fun w=>(Tryz.bits_LeadingZeros32 (top:Int) w (by omega) (by omega)).mono (by
  rintro e w' ⟨rfl,rfl⟩
  refine ⟨ret_int ?_,rfl⟩
  have hb:bl top≤32:=(bl_le top 32).2 (by simpa using btop)
  rw [show ((top:Int)).toNat=top by omega,bitLen_bl2 _ (by omega),hk];omega))
 have CM:=hid (compare_any (some ⟨b0,o0,none⟩) (some ⟨b1,o1,none⟩) c0 c1 m n w h0 h1)
 have hcm: ¬cmpI m n<0:=by unfold cmpI;split<;>(try split)<;>omega
 have hcap0:=h0.1
 have hcap1:=h1.1
 have hcap2:=h0.2.1
 have hcap3:=h1.2.1
 unfold maxLen at hcap2 hcap3
 have H0:=hid h0
 have H1:=hid h1
 have HS:=hid hs
 have HLA:=hid hla
 have VN:=hid vn
 have HK:=hid hk
 have HLO:=hid hlo
 have HHI:=hid hhi
 have HTOP:=hid htop
 rw [hs] at hcap1 CM ⊢
 rw [←hla] at hcap0 CM hm ⊢
 generalize cmpI m n=cm at CM hcm
 clear h0 h1 hs hla vn hk hlo hhi htop hc0 hc1
 go_enter Tryz.func177,Tryz.ntmps177
 go_upto_region 7 with (first
  |(go_at_call 210;(with_reducible refine CM.out.mono ?_);rintro e w1 ⟨rfl,nq,rfl⟩)
  |(go_at_call 173;(with_reducible refine (LZ.out _).mono ?_);rintro e w1 ⟨rfl,rfl⟩))
 have hb1:Below w.heap.size w (w.drewN nq):=below_drewN (Below.refl _ _) nq
 have H0a:=hid (H0.out.below hb1)
 have H1a:=hid (H1.out.below hb1)
 clear k1 CM LZ
 generalize w.drewN nq=w1 at *
 obtain ⟨M,hM⟩: ∃M,M=m*2^k:=⟨_,rfl⟩
 obtain ⟨v,hv⟩: ∃v,v=n*2^k:=⟨_,rfl⟩
 have hMm:m≤M:=by rw [hM];exact Nat.le_mul_of_pos_right _ (Nat.two_pow_pos k)
 have hlM:la≤(limbs M).length:=by rw [HLA.out];exact digs_len_mono 4294967296 (by omega) hMm
 have hMB:M<4294967296^la*2147483648:=by
  have e1:m<4294967296^la:=by have:=lval_lt (limbs m) (limbs_lim m);rwa [lval_limbs,←HLA.out] at this
  rw [hM]
  exact Nat.lt_of_lt_of_le (Nat.mul_lt_mul_of_pos_right e1 (Nat.two_pow_pos k)) (Nat.mul_le_mul_left _ (Nat.le_trans (Nat.pow_le_pow_right (by omega) hk31) (by decide)))
 have hlM2:(limbs M).length≤la+1:=by
  refine (digs_len_le 4294967296 (by omega) M (la+1)).2 ?_
  rw [Nat.pow_succ]
  exact Nat.lt_of_lt_of_le hMB (Nat.mul_le_mul_left _ (by omega))
 have L1:=left_fresh (some ⟨b0,o0,none⟩) c0 m k w1 H0a.out (by rw [←HLA.out];omega) (by omega) (by rw [←HLA.out];omega)
 rw [←HLA.out,←hM] at L1
 have L1:=hid L1
 have L2:=hid (fun w h=>left_fresh (some ⟨b1,o1,none⟩) c1 n k w h (by rw [HS.out];omega) (by omega) (by rw [HS.out];omega))
 rw [HS.out,←hv] at L2
 have hz1:=hb1.size
 have HM:=hid hM
 have HV:=hid hv
 clear hM hv
 go_upto_region 8 with (first
  |(go_at_call 172;(with_reducible refine L1.out.mono ?_);rintro e w2 ⟨ao2,rfl,hN2,hb2,hf2⟩;obtain ⟨bu,ou,rfl,-⟩:=hN2.2.2 (by omega))
  |(at_builtin;go_loud (refine wpList_grow1 ei_u32 (by omega) rfl _ _ rfl (limbs M) 0 bu ou rfl (hN2.below (below_alloc _ _)) (by omega) ⟨w2.heap.size,0,none⟩ rfl (cell_push _ _ _ _ _ (by omega)) (by omega) ?_);intro v3 w3 hown3 hb3;have hb13:=below_trans (below_trans hb2 (below_alloc _ _)) hb3;obtain ⟨g,cap,rfl,hgc,hgc2,hg3,hg4⟩:=hown3.block (by simp))
  |(go_at_call 172;(with_reducible refine (L2.out _ (H1a.out.below hb13)).mono ?_);rintro e w4 ⟨ao4,rfl,hN4,hb4,hf4⟩))
 have hlv:(limbs v).length=s0+2:=by
  refine Nat.le_antisymm ((digs_len_le 4294967296 (by omega) v (s0+2)).2 ?_) (Nat.lt_of_not_le fun h=>?_)
  ·rw [Nat.pow_succ,HV.out];exact HHI.out
  ·have h2:=(digs_len_le 4294967296 (by omega) v (s0+1)).1 h
   have h3:=HLO.out
   rw [←HV.out] at h3
   have:4294967296^(s0+1)*1≤4294967296^(s0+1)*2147483648:=Nat.mul_le_mul_left _ (by omega)
   omega
 rw [hlv] at hN4 ⊢
 obtain ⟨bv,ov,rfl,-⟩:=hN4.2.2 (by omega)
 have hbvg:bv≠g:=by have:=hf4 _ rfl;simp at this;omega
 have hz2:=hb2.size
 have hz3:=hb3.size
 have hz4:=hb4.size
 have hown4:=Own.mono2 (base':=w.heap.size) (hown3.kept hb4) (by simp;omega)
 have hB4:Below w.heap.size w w4:=hb1.trans ((below_trans hb13 hb4).mono (by omega))
 obtain ⟨lu,hlu⟩: ∃lu,lu=(limbs M).length+1:=⟨_,rfl⟩
 have hgc':lu≤cap:=by simpa [hlu] using hgc
 have hlu1:la+1≤lu:=by omega
 have hgw:g<w4.heap.size:=by omega
 have hvw:bv<w4.heap.size:=by
  have hp:=hN4.2.2 (by omega)
  obtain ⟨b',o',e',hc'⟩:=hp
  injection e' with e'
  injection e' with e1 e2
  subst e1 e2
  exact World.block_lt_of_cell? w4 _ (hc' 0 (by omega))
 rw [←hlu]
 have HFL:=hid (show (limbs M++ [0]).length=lu by simp [hlu])
 generalize (limbs M).length=lM at *
 have HLU:=hid hlu
 have HLV:=hid hlv
 have HB4:=hid hB4
 have HN4:=hid hN4
 have HOWN4:=hid hown4
 clear hlu hlv hB4 hN4 hown4 hown3 hb13 hb4 hb3 hb2 hN2 hb1 hgc hf4 hf2 hz1 hz2 hz3 hz4 hg3 hg4 L1 L2 H0 H1 H0a H1a
 go_loopw [9] (fun s9 wr=>s9=.slice (some ⟨g,0,none⟩) lu cap∧wr=w4) (fun _ _=>0)
 case atStart=>exact ⟨rfl,rfl⟩
 case round=>
  obtain ⟨rfl,rfl⟩:=hrel
  obtain ⟨r,hr⟩: ∃r,r=la-(s0+1):=⟨_,rfl⟩
  obtain ⟨gq,hgq⟩: ∃gq,gq=wr.heap.size:=⟨_,rfl⟩
  have hr1:s0+1+r=la:=by omega
  have HR:=hid hr
  clear hr
  have hgg:gq≠g:=by omega
  have hgv:gq≠bv:=by omega
  have HGQ:=hid hgq
  go_upto_region 13 with (at_make;go_loud (refine wpList_zeros ei_u32 (by omega) rfl _ _ rfl r _ _ _ _ rfl rfl (by omega) (by omega) (by omega) ?_);intro w6 hown6 hb6)
  rw [←hgq] at hown6 ⊢
  have hb6':Below w.heap.size w w6:=HB4.out.trans (hb6.mono HB4.out.size)
  have hq6:=Own.mono2 (base':=w.heap.size) hown6 (by have:=HB4.out.size;omega)
  have hu6:=HOWN4.out.kept hb6
  have hN6:=HN4.out.below hb6
  have HQ6:=hid hq6
  have HU6:=hid hu6
  have HN6:=hid hN6
  have HB6:=hid hb6'
  clear hgq hq6 hu6 hN6 hb6' hown6 hb6
  have vpos:0<v:=Nat.pos_of_ne_zero (fun h=>by have:=HLV.out;rw [h] at this;simp [limbs_zero] at this)
  have vtop:0<(limbs v).getD (s0+1) 0:=by
   have h:=(trim_iff (limbs v)).1 (limbs_trim v)
   rw [HLV.out] at h
   rcases h with h|h
   ·omega
   ·exact Nat.pos_of_ne_zero h
  have VP:=hid vpos
  have VT:=hid vtop
  clear vpos vtop
  go_wp2_with fail
  go_loopw [13] (fun s13 wx=> ∃(i0:Int) (F T:List Nat),s13=.int .i64 i0∧ -1≤i0∧i0<r∧F.length=lu∧Lim F∧T.length=r∧Lim T∧lval F<v*4294967296^(i0+1).toNat∧M=lval (T.drop (i0+1).toNat)*(4294967296^(i0+1).toNat*v)+lval F∧Own w.heap.size 181 .u32 wx (.slice (some ⟨g,0,none⟩) lu cap) F∧Own w.heap.size 181 .u32 wx (.slice (some ⟨gq,0,none⟩) r r) T∧Ns .u32 wx (some ⟨bv,ov,none⟩) (s0+2) (limbs v)∧Below w.heap.size w wx) (fun s13 _=>(intOf s13+1).toNat)
  case atStart=>
   have e0:lval (limbs M++ [0])=M:=by rw [lval_snoc,lval_limbs];omega
   refine ⟨(r:Int)-1,limbs M++ [0],List.replicate r 0,by first|rfl|go_num,by omega,by omega,HFL.out,AllLt.append.2 ⟨limbs_lim M,AllLt.cons.2 ⟨by omega,AllLt.nil⟩⟩,by simp,AllLt.replicate (by omega),?_,?_,by have h:=HU6.out;rw [HFL.out] at h;exact h,HQ6.out,HN6.out,HB6.out⟩
   ·rw [e0,show ((r:Int)-1+1).toNat=r by omega]
    have h3:=HLO.out
    rw [←HV.out] at h3
    have h4:=Nat.mul_le_mul_right (4294967296^r) h3
    have h5:4294967296^(s0+1)*2147483648*4294967296^r=4294967296^la*2147483648:=by
     rw [←hr1,Nat.pow_add 4294967296 (s0+1) r,Nat.mul_right_comm]
    omega
   ·rw [e0,show ((r:Int)-1+1).toNat=r by omega,List.drop_eq_nil_iff.2 (by simp)]
    simp [lval,val]
  case round=>
   obtain ⟨i0,F,T,rfl,hi1,hi2,hF,lF,hT,lT,hlt,hME,hu,hq,hN,hB⟩:=hrel
   by_cases hi:i0<0
   ·obtain rfl:i0= -1:=by omega
    rw [show ((-1:Int)+1).toNat=0 by omega,Nat.pow_zero,Nat.mul_one] at hlt
    rw [show ((-1:Int)+1).toNat=0 by omega,Nat.pow_zero,Nat.one_mul,List.drop_zero,HM.out,HV.out] at hME
    have npos:0<n:=Nat.pos_of_ne_zero (fun h=>by have:=HV.out;rw [h] at this;have:=VP.out;omega)
    rw [HV.out] at hlt
    obtain ⟨e1,e2⟩:=over_end npos hME hlt
    have hFt:lval (F.take (s0+2))=lval F:=by
     have h1:=val_take_drop 4294967296 F (s0+2) (by omega)
     have h2:lval F<4294967296^(s0+2):=by
      refine Nat.lt_trans hlt ?_
      rw [Nat.pow_succ];exact HHI.out
     have h3:lval F=lval (F.take (s0+2))+4294967296^(s0+2)*lval (F.drop (s0+2)):=h1
     rcases Nat.eq_zero_or_pos (lval (F.drop (s0+2))) with h4|h4
     ·rw [h4] at h3;omega
     ·have:4294967296^(s0+2)*1≤4294967296^(s0+2)*lval (F.drop (s0+2)):=Nat.mul_le_mul_left _ h4
      omega
    obtain ⟨R,hR⟩: ∃R,R=lval F:=⟨_,rfl⟩
    have hlen:(F.take (s0+2)).length=s0+2:=by rw [List.length_take];omega
    obtain ⟨aoF,capF,hvF,hNF⟩:=hu.ns
    obtain ⟨rfl,rfl⟩:some ⟨g,0,none⟩=aoF∧cap=capF:=by injection hvF with a b c;exact ⟨a,c⟩
    have hNt:=hNF.take (s0+2) cap (by omega) (by omega) (Nat.le_refl _)
    have lFt:Lim (F.take (s0+2)):=lF.take _
    have NM1:=norm_any (some ⟨g,0,none⟩) cap (F.take (s0+2)) wr hNt lFt
    have hNR:=hNt.norm lFt
    have hRl:=limbs_len_le (F.take (s0+2)) lFt
    rw [hFt,←hR] at NM1 hNR hRl
    rw [hlen] at NM1 hRl
    have RT:=right_any (some ⟨g,0,none⟩) (limbs R).length R k wr hNR (by omega) (by omega)
    rw [hR,e2,←hR] at RT
    obtain ⟨aoT,capT,hvT,hNT⟩:=hq.ns
    obtain ⟨rfl,rfl⟩:some ⟨gq,0,none⟩=aoT∧r=capT:=by injection hvT with a b c;exact ⟨a,c⟩
    have NM2:=hid (fun w h=>norm_any (some ⟨gq,0,none⟩) r T w h lT)
    have hNQ:=hid (hNT.norm lT)
    rw [e1] at NM2 hNQ
    rw [hT] at NM2
    have hNT':=hid hNT
    have NM1:=hid NM1
    have RT:=hid RT
    clear hF lF hT lT hlt hME hu hq hN hFt hlen hvF hNF hNt lFt hNR hvT hNT e1 e2 hR
    go_wp2_with (first
     |(go_at_call 174;(with_reducible refine NM1.out.mono ?_);rintro e w7 ⟨rfl,rfl⟩)
     |(go_at_call 213;(with_reducible refine RT.out.mono ?_);rintro e w8 ⟨ao8,rfl,hN8,hb8⟩)
     |(go_at_call 174;(with_reducible refine (NM2.out _ (hNT'.out.below hb8)).mono ?_);rintro e w7 ⟨rfl,rfl⟩))
    go_ret2
    exact ⟨_,_,_,_,rfl,hNQ.out.below hb8,hN8,hB.trans (hb8.mono hB.size)⟩
   ·obtain ⟨j,rfl⟩:=Int.eq_ofNat_of_zero_le (show 0≤i0 by omega)
    have hjr:j<r:=by omega
    have hjs:j+s0+3≤la+1:=by omega
    rw [show ((j:Int)+1).toNat=j+1 by omega,Nat.pow_succ] at hlt hME
    obtain ⟨A,hA⟩: ∃A,A=F.take j:=⟨_,rfl⟩
    obtain ⟨U,hU⟩: ∃U,U=(F.drop j).take (s0+3):=⟨_,rfl⟩
    obtain ⟨C,hC⟩: ∃C,C=(F.drop j).drop (s0+3):=⟨_,rfl⟩
    have hFe:F=A++U++C:=by rw [hA,hU,hC,List.append_assoc,List.take_append_drop,List.take_append_drop]
    have hAl:A.length=j:=by rw [hA,List.length_take];omega
    have hUl:U.length=s0+3:=by rw [hU,List.length_take,List.length_drop];omega
    have lA:Lim A:=by rw [hA];exact lF.take _
    have lU:Lim U:=by rw [hU];exact (lF.drop _).take _
    have lC:Lim C:=by rw [hC];exact (lF.drop _).drop _
    clear hA hU hC
    have eX: ∀X:List Nat,X.length=s0+3→lval (A++X++C)=lval A+4294967296^j*(lval X+4294967296^(s0+3)*lval C):=fun X hX=>by rw [List.append_assoc,lval_append,lval_append,hAl,hX]
    have eF:=eX U hUl
    rw [←hFe] at eF
    have hPA:lval A<4294967296^j:=by have:=lval_lt A lA;rwa [hAl] at this
    have hCz:lval C=0:=by
     rcases Nat.eq_zero_or_pos (lval C) with h|h
     ·exact h
     ·exfalso
      have h1:4294967296^j*(4294967296^(s0+3)*1)≤4294967296^j*(lval U+4294967296^(s0+3)*lval C):=Nat.mul_le_mul_left _ (Nat.le_trans (Nat.mul_le_mul_left _ h) (Nat.le_add_left _ _))
      have h2:=HHI.out
      rw [←HV.out] at h2
      have h3:v*(4294967296^j*4294967296)≤(4294967296^(s0+1)*4294967296)*(4294967296^j*4294967296):=Nat.mul_le_mul_right _ (Nat.le_of_lt h2)
      have h4:(4294967296^(s0+1)*4294967296)*(4294967296^j*4294967296)=4294967296^j*(4294967296^(s0+3)*1):=by
       rw [Nat.mul_one,Nat.mul_left_comm,←Nat.pow_succ 4294967296 (s0+1),←Nat.pow_succ]
      omega
    rw [hCz,Nat.mul_zero,Nat.add_zero] at eF
    obtain ⟨t1,t2,t3⟩:=over_step VP.out hPA eF hlt hME
    obtain ⟨d,hd⟩: ∃d,d=lval U/v:=⟨_,rfl⟩
    have hdB:d<4294967296:=by rw [hd];exact Nat.div_lt_of_lt_mul t1
    rw [hFe] at hu
    have DG:=digit_any g lu cap (cap-j) bv ov (s0+2) w.heap.size s0 A U C (limbs v) wr hUl HLV.out lU (limbs_lim v) VT.out (by rw [lval_limbs];exact t1) hu hN hbvg (by omega) (by omega)
    rw [hAl] at DG
    unfold RetDigit at DG
    rw [lval_limbs,←hd] at DG
    have DG:=hid DG
    have hsl:=over_slice g la cap j s0 (by omega) (by omega)
    have eXX: ∀X:List Nat,X.length=s0+3→lval X=lval U%v→lval (A++X++C)=lval A+4294967296^j*(lval U%v):=fun X h1 h2=>by rw [eX X h1,hCz,h2,Nat.mul_zero,Nat.add_zero]
    have hX0: ∀X:List Nat,X.length=s0+3→(A++X++C).length=lu:=fun X h1=>by rw [←hF,hFe];simp [h1,hUl]
    have hTd:lval ((T.set j d).drop j)=d+4294967296*lval (T.drop (j+1)):=val_drop_set _ _ _ _ (by omega)
    have HXX:=hid eXX
    have HX0:=hid hX0
    have HTD:=hid hTd
    have HDD:=hid hd
    have HT2:=hid t2
    have HT3:=hid t3
    have hTl:=hid hT
    clear hFe eX eF hCz t1 t2 t3 hd eXX hX0 hTd hlt hME hF hu hN hT
    go_wp2_with (go_at_call 236;(with_reducible refine DG.out.mono ?_);rintro e w7 ⟨X,rfl,hXl,lX,hXv,huX,hN7,hb7⟩;have hq7:=hq.onl hgg hb7.2;have hc7:=hq7.cell j (by rw [hTl.out];exact hjr);have hf7:=hq7.free j)
    go_roundw
    case rel=>
     refine ⟨(j:Int)-1,A++X++C,T.set j d,rfl,by omega,by omega,HX0.out X hXl,AllLt.append.2 ⟨AllLt.append.2 ⟨lA,lX⟩,lC⟩,by rw [List.length_set];exact hTl.out,lT.set _ _ hdB,?_,?_,huX.far _ hgg _,hq7.set j d,hN7.setCell_far _ _ (fun _ b off he=>by injection he with he;injection he with h1 h2;rw [←h1];exact hgv),(hB.trans hb7.1).setCell hq7.base _⟩
     ·rw [show ((j:Int)-1+1).toNat=j by omega,HXX.out X hXl hXv];exact HT2.out
     ·rw [show ((j:Int)-1+1).toNat=j by omega,HXX.out X hXl hXv,HTD.out,HDD.out];exact HT3.out
    case measure=>first|(simp [intOf];done)|(simp [intOf];omega)
theorem over_any (a0 a1:Option Addr) (c0 c1:Nat) (m n:Nat) (w:World) (h0:Ns .u32 w a0 c0 (limbs m)) (h1:Ns .u32 w a1 c1 (limbs n)) (hm:(limbs m).length≤1000000) (hn0:0<n):
 Calls Tryz.prog 177 #[.slice a0 (limbs m).length c0,.slice a1 (limbs n).length c1] w fun e w'=>RetNN w (m/n) (m%n) e w':=by
 by_cases hlt:m<n
 ·have CM:=compare_any a0 a1 c0 c1 m n w h0 h1
  have hcm:cmpI m n= -1:=by unfold cmpI;rw [if_pos (by omega)]
  rw [hcm] at CM
  have CM:=hid CM
  have CL:=hid (fun w h=>clone_any a0 c0 m w h (by omega))
  have e1:m/n=0:=Nat.div_eq_of_lt hlt
  have e2:m%n=m:=Nat.mod_eq_of_lt hlt
  rw [e1,e2]
  have H0:=hid h0
  clear h0 h1 hcm e1 e2
  go_enter Tryz.func177,Tryz.ntmps177
  go_wp2_with (first
   |(go_at_call 210;(with_reducible refine CM.out.mono ?_);rintro e w1 ⟨rfl,nq,rfl⟩)
   |(go_at_call 235;(with_reducible refine (CL.out _ (H0.out.below (below_drewN (Below.refl _ _) nq))).mono ?_);rintro e w2 ⟨ao,cap,rfl,hN,hb⟩))
  go_ret2
  exact ⟨none,0,ao,cap,rfl,Ns.nil,hN,(below_drewN (Below.refl _ _) nq).trans hb⟩
 ·rcases Nat.lt_or_ge (limbs n).length 2 with hl|hl
  ·have hl1:(limbs n).length=1:=by
    have:=(digs_len_pos 4294967296 (by omega) n).2 hn0
    have:0<(limbs n).length:=this
    omega
   have hnB:n<4294967296:=by have:=(digs_len_le 4294967296 (by omega) n 1).1 (by show (limbs n).length≤1;omega);omega
   have hb0:(limbs n).getD 0 0=n:=by
    have h:=lval_limbs n
    have h2:=lval_take_succ (limbs n) 0 (by omega)
    rw [List.take_of_length_le (by omega),h,List.take_zero] at h2
    simp [lval,val] at h2
    exact h2.symm
   have CM:=hid (compare_any a0 a1 c0 c1 m n w h0 h1)
   have hcm: ¬cmpI m n<0:=by unfold cmpI;split<;>(try split)<;>omega
   obtain ⟨b1,o1,rfl,hc1⟩:=h1.2.2 (by omega)
   have k1:w.cell? ⟨b1,o1,none⟩=some (.int .u32 (n:Int)):=by have:=hc1 0 (by omega);rw [Nat.add_zero] at this;rw [this];unfold lb;rw [hb0]
   have SM:=hid (fun w h=>small_any a0 c0 m n w h (by omega) hn0 hnB)
   have OF:=hid (fun (x:Nat) (hx:x<18446744073709551616) w=>natOf_any x hx w)
   have H0:=hid h0
   have hcap1:=h1.1
   have hmn:m%n<n:=Nat.mod_lt _ hn0
   obtain ⟨r,hr⟩: ∃r,r=m%n:=⟨_,rfl⟩
   rw [←hr] at SM hmn ⊢
   rw [hl1] at CM hcap1 ⊢
   generalize cmpI m n=cm at CM hcm
   clear hc1 hl hl1 h0 h1 hb0 hr
   go_enter Tryz.func177,Tryz.ntmps177
   go_wp2_with (first
    |(go_at_call 210;(with_reducible refine CM.out.mono ?_);rintro e w1 ⟨rfl,nq,rfl⟩)
    |(go_at_call 221;(with_reducible refine (SM.out _ (H0.out.below (below_drewN (Below.refl _ _) nq))).mono ?_);rintro e w2 ⟨ao,rfl,hN,hb⟩)
    |(go_at_call 95;(with_reducible refine (OF.out r (by omega) _).mono ?_);rintro e w3 ⟨ao3,rfl,hN3,hb3⟩))
   go_ret2
   exact ⟨_,_,_,_,rfl,hN.below hb3,hN3,(below_drewN (Below.refl _ _) nq).trans (below_trans hb hb3)⟩
  ·exact over_long a0 a1 c0 c1 m n ((limbs n).length-2) w h0 h1 hm (by omega) (by omega)
end Go.Proofs.YtfphmlmgjhebjaaGreatDoor
namespace Go.Ulp
open Go.RowKit
end Go.Ulp
namespace Go.Proofs.YtfphmlmgjhebjaaGreatDoor
open Go.RowKit Go.Ulp
set_option maxHeartbeats 1000000
set_option maxRecDepth 100000
end Go.Proofs.YtfphmlmgjhebjaaGreatDoor
namespace Go.Ulp
open Go.RowKit
end Go.Ulp
namespace Go.Proofs.YtfphmlmgjhebjaaGreatDoor
open Go.RowKit Go.Ulp
set_option maxHeartbeats 1000000
set_option maxRecDepth 100000
end Go.Proofs.YtfphmlmgjhebjaaGreatDoor
namespace Go.Ulp
open Go.RowKit
theorem limbs_len_iff (n k:Nat):(limbs n).length≤k↔n<4294967296^k:=digs_len_le 4294967296 (by omega) n k
theorem limbs_len_add (m n a b:Nat) (h1:(limbs m).length≤a) (h2:(limbs n).length≤b):(limbs (m+n)).length≤a+b+1:=by
 have e1:=(limbs_len_iff m a).1 h1
 have e2:=(limbs_len_iff n b).1 h2
 refine (limbs_len_iff _ _).2 ?_
 have p1:4294967296^a≤4294967296^(a+b):=Nat.pow_le_pow_right (by omega) (by omega)
 have p2:4294967296^b≤4294967296^(a+b):=Nat.pow_le_pow_right (by omega) (by omega)
 rw [Nat.pow_succ];omega
theorem limbs_len_mul (m n a b:Nat) (h1:(limbs m).length≤a) (h2:(limbs n).length≤b):(limbs (m*n)).length≤a+b:=by
 have e1:=(limbs_len_iff m a).1 h1
 have e2:=(limbs_len_iff n b).1 h2
 refine (limbs_len_iff _ _).2 ?_
 rw [Nat.pow_add]
 exact Nat.mul_lt_mul'' e1 e2
theorem limbs_len_mono {m n:Nat} (h:m≤n):(limbs m).length≤(limbs n).length:=digs_len_mono 4294967296 (by omega) h
def IsLow (c:Int→Int) (l:Int):Prop:= -9218868437227405312≤l∧l<9218868437227405312∧(l= -9218868437227405312∨c l≤0)∧(l+1=9218868437227405312∨0<c (l+1))
def upR (neg:Bool) (mode near high:Int):Bool:=
 if near=0∧mode=0 then decide (high%2=0) else if near=0∧mode=4 then !neg else decide (mode=1∨(mode=3∧neg=true)∨((mode=0∨mode=4)∧0<near))
def tellR (neg:Bool) (r:Int):Int:=if r=0∧neg=true then 9223372036854775808 else ranked r
def ansR (c cm:Int→Int) (cz mode l:Int):Int×Bool:=
 if -9218868437227405312<l∧c l=0 then (ranked l,false) else if upR (decide (cz<0)) mode (cm l) (l+1)=true then (tellR (decide (cz<0)) (l+1),true) else (tellR (decide (cz<0)) l,true)
def rT (s:Nat) (r:Int):Int:=rvs r*pw s
def cR (s:Nat) (V r:Int):Int:=cmpI (rT s r) V
def cM (s:Nat) (V r:Int):Int:=cmpI (2*V) (rT s r+rT s (r+1))
def Rnd (s:Nat) (V mode x:Int) (ch:Bool):Prop:= ∃l,IsLow (cR s V) l∧(x,ch)=ansR (cR s V) (cM s V) (cmpI V 0) mode l
theorem cmpI_le (a b:Int):cmpI a b≤0↔a≤b:=by unfold cmpI;split<;>(try split)<;>omega
theorem cmpI_gt (a b:Int):0<cmpI a b↔b<a:=by unfold cmpI;split<;>(try split)<;>omega
theorem cmpI_lt (a b:Int):cmpI a b<0↔a<b:=by unfold cmpI;split<;>(try split)<;>omega
theorem rT_mono (s:Nat) {a b:Int} (h:a<b):rT s a<rT s b:=(pw_lt s).2 (rvs_mono h)
theorem rT_le (s:Nat) {a b:Int} (h:a≤b):rT s a≤rT s b:=by
 rcases Int.lt_or_eq_of_le h with h|h
 ·exact Int.le_of_lt (rT_mono s h)
 ·rw [h];exact Int.le_refl _
theorem low_uniq {s:Nat} {V l m:Int} (h:IsLow (cR s V) l) (k:IsLow (cR s V) m):l=m:=by
 have key: ∀ {l m:Int},IsLow (cR s V) l→IsLow (cR s V) m→ ¬l<m:=by
  intro l m h k hlt
  obtain ⟨h0,h1,h2,h3⟩:=h
  obtain ⟨k0,k1,k2,k3⟩:=k
  have a1:0<cR s V (l+1):=by rcases h3 with h3|h3
                             ·omega
                             ·exact h3
  have a2:cR s V m≤0:=by rcases k2 with k2|k2
                         ·omega
                         ·exact k2
  have b1:=(cmpI_gt _ _).1 a1
  have b2:=(cmpI_le _ _).1 a2
  have b3:=rT_le s (show l+1≤m by omega)
  omega
 have:=key h k
 have:=key k h
 omega
theorem Rnd.uniq {s:Nat} {V mode x y:Int} {ch dh:Bool} (h:Rnd s V mode x ch) (k:Rnd s V mode y dh):x=y∧ch=dh:=by
 obtain ⟨l,h1,h2⟩:=h
 obtain ⟨m,k1,k2⟩:=k
 have e:=low_uniq h1 k1
 subst e
 rw [←k2] at h2
 exact Prod.mk.inj h2
theorem Rnd.same {s t:Nat} {V U mode x:Int} {ch:Bool} (h:Rnd s V mode x ch) (h1: ∀r,cR s V r=cR t U r) (h2: ∀r,cM s V r=cM t U r) (h3:cmpI V 0=cmpI U 0):Rnd t U mode x ch:=by
 obtain ⟨l,a,b⟩:=h
 have e1:cR s V=cR t U:=funext h1
 have e2:cM s V=cM t U:=funext h2
 rw [e1] at a
 rw [e1,e2,h3] at b
 exact ⟨l,a,b⟩
def upN (neg odd:Bool) (half mode:Int):Bool:=if mode=1 then !neg else if mode=2 then neg else if mode=3 then false else if mode=4 then decide (0≤half) else decide (0<half∨(half=0∧odd=true))
theorem up_pos (near mode R:Int) (h0:0≤mode) (h1:mode≤4):upR false mode near (R+1)=upN false (decide (R%2=1)) near mode:=by
 have:mode=0∨mode=1∨mode=2∨mode=3∨mode=4:=by omega
 unfold upR upN
 rcases this with rfl|rfl|rfl|rfl|rfl
 ·by_cases h:near=0
  ·subst h;simp;omega
  ·simp [h]
 ·simp
 ·simp
 ·simp
 ·by_cases h:near=0
  ·subst h;simp
  ·simp [h];omega
theorem up_neg (near mode R:Int) (h0:0≤mode) (h1:mode≤4):upR true mode (-near) (-R)=!upN true (decide (R%2=1)) near mode:=by
 have:mode=0∨mode=1∨mode=2∨mode=3∨mode=4:=by omega
 rw [Bool.eq_iff_iff,Bool.not_eq_true']
 unfold upR upN
 rcases this with rfl|rfl|rfl|rfl|rfl
 ·by_cases h:near=0
  ·subst h
   rcases Int.emod_two_eq R with e|e
   ·have: -R%2=0:=by omega
    simp [e,this]
   ·have: ¬ -R%2=0:=by omega
    simp [e,this]
  ·have: ¬ -near=0:=by omega
   simp [h,this];omega
 ·simp
 ·simp
 ·simp
 ·by_cases h:near=0
  ·subst h;simp
  ·have: ¬ -near=0:=by omega
   simp [h,this]
def cutN (neg:Bool) (M:Nat) (j mode:Int):Nat:=
 if j≤0 then M*2^(-j).toNat else if M%2^j.toNat≠0∧upN neg (decide (((M/2^j.toNat:Nat):Int)%2=1)) (cmpI ((M%2^j.toNat:Nat):Int) ((2^(j.toNat-1):Nat):Int)) mode=true then M/2^j.toNat+1 else M/2^j.toNat
def cutC (M:Nat) (j:Int):Bool:=if j≤0 then false else decide (M%2^j.toNat≠0)
theorem cmpI_g {a b:Int} (h:b<a):cmpI a b=1:=by unfold cmpI;rw [if_neg (by omega),if_pos h]
theorem cmpI_e {a b:Int} (h:a=b):cmpI a b=0:=(cmpI_eq_zero a b).2 h
end Go.Ulp
namespace Go.Proofs.YtfphmlmgjhebjaaGreatDoor
open Go.RowKit Go.Ulp
set_option maxHeartbeats 1000000
set_option maxRecDepth 100000
theorem up_any (neg odd:Bool) (half mode:Int) (w:World):
 Calls Tryz.prog 214 #[.bool neg,.bool odd,.int .i64 half,.int .i64 mode] w fun e w'=>e=.returned (.bool (upN neg odd half mode))∧w=w':=by
 by_cases h1:mode=1
 ·subst h1
  go_enter Tryz.func214,Tryz.ntmps214
  go_wp2_with fail
  go_ret
  exact ⟨ret_bool (by simp [upN]),rfl⟩
 by_cases h2:mode=2
 ·subst h2
  go_enter Tryz.func214,Tryz.ntmps214
  go_wp2_with fail
  go_ret
  exact ⟨ret_bool (by simp [upN]),rfl⟩
 by_cases h3:mode=3
 ·subst h3
  go_enter Tryz.func214,Tryz.ntmps214
  go_wp2_with fail
  go_ret
  exact ⟨ret_bool (by simp [upN]),rfl⟩
 by_cases h4:mode=4
 ·subst h4
  go_enter Tryz.func214,Tryz.ntmps214
  go_wp2_with fail
  go_ret
  exact ⟨ret_bool (by simp [upN]),rfl⟩
 have b1:(mode==1)=false:=beq_eq_false_iff_ne.2 h1
 have b2:(mode==2)=false:=beq_eq_false_iff_ne.2 h2
 have b3:(mode==3)=false:=beq_eq_false_iff_ne.2 h3
 have b4:(mode==4)=false:=beq_eq_false_iff_ne.2 h4
 have hu:upN neg odd half mode=decide (0<half∨(half=0∧odd=true)):=by unfold upN;rw [if_neg h1,if_neg h2,if_neg h3,if_neg h4]
 rw [hu]
 clear hu h1 h2 h3 h4
 rcases Int.lt_trichotomy half 0 with h|h|h
 ·have c1:decide (0<half)=false:=decide_eq_false (by omega)
  have c2:(half==0)=false:=beq_eq_false_iff_ne.2 (by omega)
  have hr:decide (0<half∨(half=0∧odd=true))=false:=decide_eq_false (fun h2=>by omega)
  rw [hr]
  clear hr
  go_enter Tryz.func214,Tryz.ntmps214
  go_wp2_with fail
  go_ret
  exact ⟨rfl,rfl⟩
 ·subst h
  have hr:decide ((0:Int)<0∨((0:Int)=0∧odd=true))=odd:=by cases odd<;>rfl
  rw [hr]
  clear hr
  go_enter Tryz.func214,Tryz.ntmps214
  go_wp2_with fail
  go_ret
  exact ⟨rfl,rfl⟩
 ·have c1:decide (0<half)=true:=decide_eq_true h
  have hr:decide (0<half∨(half=0∧odd=true))=true:=decide_eq_true (.inl h)
  rw [hr]
  clear hr
  go_enter Tryz.func214,Tryz.ntmps214
  go_wp2_with fail
  go_ret
  exact ⟨rfl,rfl⟩
theorem natLen_any (a0:Option Addr) (c0 m:Nat) (w:World) (h0:Ns .u32 w a0 c0 (limbs m)) (hm:(limbs m).length≤1000000):
 Calls Tryz.prog 94 #[.slice a0 (limbs m).length c0] w fun e w'=>e=.returned (.int .i64 (bl m:Int))∧w=w':=by
 by_cases hz:m=0
 ·subst hz
  rw [limbs_zero]
  go_enter Tryz.func94,Tryz.ntmps94
  go_wp2_with fail
  go_ret
  exact ⟨rfl,rfl⟩
 have hpos:0<(limbs m).length:=(digs_len_pos 4294967296 (by omega) m).2 (by omega)
 obtain ⟨s0,hs⟩: ∃s0,(limbs m).length=s0+1:=⟨(limbs m).length-1,by omega⟩
 obtain ⟨top,htop⟩: ∃top,top=(limbs m).getD s0 0:=⟨_,rfl⟩
 have lN:=limbs_lim m
 have btop:top<4294967296:=by rw [htop];exact lN.getD (by omega) _
 have ptop:0<top:=by
  have:=(trim_iff (limbs m)).1 (limbs_trim m)
  rw [hs] at this
  rcases this with h|h
  ·omega
  ·rw [htop];exact Nat.pos_of_ne_zero h
 obtain ⟨b1,o1,rfl,hc1⟩:=h0.2.2 (by omega)
 have k1:w.cell? ⟨b1,o1+s0,none⟩=some (.int .u32 (top:Int)):=by rw [hc1 s0 (by omega),htop];rfl
 have vn:m=lval ((limbs m).take s0)+4294967296^s0*top:=by
  have:=lval_take_succ (limbs m) s0 (by omega)
  rw [List.take_of_length_le (by omega),lval_limbs,←htop] at this
  exact this
 have hb:bl top≤32:=(bl_le top 32).2 (by simpa using btop)
 have LZ:=hid (show ∀w,Calls Tryz.prog 173 #[.int .u32 (top:Int)] w fun e w'=>e=.returned (.int .i64 (32-(bl top:Int)))∧w=w' from fun w=>(Tryz.bits_LeadingZeros32 (top:Int) w (by omega) (by omega)).mono (by
  rintro e w' ⟨rfl,rfl⟩
  refine ⟨ret_int ?_,rfl⟩
  rw [show ((top:Int)).toNat=top by omega,bitLen_bl2 _ (by omega)]))
 have hbl:(bl m:Int)=32*((s0:Int)+1)-(32-(bl top:Int)):=by
  have e1:(4294967296:Nat)^s0=2^(32*s0):=by rw [Nat.pow_mul]
  have h1:=lval_take_lt (limbs m) s0 lN (by omega)
  rw [e1] at vn h1
  have:=bl_top _ top (32*s0) h1 ptop
  rw [←vn] at this
  omega
 have HB:=hid hbl
 have hcap:=h0.1
 have hcap2:=h0.2.1
 unfold maxLen at hcap2
 obtain ⟨bt,hbt⟩: ∃bt,bt=bl top:=⟨_,rfl⟩
 rw [←hbt] at LZ HB hb
 rw [hs] at hcap hm ⊢
 clear h0 hc1 htop vn hs hpos lN hbl hbt
 go_enter Tryz.func94,Tryz.ntmps94
 go_wp2_with (go_at_call 173;(with_reducible refine (LZ.out _).mono ?_);rintro e w1 ⟨rfl,rfl⟩)
 go_ret
 exact ⟨ret_int (by rw [HB.out];try omega),rfl⟩
end Go.Proofs.YtfphmlmgjhebjaaGreatDoor
namespace Go.Ulp
open Go.RowKit
theorem limbs_odd (q:Nat) (h:0<(limbs q).length):((limbs q).getD 0 0)%2=q%2:=by
 have h1:=val_drop 4294967296 (limbs q) 0 h
 rw [List.drop_zero] at h1
 have h2:=lval_limbs q
 unfold lval at h2
 omega
theorem cut_pos (neg:Bool) (M j:Nat) (mode:Int):cutN neg M ((j+1:Nat):Int) mode=if M%2^(j+1)≠0∧upN neg (decide (((M/2^(j+1):Nat):Int)%2=1)) (cmpI ((M%2^(j+1):Nat):Int) ((2^j:Nat):Int)) mode=true then M/2^(j+1)+1 else M/2^(j+1):=by
 unfold cutN
 rw [if_neg (by omega),Int.toNat_natCast];rfl
theorem cutC_pos (M j:Nat):cutC M ((j+1:Nat):Int)=lostB M (j+1):=by
 unfold cutC lostB
 rw [if_neg (by omega),Int.toNat_natCast]
theorem cut_neg (neg:Bool) (M n:Nat) (mode:Int):cutN neg M (-(n:Int)) mode=M*2^n∧cutC M (-(n:Int))=false:=by
 unfold cutN cutC
 rw [if_pos (by omega),if_pos (by omega),show (-(-(n:Int))).toNat=n by omega]
 exact ⟨rfl,rfl⟩
end Go.Ulp
namespace Go.Proofs.YtfphmlmgjhebjaaGreatDoor
open Go.RowKit Go.Ulp
set_option maxHeartbeats 1000000
set_option maxRecDepth 100000
theorem cut_left (neg:Bool) (a0:Option Addr) (c0 m n:Nat) (mode:Int) (w:World) (h0:Ns .u32 w a0 c0 (limbs m)) (hm:(limbs m).length≤1000000) (hn:n≤1000000):
 Calls Tryz.prog 152 #[.bool neg,.slice a0 (limbs m).length c0,.int .i64 (-(n:Int)),.int .i64 mode] w fun e w'=>RetN2 w (m*2^n) (.bool false) e w':=by
 have H:=hid h0
 clear h0
 go_enter Tryz.func152,Tryz.ntmps152
 go_wp2_with (go_at_call 172;go_loud (with_reducible refine (leftN_any _ _ m n _ H.out (by omega) (by omega)).mono ?_);rintro e w1 ⟨a1,rfl,hN1,hb1⟩)
 go_ret2
 exact ⟨_,rfl,hN1,hb1⟩
theorem cut_right (neg:Bool) (a0:Option Addr) (c0 m j:Nat) (mode:Int) (w:World) (h0:Ns .u32 w a0 c0 (limbs m)) (hm:(limbs m).length≤1000000) (hj:j≤1000000):
 Calls Tryz.prog 152 #[.bool neg,.slice a0 (limbs m).length c0,.int .i64 ((j:Int)+1),.int .i64 mode] w fun e w'=>RetN2 w (cutN neg m ((j+1:Nat):Int) mode) (.bool (cutC m ((j+1:Nat):Int))) e w':=by
 have H:=hid h0
 clear h0
 rw [cut_pos,cutC_pos]
 obtain ⟨q,hq⟩: ∃q,q=m/2^(j+1):=⟨_,rfl⟩
 have RR:=hid (show Calls Tryz.prog 213 #[.slice a0 (limbs m).length c0,.int .i64 ((j:Int)+1)] w fun e w'=>RetN2 w (m/2^(j+1)) (.bool (lostB m (j+1))) e w' from right_any a0 c0 m (j+1) w H.out (by omega) (by omega))
 rw [←hq] at RR ⊢
 have hqm:q≤m:=by rw [hq];exact Nat.div_le_self _ _
 have hql:(limbs q).length≤(limbs m).length:=limbs_len_mono hqm
 have hle:q*2^(j+1)≤m:=by rw [hq];exact Nat.div_mul_le_self _ _
 have hml:(limbs (q*2^(j+1))).length≤(limbs m).length:=limbs_len_mono hle
 have hrest:m-q*2^(j+1)=m%2^(j+1):=by
  rw [hq];have:=Nat.div_add_mod m (2^(j+1));rw [Nat.mul_comm] at this;omega
 have hj1:0<((j+1:Nat):Int):=by omega
 by_cases hl:lostB m (j+1)=false
 ·have hz: ¬m%2^(j+1)≠0:=by unfold lostB at hl;simpa using hl
  rw [if_neg (fun h=>hz h.1)]
  rw [hl] at RR ⊢
  clear hq hqm hql hle hml hrest hz hl
  go_enter Tryz.func152,Tryz.ntmps152
  go_wp2_with (go_at_call 213;(with_reducible refine RR.out.mono ?_);rintro e w1 ⟨a1,rfl,hN1,hb1⟩)
  go_ret2
  exact ⟨_,rfl,hN1,hb1⟩
 ·have hl1:lostB m (j+1)=true:=by simpa using hl
  have hz:m%2^(j+1)≠0:=by unfold lostB at hl1;simpa using hl1
  rw [hl1] at RR ⊢
  obtain ⟨rest,hrs⟩: ∃r,r=m%2^(j+1):=⟨_,rfl⟩
  rw [←hrs] at hz hrest ⊢
  have hrl:(limbs rest).length≤(limbs m).length:=limbs_len_mono (by rw [hrs];exact Nat.mod_le _ _)
  obtain ⟨half,hhalf⟩: ∃x,x=cmpI (rest:Int) ((2^j:Nat):Int):=⟨_,rfl⟩
  obtain ⟨up,hup⟩: ∃x,x=upN neg (decide ((q:Int)%2=1)) half mode:=⟨_,rfl⟩
  have UP:=hid (show ∀od w,od=decide ((q:Int)%2=1)→Calls Tryz.prog 214 #[.bool neg,.bool od,.int .i64 half,.int .i64 mode] w fun e w'=>e=.returned (.bool up)∧w=w' from fun od w h=>by subst h;rw [hup];exact up_any _ _ _ _ w)
  have CM:=hid (show ∀a b c d w,Ns .u32 w a c (limbs rest)→Ns .u32 w b d (limbs (2^j))→Calls Tryz.prog 210 #[.slice a (limbs rest).length c,.slice b (limbs (2^j)).length d] w fun e w'=>e=.returned (.int .i64 half)∧ ∃nq,w'=w.drewN nq from fun a b c d w k0 k1=>by
   have:=compare_any a b c d rest (2^j) w k0 k1
   rw [←hhalf] at this
   exact this)
  have MI:=hid (show ∀a b c d w,Ns .u32 w a c (limbs m)→Ns .u32 w b d (limbs (q*2^(j+1)))→Calls Tryz.prog 211 #[.slice a (limbs m).length c,.slice b (limbs (q*2^(j+1))).length d] w fun e w'=>RetN w rest e w' from fun a b c d w k0 k1=>by
   have:=minus_any a b c d m (q*2^(j+1)) w k0 k1 (by omega) hle
   rwa [hrest] at this)
  have LQ:=hid (show ∀a c w,Ns .u32 w a c (limbs q)→Calls Tryz.prog 172 #[.slice a (limbs q).length c,.int .i64 ((j:Int)+1)] w fun e w'=>RetN w (q*2^(j+1)) e w' from fun a c w k=>leftN_any a c q (j+1) w k (by omega) (by omega))
  have hone:(limbs 1).length≤4294967296:=by
   have:(limbs 1).length≤1:=(digs_len_le 4294967296 (by omega) 1 1).2 (by omega)
   omega
  have LO:=hid (show ∀a c w,Ns .u32 w a c (limbs 1)→Calls Tryz.prog 172 #[.slice a (limbs 1).length c,.int .i64 (j:Int)] w fun e w'=>RetN w (2^j) e w' from fun a c w k=>by have:=leftN_any a c 1 j w k hone (by omega);rwa [Nat.one_mul] at this)
  have PL:=hid (show ∀a b c d w,Ns .u32 w a c (limbs q)→Ns .u32 w b d (limbs 1)→Calls Tryz.prog 163 #[.slice a (limbs q).length c,.slice b (limbs 1).length d] w fun e w'=>RetN w (q+1) e w' from fun a b c d w k0 k1=>plus_any a b c d q 1 w k0 k1 (by omega) hone)
  have OF:=hid (show ∀w,Calls Tryz.prog 95 #[.int .u64 1] w fun e w'=>RetN w 1 e w' from fun w=>natOf_any 1 (by omega) w)
  have hodd:(decide ((q:Int)%2=1))=decide (q%2=1):=by rw [decide_eq_decide];omega
  have hjj:((j+1:Nat):Int)-1=(j:Int):=by omega
  have HRES:=hid (show (if rest≠0∧upN neg (decide ((q:Int)%2=1)) half mode=true then q+1 else q)=if up=true then q+1 else q by
   rw [←hup];by_cases hu:up=true
   ·rw [if_pos ⟨hz,hu⟩,if_pos hu]
   ·rw [if_neg (fun h=>hu h.2),if_neg hu])
  rw [←hhalf,HRES.out]
  have HOD:=hid hodd
  clear hrs hup hhalf hrest hml hle hqm hq hl hl1 HRES hone hz hodd
  go_enter Tryz.func152,Tryz.ntmps152
  go_upto_region 8 with (first
   |(go_at_call 213;(with_reducible refine RR.out.mono ?_);rintro e w1 ⟨a1,rfl,hN1,hb1⟩)
   |(go_at_call 172;(first
    |((with_reducible refine (LQ.out _ _ _ hN1).mono ?_);rintro e w2 ⟨a2,rfl,hN2,hb2⟩)
    |((with_reducible refine (LO.out _ _ _ hN4).mono ?_);rintro e w5 ⟨a5,rfl,hN5,hb5⟩)))
   |(go_at_call 211;(with_reducible refine (MI.out _ _ _ _ _ (H.out.below (below_trans hb1 hb2)) hN2).mono ?_);rintro e w3 ⟨a3,rfl,hN3,hb3⟩)
   |(go_at_call 95;(with_reducible refine (OF.out _).mono ?_);rintro e w4 ⟨a4,rfl,hN4,hb4⟩)
   |(go_at_call 210;(with_reducible refine (CM.out _ _ _ _ _ ((hN3.below hb4).below hb5) hN5).mono ?_);rintro e w6 ⟨rfl,nq,rfl⟩))
  have y6:Below w.heap.size w (w5.drewN nq):=below_trans hb1 (below_trans hb2 (below_trans hb3 (below_trans hb4 (below_trans hb5 (below_drewN (Below.refl _ _) nq)))))
  have n6:Ns .u32 (w5.drewN nq) a1 (limbs q).length (limbs q):=hN1.below (below_trans hb2 (below_trans hb3 (below_trans hb4 (below_trans hb5 (below_drewN (Below.refl _ _) nq)))))
  clear hN1 hN2 hN3 hN4 hN5 hb2 hb3 hb4 hb5 RR CM MI LQ LO
  generalize w5.drewN nq=w6 at *
  have hcap2:=n6.2.1
  unfold maxLen at hcap2
  have N6:=hid n6
  by_cases hq0:(limbs q).length=0
  ·have hqz:q=0:=(limbs_nil q).1 (List.length_eq_zero_iff.1 hq0)
   have UP0:=hid (fun w=>UP.out false w (by subst hqz;rfl))
   have N7:=N6
   rw [hq0] at N7 PL ⊢
   clear n6 hqz
   go_upto_if 55 with (go_at_call 214;(with_reducible refine (UP0.out _).mono ?_);rintro e w7 ⟨rfl,rfl⟩)
   cases up
   ·go_wp2_with fail
    go_ret2
    have:=N6.out
    rw [hq0] at this
    exact ⟨a1,by rw [hq0];rfl,by rw [hq0];exact this,y6⟩
   ·go_wp2_with (first
     |(go_at_call 95;(with_reducible refine (OF.out _).mono ?_);rintro e w8 ⟨a8,rfl,hN8,hb8⟩)
     |(go_at_call 163;(with_reducible refine (PL.out _ _ _ _ _ (N7.out.below hb8) hN8).mono ?_);rintro e w9 ⟨a9,rfl,hN9,hb9⟩))
    go_ret2
    exact ⟨_,rfl,hN9,below_trans (below_trans y6 hb8) hb9⟩
  ·obtain ⟨b1,o1,rfl,hc1⟩:=n6.2.2 (by omega)
   obtain ⟨x,hx⟩: ∃x,x=(limbs q).getD 0 0:=⟨_,rfl⟩
   have k1:w6.cell? ⟨b1,o1,none⟩=some (.int .u32 (x:Int)):=by have:=hc1 0 (by omega);rw [hx];exact this
   have hxo:x%2=q%2:=by rw [hx];exact limbs_odd q (by omega)
   have hx2:x<4294967296:=by rw [hx];exact (limbs_lim q).getD (by omega) 0
   have hpos:0<(limbs q).length:=by omega
   have hx3:(x:Int)%2=0∨(x:Int)%2=1:=by omega
   have UP0:=hid (fun w=>UP.out ((x:Int)%2==1) w (by
    rw [Bool.eq_iff_iff,beq_iff_eq,decide_eq_true_eq];omega))
   clear n6 hc1 hx hxo hq0
   go_upto_if 55 with (go_at_call 214;(with_reducible refine (UP0.out _).mono ?_);rintro e w7 ⟨rfl,rfl⟩)
   cases up
   ·go_wp2_with fail
    go_ret2
    exact ⟨_,rfl,N6.out,y6⟩
   ·go_wp2_with (first
     |(go_at_call 95;(with_reducible refine (OF.out _).mono ?_);rintro e w8 ⟨a8,rfl,hN8,hb8⟩)
     |(go_at_call 163;(with_reducible refine (PL.out _ _ _ _ _ (N6.out.below hb8) hN8).mono ?_);rintro e w9 ⟨a9,rfl,hN9,hb9⟩))
    go_ret2
    exact ⟨_,rfl,hN9,below_trans (below_trans y6 hb8) hb9⟩
theorem cut_any (neg:Bool) (a0:Option Addr) (c0 m:Nat) (k mode:Int) (w:World) (h0:Ns .u32 w a0 c0 (limbs m)) (hm:(limbs m).length≤1000000) (hk: -1000000≤k∧k≤1000000):
 Calls Tryz.prog 152 #[.bool neg,.slice a0 (limbs m).length c0,.int .i64 k,.int .i64 mode] w fun e w'=>RetN2 w (cutN neg m k mode) (.bool (cutC m k)) e w':=by
 by_cases h:k≤0
 ·obtain ⟨n,rfl⟩: ∃n:Nat,k= -(n:Int):=⟨(-k).toNat,by omega⟩
  rw [(cut_neg neg m n mode).1,(cut_neg neg m n mode).2]
  exact cut_left neg a0 c0 m n mode w h0 hm (by omega)
 ·obtain ⟨j,rfl⟩: ∃j:Nat,k=((j+1:Nat):Int):=⟨(k-1).toNat,by omega⟩
  exact cut_right neg a0 c0 m j mode w h0 hm (by omega)
end Go.Proofs.YtfphmlmgjhebjaaGreatDoor
namespace Go.Ulp
open Go.RowKit
def dyB (n:Nat) (e:Int):Bool:=decide (n≤400∧ -10000≤e∧e≤10000)
end Go.Ulp
namespace Go.Proofs.YtfphmlmgjhebjaaGreatDoor
open Go.RowKit Go.Ulp
set_option maxHeartbeats 1000000
set_option maxRecDepth 100000
end Go.Proofs.YtfphmlmgjhebjaaGreatDoor
namespace Go.Ulp
open Go.RowKit
def DC (w:World) (g o:Nat) (neg:Bool) (v:Value) (e:Int):Prop:=w.cell? ⟨g,o,none⟩=some (.bool neg)∧w.cell? ⟨g,o+1,none⟩=some v∧w.cell? ⟨g,o+2,none⟩=some (.int .i64 e)
theorem DC.below {w w':World} {g o:Nat} {neg:Bool} {v:Value} {e:Int} (h:DC w g o neg v e) (hb:Below w.heap.size w w'):DC w' g o neg v e:=by
 obtain ⟨h1,h2,h3⟩:=h
 exact ⟨(hb.cell (World.block_lt_of_cell? _ _ h1)).trans h1,(hb.cell (World.block_lt_of_cell? _ _ h2)).trans h2,(hb.cell (World.block_lt_of_cell? _ _ h3)).trans h3⟩
theorem cell_set_ne {w:World} {g o o':Nat} {u:Value} (h:o≠o'):(w.setCell ⟨g,o,none⟩ u).cell? ⟨g,o',none⟩=w.cell? ⟨g,o',none⟩:=by
 rw [World.cell?_setCell_other]
 intro e
 injection e with _ e2 _
 exact h e2
theorem Ns.set3 {t:TypeId} {w:World} {ao:Option Addr} {cap:Nat} {L:List Nat} {g:Nat} {n:Bool} {v:Value} {k:Int} (h:Ns .u32 w ao cap L) (z:QL t w g n v k) (hv: ∀x,v≠ .int .u32 x) (u0 u1 u2:Value):
 Ns .u32 (((w.setCell ⟨g,0,none⟩ u0).setCell ⟨g,1,none⟩ u1).setCell ⟨g,2,none⟩ u2) ao cap L:=by
 have h1:=Ns.setCell_kind h ⟨g,0,none⟩ u0 (.bool n) z.1.1 (by intro x e;cases e)
 have h2:=Ns.setCell_kind h1 ⟨g,1,none⟩ u1 v ((cell_set_ne (by omega)).trans z.1.2.1) hv
 exact Ns.setCell_kind h2 ⟨g,2,none⟩ u2 (.int .i64 k) ((cell_set_ne (by omega)).trans ((cell_set_ne (by omega)).trans z.2.1)) (by intro x e;cases e)
end Go.Ulp
namespace Go.Proofs.YtfphmlmgjhebjaaGreatDoor
open Go.RowKit Go.Ulp
set_option maxHeartbeats 1000000
set_option maxRecDepth 100000
end Go.Proofs.YtfphmlmgjhebjaaGreatDoor
