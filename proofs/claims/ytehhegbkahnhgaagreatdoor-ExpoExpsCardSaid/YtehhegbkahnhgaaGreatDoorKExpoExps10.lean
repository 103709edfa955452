/- ExpoExps: what the proof leans on, part 10 (Nat11 Nat13b). -/
import Derived.WalkSpells
import Derived.ArgAppend
import Derived.Lib.BitFns
import Derived.Test.YtehhegbkahnhgaaGreatDoorKExpoExps4
import Derived.Test.YtehhegbkahnhgaaGreatDoorKExpoExps5
import Derived.Test.YtehhegbkahnhgaaGreatDoorKExpoExps7
import Derived.Test.YtehhegbkahnhgaaGreatDoorKExpoExps8
import Derived.Test.YtehhegbkahnhgaaGreatDoorKExpoExps9
set_option linter.unusedVariables false
set_option linter.unusedSimpArgs false
namespace Go.Ulp
open Go.RowKit
theorem run_eql_slice_nil {P:Program} (w:World) (t e:TypeId) (a:Option Addr) (n c n' c':Nat) (h:P.underlying t=some (.slice e)):
 (binOp .eql t (.slice a n c) (.slice none n' c')).run P w=.ok (.bool a.isNone) w:=Lib.run_eql_slice_nil w t e a n c n' c' h
theorem own_empty (w:World) (k:IntKind) (e:TypeId):Own w.heap.size e k (w.alloc (.cells #[] e)) (.slice (some ⟨w.heap.size,0,none⟩) 0 0) []:=by
 unfold Own
 exact ⟨by simp [nums],.inr ⟨w.heap.size,0,#[],rfl,Nat.le_refl _,heap_alloc_new w _,Nat.le_refl _,by unfold maxLen;omega,by simp,by simp [nums]⟩⟩
def RetNN (w:World) (q r:Nat) (e:Ending) (w':World):Prop:=
 ∃ao cap bo cbp,e=.returned (.tuple #[.slice ao (limbs q).length cap,.slice bo (limbs r).length cbp])∧Ns .u32 w' ao cap (limbs q)∧Ns .u32 w' bo cbp (limbs r)∧Below w.heap.size w w'
def RetNc (w:World) (n:Nat) (e:Ending) (w':World):Prop:=
 ∃ao cap,e=.returned (.slice ao (limbs n).length cap)∧Ns .u32 w' ao cap (limbs n)∧Below w.heap.size w w'
end Go.Ulp
namespace Go.Proofs.YtehhegbkahnhgaaGreatDoor
open Go.RowKit Go.Ulp
set_option maxHeartbeats 1600000
set_option maxRecDepth 100000
theorem clone_any (ao:Option Addr) (c:Nat) (n:Nat) (w:World) (h:Ns .u32 w ao c (limbs n)) (hl:(limbs n).length≤4294967296):
 Calls Tryz.prog 95 #[.slice ao (limbs n).length c] w fun e w'=>RetNc w n e w':=by
 cases ao with
 |none=>
  have hn:limbs n= []:=by
   rcases Nat.eq_zero_or_pos (limbs n).length with h0|h0
   ·exact List.length_eq_zero_iff.1 h0
   ·obtain ⟨_,_,e,_⟩:=h.2.2 h0;cases e
  have HN:=hid hn
  clear hn
  have hq:=fun w=>run_eql_slice_nil (P:=Tryz.prog) w 36 106 none (limbs n).length c 0 0 ei_u32.1
  go_enter Tryz.func95,Tryz.ntmps95
  go_wp2_with fail
  go_ret
  exact ⟨none,0,by rw [HN.out];rfl,by rw [HN.out];exact Ns.nil,Below.refl _ _⟩
 |some a=>
  have hq:=fun w=>run_eql_slice_nil (P:=Tryz.prog) w 36 106 (some a) (limbs n).length c 0 0 ei_u32.1
  go_enter Tryz.func95,Tryz.ntmps95
  go_wp2_with (at_builtin;go_loud (refine wpList_pushall ei_u32 (by omega) rfl _ _ rfl w.heap.size [] (limbs n) _ rfl (own_empty w .u32 106) _ _ _ rfl rfl (h.below (below_alloc _ _)) (by simp;omega) (by simp) ?_;intro v1 w1 hown1 hb1;obtain ⟨ao1,cap1,rfl,hN1⟩:=hown1.ns))
  go_ret
  exact ⟨ao1,cap1,rfl,hN1,(below_alloc _ _).trans hb1⟩
end Go.Proofs.YtehhegbkahnhgaaGreatDoor
namespace Go.Ulp
open Go.RowKit
theorem bitLenAux_bl2 (f:Nat): ∀n,n<2^f→Lib.bitLenAux f n=bl n:=by
 induction f with
 |zero=>intro n h;have:n=0:=by simpa using h
        subst this;rfl
 |succ f ih=>
  intro n h
  unfold Lib.bitLenAux
  by_cases h0:n=0
  ·subst h0;rfl
  ·rw [if_neg h0,bl_half n (by omega),ih (n/2) (by rw [Nat.pow_succ] at h;omega)]
theorem bitLen_bl2 (n:Nat) (h:n<18446744073709551616):Lib.bitLen n=bl n:=bitLenAux_bl2 64 n (by simpa using h)
theorem over_lead {n lo P top k:Nat} (hn:n=lo+P*top) (hlo:lo<P) (htop:0<top) (hB:top<4294967296) (hk:k=32-bl top):k≤31∧P*2147483648≤n*2^k∧n*2^k<P*4294967296:=by
 have b1:=(bl_pos top).2 htop
 have b2:bl top≤32:=(bl_le top 32).2 (by simpa using hB)
 have l1:=lt_bl top
 have l2:=pow_bl top htop
 have e1:2^bl top*2^k=4294967296:=by rw [←Nat.pow_add,hk,show bl top+(32-bl top)=32 by omega]
 have e2:2^(bl top-1)*2^k=2147483648:=by rw [←Nat.pow_add,hk,show bl top-1+(32-bl top)=31 by omega]
 refine ⟨by omega,?_,?_⟩
 ·rw [←e2,←Nat.mul_assoc]
  exact Nat.mul_le_mul_right _ (Nat.le_trans (Nat.mul_le_mul_left P l2) (by omega))
 ·rw [←e1,←Nat.mul_assoc]
  refine Nat.mul_lt_mul_of_pos_right ?_ (Nat.two_pow_pos k)
  have:P*(top+1)≤P*2^bl top:=Nat.mul_le_mul_left P l1
  rw [Nat.mul_add,Nat.mul_one] at this
  omega
theorem over_step {a u v P Qd M lF:Nat} (hv:0<v) (ha:a<P) (hF:lF=a+P*u) (hlt:lF<v*(P*4294967296)) (hM:M=Qd*(P*4294967296*v)+lF):
 u<v*4294967296∧a+P*(u%v)<v*P∧M=(u/v+4294967296*Qd)*(P*v)+(a+P*(u%v)):=by
 have hP:0<P:=by omega
 have hd:=Nat.div_add_mod u v
 have hm:=Nat.mod_lt u hv
 refine ⟨?_,?_,?_⟩
 ·have h1:P*u<P*(v*4294967296):=by rw [show P*(v*4294967296)=v*(P*4294967296) by rw [Nat.mul_left_comm]];omega
  exact Nat.lt_of_mul_lt_mul_left h1
 ·have h1:P*(u%v+1)≤P*v:=Nat.mul_le_mul_left P hm
  rw [Nat.mul_add,Nat.mul_one] at h1
  rw [Nat.mul_comm v P];omega
 ·rw [hM,hF]
  have e1:P*u=P*v*(u/v)+P*(u%v):=by
   have:=congrArg (fun z=>P*z) hd
   simp only [Nat.mul_add] at this
   rw [←this,Nat.mul_assoc]
  have e2:(u/v+4294967296*Qd)*(P*v)=P*v*(u/v)+Qd*(P*4294967296*v):=by
   rw [Nat.add_mul,Nat.mul_comm (u/v)]
   congr 1
   rw [Nat.mul_comm 4294967296 Qd,Nat.mul_assoc,show P*4294967296*v=4294967296*(P*v) by rw [Nat.mul_comm P,Nat.mul_assoc]]
  omega
theorem over_end {m n k Q r:Nat} (hn:0<n) (h:m*2^k=Q*(n*2^k)+r) (hr:r<n*2^k):Q=m/n∧r/2^k=m%n:=by
 have hk:=Nat.two_pow_pos k
 have h1:Q=m*2^k/(n*2^k):=by
  rw [h,Nat.mul_comm Q,Nat.mul_add_div (by omega),Nat.div_eq_of_lt hr,Nat.add_zero]
 have h2:r=m*2^k%(n*2^k):=by
  rw [h,Nat.mul_comm Q,Nat.mul_add_mod,Nat.mod_eq_of_lt hr]
 refine ⟨?_,?_⟩
 ·rw [h1,Nat.mul_div_mul_right _ _ hk]
 ·rw [h2,Nat.mul_mod_mul_right,Nat.mul_div_cancel _ hk]
theorem Own.block {base:Nat} {e:TypeId} {k:IntKind} {w:World} {v:Value} {L:List Nat} (h:Own base e k w v L) (hl:0<L.length): ∃g cap,v=.slice (some ⟨g,0,none⟩) L.length cap∧L.length≤cap∧cap≤9223372036854775807∧base≤g∧g<w.heap.size:=by
 obtain ⟨h1,h2⟩:=h
 rcases h2 with ⟨_,hn⟩|⟨g,cap,cur,rfl,hg,hh,h3,h4,_⟩
 ·exact absurd hn (by omega)
 ·exact ⟨g,cap,rfl,h3,h4,hg,(Array.getElem?_eq_some_iff.1 hh).1⟩
theorem Own.onl {base g:Nat} {e:TypeId} {k:IntKind} {w w':World} {gq n cap:Nat} {L:List Nat} (h:Own base e k w (.slice (some ⟨gq,0,none⟩) n cap) L) (hne:gq≠g) (hb: ∀b,b≠g→w'.heap[b]? =w.heap[b]?):Own base e k w' (.slice (some ⟨gq,0,none⟩) n cap) L:=by
 obtain ⟨h1,h2⟩:=h
 refine ⟨h1,?_⟩
 rcases h2 with hn|⟨g',cap',cur,hv,hg,hh,rest⟩
 ·exact .inl hn
 ·have:gq=g':=by injection hv with e1;injection e1 with e1;injection e1
  subst this
  refine .inr ⟨gq,cap',cur,hv,hg,?_,rest⟩
  rw [hb gq hne];exact hh
theorem Own.mono2 {base base':Nat} {e:TypeId} {k:IntKind} {w:World} {v:Value} {L:List Nat} (h:Own base e k w v L) (hb:base'≤base):Own base' e k w v L:=by
 obtain ⟨h1,h2⟩:=h
 refine ⟨h1,?_⟩
 rcases h2 with hn|⟨g,cap,cur,rfl,hg,rest⟩
 ·exact .inl hn
 ·exact .inr ⟨g,cap,cur,rfl,Nat.le_trans hb hg,rest⟩
section
variable {P:Program} {w:World}
theorem wpList_grow1 {ops:Array Oper} {rest:List Oper} {o:Oper} {a:Act} {Q:Exit→Act→World→Prop} {t e:TypeId} {k:IntKind} {bytes:Nat} (he:ElemInfo P t e k bytes) (hby:bytes≤8) (hgd:o.guard=none) (s x:Operand)
 (ho:o.op=.call {callee:=.builtin .append,args:= #[s,x],argTypes:= #[t,t]})
 (L:List Nat) (d:Nat) (b off:Nat) (hs:a.eval s=.slice (some ⟨b,off,none⟩) L.length L.length) (hN:Ns k w (some ⟨b,off,none⟩) L.length L) (hp:0<L.length) (ad:Addr) (hx:a.eval x=.slice (some ad) 1 1)
 (hcell:w.cell? ad=some (.int k (d:Int))) (hlen:L.length≤8796093022207)
 (h: ∀v' w',Own w.heap.size e k w' v' (L++ [d])→Below w.heap.size w w'→wpList P ops Q rest (a.put o.dst v') w'):wpList P ops Q (o::rest) a w:=by
 obtain ⟨ht,i,hi,hz,hsz,hb⟩:=he
 have hm:=Nat.mul_le_mul hby hlen
 refine wpList_append_grows w hgd s x t ho e i (.int k 0) 1 bytes ht hi hz hsz hb rfl (by decide) _ L.length L.length (nums k L) hs (fun e=>by cases e) (by rw [nums_len];simp) ?_ ad 1 1 [.int k (d:Int)] hx rfl ?_ ?_ (by omega) (by unfold maxLen;omega) ?_ ?_
 ·intro b' hb' j u hj
  injection hb' with hb'
  subst hb'
  have hj2:j<L.length:=by
   have:=(List.getElem?_eq_some_iff.1 hj).1
   rwa [nums_len] at this
  rw [nums_at k L j hj2] at hj
  injection hj with hj
  subst hj
  obtain ⟨b2,o2,e2,hc⟩:=hN.2.2 hp
  injection e2 with e2
  injection e2 with e3 e4
  subst e3 e4
  have hcj:=hc j hj2
  simp only [Addr.add]
  split
  ·rename_i h0;subst h0;simpa using hcj
  ·exact hcj
 ·intro j u hj
  match j,hj with
  |0,hj=>simp at hj;subst hj;simpa [Addr.add] using hcell
 ·intro u hu;simp at hu;subst hu;rfl
 ·have:(L.length+1)*bytes≤(L.length+1)*8:=Nat.mul_le_mul_left _ hby
  omega
 ·intro v' w' h1 h2
  refine h v' w' ?_ ?_
  ·unfold Own nums;rw [List.length_append,List.map_append];exact h1
  ·exact ⟨h2.os,h2.tape,h2.output,h2.size,fun b hbk=>h2.block b hbk (fun e=>by cases e)⟩
end
end Go.Ulp
namespace Go.Proofs.YtehhegbkahnhgaaGreatDoor
open Go.RowKit Go.Ulp
set_option maxHeartbeats 2000000
set_option maxRecDepth 100000
theorem over_slice (g la cap j s0:Nat) (h1:la+1≤cap) (h2:j+s0+3≤la+1): ∀w,(Instr.sliceAt 36 (.slice (some ⟨g,0,none⟩) (la+1) cap) (some (.int .i64 (j:Int))) (some (.int .i64 ((j:Int)+((s0:Int)+2)+1))) none).run Tryz.prog w=.ok (.slice (some ⟨g,j,none⟩) (s0+3) (cap-j)) w:=by
 intro w
 have x1: ¬cap=j:=by omega
 obtain ⟨e,he⟩: ∃e,e=j+(s0+3):=⟨_,rfl⟩
 have x2:((j:Int)+((s0:Int)+2)+1)=(e:Int):=by omega
 have x3:e≤cap:=by omega
 have x4:j≤e:=by omega
 have x5:e-j=s0+3:=by omega
 rw [x2]
 clear x2 he h1 h2
 go_simp
theorem over_long (a0 a1:Option Addr) (c0 c1:Nat) (m n s0:Nat) (w:World) (h0:Ns .u32 w a0 c0 (limbs m)) (h1:Ns .u32 w a1 c1 (limbs n)) (hm:(limbs m).length≤4294967296) (hs:(limbs n).length=s0+2) (hge:n≤m):
 Calls Tryz.prog 94 #[.slice a0 (limbs m).length c0,.slice a1 (limbs n).length c1] w fun e w'=>RetNN w (m/n) (m%n) e w':=by
 obtain ⟨la,hla⟩: ∃la,la=(limbs m).length:=⟨_,rfl⟩
 obtain ⟨top,htop⟩: ∃top,top=(limbs n).getD (s0+1) 0:=⟨_,rfl⟩
 have lN:=limbs_lim n
 have btop:top<4294967296:=by rw [htop];exact lN.getD (by omega) _
 have ptop:0<top:=by
  have:=(trim_iff (limbs n)).1 (limbs_trim n)
  rw [hs] at this
  rcases this with h|h
  ·omega
  ·rw [htop];exact Nat.pos_of_ne_zero h
 obtain ⟨b1,o1,rfl,hc1⟩:=h1.2.2 (by omega)
 have k1:w.cell? ⟨b1,o1+(s0+1),none⟩=some (.int .u32 (top:Int)):=by rw [hc1 (s0+1) (by omega),htop];rfl
 have hsla:s0+2≤la:=by
  rw [hla,←hs];exact digs_len_mono 4294967296 (by omega) hge
 obtain ⟨b0,o0,rfl,hc0⟩:=h0.2.2 (by omega)
 obtain ⟨k,hk⟩: ∃k,k=32-bl top:=⟨_,rfl⟩
 have vn:n=lval ((limbs n).take (s0+1))+4294967296^(s0+1)*top:=by
  have:=lval_take_succ (limbs n) (s0+1) (by omega)
  rw [List.take_of_length_le (by omega),lval_limbs,←htop] at this
  exact this
 obtain ⟨hk31,hlo,hhi⟩:=over_lead vn (lval_take_lt _ _ lN (by omega)) ptop btop hk
 have LZ:=hid (show ∀w,Calls Tryz.prog 109 #[.int .u32 (top:Int)] w fun e w'=>e=.returned (.int .i64 (k:Int))∧w=w' from fun w=>(Tryz.bits_LeadingZeros32 (top:Int) w (by omega) (by omega)).mono (by
  rintro e w' ⟨rfl,rfl⟩
  refine ⟨ret_int ?_,rfl⟩
  have hb:bl top≤32:=(bl_le top 32).2 (by simpa using btop)
  rw [show ((top:Int)).toNat=top by omega,bitLen_bl2 _ (by omega),hk];omega))
 have CM:=hid (compare_any (some ⟨b0,o0,none⟩) (some ⟨b1,o1,none⟩) c0 c1 m n w h0 h1)
 have hcm: ¬cmpI m n<0:=by unfold cmpI;split<;>(try split)<;>omega
 have hcap0:=h0.1
 have hcap1:=h1.1
 have hcap2:=h0.2.1
 have hcap3:=h1.2.1
 unfold maxLen at hcap2 hcap3
 have H0:=hid h0
 have H1:=hid h1
 have HS:=hid hs
 have HLA:=hid hla
 have VN:=hid vn
 have HK:=hid hk
 have HLO:=hid hlo
 have HHI:=hid hhi
 have HTOP:=hid htop
 rw [hs] at hcap1 CM ⊢
 rw [←hla] at hcap0 CM hm ⊢
 generalize cmpI m n=cm at CM hcm
 clear h0 h1 hs hla vn hk hlo hhi htop hc0 hc1
 go_enter Tryz.func94,Tryz.ntmps94
 go_upto_region 7 with (first
  |(go_at_call 73;(with_reducible refine CM.out.mono ?_);rintro e w1 ⟨rfl,nq,rfl⟩)
  |(go_at_call 109;(with_reducible refine (LZ.out _).mono ?_);rintro e w1 ⟨rfl,rfl⟩))
 have hb1:Below w.heap.size w (w.drewN nq):=below_drewN (Below.refl _ _) nq
 have H0a:=hid (H0.out.below hb1)
 have H1a:=hid (H1.out.below hb1)
 clear k1 CM LZ
 generalize w.drewN nq=w1 at *
 obtain ⟨M,hM⟩: ∃M,M=m*2^k:=⟨_,rfl⟩
 obtain ⟨v,hv⟩: ∃v,v=n*2^k:=⟨_,rfl⟩
 have hMm:m≤M:=by rw [hM];exact Nat.le_mul_of_pos_right _ (Nat.two_pow_pos k)
 have hlM:la≤(limbs M).length:=by rw [HLA.out];exact digs_len_mono 4294967296 (by omega) hMm
 have hMB:M<4294967296^la*2147483648:=by
  have e1:m<4294967296^la:=by have:=lval_lt (limbs m) (limbs_lim m);rwa [lval_limbs,←HLA.out] at this
  rw [hM]
  exact Nat.lt_of_lt_of_le (Nat.mul_lt_mul_of_pos_right e1 (Nat.two_pow_pos k)) (Nat.mul_le_mul_left _ (Nat.le_trans (Nat.pow_le_pow_right (by omega) hk31) (by decide)))
 have hlM2:(limbs M).length≤la+1:=by
  refine (digs_len_le 4294967296 (by omega) M (la+1)).2 ?_
  rw [Nat.pow_succ]
  exact Nat.lt_of_lt_of_le hMB (Nat.mul_le_mul_left _ (by omega))
 have L1:=left_fresh (some ⟨b0,o0,none⟩) c0 m k w1 H0a.out (by rw [←HLA.out];omega) (by omega) (by rw [←HLA.out];omega)
 rw [←HLA.out,←hM] at L1
 have L1:=hid L1
 have L2:=hid (fun w h=>left_fresh (some ⟨b1,o1,none⟩) c1 n k w h (by rw [HS.out];omega) (by omega) (by rw [HS.out];omega))
 rw [HS.out,←hv] at L2
 have hz1:=hb1.size
 have HM:=hid hM
 have HV:=hid hv
 clear hM hv
 go_upto_region 8 with (first
  |(go_at_call 69;(with_reducible refine L1.out.mono ?_);rintro e w2 ⟨ao2,rfl,hN2,hb2,hf2⟩;obtain ⟨bu,ou,rfl,-⟩:=hN2.2.2 (by omega))
  |(at_builtin;go_loud (refine wpList_grow1 ei_u32 (by omega) rfl _ _ rfl (limbs M) 0 bu ou rfl (hN2.below (below_alloc _ _)) (by omega) ⟨w2.heap.size,0,none⟩ rfl (cell_push _ _ _ _ _ (by omega)) (by omega) ?_);intro v3 w3 hown3 hb3;have hb13:=below_trans (below_trans hb2 (below_alloc _ _)) hb3;obtain ⟨g,cap,rfl,hgc,hgc2,hg3,hg4⟩:=hown3.block (by simp))
  |(go_at_call 69;(with_reducible refine (L2.out _ (H1a.out.below hb13)).mono ?_);rintro e w4 ⟨ao4,rfl,hN4,hb4,hf4⟩))
 have hlv:(limbs v).length=s0+2:=by
  refine Nat.le_antisymm ((digs_len_le 4294967296 (by omega) v (s0+2)).2 ?_) (Nat.lt_of_not_le fun h=>?_)
  ·rw [Nat.pow_succ,HV.out];exact HHI.out
  ·have h2:=(digs_len_le 4294967296 (by omega) v (s0+1)).1 h
   have h3:=HLO.out
   rw [←HV.out] at h3
   have:4294967296^(s0+1)*1≤4294967296^(s0+1)*2147483648:=Nat.mul_le_mul_left _ (by omega)
   omega
 rw [hlv] at hN4 ⊢
 obtain ⟨bv,ov,rfl,-⟩:=hN4.2.2 (by omega)
 have hbvg:bv≠g:=by have:=hf4 _ rfl;simp at this;omega
 have hz2:=hb2.size
 have hz3:=hb3.size
 have hz4:=hb4.size
 have hown4:=Own.mono2 (base':=w.heap.size) (hown3.kept hb4) (by simp;omega)
 have hB4:Below w.heap.size w w4:=hb1.trans ((below_trans hb13 hb4).mono (by omega))
 obtain ⟨lu,hlu⟩: ∃lu,lu=(limbs M).length+1:=⟨_,rfl⟩
 have hgc':lu≤cap:=by simpa [hlu] using hgc
 have hlu1:la+1≤lu:=by omega
 have hgw:g<w4.heap.size:=by omega
 have hvw:bv<w4.heap.size:=by
  have hp:=hN4.2.2 (by omega)
  obtain ⟨b',o',e',hc'⟩:=hp
  injection e' with e'
  injection e' with e1 e2
  subst e1 e2
  exact World.block_lt_of_cell? w4 _ (hc' 0 (by omega))
 rw [←hlu]
 have HFL:=hid (show (limbs M++ [0]).length=lu by simp [hlu])
 generalize (limbs M).length=lM at *
 have HLU:=hid hlu
 have HLV:=hid hlv
 have HB4:=hid hB4
 have HN4:=hid hN4
 have HOWN4:=hid hown4
 clear hlu hlv hB4 hN4 hown4 hown3 hb13 hb4 hb3 hb2 hN2 hb1 hgc hf4 hf2 hz1 hz2 hz3 hz4 hg3 hg4 L1 L2 H0 H1 H0a H1a
 go_loopw [9] (fun s9 wr=>s9=.slice (some ⟨g,0,none⟩) lu cap∧wr=w4) (fun _ _=>0)
 case atStart=>exact ⟨rfl,rfl⟩
 case round=>
  obtain ⟨rfl,rfl⟩:=hrel
  obtain ⟨r,hr⟩: ∃r,r=la-(s0+1):=⟨_,rfl⟩
  obtain ⟨gq,hgq⟩: ∃gq,gq=wr.heap.size:=⟨_,rfl⟩
  have hr1:s0+1+r=la:=by omega
  have HR:=hid hr
  clear hr
  have hgg:gq≠g:=by omega
  have hgv:gq≠bv:=by omega
  have HGQ:=hid hgq
  go_upto_region 13 with (at_make;go_loud (refine wpList_zeros ei_u32 (by omega) rfl _ _ rfl r _ _ _ _ rfl rfl (by omega) (by omega) (by omega) ?_);intro w6 hown6 hb6)
  rw [←hgq] at hown6 ⊢
  have hb6':Below w.heap.size w w6:=HB4.out.trans (hb6.mono HB4.out.size)
  have hq6:=Own.mono2 (base':=w.heap.size) hown6 (by have:=HB4.out.size;omega)
  have hu6:=HOWN4.out.kept hb6
  have hN6:=HN4.out.below hb6
  have HQ6:=hid hq6
  have HU6:=hid hu6
  have HN6:=hid hN6
  have HB6:=hid hb6'
  clear hgq hq6 hu6 hN6 hb6' hown6 hb6
  have vpos:0<v:=Nat.pos_of_ne_zero (fun h=>by have:=HLV.out;rw [h] at this;simp [limbs_zero] at this)
  have vtop:0<(limbs v).getD (s0+1) 0:=by
   have h:=(trim_iff (limbs v)).1 (limbs_trim v)
   rw [HLV.out] at h
   rcases h with h|h
   ·omega
   ·exact Nat.pos_of_ne_zero h
  have VP:=hid vpos
  have VT:=hid vtop
  clear vpos vtop
  go_wp2_with fail
  go_loopw [13] (fun s13 wx=> ∃(i0:Int) (F T:List Nat),s13=.int .i64 i0∧ -1≤i0∧i0<r∧F.length=lu∧Lim F∧T.length=r∧Lim T∧lval F<v*4294967296^(i0+1).toNat∧M=lval (T.drop (i0+1).toNat)*(4294967296^(i0+1).toNat*v)+lval F∧Own w.heap.size 106 .u32 wx (.slice (some ⟨g,0,none⟩) lu cap) F∧Own w.heap.size 106 .u32 wx (.slice (some ⟨gq,0,none⟩) r r) T∧Ns .u32 wx (some ⟨bv,ov,none⟩) (s0+2) (limbs v)∧Below w.heap.size w wx) (fun s13 _=>(intOf s13+1).toNat)
  case atStart=>
   have e0:lval (limbs M++ [0])=M:=by rw [lval_snoc,lval_limbs];omega
   refine ⟨(r:Int)-1,limbs M++ [0],List.replicate r 0,by first|rfl|go_num,by omega,by omega,HFL.out,AllLt.append.2 ⟨limbs_lim M,AllLt.cons.2 ⟨by omega,AllLt.nil⟩⟩,by simp,AllLt.replicate (by omega),?_,?_,by have h:=HU6.out;rw [HFL.out] at h;exact h,HQ6.out,HN6.out,HB6.out⟩
   ·rw [e0,show ((r:Int)-1+1).toNat=r by omega]
    have h3:=HLO.out
    rw [←HV.out] at h3
    have h4:=Nat.mul_le_mul_right (4294967296^r) h3
    have h5:4294967296^(s0+1)*2147483648*4294967296^r=4294967296^la*2147483648:=by
     rw [←hr1,Nat.pow_add 4294967296 (s0+1) r,Nat.mul_right_comm]
    omega
   ·rw [e0,show ((r:Int)-1+1).toNat=r by omega,List.drop_eq_nil_iff.2 (by simp)]
    simp [lval,val]
  case round=>
   obtain ⟨i0,F,T,rfl,hi1,hi2,hF,lF,hT,lT,hlt,hME,hu,hq,hN,hB⟩:=hrel
   by_cases hi:i0<0
   ·obtain rfl:i0= -1:=by omega
    rw [show ((-1:Int)+1).toNat=0 by omega,Nat.pow_zero,Nat.mul_one] at hlt
    rw [show ((-1:Int)+1).toNat=0 by omega,Nat.pow_zero,Nat.one_mul,List.drop_zero,HM.out,HV.out] at hME
    have npos:0<n:=Nat.pos_of_ne_zero (fun h=>by have:=HV.out;rw [h] at this;have:=VP.out;omega)
    rw [HV.out] at hlt
    obtain ⟨e1,e2⟩:=over_end npos hME hlt
    have hFt:lval (F.take (s0+2))=lval F:=by
     have h1:=val_take_drop 4294967296 F (s0+2) (by omega)
     have h2:lval F<4294967296^(s0+2):=by
      refine Nat.lt_trans hlt ?_
      rw [Nat.pow_succ];exact HHI.out
     have h3:lval F=lval (F.take (s0+2))+4294967296^(s0+2)*lval (F.drop (s0+2)):=h1
     rcases Nat.eq_zero_or_pos (lval (F.drop (s0+2))) with h4|h4
     ·rw [h4] at h3;omega
     ·have:4294967296^(s0+2)*1≤4294967296^(s0+2)*lval (F.drop (s0+2)):=Nat.mul_le_mul_left _ h4
      omega
    obtain ⟨R,hR⟩: ∃R,R=lval F:=⟨_,rfl⟩
    have hlen:(F.take (s0+2)).length=s0+2:=by rw [List.length_take];omega
    obtain ⟨aoF,capF,hvF,hNF⟩:=hu.ns
    obtain ⟨rfl,rfl⟩:some ⟨g,0,none⟩=aoF∧cap=capF:=by injection hvF with a b c;exact ⟨a,c⟩
    have hNt:=hNF.take (s0+2) cap (by omega) (by omega) (Nat.le_refl _)
    have lFt:Lim (F.take (s0+2)):=lF.take _
    have NM1:=norm_any (some ⟨g,0,none⟩) cap (F.take (s0+2)) wr hNt lFt
    have hNR:=hNt.norm lFt
    have hRl:=limbs_len_le (F.take (s0+2)) lFt
    rw [hFt,←hR] at NM1 hNR hRl
    rw [hlen] at NM1 hRl
    have RT:=right_any (some ⟨g,0,none⟩) (limbs R).length R k wr hNR (by omega) (by omega)
    rw [hR,e2,←hR] at RT
    obtain ⟨aoT,capT,hvT,hNT⟩:=hq.ns
    obtain ⟨rfl,rfl⟩:some ⟨gq,0,none⟩=aoT∧r=capT:=by injection hvT with a b c;exact ⟨a,c⟩
    have NM2:=hid (fun w h=>norm_any (some ⟨gq,0,none⟩) r T w h lT)
    have hNQ:=hid (hNT.norm lT)
    rw [e1] at NM2 hNQ
    rw [hT] at NM2
    have hNT':=hid hNT
    have NM1:=hid NM1
    have RT:=hid RT
    clear hF lF hT lT hlt hME hu hq hN hFt hlen hvF hNF hNt lFt hNR hvT hNT e1 e2 hR
    go_wp2_with (first
     |(go_at_call 108;(with_reducible refine NM1.out.mono ?_);rintro e w7 ⟨rfl,rfl⟩)
     |(go_at_call 107;(with_reducible refine RT.out.mono ?_);rintro e w8 ⟨ao8,rfl,hN8,hb8⟩)
     |(go_at_call 108;(with_reducible refine (NM2.out _ (hNT'.out.below hb8)).mono ?_);rintro e w7 ⟨rfl,rfl⟩))
    go_ret2
    exact ⟨_,_,_,_,rfl,hNQ.out.below hb8,hN8,hB.trans (hb8.mono hB.size)⟩
   ·obtain ⟨j,rfl⟩:=Int.eq_ofNat_of_zero_le (show 0≤i0 by omega)
    have hjr:j<r:=by omega
    have hjs:j+s0+3≤la+1:=by omega
    rw [show ((j:Int)+1).toNat=j+1 by omega,Nat.pow_succ] at hlt hME
    obtain ⟨A,hA⟩: ∃A,A=F.take j:=⟨_,rfl⟩
    obtain ⟨U,hU⟩: ∃U,U=(F.drop j).take (s0+3):=⟨_,rfl⟩
    obtain ⟨C,hC⟩: ∃C,C=(F.drop j).drop (s0+3):=⟨_,rfl⟩
    have hFe:F=A++U++C:=by rw [hA,hU,hC,List.append_assoc,List.take_append_drop,List.take_append_drop]
    have hAl:A.length=j:=by rw [hA,List.length_take];omega
    have hUl:U.length=s0+3:=by rw [hU,List.length_take,List.length_drop];omega
    have lA:Lim A:=by rw [hA];exact lF.take _
    have lU:Lim U:=by rw [hU];exact (lF.drop _).take _
    have lC:Lim C:=by rw [hC];exact (lF.drop _).drop _
    clear hA hU hC
    have eX: ∀X:List Nat,X.length=s0+3→lval (A++X++C)=lval A+4294967296^j*(lval X+4294967296^(s0+3)*lval C):=fun X hX=>by rw [List.append_assoc,lval_append,lval_append,hAl,hX]
    have eF:=eX U hUl
    rw [←hFe] at eF
    have hPA:lval A<4294967296^j:=by have:=lval_lt A lA;rwa [hAl] at this
    have hCz:lval C=0:=by
     rcases Nat.eq_zero_or_pos (lval C) with h|h
     ·exact h
     ·exfalso
      have h1:4294967296^j*(4294967296^(s0+3)*1)≤4294967296^j*(lval U+4294967296^(s0+3)*lval C):=Nat.mul_le_mul_left _ (Nat.le_trans (Nat.mul_le_mul_left _ h) (Nat.le_add_left _ _))
      have h2:=HHI.out
      rw [←HV.out] at h2
      have h3:v*(4294967296^j*4294967296)≤(4294967296^(s0+1)*4294967296)*(4294967296^j*4294967296):=Nat.mul_le_mul_right _ (Nat.le_of_lt h2)
      have h4:(4294967296^(s0+1)*4294967296)*(4294967296^j*4294967296)=4294967296^j*(4294967296^(s0+3)*1):=by
       rw [Nat.mul_one,Nat.mul_left_comm,←Nat.pow_succ 4294967296 (s0+1),←Nat.pow_succ]
      omega
    rw [hCz,Nat.mul_zero,Nat.add_zero] at eF
    obtain ⟨t1,t2,t3⟩:=over_step VP.out hPA eF hlt hME
    obtain ⟨d,hd⟩: ∃d,d=lval U/v:=⟨_,rfl⟩
    have hdB:d<4294967296:=by rw [hd];exact Nat.div_lt_of_lt_mul t1
    rw [hFe] at hu
    have DG:=digit_any g lu cap (cap-j) bv ov (s0+2) w.heap.size s0 A U C (limbs v) wr hUl HLV.out lU (limbs_lim v) VT.out (by rw [lval_limbs];exact t1) hu hN hbvg (by omega) (by omega)
    rw [hAl] at DG
    unfold RetDigit at DG
    rw [lval_limbs,←hd] at DG
    have DG:=hid DG
    have hsl:=over_slice g la cap j s0 (by omega) (by omega)
    have eXX: ∀X:List Nat,X.length=s0+3→lval X=lval U%v→lval (A++X++C)=lval A+4294967296^j*(lval U%v):=fun X h1 h2=>by rw [eX X h1,hCz,h2,Nat.mul_zero,Nat.add_zero]
    have hX0: ∀X:List Nat,X.length=s0+3→(A++X++C).length=lu:=fun X h1=>by rw [←hF,hFe];simp [h1,hUl]
    have hTd:lval ((T.set j d).drop j)=d+4294967296*lval (T.drop (j+1)):=val_drop_set _ _ _ _ (by omega)
    have HXX:=hid eXX
    have HX0:=hid hX0
    have HTD:=hid hTd
    have HDD:=hid hd
    have HT2:=hid t2
    have HT3:=hid t3
    have hTl:=hid hT
    clear hFe eX eF hCz t1 t2 t3 hd eXX hX0 hTd hlt hME hF hu hN hT
    go_wp2_with (go_at_call 123;(with_reducible refine DG.out.mono ?_);rintro e w7 ⟨X,rfl,hXl,lX,hXv,huX,hN7,hb7⟩;have hq7:=hq.onl hgg hb7.2;have hc7:=hq7.cell j (by rw [hTl.out];exact hjr);have hf7:=hq7.free j)
    go_roundw
    case rel=>
     refine ⟨(j:Int)-1,A++X++C,T.set j d,rfl,by omega,by omega,HX0.out X hXl,AllLt.append.2 ⟨AllLt.append.2 ⟨lA,lX⟩,lC⟩,by rw [List.length_set];exact hTl.out,lT.set _ _ hdB,?_,?_,huX.far _ hgg _,hq7.set j d,hN7.setCell_far _ _ (fun _ b off he=>by injection he with he;injection he with h1 h2;rw [←h1];exact hgv),(hB.trans hb7.1).setCell hq7.base _⟩
     ·rw [show ((j:Int)-1+1).toNat=j by omega,HXX.out X hXl hXv];exact HT2.out
     ·rw [show ((j:Int)-1+1).toNat=j by omega,HXX.out X hXl hXv,HTD.out,HDD.out];exact HT3.out
    case measure=>first|(simp [intOf];done)|(simp [intOf];omega)
theorem over_any (a0 a1:Option Addr) (c0 c1:Nat) (m n:Nat) (w:World) (h0:Ns .u32 w a0 c0 (limbs m)) (h1:Ns .u32 w a1 c1 (limbs n)) (hm:(limbs m).length≤4294967296) (hn0:0<n):
 Calls Tryz.prog 94 #[.slice a0 (limbs m).length c0,.slice a1 (limbs n).length c1] w fun e w'=>RetNN w (m/n) (m%n) e w':=by
 by_cases hlt:m<n
 ·have CM:=compare_any a0 a1 c0 c1 m n w h0 h1
  have hcm:cmpI m n= -1:=by unfold cmpI;rw [if_pos (by omega)]
  rw [hcm] at CM
  have CM:=hid CM
  have CL:=hid (fun w h=>clone_any a0 c0 m w h (by omega))
  have e1:m/n=0:=Nat.div_eq_of_lt hlt
  have e2:m%n=m:=Nat.mod_eq_of_lt hlt
  rw [e1,e2]
  have H0:=hid h0
  clear h0 h1 hcm e1 e2
  go_enter Tryz.func94,Tryz.ntmps94
  go_wp2_with (first
   |(go_at_call 73;(with_reducible refine CM.out.mono ?_);rintro e w1 ⟨rfl,nq,rfl⟩)
   |(go_at_call 95;(with_reducible refine (CL.out _ (H0.out.below (below_drewN (Below.refl _ _) nq))).mono ?_);rintro e w2 ⟨ao,cap,rfl,hN,hb⟩))
  go_ret2
  exact ⟨none,0,ao,cap,rfl,Ns.nil,hN,(below_drewN (Below.refl _ _) nq).trans hb⟩
 ·rcases Nat.lt_or_ge (limbs n).length 2 with hl|hl
  ·have hl1:(limbs n).length=1:=by
    have:=(digs_len_pos 4294967296 (by omega) n).2 hn0
    have:0<(limbs n).length:=this
    omega
   have hnB:n<4294967296:=by have:=(digs_len_le 4294967296 (by omega) n 1).1 (by show (limbs n).length≤1;omega);omega
   have hb0:(limbs n).getD 0 0=n:=by
    have h:=lval_limbs n
    have h2:=lval_take_succ (limbs n) 0 (by omega)
    rw [List.take_of_length_le (by omega),h,List.take_zero] at h2
    simp [lval,val] at h2
    exact h2.symm
   have CM:=hid (compare_any a0 a1 c0 c1 m n w h0 h1)
   have hcm: ¬cmpI m n<0:=by unfold cmpI;split<;>(try split)<;>omega
   obtain ⟨b1,o1,rfl,hc1⟩:=h1.2.2 (by omega)
   have k1:w.cell? ⟨b1,o1,none⟩=some (.int .u32 (n:Int)):=by have:=hc1 0 (by omega);rw [Nat.add_zero] at this;rw [this];unfold lb;rw [hb0]
   have SM:=hid (fun w h=>small_any a0 c0 m n w h (by omega) hn0 hnB)
   have OF:=hid (fun (x:Nat) (hx:x<18446744073709551616) w=>natOf_any x hx w)
   have H0:=hid h0
   have hcap1:=h1.1
   have hmn:m%n<n:=Nat.mod_lt _ hn0
   obtain ⟨r,hr⟩: ∃r,r=m%n:=⟨_,rfl⟩
   rw [←hr] at SM hmn ⊢
   rw [hl1] at CM hcap1 ⊢
   generalize cmpI m n=cm at CM hcm
   clear hc1 hl hl1 h0 h1 hb0 hr
   go_enter Tryz.func94,Tryz.ntmps94
   go_wp2_with (first
    |(go_at_call 73;(with_reducible refine CM.out.mono ?_);rintro e w1 ⟨rfl,nq,rfl⟩)
    |(go_at_call 122;(with_reducible refine (SM.out _ (H0.out.below (below_drewN (Below.refl _ _) nq))).mono ?_);rintro e w2 ⟨ao,rfl,hN,hb⟩)
    |(go_at_call 66;(with_reducible refine (OF.out r (by omega) _).mono ?_);rintro e w3 ⟨ao3,rfl,hN3,hb3⟩))
   go_ret2
   exact ⟨_,_,_,_,rfl,hN.below hb3,hN3,(below_drewN (Below.refl _ _) nq).trans (below_trans hb hb3)⟩
  ·exact over_long a0 a1 c0 c1 m n ((limbs n).length-2) w h0 h1 hm (by omega) (by omega)
end Go.Proofs.YtehhegbkahnhgaaGreatDoor
namespace Go.Ulp
open Go.RowKit
end Go.Ulp
namespace Go.Proofs.YtehhegbkahnhgaaGreatDoor
open Go.RowKit Go.Ulp
set_option maxHeartbeats 1000000
set_option maxRecDepth 100000
end Go.Proofs.YtehhegbkahnhgaaGreatDoor
namespace Go.Ulp
open Go.RowKit
end Go.Ulp
namespace Go.Proofs.YtehhegbkahnhgaaGreatDoor
open Go.RowKit Go.Ulp
set_option maxHeartbeats 1000000
set_option maxRecDepth 100000
end Go.Proofs.YtehhegbkahnhgaaGreatDoor
namespace Go.Ulp
open Go.RowKit
theorem limbs_len_iff (n k:Nat):(limbs n).length≤k↔n<4294967296^k:=digs_len_le 4294967296 (by omega) n k
theorem limbs_len_mul (m n a b:Nat) (h1:(limbs m).length≤a) (h2:(limbs n).length≤b):(limbs (m*n)).length≤a+b:=by
 have e1:=(limbs_len_iff m a).1 h1
 have e2:=(limbs_len_iff n b).1 h2
 refine (limbs_len_iff _ _).2 ?_
 rw [Nat.pow_add]
 exact Nat.mul_lt_mul'' e1 e2
theorem limbs_len_mono {m n:Nat} (h:m≤n):(limbs m).length≤(limbs n).length:=digs_len_mono 4294967296 (by omega) h
theorem limbs_len_shl (m k j:Nat) (h:k<32*(j+1)):(limbs (m*2^k)).length≤(limbs m).length+(j+1):=by
 refine limbs_len_mul m (2^k) _ _ (Nat.le_refl _) ((digs_len_le 4294967296 (by omega) _ _).2 ?_)
 rw [show (4294967296:Nat)=2^32 by decide,←Nat.pow_mul]
 exact Nat.pow_lt_pow_right (by omega) h
end Go.Ulp
