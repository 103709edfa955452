/- WantedSays: what the proof leans on, part 14 (Tx2 Tx3 Qm). -/
import Derived.Sort.OwnSorted
import Derived.Lib.AppendIntMem
import Derived.Lib.Join
import Derived.Deep.DeepCutAuto
import Derived.Deep.CutBlock
import Derived.Test.YtfphmlmgjhebjaaGreatDoorKWantedSays2
import Derived.Test.YtfphmlmgjhebjaaGreatDoorKWantedSays6
import Derived.Test.YtfphmlmgjhebjaaGreatDoorKWantedSays8
import Derived.Test.YtfphmlmgjhebjaaGreatDoorKWantedSays11
import Derived.Test.YtfphmlmgjhebjaaGreatDoorKWantedSays12
import Derived.Test.YtfphmlmgjhebjaaGreatDoorKWantedSays13
set_option linter.unusedVariables false
set_option linter.unusedSimpArgs false
namespace Go.Ulp
open Go.RowKit Go.Sort Go.Proofs
def OwnS (base:Nat) (e:TypeId) (w:World) (v:Value) (S:List (List UInt8)):Prop:=w.ownsRow base e 1 v S.length (S.map encStr)
theorem OwnS.nil {base:Nat} {e:TypeId} {w:World}:OwnS base e w (.slice none 0 0) []:=World.ownsRow_nil _ _ _ _
theorem OwnS.kept {base:Nat} {e:TypeId} {w w':World} {v:Value} {S:List (List UInt8)} (h:OwnS base e w v S) (hb:Below w.heap.size w w'):OwnS base e w' v S:=by
 obtain ⟨h1,h2⟩:=h
 refine ⟨h1,?_⟩
 rcases h2 with hn|⟨g,cap,cur,rfl,hg,hh,rest⟩
 ·exact .inl hn
 ·refine .inr ⟨g,cap,cur,rfl,hg,?_,rest⟩
  rw [hb.block g (Array.getElem?_eq_some_iff.1 hh).1];exact hh
def ElemS (P:Program) (t e:TypeId):Prop:=P.underlying t=some (.slice e)∧ ∃i,P.info? e=some i∧i.zero=some (.string ⟨#[]⟩)∧i.size=1∧i.bytes=16
theorem ElemS.mk {P:Program} {t e:TypeId} (h:P.underlying t=some (.slice e)) (hi:(P.info? e).map (fun i=>(i.zero,i.size,i.bytes))=some (some (.string ⟨#[]⟩),1,16)):ElemS P t e:=by
 obtain ⟨i0,h0,h1,h2,h3⟩:=info_parts hi
 exact ⟨h,i0,h0,h1,h2,h3⟩
theorem cell_pushS (w:World) (s:List UInt8) (e:TypeId):(w.alloc (.cells #[.string (bsOf s)] e)).cell? ⟨w.heap.size,0,none⟩=some (encStr s):=by
 rw [World.cell?_alloc_at (hn:=rfl)];simp [bsOf]
section
variable {P:Program} {w:World}
theorem wpList_pushS {ops:Array Oper} {rest:List Oper} {o:Oper} {a:Act} {Q:Exit→Act→World→Prop} {t e:TypeId} (he:ElemS P t e) (hgd:o.guard=none) (s x:Operand)
 (ho:o.op=.call {callee:=.builtin .append,args:= #[s,x],argTypes:= #[t,t]})
 (base:Nat) (S:List (List UInt8)) (d:List UInt8) (v:Value) (hs:a.eval s=v) (hown:OwnS base e w v S) (ad:Addr) (hx:a.eval x=.slice (some ad) 1 1)
 (hcell:w.cell? ad=some (encStr d)) (hlen:S.length≤8796093022206) (hbase:base≤w.heap.size)
 (h: ∀v' w',OwnS base e w' v' (S++ [d])→Below base w w'→(∀b,b<w.heap.size→(∀g n c,v=.slice (some ⟨g,0,none⟩) n c→b≠g)→w'.heap[b]? =w.heap[b]?)→wpList P ops Q rest (a.put o.dst v') w'):wpList P ops Q (o::rest) a w:=by
 obtain ⟨ht,i,hi,hz,hsz,hb⟩:=he
 refine wpList_append_own w hgd s x t ho base e i (.string ⟨#[]⟩) 1 16 ht hi hz hsz hb rfl (by decide) v S.length _ hs hown ad 1 1 [encStr d] hx rfl ?_ ?_ ?_ ?_ hbase ?_
 ·intro j u hj
  match j,hj with
  |0,hj=>
   simp only [List.getElem?_cons_zero,Option.some.injEq] at hj
   subst hj
   have e1:ad.add 0=ad:=by simp [Addr.add]
   rw [e1];exact hcell
 ·intro u hu
  rw [List.mem_singleton] at hu
  subst hu;rfl
 ·unfold maxLen;omega
 ·omega
 ·intro v' w' h1 h2 _
  refine h v' w' ?_ ?_ ?_
  ·unfold OwnS;rw [List.length_append,List.map_append];exact h1
  ·exact ⟨h2.os,h2.tape,h2.output,h2.size,fun b hbk=>h2.block b (by omega) (fun e=>by have:=(hown.lt b e.symm).1;omega)⟩
  ·intro b hb hne
   refine h2.block b hb (fun e=>?_)
   rcases hown.2 with ⟨rfl,_⟩|⟨g,cap,cur,rfl,_⟩
   ·simp [Value.ownBlock] at e
   ·exact hne g _ _ rfl (by simpa [Value.ownBlock] using e)
end
theorem bl_len2 (m n:Nat) (h:(limbs m).length≤n):bl m≤32*n:=by
 have h1:=(digs_len_le 4294967296 (by omega) m n).1 h
 rw [show (4294967296:Nat)=2^32 by decide,←Nat.pow_mul] at h1
 exact (bl_le m _).2 h1
theorem join_flat (L:List (List UInt8)):Lib.join L []=L.flatten:=by
 cases L with
 |nil=>rfl
 |cons x r=>
  rw [Lib.join_cons]
  unfold Lib.joinTail
  simp
theorem flat_len (S:List (List UInt8)) (h: ∀p∈S,0<p.length):S.length≤S.flatten.length:=by
 induction S with
 |nil=>simp
 |cons x r ih=>
  have h1:=ih (fun p hp=>h p (List.mem_cons_of_mem _ hp))
  have h2:=h x (List.mem_cons_self ..)
  rw [List.flatten_cons,List.length_append,List.length_cons];omega
theorem decD_bits (n b:Nat) (h:n<2^b) (hb:0<b):(decD n).length≤b:=by
 obtain ⟨j,rfl⟩: ∃j,b=j+1:=⟨b-1,by omega⟩
 exact decD_len j n (Nat.lt_of_lt_of_le h (Nat.pow_le_pow_left (by omega) _))
def DecSt (n q:Nat) (S:List (List UInt8)):Prop:=decD n=(if q=0 then [] else decD q)++S.reverse.flatten∧(∀p∈S,0<p.length)∧q≤n
theorem DecSt.start (n:Nat) (h:0<n):DecSt n n []:=⟨by rw [if_neg (by omega)];simp,(fun p hp=>by cases hp),Nat.le_refl _⟩
theorem DecSt.step {n q:Nat} {S:List (List UInt8)} (h:DecSt n q S) (h1:0<q/1000000000):DecSt n (q/1000000000) (S++ [padz 9 (decD (q%1000000000))]):=by
 obtain ⟨e,hp,hq⟩:=h
 refine ⟨?_,fun p hp'=>?_,by omega⟩
 ·rw [e,if_neg (by omega),if_neg (by omega),dec_nine q h1];simp
 ·rcases List.mem_append.1 hp' with h9|h9
  ·exact hp p h9
  ·rw [List.mem_singleton] at h9
   rw [h9,padz_len];omega
theorem DecSt.last {n q:Nat} {S:List (List UInt8)} (h:DecSt n q S) (h0:0<q) (h1:q/1000000000=0):DecSt n 0 (S++ [decD (q%1000000000)]):=by
 obtain ⟨e,hp,hq⟩:=h
 refine ⟨?_,fun p hp'=>?_,by omega⟩
 ·rw [e,if_neg (by omega),if_pos rfl,show q%1000000000=q by omega];simp
 ·rcases List.mem_append.1 hp' with h9|h9
  ·exact hp p h9
  ·rw [List.mem_singleton] at h9
   rw [h9];exact decD_pos _
theorem DecSt.len {n q:Nat} {S:List (List UInt8)} (h:DecSt n q S):S.length≤(decD n).length:=by
 obtain ⟨e,hp,_⟩:=h
 have h1:=flat_len S.reverse (fun p hp'=>hp p (List.mem_reverse.1 hp'))
 rw [e,List.length_append]
 rw [List.length_reverse] at h1;omega
theorem DecSt.fin {n:Nat} {S:List (List UInt8)} (h:DecSt n 0 S):S.reverse.flatten=decD n∧0<S.length:=by
 obtain ⟨e,hp,_⟩:=h
 rw [if_pos rfl] at e
 have e2:S.reverse.flatten=decD n:=by rw [e];simp
 refine ⟨e2,?_⟩
 rcases Nat.eq_zero_or_pos S.length with h9|h9
 ·have h8:=List.length_eq_zero_iff.1 h9
  rw [h8] at e2
  exact absurd e2.symm (decD_ne n)
 ·exact h9
theorem below_grown (w:World) (k:Nat) (os:Array Obj):Below w.heap.size w (grow (w.drewN k) os):=
 ⟨rfl,rfl,rfl,by rw [size_grow];exact Nat.le_add_right _ _,fun b hb=>by rw [heap_grow_old _ _ (by exact hb)];rfl⟩
def RetN2F (w:World) (n:Nat) (r:Value) (e:Ending) (w':World):Prop:=
 ∃ao,e=.returned (.tuple #[.slice ao (limbs n).length (limbs n).length,r])∧Ns .u32 w' ao (limbs n).length (limbs n)∧Below w.heap.size w w'∧(∀p,ao=some p→w.heap.size≤p.block)
theorem Ns.far {k:IntKind} {w w':World} {ao:Option Addr} {cap:Nat} {L:List Nat} (h:Ns k w ao cap L) (hh: ∀b off,ao=some ⟨b,off,none⟩→b<w.heap.size→w'.heap[b]? =w.heap[b]?):Ns k w' ao cap L:=by
 refine ⟨h.1,h.2.1,fun hp=>?_⟩
 obtain ⟨b,off,e,hc⟩:=h.2.2 hp
 refine ⟨b,off,e,fun i hi=>?_⟩
 have hb:=World.block_lt_of_cell? _ _ (hc i hi)
 rw [←hc i hi]
 unfold World.cell?
 rw [hh b off e hb]
theorem itoa_nat (r:Nat):Lib.itoa (r:Int)=decD r:=by
 unfold Lib.itoa
 rw [if_neg (by omega),Int.toNat_natCast]
end Go.Ulp
namespace Go.Proofs.YtfphmlmgjhebjaaGreatDoor
open Go.RowKit Go.Ulp Go.Sort
set_option maxHeartbeats 1000000
set_option maxRecDepth 100000
theorem ei_str:ElemS Tryz.prog 177 9:=ElemS.mk Tryz.underlying177 (by kernel_rfl)
def Tab10 (w : World) : Prop := Lib.TabIs Tryz.prog w "internal/strconv.uint64pow10" .u64 Lib.pow10Tab
theorem Tab10.below {w w':World} (h:Tab10 w) (hb:Below w.heap.size w w'):Tab10 w':=Lib.tabBelow_of_tabIs h w' hb
theorem itoa_any (n:Int) (h0: -9223372036854775808≤n) (h1:n≤9223372036854775807) (w:World) (hT:Tab10 w):
 Calls Tryz.prog 168 #[.int .i64 n] w fun e w'=>e=.returned (.string (bsOf (Lib.itoa n)))∧Below w.heap.size w w':=
 (Tryz.strconv_Itoa n h0 h1 w hT).mono fun e w' ⟨he,k,os,hw⟩=>⟨he,by rw [hw];exact below_grown w k os⟩
theorem repeat_any (c:UInt8) (k:Nat) (hk:k≤1000000000) (w:World):
 Calls Tryz.prog 70 #[.string (bsOf [c]),.int .i64 (k:Int)] w fun e w'=>e=.returned (.string (bsOf (List.replicate k c)))∧Below w.heap.size w w':=
 (Tryz.strings_Repeat (bsOf [c]) k w (by omega) (by rw [bs_size];simp;omega)).mono fun e w' ⟨he,hb⟩=>⟨by
  rw [he,bs_list]
  have h9:=Lib.repeatL_replicate c 1 k
  rw [Nat.mul_one] at h9
  rw [show [c]=List.replicate 1 c from rfl,h9];rfl,hb⟩
theorem small_fresh (a0:Option Addr) (c0:Nat) (m b:Nat) (w:World) (h0:Ns .u32 w a0 c0 (limbs m)) (hm:(limbs m).length≤4294967296) (hb0:0<b) (hb1:b<4294967296):
 Calls Tryz.prog 221 #[.slice a0 (limbs m).length c0,.int .u32 (b:Int)] w fun e w'=>RetN2F w (m/b) (.int .u32 ((m%b:Nat):Int)) e w':=by
 have lL:=limbs_lim m
 obtain ⟨hL1,hL2,hL3⟩:=h0
 unfold maxLen at hL2
 go_enter Tryz.func221,Tryz.ntmps221
 go_wp2_with (at_make;refine wpList_zeros ei_u32 (by omega) rfl _ _ rfl (limbs m).length _ _ _ _ rfl rfl (by omega) (by omega) (by omega) ?_;intro w1 hown hbl)
 obtain ⟨g,hg⟩: ∃g,g=w.heap.size:=⟨_,rfl⟩
 rw [←hg] at hown ⊢
 have HG:=hid hg
 clear hg
 go_loopw [7,8] (fun r i wr=> ∃(i0:Int) (rr:Nat) (T:List Nat),i=.int .i64 i0∧ -1≤i0∧i0<(limbs m).length∧r=.int .u64 rr∧rr<b∧Lim T∧T.length=(limbs m).length∧lval (T.drop (i0+1).toNat)*b+rr=lval ((limbs m).drop (i0+1).toNat)∧Own g 181 .u32 wr (.slice (some ⟨g,0,none⟩) (limbs m).length (limbs m).length) T∧Below w.heap.size w wr) (fun _ i _=>(intOf i+1).toNat)
 case atStart=>
  refine ⟨_,0,_,rfl,by omega,by omega,rfl,hb0,AllLt.replicate (by omega),by simp,?_,hown,hbl⟩
  rw [List.drop_eq_nil_iff.2 (by simp),List.drop_eq_nil_iff.2 (by omega)]
  simp [lval,val]
 case round=>
  clear hown hbl
  obtain ⟨i0,rr,T,rfl,hi1,hi2,rfl,hrb,lT,hT,hv,hown,hbl⟩:=hrel
  have HT:=hid hT
  have HV:=hid hv
  clear hT hv
  by_cases hi:i0<0
  ·have hz:(i0+1).toNat=0:=by omega
   have hv:=HV.out
   rw [hz,List.drop_zero,List.drop_zero,lval_limbs] at hv
   have hfin:lval T=m/b:=by rw [←hv,Nat.mul_comm,Nat.mul_add_div hb0,Nat.div_eq_of_lt hrb];rfl
   have hrem:rr=m%b:=by rw [←hv,Nat.mul_comm,Nat.mul_add_mod,Nat.mod_eq_of_lt hrb]
   have HF:=hid hfin
   have HR:=hid hrem
   clear hfin hrem hv hz
   obtain ⟨ao,cap,hval,hN⟩:=hown.ns
   have hfr: ∀p,ao=some p→w.heap.size≤p.block:=fun p hp=>by
    injection hval with h1 _ _
    rw [hp] at h1
    injection h1 with h1
    rw [←h1]
    exact Nat.le_of_eq HG.out.symm
   have HFR:=hid hfr
   have HVV:=hid hval
   clear hval hfr
   go_wp2_with fail
   rw [HVV.out]
   refine (norm_any _ _ _ _ hN lT).mono ?_
   rintro e w' ⟨rfl,rfl⟩
   have hN':=hN.norm lT
   rw [HF.out] at hN' ⊢
   go_wp2_with fail
   go_ret2
   refine ⟨_,?_,hN',hbl,HFR.out⟩
   rw [←HR.out];rfl
  ·obtain ⟨j,rfl⟩:=Int.eq_ofNat_of_zero_le (show 0≤i0 by omega)
   obtain ⟨b0,o0,rfl,hc0⟩:=hL3 (by omega)
   obtain ⟨x,hx⟩: ∃x,x=(limbs m).getD j 0:=⟨_,rfl⟩
   have hx1:x<4294967296:=by rw [hx];exact lL.getD (by omega) j
   have hcell:wr.cell? ⟨b0,o0+j,none⟩=some (.int .u32 (x:Int)):=by
    have h1:=hc0 j (by omega)
    have h2:=hbl.cell (p:=⟨b0,o0+j,none⟩) (World.block_lt_of_cell? w _ h1)
    rw [h2,h1,hx];rfl
   clear hc0 hL3
   have HX:=hid hx
   clear hx
   have hcell2:=hown.cell j (by rw [HT.out];omega)
   have hf:=hown.free j
   have E:=or_join32 (rr:Int) (x:Int) (by omega) (by omega) (by omega) (by omega)
   go_wp2_with fail
   have hlt:rr*4294967296+x<b*4294967296:=by
    have:=Nat.mul_le_mul_right 4294967296 (show rr+1≤b by omega)
    rw [Nat.add_mul] at this;omega
   have hq:(rr*4294967296+x)/b<4294967296:=Nat.div_lt_of_lt_mul hlt
   have hs:=hown.set j ((rr*4294967296+x)/b)
   have eq1:((rr:Int)*4294967296+(x:Int))/(b:Int)%4294967296=(((rr*4294967296+x)/b:Nat):Int):=by
    have:((rr:Int)*4294967296+(x:Int))/(b:Int)=(((rr*4294967296+x)/b:Nat):Int):=by simp
    rw [this];exact Int.emod_eq_of_lt (Int.natCast_nonneg _) (Int.ofNat_lt.2 hq)
   have eq2:((rr:Int)*4294967296+(x:Int))%(b:Int)=(((rr*4294967296+x)%b:Nat):Int):=by simp
   rw [eq1,eq2]
   refine ⟨⟨(j:Int)-1,(rr*4294967296+x)%b,_,rfl,by omega,by omega,rfl,Nat.mod_lt _ hb0,lT.set j _ hq,by rw [List.length_set];exact HT.out,?_,hs,?_⟩,by simp [intOf]⟩
   ·rw [show ((j:Int)-1+1).toNat=j by omega]
    have hv:=HV.out
    rw [show ((j:Int)+1).toNat=j+1 by omega] at hv
    have e1:lval ((T.set j ((rr*4294967296+x)/b)).drop j)=(rr*4294967296+x)/b+4294967296*lval (T.drop (j+1)):=val_drop_set _ _ _ _ (by rw [HT.out];omega)
    have e2:lval ((limbs m).drop j)=(limbs m).getD j 0+4294967296*lval ((limbs m).drop (j+1)):=val_drop _ _ _ (by omega)
    rw [e1,e2,←HX.out]
    exact small_step hv (by have:=Nat.div_add_mod (rr*4294967296+x) b;rw [Nat.mul_comm b] at this;omega)
   ·exact hbl.trans ((hown.set_below _ _).mono (by rw [HG.out];exact Nat.le_refl _))
theorem decimal_any (a0:Option Addr) (c0 n:Nat) (w:World) (h0:Ns .u32 w a0 c0 (limbs n)) (hl:(limbs n).length≤10000000) (hT:Tab10 w):
 Calls Tryz.prog 166 #[.slice a0 (limbs n).length c0] w fun e w'=>e=.returned (.string (bsOf (decD n)))∧Below w.heap.size w w':=by
 have hcap:=h0.1
 have hcap2:=h0.2.1
 unfold maxLen at hcap2
 have H0:=hid h0
 have HT:=hid hT
 rcases Nat.eq_zero_or_pos n with hn|hn
 ·have HL:=hid (show (limbs n).length=0 by rw [hn];rfl)
  have HD:=hid (show decD n= [48] by rw [hn];exact decD_small (n:=0) (by omega))
  have hl0:((limbs n).length:Int)=0:=by rw [HL.out];rfl
  clear h0 hT
  go_enter Tryz.func166,Tryz.ntmps166
  go_wp2_with fail
  go_ret
  exact ⟨by rw [HD.out];rfl,Below.refl _ _⟩
 ·have hln:0<(limbs n).length:=by
   rcases Nat.eq_zero_or_pos (limbs n).length with h9|h9
   ·have:=(limbs_nil n).1 (List.length_eq_zero_iff.1 h9);omega
   ·exact h9
  have hb:=bl_len2 n _ (Nat.le_refl (limbs n).length)
  have hdl:=hid (decD_bits n (bl n) (lt_bl n) ((bl_pos n).2 hn))
  have HB:=hid hb
  have hne:(((limbs n).length:Int)==0)=false:=beq_eq_false_iff_ne.2 (by omega)
  have ST:=hid (DecSt.start n hn)
  have IT:=hid (fun r h0 h1 w t=>itoa_any r h0 h1 w t)
  have RP:=hid (fun k hk w=>repeat_any 48 k hk w)
  clear h0 hT hb hn
  go_enter Tryz.func166,Tryz.ntmps166
  go_wp2_with fail
  go_loopw [0,3,4,5] (fun s0 s3 s4 s5 wr=> ∃(q:Nat) (S:List (List UInt8)) (v:Value) (a:Option Addr) (c:Nat),s0=.slice a (limbs q).length c∧s3=v∧Ns .u32 wr a c (limbs q)∧OwnS w.heap.size 9 wr v S∧DecSt n q S∧Below w.heap.size w wr) (fun s0 _ _ _ wr=>rdL wr s0)
  case atStart=>exact ⟨n,[],_,a0,c0,rfl,rfl,H0.out,OwnS.nil,ST.out,Below.refl _ _⟩
  case round=>
   obtain ⟨q,S,v,a,c,rfl,hv9,hq,hown,hst,hbl⟩:=hrel
   replace hv9:=hv9.symm
   subst hv9
   have hbs:=hbl.size
   by_cases hq0:0<q
   ·have hlq:0<(limbs q).length:=by
     rcases Nat.eq_zero_or_pos (limbs q).length with h9|h9
     ·have:=(limbs_nil q).1 (List.length_eq_zero_iff.1 h9);omega
     ·exact h9
    have hql:(limbs q).length≤(limbs n).length:=digs_len_mono _ (by omega) hst.2.2
    have SM:=hid (show ∀w,Ns .u32 w a c (limbs q)→Calls Tryz.prog 221 #[.slice a (limbs q).length c,.int .u32 1000000000] w (RetN2F w (q/1000000000) (.int .u32 ((q%1000000000:Nat):Int))) from fun w h=>small_fresh a c q 1000000000 w h (by omega) (by omega) (by omega))
    have HG:=hid (show ∀g n c,v=.slice (some ⟨g,0,none⟩) n c→g<wr.heap.size from fun g n c e=>(World.ownsRow.lt hown g (by rw [e];rfl)).2)
    have HSL:=hid (show S.length≤320000000 by have h1:=hst.len;have h2:=hdl.out;have h3:=HB.out;omega)
    have hqc:=hq.1
    have hqc2:=hq.2.1
    unfold maxLen at hqc2
    have HQ:=hid hq
    have HS1:=hid (fun h1=>hst.step h1)
    have HS2:=hid (fun h1=>hst.last hq0 h1)
    have HRD:=hid (rdL_eq hq)
    obtain ⟨q1,hq1⟩: ∃x,x=q/1000000000:=⟨_,rfl⟩
    obtain ⟨r,hr⟩: ∃x,x=q%1000000000:=⟨_,rfl⟩
    have hr1:r<1000000000:=by omega
    have hqq:q1<q:=by omega
    rw [←hq1,←hr] at SM HS1
    rw [←hq1,←hr] at HS2
    have ITr:=hid (show ∀w,Tab10 w→Calls Tryz.prog 168 #[.int .i64 (r:Int)] w fun e w'=>e=.returned (.string (bsOf (decD r)))∧Below w.heap.size w w' from fun w t=>by
     have h9:=IT.out (r:Int) (by omega) (by omega) w t
     rwa [itoa_nat] at h9)
    have hdl9:(decD r).length≤9:=decD_len 8 r (by omega)
    obtain ⟨D,hD⟩: ∃D,D=decD r:=⟨_,rfl⟩
    rw [←hD] at ITr hdl9 HS1 HS2
    obtain ⟨l,hll⟩: ∃l,l=D.length:=⟨_,rfl⟩
    have hsz:(bsOf D).size=l:=by rw [bs_size,hll]
    rw [←hll] at hdl9
    by_cases h1:0<q1
    ·have hl1:0<(limbs q1).length:=by
      rcases Nat.eq_zero_or_pos (limbs q1).length with h9|h9
      ·have:=(limbs_nil q1).1 (List.length_eq_zero_iff.1 h9);omega
      ·exact h9
     have RPl:=hid (show ∀w,Calls Tryz.prog 70 #[.string ⟨#[48]⟩,.int .i64 (9-(l:Int))] w fun e w'=>e=.returned (.string (bsOf (List.replicate (9-l) 48)))∧Below w.heap.size w w' from fun w=>by
      have h9:=RP.out (9-l) (by omega) w
      rw [show ((9-l:Nat):Int)=9-(l:Int) by omega] at h9
      exact h9)
     have hAB: ∀w,(Op.stringOp .add (bsOf (List.replicate (9-l) 48)) (bsOf D)).run Tryz.prog w=.ok (.string (bsOf (padz 9 D))) w:=fun w=>by
      rw [add_bs _ _ (by simp;omega)]
      unfold padz
      rw [←hll]
     have HS:=hid (HS1.out h1)
     have HQQ:=hid hqq
     clear hq1 hr hD hll hst HS1 HS2 hq hqq RP IT
     go_wp2_with (first
      |(go_at_call 221;(with_reducible refine (SM.out _ HQ.out).mono ?_);rintro en w1 ⟨a1,rfl,hN1,hb1,hfr1⟩)
      |(go_at_call 168;(with_reducible refine (ITr.out _ ((HT.out.below hbl).below hb1)).mono ?_);rintro en w2 ⟨rfl,hb2⟩)
      |(go_at_call 70;(with_reducible refine (RPl.out _).mono ?_);rintro en w3 ⟨rfl,hb3⟩)
      |(at_builtin;refine wpList_pushS ei_str rfl _ _ rfl w.heap.size S (padz 9 D) _ rfl (OwnS.kept (((hown.kept hb1).kept hb2).kept hb3) (below_alloc _ _)) ⟨w3.heap.size,0,none⟩ rfl (cell_pushS _ _ _) (by have:=HSL.out;omega) (by simp;have:=hb1.size;have:=hb2.size;have:=hb3.size;omega) ?_;intro v4 w4 hown4 hb4 hfar))
     have hN4:Ns .u32 w4 a1 (limbs q1).length (limbs q1):=Ns.far (((hN1.below hb2).below hb3).below (below_alloc _ _)) (fun b off e hlt=>hfar b hlt (fun g n c e2=>by
      have h7:=hfr1 _ e
      have h8:=HG.out g n c e2
      simp at h7;omega))
     go_roundw
     case rel=>exact ⟨q1,S++ [padz 9 D],v4,a1,_,rfl,rfl,hN4,hown4,HS.out,(below_trans (below_trans hbl hb1) (below_trans hb2 hb3)).trans (((below_alloc _ _).mono (by have:=hb1.size;have:=hb2.size;have:=hb3.size;omega)).trans hb4)⟩
     case measure=>rw [rdL_eq hN4,HRD.out,lval_limbs,lval_limbs];exact HQQ.out
    ·have h10:q1=0:=by omega
     have hl1:decide (0<(limbs q1).length)=false:=by rw [h10];rfl
     have HS:=hid (show DecSt n q1 (S++ [D]) by rw [h10];exact HS2.out h10)
     have HQQ:=hid hqq
     clear hq1 hr hD hll hst HS1 HS2 hq hqq RP IT h1 h10
     go_wp2_with (first
      |(go_at_call 221;(with_reducible refine (SM.out _ HQ.out).mono ?_);rintro en w1 ⟨a1,rfl,hN1,hb1,hfr1⟩)
      |(go_at_call 168;(with_reducible refine (ITr.out _ ((HT.out.below hbl).below hb1)).mono ?_);rintro en w2 ⟨rfl,hb2⟩)
      |(at_builtin;refine wpList_pushS ei_str rfl _ _ rfl w.heap.size S D _ rfl (OwnS.kept ((hown.kept hb1).kept hb2) (below_alloc _ _)) ⟨w2.heap.size,0,none⟩ rfl (cell_pushS _ _ _) (by have:=HSL.out;omega) (by simp;have:=hb1.size;have:=hb2.size;omega) ?_;intro v4 w4 hown4 hb4 hfar))
     have hN4:Ns .u32 w4 a1 (limbs q1).length (limbs q1):=Ns.far ((hN1.below hb2).below (below_alloc _ _)) (fun b off e hlt=>hfar b hlt (fun g n c e2=>by
      have h7:=hfr1 _ e
      have h8:=HG.out g n c e2
      simp at h7;omega))
     go_roundw
     case rel=>exact ⟨q1,S++ [D],v4,a1,_,rfl,rfl,hN4,hown4,HS.out,(below_trans (below_trans hbl hb1) hb2).trans (((below_alloc _ _).mono (by have:=hb1.size;have:=hb2.size;omega)).trans hb4)⟩
     case measure=>rw [rdL_eq hN4,HRD.out,lval_limbs,lval_limbs];exact HQQ.out
   ·have h10:q=0:=by omega
    have hl1:decide (0<(limbs q).length)=false:=by rw [h10];rfl
    rw [h10] at hst
    obtain ⟨hfl,hS0⟩:=hst.fin
    have hSl:=hst.len
    have hd:=hdl.out
    have hbb:=HB.out
    have hsl2:S.length≤320000000:=by omega
    have hqc:=hq.1
    have hqc2:=hq.2.1
    unfold maxLen at hqc2
    rcases hown.2 with ⟨_,h9⟩|⟨g,cap,cur,rfl,hg,hh,r1,r2,r3,r4⟩
    ·omega
    ·have hH:Holds encStr wr g 0 S.toArray:=holds_of_block hh (by simpa using r4)
     have hgl:g<wr.heap.size:=(Array.getElem?_eq_some_iff.1 hh).1
     have RV:=hid (Tryz.slices_Reverse_string g 0 cap S wr hH (by omega))
     have HJ:=hid (show ∀k,Calls Tryz.prog 223 #[.slice (some ⟨g,0,none⟩) S.length cap,.string ⟨#[]⟩] (putRow encStr (Sort.ahead wr k) g 0 S.reverse.toArray) fun e w'=>e=.returned (.string (bsOf (decD n)))∧Below wr.heap.size (putRow encStr (Sort.ahead wr k) g 0 S.reverse.toArray) w' from fun k=>by
      have hP:Holds encStr (putRow encStr (Sort.ahead wr k) g 0 S.reverse.toArray) g 0 S.reverse.toArray:=holds_putRow encStr (Sort.ahead wr k) g 0 S.toArray _ (fun j hj=>hH j hj) (by simp)
      have hz:(putRow encStr (Sort.ahead wr k) g 0 S.reverse.toArray).heap.size=wr.heap.size:=by simp [putRow,mapBlock]
      have h9:=Tryz.strings_Join g 0 cap (S.reverse.map bsOf) ⟨#[]⟩ (putRow encStr (Sort.ahead wr k) g 0 S.reverse.toArray) (fun j x hx=>by
       rw [List.getElem?_map] at hx
       obtain ⟨y,hy,rfl⟩:=Option.map_eq_some_iff.1 hx
       obtain ⟨hj,hy2⟩:=List.getElem?_eq_some_iff.1 hy
       rw [(hP j (by simpa using hj)).1,getElem!_pos _ _ (by simpa using hj)]
       show some (encStr S.reverse[j])=_
       rw [hy2];rfl) (by rw [hz];exact hgl) (by simp;omega) (by simp;omega) (by
       rw [List.map_map,show (fun x:ByteArray=>x.data.toList) ∘ bsOf=id from funext bs_list,List.map_id,show (ByteArray.mk #[]).data.toList= [] from rfl,join_flat,hfl];omega)
      rw [List.map_map,show (fun x:ByteArray=>x.data.toList) ∘ bsOf=id from funext bs_list,List.map_id,show (ByteArray.mk #[]).data.toList= [] from rfl,join_flat,hfl,List.length_map,List.length_reverse] at h9
      refine h9.mono fun e w' ⟨he,hb⟩=>⟨he,?_⟩
      rw [hz] at hb;exact hb)
     have HBP:=hid (show ∀k,Below w.heap.size wr (putRow encStr (Sort.ahead wr k) g 0 S.reverse.toArray) from fun k=>by
      refine ⟨rfl,rfl,rfl,by simp [putRow,mapBlock],fun b hb=>?_⟩
      have:g≠b:=by omega
      simp [putRow,mapBlock,Sort.ahead,Array.getElem?_modify,this])
     clear hH hfl hst hh r3 r4 hown IT RP
     go_wp2_with (first
      |(go_at_call 222;(with_reducible refine RV.out.mono ?_);rintro en w1 ⟨rfl,k9,rfl⟩)
      |(go_at_call 223;(with_reducible refine (HJ.out _).mono ?_);rintro en w2 ⟨rfl,hb2⟩))
     go_ret
     exact ⟨rfl,(hbl.trans (HBP.out k9)).trans (hb2.mono hbs)⟩
end Go.Proofs.YtfphmlmgjhebjaaGreatDoor
namespace Go.Ulp
open Go.RowKit
def rtN (neg:Bool) (a b:Nat) (mode:Int):Nat:=if a%b≠0∧upN neg (decide (a/b%2=1)) (cmpI ((2*(a%b):Nat):Int) (b:Int)) mode=true then a/b+1 else a/b
def rtC (a b:Nat):Bool:=decide (a%b≠0)
theorem ratio_eq {a b c d:Nat} (hb:0<b) (hd:0<d) (h:a*d=c*b):a/b=c/d∧(a%b)*d=(c%d)*b:=by
 have e1:a/b=(a*d)/(b*d):=(Nat.mul_div_mul_right _ _ hd).symm
 have e2:c/d=(c*b)/(d*b):=(Nat.mul_div_mul_right _ _ hb).symm
 refine ⟨by rw [e1,e2,h,Nat.mul_comm b d],?_⟩
 rw [←Nat.mul_mod_mul_right,←Nat.mul_mod_mul_right,h,Nat.mul_comm b d]
theorem cmpI_nat_mul (x y k:Nat) (hk:0<k):cmpI ((x*k:Nat):Int) ((y*k:Nat):Int)=cmpI (x:Int) (y:Int):=by
 unfold cmpI
 have h1: ∀x y:Nat,(((x*k:Nat):Int)<((y*k:Nat):Int))=((x:Int)<(y:Int)):=fun x y=>propext ⟨fun h=>by
  have:=(Nat.mul_lt_mul_right hk).1 (Int.ofNat_lt.1 h);omega,fun h=>Int.ofNat_lt.2 ((Nat.mul_lt_mul_right hk).2 (by omega))⟩
 simp only [h1]
theorem rtN_eq (neg:Bool) {a b c d:Nat} (mode:Int) (hb:0<b) (hd:0<d) (h:a*d=c*b):rtN neg a b mode=rtN neg c d mode∧rtC a b=rtC c d:=by
 obtain ⟨h1,h2⟩:=ratio_eq hb hd h
 have h3:(a%b≠0)=(c%d≠0):=propext ⟨fun h5 h6=>h5 (by
  rw [h6,Nat.zero_mul] at h2
  rcases Nat.mul_eq_zero.1 h2 with h7|h7<;>omega),fun h5 h6=>h5 (by
  rw [h6,Nat.zero_mul] at h2
  rcases Nat.mul_eq_zero.1 h2.symm with h7|h7<;>omega)⟩
 have h4:cmpI ((2*(a%b):Nat):Int) (b:Int)=cmpI ((2*(c%d):Nat):Int) (d:Int):=by
  rw [←cmpI_nat_mul _ b d hd,←cmpI_nat_mul _ d b hb,Nat.mul_assoc,h2,←Nat.mul_assoc,Nat.mul_comm b d]
 unfold rtN rtC
 rw [h1,h4]
 simp only [h3]
 exact ⟨trivial,trivial⟩
theorem rtN_ge (neg:Bool) (a b:Nat) (mode:Int):a/b≤rtN neg a b mode∧rtN neg a b mode≤a/b+1:=by
 unfold rtN;split<;>omega
theorem rtN_le (neg:Bool) (a b:Nat) (mode:Int) (hb:0<b) (k:Nat) (h:a<k*b):rtN neg a b mode≤k:=by
 have:=Nat.div_lt_of_lt_mul (show a<b*k by rw [Nat.mul_comm];exact h)
 have:=(rtN_ge neg a b mode).2
 omega
def ptd (D:List UInt8) (p:Nat):List UInt8:=if p=0 then D else (padz (p+1) D).take ((padz (p+1) D).length-p)++46::(padz (p+1) D).drop ((padz (p+1) D).length-p)
theorem ptd_zero (D:List UInt8):ptd D 0=D:=if_pos rfl
theorem ptd_pos (D:List UInt8) (p:Nat) (h:0<p):ptd D p=(padz (p+1) D).take ((padz (p+1) D).length-p)++46::(padz (p+1) D).drop ((padz (p+1) D).length-p):=if_neg (by omega)
theorem ptd_len (D:List UInt8) (p:Nat):(ptd D p).length≤max (p+1) D.length+1:=by
 unfold ptd
 split
 ·omega
 ·rw [List.length_append,List.length_cons,List.length_take,List.length_drop,padz_len];omega
def dsh (neg:Bool) (L:List UInt8):List UInt8:=if neg=true then 45::L else L
def tnN (k:Int):Nat:=10^k.toNat
def lessT (a b:Nat) (p:Int):Bool:=decide (a*tnN (-p)<b*tnN p)
theorem tnN_pos (k:Int):0<tnN k:=Nat.pow_pos (by omega)
theorem tn_step (p:Int):tnN (p+1)*tnN (-p)=10*(tnN p*tnN (-(p+1))):=by
 unfold tnN
 rcases Int.le_total 0 p with h|h
 ·rw [show (p+1).toNat=p.toNat+1 by omega,show (-p).toNat=0 by omega,show (-(p+1)).toNat=0 by omega,Nat.pow_succ];omega
 ·by_cases h2:p=0
  ·subst h2;decide
  ·rw [show (p+1).toNat=0 by omega,show p.toNat=0 by omega,show (-p).toNat=(-(p+1)).toNat+1 by omega,Nat.pow_succ];omega
theorem lessT_mono (a b:Nat) (p:Int) (h:lessT a b p=true):lessT a b (p+1)=true:=by
 have h:=of_decide_eq_true h
 refine decide_eq_true ?_
 have h1:=tn_step p
 have hp:=tnN_pos (-p)
 have hq:=tnN_pos (-(p+1))
 have h2:a*tnN (-p)*tnN (-(p+1))<b*tnN p*tnN (-(p+1)):=(Nat.mul_lt_mul_right hq).2 h
 have h3:b*tnN (p+1)*tnN (-p)=10*(b*tnN p*tnN (-(p+1))):=by
  rw [Nat.mul_assoc,h1];simp only [Nat.mul_assoc,Nat.mul_left_comm]
 have h4:a*tnN (-(p+1))*tnN (-p)<b*tnN (p+1)*tnN (-p):=by
  rw [h3,Nat.mul_right_comm];omega
 exact (Nat.mul_lt_mul_right hp).1 h4
theorem lessT_le (a b:Nat) (p:Int): ∀k:Nat,lessT a b p=true→lessT a b (p+k)=true
 |0,h=>by rw [show p+((0:Nat):Int)=p by omega];exact h
 |k+1,h=>by
  have h1:=lessT_mono a b _ (lessT_le a b p k h)
  rwa [show p+((k+1:Nat):Int)=p+(k:Int)+1 by omega]
def IsDec (a b:Nat) (p:Int):Prop:=lessT a b p=false∧lessT a b (p+1)=true
theorem lessT_eq {a b c d:Nat} (hb:0<b) (hd:0<d) (h:a*d=c*b) (p:Int):lessT a b p=lessT c d p:=by
 unfold lessT
 rw [decide_eq_decide]
 refine (Nat.mul_lt_mul_right hd).symm.trans (Iff.trans ?_ (Nat.mul_lt_mul_right hb))
 rw [Nat.mul_right_comm a,h,Nat.mul_right_comm c,Nat.mul_right_comm d,Nat.mul_comm d b,Nat.mul_right_comm b]
theorem decD_lt (n:Nat):n<10^(decD n).length:=by
 induction n using Nat.strongRecOn with
 |_ n ih=>
  by_cases h:n<10
  ·rw [decD_small h];simpa using h
  ·have:=ih (n/10) (by omega)
   rw [decD_big h,List.length_append,List.length_singleton,Nat.pow_succ];omega
theorem decD_ge (n:Nat) (h:0<n):10^((decD n).length-1)≤n:=by
 induction n using Nat.strongRecOn with
 |_ n ih=>
  by_cases h1:n<10
  ·rw [decD_small h1];exact h
  ·have h2:=ih (n/10) (by omega) (by omega)
   have h3:=decD_pos (n/10)
   obtain ⟨l,hl⟩: ∃l,(decD (n/10)).length=l+1:=⟨(decD (n/10)).length-1,by omega⟩
   rw [decD_big h1,List.length_append,List.length_singleton,hl,show l+1+1-1=l+1 by omega,Nat.pow_succ]
   rw [hl,show l+1-1=l by omega] at h2
   omega
theorem decD_len_lt (n k:Nat) (h:n<10^k) (hk:0<k):(decD n).length≤k:=by
 obtain ⟨j,rfl⟩: ∃j,k=j+1:=⟨k-1,by omega⟩
 exact decD_len j n h
theorem decD_len_gt (n k:Nat) (h:10^k≤n):k<(decD n).length:=by
 have:=decD_lt n
 exact (Nat.pow_lt_pow_iff_right (by omega:1<10)).1 (Nat.lt_of_le_of_lt h this)
theorem tn_mul (k:Nat) (p:Int):10^k*tnN (-((k:Int)-p))*tnN (-p)=tnN p*tnN ((k:Int)-p):=by
 unfold tnN
 rcases Int.le_total p 0 with h|h
 ·rw [show (-((k:Int)-p)).toNat=0 by omega,show p.toNat=0 by omega,show ((k:Int)-p).toNat=k+(-p).toNat by omega,Nat.pow_add,Nat.pow_zero,Nat.mul_one,Nat.one_mul]
 ·rcases Int.le_total p k with h2|h2
  ·rw [show (-((k:Int)-p)).toNat=0 by omega,show (-p).toNat=0 by omega,←Nat.pow_add,←Nat.pow_add,←Nat.pow_add,show p.toNat+((k:Int)-p).toNat=k+0+0 by omega]
  ·rw [show ((k:Int)-p).toNat=0 by omega,show (-p).toNat=0 by omega,←Nat.pow_add,←Nat.pow_add,←Nat.pow_add,show p.toNat+0=k+(-((k:Int)-p)).toNat+0 by omega]
theorem lessT_tens (a b:Nat) (p:Int) (k:Nat):lessT a b p=decide (a*tnN ((k:Int)-p)<10^k*(b*tnN (-((k:Int)-p)))):=by
 unfold lessT
 rw [decide_eq_decide]
 have h:=tn_mul k p
 have h1:=tnN_pos (-p)
 have h2:=tnN_pos ((k:Int)-p)
 refine (Nat.mul_lt_mul_right h2).symm.trans (Iff.trans ?_ (Nat.mul_lt_mul_right h1))
 have e:10^k*(b*tnN (-((k:Int)-p)))*tnN (-p)=b*tnN p*tnN ((k:Int)-p):=by
  rw [Nat.mul_assoc b,←h];simp only [Nat.mul_assoc,Nat.mul_left_comm]
 rw [e,Nat.mul_right_comm a]
def sciQ (neg:Bool) (a b:Nat) (k:Nat) (p mode:Int):Nat:=rtN neg (a*tnN ((k:Int)-p)) (b*tnN (-((k:Int)-p))) mode
def sciC (a b:Nat) (k:Nat) (p:Int):Bool:=rtC (a*tnN ((k:Int)-p)) (b*tnN (-((k:Int)-p)))
theorem sciQ_bd (neg:Bool) (a b:Nat) (k:Nat) (p mode:Int) (hb:0<b) (h:IsDec a b p):10^k≤sciQ neg a b k p mode∧sciQ neg a b k p mode≤10^(k+1):=by
 have h1:=h.1
 have h2:=h.2
 rw [lessT_tens a b p k] at h1
 rw [lessT_tens a b (p+1) (k+1),show (((k+1:Nat):Int)-(p+1))=(k:Int)-p by omega] at h2
 have h1:=of_decide_eq_false h1
 have h2:=of_decide_eq_true h2
 have hp:=Nat.mul_pos hb (tnN_pos (-((k:Int)-p)))
 unfold sciQ
 exact ⟨Nat.le_trans ((Nat.le_div_iff_mul_le hp).2 (by omega)) (rtN_ge _ _ _ _).1,rtN_le _ _ _ _ hp _ h2⟩
def sciD (q k:Nat):List UInt8:=if 10^(k+1)≤q then decD (q/10) else decD q
def sciP (q k:Nat) (p:Int):Int:=if 10^(k+1)≤q then p+1 else p
theorem sciD_len (q k:Nat) (h0:10^k≤q) (h1:q≤10^(k+1)):(sciD q k).length=k+1:=by
 unfold sciD
 have hp:0<10^k:=Nat.pow_pos (by omega)
 split
 ·rename_i h
  rw [Nat.pow_succ] at h h1
  have e:q/10=10^k:=by omega
  rw [e]
  have h2:=decD_len_gt (10^k) k (Nat.le_refl _)
  have h3:=decD_len k (10^k) (Nat.pow_lt_pow_right (by omega) (by omega))
  omega
 ·rename_i h
  have h2:=decD_len_gt q k h0
  have h3:=decD_len k q (by omega)
  omega
theorem sciD_over (q k:Nat) (h0:10^k≤q) (h1:q≤10^(k+1)):(k+1<(decD q).length)=(10^(k+1)≤q):=by
 refine propext ⟨fun h=>Nat.le_of_not_lt fun h2=>?_,fun h=>decD_len_gt q (k+1) h⟩
 have:=decD_len k q h2
 omega
theorem sciD_take (q k:Nat) (h0:10^k≤q) (h1:q≤10^(k+1)) (h:10^(k+1)≤q):(decD q).take (k+1)=decD (q/10)∧(decD q).length=k+2:=by
 have h2:=sciD_len q k h0 h1
 unfold sciD at h2
 rw [if_pos h] at h2
 have hp:0<10^k:=Nat.pow_pos (by omega)
 have h3: ¬q<10:=by rw [Nat.pow_succ] at h;omega
 rw [decD_big h3,List.take_append_of_le_length (by omega),List.length_append,h2]
 exact ⟨by rw [←h2];exact List.take_length ..,rfl⟩
def pwrT (p:Int):List UInt8:=(if p<0 then 45 else 43)::((if p.natAbs<10 then [48] else [])++decD p.natAbs)
theorem ptd_first (D:List UInt8) (k:Nat) (h:D.length=k+1) (hk:0<k):ptd D k=D.take 1++46::D.drop 1:=by
 rw [ptd_pos D k hk,padz_long _ _ (by omega),h,show k+1-k=1 by omega]
def Fact.q (t:TypeId) (D:Dy) (A T:Nat):Fact:=⟨fun v w=>QD t w D A T v,fun _ _ _ h hb=>h.below hb⟩
end Go.Ulp
namespace Go.Proofs.YtfphmlmgjhebjaaGreatDoor
open Go.RowKit Go.Ulp
set_option maxHeartbeats 1000000
set_option maxRecDepth 100000
theorem qabs_any (v:Value) (D:Dy) (A T:Nat) (w:World) (hv:QD 3 w D A T v) (hA:A≤100000000) (hT:T≤100000000):
 Calls Tryz.prog 206 #[v] w fun e w'=>RetQD 3 w (absD D) A T e w':=by
 obtain ⟨x,n,a0,c0,rfl,h0,hD,hxA,hn⟩:=hv
 have H0:=hid h0
 have ZB:=hid (fun w h0=>zabs_any a0 c0 x w h0)
 have HV:=hid (show nrm (x.natAbs:Int) (-(n:Int))=absD D by rw [←hD,←nrm_natAbs])
 have HA:=hid (show (x.natAbs:Int).natAbs<2^A by rw [Int.natAbs_natCast];exact hxA)
 have zA:QL 33 ((w.alloc (.cells #[.bool (zneg x),.slice a0 (zl x).length c0,.int .i64 (n:Int)] 33)).alloc (.cells #[.bool false,.slice none 0 0,.int .i64 0] 33)) w.heap.size (zneg x) (.slice a0 (zl x).length c0) n:=(QL.made rfl).alloc _
 have zR0:QL 33 ((w.alloc (.cells #[.bool (zneg x),.slice a0 (zl x).length c0,.int .i64 (n:Int)] 33)).alloc (.cells #[.bool false,.slice none 0 0,.int .i64 0] 33)) (w.heap.size+1) false (.slice none 0 0) 0:=QL.made (by first|omega|(simp;done)|(simp;omega))
 have yb0:Below w.heap.size w ((w.alloc (.cells #[.bool (zneg x),.slice a0 (zl x).length c0,.int .i64 (n:Int)] 33)).alloc (.cells #[.bool false,.slice none 0 0,.int .i64 0] 33)):=by (repeat' first|(with_reducible first|assumption|apply bR|apply bA|apply bN|apply bD|apply bL|apply bS)|refine bT ?_ (by assumption)|go_size)
 clear h0 hD hxA
 go_enter Tryz.func206,Tryz.ntmps206
 go_upto_region 1 with fail
 refine wp_region_grow 5 [3,4,5,6,7] [Fact.is (.pointer (some ⟨w.heap.size,0,none⟩)),Fact.is (.agg #[.bool (zneg x),.slice a0 (zl x).length c0]),Fact.z 3 (x.natAbs:Int),Fact.is (.pointer (some ⟨w.heap.size,2,none⟩)),Fact.is (.int .i64 (n:Int))] (by kernel_rfl) (by kernel_rfl) ⟨?o0,?o1,?o2,?o3,?o4,trivial⟩ ?after
 case o0=>(refine oQ rfl ?_;intro ρ w1 R hcon hfn hρ hb hp hR;have e1:ρ (.tmp 1)=.pointer (some ⟨w.heap.size,0,none⟩):=hρ.tmp 1 rfl;clear hρ hp;unfold OpRun;go_simp;exact hR _ _ (Below.refl _ _) rfl)
 case o1=>(refine oQ rfl ?_;intro ρ w1 R hcon hfn hρ hb hp hR;have e3:ρ (.tmp 3)=_:=hp 0 3 rfl rfl;obtain ⟨⟨j0,j1,-,-,-⟩,j2,-⟩:=zA.below hb;clear hρ hp;unfold OpRun;go_simp;exact hR _ _ (Below.refl _ _) rfl)
 case o2=>(refine oQ rfl ?_;intro ρ w1 R hcon hfn hρ hb hp hR;have e4:ρ (.tmp 4)=_:=hp 1 4 rfl rfl;clear hρ hp;unfold OpRun;go_simp;(refine (ZB.out _ (H0.out.below (below_trans yb0 hb))).mono ?_;rintro e wn ⟨az,cz,rfl,hz9,hbn⟩;exact ⟨_,rfl,hR _ _ hbn ⟨az,cz,rfl,hz9⟩⟩))
 case o3=>(refine oQ rfl ?_;intro ρ w1 R hcon hfn hρ hb hp hR;have e1:ρ (.tmp 1)=.pointer (some ⟨w.heap.size,0,none⟩):=hρ.tmp 1 rfl;clear hρ hp;unfold OpRun;go_simp;exact hR _ _ (Below.refl _ _) rfl)
 case o4=>(refine oQ rfl ?_;intro ρ w1 R hcon hfn hρ hb hp hR;have e6:ρ (.tmp 6)=_:=hp 3 6 rfl rfl;obtain ⟨⟨j0,j1,-,-,-⟩,j2,-⟩:=zA.below hb;clear hρ hp;unfold OpRun;go_simp;exact hR _ _ (Below.refl _ _) rfl)
 case after=>
  intro u wn hb hf
  have f5:=hf 2 5 (by omega) rfl
  have e7:u 7=_:=hf 4 7 (by omega) rfl
  clear hf
  simp only [putAll,Act.put,List.setIfInBounds_toArray,List.set_cons_zero,List.set_cons_succ,List.drop_succ_cons,List.drop_zero,List.drop_nil]
  rw [e7]
  obtain ⟨az,cz,e9,hz9⟩:=f5
  rw [e9]
  have zR3:=zR0.below hb
  have yb3:=below_trans yb0 hb
  obtain ⟨⟨k0,k1,f0,f1,hs2⟩,k2,f2⟩:=id zR3
  clear e9
  go_wp2_with fail
  refine bodyPost_ret (by simp [results,Tryz.results206,go_sem,k0,k1,k2];try rfl) rfl ?_
  exact ⟨_,rfl,⟨_,n,az,cz,rfl,((hz9.setCell hs2 (by decide) _ _).setCell (hs2.setCell _ _) (by decide) _ _).setCell ((hs2.setCell _ _).setCell _ _) (by decide) _ _,HV.out,HA.out,hn⟩,((yb3.setCell (by first|omega|(simp;done)|(simp;omega)) _).setCell (by first|omega|(simp;done)|(simp;omega)) _).setCell (by first|omega|(simp;done)|(simp;omega)) _⟩
end Go.Proofs.YtfphmlmgjhebjaaGreatDoor
