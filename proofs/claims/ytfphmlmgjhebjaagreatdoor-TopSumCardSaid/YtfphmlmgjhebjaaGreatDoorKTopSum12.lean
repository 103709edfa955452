/- TopSum: what the proof leans on, part 12 (Gs5 Gs2 Td Gs4 Tw2 Tx0 Tx1). -/
import Derived.Maps.AppendAt
import Derived.Lib.ItoaNum
import Derived.Laws.Concat
import Derived.Test.YtfphmlmgjhebjaaGreatDoorKTopSum1
import Derived.Test.YtfphmlmgjhebjaaGreatDoorKTopSum3
import Derived.Test.YtfphmlmgjhebjaaGreatDoorKTopSum4
import Derived.Test.YtfphmlmgjhebjaaGreatDoorKTopSum9
import Derived.Test.YtfphmlmgjhebjaaGreatDoorKTopSum10
import Derived.Test.YtfphmlmgjhebjaaGreatDoorKTopSum11
set_option linter.unusedVariables false
set_option linter.unusedSimpArgs false
namespace Go.Ulp
open Go.RowKit
def zN (h:Nat):Bool:=decide (classOf (h:Int)=1)
def grQ (L:List Nat) (x:Nat):Nat→Nat
 |0=>x
 |i+1=>plusN (grQ L x i) (L.getD i 0)
def grH (L:List Nat) (x i:Nat):Nat:=restN (grQ L x i) (L.getD i 0)
def grO (L:List Nat) (x:Nat):Nat→List Nat
 |0=> []
 |i+1=>if zN (grH L x i)=true then grO L x i else grO L x i++ [grH L x i]
def grF (L:List Nat) (x:Nat):Nat→Bool
 |0=>false
 |i+1=>grF L x i||!hasVal ((grQ L x (i+1):Nat):Int)
def gwL (L:List Nat) (x:Nat):List Nat:=if zN (grQ L x L.length)=true then grO L x L.length else grO L x L.length++ [grQ L x L.length]
theorem prE_zero' (L:List Nat) (h:prE L=0):L.length≤60∧noTo L L.length=false∧badTo L L.length=false:=by
 unfold prE at h
 by_cases h1:60<L.length
 ·rw [if_pos h1] at h;omega
 ·rw [if_neg h1] at h
  cases hn:noTo L L.length
  ·rw [hn] at h
   cases hb:badTo L L.length
   ·exact ⟨by omega,rfl,rfl⟩
   ·rw [hb] at h;simp at h
  ·rw [hn] at h;simp at h
theorem no_vals' (L:List Nat) (h:noTo L L.length=false): ∀j,j<L.length→hasVal (lb L j)=true:=by
 intro j hj
 cases hv:hasVal (lb L j) with
 |true=>rfl
 |false=>rw [(noTo_iff L L.length).2 ⟨j,hj,hv⟩] at h;cases h
def gwE (L:List Nat) (x:Nat):Int:=if prE L=0 then (if hasVal (x:Int)=true then (if grF L x L.length=true then 2 else 0) else 4) else prE L
def gwA (L:List Nat) (x:Nat):List Nat:=if gwE L x=0 then gwL L x else []
theorem grQ_lt (L:List Nat) (x:Nat) (hx:x<18446744073709551616): ∀i,grQ L x i<18446744073709551616
 |0=>hx
 |i+1=>plusN_lt _ _
theorem grH_lt (L:List Nat) (x i:Nat):grH L x i<18446744073709551616:=restN_lt _ _
theorem grF_mono (L:List Nat) (x i:Nat) (h:grF L x i=true): ∀j,i≤j→grF L x j=true:=by
 intro j hj
 obtain ⟨k,rfl⟩: ∃k,j=i+k:=⟨j-i,by omega⟩
 clear hj
 induction k with
 |zero=>exact h
 |succ k ih=>show (grF L x (i+k)||_)=true;rw [ih];rfl
theorem grQ_val (L:List Nat) (x:Nat) (hx:hasVal (x:Int)=true): ∀i,grF L x i=false→hasVal ((grQ L x i:Nat):Int)=true
 |0,_=>hx
 |i+1,h=>by
  have h2:(grF L x i||!hasVal ((grQ L x (i+1):Nat):Int))=false:=h
  cases hv:hasVal ((grQ L x (i+1):Nat):Int) with
  |true=>rfl
  |false=>rw [hv,Bool.not_false,Bool.or_true] at h2;cases h2
theorem grO_len (L:List Nat) (x:Nat): ∀i,(grO L x i).length≤i
 |0=>Nat.le_refl _
 |i+1=>by
  have:=grO_len L x i
  show (if zN (grH L x i)=true then grO L x i else grO L x i++ [grH L x i]).length≤i+1
  split
  ·omega
  ·rw [List.length_append];simp;omega
theorem gwL_len (L:List Nat) (x:Nat):(gwL L x).length≤L.length+1:=by
 have:=grO_len L x L.length
 unfold gwL
 split
 ·omega
 ·rw [List.length_append];simp;omega
section
variable {P:Program} {w:World}
theorem wpList_push64k {ops:Array Oper} {rest:List Oper} {o:Oper} {a:Act} {Q:Exit→Act→World→Prop} {t e:TypeId} {k:IntKind} {bytes:Nat} (he:ElemInfo P t e k bytes) (hby:bytes≤8) (hgd:o.guard=none) (s x:Operand)
 (ho:o.op=.call {callee:=.builtin .append,args:= #[s,x],argTypes:= #[t,t]})
 (base:Nat) (L:List Nat) (d:Nat) (v:Value) (hs:a.eval s=v) (hown:Own base e k w v L) (ad:Addr) (hx:a.eval x=.slice (some ad) 1 1)
 (hcell:w.cell? ad=some (.int k (d:Int))) (hlen:L.length≤17592186044415) (hbase:base≤w.heap.size)
 (h: ∀v' w',Own base e k w' v' (L++ [d])→Below base w w'→(∀b,b<w.heap.size→v.ownBlock≠some b→w'.heap[b]? =w.heap[b]?)→(v'.ownBlock=v.ownBlock∨v'.ownBlock=some w.heap.size)→wpList P ops Q rest (a.put o.dst v') w'):wpList P ops Q (o::rest) a w:=by
 obtain ⟨ht,i,hi,hz,hsz,hb⟩:=he
 refine wpList_append_own_at w hgd s x t ho base e i (.int k 0) 1 bytes ht hi hz hsz hb rfl (by decide) v L.length _ hs hown ad 1 1 [.int k (d:Int)] hx rfl ?_ ?_ ?_ ?_ hbase ?_
 ·intro j u hj
  match j,hj with
  |0,hj=>simp at hj;subst hj;simpa [Addr.add] using hcell
 ·intro u hu;simp at hu;subst hu;rfl
 ·unfold maxLen;omega
 ·have:(L.length+1)*bytes≤(L.length+1)*8:=Nat.mul_le_mul_left _ hby
  omega
 ·intro v' w' h1 h2 _ h4
  refine h v' w' ?_ ?_ ?_ h4
  ·unfold Own nums;rw [List.length_append,List.map_append];exact h1
  ·exact ⟨h2.os,h2.tape,h2.output,h2.size,fun b hbk=>h2.block b (by omega) (fun e=>by have:=(hown.lt b e.symm).1;omega)⟩
  ·exact fun b hb hne=>h2.block b hb (fun e=>hne e.symm)
end
theorem Own.off {base:Nat} {e:TypeId} {k:IntKind} {w:World} {v:Value} {L:List Nat} (h:Own base e k w v L) (a:Addr) (hne:v.ownBlock≠some a.block) (u:Value):Own base e k (w.setCell a u) v L:=by
 obtain ⟨h1,h2⟩:=h
 refine ⟨h1,?_⟩
 rcases h2 with hn|⟨g',cap',cur,hv,hg,hh,rest⟩
 ·exact .inl hn
 ·refine .inr ⟨g',cap',cur,hv,hg,?_,rest⟩
  have hne2:a.block≠g':=by intro e9;apply hne;rw [hv,e9];rfl
  rw [←hh]
  exact heap_setCell_other w a g' u (Ne.symm hne2)
def GV (base:Nat) (e:TypeId) (w:World) (g:Nat) (Q:List Nat):Prop:= ∃v,CV w g v∧Own base e .u64 w v Q∧v.ownBlock≠some g
theorem GV.below {base:Nat} {e:TypeId} {w w':World} {g:Nat} {Q:List Nat} (h:GV base e w g Q) (hb:Below w.heap.size w w'):GV base e w' g Q:=by
 obtain ⟨v,h1,h2,h3⟩:=h
 exact ⟨v,h1.below hb,h2.kept hb,h3⟩
end Go.Ulp
namespace Go.Proofs.YtfphmlmgjhebjaaGreatDoor
open Go.RowKit Go.Ulp
set_option maxHeartbeats 2000000
set_option maxRecDepth 100000
theorem add1_any (base g:Nat) (Q:List Nat) (h:Nat) (hh:h<18446744073709551616) (w:World) (hQ:Q.length≤1000000) (hg:base≤g) (hbase:base≤w.heap.size) (hv:GV base 22 w g Q):
 Calls Tryz.prog 81 #[.int .u64 (h:Int),.pointer (some ⟨g,0,none⟩)] w fun e w'=>(∃r,e=.returned r)∧GV base 22 w' g (if zN h=true then Q else Q++ [h])∧Below base w w':=by
 have CL:=hid (fun w=>class_any (h:Int) (by omega) (by omega) w)
 have HZ:=hid (show zN h=decide (classOf (h:Int)=1) from rfl)
 obtain ⟨c,hc⟩: ∃c,c=classOf (h:Int):=⟨_,rfl⟩
 rw [←hc] at CL HZ
 by_cases h1:c=1
 ·have hz:zN h=true:=by rw [HZ.out,h1];rfl
  rw [if_pos hz]
  have hb1:(c !=1)=false:=by rw [h1];rfl
  clear hc HZ hz h1
  go_enter Tryz.func81,Tryz.ntmps81
  go_wp2_with (go_at_call 33;(with_reducible refine (CL.out _).mono ?_);rintro en w1 ⟨rfl,rfl⟩)
  refine bodyPost_end (results_none rfl _ _ _) rfl ?_
  exact ⟨⟨_,rfl⟩,hv,Below.refl _ _⟩
 ·have hz: ¬zN h=true:=by rw [HZ.out,decide_eq_true_eq];exact h1
  rw [if_neg hz]
  have hb1:(c !=1)=true:=bne_iff_ne.2 h1
  obtain ⟨v,⟨k0,k1⟩,hown,hne⟩:=hv
  have hgl:=World.block_lt_of_cell? _ _ k0
  have HN:=hid hne
  clear hc HZ hz h1 hne
  go_enter Tryz.func81,Tryz.ntmps81
  go_wp2_with (first
   |(go_at_call 33;(with_reducible refine (CL.out _).mono ?_);rintro en w1 ⟨rfl,rfl⟩)
   |(at_builtin;go_loud (refine wpList_push64k ei_u64 (by omega) rfl _ _ rfl base Q h _ rfl (Own.alloc hown _) ⟨w.heap.size,0,none⟩ rfl (cell_push _ _ _ _ _ rfl) (by omega) (by simp;omega) ?_;intro v1 w1 hown1 hb1 hk1 hob;have hkg:=hk1 g (by simp;omega) HN.out;have c0:=(World.cell?_of_block (a:=⟨g,0,none⟩) hkg).trans (((below_alloc w _).cell (p:=⟨g,0,none⟩) hgl).trans k0);have c1:=(World.frozen?_of_block (a:=⟨g,0,none⟩) hkg).trans (((below_alloc w _).frozen (p:=⟨g,0,none⟩) hgl).trans k1);obtain ⟨a1,cp1,rfl,hN1⟩:=hown1.ns)))
  have hn1:Value.ownBlock (.slice a1 (Q++ [h]).length cp1)≠some g:=by
   rcases hob with e9|e9
   ·rw [e9];exact HN.out
   ·rw [e9];simp;omega
  have hcv:CV w1 g v:=⟨c0,c1⟩
  simp only [List.length_append,List.length_cons,List.length_nil,Nat.zero_add] at hn1 hown1
  have hw:=(((below_alloc w (.cells #[.int .u64 (h:Int)] 22)).mono hbase).trans hb1)
  refine bodyPost_end (results_none rfl _ _ _) rfl ?_
  exact ⟨⟨_,rfl⟩,⟨_,hcv.put,hown1.off ⟨g,0,none⟩ hn1 _,hn1⟩,hw.setCell (p:=⟨g,0,none⟩) hg _⟩
theorem clip64_any (ao:Option Addr) (cap:Nat) (L:List Nat) (w:World) (h:Ns .u64 w ao cap L):
 Calls Tryz.prog 83 #[.slice ao L.length cap] w fun e w'=>(∃c,e=.returned (.slice ao L.length c)∧Ns .u64 w ao c L)∧w=w':=by
 have HN:=hid h
 have h1:=h.1
 have h2:=h.2.1
 unfold maxLen at h2
 have HR:=hid (show Ns .u64 w ao L.length L from ⟨Nat.le_refl _,by unfold maxLen;omega,h.2.2⟩)
 cases ao with
 |none=>
  have hz:L.length=0:=by
   rcases Nat.eq_zero_or_pos L.length with h0|h0
   ·exact h0
   ·obtain ⟨_,_,e,_⟩:=h.2.2 h0;cases e
  rw [hz] at h1 HR ⊢
  clear h
  go_enter Tryz.func83,Tryz.ntmps83
  go_wp2_with fail
  go_ret
  exact ⟨⟨_,rfl,HR.out⟩,rfl⟩
 |some a=>
  clear h
  go_enter Tryz.func83,Tryz.ntmps83
  go_wp2_with fail
  go_ret
  exact ⟨⟨_,rfl,HR.out⟩,rfl⟩
theorem growAdd_any (ao:Option Addr) (cap:Nat) (L:List Nat) (x:Nat) (w:World) (h:Ns .u64 w ao cap L) (hL: ∀j,lb L j<18446744073709551616) (hx:x<18446744073709551616) (hT:Tab 1 w):
 Calls Tryz.prog 29 #[.slice ao L.length cap,.int .u64 (x:Int)] w fun e w'=> ∃a c,e=.returned (.tuple #[.slice a (gwA L x).length c,.int .i64 (gwE L x)])∧Ns .u64 w' a c (gwA L x)∧Below w.heap.size w w':=by
 have CK:=hid (fun w h t=>growCheck_any ao cap L w h hL t)
 have HN:=hid h
 have hcap:=h.1
 have hcap2:=h.2.1
 unfold maxLen at hcap2
 have HT:=hid hT
 have HVX:=hid (fun w=>hasValue_any (x:Int) (by omega) (by omega) w)
 by_cases hp:prE L=0
 ·rw [hp] at CK
  obtain ⟨p1,p2,-⟩:=prE_zero' L hp
  cases hv:hasVal (x:Int)
  ·rw [hv] at HVX
   have e1:gwE L x=4:=by unfold gwE;rw [if_pos hp,hv];rfl
   have e2:gwA L x= []:=by unfold gwA;rw [e1];rfl
   rw [e1,e2]
   clear h hL hT hp p1 p2 hv e1 e2
   go_enter Tryz.func29,Tryz.ntmps29
   go_wp2_with (first
    |(go_at_call 80;(with_reducible refine (CK.out _ HN.out HT.out).mono ?_);rintro en w1 ⟨rfl,hb1⟩)
    |(go_at_call 47;(with_reducible refine (HVX.out _).mono ?_);rintro en w2 ⟨rfl,rfl⟩))
   go_ret2
   exact ⟨none,0,rfl,Ns.nil,hb1⟩
  ·rw [hv] at HVX
   have e1:gwE L x=if grF L x L.length=true then 2 else 0:=by unfold gwE;rw [if_pos hp,if_pos hv]
   have QV:=hid (fun i h=>grQ_val L x hv i h)
   have QL:=hid (grQ_lt L x hx)
   have VL:=hid (show ∀j,j<L.length→hasVal (lb L j)=true from no_vals' L p2)
   have FM:=hid (fun i h=>grF_mono L x i h L.length)
   have TS:=hid (fun (a b:Nat) ha hb w t=>twoSum_any a b ha hb w t)
   have HLL:=hid hL
   have OL:=hid (grO_len L x)
   have hE1:=hid e1
   have hA1:=hid (show gwA L x=if gwE L x=0 then gwL L x else [] from rfl)
   have hmf: ∀fn first cap w,(Instr.makeFunc fn first cap).run Tryz.prog w=.ok (.func fn first cap) w:=fun _ _ _ _=>rfl
   clear h hL hT hp p2 hv e1
   go_enter Tryz.func29,Tryz.ntmps29
   go_upto_region 7 with (first
    |(go_at_call 80;(with_reducible refine (CK.out _ HN.out HT.out).mono ?_);rintro en w1 ⟨rfl,hb1⟩)
    |(go_at_call 47;(with_reducible refine (HVX.out _).mono ?_);rintro en w2 ⟨rfl,rfl⟩))
   refine wp_wld (fun WW=>Below w.heap.size w WW∧GV w.heap.size 22 WW w1.heap.size []) ⟨below_trans hb1 (below_alloc _ _),⟨_,CV.made,Own.nil,by simp [Value.ownBlock]⟩⟩ ?_
   intro W1 ⟨y1,v7⟩
   obtain ⟨g7,hg7⟩: ∃g,g=w1.heap.size:=⟨_,rfl⟩
   have b7:w.heap.size≤g7:=by rw [hg7];exact hb1.size
   rw [←hg7] at v7 ⊢
   clear hg7 hb1
   have V7:=hid v7
   clear v7
   go_wp2_with fail
   go_loopw [9,11,12,13,14,27] (fun s9 _ _ _ _ s27 wr=> ∃i:Nat,s27=.int .i64 (i:Int)∧i≤L.length∧s9=.int .u64 ((grQ L x i:Nat):Int)∧grF L x i=false∧GV w.heap.size 22 wr g7 (grO L x i)∧Below w.heap.size w wr) (fun _ _ _ _ _ i _=>(L.length-(intOf i).toNat))
   case atStart=>exact ⟨0,rfl,by omega,rfl,rfl,V7.out,y1⟩
   case round=>
    obtain ⟨i,rfl,hi,rfl,hF,hG,yr⟩:=hrel
    have HF:=hid hF
    have HG:=hid hG
    have hql:=QL.out i
    have hqv:=QV.out i hF
    clear hF hG V7 y1
    by_cases hi2:(i:Int)<(L.length:Int)
    ·obtain ⟨b0,o0,rfl,hc0⟩:=HN.out.2.2 (by omega)
     have k0:=(yr.cell (p:=⟨b0,o0+i,none⟩) (World.block_lt_of_cell? _ _ (hc0 i (by omega)))).trans (hc0 i (by omega))
     have hyl:L.getD i 0<18446744073709551616:=by have:=HLL.out i;unfold lb at this;omega
     have hyv:=VL.out i (by omega)
     have HQ1:=hid (show grQ L x (i+1)=plusN (grQ L x i) (L.getD i 0) from rfl)
     have HH1:=hid (show grH L x i=restN (grQ L x i) (L.getD i 0) from rfl)
     have HF1:=hid (show grF L x (i+1)=(grF L x i||!hasVal ((grQ L x (i+1):Nat):Int)) from rfl)
     have HO1:=hid (show grO L x (i+1)=if zN (grH L x i)=true then grO L x i else grO L x i++ [grH L x i] from rfl)
     have hhl:=grH_lt L x i
     have TS1:=hid (TS.out (grQ L x i) (L.getD i 0) hql hyl)
     have ev:(hasVal ((grQ L x i:Nat):Int)&&hasVal ((L.getD i 0:Nat):Int))=true:=by
      have:hasVal ((L.getD i 0:Nat):Int)=true:=hyv
      rw [hqv,this];rfl
     rw [ev,←HQ1.out,←HH1.out] at TS1
     have hol:=OL.out i
     have FM1:=hid (fun h=>FM.out (i+1) h (by omega))
     have hk1:wr.cell? ⟨b0,o0+i,none⟩=some (.int .u64 ((L.getD i 0:Nat):Int)):=k0
     obtain ⟨y,hy⟩: ∃y,y=L.getD i 0:=⟨_,rfl⟩
     rw [←hy] at hk1 TS1 hyl
     obtain ⟨q,hq⟩: ∃q,q=grQ L x i:=⟨_,rfl⟩
     rw [←hq] at TS1 ⊢
     obtain ⟨q1,hq1⟩: ∃q,q=grQ L x (i+1):=⟨_,rfl⟩
     have HQN:=hid hq1
     rw [←hq1] at TS1 HF1
     obtain ⟨r1,hr1⟩: ∃q,q=grH L x i:=⟨_,rfl⟩
     rw [←hr1] at TS1 HO1 hhl
     obtain ⟨O,hO⟩: ∃q,q=grO L x i:=⟨_,rfl⟩
     rw [←hO] at HG HO1 hol
     clear k0 hc0 hy hq hq1 hr1 hO HQ1 HH1 ev hyv hqv QV QL VL TS HLL OL FM
     cases hh:hasVal (q1:Int)
     ·have HE:=hid (show gwE L x=2 by rw [hE1.out,FM1.out (by rw [HF1.out,hh];simp)];rfl)
      have HA:=hid (show gwA L x= [] by rw [hA1.out,HE.out];rfl)
      rw [hh,pk_tf,pk_tf,pkE_tf] at TS1
      clear HF1 FM1 hE1 hA1 HO1 hh
      go_wp2_with (go_at_call 82;(with_reducible refine (TS1.out _ (HT.out.below yr)).mono ?_);rintro en w2 ⟨rfl,hb2⟩)
      go_ret2
      exact ⟨none,0,by rw [HE.out,HA.out];rfl,by rw [HA.out];exact Ns.nil,below_trans yr hb2⟩
     ·have HF2:=hid (show grF L x (i+1)=false by rw [HF1.out,HF.out,hh];rfl)
      rw [hh,pk_tt,pk_tt,pkE_tt] at TS1
      have AD:=hid (fun w9 hb hv=>add1_any w.heap.size g7 O r1 hhl w9 (by omega) b7 hb hv)
      clear HF1 FM1 hE1 hA1 hh
      go_wp2_with (first
       |(go_at_call 82;(with_reducible refine (TS1.out _ (HT.out.below yr)).mono ?_);rintro en w2 ⟨rfl,hb2⟩;have y2:=below_trans yr hb2)
       |(go_at_call 81;(with_reducible refine (AD.out _ y2.size (HG.out.below hb2)).mono ?_);rintro en w3 ⟨⟨r9,rfl⟩,hv3,hb3⟩))
      go_roundw
      case rel=>exact ⟨i+1,by go_num,by omega,by rw [←HQN.out],HF2.out,by rw [HO1.out];exact hv3,y2.trans hb3⟩
      case measure=>first|(simp [intOf];done)|(simp [intOf];omega)
    ·have hie:i=L.length:=by omega
     subst hie
     have HE:=hid (show gwE L x=0 by rw [hE1.out,HF.out];rfl)
     have HA:=hid (show gwA L x=if zN (grQ L x L.length)=true then grO L x L.length else grO L x L.length++ [grQ L x L.length] by rw [hA1.out,HE.out];rfl)
     have hol:=OL.out L.length
     obtain ⟨q,hq⟩: ∃q,q=grQ L x L.length:=⟨_,rfl⟩
     obtain ⟨O,hO⟩: ∃q,q=grO L x L.length:=⟨_,rfl⟩
     rw [←hq] at hql HA ⊢
     rw [←hO] at HG hol HA
     have AD:=hid (fun w9 hb hv=>add1_any w.heap.size g7 O q hql w9 (by omega) b7 hb hv)
     rw [←hq] at hqv
     clear hE1 hA1 QV QL VL FM TS HLL OL hq hO hqv HF
     rw [←HA.out] at AD
     obtain ⟨GA,hGA⟩: ∃G,G=gwA L x:=⟨_,rfl⟩
     rw [←hGA] at AD
     have HGA:=hid hGA
     clear HA hGA
     go_upto_region 19 with (go_at_call 81;(with_reducible refine (AD.out _ yr.size HG.out).mono ?_);rintro en w3 ⟨⟨r9,rfl⟩,⟨v9,⟨c0,c1⟩,hown,-⟩,hb3⟩)
     obtain ⟨a9,cp9,rfl,hN9⟩:=hown.ns
     have CP:=hid (clip64_any a9 cp9 GA w3 hN9)
     have hN9b:=hN9
     go_wp2_with (go_at_call 83;(with_reducible refine CP.out.mono ?_);rintro en w4 ⟨⟨c9,rfl,hN4⟩,rfl⟩)
     go_ret2
     exact ⟨a9,c9,by rw [HE.out,←HGA.out];rfl,by rw [←HGA.out];exact hN4,yr.trans hb3⟩
 ·have e1:gwE L x=prE L:=by unfold gwE;rw [if_neg hp]
  have e2:gwA L x= []:=by unfold gwA;rw [e1,if_neg hp]
  rw [e1,e2]
  generalize prE L=E at *
  have hp1:(E==0)=false:=beq_eq_false_iff_ne.2 hp
  have hp2:(E !=0)=true:=bne_iff_ne.2 hp
  clear h hL hT e1 e2
  go_enter Tryz.func29,Tryz.ntmps29
  go_wp2_with (go_at_call 80;(with_reducible refine (CK.out _ HN.out HT.out).mono ?_);rintro en w1 ⟨rfl,hb1⟩)
  go_ret2
  exact ⟨none,0,rfl,Ns.nil,hb1⟩
end Go.Proofs.YtfphmlmgjhebjaaGreatDoor
namespace Go.Ulp
open Go.RowKit
def RetVE (w:World) (D:Dy) (er:Int) (e:Ending) (w':World):Prop:= ∃v,e=.returned (.tuple #[v,.int .i64 er])∧VD w' D v∧Below w.heap.size w w'
theorem VD.none (w:World):VD w (0,0) (.agg #[.bool false,.slice none 0 0,.int .i64 0]):=⟨Option.none,0,rfl,Ns.nil⟩
end Go.Ulp
namespace Go.Proofs.YtfphmlmgjhebjaaGreatDoor
open Go.RowKit Go.Ulp
set_option maxHeartbeats 1000000
set_option maxRecDepth 100000
end Go.Proofs.YtfphmlmgjhebjaaGreatDoor
namespace Go.Ulp
open Go.RowKit
theorem VD.none_form {w:World} {v:Value} (h:VD w (0,0) v): ∃am cm,v=.agg #[.bool false,.slice am 0 cm,.int .i64 0]:=by
 obtain ⟨am,cm,rfl,-⟩:=h
 exact ⟨am,cm,by rw [show limbs ((0:Int),(0:Int)).1.natAbs= [] from limbs_zero];rfl⟩
def Fact.ds (n:Bool) (s:Value) (x:Int):Fact:=⟨fun v w=> ∃g,v=.slice (some ⟨g,0,none⟩) 1 1∧DC w g 0 n s x,fun _ _ _ h hb=>by
 obtain ⟨g,h1,h2⟩:=h
 exact ⟨g,h1,h2.below hb⟩⟩
theorem dyadE_form (D:Dy) (hI:IsN D) (hB:bndB D=true):dyadE (decide (D.1<0)) (limbs D.1.natAbs) D.2=0:=by
 unfold dyadE
 rw [if_neg (by unfold bndB at hB;rw [hB];simp)]
 rcases hI with ⟨h1,h2⟩|h
 ·rw [h1,h2,if_pos (by rw [show limbs (0:Int).natAbs= [] from limbs_zero];rfl),if_neg (by simp)]
 ·have hpos:0<D.1.natAbs:=by omega
  have hl:=(digs_len_pos 4294967296 (by omega) D.1.natAbs).2 hpos
  have hl':0<(limbs D.1.natAbs).length:=hl
  rw [if_neg (by omega)]
  have ht:=(trim_iff (limbs D.1.natAbs)).1 (limbs_trim D.1.natAbs)
  have h0:(limbs D.1.natAbs).getD 0 0%2=D.1.natAbs%2:=by
   have h1:=val_drop 4294967296 (limbs D.1.natAbs) 0 hl'
   rw [List.drop_zero] at h1
   have h3:=lval_limbs D.1.natAbs
   unfold lval at h3
   omega
  rw [if_neg (by
   intro hc
   rcases hc with hc|hc
   ·rcases ht with h2|h2
    ·omega
    ·exact h2 hc
   ·omega)]
end Go.Ulp
namespace Go.Proofs.YtfphmlmgjhebjaaGreatDoor
open Go.RowKit Go.Ulp
set_option maxHeartbeats 2000000
set_option maxRecDepth 100000
end Go.Proofs.YtfphmlmgjhebjaaGreatDoor
namespace Go.Ulp
open Go.RowKit
def grS (L:List Nat):Dy:=nrm (sumTo L L.length) (-1074)
end Go.Ulp
namespace Go.Proofs.YtfphmlmgjhebjaaGreatDoor
open Go.RowKit Go.Ulp
set_option maxHeartbeats 2000000
set_option maxRecDepth 100000
theorem growValue_in (ao:Option Addr) (cap:Nat) (L:List Nat) (w:World) (h:Ns .u64 w ao cap L) (hL: ∀j,lb L j<18446744073709551616) (hlen:L.length≤200) (hv: ∀j,j<L.length→hasVal (lb L j)=true) (hT:Tab 1 w):
 Calls Tryz.prog 84 #[.slice ao L.length cap] w (RetVD w (grS L)):=by
 have HN:=hid h
 have hcap:=h.1
 have hcap2:=h.2.1
 unfold maxLen at hcap2
 have VA:=hid (fun j w t=>value_any (lb L j) (lb_nonneg _ _) (hL j) w t)
 have FS:=hid (fun j=>fv_small_p (lb L j) (lb_nonneg _ _) (hL j))
 have FV:=hid (show ∀j,j<L.length→fv (lb L j)=nrm (uV (lb L j)) (-1074) from fun j hj=>fv_uV (lb L j) (lb_nonneg _ _) (hL j) (by
  have:=hasVal_lt (lb L j) (lb_nonneg _ _) (hL j)
  rw [hv j hj] at this
  exact of_decide_eq_true this))
 obtain ⟨A,hA⟩: ∃A:Nat,A=2298:=⟨_,rfl⟩
 have SB:=hid (fun i hi=>sumD_bd A hA L hL i hi)
 obtain ⟨K,hK⟩: ∃K:Nat,K=100:=⟨_,rfl⟩
 have LB:=hid (fun (M:Nat) (h:M<2^A)=>(limbs_le_bits M K).2 (Nat.lt_of_lt_of_le h (Nat.pow_le_pow_right (by omega) (by omega))))
 have HS:=hid (show ∀i,sumTo L (i+1)=sumTo L i+uV (lb L i) from fun _=>rfl)
 have HG:=hid (show grS L=nrm (sumTo L L.length) (-1074) from rfl)
 have HT:=hid hT
 have yb0:=below_trans (below_alloc w (.cells #[.bool false,.slice none 0 0,.int .i64 0] 67)) (below_alloc _ (.cells #[.bool false,.slice none 0 0,.int .i64 0] 67))
 have z2:QL 67 ((w.alloc (.cells #[.bool false,.slice none 0 0,.int .i64 0] 67)).alloc (.cells #[.bool false,.slice none 0 0,.int .i64 0] 67)) w.heap.size false (.slice none 0 0) 0:=(QL.made rfl).alloc _
 have z3:DV 67 ((w.alloc (.cells #[.bool false,.slice none 0 0,.int .i64 0] 67)).alloc (.cells #[.bool false,.slice none 0 0,.int .i64 0] 67)) (w.heap.size+1) (nrm 0 (-1074)):=⟨none,0,QL.made (by first|omega|(simp;done)|(simp;omega)),Ns.nil⟩
 clear h hL hT hA
 go_enter Tryz.func84,Tryz.ntmps84
 go_upto_region 2 with fail
 refine wp_wld (fun WW=>Below w.heap.size w WW∧QL 67 WW w.heap.size false (.slice none 0 0) 0∧DV 67 WW (w.heap.size+1) (nrm 0 (-1074))) ⟨yb0,z2,z3⟩ ?_
 clear yb0 z2 z3
 intro W1 ⟨y1,z2,z3⟩
 obtain ⟨g3,hg3⟩: ∃g,g=w.heap.size+1:=⟨_,rfl⟩
 obtain ⟨g2,hg2⟩: ∃g,g=w.heap.size:=⟨_,rfl⟩
 have b3:w.heap.size≤g3:=by omega
 have b2:w.heap.size≤g2:=by omega
 have n23:g2≠g3:=by omega
 rw [←hg3] at z3 ⊢
 rw [←hg2] at z2
 rw [←hg2]
 clear hg3 hg2
 have Z2:=hid z2
 have Z3:=hid z3
 clear z2 z3
 go_wp2_with fail
 go_loopw [5,8] (fun _ s8 wr=> ∃i:Nat,s8=.int .i64 (i:Int)∧i≤L.length∧QL 67 wr g2 false (.slice none 0 0) 0∧DV 67 wr g3 (nrm (sumTo L i) (-1074))∧Below w.heap.size w wr) (fun _ i _=>(L.length-(intOf i).toNat))
 case atStart=>exact ⟨0,rfl,by omega,Z2.out,Z3.out,y1⟩
 case round=>
  obtain ⟨i,rfl,hi,z2,z3,yr⟩:=hrel
  clear Z2 Z3 y1
  by_cases hi2:(i:Int)<(L.length:Int)
  ·obtain ⟨b0,o0,rfl,hc0⟩:=HN.out.2.2 (by omega)
   have k0:=(yr.cell (p:=⟨b0,o0+i,none⟩) (World.block_lt_of_cell? _ _ (hc0 i (by omega)))).trans (hc0 i (by omega))
   have V0:=hid (VA.out i)
   have hfv:=FV.out i (by omega)
   have hfb:=FS.out i
   have hbd:=SB.out i (by omega)
   have HS0:=HS.out i
   obtain ⟨x,hx⟩: ∃x,x=lb L i:=⟨_,rfl⟩
   rw [←hx] at k0 V0 hfv hfb HS0
   have l1:=LB.out _ hbd.1
   have PL:=hid (fun v u w h0 h1 t=>plusD_any v u (nrm (sumTo L i) (-1074)) (fv x) w h0 h1 (by omega) (by omega) ⟨by omega,by omega⟩ ⟨by omega,by omega⟩ t)
   have HSD:=hid (show addD (nrm (sumTo L i) (-1074)) (fv x)=nrm (sumTo L (i+1)) (-1074) by rw [hfv,addD_step,HS0])
   rw [HSD.out] at PL
   obtain ⟨am,cm,zD,hND⟩:=z3
   have HVD:=hid (fun w' (hb:Below wr.heap.size wr w')=>(show VD w' (nrm (sumTo L i) (-1074)) (.agg #[.bool (decide ((nrm (sumTo L i) (-1074)).1<0)),.slice am (limbs (nrm (sumTo L i) (-1074)).1.natAbs).length cm,.int .i64 (nrm (sumTo L i) (-1074)).2]) from ⟨am,cm,rfl,hND.below hb⟩))
   obtain ⟨D2,hD2⟩: ∃D,D=nrm (sumTo L (i+1)) (-1074):=⟨_,rfl⟩
   rw [←hD2] at PL
   have HD2:=hid hD2
   obtain ⟨D,hD⟩: ∃D,D=nrm (sumTo L i) (-1074):=⟨_,rfl⟩
   rw [←hD] at PL HVD zD
   obtain ⟨DX,hDX⟩: ∃D,D=fv x:=⟨_,rfl⟩
   rw [←hDX] at PL V0
   clear hx hc0 VA FV FS SB HS HSD hfv hfb hbd HS0 l1 hND hD hD2 hDX LB
   go_upto_region 5 with fail
   obtain ⟨W4,hW4⟩: ∃W,W=wr:=⟨_,rfl⟩
   subst hW4
   refine wp_region_grow 4 [12,13,14,15] [Fact.is (.agg #[.bool (decide (D.1<0)),.slice am (limbs D.1.natAbs).length cm,.int .i64 D.2]),Fact.is (.int .u64 x),Fact.vd DX,Fact.vd D2] (by kernel_rfl) (by kernel_rfl) ⟨?o0,?o1,?o2,?o3,trivial⟩ ?after
   case o0=>(refine oQ rfl ?_;intro ρ w1 R hcon hfn hρ hb hp hR;have e3:ρ (.tmp 3)=.pointer (some ⟨g3,0,none⟩):=hρ.tmp 3 rfl;obtain ⟨⟨j0,j1,-,-,-⟩,j2,-⟩:=zD.below hb;clear hρ hp;unfold OpRun;go_simp;exact hR _ _ (Below.refl _ _) rfl)
   case o1=>(refine oQ rfl ?_;intro ρ w1 R hcon hfn hρ hb hp hR;have e5:ρ (.tmp 5)=.int .u64 x:=hρ.tmp 5 rfl;clear hρ hp;unfold OpRun;go_simp;exact hR _ _ (Below.refl _ _) rfl)
   case o2=>(refine oQ rfl ?_;intro ρ w1 R hcon hfn hρ hb hp hR;have e13:ρ (.tmp 13)=_:=hp 1 13 rfl rfl;clear hρ hp;unfold OpRun;go_simp;(refine (V0.out _ (HT.out.below (below_trans yr hb))).mono ?_;rintro e wn ⟨v9,rfl,hv9,hbn⟩;exact ⟨_,rfl,hR _ _ hbn hv9⟩))
   case o3=>(refine oQ rfl ?_;intro ρ w1 R hcon hfn hρ hb hp hR;have e12:ρ (.tmp 12)=_:=hp 0 12 rfl rfl;have f14:=hp 2 14 rfl rfl;clear hρ hp;unfold OpRun;go_simp;(refine (PL.out _ _ _ (HVD.out _ hb) f14 (HT.out.below (below_trans yr hb))).mono ?_;rintro e wn ⟨v9,rfl,hv9,hbn⟩;exact ⟨_,rfl,hR _ _ hbn hv9⟩))
   case after=>
    intro u wn hb hf
    have f15:=hf 3 15 (by omega) rfl
    clear hf
    simp only [putAll,Act.put,List.setIfInBounds_toArray,List.set_cons_zero,List.set_cons_succ,List.drop_succ_cons,List.drop_zero,List.drop_nil]
    obtain ⟨am2,cm2,e15,hN2⟩:=f15
    rw [e15]
    have zD2:=zD.below hb
    have z22:=(z2.below hb).far3 (b:=g3) n23 (.bool (decide (D2.1<0))) (.slice am2 (limbs D2.1.natAbs).length cm2) (.int .i64 D2.2)
    have yb2:=below_trans yr hb
    obtain ⟨⟨j0,j1,f0,f1,hs2⟩,j2,f2⟩:=id zD2
    clear e15 zD hb
    go_wp2_with fail
    go_roundw
    case rel=>exact ⟨i+1,by go_num,by omega,z22,by rw [←HD2.out];exact DV.put zD2 hN2 (by intro x h;cases h),Go.Ulp.Below.put3 yb2 b3 _ _ _⟩
    case measure=>first|(simp [intOf];done)|(simp [intOf];omega)
  ·have hie:i=L.length:=by omega
   subst hie
   rw [←HG.out] at z3
   obtain ⟨am,cm,zD,hND⟩:=z3
   have hns:=hND.set3 z2 (by intro x h;cases h) (.bool (decide ((grS L).1<0))) (.slice am (limbs (grS L).1.natAbs).length cm) (.int .i64 (grS L).2)
   have yb2:=Go.Ulp.Below.put3 yr b2 (.bool (decide ((grS L).1<0))) (.slice am (limbs (grS L).1.natAbs).length cm) (.int .i64 (grS L).2)
   obtain ⟨⟨j0,j1,-⟩,j2,-⟩:=id zD
   obtain ⟨⟨k0,k1,f0,f1,hs2⟩,k2,f2⟩:=id z2
   generalize grS L=G at *
   clear zD z2 hND HG VA FV FS SB HS LB hs2
   go_wp2_with fail
   refine bodyPost_ret (by simp [results,Tryz.results84,go_sem,k0,k1,k2];try rfl) rfl ?_
   exact ⟨_,rfl,⟨am,cm,rfl,hns⟩,yb2⟩
end Go.Proofs.YtfphmlmgjhebjaaGreatDoor
namespace Go.Ulp
open Go.RowKit
theorem QW.zero {tq ti:TypeId} {w:World} (A T g:Nat) (hg:g=w.heap.size):QW tq ti (w.alloc (.cells #[.bool false,.slice none 0 0,.int .i64 0] tq)) g (0,0) A T 0 0 none 0:=
 ⟨QL.made hg,0,0,none,0,rfl,Nz.nil' none 0 (by unfold maxLen;omega),nrm_zero _,Nat.two_pow_pos A,Nat.zero_le _⟩
theorem grS_bd (B:Nat) (hB:B=2298) (L:List Nat) (hL: ∀j,lb L j<18446744073709551616) (hlen:L.length≤200):(grS L).1.natAbs<2^B∧bndB (grS L)=true:=by
 have h:=sumD_bd B hB L hL L.length hlen
 refine ⟨h.1,?_⟩
 unfold bndB dyB
 obtain ⟨K,hK⟩: ∃K,K=400:=⟨_,rfl⟩
 have h2:=(limbs_le_bits (grS L).1.natAbs K).2 (Nat.lt_of_lt_of_le h.1 (Nat.pow_le_pow_right (by omega) (by omega)))
 rw [hK] at h2
 exact decide_eq_true ⟨h2,by have:=h.2.1;unfold grS;omega,by have:=h.2.2;unfold grS;omega⟩
def grV (L:List Nat):Dy:=if prE L=0 then grS L else (0,0)
theorem prE_zero (L:List Nat) (h:prE L=0):L.length≤60∧noTo L L.length=false∧badTo L L.length=false:=by
 unfold prE at h
 by_cases h1:60<L.length
 ·rw [if_pos h1] at h;omega
 ·rw [if_neg h1] at h
  cases hn:noTo L L.length
  ·rw [hn] at h
   cases hb:badTo L L.length
   ·exact ⟨by omega,rfl,rfl⟩
   ·rw [hb] at h;simp at h
  ·rw [hn] at h;simp at h
theorem no_vals (L:List Nat) (h:noTo L L.length=false): ∀j,j<L.length→hasVal (lb L j)=true:=by
 intro j hj
 cases hv:hasVal (lb L j) with
 |true=>rfl
 |false=>rw [(noTo_iff L L.length).2 ⟨j,hj,hv⟩] at h;cases h
end Go.Ulp
namespace Go.Proofs.YtfphmlmgjhebjaaGreatDoor
open Go.RowKit Go.Ulp
set_option maxHeartbeats 2000000
set_option maxRecDepth 100000
theorem growVal_any (ao:Option Addr) (cap:Nat) (L:List Nat) (w:World) (h:Ns .u64 w ao cap L) (hL: ∀j,lb L j<18446744073709551616) (hT:Tab 1 w):
 Calls Tryz.prog 30 #[.slice ao L.length cap] w (RetVE w (grV L) (prE L)):=by
 have CK:=hid (fun w h t=>growCheck_any ao cap L w h hL t)
 have HN:=hid h
 have HT:=hid hT
 have z2:QL 67 (w.alloc (.cells #[.bool false,.slice none 0 0,.int .i64 0] 67)) w.heap.size false (.slice none 0 0) 0:=QL.made rfl
 have y1:=below_alloc w (.cells #[.bool false,.slice none 0 0,.int .i64 0] 67)
 by_cases hp:prE L=0
 ·obtain ⟨p1,p2,-⟩:=prE_zero L hp
  have VL:=hid (fun w h t=>growValue_in ao cap L w h hL (by omega) (no_vals L p2) t)
  have e:grV L=grS L:=by unfold grV;rw [if_pos hp]
  rw [e,hp]
  rw [hp] at CK
  generalize grS L=G at *
  clear h hL hT hp p1 p2 e
  go_enter Tryz.func30,Tryz.ntmps30
  go_upto_region 1 with fail
  refine wp_wld (fun WW=>Below w.heap.size w WW∧QL 67 WW w.heap.size false (.slice none 0 0) 0) ⟨y1,z2⟩ ?_
  clear y1 z2
  intro W1 ⟨y1,z2⟩
  obtain ⟨g2,hg2⟩: ∃g,g=w.heap.size:=⟨_,rfl⟩
  have b2:w.heap.size≤g2:=by omega
  rw [←hg2] at z2
  rw [←hg2]
  clear hg2
  go_upto_region 4 with (go_at_call 80;(with_reducible refine (CK.out _ (HN.out.below y1) (HT.out.below y1)).mono ?_);rintro en w1 ⟨rfl,hb1⟩)
  have y2:=below_trans y1 hb1
  have z3:=z2.below hb1
  clear z2 hb1 y1
  go_wp2_with (go_at_call 84;(with_reducible refine (VL.out _ (HN.out.below y2) (HT.out.below y2)).mono ?_);rintro en w2 ⟨v3,rfl,⟨a3,c3,rfl,hN3⟩,hb3⟩;have z4:=z3.below hb3;have yb3:=below_trans y2 hb3;obtain ⟨⟨k0,k1,f0,f1,hs2⟩,k2,f2⟩:=id z4)
  refine bodyPost_ret (by simp [results,Tryz.results30,go_sem,k0,k1,k2];try rfl) rfl ?_
  exact ⟨_,rfl,⟨a3,c3,rfl,hN3.set3 z4 (by intro x h;cases h) _ _ _⟩,Go.Ulp.Below.put3 yb3 b2 _ _ _⟩
 ·have e:grV L=(0,0):=by unfold grV;rw [if_neg hp]
  rw [e]
  generalize prE L=E at *
  have hp1:(E==0)=false:=beq_eq_false_iff_ne.2 hp
  have hp2:(E !=0)=true:=bne_iff_ne.2 hp
  clear h hL hT e
  go_enter Tryz.func30,Tryz.ntmps30
  go_upto_region 1 with fail
  refine wp_wld (fun WW=>Below w.heap.size w WW∧QL 67 WW w.heap.size false (.slice none 0 0) 0) ⟨y1,z2⟩ ?_
  clear y1 z2
  intro W1 ⟨y1,z2⟩
  obtain ⟨g2,hg2⟩: ∃g,g=w.heap.size:=⟨_,rfl⟩
  have b2:w.heap.size≤g2:=by omega
  rw [←hg2] at z2
  rw [←hg2]
  clear hg2
  go_upto_region 3 with (go_at_call 80;(with_reducible refine (CK.out _ (HN.out.below y1) (HT.out.below y1)).mono ?_);rintro en w1 ⟨rfl,hb1⟩)
  have y2:=below_trans y1 hb1
  have z3:=z2.below hb1
  clear z2 hb1 y1
  obtain ⟨⟨k0,k1,f0,f1,hs2⟩,k2,f2⟩:=id z3
  go_wp2_with fail
  refine bodyPost_ret (by simp [results,Tryz.results30,go_sem,k0,k1,k2];try rfl) rfl ?_
  exact ⟨_,rfl,⟨none,0,rfl,Ns.nil⟩,Go.Ulp.Below.put3 y2 b2 _ _ _⟩
end Go.Proofs.YtfphmlmgjhebjaaGreatDoor
namespace Go.Ulp
open Go.RowKit
def Ap (a b:Int):Prop:=pw (bl a.natAbs)∣b
theorem ap_of {a b:Int} {t:Nat} (h:pw t∣b) (ha:(a.natAbs:Int)<pw t):Ap a b:=by
 refine dvd_down ((bl_le _ _).2 ?_) h
 unfold pw at ha;omega
def abTo (L:List Nat):Nat→Nat
 |0=>0
 |i+1=>abTo L i+(uV (lb L i)).natAbs
theorem abTo_mono (L:List Nat) (i:Nat): ∀d,abTo L i≤abTo L (i+d)
 |0=>Nat.le_refl _
 |d+1=>by have:=abTo_mono L i d;show _≤abTo L (i+d)+_;omega
theorem abTo_le (L:List Nat) {i j:Nat} (h:i≤j):abTo L i≤abTo L j:=by
 have:=abTo_mono L i (j-i);rw [show i+(j-i)=j by omega] at this;exact this
theorem lb_app_lt (O:List Nat) (h j:Nat) (hj:j<O.length):lb (O++ [h]) j=lb O j:=by
 unfold lb;rw [List.getD_eq_getElem?_getD,List.getD_eq_getElem?_getD,List.getElem?_append_left hj]
theorem lb_app_at (O:List Nat) (h:Nat):lb (O++ [h]) O.length=(h:Int):=by
 unfold lb;rw [List.getD_eq_getElem?_getD,List.getElem?_append_right (Nat.le_refl _)];simp
theorem sumTo_app (O:List Nat) (h:Nat): ∀n,n≤O.length→sumTo (O++ [h]) n=sumTo O n
 |0,_=>rfl
 |n+1,hn=>by
  show sumTo (O++ [h]) n+uV (lb (O++ [h]) n)=sumTo O n+uV (lb O n)
  rw [sumTo_app O h n (by omega),lb_app_lt O h n (by omega)]
theorem abTo_app (O:List Nat) (h:Nat): ∀n,n≤O.length→abTo (O++ [h]) n=abTo O n
 |0,_=>rfl
 |n+1,hn=>by
  show abTo (O++ [h]) n+(uV (lb (O++ [h]) n)).natAbs=abTo O n+(uV (lb O n)).natAbs
  rw [abTo_app O h n (by omega),lb_app_lt O h n (by omega)]
theorem sumTo_push (O:List Nat) (h:Nat):sumTo (O++ [h]) (O++ [h]).length=sumTo O O.length+uV (h:Int):=by
 rw [List.length_append]
 show sumTo (O++ [h]) O.length+uV (lb (O++ [h]) O.length)=_
 rw [sumTo_app O h _ (Nat.le_refl _),lb_app_at]
theorem abTo_push (O:List Nat) (h:Nat):abTo (O++ [h]) (O++ [h]).length=abTo O O.length+(uV (h:Int)).natAbs:=by
 rw [List.length_append]
 show abTo (O++ [h]) O.length+(uV (lb (O++ [h]) O.length)).natAbs=_
 rw [abTo_app O h _ (Nat.le_refl _),lb_app_at]
def OkL (L:List Nat):Prop:=(∀j,j<L.length→lb L j<18446744073709551616∧classOf (lb L j)<4∧uV (lb L j)≠0)∧ ∀i j,i<j→j<L.length→Ap (uV (lb L i)) (uV (lb L j))
theorem okL_nil:OkL []:=⟨fun j h=>absurd h (Nat.not_lt_zero j),fun i j _ h=>absurd h (Nat.not_lt_zero j)⟩
theorem okL_push {O:List Nat} (hO:OkL O) (h:Nat) (h1:h<18446744073709551616) (hc:classOf (h:Int)<4) (h0:uV (h:Int)≠0) (ha: ∀j,j<O.length→Ap (uV (lb O j)) (uV (h:Int))):OkL (O++ [h]):=by
 refine ⟨fun j hj=>?_,fun i j hij hj=>?_⟩
 ·rw [List.length_append] at hj
  by_cases e:j<O.length
  ·rw [lb_app_lt O h j e];exact hO.1 j e
  ·have:j=O.length:=by simp at hj;omega
   subst this
   rw [lb_app_at];exact ⟨by omega,hc,h0⟩
 ·rw [List.length_append] at hj
  by_cases e:j<O.length
  ·rw [lb_app_lt O h j e,lb_app_lt O h i (by omega)];exact hO.2 i j hij e
  ·have:j=O.length:=by simp at hj;omega
   subst this
   rw [lb_app_at,lb_app_lt O h i hij];exact ha i hij
theorem bad_iff (x y:Int) (hx0:0≤x) (hx1:x<18446744073709551616) (hy0:0≤y) (hy1:y<18446744073709551616) (cx:classOf x<4) (cy:classOf y<4) (nx:uV x≠0) (ny:uV y≠0) (h:Ap (uV x) (uV y)): ¬(fv y).2≤hfK (fv x):=by
 rw [fv_uV x hx0 hx1 cx,fv_uV y hy0 hy1 cy,hfK_nrm _ _ nx]
 have e:(nrm (uV y) (-1074)).2= -1074+(tw (uV y).natAbs:Int):=by unfold nrm;rw [if_neg ny]
 rw [e]
 obtain ⟨c,hc⟩:=h
 have h2:(uV y).natAbs=2^bl (uV x).natAbs*c.natAbs:=by rw [hc,Int.natAbs_mul,pw_abs]
 have:=(tw_ge (uV y).natAbs (bl (uV x).natAbs) (by omega)).1 (by rw [h2];exact Nat.mul_mod_right _ _)
 omega
theorem ok_prE {L:List Nat} (h:OkL L):prE L=if 60<L.length then 2 else 0:=by
 have hn:noTo L L.length=false:=by
  cases hn:noTo L L.length with
  |false=>rfl
  |true=>
   obtain ⟨j,hj,hv⟩:=(noTo_iff L L.length).1 hn
   obtain ⟨a,b,-⟩:=h.1 j hj
   rw [hasVal_class _ (lb_nonneg L j) a,decide_eq_false (by omega)] at hv
   cases hv
 have hb: ∀i,i≤L.length→badTo L i=false:=by
  intro i
  induction i with
  |zero=>intro _;rfl
  |succ i ih=>
   intro hi
   obtain ⟨a,b,c⟩:=h.1 i (by omega)
   show (badTo L i||badA L i)=false
   rw [ih (by omega),Bool.false_or]
   unfold badA
   rw [decide_eq_false (fun e=>c ((uV_zero_iff _ (lb_nonneg L i) a b).2 e)),Bool.false_or]
   by_cases e:0<i
   ·obtain ⟨a',b',c'⟩:=h.1 (i-1) (by omega)
    rw [decide_eq_false (bad_iff _ _ (lb_nonneg L (i-1)) a' (lb_nonneg L i) a b' b c' c (h.2 (i-1) i (by omega) (by omega))),Bool.and_false]
   ·rw [decide_eq_false e];rfl
 unfold prE
 rw [hn,hb _ (Nat.le_refl _)]
 split<;>simp
theorem grow_state (L:List Nat) (x:Nat) (B:Int) (hB:B<(rvi 9218868437227405311:Int)) (hL:OkL L) (hx:x<18446744073709551616) (cx:classOf (x:Int)<4)
 (hb:128*(((uV (x:Int)).natAbs:Int)+3*(abTo L L.length:Int))≤B): ∀i,i≤L.length→
 classOf (grQ L x i:Int)<4∧(uV (grQ L x i:Int)).natAbs+abTo (grO L x i) (grO L x i).length≤(uV (x:Int)).natAbs+3*abTo L i∧
 sumTo (grO L x i) (grO L x i).length+uV (grQ L x i:Int)=uV (x:Int)+sumTo L i∧OkL (grO L x i)∧grF L x i=false∧
 ∀j,j<(grO L x i).length→Ap (uV (lb (grO L x i) j)) (uV (grQ L x i:Int))∧ ∀k,i≤k→k<L.length→Ap (uV (lb (grO L x i) j)) (uV (lb L k)):=by
 intro i
 induction i with
 |zero=>
  intro _
  refine ⟨cx,?_,?_,okL_nil,rfl,fun j hj=>absurd hj (Nat.not_lt_zero j)⟩
  ·show (uV (x:Int)).natAbs+0≤(uV (x:Int)).natAbs+3*0;omega
  ·show 0+uV (x:Int)=uV (x:Int)+0;omega
 |succ i ih=>
  intro hi
  obtain ⟨q1,q2,q3,q4,q5,q6⟩:=ih (by omega)
  obtain ⟨l1,l2,l3⟩:=hL.1 i (by omega)
  have qlt:=grQ_lt L x hx i
  have m1:=abTo_le L (show i+1≤L.length by omega)
  have m0:=abTo_le L (show i≤L.length by omega)
  have m2:abTo L (i+1)=abTo L i+(uV (lb L i)).natAbs:=rfl
  have hei:lb L i=((L.getD i 0:Nat):Int):=rfl
  rw [hei] at l1 l2 l3
  obtain ⟨r1,r2,r3,r4⟩:=restN_val (grQ L x i) (L.getD i 0) qlt (by omega) q1 l2 B hB (by omega) (by rw [←hei];omega)
  rw [show restN (grQ L x i) (L.getD i 0)=grH L x i from rfl] at r1 r2
  rw [show plusN (grQ L x i) (L.getD i 0)=grQ L x (i+1) from rfl] at r2 r3 r4
  have hr:=rN_near B hB
  have R1:=rp_uV _ q1
  have R2:=rp_uV _ l2
  have hlo: -B≤uV (grQ L x i:Int)+uV ((L.getD i 0:Nat):Int):=by rw [hei] at m2;omega
  have hhi:uV (grQ L x i:Int)+uV ((L.getD i 0:Nat):Int)≤B:=by rw [hei] at m2;omega
  have E:=err_le hr hlo hhi R1 R2
  rw [←r4,←r2] at E
  have hF:grF L x (i+1)=false:=by
   show (grF L x i||!hasVal ((grQ L x (i+1):Nat):Int))=false
   have:=grQ_lt L x hx (i+1)
   rw [q5,hasVal_class _ (by omega) (by omega),decide_eq_false (by omega)];rfl
  have hsum:sumTo L (i+1)=sumTo L i+uV ((L.getD i 0:Nat):Int):=rfl
  rw [hei] at m2
  have up:uV (grH L x i:Int)≠0→Ap (uV (grH L x i:Int)) (uV (grQ L x (i+1):Int))∧ ∀k,i+1≤k→k<L.length→Ap (uV (grH L x i:Int)) (uV (lb L k)):=fun h0=>by
   refine ⟨?_,fun k hk1 hk2=>?_⟩
   ·obtain ⟨t,ht1,ht2⟩:=near_half hr hlo hhi (by rw [←r4];omega)
    rw [←r4] at ht1 ht2
    rw [←r2] at ht2
    have:=pw_pos t
    exact ap_of ht1 (by omega)
   ·have a:=hL.2 i k (by omega) hk2
    rw [hei] at a
    have:=lt_bl (uV ((L.getD i 0:Nat):Int)).natAbs
    exact ap_of a (by unfold pw;omega)
  have keep: ∀j,j<(grO L x i).length→Ap (uV (lb (grO L x i) j)) (uV (grQ L x (i+1):Int))∧Ap (uV (lb (grO L x i) j)) (uV (grH L x i:Int))∧ ∀k,i+1≤k→k<L.length→Ap (uV (lb (grO L x i) j)) (uV (lb L k)):=fun j hj=>by
   obtain ⟨a,b⟩:=q6 j hj
   have c:=b i (Nat.le_refl _) (by omega)
   have g:=err_gran hr hlo hhi a c
   rw [←r4,←r2] at g
   exact ⟨g.1,g.2,fun k h1 h2=>b k (by omega) h2⟩
  have hO:grO L x (i+1)=if zN (grH L x i)=true then grO L x i else grO L x i++ [grH L x i]:=rfl
  have hlt:=grH_lt L x i
  have hz:=uV_zero_iff (grH L x i:Int) (by omega) (by omega) r1
  refine ⟨r3,?_,?_,?_,hF,?_⟩
  all_goals rw [hO]
  ·cases hzn:zN (grH L x i)
   ·rw [if_neg (by simp),abTo_push];omega
   ·rw [if_pos rfl];omega
  ·cases hzn:zN (grH L x i)
   ·rw [if_neg (by simp),sumTo_push];omega
   ·rw [if_pos rfl]
    have:=hz.2 (of_decide_eq_true hzn)
    omega
  ·cases hzn:zN (grH L x i)
   ·rw [if_neg (by simp)]
    exact okL_push q4 _ hlt r1 (fun e=>of_decide_eq_false hzn (hz.1 e)) (fun j hj=>(keep j hj).2.1)
   ·rw [if_pos rfl];exact q4
  ·cases hzn:zN (grH L x i)
   ·rw [if_neg (by simp)]
    intro j hj
    rw [List.length_append] at hj
    by_cases e:j<(grO L x i).length
    ·rw [lb_app_lt _ _ j e];exact ⟨(keep j e).1,(keep j e).2.2⟩
    ·have:j=(grO L x i).length:=by simp at hj;omega
     subst this
     rw [lb_app_at]
     exact up (fun e=>of_decide_eq_false hzn (hz.1 e))
   ·rw [if_pos rfl]
    intro j hj
    exact ⟨(keep j hj).1,(keep j hj).2.2⟩
theorem grow_ok (L:List Nat) (x:Nat) (B:Int) (hB:B<(rvi 9218868437227405311:Int)) (hL:OkL L) (hx:x<18446744073709551616) (cx:classOf (x:Int)<4)
 (hb:128*(((uV (x:Int)).natAbs:Int)+3*(abTo L L.length:Int))≤B):
 OkL (gwL L x)∧sumTo (gwL L x) (gwL L x).length=uV (x:Int)+sumTo L L.length∧abTo (gwL L x) (gwL L x).length≤(uV (x:Int)).natAbs+3*abTo L L.length∧grF L x L.length=false:=by
 obtain ⟨q1,q2,q3,q4,q5,q6⟩:=grow_state L x B hB hL hx cx hb L.length (Nat.le_refl _)
 have hlt:=grQ_lt L x hx L.length
 have hz:=uV_zero_iff (grQ L x L.length:Int) (by omega) (by omega) q1
 unfold gwL
 refine ⟨?_,?_,?_,q5⟩
 ·cases hzn:zN (grQ L x L.length)
  ·rw [if_neg (by simp)]
   exact okL_push q4 _ hlt q1 (fun e=>of_decide_eq_false hzn (hz.1 e)) (fun j hj=>(q6 j hj).1)
  ·rw [if_pos rfl];exact q4
 ·cases hzn:zN (grQ L x L.length)
  ·rw [if_neg (by simp),sumTo_push];omega
  ·rw [if_pos rfl]
   have:=hz.2 (of_decide_eq_true hzn)
   omega
 ·cases hzn:zN (grQ L x L.length)
  ·rw [if_neg (by simp),abTo_push];omega
  ·rw [if_pos rfl];omega
def tsL (l:List Nat):Nat→List Nat
 |0=> []
 |k+1=>gwL (tsL l k) (l.getD k 0)
theorem tsL_len (l:List Nat): ∀k,(tsL l k).length≤k
 |0=>Nat.le_refl _
 |k+1=>by have:=tsL_len l k;have:=gwL_len (tsL l k) (l.getD k 0);show (gwL _ _).length≤k+1;omega
theorem top_sum (l:List Nat) (A:Nat) (hA:A=1975) (hl:l.length≤60) (h: ∀j,j<l.length→lb l j<18446744073709551616∧classOf (lb l j)<4∧(uV (lb l j)).natAbs≤2^A): ∀k,k≤l.length→
 OkL (tsL l k)∧sumTo (tsL l k) (tsL l k).length=sumTo l k∧2*abTo (tsL l k) (tsL l k).length+2^A≤2^A*3^k∧(∀i,i<k→gwE (tsL l i) (l.getD i 0)=0):=by
 have hB:pw (A+121)<(rvi 9218868437227405311:Int):=by
  have e:(9218868437227405311:Nat)=2045*4503599627370496+9007199254740991:=by decide
  have:=(rvi_parts 2045 9007199254740991 (by decide) (.inr (by decide))).1
  rw [e,this]
  unfold pw
  have h2:2^(A+121)<9007199254740991*2^2045:=by
   obtain ⟨C,hC⟩: ∃C,C=2045:=⟨_,rfl⟩
   rw [←hC,show A+121=51+C by omega,Nat.pow_add]
   exact Nat.mul_lt_mul_of_pos_right (by decide) (Nat.two_pow_pos C)
  omega
 have h3: ∀k,k≤60→3^k<2^96:=fun k hk=>Nat.lt_of_le_of_lt (Nat.pow_le_pow_right (by omega) hk) (by decide)
 intro k
 induction k with
 |zero=>intro _;exact ⟨okL_nil,rfl,(by show 2*0+2^A≤2^A*3^0;omega),fun i hi=>absurd hi (Nat.not_lt_zero i)⟩
 |succ k ih=>
  intro hk
  obtain ⟨a,b,c,d⟩:=ih (by omega)
  obtain ⟨u1,u2,u3⟩:=h k (by omega)
  have hei:lb l k=((l.getD k 0:Nat):Int):=rfl
  rw [hei] at u1 u2 u3
  have pA:=Nat.two_pow_pos A
  have t1:abTo (tsL l k) (tsL l k).length≤2^A*2^96:=Nat.le_trans (by omega) (Nat.le_trans c (Nat.mul_le_mul_left _ (Nat.le_of_lt (h3 k (by omega)))))
  have hbound:128*(((uV ((l.getD k 0:Nat):Int)).natAbs:Int)+3*(abTo (tsL l k) (tsL l k).length:Int))≤pw (A+121):=by
   have e:pw (A+121)=((2^A*2^121:Nat):Int):=by unfold pw;rw [Nat.pow_add]
   rw [e]
   have e2:(2:Nat)^121=2658455991569831745807614120560689152:=by decide
   have e3:(2:Nat)^96=79228162514264337593543950336:=by decide
   rw [e3] at t1
   rw [e2]
   omega
  obtain ⟨g1,g2,g3,g4⟩:=grow_ok (tsL l k) (l.getD k 0) (pw (A+121)) hB a (by omega) u2 hbound
  refine ⟨g1,?_,?_,fun i hi=>?_⟩
  ·show sumTo (gwL _ _) _=sumTo l k+uV (lb l k)
   rw [show (tsL l (k+1)).length=(gwL (tsL l k) (l.getD k 0)).length from rfl,g2,b,hei];omega
  ·show 2*abTo (gwL _ _) (gwL _ _).length+2^A≤_
   have:2^A*3^(k+1)=3*(2^A*3^k):=by rw [Nat.pow_succ,Nat.mul_comm (3^k) 3,←Nat.mul_assoc,Nat.mul_comm (2^A) 3,Nat.mul_assoc]
   rw [this]
   omega
  ·by_cases e:i=k
   ·subst e
    unfold gwE
    rw [ok_prE a,if_neg (show ¬60<(tsL l i).length by have:=tsL_len l i;omega),if_pos rfl,hasVal_class _ (by omega) (by omega),decide_eq_false (by omega),g4];rfl
   ·exact d i (by omega)
abbrev decD:=Lib.decDigits
theorem decD_small {n:Nat} (h:n<10):decD n= [UInt8.ofNat (48+n)]:=by unfold decD;rw [Lib.decDigits,dif_pos h]
theorem decD_big {n:Nat} (h: ¬n<10):decD n=decD (n/10)++ [UInt8.ofNat (48+n%10)]:=by unfold decD;conv=>lhs;rw [Lib.decDigits,dif_neg h]
theorem decD_step (q d:Nat) (hq:0<q) (hd:d<10):decD (q*10+d)=decD q++ [UInt8.ofNat (48+d)]:=by
 rw [decD_big (by omega),show (q*10+d)/10=q by omega,show (q*10+d)%10=d by omega]
def padz (k:Nat) (L:List UInt8):List UInt8:=List.replicate (k-L.length) 48++L
theorem padz_len (k:Nat) (L:List UInt8):(padz k L).length=max k L.length:=by unfold padz;rw [List.length_append,List.length_replicate];omega
theorem padz_cons (k:Nat) (L:List UInt8) (h:L.length<k):padz k (48::L)=padz k L:=by
 unfold padz
 obtain ⟨j,hj⟩: ∃j,k-L.length=j+1:=⟨k-L.length-1,by omega⟩
 rw [List.length_cons,show k-(L.length+1)=j by omega,hj,List.replicate_succ']
 simp
theorem padz_snoc (k:Nat) (L:List UInt8) (c:UInt8):padz (k+1) (L++ [c])=padz k L++ [c]:=by
 unfold padz
 rw [List.length_append,List.length_singleton,show k+1-(L.length+1)=k-L.length by omega,List.append_assoc]
theorem decD_pos (n:Nat):0<(decD n).length:=by
 by_cases h:n<10
 ·rw [decD_small h];simp
 ·rw [decD_big h];simp
theorem decD_ne (n:Nat):decD n≠ []:=fun h=>by have:=decD_pos n;rw [h] at this;simp at this
theorem decD_len: ∀(k n:Nat),n<10^(k+1)→(decD n).length≤k+1
 |0,n,h=>by rw [decD_small (by simpa using h)];simp
 |k+1,n,h=>by
  by_cases hn:n<10
  ·rw [decD_small hn];simp
  ·rw [decD_big hn,List.length_append,List.length_singleton]
   have:=decD_len k (n/10) (by rw [Nat.pow_succ] at h;omega)
   omega
theorem dec_split: ∀(k q r:Nat),0<q→r<10^(k+1)→decD (q*10^(k+1)+r)=decD q++padz (k+1) (decD r)
 |0,q,r,hq,hr=>by
  have hr':r<10:=by simpa using hr
  rw [Nat.pow_succ,Nat.pow_zero,Nat.one_mul,decD_step q r hq hr',decD_small hr']
  rfl
 |k+1,q,r,hq,hr=>by
  have hr2:r/10<10^(k+1):=by rw [Nat.pow_succ] at hr;omega
  have ih:=dec_split k q (r/10) hq hr2
  have e:q*10^(k+1+1)+r=(q*10^(k+1)+r/10)*10+r%10:=by
   rw [Nat.pow_succ,←Nat.mul_assoc];omega
  have hp:0<q*10^(k+1):=Nat.mul_pos hq (Nat.pow_pos (by omega))
  rw [e,decD_step _ _ (by omega) (Nat.mod_lt _ (by omega)),ih,List.append_assoc]
  congr 1
  rw [←padz_snoc]
  by_cases hs:r<10
  ·rw [show r/10=0 by omega,show r%10=r by omega,decD_small hs,decD_small (by omega:0<10)]
   exact padz_cons (k+1+1) [UInt8.ofNat (48+r)] (by simp)
  ·rw [←decD_big hs]
theorem dec_nine (a:Nat) (h:0<a/1000000000):decD a=decD (a/1000000000)++padz 9 (decD (a%1000000000)):=by
 have h1:=dec_split 8 (a/1000000000) (a%1000000000) h (Nat.mod_lt _ (by omega))
 rw [show (10:Nat)^(8+1)=1000000000 by decide,show a/1000000000*1000000000+a%1000000000=a by omega] at h1
 exact h1
def bsOf (L:List UInt8):ByteArray:=⟨L.toArray⟩
theorem bs_size (L:List UInt8):(bsOf L).size=L.length:=by simp [bsOf,ByteArray.size]
theorem bs_list (L:List UInt8):(bsOf L).data.toList=L:=by simp [bsOf]
theorem bs_toList (L:List UInt8):(bsOf L).toList=L:=by unfold bsOf;exact ByteArray.toList_mk L
theorem bs_app (A B:List UInt8):bsOf A++bsOf B=bsOf (A++B):=by
 apply ByteArray.ext
 simp [bsOf]
theorem ret_bs {A B:List UInt8} (h:A=B):Ending.returned (.string (bsOf A))=.returned (.string (bsOf B)):=by rw [h]
theorem add_bs {P:Program} (A B:List UInt8) (h:A.length+B.length≤9223372036854775807) (w:World):(Op.stringOp .add (bsOf A) (bsOf B)).run P w=.ok (.string (bsOf (A++B))) w:=by
 rw [run_string_add_sum w _ _ (by rw [bs_size,bs_size];exact h),bs_app]
def strSz (v:Value):Nat:=match v with| .string b=>b.size|_=>0
theorem strSz_bs (L:List UInt8):strSz (.string (bsOf L))=L.length:=bs_size L
end Go.Ulp
namespace Go.Proofs.YtfphmlmgjhebjaaGreatDoor
open Go.RowKit Go.Ulp
set_option maxHeartbeats 1000000
set_option maxRecDepth 100000
end Go.Proofs.YtfphmlmgjhebjaaGreatDoor
