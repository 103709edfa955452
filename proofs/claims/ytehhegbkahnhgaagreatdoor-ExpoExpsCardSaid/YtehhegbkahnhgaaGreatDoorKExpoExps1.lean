/- ExpoExps: what the proof leans on, part 1 (Num). -/
set_option linter.unusedVariables false
set_option linter.unusedSimpArgs false
namespace Go.Ulp
theorem getD_in (L:List Nat) (k:Nat) (h:k<L.length):L.getD k 0=L[k]:=by simp [List.getD,List.getElem?_eq_getElem h]
theorem getD_out (L:List Nat) (k:Nat) (h:L.length≤k):L.getD k 0=0:=by simp [List.getD,List.getElem?_eq_none h]
def val (B:Nat):List Nat→Nat
 | []=>0
 |d::r=>d+B*val B r
def digsF (B:Nat):Nat→Nat→List Nat
 |0,_=> []
 |f+1,n=>if n=0 then [] else n%B::digsF B f (n/B)
def digs (B n:Nat):List Nat:=digsF B n n
def AllLt (B:Nat) (L:List Nat):Prop:= ∀d∈L,d<B
def Trim (L:List Nat):Prop:= ∀h:L≠ [],L.getLast h≠0
theorem AllLt.cons {B d:Nat} {L:List Nat}:AllLt B (d::L)↔d<B∧AllLt B L:=by
 unfold AllLt;simp
theorem AllLt.nil {B:Nat}:AllLt B []:=by intro d h;cases h
theorem AllLt.append {B:Nat} {L M:List Nat}:AllLt B (L++M)↔AllLt B L∧AllLt B M:=by
 unfold AllLt;constructor
 ·intro h;exact ⟨fun d hd=>h d (by simp [hd]),fun d hd=>h d (by simp [hd])⟩
 ·intro ⟨h1,h2⟩ d hd;rcases List.mem_append.1 hd with h|h
  ·exact h1 d h
  ·exact h2 d h
theorem AllLt.take {B:Nat} {L:List Nat} (h:AllLt B L) (k:Nat):AllLt B (L.take k):=fun d hd=>h d (List.mem_of_mem_take hd)
theorem AllLt.drop {B:Nat} {L:List Nat} (h:AllLt B L) (k:Nat):AllLt B (L.drop k):=fun d hd=>h d (List.mem_of_mem_drop hd)
theorem AllLt.getD {B:Nat} (hB:0<B) {L:List Nat} (h:AllLt B L) (k:Nat):L.getD k 0<B:=by
 by_cases hk:k<L.length
 ·rw [getD_in _ _ hk];exact h _ (List.getElem_mem hk)
 ·rw [getD_out _ _ (by omega)];exact hB
theorem val_append (B:Nat) (L M:List Nat):val B (L++M)=val B L+B^L.length*val B M:=by
 induction L with
 |nil=>simp [val]
 |cons d r ih=>simp only [List.cons_append,val,ih,List.length_cons,Nat.pow_succ,Nat.mul_add];rw [Nat.mul_comm (B^r.length) B,Nat.mul_assoc];omega
theorem val_snoc (B:Nat) (L:List Nat) (d:Nat):val B (L++ [d])=val B L+B^L.length*d:=by
 rw [val_append];simp [val]
theorem val_take_drop (B:Nat) (L:List Nat) (k:Nat) (h:k≤L.length):val B L=val B (L.take k)+B^k*val B (L.drop k):=by
 conv=>lhs;rw [←List.take_append_drop k L]
 rw [val_append,List.length_take,Nat.min_eq_left h]
theorem take_succ_getD (L:List Nat) (k:Nat) (h:k<L.length):L.take (k+1)=L.take k++ [L.getD k 0]:=by
 rw [List.take_succ_eq_append_getElem h,getD_in _ _ h]
theorem val_take_succ (B:Nat) (L:List Nat) (k:Nat) (h:k<L.length):val B (L.take (k+1))=val B (L.take k)+B^k*L.getD k 0:=by
 rw [take_succ_getD L k h,val_snoc,List.length_take,Nat.min_eq_left (by omega)]
theorem drop_getD (L:List Nat) (k:Nat) (h:k<L.length):L.drop k=L.getD k 0::L.drop (k+1):=by
 rw [List.drop_eq_getElem_cons h,getD_in _ _ h]
theorem val_drop (B:Nat) (L:List Nat) (k:Nat) (h:k<L.length):val B (L.drop k)=L.getD k 0+B*val B (L.drop (k+1)):=by
 rw [drop_getD L k h];rfl
theorem val_lt (B:Nat) (L:List Nat) (h:AllLt B L):val B L<B^L.length:=by
 induction L with
 |nil=>simp [val]
 |cons d r ih=>
  have h1:=ih (AllLt.cons.1 h).2
  have h2:=(AllLt.cons.1 h).1
  simp only [val,List.length_cons,Nat.pow_succ]
  have:B*val B r+B≤B*B^r.length:=by
   have:=Nat.mul_le_mul_left B (Nat.succ_le_of_lt h1);rw [Nat.mul_succ] at this;exact this
  rw [Nat.mul_comm (B^r.length) B];omega
theorem val_zeros (B:Nat) (L:List Nat) (h: ∀d∈L,d=0):val B L=0:=by
 induction L with
 |nil=>rfl
 |cons d r ih=>simp only [val];rw [ih (fun x hx=>h x (by simp [hx])),h d (by simp)];simp
theorem val_getLast (B:Nat) (hB:0<B) (L:List Nat) (h:L≠ []) (ht:L.getLast h≠0):B^(L.length-1)≤val B L:=by
 have e:L=L.dropLast++ [L.getLast h]:=(List.dropLast_concat_getLast h).symm
 have hv:val B L=val B L.dropLast+B^(L.length-1)*L.getLast h:=by
  conv=>lhs;rw [e]
  rw [val_snoc,List.length_dropLast]
 rw [hv]
 have:=Nat.mul_le_mul_left (B^(L.length-1)) (Nat.one_le_iff_ne_zero.2 ht)
 omega
theorem digsF_val (B:Nat) (hB:1<B): ∀f n,n≤f→val B (digsF B f n)=n:=by
 intro f
 induction f with
 |zero=>intro n hn;simp [digsF,val];omega
 |succ f ih=>
  intro n hn;simp only [digsF]
  by_cases h:n=0
  ·simp [h,val]
  ·rw [if_neg h];simp only [val]
   have:n/B<n:=Nat.div_lt_self (by omega) hB
   rw [ih (n/B) (by omega),Nat.mod_add_div]
theorem val_digs (B:Nat) (hB:1<B) (n:Nat):val B (digs B n)=n:=digsF_val B hB n n (Nat.le_refl _)
theorem digsF_lt (B:Nat) (hB:1<B): ∀f n,AllLt B (digsF B f n):=by
 intro f
 induction f with
 |zero=>intro n;exact AllLt.nil
 |succ f ih=>
  intro n;simp only [digsF]
  by_cases h:n=0
  ·simp [h,AllLt.nil]
  ·rw [if_neg h];exact AllLt.cons.2 ⟨Nat.mod_lt _ (by omega),ih _⟩
theorem digs_lt (B:Nat) (hB:1<B) (n:Nat):AllLt B (digs B n):=digsF_lt B hB n n
theorem digsF_nil (B:Nat): ∀f n,n≤f→digsF B f n= []→n=0:=by
 intro f n hn h
 cases f with
 |zero=>omega
 |succ f=>simp only [digsF] at h;by_cases hz:n=0
          ·exact hz
          ·rw [if_neg hz] at h;simp at h
theorem digsF_trim (B:Nat) (hB:1<B): ∀f n,n≤f→Trim (digsF B f n):=by
 intro f
 induction f with
 |zero=>intro n _ h;simp [digsF] at h
 |succ f ih=>
  intro n hn h
  simp only [digsF] at h ⊢
  by_cases hz:n=0
  ·simp [hz] at h
  ·simp only [if_neg hz] at h ⊢
   have hlt:n/B<n:=Nat.div_lt_self (by omega) hB
   by_cases hr:digsF B f (n/B)= []
   ·simp only [hr,List.getLast_singleton]
    have:=digsF_nil B f (n/B) (by omega) hr
    have:=Nat.mod_add_div n B
    intro h0;rw [h0] at this;simp only [Nat.zero_add] at this;rename_i hq;rw [hq] at this;omega
   ·rw [List.getLast_cons hr];exact ih (n/B) (by omega) hr
theorem digs_trim (B:Nat) (hB:1<B) (n:Nat):Trim (digs B n):=digsF_trim B hB n n (Nat.le_refl _)
theorem Trim.tail {d:Nat} {L:List Nat} (h:Trim (d::L)):Trim L:=fun hn=>by have:=h (by simp);rwa [List.getLast_cons hn] at this
theorem val_pos (B:Nat) (hB:0<B) (L:List Nat) (h:Trim L) (hn:L≠ []):0<val B L:=by
 have:=val_getLast B hB L hn (h hn)
 have:0<B^(L.length-1):=Nat.pow_pos hB
 omega
theorem val_inj (B:Nat) (hB:1<B): ∀L M:List Nat,AllLt B L→AllLt B M→Trim L→Trim M→val B L=val B M→L=M:=by
 intro L
 induction L with
 |nil=>
  intro M _ _ _ tM e
  cases M with
  |nil=>rfl
  |cons d r=>have:=val_pos B (by omega) _ tM (by simp);rw [←e] at this;simp [val] at this
 |cons c r ih=>
  intro M lL lM tL tM e
  cases M with
  |nil=>have:=val_pos B (by omega) _ tL (by simp);rw [e] at this;simp [val] at this
  |cons d s=>
   simp only [val] at e
   have h1:=(AllLt.cons.1 lL).1
   have h2:=(AllLt.cons.1 lM).1
   have m1:(c+B*val B r)%B=c:=by rw [Nat.add_mul_mod_self_left];exact Nat.mod_eq_of_lt h1
   have m2:(d+B*val B s)%B=d:=by rw [Nat.add_mul_mod_self_left];exact Nat.mod_eq_of_lt h2
   have hcd:c=d:=by rw [←m1,←m2,e]
   have hv:val B r=val B s:=by
    subst hcd
    exact Nat.eq_of_mul_eq_mul_left (by omega) (Nat.add_left_cancel e)
   rw [hcd,ih s (AllLt.cons.1 lL).2 (AllLt.cons.1 lM).2 tL.tail tM.tail hv]
theorem digs_val (B:Nat) (hB:1<B) (L:List Nat) (h:AllLt B L) (t:Trim L):digs B (val B L)=L:=
 val_inj B hB _ _ (digs_lt B hB _) h (digs_trim B hB _) t (val_digs B hB _)
theorem digs_eq_nil (B:Nat) (hB:1<B) (n:Nat):digs B n= []↔n=0:=by
 constructor
 ·intro h;have:=val_digs B hB n;rw [h] at this;simpa [val] using this.symm
 ·intro h;rw [h];rfl
theorem digs_len_pos (B:Nat) (hB:1<B) (n:Nat):0<(digs B n).length↔0<n:=by
 rw [List.length_pos_iff,ne_eq,digs_eq_nil B hB];omega
theorem digs_len_le (B:Nat) (hB:1<B) (n k:Nat):(digs B n).length≤k↔n<B^k:=by
 constructor
 ·intro h
  have h1:=val_lt B _ (digs_lt B hB n)
  rw [val_digs B hB] at h1
  exact Nat.lt_of_lt_of_le h1 (Nat.pow_le_pow_right (by omega) h)
 ·intro h
  by_cases hn:digs B n= []
  ·simp [hn]
  ·have h1:=val_getLast B (by omega) _ hn (digs_trim B hB n hn)
   rw [val_digs B hB] at h1
   have:(digs B n).length-1<k:=(Nat.pow_lt_pow_iff_right hB).1 (Nat.lt_of_le_of_lt h1 h)
   omega
theorem digs_len_mono (B:Nat) (hB:1<B) {m n:Nat} (h:m≤n):(digs B m).length≤(digs B n).length:=
 (digs_len_le B hB m _).2 (Nat.lt_of_le_of_lt h ((digs_len_le B hB n _).1 (Nat.le_refl _)))
theorem digs_cut (B:Nat) (hB:1<B) (L:List Nat) (h:AllLt B L) (k:Nat) (hz: ∀d∈L.drop k,d=0) (ht:Trim (L.take k)):digs B (val B L)=L.take k:=by
 by_cases hk:k≤L.length
 ·rw [val_take_drop B L k hk,val_zeros B _ hz,Nat.mul_zero,Nat.add_zero]
  exact digs_val B hB _ (h.take k) ht
 ·rw [List.take_of_length_le (by omega)] at ht ⊢
  exact digs_val B hB _ h ht
theorem trim_take (L:List Nat) (k:Nat) (hk:k<L.length) (h:L.getD k 0≠0):Trim (L.take (k+1)):=by
 intro hn
 have e:=take_succ_getD L k hk
 have:(L.take (k+1)).getLast hn=L.getD k 0:=by
  simp only [e,List.getLast_append,List.getLast_singleton];simp
 rw [this];exact h
theorem trim_iff (L:List Nat):Trim L↔L.length=0∨L.getD (L.length-1) 0≠0:=by
 constructor
 ·intro h
  by_cases hn:L= []
  ·left;simp [hn]
  ·right
   have:=h hn
   rw [List.getLast_eq_getElem] at this
   rw [getD_in _ _ (by have:=List.length_pos_iff.2 hn;omega)];exact this
 ·rintro (h|h) hn
  ·exact absurd (List.length_eq_zero_iff.1 h) hn
  ·rw [List.getLast_eq_getElem]
   rwa [getD_in _ _ (by have:=List.length_pos_iff.2 hn;omega)] at h
theorem val_lt_of_len (B:Nat) (hB:1<B) (L M:List Nat) (hL:AllLt B L) (tM:Trim M) (h:L.length<M.length):val B L<val B M:=by
 have h1:=val_lt B L hL
 have hM:M≠ []:=by intro e;rw [e] at h;simp at h
 have h2:=val_getLast B (by omega) M hM (tM hM)
 have:=Nat.pow_le_pow_right (n:=B) (by omega) (show L.length≤M.length-1 by omega)
 omega
theorem val_lt_of_top (B:Nat) (L M:List Nat) (k:Nat) (hL:AllLt B L) (hlen:L.length=M.length) (hk:k<L.length)
 (heq:L.drop (k+1)=M.drop (k+1)) (h:L.getD k 0<M.getD k 0):val B L<val B M:=by
 rw [val_take_drop B L k (by omega),val_take_drop B M k (by omega),val_drop B L k hk,val_drop B M k (by omega),heq]
 have h1:=val_lt B (L.take k) (hL.take k)
 rw [List.length_take,Nat.min_eq_left (by omega)] at h1
 have h2:=Nat.mul_le_mul_left (B^k) (show L.getD k 0+B*val B (M.drop (k+1))+1≤M.getD k 0+B*val B (M.drop (k+1)) by omega)
 rw [Nat.mul_succ] at h2
 omega
theorem val_set (B:Nat) (L:List Nat) (i d:Nat) (h:i<L.length):val B (L.set i d)+B^i*L.getD i 0=val B L+B^i*d:=by
 induction L generalizing i with
 |nil=>simp at h
 |cons c r ih=>
  cases i with
  |zero=>simp [val];omega
  |succ i=>
   have e:=ih i (by simpa using h)
   simp only [List.set_cons_succ,val,List.getD_cons_succ,Nat.pow_succ]
   have e2:=congrArg (fun z=>B*z) e
   simp only [Nat.mul_add] at e2
   rw [Nat.mul_comm (B^i) B,Nat.mul_assoc,Nat.mul_assoc];omega
theorem AllLt.set {B:Nat} {L:List Nat} (h:AllLt B L) (i d:Nat) (hd:d<B):AllLt B (L.set i d):=by
 intro x hx
 rcases List.mem_or_eq_of_mem_set hx with h1|h1
 ·exact h x h1
 ·rw [h1];exact hd
theorem lset_ne (L:List Nat) (i j d:Nat) (h:i≠j):(L.set i d).getD j 0=L.getD j 0:=by
 simp [List.getD,List.getElem?_set,h]
theorem lset_eq (L:List Nat) (i d:Nat) (h:i<L.length):(L.set i d).getD i 0=d:=by
 simp [List.getD,h]
theorem getD_replicate (n i:Nat):(List.replicate n 0).getD i 0=0:=by
 by_cases h:i<n
 ·simp [List.getD,h]
 ·rw [getD_out _ _ (by simp;omega)]
theorem val_replicate (B n:Nat):val B (List.replicate n 0)=0:=val_zeros B _ (fun d hd=>(List.mem_replicate.1 hd).2)
theorem AllLt.replicate {B n:Nat} (hB:0<B):AllLt B (List.replicate n 0):=fun d hd=>by rw [(List.mem_replicate.1 hd).2];exact hB
theorem val_drop_set (B:Nat) (L:List Nat) (i d:Nat) (h:i<L.length):val B ((L.set i d).drop i)=d+B*val B (L.drop (i+1)):=by
 rw [val_drop B _ i (by simpa using h),lset_eq L i d h]
 congr 2
 rw [List.drop_set_of_lt (by omega)]
def bl (n:Nat):Nat:=if n=0 then 0 else Nat.log2 n+1
theorem bl_le (n k:Nat):bl n≤k↔n<2^k:=by
 unfold bl
 by_cases h:n=0
 ·simp [h,Nat.two_pow_pos]
 ·rw [if_neg h]
  constructor
  ·intro hk
   exact Nat.lt_of_lt_of_le Nat.lt_log2_self (Nat.pow_le_pow_right (by omega) hk)
  ·intro hk
   exact (Nat.log2_lt h).2 hk
theorem bl_zero:bl 0=0:=rfl
theorem bl_pos (n:Nat):0<bl n↔0<n:=by unfold bl;split<;>omega
theorem lt_bl (n:Nat):n<2^bl n:=(bl_le n _).1 (Nat.le_refl _)
theorem bl_ge (n k:Nat) (h:2^k≤n):k<bl n:=by
 rcases Nat.lt_or_ge k (bl n) with h1|h1
 ·exact h1
 ·have:=(bl_le n k).1 h1;omega
theorem pow_bl (n:Nat) (h:0<n):2^(bl n-1)≤n:=by
 rcases Nat.lt_or_ge n (2^(bl n-1)) with h1|h1
 ·have:=(bl_le n _).2 h1;have:=(bl_pos n).2 h;omega
 ·exact h1
theorem bl_eq (n k:Nat) (h0:2^k≤n) (h1:n<2^(k+1)):bl n=k+1:=by
 have:=bl_ge n k h0;have:=(bl_le n _).2 h1;omega
theorem bl_top (V t k:Nat) (hV:V<2^k) (ht:0<t):bl (V+2^k*t)=k+bl t:=by
 have h1:=pow_bl t ht
 have h2:=lt_bl t
 have h3:=(bl_pos t).2 ht
 have hp:=Nat.two_pow_pos k
 have:=bl_eq (V+2^k*t) (k+(bl t-1)) (by rw [Nat.pow_add];exact Nat.le_trans (Nat.mul_le_mul_left _ h1) (by omega)) (by
  rw [show k+(bl t-1)+1=k+bl t by omega,Nat.pow_add]
  have:=Nat.mul_le_mul_left (2^k) (show t+1≤2^bl t by omega)
  rw [Nat.mul_add] at this;omega)
 omega
theorem bl_half (n:Nat) (h:0<n):bl n=1+bl (n/2):=by
 by_cases h1:n=1
 ·subst h1;decide
 ·have h2:0<n/2:=by omega
  have:=bl_top (n%2) (n/2) 1 (by omega) h2
  rw [show n%2+2^1*(n/2)=n by omega] at this;exact this
end Go.Ulp
