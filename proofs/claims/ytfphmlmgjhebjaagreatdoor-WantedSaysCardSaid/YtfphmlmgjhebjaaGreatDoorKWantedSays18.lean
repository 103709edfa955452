/- WantedSays: what the proof leans on, part 18 (Re3 Re9 Wa0 Wa1 ShelfU). -/
import Derived.Shelf.Strings.SlTrimAscii
import Derived.Lib.ParseIntB
import Derived.Lib.AtoiErrMem
import Derived.MapKept
import Derived.Shelf.Strings.Builder1
import Derived.Shelf.Strings.Builder2
import Derived.Shelf.Strings.OnBuilder
import Derived.Shelf.Strings.Trim
import Derived.Shelf.Small.Utf8
import Derived.Shelf.Small.Bits
import Derived.Shelf.Small.Strs
import Derived.Shelf.Small.Wraps
import Derived.Shelf.Strings.BuilderF
import Derived.Shelf.Strconv.Atoi
import Derived.Shelf.Strconv.Itoa0
import Derived.Shelf.Strconv.Itoa1
import Derived.Shelf.LaysM
import Derived.Shelf.Strconv.Itoa2
import Derived.Shelf.Strconv.Itoa3
import Derived.Ground.MpProg
import Derived.Shelf.Pu.ParseUintPublic10
import Derived.Shelf.Strings.Search1
import Derived.Shelf.Strings.Search2
import Derived.Shelf.Strings.Search3
import Derived.Shelf.Strings.Shaped
import Derived.Shelf.Strings.Prefix
import Derived.Shelf.Strings.Runes
import Derived.Shelf.Strings.AsciiSet
import Derived.Shelf.Bits.Mul64
import Derived.Shelf.Strings.Repeat
import Derived.Shelf.Unicode.DecodeSlow
import Derived.Ground.Names2Prog
import Derived.Shelf.Slices.ReverseS
import Derived.Shelf.Slices.SearchI
import Derived.Test.YtfphmlmgjhebjaaGreatDoorKWantedSays8
import Derived.Test.YtfphmlmgjhebjaaGreatDoorKWantedSays10
import Derived.Test.YtfphmlmgjhebjaaGreatDoorKWantedSays13
import Derived.Test.YtfphmlmgjhebjaaGreatDoorKWantedSays17
set_option linter.unusedVariables false
set_option linter.unusedSimpArgs false
namespace Go.Ulp
open Go.RowKit
def isDg (b:UInt8):Bool:=decide (48≤b.toNat∧b.toNat≤57)
def tkD (L:List UInt8):List UInt8:=L.takeWhile isDg
def dpD (L:List UInt8):List UInt8:=L.dropWhile isDg
theorem tk_dp (L:List UInt8):tkD L++dpD L=L:=List.takeWhile_append_dropWhile
theorem dp_len (L:List UInt8):(dpD L).length+(tkD L).length=L.length:=by
 have:=congrArg List.length (tk_dp L);rw [List.length_append] at this;omega
end Go.Ulp
namespace Go.Proofs.YtfphmlmgjhebjaaGreatDoor
open Go.RowKit Go.Ulp
set_option maxHeartbeats 2000000
set_option maxRecDepth 100000
end Go.Proofs.YtfphmlmgjhebjaaGreatDoor
namespace Go.Ulp
open Go.RowKit
def dvA (acc:Nat) (L:List UInt8):Nat:=L.foldl (fun a b=>a*10+(b.toNat-48)) acc
def dvl (L:List UInt8):Nat:=dvA 0 L
def AllDg (L:List UInt8):Prop:= ∀b∈L,isDg b=true
theorem dvA_cons (acc:Nat) (b:UInt8) (r:List UInt8):dvA acc (b::r)=dvA (acc*10+(b.toNat-48)) r:=by unfold dvA;rw [List.foldl_cons]
theorem dvA_app (acc:Nat) (A B:List UInt8):dvA acc (A++B)=dvA (dvA acc A) B:=by unfold dvA;rw [List.foldl_append]
theorem dvl_cons (b:UInt8) (r:List UInt8):dvl (b::r)=dvA (b.toNat-48) r:=by unfold dvl;rw [dvA_cons,Nat.zero_mul,Nat.zero_add]
theorem dvA_acc (L:List UInt8): ∀(acc:Nat),dvA acc L=acc*10^L.length+dvl L:=by
 induction L with
 |nil=>intro acc;rw [List.length_nil,Nat.pow_zero,Nat.mul_one];rfl
 |cons b r ih=>
  intro acc
  rw [dvA_cons,ih,dvl_cons,ih,List.length_cons,Nat.pow_succ,Nat.add_mul,Nat.mul_assoc,Nat.mul_comm 10,Nat.add_assoc]
theorem dg_bd {b:UInt8} (h:isDg b=true):48≤b.toNat∧b.toNat≤57:=of_decide_eq_true h
theorem AllDg.tail {b:UInt8} {r:List UInt8} (h:AllDg (b::r)):AllDg r:=fun x hx=>h x (List.mem_cons_of_mem _ hx)
theorem all_tk (L:List UInt8):AllDg (tkD L):=fun b hb=>by
 unfold tkD at hb
 exact (List.all_eq_true.1 (List.all_takeWhile (p:=isDg) (l:=L))) b hb
end Go.Ulp
namespace Go.Proofs.YtfphmlmgjhebjaaGreatDoor
open Go.RowKit Go.Ulp
set_option maxHeartbeats 2000000
set_option maxRecDepth 100000
end Go.Proofs.YtfphmlmgjhebjaaGreatDoor
namespace Go.Ulp
open Go.RowKit
end Go.Ulp
namespace Go.Proofs.YtfphmlmgjhebjaaGreatDoor
open Go.RowKit Go.Ulp
set_option maxHeartbeats 4000000
set_option maxRecDepth 100000
end Go.Proofs.YtfphmlmgjhebjaaGreatDoor
namespace Go.Ulp
open Go.RowKit
theorem drop_cons {L:List UInt8} {j:Nat} {b:UInt8} {r:List UInt8} (h:L.drop j=b::r):j<L.length∧L.drop (j+1)=r∧L.getD j 0=b:=by
 have h1:j<L.length:=by
  rcases Nat.lt_or_ge j L.length with h9|h9
  ·exact h9
  ·rw [List.drop_eq_nil_of_le h9] at h;cases h
 have h2:L.drop (j+1)=(L.drop j).drop 1:=by rw [List.drop_drop]
 refine ⟨h1,by rw [h2,h];rfl,?_⟩
 rw [List.drop_eq_getElem_cons h1] at h
 injection h with h3 _
 rw [List.getD_eq_getElem?_getD,List.getElem?_eq_getElem h1];exact h3
theorem run_index {P:Program} {t:TypeId} (ht:P.underlying t=some .string) (L:List UInt8) (j:Nat) (b:UInt8) (r:List UInt8) (h:L.drop j=b::r) (w:World):(Instr.index t (.string (bsOf L)) (.int .i64 (j:Int))).run P w=.ok (.int .u8 (b.toNat:Int)) w:=by
 obtain ⟨h1,-,h3⟩:=drop_cons h
 rw [run_index_string _ _ _ _ _ ht,dif_pos ⟨by omega,by rw [bs_size];omega⟩]
 have key: ∀(n:Nat) (hn:n<(bsOf L).size),n=j→(bsOf L)[n]=b:=by
  rintro n hn rfl
  show L.toArray[n]'(by rw [bs_size] at hn;simpa using hn)=b
  rw [List.getElem_toArray]
  rw [List.getD_eq_getElem?_getD,List.getElem?_eq_getElem h1] at h3
  exact h3
 rw [key _ _ (by omega)]
end Go.Ulp
namespace Go.Proofs.YtfphmlmgjhebjaaGreatDoor
open Go.RowKit Go.Ulp
set_option maxHeartbeats 2000000
set_option maxRecDepth 100000
theorem run_any (L:List UInt8) (at0:Nat) (w:World) (hl:L.length≤9223372036854775807) (ha:at0≤L.length):
 Calls Tryz.prog 73 #[.string (bsOf L),.int .i64 (at0:Int)] w fun e w'=>e=.returned (.int .i64 ((at0+(tkD (L.drop at0)).length:Nat):Int))∧w=w':=by
 have hsz:=bs_size L
 obtain ⟨E,hE⟩: ∃E,E=at0+(tkD (L.drop at0)).length:=⟨_,rfl⟩
 rw [←hE]
 have BT:=hid (fun n w=>between_any n 48 57 w)
 go_enter Tryz.func73,Tryz.ntmps73
 go_wp2_with fail
 go_loopw [1] (fun s1 wr=> ∃j:Nat,s1=.int .i64 (j:Int)∧j≤L.length∧j+(tkD (L.drop j)).length=E∧wr=w) (fun s1 _=>L.length-(intOf s1).toNat)
 case atStart=>exact ⟨at0,rfl,ha,hE.symm,rfl⟩
 case round=>
  obtain ⟨j,rfl,hj,hjE,rfl⟩:=hrel
  cases hd:L.drop j with
  |nil=>
   have h1: ¬j<L.length:=fun h9=>by
    have:=congrArg List.length hd
    rw [List.length_drop,List.length_nil] at this;omega
   rw [hd] at hjE
   have e:j=E:=hjE
   subst e
   go_wp2_with fail
   go_ret
   exact ⟨rfl,by first|rfl|trivial⟩
  |cons b r=>
   obtain ⟨h1,h2,-⟩:=drop_cons hd
   have hix:=run_index (P:=Tryz.prog) Tryz.underlying9 L j b r hd
   rw [hd] at hjE
   have hw:IntKind.i64.wrap ((j:Int)+1)=(j:Int)+1:=IntWalk.i64_in _ (by omega)
   have hc:IntKind.i64.wrap (b.toNat:Int)=(b.toNat:Int):=IntWalk.i64_in _ (by have:=b.toNat_lt;omega)
   obtain ⟨t,ht⟩: ∃t,t=isDg b:=⟨_,rfl⟩
   have B1:=hid (show ∀w,Calls Tryz.prog 25 #[.int .i64 (b.toNat:Int),.int .i64 48,.int .i64 57] w fun e w'=>e=.returned (.bool t)∧w=w' from fun w=>by
    have h:=BT.out (b.toNat:Int) w
    rw [show decide ((48:Int)≤(b.toNat:Int)∧(b.toNat:Int)≤57)=t by rw [ht];unfold isDg;rw [decide_eq_decide];omega] at h
    exact h)
   obtain ⟨Q,hQ⟩: ∃Q,Q=bsOf L:=⟨_,rfl⟩
   rw [←hQ] at hix hsz ⊢
   obtain ⟨x,hx⟩: ∃x:Int,x=(b.toNat:Int):=⟨_,rfl⟩
   rw [←hx] at hix hc B1
   have HE:=hid hjE
   have HT:=hid ht
   have H2:=hid h2
   clear hd hQ hx BT ht hjE h2
   cases t
   ·go_wp2_with (go_at_call 25;(with_reducible refine (B1.out _).mono ?_);rintro en w1 ⟨rfl,rfl⟩)
    go_ret
    have e:j=E:=by
     have h:=HE.out
     unfold tkD at h
     rw [List.takeWhile_cons_of_neg (by rw [←HT.out];decide)] at h
     exact h
    exact ⟨by rw [e];rfl,by first|rfl|trivial⟩
   ·go_wp2_with (go_at_call 25;(with_reducible refine (B1.out _).mono ?_);rintro en w1 ⟨rfl,rfl⟩)
    go_roundw
    case rel=>
     refine ⟨j+1,by go_num,by omega,?_,by first|rfl|trivial⟩
     rw [H2.out]
     have h:=HE.out
     unfold tkD at h ⊢
     rw [List.takeWhile_cons_of_pos (by rw [←HT.out])] at h
     rw [List.length_cons] at h;omega
    case measure=>simp [intOf];omega
end Go.Proofs.YtfphmlmgjhebjaaGreatDoor
namespace Go.Ulp
open Go.RowKit
section
variable {P:Program} {w:World}
theorem isKey_u8 (c:Int):MapKept.IsKey (.int .u8) (.int .u8 c):=by simp [MapKept.IsKey]
theorem run_upd_u8 {t k e:TypeId} (hm:P.underlying t=some (.map k e)) (hk:P.underlying k=some (.int .u8)) (b:Nat) (hb:b=w.heap.size) (es:Array MapEntry) (n:Nat) (c:Int) (v:Value) (hf:Instr.findNow (.int .u8) (.int .u8 c) es.toList 0=some none):
 (Instr.mapUpdate t (.map (some b)) (.int .u8 c) v).run P (w.alloc (.map es n))=.ok () (w.alloc (.map (es.push {key:=.int .u8 c,val:=v,born:=n}) (n+1))):=by
 subst hb
 have hh:(w.alloc (.map es n)).heap[w.heap.size]? =some (.map es n):=heap_alloc_new w _
 have hc:(Instr.checkKey false 10000 k (.int .u8 c)).run P (w.alloc (.map es n))=.ok () (w.alloc (.map es n)):=MapKept.run_checkKey hk (isKey_u8 c) false 9999
 have hs:({(w.alloc (.map es n)) with heap:=(w.alloc (.map es n)).heap.setIfInBounds w.heap.size (.map (es.push {key:=.int .u8 c,val:=v,born:=n}) (n+1))}:World)=w.alloc (.map (es.push {key:=.int .u8 c,val:=v,born:=n}) (n+1)):=by
  show ({w with heap:=(w.heap.push (.map es n)).setIfInBounds w.heap.size _}:World)= {w with heap:=w.heap.push _}
  congr 1
  apply Array.ext_getElem?
  intro i
  by_cases hi:i=w.heap.size
  ·subst hi;simp
  ·simp [Array.getElem?_setIfInBounds,Array.getElem?_push,hi,Ne.symm hi]
 simp only [Instr.mapUpdate,Sem.run_bind,run_underlying hm,MapKept.run_getObj_map hh,hc,MapKept.run_findKey hk hf,MapKept.run_setObj_map _ hh,Result.andThen]
 rw [hs]
def lkV:Option (Nat×Value)→Value
 |some (_,v)=>v
 |none=>.pointer none
theorem run_look_u8 {t k e:TypeId} (hm:P.underlying t=some (.map k e)) (hk:P.underlying k=some (.int .u8)) {b:Nat} {es:Array MapEntry} {n:Nat} (hb:w.heap[b]? =some (.map es n)) (c:Int) (hz:(zeroValue e).run P w=.ok (.pointer none) w)
 (r:Option (Nat×Value)) (hf:Instr.findNow (.int .u8) (.int .u8 c) es.toList 0=some r):
 (Instr.lookup t (.map (some b)) (.int .u8 c) false).run P w=.ok (lkV r) w:=by
 have hc:(Instr.checkKey es.isEmpty 10000 k (.int .u8 c)).run P w=.ok () w:=MapKept.run_checkKey hk (isKey_u8 c) _ 9999
 cases r with
 |none=>simp [lkV,Instr.lookup,run_underlying hm,MapKept.run_getObj_map hb,hc,MapKept.run_findKey hk hf,hz,Result.andThen]
 |some p=>obtain ⟨i,v⟩:=p;simp [lkV,Instr.lookup,run_underlying hm,MapKept.run_getObj_map hb,hc,MapKept.run_findKey hk hf,Result.andThen]
end
def mkE (g:Nat) (c:Int) (o n:Nat):MapEntry:= {key:=.int .u8 c,val:=.pointer (some ⟨g,o,none⟩),born:=n}
def mkM (g:Nat):Array MapEntry:= #[mkE g 45 1 0,mkE g 43 2 1,mkE g 32 3 2,mkE g 48 4 3,mkE g 35 5 4]
def mkO (c:Int):Nat:=if c=45 then 1 else if c=43 then 2 else if c=32 then 3 else if c=48 then 4 else if c=35 then 5 else 0
def mkV (g:Nat) (c:Int):Value:=if mkO c=0 then .pointer none else .pointer (some ⟨g,mkO c,none⟩)
theorem find_mark (g:Nat) (c:Int): ∃r,Instr.findNow (.int .u8) (.int .u8 c) (mkM g).toList 0=some r∧lkV r=mkV g c:=by
 unfold mkM mkE mkV mkO
 have cs: ∀(a b:Int),(a==b)=decide (a=b):=fun a b=>rfl
 by_cases h1:c=45
 ·subst h1;exact ⟨_,rfl,rfl⟩
 by_cases h2:c=43
 ·subst h2;exact ⟨_,rfl,rfl⟩
 by_cases h3:c=32
 ·subst h3;exact ⟨_,rfl,rfl⟩
 by_cases h4:c=48
 ·subst h4;exact ⟨_,rfl,rfl⟩
 by_cases h5:c=35
 ·subst h5;exact ⟨_,rfl,rfl⟩
 refine ⟨none,?_,?_⟩
 ·have e1:(c==45)=false:=beq_eq_false_iff_ne.2 h1
  have e2:(c==43)=false:=beq_eq_false_iff_ne.2 h2
  have e3:(c==32)=false:=beq_eq_false_iff_ne.2 h3
  have e4:(c==48)=false:=beq_eq_false_iff_ne.2 h4
  have e5:(c==35)=false:=beq_eq_false_iff_ne.2 h5
  simp [Instr.findNow,Instr.sameNow,e1,e2,e3,e4,e5]
 ·simp [lkV,h1,h2,h3,h4,h5]
end Go.Ulp
namespace Go.Proofs.YtfphmlmgjhebjaaGreatDoor
open Go.RowKit Go.Ulp
theorem mark_map:Tryz.prog.underlying 97=some (.map 5 96):=Tryz.underlying97
theorem mark_key:Tryz.prog.underlying 5=some (.int .u8):=Tryz.underlying5
theorem mark_zero (w:World):(zeroValue 96).run Tryz.prog w=.ok (.pointer none) w:=by
 have h:(Tryz.prog.info? 96).map (fun i=>(i.zero,i.size,i.bytes))=some (some (.pointer none),1,8):=by kernel_rfl
 obtain ⟨i,hi,h1,_,_⟩:=info_parts h
 simp [zeroValue,typeInfo,hi,h1]
end Go.Proofs.YtfphmlmgjhebjaaGreatDoor
namespace Go.Ulp
open Go.RowKit
def szOf:Value→Nat
 | .string b=>b.size
 |_=>0
theorem szOf_bs (L:List UInt8):szOf (.string (bsOf L))=L.length:=bs_size L
def cpN (c:Nat) (L:List UInt8):Nat:=min (dvl (tkD L)) c
theorem cap_step (n d a b c:Nat) (hn:n≤c) (ha:1≤a):min (min (n*10+d) c*a+b) c=min ((n*10+d)*a+b) c:=by
 rcases Nat.le_total (n*10+d) c with h|h
 ·rw [Nat.min_eq_left h]
 ·rw [Nat.min_eq_right h]
  have h1:c≤c*a:=Nat.le_mul_of_pos_right c ha
  have h2:c*a≤(n*10+d)*a:=Nat.mul_le_mul_right a h
  omega
end Go.Ulp
namespace Go.Proofs.YtfphmlmgjhebjaaGreatDoor
open Go.RowKit Go.Ulp
set_option maxHeartbeats 4000000
set_option maxRecDepth 100000
theorem numberW_any (L:List UInt8) (w:World) (hl:L.length≤9223372036854775806):
 Calls Tryz.prog 65 #[.string (bsOf L)] w fun e w'=>e=.returned (.tuple #[.int .i64 ((cpN 100000 L:Nat):Int),.string (bsOf (dpD L))])∧w=w':=by
 obtain ⟨N,hN⟩: ∃N,N=cpN 100000 L:=⟨_,rfl⟩
 obtain ⟨D,hD⟩: ∃D,D=dpD L:=⟨_,rfl⟩
 rw [←hN,←hD]
 have HN:=hid hN
 have HD:=hid hD
 clear hN hD
 go_enter Tryz.func65,Tryz.ntmps65
 go_wp2_with fail
 go_loopw [0,4] (fun s0 s4 wr=> ∃(R:List UInt8) (n:Nat),s0=.string (bsOf R)∧s4=.int .i64 (n:Int)∧n≤100000∧R.length≤9223372036854775806∧dpD R=D∧min (n*10^(tkD R).length+dvl (tkD R)) 100000=N∧wr=w) (fun s0 _ _=>szOf s0)
 case atStart=>exact ⟨L,0,rfl,rfl,by omega,hl,HD.out.symm,by rw [HN.out];unfold cpN;rw [Nat.zero_mul,Nat.zero_add],rfl⟩
 case round=>
  obtain ⟨R,n,rfl,rfl,hn,hR,hd,hm,rfl⟩:=hrel
  cases R with
  |nil=>
   have e1:n=N:=by
    have:min (n*10^0+0) 100000=N:=hm
    omega
   have e2:D= []:=hd.symm
   subst e1 e2
   have hq:((bsOf []).toList== [])=true:=by rw [bs_toList];rfl
   obtain ⟨Q,hQ⟩: ∃Q,Q=bsOf []:=⟨_,rfl⟩
   rw [←hQ] at hq ⊢
   have HQ:=hid hQ
   clear hd hm HD HN hQ
   go_wp2_with fail
   go_ret2
   rw [←HQ.out]
   exact ⟨rfl,by first|rfl|trivial⟩
  |cons b r=>
   have hq:((bsOf (b::r)).toList== [])=false:=by rw [bs_toList];rfl
   have hix: ∀w,(Instr.index 9 (.string (bsOf (b::r))) (.int .i64 0)).run Tryz.prog w=.ok (.int .u8 (b.toNat:Int)) w:=run_index (P:=Tryz.prog) Tryz.underlying9 (b::r) 0 b r rfl
   have hsl: ∀w,(Instr.slice 9 (.string (bsOf (b::r))) (some (.int .i64 1)) none none).run Tryz.prog w=.ok (.string (bsOf r)) w:=slice_from (P:=Tryz.prog) Tryz.underlying9 (b::r) 1 (by omega) (by rw [List.length_cons];omega)
   have hbl:=b.toNat_lt
   obtain ⟨Q,hQ⟩: ∃Q,Q=bsOf (b::r):=⟨_,rfl⟩
   rw [←hQ] at hq hix hsl ⊢
   obtain ⟨x,hx⟩: ∃x:Int,x=(b.toNat:Int):=⟨_,rfl⟩
   rw [←hx] at hix
   have hszQ:szOf (.string Q)=r.length+1:=by rw [hQ,szOf_bs];rfl
   have hlr:r.length≤9223372036854775806:=by simp at hR;omega
   by_cases h1:48≤b.toNat∧b.toNat≤57
   ·have hdg:isDg b=true:=decide_eq_true h1
    have x1:(48:Int)≤x:=by omega
    have x2:x≤(57:Int):=by omega
    have t1:tkD (b::r)=b::tkD r:=by unfold tkD;rw [List.takeWhile_cons_of_pos hdg]
    have t2:dpD (b::r)=dpD r:=by unfold dpD;rw [List.dropWhile_cons_of_pos hdg]
    rw [t1,List.length_cons,dvl_cons,dvA_acc] at hm
    rw [t2] at hd
    have w1:IntKind.u8.wrap (x-48)=x-48:=IntWalk.u8_in _ (by omega)
    have w2:IntKind.i64.wrap (x-48)=x-48:=IntWalk.i64_in _ (by omega)
    have w3:IntKind.i64.wrap (10*(n:Int))=10*(n:Int):=IntWalk.i64_in _ (by omega)
    have w4:IntKind.i64.wrap (10*(n:Int)+(x-48))=10*(n:Int)+(x-48):=IntWalk.i64_in _ (by omega)
    have hm2:min (min (n*10+(b.toNat-48)) 100000*10^(tkD r).length+dvl (tkD r)) 100000=N:=by
     rw [cap_step _ _ _ _ _ hn (Nat.pow_pos (by omega)),←hm,Nat.pow_succ,Nat.add_mul]
     congr 1
     rw [show n*(10^(tkD r).length*10)=n*10*10^(tkD r).length by rw [Nat.mul_assoc,Nat.mul_comm 10]]
     omega
    have hmn:min (10*(n:Int)+(x-48)) 100000=((min (n*10+(b.toNat-48)) 100000:Nat):Int):=by omega
    have HM:=hid hm2
    have HD2:=hid hd
    clear hm hm2 hd HD HN t1 t2 hQ hdg
    go_wp2_with fail
    go_roundw
    case rel=>exact ⟨r,min (n*10+(b.toNat-48)) 100000,rfl,by first|rfl|(rw [←hmn];rw [hx])|(rw [←hmn]),by omega,hlr,HD2.out,HM.out,by first|rfl|trivial⟩
    case measure=>rw [hszQ,szOf_bs];omega
   ·have hdg:isDg b=false:=decide_eq_false h1
    have t1:tkD (b::r)= []:=by unfold tkD;rw [List.takeWhile_cons_of_neg (by rw [hdg];decide)]
    have t2:dpD (b::r)=b::r:=by unfold dpD;rw [List.dropWhile_cons_of_neg (by rw [hdg];decide)]
    rw [t2] at hd
    rw [t1] at hm
    have e1:n=N:=by
     have:min (n*10^0+0) 100000=N:=hm
     omega
    have hQD:bsOf D=Q:=by rw [←hd,←hQ]
    have HQ:=hid hQD
    subst e1
    clear hm hd HD HN t1 t2 hdg hQ hQD
    by_cases h2:48≤x
    ·have h3: ¬x≤57:=by omega
     go_wp2_with fail
     go_ret2
     rw [HQ.out]
     exact ⟨rfl,by first|rfl|trivial⟩
    ·go_wp2_with fail
     go_ret2
     rw [HQ.out]
     exact ⟨rfl,by first|rfl|trivial⟩
end Go.Proofs.YtfphmlmgjhebjaaGreatDoor
namespace Go.Proofs
open Go.Shelf
def Tryz.lays162_ren:Go.Shelf.Ren:=⟨fun|162=>167|232=>224|227=>216|234=>225|236=>226|228=>242|271=>244|151=>72|120=>258|197=>243|152=>134|260=>257|137=>66|119=>192|224=>193|225=>194|217=>123|266=>181|n=>n,fun|9=>9|4=>4|3=>3|5=>5|117=>239|116=>238|0=>0|124=>242|21=>21|105=>259|46=>62|119=>280|139=>283|138=>282|n=>n,fun|3=>4|4=>5|n=>n⟩
theorem Tryz.lays162:Go.Proofs.Lays.n162 Tryz.prog Tryz.lays162_ren:= {
 mixed:=by kernel_rfl
 f119:=Tryz.func192.trans (congrArg some (by kernel_rfl))
 f120:=Tryz.func258.trans (congrArg some (by kernel_rfl))
 f137:=Tryz.func66.trans (congrArg some (by kernel_rfl))
 f151:=Tryz.func72.trans (congrArg some (by kernel_rfl))
 f152:=Tryz.func134.trans (congrArg some (by kernel_rfl))
 f162:=Tryz.func167.trans (congrArg some (by kernel_rfl))
 f197:=Tryz.func243.trans (congrArg some (by kernel_rfl))
 f217:=Tryz.func123.trans (congrArg some (by kernel_rfl))
 f224:=Tryz.func193.trans (congrArg some (by kernel_rfl))
 f225:=Tryz.func194.trans (congrArg some (by kernel_rfl))
 f227:=Tryz.func216.trans (congrArg some (by kernel_rfl))
 f228:=Tryz.func242.trans (congrArg some (by kernel_rfl))
 f232:=Tryz.func224.trans (congrArg some (by kernel_rfl))
 f234:=Tryz.func225.trans (congrArg some (by kernel_rfl))
 f236:=Tryz.func226.trans (congrArg some (by kernel_rfl))
 f260:=Tryz.func257.trans (congrArg some (by kernel_rfl))
 f266:=Tryz.func181.trans (congrArg some (by kernel_rfl))
 f271:=Tryz.func244.trans (congrArg some (by kernel_rfl))
 t0:=Tryz.underlying0
 a0:=Tryz.isAgg0
 z0:=Tryz.sizeOf0
 v0:=Tryz.zeroValue0
 t3:=Tryz.underlying3
 a3:=Tryz.isAgg3
 z3:=Tryz.sizeOf3
 v3:=Tryz.zeroValue3
 t4:=Tryz.underlying4
 a4:=Tryz.isAgg4
 z4:=Tryz.sizeOf4
 v4:=Tryz.zeroValue4
 t5:=Tryz.underlying5
 a5:=Tryz.isAgg5
 z5:=Tryz.sizeOf5
 v5:=Tryz.zeroValue5
 t9:=Tryz.underlying9
 a9:=Tryz.isAgg9
 z9:=Tryz.sizeOf9
 v9:=Tryz.zeroValue9
 t21:=Tryz.underlying21
 a21:=Tryz.isAgg21
 z21:=Tryz.sizeOf21
 v21:=Tryz.zeroValue21
 t46:=Tryz.underlying62
 a46:=Tryz.isAgg62
 z46:=Tryz.sizeOf62
 v46:=Tryz.zeroValue62
 t105:=Tryz.underlying259
 a105:=Tryz.isAgg259
 z105:=Tryz.sizeOf259
 v105:=Tryz.zeroValue259
 t116:=Tryz.underlying238
 a116:=Tryz.isAgg238
 z116:=Tryz.sizeOf238
 t117:=Tryz.underlying239
 a117:=Tryz.isAgg239
 z117:=Tryz.sizeOf239
 v117:=Tryz.zeroValue239
 t119:=Tryz.underlying280
 a119:=Tryz.isAgg280
 z119:=Tryz.sizeOf280
 t124:=Tryz.underlying242
 a124:=Tryz.isAgg242
 z124:=Tryz.sizeOf242
 v124:=Tryz.zeroValue242
 t138:=Tryz.underlying282
 a138:=Tryz.isAgg282
 z138:=Tryz.sizeOf282
 v138:=Tryz.zeroValue282
 t139:=Tryz.underlying283
 a139:=Tryz.isAgg283
 z139:=Tryz.sizeOf283
 v139:=Tryz.zeroValue283
 g3:=by kernel_rfl
 g4:=by kernel_rfl}
open Go.RowKit in
theorem Tryz.strings_TrimRight_one (s:ByteArray) (c:UInt8) (hc:c.toNat<128) (w:World) (hs:s.size≤9223372036854775807):
 Calls Tryz.prog 167 #[.string s,.string ⟨#[c]⟩] w fun e w'=>e=.returned (.string ⟨(Lib.trimRightB s.data.toList c).toArray⟩)∧w'=w:=Any.strings_TrimRight_one Tryz.lays162 s c hc w hs
def Tryz.lays137_ren:Go.Shelf.Ren:=⟨fun|137=>66|217=>123|266=>181|n=>n,fun|9=>9|5=>5|3=>3|n=>n,fun|n=>n⟩
theorem Tryz.lays137:Go.Proofs.Lays.n137 Tryz.prog Tryz.lays137_ren:= {
 mixed:=by kernel_rfl
 f137:=Tryz.func66.trans (congrArg some (by kernel_rfl))
 f217:=Tryz.func123.trans (congrArg some (by kernel_rfl))
 f266:=Tryz.func181.trans (congrArg some (by kernel_rfl))
 t3:=Tryz.underlying3
 a3:=Tryz.isAgg3
 z3:=Tryz.sizeOf3
 v3:=Tryz.zeroValue3
 t5:=Tryz.underlying5
 a5:=Tryz.isAgg5
 z5:=Tryz.sizeOf5
 v5:=Tryz.zeroValue5
 t9:=Tryz.underlying9
 a9:=Tryz.isAgg9
 z9:=Tryz.sizeOf9
 v9:=Tryz.zeroValue9}
open Go.RowKit in
theorem Tryz.strings_IndexByte (s:ByteArray) (c:Int) (w:World):
 Calls Tryz.prog 66 #[.string s,.int .u8 c] w fun e w'=>e=.returned (.int .i64 (Lib.indexByte s.data.toList c.toNat.toUInt8))∧w'=w:=Any.strings_IndexByte Tryz.lays137 s c w
def Tryz.lays143_ren:Go.Shelf.Ren:=⟨fun|143=>135|219=>195|217=>123|225=>194|224=>193|267=>239|266=>181|314=>254|n=>n,fun|9=>9|3=>3|4=>4|5=>5|46=>62|146=>216|51=>181|n=>n,fun|1=>0|n=>n⟩
theorem Tryz.lays143:Go.Proofs.Lays.n143 Tryz.prog Tryz.lays143_ren:= {
 mixed:=by kernel_rfl
 f143:=Tryz.func135.trans (congrArg some (by kernel_rfl))
 f217:=Tryz.func123.trans (congrArg some (by kernel_rfl))
 f219:=Tryz.func195.trans (congrArg some (by kernel_rfl))
 f224:=Tryz.func193.trans (congrArg some (by kernel_rfl))
 f225:=Tryz.func194.trans (congrArg some (by kernel_rfl))
 f266:=Tryz.func181.trans (congrArg some (by kernel_rfl))
 f267:=Tryz.func239.trans (congrArg some (by kernel_rfl))
 f314:=Tryz.func254.trans (congrArg some (by kernel_rfl))
 t3:=Tryz.underlying3
 a3:=Tryz.isAgg3
 z3:=Tryz.sizeOf3
 v3:=Tryz.zeroValue3
 t4:=Tryz.underlying4
 a4:=Tryz.isAgg4
 z4:=Tryz.sizeOf4
 v4:=Tryz.zeroValue4
 t5:=Tryz.underlying5
 a5:=Tryz.isAgg5
 z5:=Tryz.sizeOf5
 v5:=Tryz.zeroValue5
 t9:=Tryz.underlying9
 a9:=Tryz.isAgg9
 z9:=Tryz.sizeOf9
 v9:=Tryz.zeroValue9
 t46:=Tryz.underlying62
 a46:=Tryz.isAgg62
 z46:=Tryz.sizeOf62
 v46:=Tryz.zeroValue62
 t51:=Tryz.underlying181
 a51:=Tryz.isAgg181
 z51:=Tryz.sizeOf181
 v51:=Tryz.zeroValue181
 t146:=Tryz.underlying216
 a146:=Tryz.isAgg216
 z146:=Tryz.sizeOf216
 v146:=Tryz.zeroValue216
 g1:=by kernel_rfl}
open Go.RowKit Go.Lib in
theorem Tryz.strings_Index_one (s:ByteArray) (c:UInt8) (w:World):
 Calls Tryz.prog 135 #[.string s,.string ⟨#[c]⟩] w fun e w'=>e=.returned (.int .i64 (Lib.indexByte s.data.toList c))∧w'=w:=Any.strings_Index_one Tryz.lays143 s c w
def Tryz.lays144_ren:Go.Shelf.Ren:=⟨fun|144=>74|143=>135|219=>195|217=>123|225=>194|224=>193|267=>239|266=>181|314=>254|n=>n,fun|9=>9|4=>4|3=>3|5=>5|46=>62|146=>216|51=>181|n=>n,fun|1=>0|n=>n⟩
theorem Tryz.lays144:Go.Proofs.Lays.n144 Tryz.prog Tryz.lays144_ren:= {
 mixed:=by kernel_rfl
 f143:=Tryz.func135.trans (congrArg some (by kernel_rfl))
 f144:=Tryz.func74.trans (congrArg some (by kernel_rfl))
 f217:=Tryz.func123.trans (congrArg some (by kernel_rfl))
 f219:=Tryz.func195.trans (congrArg some (by kernel_rfl))
 f224:=Tryz.func193.trans (congrArg some (by kernel_rfl))
 f225:=Tryz.func194.trans (congrArg some (by kernel_rfl))
 f266:=Tryz.func181.trans (congrArg some (by kernel_rfl))
 f267:=Tryz.func239.trans (congrArg some (by kernel_rfl))
 f314:=Tryz.func254.trans (congrArg some (by kernel_rfl))
 t3:=Tryz.underlying3
 a3:=Tryz.isAgg3
 z3:=Tryz.sizeOf3
 v3:=Tryz.zeroValue3
 t4:=Tryz.underlying4
 a4:=Tryz.isAgg4
 z4:=Tryz.sizeOf4
 v4:=Tryz.zeroValue4
 t5:=Tryz.underlying5
 a5:=Tryz.isAgg5
 z5:=Tryz.sizeOf5
 v5:=Tryz.zeroValue5
 t9:=Tryz.underlying9
 a9:=Tryz.isAgg9
 z9:=Tryz.sizeOf9
 v9:=Tryz.zeroValue9
 t46:=Tryz.underlying62
 a46:=Tryz.isAgg62
 z46:=Tryz.sizeOf62
 v46:=Tryz.zeroValue62
 t51:=Tryz.underlying181
 a51:=Tryz.isAgg181
 z51:=Tryz.sizeOf181
 v51:=Tryz.zeroValue181
 t146:=Tryz.underlying216
 a146:=Tryz.isAgg216
 z146:=Tryz.sizeOf216
 v146:=Tryz.zeroValue216
 g1:=by kernel_rfl}
open Go.RowKit Go.Lib in
theorem Tryz.strings_Contains_one (s:ByteArray) (c:UInt8) (w:World):
 Calls Tryz.prog 74 #[.string s,.string ⟨#[c]⟩] w fun e w'=>e=.returned (.bool (decide (0≤Lib.indexByte s.data.toList c)))∧w'=w:=Any.strings_Contains_one Tryz.lays144 s c w
def Tryz.lays102_ren:Go.Shelf.Ren:=⟨fun|102=>208|209=>240|207=>255|n=>n,fun|9=>9|4=>4|3=>3|n=>n,fun|n=>n⟩
theorem Tryz.lays102:Go.Proofs.Lays.n102 Tryz.prog Tryz.lays102_ren:= {
 mixed:=by kernel_rfl
 f102:=Tryz.func208.trans (congrArg some (by kernel_rfl))
 f207:=Tryz.func255.trans (congrArg some (by kernel_rfl))
 f209:=Tryz.func240.trans (congrArg some (by kernel_rfl))
 t3:=Tryz.underlying3
 a3:=Tryz.isAgg3
 z3:=Tryz.sizeOf3
 v3:=Tryz.zeroValue3
 t4:=Tryz.underlying4
 a4:=Tryz.isAgg4
 z4:=Tryz.sizeOf4
 v4:=Tryz.zeroValue4
 t9:=Tryz.underlying9
 a9:=Tryz.isAgg9
 z9:=Tryz.sizeOf9
 v9:=Tryz.zeroValue9}
open Go.RowKit Go.Lib in
theorem Tryz.strings_TrimSuffix (s p:ByteArray) (w:World) (hs:s.size≤9223372036854775807):
 Calls Tryz.prog 208 #[.string s,.string p] w fun e w'=>e=.returned (.string ⟨(Lib.trimSuffix s.data.toList p.data.toList).toArray⟩)∧w'=w:=Any.strings_TrimSuffix Tryz.lays102 s p w hs
def Tryz.lays151_ren:Go.Shelf.Ren:=⟨fun|151=>72|152=>134|137=>66|119=>192|224=>193|225=>194|217=>123|266=>181|n=>n,fun|9=>9|21=>21|4=>4|3=>3|5=>5|0=>0|46=>62|n=>n,fun|n=>n⟩
theorem Tryz.lays151:Go.Proofs.Lays.n151 Tryz.prog Tryz.lays151_ren:= {
 mixed:=by kernel_rfl
 f119:=Tryz.func192.trans (congrArg some (by kernel_rfl))
 f137:=Tryz.func66.trans (congrArg some (by kernel_rfl))
 f151:=Tryz.func72.trans (congrArg some (by kernel_rfl))
 f152:=Tryz.func134.trans (congrArg some (by kernel_rfl))
 f217:=Tryz.func123.trans (congrArg some (by kernel_rfl))
 f224:=Tryz.func193.trans (congrArg some (by kernel_rfl))
 f225:=Tryz.func194.trans (congrArg some (by kernel_rfl))
 f266:=Tryz.func181.trans (congrArg some (by kernel_rfl))
 t0:=Tryz.underlying0
 a0:=Tryz.isAgg0
 z0:=Tryz.sizeOf0
 v0:=Tryz.zeroValue0
 t3:=Tryz.underlying3
 a3:=Tryz.isAgg3
 z3:=Tryz.sizeOf3
 v3:=Tryz.zeroValue3
 t4:=Tryz.underlying4
 a4:=Tryz.isAgg4
 z4:=Tryz.sizeOf4
 v4:=Tryz.zeroValue4
 t5:=Tryz.underlying5
 a5:=Tryz.isAgg5
 z5:=Tryz.sizeOf5
 v5:=Tryz.zeroValue5
 t9:=Tryz.underlying9
 a9:=Tryz.isAgg9
 z9:=Tryz.sizeOf9
 v9:=Tryz.zeroValue9
 t21:=Tryz.underlying21
 a21:=Tryz.isAgg21
 z21:=Tryz.sizeOf21
 v21:=Tryz.zeroValue21
 t46:=Tryz.underlying62
 a46:=Tryz.isAgg62
 z46:=Tryz.sizeOf62
 v46:=Tryz.zeroValue62}
open Go.RowKit Go.Lib in
theorem Tryz.strings_ContainsRune_ascii (s:ByteArray) (r:Int) (w:World) (h0:0≤r) (h1:r<128):
 Calls Tryz.prog 72 #[.string s,.int .i32 r] w fun e w'=>e=.returned (.bool (decide (0≤Lib.indexByte s.data.toList r.toNat.toUInt8)))∧w'=w:=Any.strings_ContainsRune_ascii Tryz.lays151 s r w h0 h1
end Go.Proofs
