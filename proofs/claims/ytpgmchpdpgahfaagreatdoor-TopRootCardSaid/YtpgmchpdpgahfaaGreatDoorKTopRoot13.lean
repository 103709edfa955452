/- TopRoot: what the proof leans on, part 13 (ShelfT Re3). -/
import Derived.Shelf.Strings.Builder1
import Derived.Shelf.Strings.Builder2
import Derived.Shelf.Strings.OnBuilder
import Derived.Shelf.Strings.Trim
import Derived.Shelf.Small.Utf8
import Derived.Shelf.Small.Bits
import Derived.Shelf.Small.Strs
import Derived.Shelf.Small.Wraps
import Derived.Shelf.Strings.BuilderF
import Derived.Shelf.Strconv.Atoi
import Derived.Shelf.Strconv.Itoa0
import Derived.Shelf.Strconv.Itoa1
import Derived.Shelf.LaysM
import Derived.Shelf.Strconv.Itoa2
import Derived.Shelf.Strconv.Itoa3
import Derived.Ground.MpProg
import Derived.Shelf.Pu.ParseUintPublic10
import Derived.Shelf.Strings.Search1
import Derived.Shelf.Strings.Prefix
import Derived.Shelf.Unicode.Decode
import Derived.Shelf.Strings.Runes
import Derived.Shelf.Strings.AsciiSet
import Derived.Shelf.Bits.Mul64
import Derived.Shelf.Strings.Repeat
import Derived.Shelf.Unicode.DecodeSlow
import Derived.Shelf.Unicode.DecodeAny
import Derived.Shelf.Unicode.DecodeLast
import Derived.Ground.Names2Prog
import Derived.Shelf.Slices.ReverseS
import Derived.Shelf.Slices.SearchI
import Derived.Shelf.Slices.Cells
import Derived.Ground.SlgnProg
import Derived.Shelf.SlicesE.Clone
import Derived.Shelf.Strings.SlTrimAscii
import Derived.Lib.ParseIntB
import Derived.Lib.AtoiErrMem
import Derived.Test.YtpgmchpdpgahfaaGreatDoorKTopRoot6
import Derived.Test.YtpgmchpdpgahfaaGreatDoorKTopRoot12
namespace Go.Proofs
open Go.Shelf
def Tryz.lays161_ren : Go.Shelf.Ren := ⟨fun | 161 => 46 | 231 => 78 | 227 => 79 | 233 => 80 | 235 => 81 | 228 => 106 | 197 => 107 | 151 => 108 | 260 => 119 | 152 => 120 | 137 => 130 | 119 => 131 | 224 => 132 | 225 => 133 | 217 => 139 | 266 => 141 | n => n, fun | 9 => 9 | 4 => 4 | 3 => 3 | 5 => 5 | 117 => 116 | 116 => 115 | 0 => 0 | 124 => 119 | 105 => 144 | 21 => 21 | 119 => 168 | 46 => 38 | 139 => 171 | 138 => 170 | n => n, fun | 3 => 4 | 4 => 5 | n => n⟩
theorem Tryz.lays161 : Go.Proofs.Lays.n161 Tryz.prog Tryz.lays161_ren := {
  mixed := by kernel_rfl
  f119 := Tryz.func131.trans (congrArg some (by kernel_rfl))
  f137 := Tryz.func130.trans (congrArg some (by kernel_rfl))
  f151 := Tryz.func108.trans (congrArg some (by kernel_rfl))
  f152 := Tryz.func120.trans (congrArg some (by kernel_rfl))
  f161 := Tryz.func46.trans (congrArg some (by kernel_rfl))
  f197 := Tryz.func107.trans (congrArg some (by kernel_rfl))
  f217 := Tryz.func139.trans (congrArg some (by kernel_rfl))
  f224 := Tryz.func132.trans (congrArg some (by kernel_rfl))
  f225 := Tryz.func133.trans (congrArg some (by kernel_rfl))
  f227 := Tryz.func79.trans (congrArg some (by kernel_rfl))
  f228 := Tryz.func106.trans (congrArg some (by kernel_rfl))
  f231 := Tryz.func78.trans (congrArg some (by kernel_rfl))
  f233 := Tryz.func80.trans (congrArg some (by kernel_rfl))
  f235 := Tryz.func81.trans (congrArg some (by kernel_rfl))
  f260 := Tryz.func119.trans (congrArg some (by kernel_rfl))
  f266 := Tryz.func141.trans (congrArg some (by kernel_rfl))
  t0 := Tryz.underlying0
  a0 := Tryz.isAgg0
  z0 := Tryz.sizeOf0
  v0 := Tryz.zeroValue0
  t3 := Tryz.underlying3
  a3 := Tryz.isAgg3
  z3 := Tryz.sizeOf3
  v3 := Tryz.zeroValue3
  t4 := Tryz.underlying4
  a4 := Tryz.isAgg4
  z4 := Tryz.sizeOf4
  v4 := Tryz.zeroValue4
  t5 := Tryz.underlying5
  a5 := Tryz.isAgg5
  z5 := Tryz.sizeOf5
  v5 := Tryz.zeroValue5
  t9 := Tryz.underlying9
  a9 := Tryz.isAgg9
  z9 := Tryz.sizeOf9
  v9 := Tryz.zeroValue9
  t21 := Tryz.underlying21
  a21 := Tryz.isAgg21
  z21 := Tryz.sizeOf21
  v21 := Tryz.zeroValue21
  t46 := Tryz.underlying38
  a46 := Tryz.isAgg38
  z46 := Tryz.sizeOf38
  v46 := Tryz.zeroValue38
  t105 := Tryz.underlying144
  a105 := Tryz.isAgg144
  z105 := Tryz.sizeOf144
  v105 := Tryz.zeroValue144
  t116 := Tryz.underlying115
  a116 := Tryz.isAgg115
  z116 := Tryz.sizeOf115
  t117 := Tryz.underlying116
  a117 := Tryz.isAgg116
  z117 := Tryz.sizeOf116
  v117 := Tryz.zeroValue116
  t119 := Tryz.underlying168
  a119 := Tryz.isAgg168
  z119 := Tryz.sizeOf168
  t124 := Tryz.underlying119
  a124 := Tryz.isAgg119
  z124 := Tryz.sizeOf119
  v124 := Tryz.zeroValue119
  t138 := Tryz.underlying170
  a138 := Tryz.isAgg170
  z138 := Tryz.sizeOf170
  v138 := Tryz.zeroValue170
  t139 := Tryz.underlying171
  a139 := Tryz.isAgg171
  z139 := Tryz.sizeOf171
  v139 := Tryz.zeroValue171
  g3 := by kernel_rfl
  g4 := by kernel_rfl }
open Go.RowKit in
/-- strings.TrimLeft: "TrimLeft returns a slice of the string s with all leading Unicode code points contained in cutset removed.": AT A cutset OF ONE ASCII BYTE. The world is as it was. (LAID: no walk: one application.) -/
theorem Tryz.strings_TrimLeft_one (s : ByteArray) (c : UInt8) (hc : c.toNat < 128) (w : World) :
    Calls Tryz.prog 46 #[.string s, .string ⟨#[c]⟩] w fun e w' => e = .returned (.string ⟨(Lib.trimLeftB s.data.toList c).toArray⟩) ∧ w' = w := Any.strings_TrimLeft_one Tryz.lays161 s c hc w
def Tryz.lays103_ren : Go.Shelf.Ren := ⟨fun | 103 => 43 | 210 => 76 | 206 => 96 | n => n, fun | 9 => 9 | 4 => 4 | 24 => 76 | 3 => 3 | n => n, fun | n => n⟩
theorem Tryz.lays103 : Go.Proofs.Lays.n103 Tryz.prog Tryz.lays103_ren := {
  mixed := by kernel_rfl
  f103 := Tryz.func43.trans (congrArg some (by kernel_rfl))
  f206 := Tryz.func96.trans (congrArg some (by kernel_rfl))
  f210 := Tryz.func76.trans (congrArg some (by kernel_rfl))
  t3 := Tryz.underlying3
  a3 := Tryz.isAgg3
  z3 := Tryz.sizeOf3
  v3 := Tryz.zeroValue3
  t4 := Tryz.underlying4
  a4 := Tryz.isAgg4
  z4 := Tryz.sizeOf4
  v4 := Tryz.zeroValue4
  t9 := Tryz.underlying9
  a9 := Tryz.isAgg9
  z9 := Tryz.sizeOf9
  v9 := Tryz.zeroValue9
  t24 := Tryz.underlying76
  a24 := Tryz.isAgg76
  z24 := Tryz.sizeOf76
  v24 := Tryz.zeroValue76 }
open Go.RowKit in
/-- strings.CutPrefix: "CutPrefix returns s without the provided leading prefix string and reports whether it found the prefix. If s doesn't start with prefix, CutPrefix returns s, false. If prefix is the empty string, CutPrefix returns s, true.": IT RETURNS '(Lib.trimPrefix s p, Lib.hasPrefix s p)'; the world is as it was. (LAID: no walk: one application.) -/
theorem Tryz.strings_CutPrefix (s p : ByteArray) (w : World) :
    Calls Tryz.prog 43 #[.string s, .string p] w fun e w' => e = .returned (.tuple #[.string ⟨(Lib.trimPrefix s.data.toList p.data.toList).toArray⟩, .bool (Lib.hasPrefix s.data.toList p.data.toList)]) ∧ w' = w := Any.strings_CutPrefix Tryz.lays103 s p w
def Tryz.lays172_ren : Go.Shelf.Ren := ⟨fun | 172 => 77 | 244 => 104 | 245 => 105 | 247 => 114 | 279 => 115 | 280 => 116 | 281 => 117 | 282 => 118 | 287 => 109 | 316 => 128 | 171 => 61 | 205 => 129 | 321 => 121 | 322 => 122 | 243 => 93 | 246 => 111 | 283 => 124 | 284 => 125 | 285 => 126 | 286 => 127 | 129 => 135 | 317 => 134 | 318 => 136 | 319 => 137 | 320 => 138 | 337 => 75 | 338 => 140 | n => n, fun | 9 => 9 | 3 => 3 | 75 => 102 | 76 => 103 | 4 => 4 | 5 => 5 | 167 => 151 | 37 => 97 | 0 => 0 | 85 => 152 | 2 => 2 | 168 => 154 | 53 => 22 | 175 => 120 | 46 => 38 | 210 => 166 | 127 => 138 | 145 => 182 | 143 => 180 | 21 => 21 | 171 => 160 | 173 => 162 | 212 => 177 | 51 => 66 | 20 => 20 | 213 => 178 | 232 => 141 | 233 => 183 | 80 => 106 | n => n, fun | 15 => 2 | 16 => 3 | 17 => 6 | 18 => 0 | 19 => 7 | n => n⟩
theorem Tryz.lays172 : Go.Proofs.Lays.n172 Tryz.prog Tryz.lays172_ren := {
  mixed := by kernel_rfl
  f129 := Tryz.func135.trans (congrArg some (by kernel_rfl))
  f171 := Tryz.func61.trans (congrArg some (by kernel_rfl))
  f172 := Tryz.func77.trans (congrArg some (by kernel_rfl))
  f205 := Tryz.func129.trans (congrArg some (by kernel_rfl))
  f243 := Tryz.func93.trans (congrArg some (by kernel_rfl))
  f244 := Tryz.func104.trans (congrArg some (by kernel_rfl))
  f245 := Tryz.func105.trans (congrArg some (by kernel_rfl))
  f246 := Tryz.func111.trans (congrArg some (by kernel_rfl))
  f247 := Tryz.func114.trans (congrArg some (by kernel_rfl))
  f279 := Tryz.func115.trans (congrArg some (by kernel_rfl))
  f280 := Tryz.func116.trans (congrArg some (by kernel_rfl))
  f281 := Tryz.func117.trans (congrArg some (by kernel_rfl))
  f282 := Tryz.func118.trans (congrArg some (by kernel_rfl))
  f283 := Tryz.func124.trans (congrArg some (by kernel_rfl))
  f284 := Tryz.func125.trans (congrArg some (by kernel_rfl))
  f285 := Tryz.func126.trans (congrArg some (by kernel_rfl))
  f286 := Tryz.func127.trans (congrArg some (by kernel_rfl))
  f287 := Tryz.func109.trans (congrArg some (by kernel_rfl))
  f316 := Tryz.func128.trans (congrArg some (by kernel_rfl))
  f317 := Tryz.func134.trans (congrArg some (by kernel_rfl))
  f318 := Tryz.func136.trans (congrArg some (by kernel_rfl))
  f319 := Tryz.func137.trans (congrArg some (by kernel_rfl))
  f320 := Tryz.func138.trans (congrArg some (by kernel_rfl))
  f321 := Tryz.func121.trans (congrArg some (by kernel_rfl))
  f322 := Tryz.func122.trans (congrArg some (by kernel_rfl))
  f337 := Tryz.func75.trans (congrArg some (by kernel_rfl))
  f338 := Tryz.func140.trans (congrArg some (by kernel_rfl))
  t0 := Tryz.underlying0
  a0 := Tryz.isAgg0
  z0 := Tryz.sizeOf0
  v0 := Tryz.zeroValue0
  t2 := Tryz.underlying2
  a2 := Tryz.isAgg2
  z2 := Tryz.sizeOf2
  v2 := Tryz.zeroValue2
  t3 := Tryz.underlying3
  a3 := Tryz.isAgg3
  z3 := Tryz.sizeOf3
  v3 := Tryz.zeroValue3
  t4 := Tryz.underlying4
  a4 := Tryz.isAgg4
  z4 := Tryz.sizeOf4
  v4 := Tryz.zeroValue4
  t5 := Tryz.underlying5
  a5 := Tryz.isAgg5
  z5 := Tryz.sizeOf5
  v5 := Tryz.zeroValue5
  t9 := Tryz.underlying9
  a9 := Tryz.isAgg9
  z9 := Tryz.sizeOf9
  v9 := Tryz.zeroValue9
  t20 := Tryz.underlying20
  a20 := Tryz.isAgg20
  z20 := Tryz.sizeOf20
  v20 := Tryz.zeroValue20
  t21 := Tryz.underlying21
  a21 := Tryz.isAgg21
  z21 := Tryz.sizeOf21
  v21 := Tryz.zeroValue21
  t37 := Tryz.underlying97
  a37 := Tryz.isAgg97
  z37 := Tryz.sizeOf97
  v37 := Tryz.zeroValue97
  t46 := Tryz.underlying38
  a46 := Tryz.isAgg38
  z46 := Tryz.sizeOf38
  v46 := Tryz.zeroValue38
  t51 := Tryz.underlying66
  a51 := Tryz.isAgg66
  z51 := Tryz.sizeOf66
  v51 := Tryz.zeroValue66
  t53 := Tryz.underlying22
  a53 := Tryz.isAgg22
  z53 := Tryz.sizeOf22
  v53 := Tryz.zeroValue22
  t75 := Tryz.underlying102
  a75 := Tryz.isAgg102
  z75 := Tryz.sizeOf102
  v75 := Tryz.zeroValue102
  t76 := Tryz.underlying103
  a76 := Tryz.isAgg103
  z76 := Tryz.sizeOf103
  v76 := Tryz.zeroValue103
  t85 := Tryz.underlying152
  a85 := Tryz.isAgg152
  z85 := Tryz.sizeOf152
  v85 := Tryz.zeroValue152
  t127 := Tryz.underlying138
  a127 := Tryz.isAgg138
  z127 := Tryz.sizeOf138
  v127 := Tryz.zeroValue138
  t143 := Tryz.underlying180
  a143 := Tryz.isAgg180
  z143 := Tryz.sizeOf180
  v143 := Tryz.zeroValue180
  t145 := Tryz.underlying182
  a145 := Tryz.isAgg182
  z145 := Tryz.sizeOf182
  v145 := Tryz.zeroValue182
  t167 := Tryz.underlying151
  a167 := Tryz.isAgg151
  z167 := Tryz.sizeOf151
  v167 := Tryz.zeroValue151
  t168 := Tryz.underlying154
  a168 := Tryz.isAgg154
  z168 := Tryz.sizeOf154
  v168 := Tryz.zeroValue154
  t171 := Tryz.underlying160
  a171 := Tryz.isAgg160
  z171 := Tryz.sizeOf160
  v171 := Tryz.zeroValue160
  t173 := Tryz.underlying162
  a173 := Tryz.isAgg162
  z173 := Tryz.sizeOf162
  v173 := Tryz.zeroValue162
  t175 := Tryz.underlying120
  a175 := Tryz.isAgg120
  z175 := Tryz.sizeOf120
  v175 := Tryz.zeroValue120
  t210 := Tryz.underlying166
  a210 := Tryz.isAgg166
  z210 := Tryz.sizeOf166
  v210 := Tryz.zeroValue166
  t212 := Tryz.underlying177
  a212 := Tryz.isAgg177
  z212 := Tryz.sizeOf177
  v212 := Tryz.zeroValue177
  t213 := Tryz.underlying178
  a213 := Tryz.isAgg178
  z213 := Tryz.sizeOf178
  t232 := Tryz.underlying141
  a232 := Tryz.isAgg141
  z232 := Tryz.sizeOf141
  v232 := Tryz.zeroValue141
  t233 := Tryz.underlying183
  a233 := Tryz.isAgg183
  z233 := Tryz.sizeOf183
  v233 := Tryz.zeroValue183
  g15 := by kernel_rfl
  g16 := by kernel_rfl
  g17 := by kernel_rfl
  g18 := by kernel_rfl
  g19 := by kernel_rfl }
open Go.RowKit in
/-- strconv.Atoi: "Atoi is equivalent to ParseInt(s, 10, 0), converted to type int.": AT A DECIMAL NUMERAL OF AT MOST 18 BYTES: its value, and a nil error. The world behind the call: the one new row that the library's '[]byte(s)' lays. (LAID: no walk: one application.) -/
theorem Tryz.strconv_Atoi (s : ByteArray) (n : Int) (hl : s.size ≤ 18) (h : Lib.atoi s.data.toList = some n) (w : World) :
    Calls Tryz.prog 77 #[.string s] w fun e w' => e = .returned (.tuple #[.int .i64 n, .nilIface]) ∧ ∃ t, w' = Lib.bytesWorld w 5 t := Any.strconv_Atoi Tryz.lays172 s n hl h w
end Go.Proofs

set_option linter.unusedVariables false
set_option linter.unusedSimpArgs false
namespace Go.Ulp
open Go.RowKit
/-- a letter that is a digit -/
def isDg (b : UInt8) : Bool := decide (48 ≤ b.toNat ∧ b.toNat ≤ 57)
theorem dg_contains (b : UInt8) : [48, 49, 50, 51, 52, 53, 54, 55, 56, 57].contains b = isDg b := by
  have : ∀ n : Fin 256, [48, 49, 50, 51, 52, 53, 54, 55, 56, 57].contains (UInt8.ofNat n.1) = isDg (UInt8.ofNat n.1) := by decide +kernel
  have h := this ⟨b.toNat, b.toNat_lt⟩
  simpa using h
/-- the digits ahead, and what is behind them -/
def tkD (L : List UInt8) : List UInt8 := L.takeWhile isDg
def dpD (L : List UInt8) : List UInt8 := L.dropWhile isDg
theorem tk_dp (L : List UInt8) : tkD L ++ dpD L = L := List.takeWhile_append_dropWhile
theorem tk_len (L : List UInt8) : (tkD L).length ≤ L.length := by
  have := congrArg List.length (tk_dp L); rw [List.length_append] at this; omega
theorem dp_len (L : List UInt8) : (dpD L).length + (tkD L).length = L.length := by
  have := congrArg List.length (tk_dp L); rw [List.length_append] at this; omega
theorem take_tk (L : List UInt8) : L.take (tkD L).length = tkD L := by
  have h := List.take_left (l₁ := tkD L) (l₂ := dpD L)
  rw [tk_dp] at h; exact h
theorem drop_tk (L : List UInt8) : L.drop (tkD L).length = dpD L := by
  have h := List.drop_left (l₁ := tkD L) (l₂ := dpD L)
  rw [tk_dp] at h; exact h
end Go.Ulp
namespace Go.Proofs.YtpgmchpdpgahfaaGreatDoor
open Go.RowKit Go.Ulp
set_option linter.unusedVariables false
set_option linter.unusedSimpArgs false
set_option maxHeartbeats 2000000
set_option maxRecDepth 100000
theorem trimDg_any (L : List UInt8) (w : World) :
    Calls Tryz.prog 46 #[.string (bsOf L), .string ⟨#[48, 49, 50, 51, 52, 53, 54, 55, 56, 57]⟩] w fun e w' => e = .returned (.string (bsOf (dpD L))) ∧ Below w.heap.size w w' := by
  refine (Any.strings_TrimLeft_laid Tryz.lays161 (by kernel_rfl) (bsOf L) ⟨#[48, 49, 50, 51, 52, 53, 54, 55, 56, 57]⟩ w (by decide) (ascii_of_all (by decide))).mono ?_
  rintro e w1 ⟨rfl, hb⟩
  refine ⟨?_, hb⟩
  rw [bs_list]
  have : Lib.trimLeftS L [48, 49, 50, 51, 52, 53, 54, 55, 56, 57] = dpD L := by
    unfold Lib.trimLeftS dpD
    congr 1
    funext b; exact dg_contains b
  exact ret_bs this
theorem trimZ_any (L : List UInt8) (w : World) :
    Calls Tryz.prog 46 #[.string (bsOf L), .string ⟨#[48]⟩] w fun e w' => e = .returned (.string (bsOf (L.dropWhile fun b => b == 48))) ∧ w = w' := by
  refine (Tryz.strings_TrimLeft_one (bsOf L) 48 (by decide) w).mono ?_
  rintro e w1 ⟨h1, rfl⟩
  refine ⟨?_, rfl⟩
  rw [bs_list] at h1
  rw [h1]
  exact ret_bs (by first | rfl | (unfold Lib.trimLeftB; rfl))
theorem digitsP_any (L : List UInt8) (w : World) (hl : L.length ≤ 1000000) :
    Calls Tryz.prog 44 #[.string (bsOf L)] w fun e w' => e = .returned (.int .i64 ((tkD L).length : Int)) ∧ Below w.heap.size w w' := by
  have TD := hid (trimDg_any L)
  have hd := dp_len L
  have hs1 : (bsOf L).size = L.length := bs_size L
  have hs2 : (bsOf (dpD L)).size = (dpD L).length := bs_size _
  have hw : IntKind.i64.wrap ((L.length : Int) - ((dpD L).length : Int)) = ((tkD L).length : Int) := by rw [IntWalk.i64_in _ (by omega)]; omega
  generalize dpD L = R at *
  generalize (tkD L).length = n at *
  clear hd
  go_enter Tryz.func44, Tryz.ntmps44
  go_wp2_with (go_at_call 46; (with_reducible refine (TD.out _).mono ?_); rintro en w1 ⟨rfl, hb1⟩)
  go_ret
  exact ⟨rfl, hb1⟩
end Go.Proofs.YtpgmchpdpgahfaaGreatDoor
set_option linter.unusedVariables false
set_option linter.unusedSimpArgs false
namespace Go.Ulp
open Go.RowKit
/-- the number that digits spell, behind a number -/
def dvA (acc : Nat) (L : List UInt8) : Nat := L.foldl (fun a b => a * 10 + (b.toNat - 48)) acc
def dvl (L : List UInt8) : Nat := dvA 0 L
def AllDg (L : List UInt8) : Prop := ∀ b ∈ L, isDg b = true
theorem dvA_cons (acc : Nat) (b : UInt8) (r : List UInt8) : dvA acc (b :: r) = dvA (acc * 10 + (b.toNat - 48)) r := by unfold dvA; rw [List.foldl_cons]
theorem dvA_app (acc : Nat) (A B : List UInt8) : dvA acc (A ++ B) = dvA (dvA acc A) B := by unfold dvA; rw [List.foldl_append]
theorem dvl_cons (b : UInt8) (r : List UInt8) : dvl (b :: r) = dvA (b.toNat - 48) r := by unfold dvl; rw [dvA_cons, Nat.zero_mul, Nat.zero_add]
theorem dvA_acc (L : List UInt8) : ∀ (acc : Nat), dvA acc L = acc * 10 ^ L.length + dvl L := by
  induction L with
  | nil => intro acc; rw [List.length_nil, Nat.pow_zero, Nat.mul_one]; rfl
  | cons b r ih =>
    intro acc
    rw [dvA_cons, ih, dvl_cons, ih, List.length_cons, Nat.pow_succ, Nat.add_mul, Nat.mul_assoc, Nat.mul_comm 10, Nat.add_assoc]
theorem dg_bd {b : UInt8} (h : isDg b = true) : 48 ≤ b.toNat ∧ b.toNat ≤ 57 := of_decide_eq_true h
theorem AllDg.tail {b : UInt8} {r : List UInt8} (h : AllDg (b :: r)) : AllDg r := fun x hx => h x (List.mem_cons_of_mem _ hx)
theorem dvl_lt : ∀ (L : List UInt8), AllDg L → dvl L < 10 ^ L.length
  | [], _ => by show 0 < 1; omega
  | b :: r, h => by
    have h1 := dvl_lt r h.tail
    have h2 := dg_bd (h b (List.mem_cons_self ..))
    rw [dvl_cons, dvA_acc, List.length_cons, Nat.pow_succ]
    have h3 : (b.toNat - 48) * 10 ^ r.length ≤ 9 * 10 ^ r.length := Nat.mul_le_mul_right _ (by omega)
    omega
theorem dvl_ge (b : UInt8) (r : List UInt8) (h : AllDg (b :: r)) (h0 : b ≠ 48) : 10 ^ r.length ≤ dvl (b :: r) := by
  have h2 := dg_bd (h b (List.mem_cons_self ..))
  have h4 : b.toNat ≠ 48 := fun h9 => h0 (UInt8.toNat_inj.1 (by rw [h9]; rfl))
  rw [dvl_cons, dvA_acc]
  have h3 : 1 * 10 ^ r.length ≤ (b.toNat - 48) * 10 ^ r.length := Nat.mul_le_mul_right _ (by omega)
  omega
theorem decFrom_dv : ∀ (L : List UInt8) (acc : Nat), AllDg L → Lib.decFrom acc L = some (dvA acc L)
  | [], acc, _ => rfl
  | b :: r, acc, h => by
    have h2 := dg_bd (h b (List.mem_cons_self ..))
    show (match Lib.digitVal b with | some d => Lib.decFrom (acc * 10 + d) r | none => none) = _
    rw [show Lib.digitVal b = some (b.toNat - 48) by unfold Lib.digitVal; rw [if_pos h2]]
    exact decFrom_dv r _ h.tail
theorem atoi_dv (L : List UInt8) (h : AllDg L) (h0 : L ≠ []) : Lib.atoi L = some ((dvl L : Nat) : Int) := by
  cases L with
  | nil => exact absurd rfl h0
  | cons b r =>
    have h2 := dg_bd (h b (List.mem_cons_self ..))
    have e1 : (b == 45) = false := beq_eq_false_iff_ne.2 (fun h9 => by rw [h9] at h2; exact absurd h2 (by decide))
    have e2 : (b == 43) = false := beq_eq_false_iff_ne.2 (fun h9 => by rw [h9] at h2; exact absurd h2 (by decide))
    unfold Lib.atoi
    simp only [e1, e2, Bool.false_eq_true, if_false]
    unfold Lib.decNat
    rw [if_neg (by simp), decFrom_dv _ _ h]
    rfl
theorem parseM_dv : ∀ (L : List UInt8) (acc : Nat), AllDg L → (acc + 1) * 10 ^ L.length ≤ 1000000000000000000 → Lib.parseUintM (2 ^ 64 - 1) acc L = .ok (dvA acc L)
  | [], acc, _, _ => rfl
  | b :: r, acc, h, hb => by
    have h2 := dg_bd (h b (List.mem_cons_self ..))
    rw [List.length_cons, Nat.pow_succ] at hb
    have hp : 0 < 10 ^ r.length := Nat.pow_pos (by omega)
    have hb2 : (acc * 10 + (b.toNat - 48) + 1) * 10 ^ r.length ≤ 1000000000000000000 := by
      refine Nat.le_trans ?_ hb
      rw [Nat.mul_comm (10 ^ r.length) 10, ← Nat.mul_assoc]
      exact Nat.mul_le_mul_right _ (by omega)
    have hb3 : acc * 10 + (b.toNat - 48) + 1 ≤ 1000000000000000000 := Nat.le_trans (Nat.le_mul_of_pos_right _ hp) hb2
    rw [Lib.parseUintM, if_pos h2, if_neg (by omega), if_neg (by omega)]
    exact parseM_dv r _ h.tail hb2
theorem parse_dv (L : List UInt8) (h : AllDg L) (h0 : L ≠ []) (hl : L.length ≤ 18) : Lib.parseUintB 64 L = .ok (dvl L) := by
  unfold Lib.parseUintB
  rw [if_neg h0]
  refine parseM_dv L 0 h ?_
  have : 10 ^ L.length ≤ 10 ^ 18 := Nat.pow_le_pow_right (by omega) hl
  omega
theorem all_tk (L : List UInt8) : AllDg (tkD L) := fun b hb => by
  unfold tkD at hb
  exact (List.all_eq_true.1 (List.all_takeWhile (p := isDg) (l := L))) b hb
theorem all_of_len {L : List UInt8} (h : (tkD L).length = L.length) : AllDg L := by
  have h1 := take_tk L
  rw [h, List.take_length] at h1
  rw [h1]; exact all_tk L
/-- a sign ahead -/
def sgnP (r : List UInt8) : Bool := Lib.hasPrefix r [45]
def sgS (r : List UInt8) : List UInt8 := if (sgnP r || Lib.hasPrefix r [43]) = true then r.drop 1 else r
/-- an exponent's digits -/
def okX (s : List UInt8) : Bool := decide (1 ≤ (tkD s).length ∧ (tkD s).length ≤ 6 ∧ (tkD s).length = s.length)
def xpV (r : List UInt8) : Int := if okX (sgS r) = true then (if sgnP r = true then -((dvl (sgS r) : Nat) : Int) else ((dvl (sgS r) : Nat) : Int)) else 0
def isE (c : UInt8) : Bool := c == 101 || c == 69
/-- what a text behind the digits tells: the exponent, and whether it is one -/
def pwV (L : List UInt8) : Int := match L with | [] => 0 | c :: r => if isE c = true then xpV r else 0
def pwO (L : List UInt8) : Bool := match L with | [] => true | c :: r => isE c && okX (sgS r)
theorem hp_len {r : List UInt8} {c : UInt8} (h : Lib.hasPrefix r [c] = true) : 1 ≤ r.length := by
  cases r with
  | nil => exact absurd h (by simp [Lib.hasPrefix, List.isPrefixOf])
  | cons a t => rw [List.length_cons]; omega
theorem dvl6 (s : List UInt8) (h : okX s = true) : dvl s < 1000000 := by
  obtain ⟨h1, h2, h3⟩ := of_decide_eq_true h
  have h4 := dvl_lt s (all_of_len h3)
  have h5 : 10 ^ s.length ≤ 10 ^ 6 := Nat.pow_le_pow_right (by omega) (by omega)
  omega
theorem pwV_bd (L : List UInt8) : -1000000 < pwV L ∧ pwV L < 1000000 := by
  cases L with
  | nil => show -1000000 < (0 : Int) ∧ (0 : Int) < 1000000; omega
  | cons c r =>
    show -1000000 < (if isE c = true then xpV r else 0) ∧ (if isE c = true then xpV r else 0) < 1000000
    split
    · unfold xpV
      split
      · rename_i h; have := dvl6 _ h; split <;> omega
      · omega
    · omega
end Go.Ulp
namespace Go.Proofs.YtpgmchpdpgahfaaGreatDoor
open Go.RowKit Go.Ulp
set_option linter.unusedVariables false
set_option linter.unusedSimpArgs false
set_option maxHeartbeats 2000000
set_option maxRecDepth 100000
theorem pwr_other (c : UInt8) (r : List UInt8) (w : World) (hl : (c :: r).length ≤ 1000000) (h : isE c = false) :
    Calls Tryz.prog 45 #[.string (bsOf (c :: r))] w fun e w' => e = .returned (.tuple #[.int .i64 0, .bool false]) ∧ Below w.heap.size w w' := by
  unfold isE at h
  have h1 := (Bool.or_eq_false_iff.1 h).1
  have h2 := (Bool.or_eq_false_iff.1 h).2
  have hix : ∀ w, (Instr.index 9 (.string (bsOf (c :: r))) (.int .i64 0)).run Tryz.prog w = .ok (.int .u8 (c.toNat : Int)) w := fun w => by
    rw [run_index_string _ _ _ _ _ Tryz.underlying9, dif_pos ⟨by omega, by rw [bs_size]; simp⟩]
    rfl
  have x1 : ¬ (c.toNat : Int) = 101 := (fun h9 => by
    have : c = 101 := UInt8.toNat_inj.1 (by show c.toNat = 101; omega)
    rw [this] at h1; exact absurd h1 (by decide))
  have x2 : ¬ (c.toNat : Int) = 69 := (fun h9 => by
    have : c = 69 := UInt8.toNat_inj.1 (by show c.toNat = 69; omega)
    rw [this] at h2; exact absurd h2 (by decide))
  have hne : (bsOf (c :: r)).toList.isEmpty = false := by rw [bs_toList]; rfl
  obtain ⟨Q, hQ⟩ : ∃ Q, Q = bsOf (c :: r) := ⟨_, rfl⟩
  rw [← hQ] at hix hne ⊢
  clear hQ h h1 h2
  go_enter Tryz.func45, Tryz.ntmps45
  go_wp2_with fail
  all_goals first
    | (go_ret2; exact ⟨rfl, Below.refl _ _⟩)
    | (exfalso; simp only [beq_iff_eq, bne_iff_ne, ne_eq, Bool.or_eq_true, Bool.and_eq_false_iff, decide_eq_true_eq, beq_eq_false_iff_ne, bne_eq_false_iff_eq] at *; omega)
theorem pwr_core (c : UInt8) (r s' : List UInt8) (neg pl : Bool) (n m : Nat) (ok : Bool) (v : Int) (w : World) (hc : isE c = true) (hl : (c :: r).length ≤ 1000000)
    (hn : sgnP r = neg) (hp : Lib.hasPrefix r [43] = pl) (hs' : sgS r = s') (hn2 : (tkD s').length = n) (hm : s'.length = m) (hok : okX s' = ok) (hv : v = if ok = true then (if neg = true then -((dvl s' : Nat) : Int) else ((dvl s' : Nat) : Int)) else 0) :
    Calls Tryz.prog 45 #[.string (bsOf (c :: r))] w fun e w' => e = .returned (.tuple #[.int .i64 v, .bool ok]) ∧ Below w.heap.size w w' := by
  have hix : ∀ w, (Instr.index 9 (.string (bsOf (c :: r))) (.int .i64 0)).run Tryz.prog w = .ok (.int .u8 (c.toNat : Int)) w := fun w => by
    rw [run_index_string _ _ _ _ _ Tryz.underlying9, dif_pos ⟨by omega, by rw [bs_size]; simp⟩]
    rfl
  have hne : (bsOf (c :: r)).toList.isEmpty = false := by rw [bs_toList]; rfl
  have hs1 := slice_from (P := Tryz.prog) Tryz.underlying9 (c :: r) 1 (by omega) (by simp; omega)
  rw [show (c :: r).drop (1 : Int).toNat = r from rfl] at hs1
  have H1 := hid (show ∀ w, Calls Tryz.prog 63 #[.string (bsOf r), .string ⟨#[45]⟩] w fun e w' => e = .returned (.bool neg) ∧ w' = w from fun w => by
    have h := Tryz.strings_HasPrefix (bsOf r) ⟨#[45]⟩ w
    rw [bs_list] at h; rw [← hn]; exact h)
  have H2 := hid (show ∀ w, Calls Tryz.prog 63 #[.string (bsOf r), .string ⟨#[43]⟩] w fun e w' => e = .returned (.bool pl) ∧ w' = w from fun w => by
    have h := Tryz.strings_HasPrefix (bsOf r) ⟨#[43]⟩ w
    rw [bs_list] at h; rw [← hp]; exact h)
  have hrl : r.length ≤ 1000000 := by rw [List.length_cons] at hl; omega
  have HS2 : (neg || pl) = true → ∀ w, (Instr.slice 9 (.string (bsOf r)) (some (.int .i64 1)) none none).run Tryz.prog w = .ok (.string (bsOf s')) w := fun h w => by
    have h1 : 1 ≤ r.length := by
      rcases Bool.or_eq_true _ _ |>.mp h with h2 | h2
      · rw [← hn] at h2; exact hp_len h2
      · rw [← hp] at h2; exact hp_len h2
    have e1 : s' = r.drop 1 := by rw [← hs']; unfold sgS; rw [hn, hp, if_pos h]
    have := slice_from (P := Tryz.prog) Tryz.underlying9 r 1 (by omega) (by omega) w
    rw [this, e1]; rfl
  have HS3 : (neg || pl) = false → s' = r := fun h => by rw [← hs']; unfold sgS; rw [hn, hp, if_neg (by rw [h]; decide)]
  have hsl : s'.length ≤ 1000000 := by
    rw [← hs']; unfold sgS; split
    · rw [List.length_drop]; omega
    · exact hrl
  have DG := hid (show ∀ w, Calls Tryz.prog 44 #[.string (bsOf s')] w fun e w' => e = .returned (.int .i64 (n : Int)) ∧ Below w.heap.size w w' from fun w => by rw [← hn2]; exact digitsP_any s' w hsl)
  have hsz : (bsOf s').size = m := by rw [bs_size, hm]
  have hok2 : ok = decide (1 ≤ n ∧ n ≤ 6 ∧ n = m) := by rw [← hok]; unfold okX; rw [hn2, hm]
  obtain ⟨d, hd⟩ : ∃ d, d = dvl s' := ⟨_, rfl⟩
  have AT := hid (show ok = true → ∀ w, Calls Tryz.prog 77 #[.string (bsOf s')] w fun e w' => e = .returned (.tuple #[.int .i64 (d : Int), .nilIface]) ∧ Below w.heap.size w w' from fun h w => by
    have h3 := h
    rw [hok2] at h3
    obtain ⟨g1, g2, g3⟩ := of_decide_eq_true h3
    have ha : AllDg s' := all_of_len (by rw [hn2, hm]; exact g3)
    refine (Tryz.strconv_Atoi (bsOf s') (d : Int) (by rw [bs_size]; omega) (by rw [bs_list, hd]; exact atoi_dv s' ha (fun h9 => by rw [h9] at hm; rw [List.length_nil] at hm; omega)) w).mono ?_
    rintro e w1 ⟨rfl, t, rfl⟩
    exact ⟨rfl, Lib.bytesWorld_below _ _ _⟩)
  have hdb : ok = true → d < 1000000 := fun h => by rw [hd]; exact dvl6 s' (by rw [hok]; exact h)
  rw [← hd] at hv
  obtain ⟨Q, hQ⟩ : ∃ Q, Q = bsOf (c :: r) := ⟨_, rfl⟩
  rw [← hQ] at hix hne hs1 ⊢
  obtain ⟨S, hS⟩ : ∃ S, S = bsOf s' := ⟨_, rfl⟩
  rw [← hS] at HS2 DG hsz AT
  have HS4 : (neg || pl) = false → bsOf r = S := fun h => by rw [hS, HS3 h]
  obtain ⟨R, hR⟩ : ∃ R, R = bsOf r := ⟨_, rfl⟩
  rw [← hR] at HS2 HS4 H1 H2 hs1
  have HX : ((c.toNat : Int) = 101) ∨ ((c.toNat : Int) = 69) := by
    unfold isE at hc
    rcases Bool.or_eq_true _ _ |>.mp hc with h | h
    · rw [beq_iff_eq.1 h]; exact .inl rfl
    · rw [beq_iff_eq.1 h]; exact .inr rfl
  have h69 : ((69 : Int) != 101) = true := rfl
  clear hQ hS hR hd HS3 hn hp hs' hn2 hm hok hl hrl hsl hc
  obtain ⟨x, hx⟩ : ∃ x, x = (c.toNat : Int) := ⟨_, rfl⟩
  rw [← hx] at HX hix
  clear hx
  cases neg
  · cases pl
    · have e1 := HS4 rfl
      subst e1
      clear HS2 HS4
      cases ok
      · rw [if_neg (by simp)] at hv
        subst hv
        have hno : ¬ (1 ≤ n ∧ n ≤ 6 ∧ n = m) := of_decide_eq_false hok2.symm
        clear hok2 AT hdb
        rcases HX with rfl | rfl
        · go_enter Tryz.func45, Tryz.ntmps45
          go_wp2_with (first | (go_at_call 63; first | ((with_reducible refine (H1.out _).mono ?_); rintro en w1 ⟨rfl, rfl⟩) | ((with_reducible refine (H2.out _).mono ?_); rintro en w1 ⟨rfl, rfl⟩)) | (go_at_call 44; (with_reducible refine (DG.out _).mono ?_); rintro en w1 ⟨rfl, hb1⟩) | (go_at_call 77; (with_reducible refine (AT.out _).mono ?_); rintro en w2 ⟨rfl, hb2⟩))
          all_goals first
            | (go_ret2; exact ⟨rfl, hb1⟩)
            | (exfalso; simp only [beq_iff_eq, bne_iff_ne, ne_eq, Bool.or_eq_true, decide_eq_true_eq, beq_eq_false_iff_ne, bne_eq_false_iff_eq] at *; omega)
        · go_enter Tryz.func45, Tryz.ntmps45
          go_wp2_with (first | (go_at_call 63; first | ((with_reducible refine (H1.out _).mono ?_); rintro en w1 ⟨rfl, rfl⟩) | ((with_reducible refine (H2.out _).mono ?_); rintro en w1 ⟨rfl, rfl⟩)) | (go_at_call 44; (with_reducible refine (DG.out _).mono ?_); rintro en w1 ⟨rfl, hb1⟩) | (go_at_call 77; (with_reducible refine (AT.out _).mono ?_); rintro en w2 ⟨rfl, hb2⟩))
          all_goals first
            | (go_ret2; exact ⟨rfl, hb1⟩)
            | (exfalso; simp only [beq_iff_eq, bne_iff_ne, ne_eq, Bool.or_eq_true, decide_eq_true_eq, beq_eq_false_iff_ne, bne_eq_false_iff_eq] at *; omega)
      · rw [if_pos rfl] at hv
        have hdb := hdb rfl
        replace AT := hid (AT.out rfl)
        obtain ⟨g1, g2, g3⟩ : 1 ≤ n ∧ n ≤ 6 ∧ n = m := of_decide_eq_true hok2.symm
        subst g3
        clear hok2
        have b1 : ((n : Int) == 0) = false := beq_eq_false_iff_ne.2 (by omega)
        rcases HX with rfl | rfl
        · go_enter Tryz.func45, Tryz.ntmps45
          go_wp2_with (first | (go_at_call 63; first | ((with_reducible refine (H1.out _).mono ?_); rintro en w1 ⟨rfl, rfl⟩) | ((with_reducible refine (H2.out _).mono ?_); rintro en w1 ⟨rfl, rfl⟩)) | (go_at_call 44; (with_reducible refine (DG.out _).mono ?_); rintro en w1 ⟨rfl, hb1⟩) | (go_at_call 77; (with_reducible refine (AT.out _).mono ?_); rintro en w2 ⟨rfl, hb2⟩))
          all_goals first
            | (go_ret2; exact ⟨by rw [hv]; rfl, below_trans hb1 hb2⟩)
            | (exfalso; simp only [beq_iff_eq, bne_iff_ne, ne_eq, Bool.or_eq_true, decide_eq_true_eq, beq_eq_false_iff_ne, bne_eq_false_iff_eq] at *; omega)
        · go_enter Tryz.func45, Tryz.ntmps45
          go_wp2_with (first | (go_at_call 63; first | ((with_reducible refine (H1.out _).mono ?_); rintro en w1 ⟨rfl, rfl⟩) | ((with_reducible refine (H2.out _).mono ?_); rintro en w1 ⟨rfl, rfl⟩)) | (go_at_call 44; (with_reducible refine (DG.out _).mono ?_); rintro en w1 ⟨rfl, hb1⟩) | (go_at_call 77; (with_reducible refine (AT.out _).mono ?_); rintro en w2 ⟨rfl, hb2⟩))
          all_goals first
            | (go_ret2; exact ⟨by rw [hv]; rfl, below_trans hb1 hb2⟩)
            | (exfalso; simp only [beq_iff_eq, bne_iff_ne, ne_eq, Bool.or_eq_true, decide_eq_true_eq, beq_eq_false_iff_ne, bne_eq_false_iff_eq] at *; omega)
    · have e1 := HS2 rfl
      clear HS2 HS4
      cases ok
      · rw [if_neg (by simp)] at hv
        subst hv
        have hno : ¬ (1 ≤ n ∧ n ≤ 6 ∧ n = m) := of_decide_eq_false hok2.symm
        clear hok2 AT hdb
        rcases HX with rfl | rfl
        · go_enter Tryz.func45, Tryz.ntmps45
          go_wp2_with (first | (go_at_call 63; first | ((with_reducible refine (H1.out _).mono ?_); rintro en w1 ⟨rfl, rfl⟩) | ((with_reducible refine (H2.out _).mono ?_); rintro en w1 ⟨rfl, rfl⟩)) | (go_at_call 44; (with_reducible refine (DG.out _).mono ?_); rintro en w1 ⟨rfl, hb1⟩) | (go_at_call 77; (with_reducible refine (AT.out _).mono ?_); rintro en w2 ⟨rfl, hb2⟩))
          all_goals first
            | (go_ret2; exact ⟨rfl, hb1⟩)
            | (exfalso; simp only [beq_iff_eq, bne_iff_ne, ne_eq, Bool.or_eq_true, decide_eq_true_eq, beq_eq_false_iff_ne, bne_eq_false_iff_eq] at *; omega)
        · go_enter Tryz.func45, Tryz.ntmps45
          go_wp2_with (first | (go_at_call 63; first | ((with_reducible refine (H1.out _).mono ?_); rintro en w1 ⟨rfl, rfl⟩) | ((with_reducible refine (H2.out _).mono ?_); rintro en w1 ⟨rfl, rfl⟩)) | (go_at_call 44; (with_reducible refine (DG.out _).mono ?_); rintro en w1 ⟨rfl, hb1⟩) | (go_at_call 77; (with_reducible refine (AT.out _).mono ?_); rintro en w2 ⟨rfl, hb2⟩))
          all_goals first
            | (go_ret2; exact ⟨rfl, hb1⟩)
            | (exfalso; simp only [beq_iff_eq, bne_iff_ne, ne_eq, Bool.or_eq_true, decide_eq_true_eq, beq_eq_false_iff_ne, bne_eq_false_iff_eq] at *; omega)
      · rw [if_pos rfl] at hv
        have hdb := hdb rfl
        replace AT := hid (AT.out rfl)
        obtain ⟨g1, g2, g3⟩ : 1 ≤ n ∧ n ≤ 6 ∧ n = m := of_decide_eq_true hok2.symm
        subst g3
        clear hok2
        have b1 : ((n : Int) == 0) = false := beq_eq_false_iff_ne.2 (by omega)
        rcases HX with rfl | rfl
        · go_enter Tryz.func45, Tryz.ntmps45
          go_wp2_with (first | (go_at_call 63; first | ((with_reducible refine (H1.out _).mono ?_); rintro en w1 ⟨rfl, rfl⟩) | ((with_reducible refine (H2.out _).mono ?_); rintro en w1 ⟨rfl, rfl⟩)) | (go_at_call 44; (with_reducible refine (DG.out _).mono ?_); rintro en w1 ⟨rfl, hb1⟩) | (go_at_call 77; (with_reducible refine (AT.out _).mono ?_); rintro en w2 ⟨rfl, hb2⟩))
          all_goals first
            | (go_ret2; exact ⟨by rw [hv]; rfl, below_trans hb1 hb2⟩)
            | (exfalso; simp only [beq_iff_eq, bne_iff_ne, ne_eq, Bool.or_eq_true, decide_eq_true_eq, beq_eq_false_iff_ne, bne_eq_false_iff_eq] at *; omega)
        · go_enter Tryz.func45, Tryz.ntmps45
          go_wp2_with (first | (go_at_call 63; first | ((with_reducible refine (H1.out _).mono ?_); rintro en w1 ⟨rfl, rfl⟩) | ((with_reducible refine (H2.out _).mono ?_); rintro en w1 ⟨rfl, rfl⟩)) | (go_at_call 44; (with_reducible refine (DG.out _).mono ?_); rintro en w1 ⟨rfl, hb1⟩) | (go_at_call 77; (with_reducible refine (AT.out _).mono ?_); rintro en w2 ⟨rfl, hb2⟩))
          all_goals first
            | (go_ret2; exact ⟨by rw [hv]; rfl, below_trans hb1 hb2⟩)
            | (exfalso; simp only [beq_iff_eq, bne_iff_ne, ne_eq, Bool.or_eq_true, decide_eq_true_eq, beq_eq_false_iff_ne, bne_eq_false_iff_eq] at *; omega)
  · have e1 := HS2 rfl
    clear HS2 HS4
    have hw : IntKind.i64.wrap (-(d : Int)) = -(d : Int) ∨ ok = false := by
      cases ok
      · exact .inr rfl
      · have := hdb rfl
        exact .inl (IntWalk.i64_in _ (by omega))
    cases ok
    · rw [if_neg (by simp)] at hv
      subst hv
      have hno : ¬ (1 ≤ n ∧ n ≤ 6 ∧ n = m) := of_decide_eq_false hok2.symm
      clear hok2 AT hdb
      rcases HX with rfl | rfl
      · go_enter Tryz.func45, Tryz.ntmps45
        go_wp2_with (first | (go_at_call 63; first | ((with_reducible refine (H1.out _).mono ?_); rintro en w1 ⟨rfl, rfl⟩) | ((with_reducible refine (H2.out _).mono ?_); rintro en w1 ⟨rfl, rfl⟩)) | (go_at_call 44; (with_reducible refine (DG.out _).mono ?_); rintro en w1 ⟨rfl, hb1⟩) | (go_at_call 77; (with_reducible refine (AT.out _).mono ?_); rintro en w2 ⟨rfl, hb2⟩))
        all_goals first
          | (go_ret2; exact ⟨rfl, hb1⟩)
          | (exfalso; simp only [beq_iff_eq, bne_iff_ne, ne_eq, Bool.or_eq_true, decide_eq_true_eq, beq_eq_false_iff_ne, bne_eq_false_iff_eq] at *; omega)
      · go_enter Tryz.func45, Tryz.ntmps45
        go_wp2_with (first | (go_at_call 63; first | ((with_reducible refine (H1.out _).mono ?_); rintro en w1 ⟨rfl, rfl⟩) | ((with_reducible refine (H2.out _).mono ?_); rintro en w1 ⟨rfl, rfl⟩)) | (go_at_call 44; (with_reducible refine (DG.out _).mono ?_); rintro en w1 ⟨rfl, hb1⟩) | (go_at_call 77; (with_reducible refine (AT.out _).mono ?_); rintro en w2 ⟨rfl, hb2⟩))
        all_goals first
          | (go_ret2; exact ⟨rfl, hb1⟩)
          | (exfalso; simp only [beq_iff_eq, bne_iff_ne, ne_eq, Bool.or_eq_true, decide_eq_true_eq, beq_eq_false_iff_ne, bne_eq_false_iff_eq] at *; omega)
    · rw [if_pos rfl] at hv
      have hdb := hdb rfl
      replace AT := hid (AT.out rfl)
      obtain ⟨g1, g2, g3⟩ : 1 ≤ n ∧ n ≤ 6 ∧ n = m := of_decide_eq_true hok2.symm
      subst g3
      clear hok2
      have b1 : ((n : Int) == 0) = false := beq_eq_false_iff_ne.2 (by omega)
      rcases HX with rfl | rfl
      · go_enter Tryz.func45, Tryz.ntmps45
        go_wp2_with (first | (go_at_call 63; first | ((with_reducible refine (H1.out _).mono ?_); rintro en w1 ⟨rfl, rfl⟩) | ((with_reducible refine (H2.out _).mono ?_); rintro en w1 ⟨rfl, rfl⟩)) | (go_at_call 44; (with_reducible refine (DG.out _).mono ?_); rintro en w1 ⟨rfl, hb1⟩) | (go_at_call 77; (with_reducible refine (AT.out _).mono ?_); rintro en w2 ⟨rfl, hb2⟩))
        all_goals first
          | (go_ret2; exact ⟨by rw [hv]; rfl, below_trans hb1 hb2⟩)
          | (exfalso; simp only [beq_iff_eq, bne_iff_ne, ne_eq, Bool.or_eq_true, decide_eq_true_eq, beq_eq_false_iff_ne, bne_eq_false_iff_eq] at *; omega)
      · go_enter Tryz.func45, Tryz.ntmps45
        go_wp2_with (first | (go_at_call 63; first | ((with_reducible refine (H1.out _).mono ?_); rintro en w1 ⟨rfl, rfl⟩) | ((with_reducible refine (H2.out _).mono ?_); rintro en w1 ⟨rfl, rfl⟩)) | (go_at_call 44; (with_reducible refine (DG.out _).mono ?_); rintro en w1 ⟨rfl, hb1⟩) | (go_at_call 77; (with_reducible refine (AT.out _).mono ?_); rintro en w2 ⟨rfl, hb2⟩))
        all_goals first
          | (go_ret2; exact ⟨by rw [hv]; rfl, below_trans hb1 hb2⟩)
          | (exfalso; simp only [beq_iff_eq, bne_iff_ne, ne_eq, Bool.or_eq_true, decide_eq_true_eq, beq_eq_false_iff_ne, bne_eq_false_iff_eq] at *; omega)
theorem powerP_any (L : List UInt8) (w : World) (hl : L.length ≤ 1000000) :
    Calls Tryz.prog 45 #[.string (bsOf L)] w fun e w' => e = .returned (.tuple #[.int .i64 (pwV L), .bool (pwO L)]) ∧ Below w.heap.size w w' := by
  cases L with
  | nil =>
    have hne : (bsOf []).toList.isEmpty = true := by rw [bs_toList]; rfl
    show Calls Tryz.prog 45 #[.string (bsOf [])] w fun e w' => e = .returned (.tuple #[.int .i64 0, .bool true]) ∧ Below w.heap.size w w'
    obtain ⟨Q, hQ⟩ : ∃ Q, Q = bsOf [] := ⟨_, rfl⟩
    rw [← hQ] at hne ⊢
    clear hQ
    go_enter Tryz.func45, Tryz.ntmps45
    go_wp2_with fail
    go_ret2
    exact ⟨rfl, Below.refl _ _⟩
  | cons c r =>
    cases hc : isE c
    · have h := pwr_other c r w hl hc
      rw [show pwV (c :: r) = 0 by show (if isE c = true then xpV r else 0) = 0; rw [hc]; rfl, show pwO (c :: r) = false by show (isE c && okX (sgS r)) = false; rw [hc]; rfl]
      exact h
    · have h := pwr_core c r (sgS r) (sgnP r) (Lib.hasPrefix r [43]) _ _ (okX (sgS r)) (xpV r) w hc hl rfl rfl rfl rfl rfl rfl rfl
      rw [show pwV (c :: r) = xpV r by show (if isE c = true then xpV r else 0) = _; rw [hc, if_pos rfl], show pwO (c :: r) = okX (sgS r) by show (isE c && okX (sgS r)) = _; rw [hc]; rfl]
      exact h
end Go.Proofs.YtpgmchpdpgahfaaGreatDoor
