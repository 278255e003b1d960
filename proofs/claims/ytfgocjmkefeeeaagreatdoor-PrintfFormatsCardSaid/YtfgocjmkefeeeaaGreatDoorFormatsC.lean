/- A part of the proof: definitions and lemmas. -/
import Derived.Test.YtfgocjmkefeeeaaGreatDoorFormatsB
import Derived.Shelf.Strings.Builder1
import Derived.Shelf.Strings.Builder2
import Derived.Shelf.Strings.OnBuilder
import Derived.Shelf.Small.Utf8
import Derived.Shelf.Small.Strs
import Derived.Shelf.Strings.BuilderF
import Derived.Shelf.Strings.BuilderK
import Derived.Shelf.Strconv.Itoa0
import Derived.Shelf.Strconv.Itoa1
import Derived.Shelf.LaysM
import Derived.Shelf.Strconv.Itoa2
import Derived.Shelf.Strconv.Itoa3
import Derived.Shelf.Strconv.Itoa4
import Derived.Shelf.Strings.Search1
import Derived.Shelf.Strings.Search2
import Derived.Shelf.Strings.Cut
import Derived.Shelf.Strings.Shaped
import Derived.Shelf.Strings.Prefix
import Derived.Shelf.Unicode.Latin
import Derived.Shelf.Unicode.Decode
import Derived.Shelf.Strings.Runes
import Derived.Shelf.Bits.Mul64
import Derived.Shelf.Strings.Repeat
import Derived.Shelf.Unicode.DecodeSlow
import Derived.Shelf.Unicode.DecodeAny
import Derived.Shelf.Unicode.CaseLookup
import Derived.Shelf.Unicode.CaseConvert
import Derived.Shelf.Unicode.CaseTo
import Derived.Shelf.Unicode.CaseLaid
import Derived.Test.YtfgocjmkefeeeaaGreatDoorProg
import Derived.Lib.Strings
namespace Go.Proofs
open Go.Shelf
def Tryz.lays169_ren : Go.Shelf.Ren := ⟨fun | 169 => 17 | n => n, fun | 70 => 36 | 9 => 9 | 0 => 0 | 72 => 39 | 37 => 37 | 127 => 75 | 3 => 3 | 5 => 5 | n => n, fun | n => n⟩
theorem Tryz.lays169 : Go.Proofs.Lays.n169 Tryz.prog Tryz.lays169_ren := {
 mixed := by kernel_rfl
 f169 := Tryz.func17.trans (congrArg some (by kernel_rfl))
 t0 := Tryz.underlying0
 a0 := Tryz.isAgg0
 z0 := Tryz.sizeOf0
 v0 := Tryz.zeroValue0
 t3 := Tryz.underlying3
 a3 := Tryz.isAgg3
 z3 := Tryz.sizeOf3
 v3 := Tryz.zeroValue3
 t9 := Tryz.underlying9
 a9 := Tryz.isAgg9
 z9 := Tryz.sizeOf9
 v9 := Tryz.zeroValue9
 t37 := Tryz.underlying37
 a37 := Tryz.isAgg37
 z37 := Tryz.sizeOf37
 v37 := Tryz.zeroValue37
 t70 := Tryz.underlying36
 a70 := Tryz.isAgg36
 z70 := Tryz.sizeOf36
 v70 := Tryz.zeroValue36
 t72 := Tryz.underlying39
 a72 := Tryz.isAgg39
 z72 := Tryz.sizeOf39
 v72 := Tryz.zeroValue39
 t127 := Tryz.underlying75
 a127 := Tryz.isAgg75
 z127 := Tryz.sizeOf75
 v127 := Tryz.zeroValue75 }
theorem Tryz.Builder_Extra_169 : Builder.Extra Tryz.prog Tryz.lays169_ren := {
 sizeBuilder := by kernel_rfl
 liesBuilder := by kernel_rfl
 t5 := Tryz.underlying5
 a5 := Tryz.isAgg5
 z5 := Tryz.sizeOf5
 v5 := Tryz.zeroValue5
 infoByte := by kernel_rfl
 cellsByte := by kernel_rfl
 sizeByte := by kernel_rfl
 neB5 := by decide }
def Tryz.lays158_ren : Go.Shelf.Ren := ⟨fun | 158 => 57 | 165 => 59 | 166 => 12 | 167 => 75 | 169 => 17 | 230 => 76 | 203 => 77 | 240 => 26 | 241 => 80 | 197 => 98 | 118 => 99 | 168 => 100 | 270 => 101 | 262 => 102 | 276 => 49 | 277 => 103 | 260 => 112 | 242 => 113 | 313 => 114 | 278 => 117 | 274 => 118 | 275 => 119 | n => n, fun | 9 => 9 | 4 => 4 | 3 => 3 | 5 => 5 | 72 => 39 | 0 => 0 | 76 => 45 | 75 => 44 | 107 => 109 | 70 => 36 | 20 => 20 | 37 => 37 | 127 => 75 | 21 => 21 | 105 => 130 | 164 => 85 | 162 => 145 | 203 => 143 | 119 => 147 | 46 => 95 | 139 => 150 | 138 => 149 | 51 => 110 | 160 => 151 | 208 => 159 | 206 => 157 | 80 => 54 | n => n, fun | 13 => 3 | 3 => 4 | 4 => 5 | n => n⟩
theorem Tryz.lays158 : Go.Proofs.Lays.n158 Tryz.prog Tryz.lays158_ren := {
 mixed := by kernel_rfl
 f118 := Tryz.func99.trans (congrArg some (by kernel_rfl))
 f158 := Tryz.func57.trans (congrArg some (by kernel_rfl))
 f165 := Tryz.func59.trans (congrArg some (by kernel_rfl))
 f166 := Tryz.func12.trans (congrArg some (by kernel_rfl))
 f167 := Tryz.func75.trans (congrArg some (by kernel_rfl))
 f168 := Tryz.func100.trans (congrArg some (by kernel_rfl))
 f169 := Tryz.func17.trans (congrArg some (by kernel_rfl))
 f197 := Tryz.func98.trans (congrArg some (by kernel_rfl))
 f203 := Tryz.func77.trans (congrArg some (by kernel_rfl))
 f230 := Tryz.func76.trans (congrArg some (by kernel_rfl))
 f240 := Tryz.func26.trans (congrArg some (by kernel_rfl))
 f241 := Tryz.func80.trans (congrArg some (by kernel_rfl))
 f242 := Tryz.func113.trans (congrArg some (by kernel_rfl))
 f260 := Tryz.func112.trans (congrArg some (by kernel_rfl))
 f262 := Tryz.func102.trans (congrArg some (by kernel_rfl))
 f270 := Tryz.func101.trans (congrArg some (by kernel_rfl))
 f274 := Tryz.func118.trans (congrArg some (by kernel_rfl))
 f275 := Tryz.func119.trans (congrArg some (by kernel_rfl))
 f276 := Tryz.func49.trans (congrArg some (by kernel_rfl))
 f277 := Tryz.func103.trans (congrArg some (by kernel_rfl))
 f278 := Tryz.func117.trans (congrArg some (by kernel_rfl))
 f313 := Tryz.func114.trans (congrArg some (by kernel_rfl))
 t0 := Tryz.underlying0
 a0 := Tryz.isAgg0
 z0 := Tryz.sizeOf0
 v0 := Tryz.zeroValue0
 t3 := Tryz.underlying3
 a3 := Tryz.isAgg3
 z3 := Tryz.sizeOf3
 v3 := Tryz.zeroValue3
 t4 := Tryz.underlying4
 a4 := Tryz.isAgg4
 z4 := Tryz.sizeOf4
 v4 := Tryz.zeroValue4
 t5 := Tryz.underlying5
 a5 := Tryz.isAgg5
 z5 := Tryz.sizeOf5
 v5 := Tryz.zeroValue5
 t9 := Tryz.underlying9
 a9 := Tryz.isAgg9
 z9 := Tryz.sizeOf9
 v9 := Tryz.zeroValue9
 t20 := Tryz.underlying20
 a20 := Tryz.isAgg20
 z20 := Tryz.sizeOf20
 v20 := Tryz.zeroValue20
 t21 := Tryz.underlying21
 a21 := Tryz.isAgg21
 z21 := Tryz.sizeOf21
 v21 := Tryz.zeroValue21
 t37 := Tryz.underlying37
 a37 := Tryz.isAgg37
 z37 := Tryz.sizeOf37
 v37 := Tryz.zeroValue37
 t46 := Tryz.underlying95
 a46 := Tryz.isAgg95
 z46 := Tryz.sizeOf95
 v46 := Tryz.zeroValue95
 t51 := Tryz.underlying110
 a51 := Tryz.isAgg110
 z51 := Tryz.sizeOf110
 v51 := Tryz.zeroValue110
 t70 := Tryz.underlying36
 a70 := Tryz.isAgg36
 z70 := Tryz.sizeOf36
 v70 := Tryz.zeroValue36
 t72 := Tryz.underlying39
 a72 := Tryz.isAgg39
 z72 := Tryz.sizeOf39
 v72 := Tryz.zeroValue39
 t75 := Tryz.underlying44
 a75 := Tryz.isAgg44
 z75 := Tryz.sizeOf44
 v75 := Tryz.zeroValue44
 t76 := Tryz.underlying45
 a76 := Tryz.isAgg45
 z76 := Tryz.sizeOf45
 v76 := Tryz.zeroValue45
 t105 := Tryz.underlying130
 a105 := Tryz.isAgg130
 z105 := Tryz.sizeOf130
 v105 := Tryz.zeroValue130
 t107 := Tryz.underlying109
 a107 := Tryz.isAgg109
 z107 := Tryz.sizeOf109
 v107 := Tryz.zeroValue109
 t119 := Tryz.underlying147
 a119 := Tryz.isAgg147
 z119 := Tryz.sizeOf147
 t127 := Tryz.underlying75
 a127 := Tryz.isAgg75
 z127 := Tryz.sizeOf75
 v127 := Tryz.zeroValue75
 t138 := Tryz.underlying149
 a138 := Tryz.isAgg149
 z138 := Tryz.sizeOf149
 v138 := Tryz.zeroValue149
 t139 := Tryz.underlying150
 a139 := Tryz.isAgg150
 z139 := Tryz.sizeOf150
 v139 := Tryz.zeroValue150
 t160 := Tryz.underlying151
 a160 := Tryz.isAgg151
 z160 := Tryz.sizeOf151
 v160 := Tryz.zeroValue151
 t162 := Tryz.underlying145
 a162 := Tryz.isAgg145
 z162 := Tryz.sizeOf145
 v162 := Tryz.zeroValue145
 t164 := Tryz.underlying85
 a164 := Tryz.isAgg85
 z164 := Tryz.sizeOf85
 v164 := Tryz.zeroValue85
 t203 := Tryz.underlying143
 a203 := Tryz.isAgg143
 z203 := Tryz.sizeOf143
 v203 := Tryz.zeroValue143
 t206 := Tryz.underlying157
 a206 := Tryz.isAgg157
 z206 := Tryz.sizeOf157
 v206 := Tryz.zeroValue157
 t208 := Tryz.underlying159
 a208 := Tryz.isAgg159
 z208 := Tryz.sizeOf159
 v208 := Tryz.zeroValue159
 g3 := by kernel_rfl
 g4 := by kernel_rfl
 g13 := by kernel_rfl }
theorem Tryz.Builder_Extra_158 : Builder.Extra Tryz.prog Tryz.lays158_ren := {
 sizeBuilder := by kernel_rfl
 liesBuilder := by kernel_rfl
 t5 := Tryz.underlying5
 a5 := Tryz.isAgg5
 z5 := Tryz.sizeOf5
 v5 := Tryz.zeroValue5
 infoByte := by kernel_rfl
 cellsByte := by kernel_rfl
 sizeByte := by kernel_rfl
 neB5 := by decide }
open Go.RowKit in
theorem Tryz.strings_ToUpper_ascii (s : ByteArray) (w : World) (hs : s.size ≤ 140737488355328) (hascii : ∀ (j : Nat) (b : UInt8), s.data.toList[j]? = some b → b.toNat < 128) :
  Calls Tryz.prog 57 #[.string s] w fun e w' => e = .returned (.string ⟨(Lib.toUpperA s.data.toList).toArray⟩) ∧ Below w.heap.size w w' := Any.strings_ToUpper_ascii Tryz.lays158 Tryz.Builder_Extra_158 s w hs hascii
def Tryz.lays156_ren : Go.Shelf.Ren := ⟨fun | 156 => 61 | 165 => 59 | 166 => 12 | 169 => 17 | 240 => 26 | 241 => 80 | 276 => 49 | 277 => 103 | n => n, fun | 31 => 100 | 9 => 9 | 3 => 3 | 4 => 4 | 0 => 0 | 20 => 20 | 72 => 39 | 76 => 45 | 70 => 36 | 37 => 37 | 75 => 44 | 127 => 75 | 164 => 85 | 5 => 5 | 80 => 54 | n => n, fun | n => n⟩
theorem Tryz.lays156 : Go.Proofs.Lays.n156 Tryz.prog Tryz.lays156_ren := {
 mixed := by kernel_rfl
 f156 := Tryz.func61.trans (congrArg some (by kernel_rfl))
 f165 := Tryz.func59.trans (congrArg some (by kernel_rfl))
 f166 := Tryz.func12.trans (congrArg some (by kernel_rfl))
 f169 := Tryz.func17.trans (congrArg some (by kernel_rfl))
 f240 := Tryz.func26.trans (congrArg some (by kernel_rfl))
 f241 := Tryz.func80.trans (congrArg some (by kernel_rfl))
 f276 := Tryz.func49.trans (congrArg some (by kernel_rfl))
 f277 := Tryz.func103.trans (congrArg some (by kernel_rfl))
 t0 := Tryz.underlying0
 a0 := Tryz.isAgg0
 z0 := Tryz.sizeOf0
 v0 := Tryz.zeroValue0
 t3 := Tryz.underlying3
 a3 := Tryz.isAgg3
 z3 := Tryz.sizeOf3
 v3 := Tryz.zeroValue3
 t4 := Tryz.underlying4
 a4 := Tryz.isAgg4
 z4 := Tryz.sizeOf4
 v4 := Tryz.zeroValue4
 t9 := Tryz.underlying9
 a9 := Tryz.isAgg9
 z9 := Tryz.sizeOf9
 v9 := Tryz.zeroValue9
 t20 := Tryz.underlying20
 a20 := Tryz.isAgg20
 z20 := Tryz.sizeOf20
 v20 := Tryz.zeroValue20
 t31 := Tryz.underlying100
 a31 := Tryz.isAgg100
 z31 := Tryz.sizeOf100
 v31 := Tryz.zeroValue100
 t37 := Tryz.underlying37
 a37 := Tryz.isAgg37
 z37 := Tryz.sizeOf37
 v37 := Tryz.zeroValue37
 t70 := Tryz.underlying36
 a70 := Tryz.isAgg36
 z70 := Tryz.sizeOf36
 v70 := Tryz.zeroValue36
 t72 := Tryz.underlying39
 a72 := Tryz.isAgg39
 z72 := Tryz.sizeOf39
 v72 := Tryz.zeroValue39
 t75 := Tryz.underlying44
 a75 := Tryz.isAgg44
 z75 := Tryz.sizeOf44
 v75 := Tryz.zeroValue44
 t76 := Tryz.underlying45
 a76 := Tryz.isAgg45
 z76 := Tryz.sizeOf45
 v76 := Tryz.zeroValue45
 t127 := Tryz.underlying75
 a127 := Tryz.isAgg75
 z127 := Tryz.sizeOf75
 v127 := Tryz.zeroValue75
 t164 := Tryz.underlying85
 a164 := Tryz.isAgg85
 z164 := Tryz.sizeOf85
 v164 := Tryz.zeroValue85 }
theorem Tryz.Builder_Extra_156 : Builder.Extra Tryz.prog Tryz.lays156_ren := {
 sizeBuilder := by kernel_rfl
 liesBuilder := by kernel_rfl
 t5 := Tryz.underlying5
 a5 := Tryz.isAgg5
 z5 := Tryz.sizeOf5
 v5 := Tryz.zeroValue5
 infoByte := by kernel_rfl
 cellsByte := by kernel_rfl
 sizeByte := by kernel_rfl
 neB5 := by decide }
open Go.RowKit in
theorem Tryz.strings_Join_none (a : Option Addr) (c : Nat) (sep : ByteArray) (w : World) :
  Calls Tryz.prog 61 #[.slice a 0 c, .string sep] w fun e w' => e = .returned (.string ⟨#[]⟩) ∧ w' = w := Any.strings_Join_none Tryz.lays156 Tryz.Builder_Extra_156 a c sep w
open Go.RowKit in
theorem Tryz.strings_Join (bk o c : Nat) (xs : List ByteArray) (sep : ByteArray) (w : World) (hcells : ∀ (j : Nat) x, xs[j]? = some x → w.cell? ⟨bk, o + j, none⟩ = some (.string x)) (hbk : bk < w.heap.size) (hN : xs.length ≤ 140737488355328) (hcap : xs.length ≤ c) (hlen : (Lib.join (xs.map (·.data.toList)) sep.data.toList).length ≤ 140737488355328) :
  Calls Tryz.prog 61 #[.slice (some ⟨bk, o, none⟩) xs.length c, .string sep] w fun e w' => e = .returned (.string ⟨(Lib.join (xs.map (·.data.toList)) sep.data.toList).toArray⟩) ∧ Below w.heap.size w w' := Any.strings_Join Tryz.lays156 Tryz.Builder_Extra_156 bk o c xs sep w hcells hbk hN hcap hlen
def Tryz.lays105_ren : Go.Shelf.Ren := ⟨fun | 105 => 33 | 212 => 58 | 99 => 48 | 165 => 59 | 166 => 12 | 170 => 16 | 169 => 17 | 263 => 78 | 264 => 79 | 206 => 70 | 240 => 26 | 241 => 80 | 276 => 49 | 277 => 103 | n => n, fun | 9 => 9 | 3 => 3 | 4 => 4 | 20 => 20 | 0 => 0 | 46 => 95 | 109 => 96 | 5 => 5 | 72 => 39 | 76 => 45 | 51 => 110 | 146 => 111 | 53 => 113 | 148 => 114 | 70 => 36 | 37 => 37 | 75 => 44 | 127 => 75 | 164 => 85 | 80 => 54 | n => n, fun | n => n⟩
theorem Tryz.lays105 : Go.Proofs.Lays.n105 Tryz.prog Tryz.lays105_ren := {
 mixed := by kernel_rfl
 f99 := Tryz.func48.trans (congrArg some (by kernel_rfl))
 f105 := Tryz.func33.trans (congrArg some (by kernel_rfl))
 f165 := Tryz.func59.trans (congrArg some (by kernel_rfl))
 f166 := Tryz.func12.trans (congrArg some (by kernel_rfl))
 f169 := Tryz.func17.trans (congrArg some (by kernel_rfl))
 f170 := Tryz.func16.trans (congrArg some (by kernel_rfl))
 f206 := Tryz.func70.trans (congrArg some (by kernel_rfl))
 f212 := Tryz.func58.trans (congrArg some (by kernel_rfl))
 f240 := Tryz.func26.trans (congrArg some (by kernel_rfl))
 f241 := Tryz.func80.trans (congrArg some (by kernel_rfl))
 f263 := Tryz.func78.trans (congrArg some (by kernel_rfl))
 f264 := Tryz.func79.trans (congrArg some (by kernel_rfl))
 f276 := Tryz.func49.trans (congrArg some (by kernel_rfl))
 f277 := Tryz.func103.trans (congrArg some (by kernel_rfl))
 t0 := Tryz.underlying0
 a0 := Tryz.isAgg0
 z0 := Tryz.sizeOf0
 v0 := Tryz.zeroValue0
 t3 := Tryz.underlying3
 a3 := Tryz.isAgg3
 z3 := Tryz.sizeOf3
 v3 := Tryz.zeroValue3
 t4 := Tryz.underlying4
 a4 := Tryz.isAgg4
 z4 := Tryz.sizeOf4
 v4 := Tryz.zeroValue4
 t5 := Tryz.underlying5
 a5 := Tryz.isAgg5
 z5 := Tryz.sizeOf5
 v5 := Tryz.zeroValue5
 t9 := Tryz.underlying9
 a9 := Tryz.isAgg9
 z9 := Tryz.sizeOf9
 v9 := Tryz.zeroValue9
 t20 := Tryz.underlying20
 a20 := Tryz.isAgg20
 z20 := Tryz.sizeOf20
 v20 := Tryz.zeroValue20
 t37 := Tryz.underlying37
 a37 := Tryz.isAgg37
 z37 := Tryz.sizeOf37
 v37 := Tryz.zeroValue37
 t46 := Tryz.underlying95
 a46 := Tryz.isAgg95
 z46 := Tryz.sizeOf95
 v46 := Tryz.zeroValue95
 t51 := Tryz.underlying110
 a51 := Tryz.isAgg110
 z51 := Tryz.sizeOf110
 v51 := Tryz.zeroValue110
 t53 := Tryz.underlying113
 a53 := Tryz.isAgg113
 z53 := Tryz.sizeOf113
 v53 := Tryz.zeroValue113
 t70 := Tryz.underlying36
 a70 := Tryz.isAgg36
 z70 := Tryz.sizeOf36
 v70 := Tryz.zeroValue36
 t72 := Tryz.underlying39
 a72 := Tryz.isAgg39
 z72 := Tryz.sizeOf39
 v72 := Tryz.zeroValue39
 t75 := Tryz.underlying44
 a75 := Tryz.isAgg44
 z75 := Tryz.sizeOf44
 v75 := Tryz.zeroValue44
 t76 := Tryz.underlying45
 a76 := Tryz.isAgg45
 z76 := Tryz.sizeOf45
 v76 := Tryz.zeroValue45
 t109 := Tryz.underlying96
 a109 := Tryz.isAgg96
 z109 := Tryz.sizeOf96
 v109 := Tryz.zeroValue96
 t127 := Tryz.underlying75
 a127 := Tryz.isAgg75
 z127 := Tryz.sizeOf75
 v127 := Tryz.zeroValue75
 t146 := Tryz.underlying111
 a146 := Tryz.isAgg111
 z146 := Tryz.sizeOf111
 v146 := Tryz.zeroValue111
 t148 := Tryz.underlying114
 a148 := Tryz.isAgg114
 z148 := Tryz.sizeOf114
 v148 := Tryz.zeroValue114
 t164 := Tryz.underlying85
 a164 := Tryz.isAgg85
 z164 := Tryz.sizeOf85
 v164 := Tryz.zeroValue85 }
theorem Tryz.Builder_Extra_105 : Builder.Extra Tryz.prog Tryz.lays105_ren := {
 sizeBuilder := by kernel_rfl
 liesBuilder := by kernel_rfl
 t5 := Tryz.underlying5
 a5 := Tryz.isAgg5
 z5 := Tryz.sizeOf5
 v5 := Tryz.zeroValue5
 infoByte := by kernel_rfl
 cellsByte := by kernel_rfl
 sizeByte := by kernel_rfl
 neB5 := by decide }
open Go.RowKit Go.Lib in
theorem Tryz.strings_Repeat (s : ByteArray) (c : Nat) (w : World) (hc : c ≤ 9223372036854775807) (hlen : s.size * c ≤ 140737488355328) :
  Calls Tryz.prog 33 #[.string s, .int .i64 c] w fun e w' => e = .returned (.string ⟨(Lib.repeatL s.data.toList c).toArray⟩) ∧ Below w.heap.size w w' := Any.strings_Repeat Tryz.lays105 Tryz.Builder_Extra_105 s c w hc hlen
end Go.Proofs
namespace Go.Proofs
open Go Go.Ef Go.RowKit
set_option maxHeartbeats 1000000 in
set_option maxRecDepth 100000 in
theorem copy_used (b : Nat) (w : World) (h0 : w.cell? ⟨b, 0, none⟩ = some (.pointer (some ⟨b, 0, none⟩))) :
  Calls Tryz.prog 26 #[.pointer (some ⟨b, 0, none⟩)] w fun e w' => e = .returned (.tuple #[]) ∧ w' = w := by
 have hsz : (Tryz.prog.info? 39).map (·.size) = some 2 := by kernel_rfl
 obtain ⟨j, hj, _⟩ := Option.map_eq_some_iff.1 hsz
 go_enter Tryz.func26, Tryz.ntmps26
 go_wp2
 rw [Lib.run_neq_ptr_same w _ Tryz.underlying36 hj]
 go_wp2
 go_end0
 exact ⟨rfl, rfl⟩
set_option maxHeartbeats 1000000 in
set_option maxRecDepth 100000 in
theorem copy_fresh (b : Nat) (w : World) (h0 : w.cell? ⟨b, 0, none⟩ = some (.pointer none)) (hsh : w.shape? b = some (39, 2)) (hfz : w.frozen? ⟨b, 0, none⟩ = false) :
  Calls Tryz.prog 26 #[.pointer (some ⟨b, 0, none⟩)] w fun e w' => e = .returned (.tuple #[]) ∧ w' = w.setCell ⟨b, 0, none⟩ (.pointer (some ⟨b, 0, none⟩)) := by
 have hsz : (Tryz.prog.info? 39).map (·.size) = some 2 := by kernel_rfl
 have hlies : liesAt Tryz.prog Tryz.prog.depth 39 (2 / Tryz.prog.cellsOf 39) 0 39 1 = true := by kernel_rfl
 obtain ⟨j, hj, hjs⟩ := Option.map_eq_some_iff.1 hsz
 go_enter Tryz.func26, Tryz.ntmps26
 go_wp2
 rw [Lib.run_to_unsafe w ⟨b, 0, none⟩ Tryz.underlying36 Tryz.underlying85 hj (by rw [hjs]; decide) hsh (Nat.zero_lt_succ 1)]
 simp only [Result.andThen]
 rw [Oper.upon_value]
 go_wp2
 rw [run_callFunc_extern Tryz.func49 (by kernel_rfl) (by kernel_rfl) (by kernel_rfl) (e := Extern.AbiNoEscape.same) (by kernel_rfl)]
 rw [Lib.run_noEscape]
 simp only [Result.andThen]
 rw [Oper.upon_value]
 go_wp2
 rw [Lib.run_from_unsafe w ⟨b, 0, none⟩ Tryz.underlying85 Tryz.underlying36 hj hsh hlies]
 simp only [Result.andThen]
 rw [Oper.upon_value]
 go_wp2
 go_end0
 exact ⟨rfl, rfl⟩
end Go.Proofs
namespace Go.Proofs
open Go Go.Ef Go.RowKit
noncomputable section
namespace Door
def globs : Nat → Option (List AV)
 | 0 => some [.sc (.int .i64 10000), .sc (.int .i64 1000), .sc (.int .i64 100), .sc (.int .i64 10), .sc (.int .i64 1)]
 | 2 => some [.sc (.int .u64 1), .sc (.int .u64 10), .sc (.int .u64 100), .sc (.int .u64 1000), .sc (.int .u64 10000), .sc (.int .u64 100000), .sc (.int .u64 1000000), .sc (.int .u64 10000000), .sc (.int .u64 100000000), .sc (.int .u64 1000000000), .sc (.int .u64 10000000000), .sc (.int .u64 100000000000), .sc (.int .u64 1000000000000), .sc (.int .u64 10000000000000), .sc (.int .u64 100000000000000), .sc (.int .u64 1000000000000000), .sc (.int .u64 10000000000000000), .sc (.int .u64 100000000000000000), .sc (.int .u64 1000000000000000000), .sc (.int .u64 10000000000000000000)]
 | 6 => some [.sc (.int .u8 0), .sc (.int .u8 1), .sc (.int .u8 28), .sc (.int .u8 2), .sc (.int .u8 29), .sc (.int .u8 14), .sc (.int .u8 24), .sc (.int .u8 3), .sc (.int .u8 30), .sc (.int .u8 22), .sc (.int .u8 20), .sc (.int .u8 15), .sc (.int .u8 25), .sc (.int .u8 17), .sc (.int .u8 4), .sc (.int .u8 8), .sc (.int .u8 31), .sc (.int .u8 27), .sc (.int .u8 13), .sc (.int .u8 23), .sc (.int .u8 21), .sc (.int .u8 19), .sc (.int .u8 16), .sc (.int .u8 7), .sc (.int .u8 26), .sc (.int .u8 12), .sc (.int .u8 18), .sc (.int .u8 6), .sc (.int .u8 11), .sc (.int .u8 5), .sc (.int .u8 10), .sc (.int .u8 9)]
 | 7 => some [.sc (.int .u8 0), .sc (.int .u8 1), .sc (.int .u8 56), .sc (.int .u8 2), .sc (.int .u8 57), .sc (.int .u8 49), .sc (.int .u8 28), .sc (.int .u8 3), .sc (.int .u8 61), .sc (.int .u8 58), .sc (.int .u8 42), .sc (.int .u8 50), .sc (.int .u8 38), .sc (.int .u8 29), .sc (.int .u8 17), .sc (.int .u8 4), .sc (.int .u8 62), .sc (.int .u8 47), .sc (.int .u8 59), .sc (.int .u8 36), .sc (.int .u8 45), .sc (.int .u8 43), .sc (.int .u8 51), .sc (.int .u8 22), .sc (.int .u8 53), .sc (.int .u8 39), .sc (.int .u8 33), .sc (.int .u8 30), .sc (.int .u8 24), .sc (.int .u8 18), .sc (.int .u8 12), .sc (.int .u8 5), .sc (.int .u8 63), .sc (.int .u8 55), .sc (.int .u8 48), .sc (.int .u8 27), .sc (.int .u8 60), .sc (.int .u8 41), .sc (.int .u8 37), .sc (.int .u8 16), .sc (.int .u8 46), .sc (.int .u8 35), .sc (.int .u8 44), .sc (.int .u8 21), .sc (.int .u8 52), .sc (.int .u8 32), .sc (.int .u8 23), .sc (.int .u8 11), .sc (.int .u8 54), .sc (.int .u8 26), .sc (.int .u8 40), .sc (.int .u8 15), .sc (.int .u8 34), .sc (.int .u8 20), .sc (.int .u8 31), .sc (.int .u8 10), .sc (.int .u8 25), .sc (.int .u8 14), .sc (.int .u8 19), .sc (.int .u8 9), .sc (.int .u8 13), .sc (.int .u8 8), .sc (.int .u8 7), .sc (.int .u8 6)]
 | _ => none
def upperP (args : List AV) (h : Heap) : Option (AV × Heap) :=
 match args with
 | [.sc (.string s)] => bif Nat.ble s.size maxRoom && s.data.toList.all (fun b => decide (b.toNat < 128)) then some (.sc (.string ⟨⟨Lib.toUpperA s.data.toList⟩⟩), h) else none
 | _ => none
def prims (g : FuncId) : Option (List AV → Heap → Option (AV × Heap)) :=
 match g with
 | 26 => some (copyP 39)
 | 17 => some (stringP 39 5)
 | 61 => some joinP
 | 33 => some repeatP
 | 104 => some indexByteP
 | 57 => some upperP
 | _ => none
def mode (f t : Nat) : Nat :=
 match f with
 | 6 | 74 | 97 => 1
 | 11 => bif Nat.beq t 6 then 0 else 1
 | 14 => bif Nat.beq t 55 then 3 else 0
 | 22 => bif Nat.beq t 47 || Nat.beq t 48 then 3 else 0
 | _ => 0
def bad (f id : Nat) : Bool :=
 match f with
 | 17 => Nat.beq id 1
 | 59 => Nat.beq id 3
 | 80 => Nat.beq id 0
 | _ => false
def tidy (f i : Nat) : Option Tidy :=
 match f with
 | 770000005 => some ⟨[0, 1, 5], [0, 1, 4], 0⟩
 | 18 => some ⟨[0, 3], [2], 0⟩
 | 770000011 => some ⟨[0, 3, 4], [0, 3], 0⟩
 | 770000013 => some ⟨[0, 3, 4], [3], 0⟩
 | 4 => some ⟨[0, 1, 5], [0, 4], 0⟩
 | 10 => some ⟨[0, 1], [4], 0⟩
 | 19 => some ⟨[0, 1, 4, 7], [0, 1, 4, 7], 2⟩
 | 65 => some ⟨[0, 4, 5], [0, 4, 5], 0⟩
 | 7 => some ⟨[0, 1, 7, 8], [4, 5, 7], 0⟩
 | 64 => some ⟨[0, 4], [0, 4], 0⟩
 | 85 => some ⟨[0, 1], [1], 0⟩
 | 40 => some ⟨[0, 1, 5, 6], [5], 0⟩
 | 86 => match i with
  | 4 => some ⟨[0, 1, 6, 7], [1, 4, 5, 6], 0⟩
  | _ => some ⟨[1, 6, 8], [6], 0⟩
 | 88 => some ⟨[0, 1, 5, 6], [5], 0⟩
 | 25 => some ⟨[0, 2, 5], [0, 2, 5], 2⟩
 | 37 => some ⟨[0, 1, 5], [4], 0⟩
 | 38 => some ⟨[0, 1, 2, 8, 9], [8, 9], 0⟩
 | 47 => some ⟨[0, 4, 5], [0, 4, 5], 0⟩
 | 50 => some ⟨[0, 4], [0, 4], 0⟩
 | 53 => some ⟨[4, 6], [4, 6], 0⟩
 | 71 => some ⟨[0, 3], [3], 0⟩
 | 72 => some ⟨[0, 1, 5, 8, 9], [1, 4, 5], 0⟩
 | 92 => some ⟨[0, 3, 5], [3], 0⟩
 | 97 => match i with
  | 12 => some ⟨[0, 1, 3, 4, 10, 11, 12, 13, 14, 15, 16], [0, 1, 3, 4, 10, 11, 12, 13], 0⟩
  | _ => none
 | 770000006 => some ⟨[0, 1, 2, 7, 8, 9], [6, 8], 0⟩
 | 770000007 => match i with
  | 11 => some ⟨[0, 1, 5, 7, 10, 11], [0, 1, 7, 10], 0⟩
  | _ => some ⟨[0, 1, 7, 10], [0, 1, 7, 10], 0⟩
 | _ => none
def fresh (g : Nat) : Bool :=
 match g with
 | 9 | 18 | 770000011 | 6 | 770000013 | 4 | 770000015 | 8 | 65 | 19 | 14 | 15 | 62 | 87 | 88 | 24 | 25 | 37 | 38 | 28 | 29 | 30 | 31 | 32 | 34 | 35 | 36 | 47 | 48 | 50 | 51 | 52 | 53 | 54 | 55 | 56 | 57 | 71 | 72 | 73 | 92 | 93 | 69 | 5 | 74 | 94 | 95 | 97 | 106 | 107 | 108 | 109 | 110 | 111 | 115 | 116 | 7 | 20 | 21 | 22 | 39 | 40 | 41 | 42 | 43 | 44 | 45 | 63 | 64 | 66 | 67 | 85 | 86 | 89 => true
 | _ => false
def cfg : Cfg := { tidy := tidy, fresh := fresh, mode := mode, pure := fun _ => false, bad := bad, glob := globs, prim := prims }
theorem body_at {g : Nat} {fn : Func} (h : Tryz.prog.funcs[g]? = some fn) (hb : fn.body.isSome = true) : ∃ fn : Func, Tryz.prog.funcs[g]? = some fn ∧ fn.body.isSome = true := ⟨fn, h, hb⟩
set_option maxRecDepth 100000 in
theorem know27 : Known Tryz.prog cfg 17 (stringP 39 5) := shelf_string Tryz.lays169 Tryz.Builder_Extra_169 (body_at Tryz.func17 (by kernel_rfl))
set_option maxRecDepth 100000 in
theorem know61 : Known Tryz.prog cfg 61 joinP := shelf_join Tryz.lays156 Tryz.Builder_Extra_156 (body_at Tryz.func61 (by kernel_rfl))
set_option maxRecDepth 100000 in
theorem know42 : Known Tryz.prog cfg 33 repeatP := shelf_repeat Tryz.lays105 Tryz.Builder_Extra_105 (body_at Tryz.func33 (by kernel_rfl))
theorem know35 : Known Tryz.prog cfg 26 (copyP 39) := known_copy (body_at Tryz.func26 (by kernel_rfl)) copy_fresh fun b w h _ => copy_used b w h
theorem know92 : Known Tryz.prog cfg 104 indexByteP := known_indexByte Tryz.func104 (by kernel_rfl) (by kernel_rfl) (by kernel_rfl) (by kernel_rfl)
theorem know57 : Known Tryz.prog cfg 57 upperP := by
 refine .inl ⟨body_at Tryz.func57 (by kernel_rfl), fun args h r h' hp μ w vs H hv0 => ?_⟩
 unfold upperP at hp
 split at hp
 ·rename_i s
  obtain ⟨u, rfl, h1⟩ := args_one hv0
  cases h1 with
  | sc _ =>
   obtain ⟨hq, hp2⟩ := cond_some hp
   cases hp2
   simp only [Bool.and_eq_true] at hq
   obtain ⟨q1, q2⟩ := hq
   have q1 := ble_true q1
   have hm : maxRoom = 140737488355328 := by decide
   refine (Tryz.strings_ToUpper_ascii s w (by omega) (fun j b hb => by simpa using List.all_eq_true.1 q2 b (List.mem_of_getElem? hb))).mono fun e w' ⟨he, hw⟩ => ?_
   subst he
   exact callEnd_below H hw (.sc rfl)
 ·cases hp
theorem knows (g : FuncId) (p : List AV → Heap → Option (AV × Heap)) (h : cfg.prim g = some p) : Known Tryz.prog cfg g p := by
 replace h : prims g = some p := h
 unfold prims at h
 split at h
 ·cases h; exact know35
 ·cases h; exact know27
 ·cases h; exact know61
 ·cases h; exact know42
 ·cases h; exact know92
 ·cases h; exact know57
 ·cases h
theorem plain_ok : (Tryz.prog.funcs.all fun fn => !(fn.name == "runtime.NumGoroutine")) = true := by decide +kernel
def okAt (i : Nat) : List Func → Bool
 | [] => true
 | fn :: r => (match fn.body with
  | some c => codeOk cfg Tryz.prog i c
  | none => true) && okAt (i + 1) r
theorem okAt_spec : ∀ (l : List Func) (i : Nat), okAt i l = true → ∀ (j : Nat) (fn : Func) (c : Code), l[j]? = some fn → fn.body = some c → codeOk cfg Tryz.prog (i + j) c = true := by
 intro l
 induction l with
 | nil => intro i _ j fn c h; simp at h
 | cons a r ih =>
  intro i h j fn c hj hc
  simp only [okAt, Bool.and_eq_true] at h
  cases j with
  | zero =>
   simp at hj; subst hj
   have := h.1
   rw [hc] at this
   exact this
  | succ j =>
   rw [List.getElem?_cons_succ] at hj
   have := ih (i + 1) h.2 j fn c hj hc
   rwa [show i + 1 + j = i + (j + 1) by omega] at this
theorem okAll : okAt 0 Tryz.prog.funcs.toList = true := by decide +kernel
theorem fit : Fit Tryz.prog cfg where
 sane := {
  plain := fun g fn h _ => by
   have := Array.all_eq_true'.1 plain_ok fn (Array.mem_of_getElem? h)
   simpa using this
  prim := knows }
 mixed := by kernel_rfl
 regs := fun f fn c h hc => by
  have := okAt_spec _ 0 okAll f fn c (by simpa using h) hc
  rwa [Nat.zero_add] at this
def yes : Option (AV × Heap) → Bool
 | some (.sc (.bool true), _) => true
 | _ => false
theorem yes_spec {r : Option (AV × Heap)} (h : yes r = true) : ∃ h', r = some (.sc (.bool true), h') := by
 unfold yes at h
 split at h
 ·exact ⟨_, rfl⟩
 ·cases h
end Door
end
end Go.Proofs
namespace Go.Ef
open Go
noncomputable section
def LeF (c c' : CallF) : Prop := ∀ g args h r, c g args h = some r → c' g args h = some r
section
variable {C : Cfg} {P : Program} {c c' : CallF}
theorem callP_le (l : LeF c c') : LeF (callP C c) (callP C c') := by
 intro g args h r hc
 unfold callP at hc ⊢
 split at hc
 ·rename_i p hp; exact hc
 ·rename_i hp
  cases hfr : C.fresh g with
  | true =>
   rw [hfr] at hc
   simp only [cond_true] at hc ⊢
   split at hc
   ·split at hc
    ·rename_i r0 h0 hcall
     rw [l _ _ _ _ hcall]
     exact hc
    ·cases hc
   ·cases hc
  | false =>
   rw [hfr] at hc
   simp only [cond_false] at hc ⊢
   cases hpure : C.pure g with
   | false => rw [hpure] at hc; exact l _ _ _ _ hc
   | true =>
    rw [hpure] at hc
    simp only [cond_true] at hc ⊢
    split at hc
    ·rename_i r0 h0 hcall
     rw [l _ _ _ _ hcall]
     exact hc
    ·cases hc
theorem back_le (l : LeF c c') {σ : St} {g : FuncId} {args : List AV} {h : Heap} {r : Slot × St} (hb : back σ (c g args h) = some r) : back σ (c' g args h) = some r := by
 cases hq : c g args h with
 | none => rw [hq] at hb; cases hb
 | some v => rw [hq] at hb; rw [l _ _ _ _ hq]; exact hb
theorem op_le (l : LeF c c') {f : FuncId} {o : Oper} {σ : St} {r : Slot × St} (h : evOp C P c f o σ = some r) : evOp C P c' f o σ = some r := by
 cases ho : o.op <;> simp only [evOp, ho] at h ⊢ <;> try exact h
 rename_i k
 unfold opCall at h ⊢
 split at h
 ·cases h
 ·rename_i args hargs
  split at h
  ·exact h
  ·rename_i x hx
   unfold callVal at h ⊢
   split at h
   ·exact back_le (callP_le l) h
   ·cases h
  ·rename_i x name hx
   unfold callMeth at h ⊢
   split at h
   ·split at h
    ·exact back_le (callP_le l) h
    ·cases h
   ·cases h
theorem step_le (l : LeF c c') {f : FuncId} {ops : Array Oper} {o : Oper} {σ σ' : St} (h : evStep C P c f ops o σ = some σ') : evStep C P c' f ops o σ = some σ' := by
 unfold evStep at h ⊢
 split at h
 ·split at h
  ·rename_i hop
   rw [op_le l hop]
   exact h
  ·cases h
 ·exact h
 ·cases h
theorem ops_le (l : LeF c c') {f : FuncId} {ops : Array Oper} : ∀ (os : List Oper) (σ σ' : St), evOps C P c f ops os σ = some σ' → evOps C P c' f ops os σ = some σ' := by
 intro os
 induction os with
 | nil => intro σ σ' h; exact h
 | cons o os ih =>
  intro σ σ' h
  rw [evOps_cons] at h ⊢
  obtain ⟨τ, h1, h2⟩ := thenO_some h
  rw [step_le l h1]
  exact ih τ σ' h2
def LeR (r r' : Run) : Prop := ∀ f c σ x, r f c σ = some x → r' f c σ = some x
theorem callWith_le {r r' : Run} (l : LeR r r') : LeF (callWith C P r) (callWith C P r') := by
 intro g args h x hc
 unfold callWith at hc ⊢
 split at hc
 ·split at hc
  ·unfold endOf at hc ⊢
   split at hc
   ·rename_i hr
    rw [l _ _ _ _ hr]
    exact hc
   ·cases hc
  ·cases hc
 ·cases hc
theorem seq_le {x x' : Option (Ex × St)} {k k' : St → Option (Ex × St)} (hx : ∀ y, x = some y → x' = some y) (hk : ∀ σ y, k σ = some y → k' σ = some y) {y : Ex × St} (h : evSeq x k = some y) : evSeq x' k' = some y := by
 cases hq : x with
 | none => rw [hq] at h; cases h
 | some z =>
  obtain ⟨e, σ⟩ := z
  rw [hx _ hq]
  rw [hq] at h
  cases e with
  | normal => exact hk _ _ h
  | exit i => exact h
  | ret => exact h
theorem code1_le {r r' : Run} (l : LeR r r') : LeR (evCode1 C P r) (evCode1 C P r') := by
 intro f c σ x h
 cases c with
 | region id ops draw =>
  simp only [evCode1, evReg] at h ⊢
  cases hd : draw && C.bad f id with
  | true => rw [hd] at h; cases h
  | false =>
   rw [hd] at h
   simp only [cond_false] at h ⊢
   split at h
   ·rename_i he
    rw [ops_le (callWith_le l) _ _ _ he]
    exact h
   ·cases h
 | seq a b => exact seq_le (fun y hy => l _ _ _ _ hy) (fun τ y hy => l _ _ _ _ hy) h
 | cond k a b =>
  simp only [evCode1, evCond] at h ⊢
  split at h
  ·rename_i t ht
   cases t with
   | true => exact l _ _ _ _ h
   | false => exact l _ _ _ _ h
  ·cases h
 | block id b =>
  simp only [evCode1] at h ⊢
  cases hq : r f b σ with
  | none => rw [hq] at h; cases h
  | some z => rw [hq] at h; rw [l _ _ _ _ hq]; exact h
 | loop b =>
  simp only [evCode1] at h ⊢
  split at h
  ·exact seq_le (fun y hy => l _ _ _ _ hy) (fun τ y hy => l _ _ _ _ hy) h
  ·rename_i t ht
   unfold evLoop at h ⊢
   split at h
   ·rename_i e τ he
    rw [l _ _ _ _ he]
    simp only []
    split at h
    ·exact l _ _ _ _ h
    ·exact h
   ·cases h
 | scope b => exact l _ _ _ _ h
 | _ => exact h
theorem code_le (n : Nat) : LeR (evCode C P n) (evCode C P (n + 1)) := by
 induction n with
 | zero => intro f c σ x h; cases h
 | succ n ih => exact code1_le ih
theorem code_mono {n m : Nat} (h : n ≤ m) : LeR (evCode C P n) (evCode C P m) := by
 induction h with
 | refl => intro f c σ x h; exact h
 | step _ ih => intro f c σ x h; exact code_le _ f c σ x (ih f c σ x h)
theorem call_mono {n m : Nat} (h : n ≤ m) : LeF (evCall C P n) (evCall C P m) := callWith_le (code_mono h)
end
end
end Go.Ef
namespace Go.Ef
open Go
noncomputable section
structure CAlt where
 α : Type
 post : α → Prop
 val : α → AV
 heap : α → Heap
structure CSpec where
 pre : Prop
 alts : List CAlt
structure LAlt where
 α : Type
 post : α → Prop
 ex : Ex
 st : α → St
structure LSpec where
 pre : Prop
 alts : List LAlt
def wpCAlts (l : List CAlt) (K : AV → Heap → Prop) : Prop :=
 List.rec (motive := fun _ => Prop) True (fun s r ih => List.rec (motive := fun _ => Prop) (∀ x, s.post x → K (s.val x) (s.heap x)) (fun _ _ _ => (∀ x, s.post x → K (s.val x) (s.heap x)) ∧ ih) r) l
def wpLAlts (l : List LAlt) (K : Ex → St → Prop) : Prop :=
 List.rec (motive := fun _ => Prop) True (fun s r ih => List.rec (motive := fun _ => Prop) (∀ x, s.post x → K s.ex (s.st x)) (fun _ _ _ => (∀ x, s.post x → K s.ex (s.st x)) ∧ ih) r) l
structure Tab where
 call : FuncId → Option (List AV → Heap → Option CSpec)
 loop : FuncId → Nat → Option (St → Option LSpec)
 exact : FuncId → Nat → Bool
 named : FuncId → Nat → Bool
 lazy : FuncId → Bool := fun _ => false
def findLoop (n i : Nat) : Code → Option Code :=
 Nat.rec (motive := fun _ => Code → Option Code) (fun _ => none) (fun _ ih c => match c with
  | .seq a b => match ih a with
   | some x => some x
   | none => ih b
  | .cond _ a b => match ih a with
   | some x => some x
   | none => ih b
  | .block _ b => ih b
  | .scope b => ih b
  | .loop b => bif Nat.beq (firstId 8 b) i then some b else ih b
  | _ => none) n
def loopAt (P : Program) (f : FuncId) (i : Nat) : Code :=
 match P.funcs[f]? with
 | some fn => match fn.body with
  | some c => match findLoop 400 i c with
   | some b => b
   | none => .skip
  | none => .skip
 | none => .skip
def iteP (q : Bool) (A B : Prop) : Prop := Bool.rec (motive := fun _ => Prop) B A q
def inRange (n : Int) (m : Nat) : Bool := decide (0 ≤ n) && decide (n < m)
def byteAt (l : List UInt8) (n : Int) : Int := ((l[n.toNat]?).getD 0).toNat
def cutL {α : Type} (l : List α) (a b : Int) : List α := (l.take b.toNat).drop a.toNat
def byteD (e : List AV) : UInt8 := (byteOf e).getD 0
def isByteCell (e : List AV) : Bool := Nat.beq e.length 1 && (byteOf e).isSome
def bytesLt : List UInt8 → List UInt8 → Bool := Op.bytesLess
abbrev KS := Slot → St → Prop
abbrev KR := Ex → St → Prop
abbrev RunW := FuncId → Code → St → KR → Prop
def forceL (f : AV → (AV → Prop) → Prop) (l : List AV) (k : List AV → Prop) : Prop :=
 List.rec (motive := fun _ => (List AV → Prop) → Prop) (fun k => k []) (fun x _ ih k => f x fun y => ih fun l => k (y :: l)) l k
def forceA (n : Nat) : AV → (AV → Prop) → Prop :=
 Nat.rec (motive := fun _ => AV → (AV → Prop) → Prop) (fun a k => k a)
  (fun _ ih a k => match a with
   | .sc v => match v with
    | .int kd i => k (.sc (.int kd i))
    | .string s => match s with
     | ⟨a⟩ => match a with
      | ⟨l⟩ => k (.sc (.string ⟨⟨l⟩⟩))
    | v => k (.sc v)
   | .agg cs => forceL ih cs fun l => k (.agg l)
   | .tup cs => forceL ih cs fun l => k (.tup l)
   | a => k a) n
def forceO (v : Option Slot) (k : Option Slot → Prop) : Prop :=
 match v with
 | none => k none
 | some s => match s with
  | .v a => forceA 2 a fun a => k (some (.v a))
  | .lp i j => k (some (.lp i j))
  | .unk => k (some .unk)
def forceT (t : Tr Slot) (k : Tr Slot → Prop) : Prop :=
 Tr.rec (motive := fun _ => (Tr Slot → Prop) → Prop) (fun k => k .leaf) (fun _ v _ ihl ihr k => ihl fun l => ihr fun r => forceO v fun v => k (.node l v r)) t k
def forceC (l : List LObj) (k : List LObj → Prop) : Prop :=
 List.rec (motive := fun _ => (List LObj → Prop) → Prop) (fun k => k [])
  (fun x _ ih k => match x with
   | .cells cs => forceL (forceA 1) cs fun cs => ih fun l => k (.cells cs :: l)
   | .iter s p => ih fun l => k (.iter s p :: l)) l k
def forceH (t : Tr AObj) (k : Tr AObj → Prop) : Prop :=
 Tr.rec (motive := fun _ => (Tr AObj → Prop) → Prop) (fun k => k .leaf)
  (fun _ v _ ihl ihr k => ihl fun l => ihr fun r => match v with
   | none => k (.node l none r)
   | some o => match o with
    | .cells cs => forceL (forceA 1) cs fun cs => k (.node l (some (.cells cs)) r)
    | o => k (.node l (some o) r)) t k
def forceS (σ : St) (k : St → Prop) : Prop :=
 match σ with
 | ⟨n, tm, d, loc, h⟩ => forceT tm fun tm => forceC loc fun loc => match h with
  | ⟨nx, objs, ro, ty⟩ => forceH objs fun objs => k ⟨n, tm, d, loc, ⟨nx, objs, ro, ty⟩⟩
def forceN (σ : St) (k : St → Prop) : Prop :=
 match σ with
 | ⟨n, tm, d, loc, h⟩ => forceT tm fun tm => forceC loc fun loc => k ⟨n, tm, d, loc, h⟩
def forceZ (b : Bool) (σ : St) (k : St → Prop) : Prop := bif b then forceN σ k else forceS σ k
def wpRes (r : Res) (K : KS) : Prop :=
 match r with
 | some (s, σ) => K s σ
 | none => False
def wpPut (σ : St) (d : Option Nat) (s : Slot) (K : St → Prop) : Prop :=
 match s with
 | .v (.sc (.bool q)) => iteP q
   (match σ.put d (.v (.sc (.bool true))) with | some τ => K τ | none => False)
   (match σ.put d (.v (.sc (.bool false))) with | some τ => K τ | none => False)
 | s => match σ.put d s with | some τ => K τ | none => False
def namedAt (T : Tab) (f : FuncId) : Option Nat → Bool
 | some t => T.named f t
 | none => false
def wpPutN (T : Tab) (f : FuncId) (σ : St) (d : Option Nat) (s : Slot) (K : St → Prop) : Prop :=
 bif namedAt T f d then
  (match s with
   | .v (.sc (.int k n)) => ∀ m : Int, m = n → wpPut σ d (.v (.sc (.int k m))) K
   | .v (.sc (.string b)) => ∀ l : List UInt8, l = b.data.toList → wpPut σ d (.v (.sc (.string ⟨⟨l⟩⟩))) K
   | s => wpPut σ d s K)
 else wpPut σ d s K
def wpSel (n : Int) (F : Nat → Prop) (m : Nat) : Prop :=
 Nat.rec (motive := fun _ => Prop) False (fun j ih => iteP (decide (n = (j : Int))) (F j) ih) m
def wpIndex (P : Program) (σ : St) (t : TypeId) (x i : Operand) (K : KS) : Prop :=
 match σ.val x with
 | some (.sc (.string s)) => match σ.val i with
  | some (.sc (.int _ n)) => bif isStringT P t then iteP (inRange n s.data.toList.length) (K (.v (.sc (.int .u8 (byteAt s.data.toList n)))) σ) False else False
  | _ => False
 | some (.agg cs) => match σ.val i with
  | some (.sc (.int _ n)) => match arrT P t with
   | some (m, e) => match sizeT P e with
    | some z => wpSel n (fun j => wpRes (resV σ (partA P e (j * z) cs)) K) m
    | none => False
   | none => False
  | _ => False
 | _ => False
def optI (σ : St) : Option Operand → Option (Option Int)
 | none => some none
 | some x => match σ.val x with
  | some (.sc (.int _ n)) => some (some n)
  | _ => none
def wpCutStr (σ : St) (l : List UInt8) (lo hi : Option Int) (K : KS) : Prop :=
 match hi with
 | none => match lo with
  | none => K (.v (.sc (.string ⟨⟨l⟩⟩))) σ
  | some a => iteP (decide (0 ≤ a) && decide (a ≤ (l.length : Int))) (K (.v (.sc (.string ⟨⟨l.drop a.toNat⟩⟩))) σ) False
 | some b => match lo with
  | none => iteP (decide (0 ≤ b) && decide (b ≤ (l.length : Int))) (K (.v (.sc (.string ⟨⟨l.take b.toNat⟩⟩))) σ) False
  | some a => iteP (decide (0 ≤ a) && (decide (a ≤ b) && decide (b ≤ (l.length : Int)))) (K (.v (.sc (.string ⟨⟨cutL l a b⟩⟩))) σ) False
def wpCutSl (σ : St) (els : List (List AV)) (tok : Nat) (lo hi : Option Int) (K : KS) : Prop :=
 match tok with
 | 0 => (match hi with
  | none => match lo with
   | none => K (.v (.sl els 0)) σ
   | some a => iteP (decide (0 ≤ a) && decide (a ≤ (els.length : Int))) (K (.v (.sl (els.drop a.toNat) 0)) σ) False
  | some b => match lo with
   | none => iteP (decide (0 ≤ b) && decide (b ≤ (els.length : Int))) (K (.v (.sl (els.take b.toNat) 0)) σ) False
   | some a => iteP (decide (0 ≤ a) && (decide (a ≤ b) && decide (b ≤ (els.length : Int)))) (K (.v (.sl (cutL els a b) 0)) σ) False)
 | tok + 1 => (match hi with
  | none => match lo with
   | none => K (.v (.sl els (tok + 1))) σ
   | some a => iteP (decide (0 ≤ a) && decide (a ≤ (els.length : Int))) (iteP (decide (a = 0)) (K (.v (.sl els (tok + 1))) σ) (K (.v (.sl (els.drop a.toNat) 1)) σ)) False
  | some b => match lo with
   | none => iteP (decide (0 ≤ b) && decide (b ≤ (els.length : Int))) (iteP (decide (b = (els.length : Int))) (K (.v (.sl els (tok + 1))) σ) (K (.v (.sl (els.take b.toNat) 1)) σ)) False
   | some a => iteP (decide (0 ≤ a) && (decide (a ≤ b) && decide (b ≤ (els.length : Int)))) (iteP (decide (b = (els.length : Int)) && decide (a = 0)) (K (.v (.sl els (tok + 1))) σ) (K (.v (.sl (cutL els a b) 1)) σ)) False)
def wpSlice (P : Program) (σ : St) (t : TypeId) (x : Operand) (lo hi mx : Option Operand) (K : KS) : Prop :=
 match mx with
 | some _ => False
 | none => match σ.val x with
  | some (.sc (.string s)) => match P.underlying t with
   | some .string => match optI σ lo with
    | some l => match optI σ hi with
     | some h => wpCutStr σ s.data.toList l h K
     | none => False
    | none => False
   | _ => False
  | some (.sl els tok) => match sliceOf P t with
   | some k => iteP (headLen k els) (match optI σ lo with
    | some l => match optI σ hi with
     | some h => wpCutSl σ els tok l h K
     | none => False
    | none => False) False
   | none => False
  | _ => wpRes (opSlice P σ t x lo hi none) K
inductive Kd where
 | int (k : IntKind)
 | str
 | bool
 | sl
def kdT (P : Program) : Nat → TypeId → Option (List Kd)
 | 0, _ => none
 | n + 1, t => match P.underlying t with
  | some (.int k) => some [.int k]
  | some .string => some [.str]
  | some .bool => some [.bool]
  | some (.slice _) => some [.sl]
  | some (.struct fs) => (mapO (fun f => kdT P n f.type) fs.toList).map List.flatten
  | _ => none
def cellAt (els : List (List AV)) (n : Int) (j : Nat) : Option AV :=
 match getI n.toNat els with
 | some c => getI j c
 | none => none
def cellInt (els : List (List AV)) (n : Int) (j : Nat) : Int :=
 match cellAt els n j with
 | some (.sc (.int _ v)) => v
 | _ => 0
def cellStr (els : List (List AV)) (n : Int) (j : Nat) : List UInt8 :=
 match cellAt els n j with
 | some (.sc (.string s)) => s.data.toList
 | _ => []
def cellBool (els : List (List AV)) (n : Int) (j : Nat) : Bool :=
 match cellAt els n j with
 | some (.sc (.bool b)) => b
 | _ => false
def cellSl (els : List (List AV)) (n : Int) (j : Nat) : List (List AV) :=
 match cellAt els n j with
 | some (.sl e _) => e
 | _ => []
def mkCells (els : List (List AV)) (n : Int) : Nat → List Kd → List AV
 | _, [] => []
 | j, .int k :: r => .sc (.int k (cellInt els n j)) :: mkCells els n (j + 1) r
 | j, .str :: r => .sc (.string ⟨⟨cellStr els n j⟩⟩) :: mkCells els n (j + 1) r
 | j, .bool :: r => .sc (.bool (cellBool els n j)) :: mkCells els n (j + 1) r
 | j, .sl :: r => .sl (cellSl els n j) 0 :: mkCells els n (j + 1) r
def exactAt (T : Tab) (f : FuncId) : Option Nat → Bool
 | some t => T.exact f t
 | none => false
def wpIndexAddr (T : Tab) (P : Program) (f : FuncId) (d : Option Nat) (σ : St) (t : TypeId) (x i : Operand) (K : KS) : Prop :=
 bif exactAt T f d then wpRes (opIndexAddr P σ t x i) K else
 match σ.slot x with
 | some (.v (.sl els _)) => match σ.val i with
  | some (.sc (.int _ n)) => match elemT P t with
   | some e => match sizeT P e with
    | some z => match kdT P 3 e with
     | some ks => bif Nat.beq (mkCells els n 0 ks).length z then iteP (inRange n els.length) (getI n.toNat els = some (mkCells els n 0 ks) ∧ K (.v (.cp (mkCells els n 0 ks))) σ) False else False
     | none => wpRes (opIndexAddr P σ t x i) K
    | none => False
   | none => False
  | _ => False
 | some (.lp k off) => match σ.val i with
  | some (.sc (.int _ n)) => match arrT P t with
   | some (m, e) => match sizeT P e with
    | some z => wpSel n (fun j => match moveSlot (.lp k off) (j * z) with | some p => K p σ | none => False) m
    | none => False
   | none => False
  | _ => False
 | some (.v (.gp g off)) => match σ.val i with
  | some (.sc (.int _ n)) => match arrT P t with
   | some (m, e) => match sizeT P e with
    | some z => wpSel n (fun j => match moveSlot (.v (.gp g off)) (j * z) with | some p => K p σ | none => False) m
    | none => False
   | none => False
  | _ => False
 | _ => wpRes (opIndexAddr P σ t x i) K
def lk {α : Type} (a : α) : α := (Classical.choice (⟨⟨a, rfl⟩⟩ : Nonempty { x : α // x = a })).1
theorem lk_eq {α : Type} (a : α) : lk a = a := (Classical.choice (⟨⟨a, rfl⟩⟩ : Nonempty { x : α // x = a })).2
def strFits (a b : List UInt8) : Bool := lk (decide ((a.length : Int) + b.length ≤ 9223372036854775807))
theorem strFits_iff {a b : List UInt8} : (strFits a b = true) = ((a.length : Int) + b.length ≤ 9223372036854775807) := by unfold strFits; rw [lk_eq]; simp
def wpBinStr (σ : St) (op : BinOp) (a b : List UInt8) (K : KS) : Prop :=
 match op with
 | .add => iteP (strFits a b) (K (.v (.sc (.string ⟨⟨a ++ b⟩⟩))) σ) False
 | .eql => K (.v (.sc (.bool (decide (a = b))))) σ
 | .neq => K (.v (.sc (.bool (decide (a ≠ b))))) σ
 | .lss => K (.v (.sc (.bool (bytesLt a b)))) σ
 | .leq => K (.v (.sc (.bool (bytesLt a b || decide (a = b))))) σ
 | .gtr => K (.v (.sc (.bool (!(bytesLt a b || decide (a = b)))))) σ
 | .geq => K (.v (.sc (.bool (!bytesLt a b)))) σ
 | _ => False
def wpBin (P : Program) (σ : St) (op : BinOp) (t : TypeId) (x y : Operand) (K : KS) : Prop :=
 match σ.val x with
 | some (.sc (.string a)) => match σ.val y with
  | some (.sc (.string b)) => wpBinStr σ op a.data.toList b.data.toList K
  | _ => False
 | _ => wpRes (opBin P σ op t x y) K
def wpConv (P : Program) (σ : St) (s d : TypeId) (x : Operand) (K : KS) : Prop :=
 match σ.val x with
 | some (.sl els _) => match P.underlying s, P.underlying d with
  | some (.slice e), some .string => match P.underlying e with
   | some (.int .u8) => iteP (els.all isByteCell) (K (.v (.sc (.string ⟨⟨els.map byteD⟩⟩))) σ) False
   | _ => False
  | _, _ => False
 | some (.sc (.string b)) => match P.underlying s, P.underlying d with
  | some .string, some (.slice e) => match P.underlying e with
   | some (.int .u8) => iteP (Nat.ble b.data.toList.length maxRoom) (K (.v (.sl (b.data.toList.map fun b => [.sc (.int .u8 b.toNat)]) (σ.h.next + 1))) { σ with h := (σ.h.new (.own 1 e (b.data.toList.map fun b => [AV.sc (.int .u8 b.toNat)]).length)).2 }) False
   | _ => False
  | _, _ => wpRes (opConv P σ s d x) K
 | _ => wpRes (opConv P σ s d x) K
def wpElems (σ : St) (k : Nat) (x : AV) (K : List (List AV) → Prop) : Prop :=
 match x with
 | .sl els _ => iteP (els.all (fun e => Nat.beq e.length k)) (K els) False
 | .sc (.string s) => bif Nat.beq k 1 then K (s.data.toList.map fun b => [.sc (.int .u8 b.toNat)]) else False
 | x => match σ.elems k x with
  | some els => K els
  | none => False
def wpAppendO (σ : St) (e : TypeId) (i : TypeInfo) (els : List (List AV)) (tok : Nat) (new : List (List AV)) (K : KS) : Prop :=
 iteP (allLen i.size els && fits (els.length + new.length) i.bytes)
  (match tok with
   | 0 => False
   | id + 1 => match σ.h.get id with
    | some (.own k e' n) => bif Nat.beq k i.size && Nat.beq e' e then iteP (decide (els.length = n))
      (match σ.h.put id (.own k e (n + new.length)) with
      | some h => K (.v (.sl (els ++ new) (id + 1))) { σ with h := h }
      | none => False) False else False
    | _ => False) False
def wpAppendS (C : Cfg) (σ : St) (f : FuncId) (d : Option Nat) (e : TypeId) (i : TypeInfo) (s : AV) (new : List (List AV)) (K : KS) : Prop :=
 match s with
 | .sc (.slice none 0 0) => iteP new.isEmpty (K (.v s) σ) (iteP (fits new.length i.bytes) (K (.v (σ.newSlice C f d i.size e new).1) (σ.newSlice C f d i.size e new).2) False)
 | .sl els tok => iteP new.isEmpty (K (.v s) σ) (wpAppendO σ e i els tok new K)
 | s => wpRes (appendS C σ f d e i s new) K
def wpAppend (C : Cfg) (P : Program) (σ : St) (f : FuncId) (d : Option Nat) (types : Array TypeId) (s x : AV) (K : KS) : Prop :=
 match types[0]?, types[1]? with
 | some t, some u => bif isRowT P u then
  (match elemT P t with
   | some e => match P.info? e with
    | some i => bif Nat.beq i.size 0 then False else
     wpElems σ i.size x fun new =>
      iteP (new.all (fun e => e.all AV.one)) (bif (zeroA P e).any (fun z => Nat.beq z.cells.length i.size) then wpAppendS C σ f d e i s new K else False) False
    | none => False
   | none => False) else False
 | _, _ => False
def wpBuiltin (C : Cfg) (P : Program) (σ : St) (f : FuncId) (d : Option Nat) (b : Builtin) (types : Array TypeId) (type : TypeId) (args : List AV) (K : KS) : Prop :=
 match b with
 | .append => match args with
  | [s, x] => wpAppend C P σ f d types s x K
  | _ => False
 | .len => match args with
  | [.sc (.string s)] => match types[0]? with
   | some t => bif isStringT P t then K (.v (intA s.data.toList.length)) σ else False
   | none => False
  | _ => wpRes (evBuiltin C P σ f d .len types type args) K
 | .min => match args with
  | [.sc (.int k x), .sc (.int _ y)] => K (.v (.sc (.int k (min x y)))) σ
  | _ => wpRes (evBuiltin C P σ f d .min types type args) K
 | .max => match args with
  | [.sc (.int k x), .sc (.int _ y)] => K (.v (.sc (.int k (max x y)))) σ
  | _ => wpRes (evBuiltin C P σ f d .max types type args) K
 | b => wpRes (evBuiltin C P σ f d b types type args) K
def wpStrip (n : Nat) : AV → (AV → Prop) → Prop :=
 Nat.rec (motive := fun _ => AV → (AV → Prop) → Prop)
  (fun v K => match v with
   | .sc v => K (.sc v)
   | .sl els 0 => K (.sl els 0)
   | _ => False)
  (fun _ ih v K => match v with
   | .sc v => K (.sc v)
   | .sl els 0 => K (.sl els 0)
   | .sl els (_ + 1) => iteP (plainEls els) (K (.sl els 0)) False
   | .agg cs => List.rec (motive := fun _ => (List AV → Prop) → Prop) (fun k => k []) (fun x _ ihl k => ih x fun y => ihl fun l => k (y :: l)) cs fun l => K (.agg l)
   | .tup cs => List.rec (motive := fun _ => (List AV → Prop) → Prop) (fun k => k []) (fun x _ ihl k => ih x fun y => ihl fun l => k (y :: l)) cs fun l => K (.tup l)
   | .ifc t v => ih v fun y => K (.ifc t y)
   | .fn f a b => List.rec (motive := fun _ => (List AV → Prop) → Prop) (fun k => k []) (fun x _ ihl k => ih x fun y => ihl fun l => k (y :: l)) a fun l =>
     List.rec (motive := fun _ => (List AV → Prop) → Prop) (fun k => k []) (fun x _ ihl k => ih x fun y => ihl fun l => k (y :: l)) b fun m => K (.fn f l m)
   | _ => False) n
def wpStrips (l : List AV) (K : List AV → Prop) : Prop :=
 List.rec (motive := fun _ => (List AV → Prop) → Prop) (fun k => k []) (fun x _ ihl k => wpStrip 8 x fun y => ihl fun l => k (y :: l)) l K
def wpBack (h : Heap) (r : AV) (K : AV → Prop) : Prop :=
 match r with
 | .rsl id off len k => match strip 8 h (.rsl id off len k) with
  | some y => K y
  | none => False
 | r => wpStrip 8 r K
abbrev CallW := FuncId → List AV → Heap → (AV → Heap → Prop) → Prop
def wpCallP (T : Tab) (C : Cfg) (call : CallW) (g : FuncId) (args : List AV) (h : Heap) (K : AV → Heap → Prop) : Prop :=
 match T.call g with
 | some t => match t args h with
  | some s => s.pre ∧ wpCAlts s.alts K
  | none => False
 | none => match C.prim g with
  | some p => match p args h with
   | some (v, h') => K v h'
   | none => False
  | none => bif C.fresh g then wpStrips args fun args' => call g args' heapF fun r h' => wpBack h' r fun r' => K r' h
   else bif C.pure g then call g args { h with ro := h.next } fun r h' => wpBack h' r fun r' => K r' h
   else call g args h K
def wpCallV (T : Tab) (C : Cfg) (call : CallW) (σ : St) (x : Operand) (args : List AV) (K : KS) : Prop :=
 match σ.val x with
 | some (.fn (.func g) first cap) => wpCallP T C call g (first ++ args ++ cap) σ.h fun v h => K (.v v) { σ with h := h }
 | _ => False
def wpCallM (T : Tab) (C : Cfg) (P : Program) (call : CallW) (σ : St) (x : Operand) (name : String) (args : List AV) (K : KS) : Prop :=
 match σ.val x with
 | some (.ifc t v) => match evMethod P t v name with
  | some (g, r) => wpCallP T C call g (r :: args) σ.h fun v h => K (.v v) { σ with h := h }
  | none => False
 | _ => False
def wpOpCall (T : Tab) (C : Cfg) (P : Program) (call : CallW) (f : FuncId) (d : Option Nat) (type : TypeId) (c : Call) (σ : St) (K : KS) : Prop :=
 match mapO σ.val c.args.toList with
 | none => False
 | some args => match c.callee with
  | .builtin b => wpBuiltin C P σ f d b c.argTypes type args K
  | .value x => wpCallV T C call σ x args K
  | .invoke x name => wpCallM T C P call σ x name args K
def noCall : CallF := fun _ _ _ => none
def wpOp (T : Tab) (C : Cfg) (P : Program) (call : CallW) (f : FuncId) (o : Oper) (σ : St) (K : KS) : Prop :=
 match o.op with
 | .index t x i => wpIndex P σ t x i K
 | .slice t x lo hi mx => wpSlice P σ t x lo hi mx K
 | .indexAddr t x i => wpIndexAddr T P f o.dst σ t x i K
 | .binOp op t x y _ => wpBin P σ op t x y K
 | .convert s d x => wpConv P σ s d x K
 | .call c => wpOpCall T C P call f o.dst o.type c σ K
 | _ => wpRes (evOp C P noCall f o σ) K
def wpStep (T : Tab) (C : Cfg) (P : Program) (call : CallW) (f : FuncId) (ops : Array Oper) (o : Oper) (σ : St) (K : St → Prop) : Prop :=
 match wantedA ops o σ with
 | some q => iteP q (wpOp T C P call f o σ fun s τ => wpPutN T f τ o.dst s K) (match σ.put o.dst (.v (.sc undef)) with | some τ => K τ | none => False)
 | none => False
def wpOpsW (T : Tab) (C : Cfg) (P : Program) (call : CallW) (f : FuncId) (ops : Array Oper) (l : List Oper) (σ : St) (K : St → Prop) : Prop :=
 List.rec (motive := fun _ => St → Prop) K (fun o _ ih σ => wpStep T C P call f ops o σ ih) l σ
def entry (fn : Func) (args : List AV) (h : Heap) : St := { n := args.length + (fn.ntmps - args.length), tm := argTr 0 args .leaf, d := .v (.sc undef), loc := [], h := h }
def wpCallB (C : Cfg) (P : Program) (run : RunW) : CallW := fun g args h K =>
 match P.funcs[g]? with
 | some fn => match fn.body with
  | some c => run g c (entry fn args h) fun e σ => match endOf C P fn.results.toList (some (e, σ)) with
   | some (v, h') => K v h'
   | none => False
  | none => False
 | none => False
def wpCode1 (T : Tab) (C : Cfg) (P : Program) (ih : RunW) (f : FuncId) (c : Code) (σ : St) (K : KR) : Prop :=
 match c with
 | .skip => K .normal σ
 | .region id ops draw => bif draw && C.bad f id then False else wpOpsW T C P (wpCallB C P ih) f ops ops.toList σ fun τ => forceZ (T.lazy f) τ fun τ => K .normal τ
 | .seq a b => ih f a σ fun e τ => match e with
  | .normal => ih f b τ K
  | .exit i => K (.exit i) τ
  | .ret => K .ret τ
 | .cond c a b => match σ.val c with
  | some (.sc (.bool t)) => iteP t (ih f a σ K) (ih f b σ K)
  | _ => False
 | .block id b => ih f b σ fun e τ => match e with
  | .normal => K .normal τ
  | .exit i => bif Nat.beq i id then K .normal τ else K (.exit i) τ
  | .ret => K .ret τ
 | .loop b => match T.loop f (firstId 8 b) with
  | some t => match t σ with
   | some s => loopAt P f (firstId 8 b) = b ∧ s.pre ∧ wpLAlts s.alts K
   | none => False
  | none => match C.tidy f (firstId 8 b) with
   | none => ih f b σ fun e τ => match e with
    | .normal => ih f (.loop b) τ K
    | .exit i => K (.exit i) τ
    | .ret => K .ret τ
   | some t => ih f b (σ.tidy t.head t.nloc) fun e τ => match e with
    | .normal => ih f (.loop b) τ K
    | .exit i => K (.exit i) (τ.tidy t.exit t.nloc)
    | .ret => K .ret (τ.tidy t.exit t.nloc)
 | .exit id => K (.exit id) σ
 | .ret => K .ret σ
 | .scope b => ih f b σ K
 | .label _ => K .normal σ
 | _ => False
def wpCode (T : Tab) (C : Cfg) (P : Program) (n : Nat) : RunW :=
 Nat.rec (motive := fun _ => RunW) (fun _ _ _ _ => False) (fun _ ih => wpCode1 T C P ih) n
def wpCall (T : Tab) (C : Cfg) (P : Program) (n : Nat) : CallW := wpCallB C P (wpCode T C P n)
end
end Go.Ef
namespace Go.Ef
open Go
theorem iteP_elim {q : Bool} {A B : Prop} (h : iteP q A B) : (q = true ∧ A) ∨ (q = false ∧ B) := by
 cases q with
 | true => exact .inl ⟨rfl, h⟩
 | false => exact .inr ⟨rfl, h⟩
theorem iteP_false {q : Bool} {A : Prop} (h : iteP q A False) : q = true ∧ A := by
 rcases iteP_elim h with h | h
 ·exact h
 ·exact h.2.elim
theorem cond_prop {q : Bool} {A : Prop} (h : bif q then A else False) : q = true ∧ A := by
 cases q with
 | true => exact ⟨rfl, h⟩
 | false => exact h.elim
section
variable {P : Program} {C : Cfg} {σ : St} {K : KS}
theorem wpRes_ok {r : Res} (h : wpRes r K) : ∃ s τ, r = some (s, τ) ∧ K s τ := by
 unfold wpRes at h
 split at h
 ·exact ⟨_, _, rfl, h⟩
 ·exact h.elim
theorem wpPut_ok {d : Option Nat} {s : Slot} {k : St → Prop} (h : wpPut σ d s k) : ∃ τ, σ.put d s = some τ ∧ k τ := by
 unfold wpPut at h
 split at h
 ·rename_i q
  rcases iteP_elim h with ⟨hq, h'⟩ | ⟨hq, h'⟩
  ·clear h
   subst hq
   split at h'
   ·exact ⟨_, ‹_›, h'⟩
   ·exact h'.elim
  ·clear h
   subst hq
   split at h'
   ·exact ⟨_, ‹_›, h'⟩
   ·exact h'.elim
 ·split at h
  ·exact ⟨_, ‹_›, h⟩
  ·exact h.elim
theorem wpPutN_ok {T : Tab} {f : FuncId} {d : Option Nat} {s : Slot} {k : St → Prop} (h : wpPutN T f σ d s k) : ∃ τ, σ.put d s = some τ ∧ k τ := by
 unfold wpPutN at h
 cases hn : namedAt T f d with
 | false => rw [hn] at h; exact wpPut_ok h
 | true =>
  rw [hn] at h
  simp only [cond_true] at h
  split at h
  ·exact wpPut_ok (h _ rfl)
  ·exact wpPut_ok (h _ rfl)
  ·exact wpPut_ok h
theorem wpSel_ok {n : Int} {F : Nat → Prop} : ∀ {m : Nat}, wpSel n F m → ∃ j, j < m ∧ n = (j : Int) ∧ F j := by
 intro m
 induction m with
 | zero => intro h; exact h.elim
 | succ m ih =>
  intro h
  have h : iteP (decide (n = (m : Int))) (F m) (wpSel n F m) := h
  rcases iteP_elim h with ⟨h1, h2⟩ | ⟨_, h2⟩
  ·exact ⟨m, Nat.lt_succ_self m, by simpa using h1, h2⟩
  ·obtain ⟨j, h3, h4⟩ := ih h2
   exact ⟨j, Nat.lt_succ_of_lt h3, h4⟩
theorem inRange_spec {n : Int} {m : Nat} (h : inRange n m = true) : 0 ≤ n ∧ n < m ∧ n.toNat < m := by
 simp only [inRange, Bool.and_eq_true, decide_eq_true_eq] at h
 exact ⟨h.1, h.2, by omega⟩
theorem idx_of {n : Int} {m : Nat} (h : inRange n m = true) (k : IntKind) : idx m (.sc (.int k n)) = some n.toNat := by
 obtain ⟨h1, h2, _⟩ := inRange_spec h
 unfold idx
 simp [h1, h2]
theorem idx_nat {j m : Nat} (h : j < m) (k : IntKind) : idx m (.sc (.int k (j : Int))) = some j := by
 unfold idx
 simp [h]
theorem bytes_get (s : ByteArray) (j : Nat) (h : j < s.data.toList.length) : s[j]? = some ((s.data.toList[j]?).getD 0) := by
 have h1 : j < s.size := by
  have : s.data.toList.length = s.size := Array.length_toList
  omega
 rw [List.getElem?_eq_getElem h, Option.getD_some]
 rw [getElem?_pos s j h1]
 rfl
theorem size_list (s : ByteArray) : s.data.toList.length = s.size := Array.length_toList
theorem wpIndex_ok {t : TypeId} {x i : Operand} (h : wpIndex P σ t x i K) : ∃ s τ, opIndex P σ t x i = some (s, τ) ∧ K s τ := by
 unfold wpIndex at h
 unfold opIndex
 split at h
 ·rename_i s hs
  split at h
  ·rename_i k n hi
   obtain ⟨h1, h⟩ := cond_prop h
   obtain ⟨h2, h⟩ := iteP_false h
   refine ⟨_, _, ?_, h⟩
   have h3 := (inRange_spec h2).2.2
   rw [hs]; simp only []; rw [hi]; simp only []
   unfold indexStr
   rw [h1]
   rw [size_list] at h2
   simp only [cond_true, idx_of h2, bytes_get s _ h3]
   rfl
  ·exact h.elim
 ·rename_i cs hs
  split at h
  ·rename_i k n hi
   split at h
   ·rename_i m e ha
    split at h
    ·rename_i z hz
     obtain ⟨j, hj, rfl, h'⟩ := wpSel_ok h
     obtain ⟨s, τ, h1, h2⟩ := wpRes_ok h'
     refine ⟨s, τ, ?_, h2⟩
     rw [hs]; simp only []; rw [hi]; simp only []
     unfold indexAgg
     rw [ha]; simp only []; rw [hz, idx_nat hj]
     exact h1
    ·exact h.elim
   ·exact h.elim
  ·exact h.elim
 ·exact h.elim
theorem optI_val {x : Option Operand} {v : Option Int} (h : optI σ x = some v) : (v = none ∧ optVal σ x = some none) ∨ ∃ n k, v = some n ∧ optVal σ x = some (some (.sc (.int k n))) := by
 cases x with
 | none => simp only [optI] at h; cases h; exact .inl ⟨rfl, rfl⟩
 | some x =>
  simp only [optI] at h
  split at h
  ·rename_i k n hx
   cases h
   exact .inr ⟨n, k, rfl, by simp only [optVal, hx]⟩
  ·cases h
theorem range_of {n : Nat} {lo hi : Option Int} {l h : Option AV} (hl : (lo = none ∧ l = none) ∨ ∃ i k, lo = some i ∧ l = some (.sc (.int k i))) (hh : (hi = none ∧ h = none) ∨ ∃ i k, hi = some i ∧ h = some (.sc (.int k i)))
  (a b : Int) (ha : a = lo.getD 0) (hb : b = hi.getD n) (h0 : 0 ≤ a) (h1 : a ≤ b) (h2 : b ≤ n) : evRange n l h = some (a.toNat, b.toNat) := by
 have e1 : bound n n h = some b.toNat := by
  rcases hh with ⟨rfl, rfl⟩ | ⟨i, k, rfl, rfl⟩
  ·simp only [Option.getD_none] at hb; subst hb; simp [bound]
  ·simp only [Option.getD_some] at hb; subst hb
   have : 0 ≤ b := by omega
   simp [bound, this, h2]
 have e2 : bound b.toNat 0 l = some a.toNat := by
  rcases hl with ⟨rfl, rfl⟩ | ⟨i, k, rfl, rfl⟩
  ·simp only [Option.getD_none] at ha; subst ha; simp [bound]
  ·simp only [Option.getD_some] at ha; subst ha
   have : a ≤ (b.toNat : Int) := by omega
   simp only [bound, h0, this, decide_true, Bool.and_self, cond_true]
 unfold evRange
 rw [e1]; simp only []; rw [e2]
theorem extract_cut (s : ByteArray) (a b : Nat) (_ : b ≤ s.data.toList.length) : s.extract a b = ⟨⟨(s.data.toList.take b).drop a⟩⟩ := by
 apply ByteArray.ext
 apply Array.ext'
 simp only [ByteArray.data_extract, Array.toList_extract, List.extract_eq_take_drop]
 rw [List.drop_take]
theorem wpCutStr_ok {s : ByteArray} {lo hi : Option Int} {l h : Option AV} (hl : (lo = none ∧ l = none) ∨ ∃ i k, lo = some i ∧ l = some (.sc (.int k i))) (hh : (hi = none ∧ h = none) ∨ ∃ i k, hi = some i ∧ h = some (.sc (.int k i)))
  (H : wpCutStr σ s.data.toList lo hi K) : ∃ a b, evRange s.size l h = some (a, b) ∧ K (.v (.sc (.string (s.extract a b)))) σ := by
 have hsz := size_list s
 unfold wpCutStr at H
 split at H
 ·split at H
  ·refine ⟨_, _, range_of hl hh 0 s.size rfl rfl (by omega) (by omega) (by omega), ?_⟩
   rw [extract_cut _ _ _ (by omega), show ((s.data.toList.take (s.size : Int).toNat).drop (0 : Int).toNat) = s.data.toList from by rw [Int.toNat_natCast, ← hsz, List.take_length]; rfl]
   exact H
  ·rename_i a
   obtain ⟨h1, H⟩ := iteP_false H
   simp only [Bool.and_eq_true, decide_eq_true_eq] at h1
   refine ⟨_, _, range_of hl hh a s.size rfl rfl (by omega) (by omega) (by omega), ?_⟩
   rw [extract_cut _ _ _ (by omega), show ((s.data.toList.take (s.size : Int).toNat).drop a.toNat) = s.data.toList.drop a.toNat from by rw [Int.toNat_natCast, ← hsz, List.take_length]]
   exact H
 ·rename_i b
  split at H
  ·obtain ⟨h1, H⟩ := iteP_false H
   simp only [Bool.and_eq_true, decide_eq_true_eq] at h1
   refine ⟨_, _, range_of hl hh 0 b rfl rfl (by omega) (by omega) (by omega), ?_⟩
   rw [extract_cut _ _ _ (by omega)]
   simpa using H
  ·rename_i a
   obtain ⟨h1, H⟩ := iteP_false H
   simp only [Bool.and_eq_true, decide_eq_true_eq] at h1
   refine ⟨_, _, range_of hl hh a b rfl rfl (by omega) (by omega) (by omega), ?_⟩
   rw [extract_cut _ _ _ (by omega)]
   exact H
theorem wpCutSl_ok {els : List (List AV)} {tok : Nat} {lo hi : Option Int} {l h : Option AV} (hl : (lo = none ∧ l = none) ∨ ∃ i k, lo = some i ∧ l = some (.sc (.int k i))) (hh : (hi = none ∧ h = none) ∨ ∃ i k, hi = some i ∧ h = some (.sc (.int k i)))
  (H : wpCutSl σ els tok lo hi K) : ∃ a b, evRange els.length l h = some (a, b) ∧ K (.v (cutS els tok a b)) σ := by
 have key : ∀ a b : Int, a = lo.getD 0 → b = hi.getD els.length → 0 ≤ a → a ≤ b → b ≤ (els.length : Int) → K (.v (cutS els tok a.toNat b.toNat)) σ → ∃ a b, evRange els.length l h = some (a, b) ∧ K (.v (cutS els tok a b)) σ :=
  fun a b h1 h2 h3 h4 h5 h6 => ⟨_, _, range_of hl hh a b h1 h2 h3 h4 h5, h6⟩
 have beqT : ∀ {a b : Nat}, a = b → Nat.beq a b = true := fun e => by subst e; exact Nat.beq_refl _
 have beqF : ∀ {a b : Nat}, a ≠ b → Nat.beq a b = false := fun {a b} e => by
  cases h : Nat.beq a b with
  | false => rfl
  | true => exact absurd (Nat.eq_of_beq_eq_true h) e
 unfold wpCutSl at H
 split at H
 ·have c0 : ∀ a b, cutS els 0 a b = .sl ((els.take b).drop a) 0 := fun a b => rfl
  split at H
  ·split at H
   ·exact key 0 els.length rfl rfl (by omega) (by omega) (by omega) (by rw [c0]; simpa using H)
   ·rename_i a
    obtain ⟨h1, H⟩ := iteP_false H
    simp only [Bool.and_eq_true, decide_eq_true_eq] at h1
    exact key a els.length rfl rfl (by omega) (by omega) (by omega) (by rw [c0]; simpa using H)
  ·rename_i b
   split at H
   ·obtain ⟨h1, H⟩ := iteP_false H
    simp only [Bool.and_eq_true, decide_eq_true_eq] at h1
    exact key 0 b rfl rfl (by omega) (by omega) (by omega) (by rw [c0]; simpa using H)
   ·rename_i a
    obtain ⟨h1, H⟩ := iteP_false H
    simp only [Bool.and_eq_true, decide_eq_true_eq] at h1
    exact key a b rfl rfl (by omega) (by omega) (by omega) (by rw [c0]; exact H)
 ·rename_i tok
  have c1 : ∀ a b, cutS els (tok + 1) a b = bif Nat.beq b els.length && Nat.beq a 0 then .sl els (tok + 1) else .sl ((els.take b).drop a) 1 := fun a b => rfl
  split at H
  ·split at H
   ·refine key 0 els.length rfl rfl (by omega) (by omega) (by omega) ?_
    rw [c1, beqT (by simp), beqT (by simp)]
    exact H
   ·rename_i a
    obtain ⟨h1, H⟩ := iteP_false H
    simp only [Bool.and_eq_true, decide_eq_true_eq] at h1
    refine key a els.length rfl rfl (by omega) (by omega) (by omega) ?_
    rw [c1, beqT (by simp)]
    rcases iteP_elim H with ⟨h2, H⟩ | ⟨h2, H⟩
    ·simp only [decide_eq_true_eq] at h2
     rw [beqT (by omega)]
     exact H
    ·simp only [decide_eq_false_iff_not] at h2
     rw [beqF (by omega)]
     simpa using H
  ·rename_i b
   split at H
   ·obtain ⟨h1, H⟩ := iteP_false H
    simp only [Bool.and_eq_true, decide_eq_true_eq] at h1
    refine key 0 b rfl rfl (by omega) (by omega) (by omega) ?_
    rw [c1]
    rcases iteP_elim H with ⟨h2, H⟩ | ⟨h2, H⟩
    ·simp only [decide_eq_true_eq] at h2
     rw [beqT (by omega), beqT (by simp)]
     exact H
    ·simp only [decide_eq_false_iff_not] at h2
     rw [beqF (by omega)]
     simpa using H
   ·rename_i a
    obtain ⟨h1, H⟩ := iteP_false H
    simp only [Bool.and_eq_true, decide_eq_true_eq] at h1
    refine key a b rfl rfl (by omega) (by omega) (by omega) ?_
    rw [c1]
    rcases iteP_elim H with ⟨h2, H⟩ | ⟨h2, H⟩
    ·simp only [Bool.and_eq_true, decide_eq_true_eq] at h2
     rw [beqT (by omega), beqT (by omega)]
     exact H
    ·simp only [Bool.and_eq_false_iff, decide_eq_false_iff_not] at h2
     have : (Nat.beq b.toNat els.length && Nat.beq a.toNat 0) = false := by
      rcases h2 with h2 | h2
      ·rw [beqF (by omega)]; rfl
      ·rw [beqF (a := a.toNat) (by omega), Bool.and_false]
     rw [this]
     exact H
theorem wpSlice_ok {t : TypeId} {x : Operand} {lo hi mx : Option Operand} (H : wpSlice P σ t x lo hi mx K) : ∃ s τ, opSlice P σ t x lo hi mx = some (s, τ) ∧ K s τ := by
 unfold wpSlice at H
 split at H
 ·exact H.elim
 ·split at H
  ·rename_i s hs
   split at H
   ·rename_i hu
    split at H
    ·rename_i l hl
     split at H
     ·rename_i h hh
      have hl := optI_val hl
      have hh := optI_val hh
      have q1 : ∃ lv, optVal σ lo = some lv ∧ ((l = none ∧ lv = none) ∨ ∃ i k, l = some i ∧ lv = some (.sc (.int k i))) := by
       rcases hl with ⟨h1, h2⟩ | ⟨n, k, h1, h2⟩
       ·exact ⟨_, h2, .inl ⟨h1, rfl⟩⟩
       ·exact ⟨_, h2, .inr ⟨n, k, h1, rfl⟩⟩
      have q2 : ∃ hv, optVal σ hi = some hv ∧ ((h = none ∧ hv = none) ∨ ∃ i k, h = some i ∧ hv = some (.sc (.int k i))) := by
       rcases hh with ⟨h1, h2⟩ | ⟨n, k, h1, h2⟩
       ·exact ⟨_, h2, .inl ⟨h1, rfl⟩⟩
       ·exact ⟨_, h2, .inr ⟨n, k, h1, rfl⟩⟩
      obtain ⟨lv, e1, r1⟩ := q1
      obtain ⟨hv, e2, r2⟩ := q2
      obtain ⟨a, b, hr, hk⟩ := wpCutStr_ok r1 r2 H
      refine ⟨_, _, ?_, hk⟩
      unfold opSlice
      simp only []
      rw [hs]; simp only []; rw [e1, e2]
      simp only [evSlice, hu, hr]
      rfl
     ·exact H.elim
    ·exact H.elim
   ·exact H.elim
  ·rename_i els tok hs
   split at H
   ·rename_i k hk
    obtain ⟨hhead, H⟩ := iteP_false H
    split at H
    ·rename_i l hl
     split at H
     ·rename_i h hh
      have hl := optI_val hl
      have hh := optI_val hh
      have q1 : ∃ lv, optVal σ lo = some lv ∧ ((l = none ∧ lv = none) ∨ ∃ i k, l = some i ∧ lv = some (.sc (.int k i))) := by
       rcases hl with ⟨h1, h2⟩ | ⟨n, k, h1, h2⟩
       ·exact ⟨_, h2, .inl ⟨h1, rfl⟩⟩
       ·exact ⟨_, h2, .inr ⟨n, k, h1, rfl⟩⟩
      have q2 : ∃ hv, optVal σ hi = some hv ∧ ((h = none ∧ hv = none) ∨ ∃ i k, h = some i ∧ hv = some (.sc (.int k i))) := by
       rcases hh with ⟨h1, h2⟩ | ⟨n, k, h1, h2⟩
       ·exact ⟨_, h2, .inl ⟨h1, rfl⟩⟩
       ·exact ⟨_, h2, .inr ⟨n, k, h1, rfl⟩⟩
      obtain ⟨lv, e1, r1⟩ := q1
      obtain ⟨hv, e2, r2⟩ := q2
      obtain ⟨a, b, hr, hk'⟩ := wpCutSl_ok r1 r2 H
      refine ⟨_, _, ?_, hk'⟩
      unfold opSlice
      simp only []
      rw [hs]; simp only []; rw [e1, e2]
      simp only [evSlice, hk, hr, hhead]
      rfl
     ·exact H.elim
    ·exact H.elim
   ·exact H.elim
  ·exact wpRes_ok H
theorem wpIndexAddr_ok {T : Tab} {f : FuncId} {d : Option Nat} {t : TypeId} {x i : Operand} (H : wpIndexAddr T P f d σ t x i K) : ∃ s τ, opIndexAddr P σ t x i = some (s, τ) ∧ K s τ := by
 unfold wpIndexAddr at H
 cases hex : exactAt T f d with
 | true => rw [hex] at H; exact wpRes_ok H
 | false =>
  rw [hex] at H
  simp only [cond_false] at H
  split at H
  ·rename_i els tok hs
   split at H
   ·rename_i k n hi
    split at H
    ·rename_i e he
     split at H
     ·rename_i z hz
      split at H
      ·rename_i ks hks
       obtain ⟨h1, H⟩ := cond_prop H
       obtain ⟨h2, h3, h4⟩ := iteP_false H
       refine ⟨_, _, ?_, h4⟩
       unfold opIndexAddr
       rw [hs]; simp only []; rw [hi]; simp only []
       unfold addrSl
       rw [he]; simp only []; rw [hz, idx_of h2]; simp only []; rw [h3]; simp only []
       rw [h1]; rfl
      ·exact wpRes_ok H
     ·exact H.elim
    ·exact H.elim
   ·exact H.elim
  ·rename_i k off hs
   split at H
   ·rename_i k' n hi
    split at H
    ·rename_i m e ha
     split at H
     ·rename_i z hz
      obtain ⟨j, hj, rfl, h⟩ := wpSel_ok H
      clear H
      split at h
      ·rename_i p hp
       refine ⟨_, _, ?_, h⟩
       unfold opIndexAddr
       rw [hs]; simp only []; rw [hi]; simp only []
       unfold addrA
       rw [ha]; simp only []; rw [hz, idx_nat hj]; simp only []
       rw [hp]
      ·exact h.elim
     ·exact H.elim
    ·exact H.elim
   ·exact H.elim
  ·rename_i g off hs
   split at H
   ·rename_i k' n hi
    split at H
    ·rename_i m e ha
     split at H
     ·rename_i z hz
      obtain ⟨j, hj, rfl, h⟩ := wpSel_ok H
      clear H
      split at h
      ·rename_i p hp
       refine ⟨_, _, ?_, h⟩
       unfold opIndexAddr
       rw [hs]; simp only []; rw [hi]; simp only []
       unfold addrA
       rw [ha]; simp only []; rw [hz, idx_nat hj]; simp only []
       rw [hp]
      ·exact h.elim
     ·exact H.elim
    ·exact H.elim
   ·exact H.elim
  ·exact wpRes_ok H
end
end Go.Ef
namespace Go.Ef
open Go
section
variable {P : Program} {C : Cfg} {σ : St} {K : KS}
theorem str_run {P : Program} {op : BinOp} {t : TypeId} {x y : Operand} {a b : ByteArray} {v : Value} (h : pureRun P (Op.stringOp op a b) = some v) (h1 : op ≠ .shl) (h2 : op ≠ .shr) : scOp P (do eqGuard op t x y (.string a) (.string b); binOp op t (.string a) (.string b)) = ofVal 2 v := by
 have e1 : pureRun P (do eqGuard op t x y (.string a) (.string b); binOp op t (.string a) (.string b)) = some v := by
  cases op <;> first | exact absurd rfl h1 | exact absurd rfl h2 | exact h
 unfold scOp
 rw [e1]
theorem wpBin_ok {op : BinOp} {t : TypeId} {x y : Operand} (h : wpBin P σ op t x y K) : ∃ s τ, opBin P σ op t x y = some (s, τ) ∧ K s τ := by
 unfold wpBin at h
 split at h
 ·rename_i a ha
  split at h
  ·rename_i b hb
   have key : ∀ v r, pureRun P (Op.stringOp op a b) = some v → op ≠ .shl → op ≠ .shr → ofVal 2 v = some (.sc r) → K (.v (.sc r)) σ → ∃ s τ, opBin P σ op t x y = some (s, τ) ∧ K s τ := by
    intro v r hv h1 h2 hr hk
    refine ⟨_, _, ?_, hk⟩
    unfold opBin
    rw [ha]; simp only []; rw [hb]; simp only []
    unfold evBin evBinG
    simp only [toVal]
    rw [str_run hv h1 h2, hr]
    rfl
   have eqd : ∀ l m : List UInt8, (l == m) = decide (l = m) := fun l m => by
    by_cases e : l = m
    ·subst e; simp
    ·simp [e]
   have heq : (a.toList == b.toList) = decide (a.data.toList = b.data.toList) := by rw [Lib.toList_data, Lib.toList_data, eqd]
   unfold wpBinStr at h
   split at h
   ·obtain ⟨h1, h2⟩ := iteP_false h
    have h1 : (a.data.toList.length : Int) + b.data.toList.length ≤ 9223372036854775807 := strFits_iff ▸ h1
    refine key (.string (a ++ b)) (.string (a ++ b)) ?_ (by simp) (by simp) rfl ?_
    ·rw [size_list, size_list] at h1
     have : ¬ ((a.size + b.size : Nat) : Int) > IntKind.i64.max := by
      have : IntKind.i64.max = 9223372036854775807 := by decide
      omega
     simp only [Op.stringOp, if_neg this]
     rfl
    ·have : (a ++ b : ByteArray) = ⟨⟨a.data.toList ++ b.data.toList⟩⟩ := by
      apply ByteArray.ext
      apply Array.ext'
      simp
     rw [this]; exact h2
   ·exact key _ _ rfl (by simp) (by simp) rfl (by rw [heq]; exact h)
   ·refine key _ _ rfl (by simp) (by simp) rfl ?_
    have : (!(a.toList == b.toList)) = decide (a.data.toList ≠ b.data.toList) := by rw [heq]; simp
    rw [this]; exact h
   ·exact key _ _ rfl (by simp) (by simp) rfl (by rw [Lib.toList_data, Lib.toList_data]; exact h)
   ·exact key _ _ rfl (by simp) (by simp) rfl (by rw [heq, Lib.toList_data, Lib.toList_data]; exact h)
   ·exact key _ _ rfl (by simp) (by simp) rfl (by rw [heq, Lib.toList_data, Lib.toList_data]; exact h)
   ·exact key _ _ rfl (by simp) (by simp) rfl (by rw [Lib.toList_data, Lib.toList_data]; exact h)
   ·exact h.elim
  ·exact h.elim
 ·exact wpRes_ok h
theorem byteD_mapO : ∀ (els : List (List AV)), els.all isByteCell = true → mapO byteOf els = some (els.map byteD) := by
 intro els
 induction els with
 | nil => intro _; rfl
 | cons e els ih =>
  intro h
  simp only [List.all_cons, Bool.and_eq_true] at h
  rw [mapO_cons, ih h.2]
  have : byteOf e = some (byteD e) := by
   have := h.1
   simp only [isByteCell, Bool.and_eq_true] at this
   unfold byteD
   cases hb : byteOf e with
   | none => rw [hb] at this; cases this.2
   | some b => rfl
  rw [this]; rfl
theorem wpConv_ok {s d : TypeId} {x : Operand} (h : wpConv P σ s d x K) : ∃ q τ, opConv P σ s d x = some (q, τ) ∧ K q τ := by
 unfold wpConv at h
 split at h
 ·rename_i els tok hx
  split at h
  ·rename_i e h1 h2
   split at h
   ·rename_i h3
    obtain ⟨h4, h5⟩ := iteP_false h
    refine ⟨_, _, ?_, h5⟩
    have hall : els.all (fun e => Nat.beq e.length 1) = true := by
     rw [List.all_eq_true] at h4 ⊢
     intro e he
     have := h4 e he
     simp only [isByteCell, Bool.and_eq_true] at this
     exact this.1
    unfold opConv
    rw [hx]; simp only []
    unfold evConvert
    rw [h1, h2]; simp only [St.elems, hall, cond_true, isSlice]
    unfold bytesOf
    rw [h3]; simp only []; rw [byteD_mapO els h4]
    rfl
   ·exact h.elim
  ·exact h.elim
 ·rename_i b hx
  split at h
  ·rename_i e h1 h2
   split at h
   ·rename_i h3
    obtain ⟨h4, h5⟩ := iteP_false h
    refine ⟨_, _, ?_, h5⟩
    unfold opConv
    rw [hx]; simp only []
    unfold evConvert
    rw [h1, h2]; simp only []
    unfold toBytes
    rw [h3]; simp only []
    rw [size_list] at h4
    rw [h4]
    rfl
   ·exact h.elim
  ·exact wpRes_ok h
 ·exact wpRes_ok h
theorem wpElems_ok {k : Nat} {x : AV} {k' : List (List AV) → Prop} (h : wpElems σ k x k') : ∃ els, σ.elems k x = some els ∧ k' els := by
 unfold wpElems at h
 split at h
 ·rename_i els tok
  obtain ⟨h1, h2⟩ := iteP_false h
  exact ⟨els, by simp only [St.elems, h1, cond_true], h2⟩
 ·rename_i s
  obtain ⟨h1, h2⟩ := cond_prop h
  exact ⟨_, by simp only [St.elems, h1, cond_true], h2⟩
 ·split at h
  ·exact ⟨_, ‹_›, h⟩
  ·exact h.elim
theorem wpAppendO_ok {e : TypeId} {i : TypeInfo} {els : List (List AV)} {tok : Nat} {new : List (List AV)} (h : wpAppendO σ e i els tok new K) : ∃ s τ, appendO σ e i els tok new = some (s, τ) ∧ K s τ := by
 unfold wpAppendO at h
 obtain ⟨h1, h⟩ := iteP_false h
 unfold appendO
 rw [h1]
 simp only [cond_true]
 split at h
 ·exact h.elim
 ·simp only []
  split at h
  ·rename_i k e' n hg
   rw [hg]
   simp only []
   obtain ⟨h2, h⟩ := cond_prop h
   obtain ⟨h3, h⟩ := iteP_false h
   have h3 : els.length = n := by simpa using h3
   rw [h2, show Nat.beq els.length n = true by rw [h3]; exact Nat.beq_refl _]
   simp only [cond_true, Bool.and_self]
   split at h
   ·rename_i hh hp
    rw [hp]
    exact ⟨_, _, rfl, h⟩
   ·exact h.elim
  ·exact h.elim
theorem wpAppendS_ok {f : FuncId} {d : Option Nat} {e : TypeId} {i : TypeInfo} {s : AV} {new : List (List AV)} (h : wpAppendS C σ f d e i s new K) : ∃ q τ, appendS C σ f d e i s new = some (q, τ) ∧ K q τ := by
 unfold wpAppendS at h
 split at h
 ·rcases iteP_elim h with ⟨h1, h2⟩ | ⟨h1, h2⟩
  ·exact ⟨_, _, by simp only [appendS, h1, cond_true], h2⟩
  ·obtain ⟨h3, h4⟩ := iteP_false h2
   exact ⟨_, _, by simp only [appendS, h1, cond_false, appendNil, h3, cond_true], h4⟩
 ·rcases iteP_elim h with ⟨h1, h2⟩ | ⟨h1, h2⟩
  ·exact ⟨_, _, by simp only [appendS, h1, cond_true], h2⟩
  ·obtain ⟨q, τ, h3, h4⟩ := wpAppendO_ok h2
   exact ⟨q, τ, by simp only [appendS, h1, cond_false, h3], h4⟩
 ·exact wpRes_ok h
theorem wpAppend_ok {f : FuncId} {d : Option Nat} {types : Array TypeId} {s x : AV} (h : wpAppend C P σ f d types s x K) : ∃ q τ, evAppend C P σ f d types s x = some (q, τ) ∧ K q τ := by
 unfold wpAppend at h
 unfold evAppend
 split at h
 ·rename_i t u ht hu
  rw [ht, hu]
  simp only []
  obtain ⟨h1, h⟩ := cond_prop h
  rw [h1]
  simp only [cond_true]
  split at h
  ·rename_i e he
   rw [he]
   simp only []
   split at h
   ·rename_i i hi
    rw [hi]
    simp only []
    cases hz : Nat.beq i.size 0 with
    | true => rw [hz] at h; exact h.elim
    | false =>
     rw [hz] at h
     simp only [cond_false] at h ⊢
     obtain ⟨new, h2, h⟩ := wpElems_ok h
     rw [h2]
     simp only []
     obtain ⟨h3, h⟩ := iteP_false h
     obtain ⟨h4, h⟩ := cond_prop h
     rw [h3, h4]
     exact wpAppendS_ok h
   ·exact h.elim
  ·exact h.elim
 ·exact h.elim
theorem wpBuiltin_ok {f : FuncId} {d : Option Nat} {b : Builtin} {types : Array TypeId} {type : TypeId} {args : List AV} (h : wpBuiltin C P σ f d b types type args K) : ∃ q τ, evBuiltin C P σ f d b types type args = some (q, τ) ∧ K q τ := by
 unfold wpBuiltin at h
 split at h
 ·split at h
  ·exact wpAppend_ok h
  ·exact h.elim
 ·split at h
  ·rename_i s
   split at h
   ·rename_i t ht
    obtain ⟨h1, h⟩ := cond_prop h
    refine ⟨_, _, ?_, h⟩
    have hu : P.underlying t = some .string := by
     unfold isStringT at h1
     split at h1
     ·assumption
     ·cases h1
    rw [size_list]
    simp only [evBuiltin, evLen]
    have : pureRun P (Builtin.len_ types type #[.string s]) = some (.int .i64 s.size) := by
     have hun : ∀ k : TypeDesc → Sem Value, pureRun P (underlying t >>= k) = pureRun P (k .string) := by
      intro k
      unfold underlying
      rw [bind_assoc]
      show pureRun P ((match P.underlying t with | some d => pure d | none => stuck "no such type") >>= k) = _
      rw [hu]
      rfl
     simp only [Builtin.len_, ht]
     exact hun _
    rw [this]
    rfl
   ·exact h.elim
  ·exact wpRes_ok h
 ·split at h
  ·rename_i k x k' y
   refine ⟨_, _, ?_, h⟩
   have : min x y = if y < x then y else x := by split <;> omega
   rw [this]
   rfl
  ·exact wpRes_ok h
 ·split at h
  ·rename_i k x k' y
   refine ⟨_, _, ?_, h⟩
   have : max x y = if x < y then y else x := by split <;> omega
   rw [this]
   rfl
  ·exact wpRes_ok h
 ·exact wpRes_ok h
theorem wpStrip_ok : ∀ n v k, wpStrip n v k → ∃ y, stripA n v = some y ∧ (∀ h, strip n h v = some y) ∧ k y := by
 intro n
 induction n with
 | zero =>
  intro v k h
  cases v with
  | sc v => exact ⟨_, rfl, fun _ => rfl, h⟩
  | sl els tok =>
   cases tok with
   | zero => exact ⟨_, rfl, fun _ => rfl, h⟩
   | succ t => exact h.elim
  | _ => exact h.elim
 | succ n ih =>
  have lists : ∀ (cs : List AV) (k : List AV → Prop), List.rec (motive := fun _ => (List AV → Prop) → Prop) (fun k => k []) (fun x _ ihl k => wpStrip n x fun y => ihl fun l => k (y :: l)) cs k →
    ∃ l, mapO (stripA n) cs = some l ∧ (∀ h, mapO (strip n h) cs = some l) ∧ k l := by
   intro cs
   induction cs with
   | nil => intro k h; exact ⟨[], rfl, fun _ => rfl, h⟩
   | cons x cs ihc =>
    intro k h
    obtain ⟨y, h1, h2, h3⟩ := ih x _ h
    obtain ⟨l, h4, h5, h6⟩ := ihc _ h3
    exact ⟨y :: l, by rw [mapO_cons, h1, h4]; rfl, fun hp => by rw [mapO_cons, h2, h5]; rfl, h6⟩
  intro v k h
  cases v with
  | sc v => exact ⟨_, rfl, fun _ => rfl, h⟩
  | sl els tok =>
   cases tok with
   | zero => exact ⟨_, rfl, fun _ => rfl, h⟩
   | succ t =>
    obtain ⟨h1, h2⟩ := iteP_false (show iteP (plainEls els) (k (.sl els 0)) False from h)
    exact ⟨_, by simp only [stripA, h1, cond_true], fun _ => by simp only [strip, h1, cond_true], h2⟩
  | agg cs =>
   obtain ⟨l, h1, h2, h3⟩ := lists cs _ h
   exact ⟨_, by simp only [stripA, h1, Option.map_some], fun hp => by simp only [strip, h2, Option.map_some], h3⟩
  | tup cs =>
   obtain ⟨l, h1, h2, h3⟩ := lists cs _ h
   exact ⟨_, by simp only [stripA, h1, Option.map_some], fun hp => by simp only [strip, h2, Option.map_some], h3⟩
  | ifc t u =>
   obtain ⟨y, h1, h2, h3⟩ := ih u _ h
   exact ⟨_, by simp only [stripA, h1, Option.map_some], fun hp => by simp only [strip, h2, Option.map_some], h3⟩
  | fn f a b =>
   obtain ⟨l, h1, h2, h3⟩ := lists a _ h
   obtain ⟨m, h4, h5, h6⟩ := lists b _ h3
   exact ⟨_, by simp only [stripA, h1, h4], fun hp => by simp only [strip, h2, h5], h6⟩
  | _ => exact h.elim
theorem wpStrips_ok : ∀ (l : List AV) (k : List AV → Prop), wpStrips l k → ∃ m, mapO (stripA 8) l = some m ∧ k m := by
 intro l
 induction l with
 | nil => intro k h; exact ⟨[], rfl, h⟩
 | cons x l ih =>
  intro k h
  obtain ⟨y, h1, _, h3⟩ := wpStrip_ok 8 x _ (show wpStrip 8 x fun y => wpStrips l fun m => k (y :: m) from h)
  obtain ⟨m, h4, h5⟩ := ih _ h3
  exact ⟨y :: m, by rw [mapO_cons, h1, h4]; rfl, h5⟩
theorem wpBack_ok {h : Heap} {r : AV} {k : AV → Prop} (H : wpBack h r k) : ∃ y, strip 8 h r = some y ∧ k y := by
 unfold wpBack at H
 split at H
 ·split at H
  ·exact ⟨_, ‹_›, H⟩
  ·exact H.elim
 ·obtain ⟨y, _, h2, h3⟩ := wpStrip_ok 8 _ _ H
  exact ⟨y, h2 h, h3⟩
end
end Go.Ef
namespace Go.Ef
open Go
noncomputable section
structure TabOk (P : Program) (C : Cfg) (T : Tab) : Prop where
 call : ∀ g t args h s, T.call g = some t → t args h = some s → s.pre → ∃ a ∈ s.alts, ∃ x m, a.post x ∧ callP C (evCall C P m) g args h = some (a.val x, a.heap x)
 loop : ∀ f i t σ s, T.loop f i = some t → t σ = some s → s.pre → ∃ a ∈ s.alts, ∃ x m, a.post x ∧ evCode C P m f (.loop (loopAt P f i)) σ = some (a.ex, a.st x)
def Ev (C : Cfg) (P : Program) (f : FuncId) (c : Code) (σ : St) (K : KR) : Prop := ∃ m e τ, evCode C P m f c σ = some (e, τ) ∧ K e τ
def EvC (C : Cfg) (P : Program) (g : FuncId) (args : List AV) (h : Heap) (K : AV → Heap → Prop) : Prop := ∃ m v h', evCall C P m g args h = some (v, h') ∧ K v h'
def EvP (C : Cfg) (P : Program) (g : FuncId) (args : List AV) (h : Heap) (K : AV → Heap → Prop) : Prop := ∃ m v h', callP C (evCall C P m) g args h = some (v, h') ∧ K v h'
section
variable {P : Program} {C : Cfg} {T : Tab}
def RunWOk (P : Program) (C : Cfg) (run : RunW) : Prop := ∀ f c σ K, run f c σ K → Ev C P f c σ K
def CallWOk (P : Program) (C : Cfg) (call : CallW) : Prop := ∀ g args h K, call g args h K → EvC C P g args h K
theorem forceL_eq {f : AV → (AV → Prop) → Prop} (hf : ∀ a k, f a k = k a) : ∀ (l : List AV) (k : List AV → Prop), forceL f l k = k l := by
 intro l
 induction l with
 | nil => intro k; rfl
 | cons x l ih =>
  intro k
  show (f x fun y => forceL f l fun l => k (y :: l)) = _
  rw [hf, ih]
theorem forceA_eq : ∀ n a k, forceA n a k = k a := by
 intro n
 induction n with
 | zero => intro a k; rfl
 | succ n ih =>
  intro a k
  cases a with
  | sc v =>
   cases v <;> rfl
  | agg cs => exact forceL_eq ih cs fun l => k (.agg l)
  | tup cs => exact forceL_eq ih cs fun l => k (.tup l)
  | _ => rfl
theorem forceO_eq (v : Option Slot) (k : Option Slot → Prop) : forceO v k = k v := by
 cases v with
 | none => rfl
 | some s =>
  cases s with
  | v a => exact forceA_eq 2 a fun a => k (some (.v a))
  | lp i j => rfl
  | unk => rfl
theorem forceT_eq : ∀ (t : Tr Slot) (k : Tr Slot → Prop), forceT t k = k t := by
 intro t
 induction t with
 | leaf => intro k; rfl
 | node l v r ihl ihr =>
  intro k
  show (forceT l fun l => forceT r fun r => forceO v fun v => k (.node l v r)) = _
  rw [ihl, ihr, forceO_eq]
theorem forceC_eq : ∀ (l : List LObj) (k : List LObj → Prop), forceC l k = k l := by
 intro l
 induction l with
 | nil => intro k; rfl
 | cons x l ih =>
  intro k
  cases x with
  | cells cs =>
   show (forceL (forceA 1) cs fun cs => forceC l fun l => k (.cells cs :: l)) = _
   rw [forceL_eq (forceA_eq 1), ih]
  | iter s p => exact ih fun l => k (.iter s p :: l)
theorem forceH_eq : ∀ (t : Tr AObj) (k : Tr AObj → Prop), forceH t k = k t := by
 intro t
 induction t with
 | leaf => intro k; rfl
 | node l v r ihl ihr =>
  intro k
  show (forceH l fun l => forceH r fun r => match v with
   | none => k (.node l none r)
   | some o => match o with
    | .cells cs => forceL (forceA 1) cs fun cs => k (.node l (some (.cells cs)) r)
    | o => k (.node l (some o) r)) = _
  rw [ihl, ihr]
  cases v with
  | none => rfl
  | some o =>
   cases o with
   | cells cs => exact forceL_eq (forceA_eq 1) cs fun cs => k (.node l (some (.cells cs)) r)
   | _ => rfl
theorem forceS_eq (σ : St) (k : St → Prop) : forceS σ k = k σ := by
 obtain ⟨n, tm, d, loc, h⟩ := σ
 obtain ⟨nx, objs, ro, ty⟩ := h
 show (forceT tm fun tm => forceC loc fun loc => forceH objs fun objs => k ⟨n, tm, d, loc, ⟨nx, objs, ro, ty⟩⟩) = _
 rw [forceT_eq, forceC_eq, forceH_eq]
theorem forceZ_eq (b : Bool) (σ : St) (k : St → Prop) : forceZ b σ k = k σ := by
 unfold forceZ
 cases b with
 | false => exact forceS_eq σ k
 | true =>
  obtain ⟨n, tm, d, loc, h⟩ := σ
  show (forceT tm fun tm => forceC loc fun loc => k ⟨n, tm, d, loc, h⟩) = _
  rw [forceT_eq, forceC_eq]
theorem wpCAlts_ok {K : AV → Heap → Prop} : ∀ {l : List CAlt}, wpCAlts l K → ∀ a ∈ l, ∀ x, a.post x → K (a.val x) (a.heap x) := by
 intro l
 induction l with
 | nil => intro _ a ha; cases ha
 | cons s r ih =>
  intro h a ha
  cases r with
  | nil =>
   cases ha with
   | head => exact h
   | tail _ h' => cases h'
  | cons u r =>
   cases ha with
   | head => exact h.1
   | tail _ h' => exact ih h.2 a h'
theorem wpLAlts_ok {K : Ex → St → Prop} : ∀ {l : List LAlt}, wpLAlts l K → ∀ a ∈ l, ∀ x, a.post x → K a.ex (a.st x) := by
 intro l
 induction l with
 | nil => intro _ a ha; cases ha
 | cons s r ih =>
  intro h a ha
  cases r with
  | nil =>
   cases ha with
   | head => exact h
   | tail _ h' => cases h'
  | cons u r =>
   cases ha with
   | head => exact h.1
   | tail _ h' => exact ih h.2 a h'
theorem callB_ok {run : RunW} (H : RunWOk P C run) : CallWOk P C (wpCallB C P run) := by
 intro g args h K hw
 unfold wpCallB at hw
 split at hw
 ·rename_i fn hf
  split at hw
  ·rename_i c hb
   obtain ⟨m, e, τ, h1, h2⟩ := H g c _ _ hw
   split at h2
   ·rename_i v h' he
    refine ⟨m, v, h', ?_, h2⟩
    unfold evCall callWith
    rw [hf]; simp only []; rw [hb]; simp only []
    unfold entry at h1
    rw [h1]; exact he
   ·exact h2.elim
  ·exact hw.elim
 ·exact hw.elim
theorem callP_okW {call : CallW} (O : TabOk P C T) (H : CallWOk P C call) {g : FuncId} {args : List AV} {h : Heap} {K : AV → Heap → Prop} (hw : wpCallP T C call g args h K) : EvP C P g args h K := by
 unfold wpCallP at hw
 split at hw
 ·rename_i t ht
  split at hw
  ·rename_i s hs
   obtain ⟨a, ha, x, m, h1, h2⟩ := O.call g t args h s ht hs hw.1
   exact ⟨m, _, _, h2, wpCAlts_ok hw.2 a ha x h1⟩
  ·exact hw.elim
 ·split at hw
  ·rename_i p hp
   split at hw
   ·rename_i v h' he
    exact ⟨0, v, h', by unfold callP; rw [hp]; exact he, hw⟩
   ·exact hw.elim
  ·rename_i hp
   cases hfr : C.fresh g with
   | true =>
    rw [hfr] at hw
    obtain ⟨args', h1, h2⟩ := wpStrips_ok _ _ hw
    obtain ⟨m, v, h', h3, h4⟩ := H _ _ _ _ h2
    obtain ⟨y, h5, h6⟩ := wpBack_ok h4
    refine ⟨m, y, h, ?_, h6⟩
    unfold callP
    rw [hp]; simp only []; rw [hfr]; simp only [cond_true]; rw [h1]; simp only []; rw [h3]; simp only []; rw [h5]
   | false =>
    rw [hfr] at hw
    simp only [cond_false] at hw
    cases hpu : C.pure g with
    | true =>
     rw [hpu] at hw
     obtain ⟨m, v, h', h3, h4⟩ := H _ _ _ _ hw
     obtain ⟨y, h5, h6⟩ := wpBack_ok h4
     refine ⟨m, y, h, ?_, h6⟩
     unfold callP
     rw [hp]; simp only []; rw [hfr, hpu]; simp only [cond_true, cond_false]; rw [h3]; simp only []; rw [h5]
    | false =>
     rw [hpu] at hw
     obtain ⟨m, v, h', h3, h4⟩ := H _ _ _ _ hw
     refine ⟨m, v, h', ?_, h4⟩
     unfold callP
     rw [hp]; simp only []; rw [hfr, hpu]; exact h3
theorem evP_back {σ : St} {g : FuncId} {args : List AV} {K : KS} (h : EvP C P g args σ.h fun v h => K (.v v) { σ with h := h }) : ∃ m s τ, back σ (callP C (evCall C P m) g args σ.h) = some (s, τ) ∧ K s τ := by
 obtain ⟨m, v, h', h1, h2⟩ := h
 exact ⟨m, _, _, by rw [h1]; rfl, h2⟩
theorem op_okW {call : CallW} (O : TabOk P C T) (H : CallWOk P C call) {f : FuncId} {o : Oper} {σ : St} {K : KS} (hw : wpOp T C P call f o σ K) : ∃ m s τ, evOp C P (evCall C P m) f o σ = some (s, τ) ∧ K s τ := by
 unfold wpOp at hw
 split at hw
 ·rename_i ho; obtain ⟨s, τ, h1, h2⟩ := wpIndex_ok hw; exact ⟨0, s, τ, by unfold evOp; rw [ho]; exact h1, h2⟩
 ·rename_i ho; obtain ⟨s, τ, h1, h2⟩ := wpSlice_ok hw; exact ⟨0, s, τ, by unfold evOp; rw [ho]; exact h1, h2⟩
 ·rename_i ho; obtain ⟨s, τ, h1, h2⟩ := wpIndexAddr_ok hw; exact ⟨0, s, τ, by unfold evOp; rw [ho]; exact h1, h2⟩
 ·rename_i ho; obtain ⟨s, τ, h1, h2⟩ := wpBin_ok hw; exact ⟨0, s, τ, by unfold evOp; rw [ho]; exact h1, h2⟩
 ·rename_i ho; obtain ⟨s, τ, h1, h2⟩ := wpConv_ok hw; exact ⟨0, s, τ, by unfold evOp; rw [ho]; exact h1, h2⟩
 ·rename_i c ho
  unfold wpOpCall at hw
  split at hw
  ·exact hw.elim
  ·rename_i args hargs
   split at hw
   ·rename_i b hb
    obtain ⟨s, τ, h1, h2⟩ := wpBuiltin_ok hw
    exact ⟨0, s, τ, by unfold evOp; rw [ho]; simp only []; unfold opCall; rw [hargs]; simp only []; rw [hb]; exact h1, h2⟩
   ·rename_i x hx
    unfold wpCallV at hw
    split at hw
    ·rename_i g first cap hv
     obtain ⟨m, s, τ, h1, h2⟩ := evP_back (callP_okW O H hw)
     exact ⟨m, s, τ, by unfold evOp; rw [ho]; simp only []; unfold opCall; rw [hargs]; simp only []; rw [hx]; simp only []; unfold callVal; rw [hv]; exact h1, h2⟩
    ·exact hw.elim
   ·rename_i x name hx
    unfold wpCallM at hw
    split at hw
    ·rename_i t v hv
     split at hw
     ·rename_i g r hm
      obtain ⟨m, s, τ, h1, h2⟩ := evP_back (callP_okW O H hw)
      exact ⟨m, s, τ, by unfold evOp; rw [ho]; simp only []; unfold opCall; rw [hargs]; simp only []; rw [hx]; simp only []; unfold callMeth; rw [hv]; simp only []; rw [hm]; exact h1, h2⟩
     ·exact hw.elim
    ·exact hw.elim
 ·obtain ⟨s, τ, h1, h2⟩ := wpRes_ok hw
  exact ⟨0, s, τ, op_le (fun _ _ _ _ h => by cases h) h1, h2⟩
theorem step_okW {call : CallW} (O : TabOk P C T) (H : CallWOk P C call) {f : FuncId} {ops : Array Oper} {o : Oper} {σ : St} {K : St → Prop} (hw : wpStep T C P call f ops o σ K) : ∃ m τ, evStep C P (evCall C P m) f ops o σ = some τ ∧ K τ := by
 unfold wpStep at hw
 split at hw
 ·rename_i q hq
  rcases iteP_elim hw with ⟨h1, h2⟩ | ⟨h1, h2⟩
  ·obtain ⟨m, s, τ, h3, h4⟩ := op_okW O H h2
   obtain ⟨τ', h5, h6⟩ := wpPutN_ok h4
   refine ⟨m, τ', ?_, h6⟩
   unfold evStep
   rw [hq, h1]; simp only []; rw [h3]; exact h5
  ·clear hw
   split at h2
   ·rename_i τ hp
    refine ⟨0, τ, ?_, h2⟩
    unfold evStep
    rw [hq, h1]; exact hp
   ·exact h2.elim
 ·exact hw.elim
theorem ops_okW {call : CallW} (O : TabOk P C T) (H : CallWOk P C call) {f : FuncId} {ops : Array Oper} : ∀ (l : List Oper) (σ : St) (K : St → Prop), wpOpsW T C P call f ops l σ K → ∃ m τ, evOps C P (evCall C P m) f ops l σ = some τ ∧ K τ := by
 intro l
 induction l with
 | nil => intro σ K h; exact ⟨0, σ, rfl, h⟩
 | cons o l ih =>
  intro σ K h
  obtain ⟨m, τ, h1, h2⟩ := step_okW O H (K := fun τ => wpOpsW T C P call f ops l τ K) h
  obtain ⟨m', τ', h3, h4⟩ := ih τ K h2
  refine ⟨max m m', τ', ?_, h4⟩
  rw [evOps_cons, step_le (call_mono (Nat.le_max_left m m')) h1]
  exact ops_le (call_mono (Nat.le_max_right m m')) _ _ _ h3
theorem Ev.region {f : FuncId} {id : Nat} {ops : Array Oper} {draw : Bool} {σ : St} {K : KR} (hd : (draw && C.bad f id) = false) (h : ∃ m τ, evOps C P (evCall C P m) f ops ops.toList σ = some τ ∧ K .normal τ) : Ev C P f (.region id ops draw) σ K := by
 obtain ⟨m, τ, h1, h2⟩ := h
 refine ⟨m + 1, .normal, τ, ?_, h2⟩
 show evReg C P (callWith C P (evCode C P m)) f id ops draw σ = _
 unfold evReg
 rw [hd]; simp only [cond_false]
 show (match evOps C P (evCall C P m) f ops ops.toList σ with | some σ' => some (Ex.normal, σ') | none => none) = _
 rw [h1]
theorem Ev.seq {f : FuncId} {a b : Code} {σ : St} {K : KR} (h : Ev C P f a σ fun e τ => match e with | .normal => Ev C P f b τ K | .exit i => K (.exit i) τ | .ret => K .ret τ) : Ev C P f (.seq a b) σ K := by
 obtain ⟨m, e, τ, h1, h2⟩ := h
 cases e with
 | normal =>
  obtain ⟨m', e', τ', h3, h4⟩ := h2
  refine ⟨max m m' + 1, e', τ', ?_, h4⟩
  show evSeq (evCode C P (max m m') f a σ) (evCode C P (max m m') f b) = _
  rw [code_mono (Nat.le_max_left m m') _ _ _ _ h1]
  exact code_mono (Nat.le_max_right m m') _ _ _ _ h3
 | exit i =>
  refine ⟨m + 1, .exit i, τ, ?_, h2⟩
  show evSeq (evCode C P m f a σ) (evCode C P m f b) = _
  rw [h1]; rfl
 | ret =>
  refine ⟨m + 1, .ret, τ, ?_, h2⟩
  show evSeq (evCode C P m f a σ) (evCode C P m f b) = _
  rw [h1]; rfl
theorem Ev.cond {f : FuncId} {c : Operand} {a b : Code} {σ : St} {K : KR} {t : Bool} (hc : σ.val c = some (.sc (.bool t))) (h : iteP t (Ev C P f a σ K) (Ev C P f b σ K)) : Ev C P f (.cond c a b) σ K := by
 cases t with
 | true =>
  obtain ⟨m, e, τ, h1, h2⟩ := h
  refine ⟨m + 1, e, τ, ?_, h2⟩
  show evCond σ c (evCode C P m f a σ) (evCode C P m f b σ) = _
  unfold evCond; rw [hc]; exact h1
 | false =>
  obtain ⟨m, e, τ, h1, h2⟩ := h
  refine ⟨m + 1, e, τ, ?_, h2⟩
  show evCond σ c (evCode C P m f a σ) (evCode C P m f b σ) = _
  unfold evCond; rw [hc]; exact h1
theorem Ev.block {f : FuncId} {id : Nat} {b : Code} {σ : St} {K : KR} (h : Ev C P f b σ fun e τ => match e with | .normal => K .normal τ | .exit i => bif Nat.beq i id then K .normal τ else K (.exit i) τ | .ret => K .ret τ) : Ev C P f (.block id b) σ K := by
 obtain ⟨m, e, τ, h1, h2⟩ := h
 cases e with
 | normal => exact ⟨m + 1, .normal, τ, by show evBlk id (evCode C P m f b σ) = _; rw [h1]; rfl, h2⟩
 | ret => exact ⟨m + 1, .ret, τ, by show evBlk id (evCode C P m f b σ) = _; rw [h1]; rfl, h2⟩
 | exit i =>
  cases hq : Nat.beq i id with
  | true =>
   simp only [hq, cond_true] at h2
   exact ⟨m + 1, .normal, τ, by show evBlk id (evCode C P m f b σ) = _; rw [h1]; simp only [evBlk, hq, cond_true], h2⟩
  | false =>
   simp only [hq, cond_false] at h2
   exact ⟨m + 1, .exit i, τ, by show evBlk id (evCode C P m f b σ) = _; rw [h1]; simp only [evBlk, hq, cond_false], h2⟩
theorem Ev.loop {f : FuncId} {b : Code} {σ : St} {K : KR} (ht : C.tidy f (firstId 8 b) = none) (h : Ev C P f b σ fun e τ => match e with | .normal => Ev C P f (.loop b) τ K | .exit i => K (.exit i) τ | .ret => K .ret τ) : Ev C P f (.loop b) σ K := by
 obtain ⟨m, e, τ, h1, h2⟩ := h
 have key : ∀ m, evCode C P (m + 1) f (.loop b) σ = evSeq (evCode C P m f b σ) (evCode C P m f (.loop b)) := by
  intro m
  show (match C.tidy f (firstId 8 b) with | none => _ | some t => _) = _
  rw [ht]; rfl
 cases e with
 | normal =>
  obtain ⟨m', e', τ', h3, h4⟩ := h2
  refine ⟨max m m' + 1, e', τ', ?_, h4⟩
  rw [key, code_mono (Nat.le_max_left m m') _ _ _ _ h1]
  exact code_mono (Nat.le_max_right m m') _ _ _ _ h3
 | exit i => exact ⟨m + 1, .exit i, τ, by rw [key, h1]; rfl, h2⟩
 | ret => exact ⟨m + 1, .ret, τ, by rw [key, h1]; rfl, h2⟩
theorem Ev.loopT {f : FuncId} {b : Code} {σ : St} {K : KR} {t : Tidy} (ht : C.tidy f (firstId 8 b) = some t) (h : Ev C P f b (σ.tidy t.head t.nloc) fun e τ => match e with | .normal => Ev C P f (.loop b) τ K | .exit i => K (.exit i) (τ.tidy t.exit t.nloc) | .ret => K .ret (τ.tidy t.exit t.nloc)) : Ev C P f (.loop b) σ K := by
 obtain ⟨m, e, τ, h1, h2⟩ := h
 have key : ∀ m, evCode C P (m + 1) f (.loop b) σ = evLoop t (evCode C P m f b (σ.tidy t.head t.nloc)) (evCode C P m f (.loop b)) := by
  intro m
  show (match C.tidy f (firstId 8 b) with | none => _ | some t => _) = _
  rw [ht]; rfl
 cases e with
 | normal =>
  obtain ⟨m', e', τ', h3, h4⟩ := h2
  refine ⟨max m m' + 1, e', τ', ?_, h4⟩
  rw [key, code_mono (Nat.le_max_left m m') _ _ _ _ h1]
  exact code_mono (Nat.le_max_right m m') _ _ _ _ h3
 | exit i => exact ⟨m + 1, _, _, by rw [key, h1]; rfl, h2⟩
 | ret => exact ⟨m + 1, _, _, by rw [key, h1]; rfl, h2⟩
theorem Ev.mono {f : FuncId} {c : Code} {σ : St} {K K' : KR} (h : Ev C P f c σ K) (hk : ∀ e τ, K e τ → K' e τ) : Ev C P f c σ K' := by
 obtain ⟨m, e, τ, h1, h2⟩ := h
 exact ⟨m, e, τ, h1, hk e τ h2⟩
theorem code1_okW {run : RunW} (O : TabOk P C T) (H : RunWOk P C run) : RunWOk P C (wpCode1 T C P run) := by
 intro f c σ K hw
 cases c with
 | skip => exact ⟨1, _, _, rfl, hw⟩
 | region id ops draw =>
  replace hw : bif draw && C.bad f id then False else wpOpsW T C P (wpCallB C P run) f ops ops.toList σ fun τ => forceZ (T.lazy f) τ fun τ => K .normal τ := hw
  simp only [forceZ_eq] at hw
  cases hd : draw && C.bad f id with
  | true => rw [hd] at hw; exact hw.elim
  | false => rw [hd] at hw; exact Ev.region hd (ops_okW O (callB_ok H) _ _ _ hw)
 | seq a b =>
  refine Ev.seq ((H f a σ _ hw).mono fun e τ h => ?_)
  cases e with
  | normal => exact H f b τ K h
  | exit i => exact h
  | ret => exact h
 | cond k a b =>
  simp only [wpCode1] at hw
  split at hw
  ·rename_i t ht
   refine Ev.cond ht ?_
   cases t with
   | true => exact H f a σ K hw
   | false => exact H f b σ K hw
  ·exact hw.elim
 | block id b => exact Ev.block (H f b σ _ hw)
 | loop b =>
  simp only [wpCode1] at hw
  split at hw
  ·rename_i t ht
   split at hw
   ·rename_i s hs
    obtain ⟨h1, h2, h3⟩ := hw
    obtain ⟨a, ha, x, m, h4, h5⟩ := O.loop _ _ _ _ _ ht hs h2
    rw [h1] at h5
    exact ⟨m, _, _, h5, wpLAlts_ok h3 a ha x h4⟩
   ·exact hw.elim
  ·split at hw
   ·rename_i ht
    refine Ev.loop ht ((H f b σ _ hw).mono fun e τ h => ?_)
    cases e with
    | normal => exact H f (.loop b) τ K h
    | exit i => exact h
    | ret => exact h
   ·rename_i t ht
    refine Ev.loopT ht ((H f b _ _ hw).mono fun e τ h => ?_)
    cases e with
    | normal => exact H f (.loop b) τ K h
    | exit i => exact h
    | ret => exact h
 | exit id => exact ⟨1, _, _, rfl, hw⟩
 | ret => exact ⟨1, _, _, rfl, hw⟩
 | scope b =>
  obtain ⟨m, e, τ, h1, h2⟩ := H f b σ K hw
  exact ⟨m + 1, e, τ, h1, h2⟩
 | label l => exact ⟨1, _, _, rfl, hw⟩
 | _ => exact hw.elim
theorem code_okW (O : TabOk P C T) : ∀ n, RunWOk P C (wpCode T C P n) := by
 intro n
 induction n with
 | zero => intro f c σ K h; exact h.elim
 | succ n ih => exact code1_okW O ih
theorem call_okW (O : TabOk P C T) (n : Nat) : CallWOk P C (wpCall T C P n) := callB_ok (code_okW O n)
end
end
end Go.Ef
namespace Go.Ef
open Go
noncomputable section
def sStr (l : List UInt8) : Slot := .v (.sc (.string ⟨⟨l⟩⟩))
def sInt (n : Int) : Slot := .v (.sc (.int .i64 n))
def sK (k : IntKind) (n : Int) : Slot := .v (.sc (.int k n))
def sBool (b : Bool) : Slot := .v (.sc (.bool b))
def aStr (l : List UInt8) : AV := .sc (.string ⟨⟨l⟩⟩)
def aK (k : IntKind) (n : Int) : AV := .sc (.int k n)
def aBool (b : Bool) : AV := .sc (.bool b)
def stOf (n : Nat) (l : List (Nat × Slot)) (loc : List LObj) (h : Heap) : St :=
 { n := n, tm := List.rec (motive := fun _ => Tr Slot) .leaf (fun p _ ih => ih.set p.1 p.2) l, d := .unk, loc := loc, h := h }
def slI (σ : St) (t : Nat) : Int :=
 match σ.at t with
 | .v (.sc (.int _ n)) => n
 | _ => 0
def slS (σ : St) (t : Nat) : List UInt8 :=
 match σ.at t with
 | .v (.sc (.string s)) => s.data.toList
 | _ => []
def slB (σ : St) (t : Nat) : Bool :=
 match σ.at t with
 | .v (.sc (.bool b)) => b
 | _ => false
def lcI (σ : St) (k j : Nat) : Int :=
 match getI k σ.loc with
 | some (.cells cs) => match getI j cs with
  | some (.sc (.int _ n)) => n
  | _ => 0
 | _ => 0
def lcB (σ : St) (k j : Nat) : Bool :=
 match getI k σ.loc with
 | some (.cells cs) => match getI j cs with
  | some (.sc (.bool n)) => n
  | _ => false
 | _ => false
def wpRound (T : Tab) (C : Cfg) (P : Program) (n : Nat) (f i : Nat) (σ : St) (N : St → Prop) (X : Ex → St → Prop) : Prop :=
 match C.tidy f i with
 | some t => wpCode T C P n f (loopAt P f i) σ fun e τ => match e with
  | .normal => N (τ.tidy t.head t.nloc)
  | .exit j => X (.exit j) (τ.tidy t.exit t.nloc)
  | .ret => X .ret (τ.tidy t.exit t.nloc)
 | none => False
theorem keep_keep (m : Nat) (s : Slot) : (s.keep m).keep m = s.keep m := by
 cases s with
 | lp k off =>
  simp only [Slot.keep]
  cases h : Nat.blt k m with
  | true => simp only [cond_true, h]
  | false => rfl
 | v a => rfl
 | unk => rfl
theorem keepTm_congr {σ τ : St} {m : Nat} : ∀ {l : List Nat}, (∀ t ∈ l, (σ.at t).keep m = (τ.at t).keep m) → keepTm σ m l = keepTm τ m l := by
 intro l
 induction l with
 | nil => intro _; rfl
 | cons x l ih =>
  intro h
  show (keepTm σ m l).set x ((σ.at x).keep m) = (keepTm τ m l).set x ((τ.at x).keep m)
  rw [ih fun t ht => h t (by simp [ht]), h x (by simp)]
theorem tidy_at (σ : St) (l : List Nat) (m t : Nat) (h : t ∈ l) : (σ.tidy l m).at t = (σ.at t).keep m := by
 show (match (keepTm σ m l).get t with | some s => s | none => Slot.unk) = _
 rw [keepTm_get, if_pos h]
theorem tidy_tidy (σ : St) (l : List Nat) (m : Nat) : (σ.tidy l m).tidy l m = σ.tidy l m := by
 have h1 : keepTm (σ.tidy l m) m l = keepTm σ m l := keepTm_congr fun t ht => by rw [tidy_at σ l m t ht, keep_keep]
 have h2 : (σ.loc.take m).take m = σ.loc.take m := by rw [List.take_take, Nat.min_self]
 show ({ n := σ.n, tm := keepTm (σ.tidy l m) m l, d := .unk, loc := (σ.loc.take m).take m, h := σ.h } : St) = _
 rw [h1, h2]
 rfl
section
variable {P : Program} {C : Cfg} {T : Tab}
theorem Ev.tidied {f : FuncId} {b : Code} {σ τ : St} {K : KR} {t : Tidy} (ht : C.tidy f (firstId 8 b) = some t) (hs : σ.tidy t.head t.nloc = τ.tidy t.head t.nloc) (h : Ev C P f (.loop b) τ K) : Ev C P f (.loop b) σ K := by
 obtain ⟨m, e, τ', h1, h2⟩ := h
 cases m with
 | zero => cases h1
 | succ m =>
  have key : ∀ σ, evCode C P (m + 1) f (.loop b) σ = evLoop t (evCode C P m f b (σ.tidy t.head t.nloc)) (evCode C P m f (.loop b)) := by
   intro σ
   show (match C.tidy f (firstId 8 b) with | none => _ | some t => _) = _
   rw [ht]; rfl
  refine ⟨m + 1, e, τ', ?_, h2⟩
  rw [key, hs, ← key]
  exact h1
theorem loop_rd (O : TabOk P C T) {α : Type} {f i n : Nat} (I : α → St) (rd : St → α) (Inv : α → Prop) (mea : α → Nat) {K : KR} (hi : firstId 8 (loopAt P f i) = i)
  (hcan : ∀ x, ∀ t, C.tidy f i = some t → (I x).tidy t.head t.nloc = I x)
  (step : ∀ x, Inv x → wpRound T C P n f i (I x) (fun τ => τ = I (rd τ) ∧ Inv (rd τ) ∧ mea (rd τ) < mea x) K) :
  ∀ x, Inv x → Ev C P f (.loop (loopAt P f i)) (I x) K := by
 have main : ∀ N x, mea x < N → Inv x → Ev C P f (.loop (loopAt P f i)) (I x) K := by
  intro N
  induction N with
  | zero => intro x h; omega
  | succ N ih =>
   intro x hx hv
   have hs := step x hv
   unfold wpRound at hs
   split at hs
   ·rename_i t ht
    refine Ev.loopT (t := t) (by rw [hi]; exact ht) ?_
    rw [hcan x t ht]
    refine (code_okW O n f _ _ _ hs).mono fun e τ h => ?_
    cases e with
    | normal =>
     obtain ⟨h1, h2, h3⟩ := h
     refine Ev.tidied (t := t) (τ := I (rd (τ.tidy t.head t.nloc))) (by rw [hi]; exact ht) ?_ (ih _ (by omega) h2)
     rw [← h1, tidy_tidy]
    | exit j => exact h
    | ret => exact h
   ·exact hs.elim
 intro x h
 exact main (mea x + 1) x (by omega) h
end
end
end Go.Ef
namespace Go.Ef
open Go
theorem iteP_F {q : Bool} {A : Prop} : iteP q A False = (q = true ∧ A) := by
 cases q
 ·exact propext ⟨fun h => h.elim, fun h => by cases h.1⟩
 ·exact propext ⟨fun h => ⟨rfl, h⟩, fun h => h.2⟩
theorem iteP_iff {q : Bool} {A B : Prop} : iteP q A B = ((q = true → A) ∧ (q = false → B)) := by
 cases q
 ·exact propext ⟨fun h => ⟨(fun e => by cases e), fun _ => h⟩, fun h => h.2 rfl⟩
 ·exact propext ⟨fun h => ⟨fun _ => h, (fun e => by cases e)⟩, fun h => h.1 rfl⟩
theorem iteP_t {A B : Prop} : iteP true A B = A := rfl
theorem iteP_f {A B : Prop} : iteP false A B = B := rfl
theorem inRange_iff {n : Int} {m : Nat} : (inRange n m = true) = (0 ≤ n ∧ n < (m : Int)) := by
 simp [inRange]
theorem wrap64 (x : Int) : IntKind.i64.wrap x = (x + 9223372036854775808) % 18446744073709551616 - 9223372036854775808 := by
 have e : IntKind.i64.bits = 64 := rfl
 have g : IntKind.i64.signed = true := rfl
 have e1 : (2 : Int) ^ 64 = 18446744073709551616 := by decide
 have e2 : (2 : Int) ^ (64 - 1) = 9223372036854775808 := by decide
 simp only [IntKind.wrap, e, g, e1, e2, Bool.true_and, decide_eq_true_eq]
 by_cases h : x % 18446744073709551616 ≥ 9223372036854775808
 ·rw [if_pos h]; omega
 ·rw [if_neg h]; omega
theorem wrap_in {x : Int} (h1 : -9223372036854775808 ≤ x) (h2 : x ≤ 9223372036854775807) : IntKind.i64.wrap x = x := by rw [wrap64]; omega
theorem wrap8 (x : Int) : IntKind.u8.wrap x = x % 256 := by
 have e : IntKind.u8.bits = 8 := rfl
 have g : IntKind.u8.signed = false := rfl
 have e1 : (2 : Int) ^ 8 = 256 := by decide
 simp only [IntKind.wrap, e, g, e1, Bool.false_and, Bool.false_eq_true, if_false]
theorem wrap8_in {x : Int} (h1 : 0 ≤ x) (h2 : x ≤ 255) : IntKind.u8.wrap x = x := by rw [wrap8]; omega
theorem wrap32 (x : Int) : IntKind.i32.wrap x = (x + 2147483648) % 4294967296 - 2147483648 := by
 have e : IntKind.i32.bits = 32 := rfl
 have g : IntKind.i32.signed = true := rfl
 have e1 : (2 : Int) ^ 32 = 4294967296 := by decide
 have e2 : (2 : Int) ^ (32 - 1) = 2147483648 := by decide
 simp only [IntKind.wrap, e, g, e1, e2, Bool.true_and, decide_eq_true_eq]
 by_cases h : x % 4294967296 ≥ 2147483648
 ·rw [if_pos h]; omega
 ·rw [if_neg h]; omega
theorem wrapU64 (x : Int) : IntKind.u64.wrap x = x % 18446744073709551616 := by
 have e : IntKind.u64.bits = 64 := rfl
 have g : IntKind.u64.signed = false := rfl
 have e1 : (2 : Int) ^ 64 = 18446744073709551616 := by decide
 simp only [IntKind.wrap, e, g, e1, Bool.false_and, Bool.false_eq_true, if_false]
theorem byteAt_le (l : List UInt8) (k : Int) : 0 ≤ byteAt l k ∧ byteAt l k ≤ 255 := by
 unfold byteAt
 have := ((l[k.toNat]?).getD 0).toNat_lt
 omega
theorem byteAt_drop {l r : List UInt8} {k : Int} {c : UInt8} (h : l.drop k.toNat = c :: r) : byteAt l k = c.toNat ∧ k.toNat < l.length ∧ l.drop (k.toNat + 1) = r := by
 have h1 : k.toNat < l.length := by
  rcases Nat.lt_or_ge k.toNat l.length with h' | h'
  ·exact h'
  ·rw [List.drop_eq_nil_of_le h'] at h; cases h
 have h2 := List.drop_eq_getElem_cons h1
 rw [h2] at h
 cases h
 refine ⟨?_, h1, rfl⟩
 unfold byteAt
 rw [List.getElem?_eq_getElem h1]; rfl
theorem drop_end {l : List UInt8} {k : Int} (h : l.drop k.toNat = []) : l.length ≤ k.toNat := by
 have := congrArg List.length h
 simp at this
 omega
theorem toNat_succ {k : Int} (h : 0 ≤ k) : (k + 1).toNat = k.toNat + 1 := by omega
theorem u8_eq {a b : UInt8} : (a = b) = ((a.toNat : Int) = b.toNat) := by
 apply propext
 constructor
 ·intro h; rw [h]
 ·intro h; exact UInt8.toNat_inj.1 (by omega)
end Go.Ef
namespace Go.Ef
open Go
noncomputable section
def tab0 : Tab := { call := fun _ => none, loop := fun _ _ => none, exact := fun _ _ => false, named := fun _ _ => false }
def Tab.addC (T : Tab) (g : FuncId) (t : List AV → Heap → Option CSpec) : Tab := { T with call := fun x => bif Nat.beq x g then some t else T.call x }
def Tab.addL (T : Tab) (f i : Nat) (t : St → Option LSpec) : Tab := { T with loop := fun x y => bif Nat.beq x f && Nat.beq y i then some t else T.loop x y }
def Tab.name (T : Tab) (f t : Nat) : Tab := { T with named := fun x y => bif Nat.beq x f && Nat.beq y t then true else T.named x y }
def Tab.idle (T : Tab) (f : Nat) : Tab := { T with lazy := fun x => bif Nat.beq x f then true else T.lazy x }
def fspec (pre : Prop) (v : AV) (h : Heap) : CSpec := { pre := pre, alts := [{ α := Unit, post := fun _ => True, val := fun _ => v, heap := fun _ => h }] }
def nspec {α : Type} (pre : Prop) (r : α) (val : α → AV) (h : Heap) : CSpec := { pre := pre, alts := [{ α := α, post := fun x => x = r, val := val, heap := fun _ => h }] }
def lspec (pre : Prop) (α : Type) (post : α → Prop) (ex : Ex) (st : α → St) : LSpec := { pre := pre, alts := [{ α := α, post := post, ex := ex, st := st }] }
section
variable {P : Program} {C : Cfg} {T : Tab}
theorem tab0_ok : TabOk P C tab0 := ⟨fun _ _ _ _ _ ht => (by cases ht), fun _ _ _ _ _ ht => (by cases ht)⟩
theorem addC_ok (O : TabOk P C T) {g : FuncId} {t : List AV → Heap → Option CSpec} (H : ∀ args h s, t args h = some s → s.pre → ∃ a ∈ s.alts, ∃ x m, a.post x ∧ callP C (evCall C P m) g args h = some (a.val x, a.heap x)) : TabOk P C (T.addC g t) := by
 refine ⟨fun x t' args h s ht hs hp => ?_, fun f i t' σ s ht => O.loop f i t' σ s ht⟩
 replace ht : (bif Nat.beq x g then some t else T.call x) = some t' := ht
 cases hq : Nat.beq x g with
 | true =>
  rw [hq] at ht
  cases ht
  rw [Nat.eq_of_beq_eq_true hq]
  exact H args h s hs hp
 | false =>
  rw [hq] at ht
  exact O.call x t' args h s ht hs hp
theorem addL_ok (O : TabOk P C T) {f i : Nat} {t : St → Option LSpec} (H : ∀ σ s, t σ = some s → s.pre → ∃ a ∈ s.alts, ∃ x, a.post x ∧ ∃ m, evCode C P m f (.loop (loopAt P f i)) σ = some (a.ex, a.st x)) : TabOk P C (T.addL f i t) := by
 refine ⟨fun g t' args h s ht => O.call g t' args h s ht, fun x y t' σ s ht hs hp => ?_⟩
 replace ht : (bif Nat.beq x f && Nat.beq y i then some t else T.loop x y) = some t' := ht
 cases hq : Nat.beq x f && Nat.beq y i with
 | true =>
  rw [hq] at ht
  simp only [Bool.and_eq_true] at hq
  cases ht
  rw [Nat.eq_of_beq_eq_true hq.1, Nat.eq_of_beq_eq_true hq.2]
  obtain ⟨a, ha, x, h1, m, h2⟩ := H σ s hs hp
  exact ⟨a, ha, x, m, h1, h2⟩
 | false =>
  rw [hq] at ht
  exact O.loop x y t' σ s ht hs hp
theorem name_ok (O : TabOk P C T) (f t : Nat) : TabOk P C (T.name f t) := ⟨O.call, O.loop⟩
theorem idle_ok (O : TabOk P C T) (f : Nat) : TabOk P C (T.idle f) := ⟨O.call, O.loop⟩
theorem nspec_ok {g : FuncId} {args : List AV} {h : Heap} {α : Type} {pre : Prop} {r : α} {val : α → AV} {s : CSpec} (hs : nspec pre r val h = s) (H : pre → EvP C P g args h fun v h' => v = val r ∧ h' = h) (hp : s.pre) :
  ∃ a ∈ s.alts, ∃ x m, a.post x ∧ callP C (evCall C P m) g args h = some (a.val x, a.heap x) := by
 subst hs
 obtain ⟨m, v, h', h1, rfl, rfl⟩ := H hp
 exact ⟨_, List.mem_singleton.2 rfl, r, m, rfl, h1⟩
theorem lspec_ok {f : FuncId} {b : Code} {σ : St} {α : Type} {pre : Prop} {post : α → Prop} {ex : Ex} {st : α → St} {s : LSpec} (hs : lspec pre α post ex st = s) (H : pre → Ev C P f (.loop b) σ fun e τ => ∃ x, post x ∧ e = ex ∧ τ = st x) (hp : s.pre) :
  ∃ a ∈ s.alts, ∃ x, a.post x ∧ ∃ m, evCode C P m f (.loop b) σ = some (a.ex, a.st x) := by
 subst hs
 obtain ⟨m, e, τ, h1, x, h2, rfl, rfl⟩ := H hp
 exact ⟨_, List.mem_singleton.2 rfl, x, h2, m, h1⟩
theorem wpStrip_mono : ∀ n v {k k' : AV → Prop}, wpStrip n v k → (∀ y, k y → k' y) → wpStrip n v k' := by
 intro n
 induction n with
 | zero =>
  intro v k k' h hk
  cases v with
  | sc v => exact hk _ h
  | sl els tok =>
   cases tok with
   | zero => exact hk _ h
   | succ t => exact h.elim
  | _ => exact h.elim
 | succ n ih =>
  have lists : ∀ (cs : List AV) {k k' : List AV → Prop}, List.rec (motive := fun _ => (List AV → Prop) → Prop) (fun k => k []) (fun x _ ihl k => wpStrip n x fun y => ihl fun l => k (y :: l)) cs k → (∀ y, k y → k' y) →
    List.rec (motive := fun _ => (List AV → Prop) → Prop) (fun k => k []) (fun x _ ihl k => wpStrip n x fun y => ihl fun l => k (y :: l)) cs k' := by
   intro cs
   induction cs with
   | nil => intro k k' h hk; exact hk _ h
   | cons x cs ihc => intro k k' h hk; exact ih x h fun y hy => ihc hy fun l hl => hk _ hl
  intro v k k' h hk
  cases v with
  | sc v => exact hk _ h
  | sl els tok =>
   cases tok with
   | zero => exact hk _ h
   | succ t =>
    obtain ⟨h1, h2⟩ := iteP_false (show iteP (plainEls els) (k (.sl els 0)) False from h)
    show iteP (plainEls els) (k' (.sl els 0)) False
    rw [h1]; exact hk _ h2
  | agg cs => exact lists cs h fun l hl => hk _ hl
  | tup cs => exact lists cs h fun l hl => hk _ hl
  | ifc t u => exact ih u h fun y hy => hk _ hy
  | fn f a b => exact lists a h fun l hl => lists b hl fun m hm => hk _ hm
  | _ => exact h.elim
theorem wpBack_mono {h : Heap} {r : AV} {k k' : AV → Prop} (H : wpBack h r k) (hk : ∀ y, k y → k' y) : wpBack h r k' := by
 cases r with
 | rsl id off len m =>
  replace H : (match strip 8 h (.rsl id off len m) with | some y => k y | none => False) := H
  show (match strip 8 h (.rsl id off len m) with | some y => k' y | none => False)
  split at H
  ·exact hk _ H
  ·exact H.elim
 | sl els tok => exact wpStrip_mono 8 (.sl els tok) H hk
 | sc v => exact wpStrip_mono 8 (.sc v) H hk
 | agg v => exact wpStrip_mono 8 (.agg v) H hk
 | tup v => exact wpStrip_mono 8 (.tup v) H hk
 | fn f a b => exact wpStrip_mono 8 (.fn f a b) H hk
 | ifc t v => exact wpStrip_mono 8 (.ifc t v) H hk
 | cp v => exact wpStrip_mono 8 (.cp v) H hk
 | gp g o => exact wpStrip_mono 8 (.gp g o) H hk
 | ptr g o => exact wpStrip_mono 8 (.ptr g o) H hk
 | mp g => exact wpStrip_mono 8 (.mp g) H hk
theorem EvP.fresh {g : FuncId} {args args' : List AV} {h : Heap} {K : AV → Heap → Prop} (hf : C.fresh g = true) (hp : C.prim g = none) (ha : mapO (stripA 8) args = some args')
  (H : EvC C P g args' heapF fun r h' => wpBack h' r fun y => K y h) : EvP C P g args h K := by
 obtain ⟨m, r, h', h1, h2⟩ := H
 obtain ⟨y, h3, h4⟩ := wpBack_ok h2
 refine ⟨m, y, h, ?_, h4⟩
 unfold callP
 rw [hp]; simp only []; rw [hf]; simp only [cond_true]; rw [ha]; simp only []; rw [h1]; simp only []; rw [h3]
theorem EvP.freshV (O : TabOk P C T) {n g : Nat} {args args' : List AV} {h : Heap} {v : AV} (hf : C.fresh g = true) (hp : C.prim g = none) (ha : mapO (stripA 8) args = some args')
  (H : wpCall T C P n g args' heapF fun r h' => wpBack h' r fun y => y = v) : EvP C P g args h fun y h' => y = v ∧ h' = h := by
 refine EvP.fresh hf hp ha ?_
 obtain ⟨m, r, h', h1, h2⟩ := call_okW O n g args' heapF _ H
 obtain ⟨y, h3, h4⟩ := wpBack_ok h2
 subst h4
 refine ⟨m, r, h', h1, ?_⟩
 have key : ∀ {k : AV → Prop}, wpBack h' r (fun y' => y' = y) → k y → wpBack h' r k := by
  intro k hb hk
  exact wpBack_mono hb fun z hz => hz ▸ hk
 exact key h2 ⟨rfl, rfl⟩
end
end
end Go.Ef
namespace Go.Proofs.Pr
open Go Go.Ef
noncomputable section
structure Dir where
 minus : Bool
 zero : Bool
 plus : Bool
 space : Bool
 width : Int
 prec : Int
 kind : Int
def Dir.none : Dir := ⟨false, false, false, false, 0, 0, 0⟩
def Dir.cells (d : Dir) : List AV := [aBool d.minus, aBool d.zero, aBool d.plus, aBool d.space, aK .i64 d.width, aK .i64 d.prec, aK .u8 d.kind]
def numL : List UInt8 → Int → Int × List UInt8
 | [], n => (n, [])
 | c :: r, n => if 48 ≤ (c.toNat : Int) ∧ (c.toNat : Int) ≤ 57 then numL r (min (10 * max n 0 + (c.toNat - 48)) 256) else (n, c :: r)
def numF : List UInt8 → Int × List UInt8
 | [] => (-1, [])
 | c :: r => if c = 42 then (-2, r) else numL (c :: r) (-1)
def setFlag (d : Dir) (c : UInt8) : Dir :=
 if c = 45 then { d with minus := true } else if c = 48 then { d with zero := true } else if c = 43 then { d with plus := true } else { d with space := true }
def isFlag (c : UInt8) : Bool := c == 45 || c == 48 || c == 43 || c == 32
def flagsF : List UInt8 → Dir → Dir × List UInt8
 | [], d => (d, [])
 | c :: r, d => if isFlag c then flagsF r (setFlag d c) else (d, c :: r)
def kinds : List UInt8 := [100, 105, 111, 120, 88, 117, 99, 115, 102, 37]
def precF : List UInt8 → Int × List UInt8
 | [] => (-1, [])
 | c :: r => if c = 46 then ((if (numF r).1 = -1 then 0 else (numF r).1), (numF r).2) else (-1, c :: r)
def endF (d : Dir) (w : Int) (p : Int) : List UInt8 → Dir × List UInt8 × Int
 | [] => (Dir.none, [], 1)
 | c :: r => if kinds.contains c then (if w > 255 ∨ p > 255 then (Dir.none, [], 2) else ({ d with width := w, prec := p, kind := c.toNat }, r, 0)) else (Dir.none, [], 1)
def readF (s : List UInt8) : Dir × List UInt8 × Int :=
 endF (flagsF s { Dir.none with prec := -1 }).1 (numF (flagsF s { Dir.none with prec := -1 }).2).1 (precF (numF (flagsF s { Dir.none with prec := -1 }).2).2).1 (precF (numF (flagsF s { Dir.none with prec := -1 }).2).2).2
def before (s : List UInt8) : List UInt8 := s.takeWhile (· != 37)
def after (s : List UInt8) : List UInt8 := (s.dropWhile (· != 37)).drop 1
def hasPct (s : List UInt8) : Bool := s.contains 37
def checkF : Nat → List UInt8 → Int
 | 0, _ => 0
 | n + 1, s => if hasPct s then (if (readF (after s)).2.2 = 0 then checkF n (readF (after s)).2.1 else (readF (after s)).2.2) else 0
def I47 (s : List UInt8) (n k : Int) : St := stOf 42 [(0, sStr s), (4, sInt n), (5, sInt k)] [] heapF
def I32 (s : List UInt8) (d : Dir) : St := stOf 69 [(0, sStr s), (2, .lp 0 0), (5, .lp 1 0)] [.cells Dir.none.cells, .cells d.cells] heapF
def rdDir (σ : St) (k : Nat) : Dir := ⟨lcB σ k 0, lcB σ k 1, lcB σ k 2, lcB σ k 3, lcI σ k 4, lcI σ k 5, lcI σ k 6⟩
def I18 (s : List UInt8) : St := stOf 41 [(0, sStr s), (1, .v (.fn (.func 23) [] []))] [] heapF
def J18 (e : Int) : St := stOf 41 [(4, sInt e)] [] heapF
def L47 (σ : St) : Option LSpec := some (lspec (σ.tidy [0, 4, 5] 0 = I47 (slS σ 0) (slI σ 4) (slI σ 5) ∧ 0 ≤ slI σ 5 ∧ -1 ≤ slI σ 4 ∧ slI σ 4 ≤ 256 ∧ slI σ 5 ≤ ((slS σ 0).length : Int) ∧ (slS σ 0).length ≤ 1000000)
 (Int × Int) (fun x => 0 ≤ x.2 ∧ x.2 ≤ ((slS σ 0).length : Int) ∧ numL ((slS σ 0).drop (slI σ 5).toNat) (slI σ 4) = (x.1, (slS σ 0).drop x.2.toNat)) (.exit 0) (fun x => I47 (slS σ 0) x.1 x.2))
def C47 (args : List AV) (h : Heap) : Option CSpec :=
 match args with
 | [.sc (.string s)] => some (nspec (s.data.toList.length ≤ 1000000) (numF s.data.toList) (fun x => .tup [aK .i64 x.1, aStr x.2]) h)
 | _ => none
def C31 (args : List AV) (h : Heap) : Option CSpec :=
 match args with
 | [.sc (.string s), .sc (.string c)] => some (nspec (s.data.toList.length ≤ 1000000 ∧ c.data.toList = [37]) (before s.data.toList, after s.data.toList, hasPct s.data.toList) (fun x => .tup [aStr x.1, aStr x.2.1, aBool x.2.2]) h)
 | _ => none
def C43 (args : List AV) (h : Heap) : Option CSpec :=
 match args with
 | [.sc (.string s), .sc (.int .i32 r)] => some (nspec (s.data.toList = kinds ∧ 0 ≤ r ∧ r ≤ 255) (kinds.contains (UInt8.ofNat r.toNat)) (fun x => aBool x) h)
 | _ => none
def C48 (args : List AV) (h : Heap) : Option CSpec :=
 match args with
 | [.sc (.string s), .sc (.string p)] => some (nspec (s.data.toList.length ≤ 1000000) (p.data.toList.isPrefixOf s.data.toList) (fun x => aBool x) h)
 | _ => none
def L32 (σ : St) : Option LSpec := some (lspec (σ.tidy [0, 2, 5] 2 = I32 (slS σ 0) (rdDir σ 1) ∧ (slS σ 0).length ≤ 1000000)
 (Dir × List UInt8) (fun x => x = flagsF (slS σ 0) (rdDir σ 1)) (.exit 0) (fun x => I32 x.2 x.1))
def C32 (args : List AV) (h : Heap) : Option CSpec :=
 match args with
 | [.sc (.string s)] => some (nspec (s.data.toList.length ≤ 1000000) (readF s.data.toList) (fun x => .tup [.agg x.1.cells, aStr x.2.1, aK .i64 x.2.2]) h)
 | _ => none
def L18 (σ : St) : Option LSpec := some (lspec (σ.tidy [0, 1] 0 = I18 (slS σ 0) ∧ (slS σ 0).length ≤ 1000000)
 Int (fun x => x = checkF ((slS σ 0).length + 1) (slS σ 0)) .ret (fun x => J18 x))
def C8 (args : List AV) (h : Heap) : Option CSpec :=
 match args with
 | [.sc (.string s)] => some (nspec (s.data.toList.length ≤ 1000000) (checkF (s.data.toList.length + 1) s.data.toList) (fun x => aK .i64 x) h)
 | _ => none
def T1 : Tab := tab0.addL 47 5 L47
def T2 : Tab := (((T1.addC 48 C48).addC 47 C47).addC 34 C43).addL 25 3 L32
def T3 : Tab := (T2.addC 25 C32).addC 24 C31
def T4 : Tab := T3.addL 10 2 L18
def numR (l : Int) : List UInt8 → Int × List UInt8
 | [] => (-1, [])
 | c :: r => if c = 42 then (-2, r) else if (c.toNat : Int) < l then (-1, c :: r) else numL (c :: r) (-1)
def precR : List UInt8 → Int × List UInt8
 | [] => (-1, [])
 | c :: r => if c = 46 then ((if (numR 48 r).1 = -1 then 0 else (numR 48 r).1), (numR 48 r).2) else (-1, c :: r)
def readR (s : List UInt8) : Dir × List UInt8 × Int :=
 endF (flagsF s { Dir.none with prec := -1 }).1 (numR 49 (flagsF s { Dir.none with prec := -1 }).2).1 (precR (numR 49 (flagsF s { Dir.none with prec := -1 }).2).2).1 (precR (numR 49 (flagsF s { Dir.none with prec := -1 }).2).2).2
def checkR : Nat → List UInt8 → Int
 | 0, _ => 0
 | _ + 1, [] => 0
 | n + 1, c :: r => if c = 37 then (if (readR r).2.2 = 0 then checkR n (readR r).2.1 else (readR r).2.2) else checkR n r
def I34 (s : List UInt8) (a l n k : Int) : St := stOf 65 [(0, sStr s), (1, sInt a), (2, sK .u8 l), (8, sInt n), (9, sInt k)] [] heapF
def J34 (n k : Int) : St := stOf 65 [(8, sInt n), (9, sInt k)] [] heapF
def I33 (s : List UInt8) (c k : Int) : St := stOf 17 [(0, sStr s), (1, sK .u8 c), (5, sInt k)] [] heapF
def J33 (b : Bool) : St := stOf 17 [(4, sBool b)] [] heapF
def I20 (s : List UInt8) (a : Int) (d : Dir) : St := stOf 96 [(0, sStr s), (1, sInt a), (4, .lp 0 0), (7, .lp 1 0)] [.cells Dir.none.cells, .cells d.cells] heapF
def I9 (s : List UInt8) (k : Int) : St := stOf 29 [(0, sStr s), (3, sInt k)] [] heapF
def J9 (e : Int) : St := stOf 29 [(2, sInt e)] [] heapF
end
end Go.Proofs.Pr
namespace Go.Proofs.Pr
open Go Go.Ef
noncomputable section
set_option maxRecDepth 100000
theorem v47 (s : List UInt8) (n : Int) (k : Int) (N : Int → Int → Prop) (X : Ex → Int → Int → Prop) (h :
 iteP (decide (k < (↑s.length : Int))) (iteP (inRange k s.length) (iteP (decide (48 ≤ byteAt s k)) (iteP (inRange k s.length) (iteP (decide (byteAt s k ≤ 57)) (iteP (inRange k s.length) (I47 s (min (IntKind.i64.wrap (IntKind.i64.wrap (10 * max n 0) + IntKind.i64.wrap (IntKind.u8.wrap (byteAt s k - 48)))) 256) (IntKind.i64.wrap (k + 1)) = I47 s (min (IntKind.i64.wrap
 (IntKind.i64.wrap (10 * max n 0) + IntKind.i64.wrap (IntKind.u8.wrap (byteAt s k - 48)))) 256) (IntKind.i64.wrap (k + 1)) ∧ N (min (IntKind.i64.wrap (IntKind.i64.wrap (10 * max n 0) + IntKind.i64.wrap (IntKind.u8.wrap (byteAt s k - 48)))) 256) (IntKind.i64.wrap (k + 1))) False) (I47 s n k = I47 s n k ∧ X (Ex.exit 0) n k)) False) (I47 s n k = I47 s n k ∧ X (Ex.exit 0) n k)) False)
 (I47 s n k = I47 s n k ∧ X (Ex.exit 0) n k)) :
 (fun (s : List UInt8) (n k : Int) (N : Int → Int → Prop) (X : Ex → Int → Int → Prop) => wpRound tab0 Door.cfg Tryz.prog 40 47 5 (I47 s n k) (fun τ => τ = I47 s (slI τ 4) (slI τ 5) ∧ N (slI τ 4) (slI τ 5)) (fun e τ => τ = I47 s (slI τ 4) (slI τ 5) ∧ X e (slI τ 4) (slI τ 5))) s n k N X :=
 Eq.mp (by kernel_rfl) h
theorem c47 (s : List UInt8) (K : AV → Prop) (h :
 s.length.le 1000000 ∧ ∀ (x : Bool), x = [(42 : UInt8)].isPrefixOf s → iteP x (iteP (true && decide (1 ≤ (↑s.length : Int))) (K (AV.tup [AV.sc (Value.int IntKind.i64 (-2)), AV.sc (Value.string { data := { toList := List.drop 1 s } })])) False) (loopAt Tryz.prog 47 5 = loopAt Tryz.prog 47 5 ∧ (I47 s (-1) 0 = I47 s (-1) 0 ∧ (0 : Int) ≤ 0 ∧ (-1 : Int) ≤ -1 ∧
 (-1 : Int) ≤ 256 ∧ 0 ≤ (↑s.length : Int) ∧ s.length ≤ 1000000) ∧ ∀ (x : Int × Int), 0 ≤ x.snd ∧ x.snd ≤ (↑s.length : Int) ∧ numL (List.drop (Int.toNat 0) s) (-1) = (x.fst, List.drop x.snd.toNat s) → iteP (decide (0 ≤ x.snd) && decide (x.snd ≤ (↑s.length : Int))) (K (AV.tup [AV.sc (Value.int IntKind.i64 x.fst), AV.sc (Value.string { data := { toList := List.drop x.snd.toNat s } })])) False)) :
 (fun (s : List UInt8) (K : AV → Prop) => wpCall (T1.addC 48 C48) Door.cfg Tryz.prog 40 47 [aStr s] heapF fun r h' => wpBack h' r K) s K :=
 Eq.mp (by kernel_rfl) h
theorem c48 (s : List UInt8) (p : List UInt8) (K : AV → Prop) (h :
 iteP (decide ((↑p.length : Int) ≤ (↑s.length : Int))) (iteP (decide (0 ≤ (↑p.length : Int)) && decide ((↑p.length : Int) ≤ (↑s.length : Int))) (iteP (decide (List.take (↑p.length : Int).toNat s = p)) (K (AV.sc (Value.bool true))) (K (AV.sc (Value.bool false)))) False) (K (AV.sc (Value.bool false)))) :
 (fun (s p : List UInt8) (K : AV → Prop) => wpCall tab0 Door.cfg Tryz.prog 40 48 [aStr s, aStr p] heapF fun r h' => wpBack h' r K) s p K :=
 Eq.mp (by kernel_rfl) h
theorem c31 (s : List UInt8) (K : AV → Prop) (h :
 iteP (decide ([(37 : UInt8)] = s)) (iteP (true && decide (1 ≤ (↑s.length : Int))) (K (AV.tup [AV.sc (Value.string { data := { toList := List.take 0 s } }), AV.sc (Value.string { data := { toList := List.drop 1 s } }), AV.sc (Value.bool true)])) False) (iteP (decide (0 ≤ placeOf (37 : UInt8) s 0)) (iteP (decide (0 ≤ placeOf (37 : UInt8) s 0) && decide (placeOf (37 : UInt8) s 0 ≤ (↑s.length : Int)))
 (iteP (decide (0 ≤ IntKind.i64.wrap (placeOf (37 : UInt8) s 0 + 1)) && decide (IntKind.i64.wrap (placeOf (37 : UInt8) s 0 + 1) ≤ (↑s.length : Int))) (K (AV.tup [AV.sc (Value.string { data := { toList := List.take (placeOf (37 : UInt8) s 0).toNat s } }), AV.sc (Value.string { data :=
 { toList :=
 List.drop (IntKind.i64.wrap (placeOf (37 : UInt8) s 0 + 1)).toNat s } }), AV.sc (Value.bool true)])) False) False) (K (AV.tup [AV.sc (Value.string { data := { toList := s } }), AV.sc (Value.string { data := { toList := [] } }), AV.sc (Value.bool false)])))) :
 (fun (s : List UInt8) (K : AV → Prop) => wpCall tab0 Door.cfg Tryz.prog 40 24 [aStr s, aStr [37]] heapF fun r h' => wpBack h' r K) s K :=
 Eq.mp (by kernel_rfl) h
theorem v32 (s : List UInt8) (d : Dir) (N : List UInt8 → Dir → Prop) (X : Ex → List UInt8 → Dir → Prop) (h :
    iteP (decide (s ≠ []))
  (iteP (inRange (0 : Int) s.length)
    (iteP (byteAt s (0 : Int) == (45 : Int))
      (iteP (true && decide ((1 : Int) ≤ (↑s.length : Int)))
        (I32 (List.drop (1 : Nat) s)
              { minus := true, zero := d.zero, plus := d.plus, space := d.space, width := d.width, prec := d.prec,
                kind := d.kind } =
            I32 (List.drop (1 : Nat) s)
              { minus := true, zero := d.zero, plus := d.plus, space := d.space, width := d.width, prec := d.prec,
                kind := d.kind } ∧
          N (List.drop (1 : Nat) s)
            { minus := true, zero := d.zero, plus := d.plus, space := d.space, width := d.width, prec := d.prec,
              kind := d.kind })
        False)
      (iteP (byteAt s (0 : Int) == (48 : Int))
        (iteP (true && decide ((1 : Int) ≤ (↑s.length : Int)))
          (I32 (List.drop (1 : Nat) s)
                { minus := d.minus, zero := true, plus := d.plus, space := d.space, width := d.width, prec := d.prec,
                  kind := d.kind } =
              I32 (List.drop (1 : Nat) s)
                { minus := d.minus, zero := true, plus := d.plus, space := d.space, width := d.width, prec := d.prec,
                  kind := d.kind } ∧
            N (List.drop (1 : Nat) s)
              { minus := d.minus, zero := true, plus := d.plus, space := d.space, width := d.width, prec := d.prec,
                kind := d.kind })
          False)
        (iteP (byteAt s (0 : Int) == (43 : Int))
          (iteP (true && decide ((1 : Int) ≤ (↑s.length : Int)))
            (I32 (List.drop (1 : Nat) s)
                  { minus := d.minus, zero := d.zero, plus := true, space := d.space, width := d.width, prec := d.prec,
                    kind := d.kind } =
                I32 (List.drop (1 : Nat) s)
                  { minus := d.minus, zero := d.zero, plus := true, space := d.space, width := d.width, prec := d.prec,
                    kind := d.kind } ∧
              N (List.drop (1 : Nat) s)
                { minus := d.minus, zero := d.zero, plus := true, space := d.space, width := d.width, prec := d.prec,
                  kind := d.kind })
            False)
          (iteP (byteAt s (0 : Int) == (32 : Int))
            (iteP (true && decide ((1 : Int) ≤ (↑s.length : Int)))
              (I32 (List.drop (1 : Nat) s)
                    { minus := d.minus, zero := d.zero, plus := d.plus, space := true, width := d.width, prec := d.prec,
                      kind := d.kind } =
                  I32 (List.drop (1 : Nat) s)
                    { minus := d.minus, zero := d.zero, plus := d.plus, space := true, width := d.width, prec := d.prec,
                      kind := d.kind } ∧
                N (List.drop (1 : Nat) s)
                  { minus := d.minus, zero := d.zero, plus := d.plus, space := true, width := d.width, prec := d.prec,
                    kind := d.kind })
              False)
            (I32 s
                  { minus := d.minus, zero := d.zero, plus := d.plus, space := d.space, width := d.width,
                    prec := d.prec, kind := d.kind } =
                I32 s
                  { minus := d.minus, zero := d.zero, plus := d.plus, space := d.space, width := d.width,
                    prec := d.prec, kind := d.kind } ∧
              X (Ex.exit (0 : Nat)) s
                { minus := d.minus, zero := d.zero, plus := d.plus, space := d.space, width := d.width, prec := d.prec,
                  kind := d.kind })))))
    False)
  (I32 s
        { minus := d.minus, zero := d.zero, plus := d.plus, space := d.space, width := d.width, prec := d.prec,
          kind := d.kind } =
      I32 s
        { minus := d.minus, zero := d.zero, plus := d.plus, space := d.space, width := d.width, prec := d.prec,
          kind := d.kind } ∧
    X (Ex.exit (0 : Nat)) s
      { minus := d.minus, zero := d.zero, plus := d.plus, space := d.space, width := d.width, prec := d.prec,
        kind := d.kind })) :
    (fun (s : List UInt8) (d : Dir) (N : List UInt8 → Dir → Prop) (X : Ex → List UInt8 → Dir → Prop) => wpRound tab0 Door.cfg Tryz.prog 40 25 3 (I32 s d) (fun τ => τ = I32 (slS τ 0) (rdDir τ 1) ∧ N (slS τ 0) (rdDir τ 1)) (fun e τ => τ = I32 (slS τ 0) (rdDir τ 1) ∧ X e (slS τ 0) (rdDir τ 1))) s d N X :=
  Eq.mp (by kernel_rfl) h
theorem c32 (s : List UInt8) (K : AV → Prop) (h :
    loopAt Tryz.prog (25 : Nat) (3 : Nat) = loopAt Tryz.prog (25 : Nat) (3 : Nat) ∧
  (I32 s
          { minus := false, zero := false, plus := false, space := false, width := (0 : Int), prec := (-1 : Int),
            kind := (0 : Int) } =
        I32 s
          { minus := false, zero := false, plus := false, space := false, width := (0 : Int), prec := (-1 : Int),
            kind := (0 : Int) } ∧
      s.length ≤ (1000000 : Nat)) ∧
    ∀ (x : Dir × List UInt8),
      x =
          flagsF s
            { minus := false, zero := false, plus := false, space := false, width := (0 : Int), prec := (-1 : Int),
              kind := (0 : Int) } →
        x.snd.length.le (1000000 : Nat) ∧
          ∀ (x_1 : Int × List UInt8),
            x_1 = numF x.snd →
              x_1.snd.length.le (1000000 : Nat) ∧
                ∀ (x_2 : Bool),
                  x_2 = [(46 : UInt8)].isPrefixOf x_1.snd →
                    iteP x_2
                      (iteP (true && decide ((1 : Int) ≤ (↑x_1.snd.length : Int)))
                        ((List.drop (1 : Nat) x_1.snd).length.le (1000000 : Nat) ∧
                          ∀ (x_3 : Int × List UInt8),
                            x_3 = numF (List.drop (1 : Nat) x_1.snd) →
                              iteP (x_3.fst == (-1 : Int))
                                (iteP (decide (x_3.snd = []))
                                  (K
                                    (AV.tup
                                      [AV.agg
                                          [AV.sc (Value.bool false), AV.sc (Value.bool false), AV.sc (Value.bool false),
                                            AV.sc (Value.bool false), AV.sc (Value.int IntKind.i64 (0 : Int)),
                                            AV.sc (Value.int IntKind.i64 (0 : Int)),
                                            AV.sc (Value.int IntKind.u8 (0 : Int))],
                                        AV.sc (Value.string { data := { toList := [] } }),
                                        AV.sc (Value.int IntKind.i64 (1 : Int))]))
                                  (iteP (inRange (0 : Int) x_3.snd.length)
                                    (([(100 : UInt8), (105 : UInt8), (111 : UInt8), (120 : UInt8), (88 : UInt8),
                                            (117 : UInt8), (99 : UInt8), (115 : UInt8), (102 : UInt8), (37 : UInt8)] =
                                          kinds ∧
                                        (0 : Int) ≤ IntKind.i32.wrap (byteAt x_3.snd (0 : Int)) ∧
                                          IntKind.i32.wrap (byteAt x_3.snd (0 : Int)) ≤ (255 : Int)) ∧
                                      ∀ (x_4 : Bool),
                                        x_4 =
                                            kinds.contains
                                              (UInt8.ofNat (IntKind.i32.wrap (byteAt x_3.snd (0 : Int))).toNat) →
                                          iteP x_4
                                            (iteP (decide ((255 : Int) < x_1.fst))
                                              (K
                                                (AV.tup
                                                  [AV.agg
                                                      [AV.sc (Value.bool false), AV.sc (Value.bool false),
                                                        AV.sc (Value.bool false), AV.sc (Value.bool false),
                                                        AV.sc (Value.int IntKind.i64 (0 : Int)),
                                                        AV.sc (Value.int IntKind.i64 (0 : Int)),
                                                        AV.sc (Value.int IntKind.u8 (0 : Int))],
                                                    AV.sc (Value.string { data := { toList := [] } }),
                                                    AV.sc (Value.int IntKind.i64 (2 : Int))]))
                                              (iteP (inRange (0 : Int) x_3.snd.length)
                                                (iteP (true && decide ((1 : Int) ≤ (↑x_3.snd.length : Int)))
                                                  (K
                                                    (AV.tup
                                                      [AV.agg
                                                          [AV.sc (Value.bool x.fst.minus),
                                                            AV.sc (Value.bool x.fst.zero),
                                                            AV.sc (Value.bool x.fst.plus),
                                                            AV.sc (Value.bool x.fst.space),
                                                            AV.sc (Value.int IntKind.i64 x_1.fst),
                                                            AV.sc (Value.int IntKind.i64 (0 : Int)),
                                                            AV.sc (Value.int IntKind.u8 (byteAt x_3.snd (0 : Int)))],
                                                        AV.sc
                                                          (Value.string
                                                            { data := { toList := List.drop (1 : Nat) x_3.snd } }),
                                                        AV.sc (Value.int IntKind.i64 (0 : Int))]))
                                                  False)
                                                False))
                                            (K
                                              (AV.tup
                                                [AV.agg
                                                    [AV.sc (Value.bool false), AV.sc (Value.bool false),
                                                      AV.sc (Value.bool false), AV.sc (Value.bool false),
                                                      AV.sc (Value.int IntKind.i64 (0 : Int)),
                                                      AV.sc (Value.int IntKind.i64 (0 : Int)),
                                                      AV.sc (Value.int IntKind.u8 (0 : Int))],
                                                  AV.sc (Value.string { data := { toList := [] } }),
                                                  AV.sc (Value.int IntKind.i64 (1 : Int))])))
                                    False))
                                (iteP (decide (x_3.snd = []))
                                  (K
                                    (AV.tup
                                      [AV.agg
                                          [AV.sc (Value.bool false), AV.sc (Value.bool false), AV.sc (Value.bool false),
                                            AV.sc (Value.bool false), AV.sc (Value.int IntKind.i64 (0 : Int)),
                                            AV.sc (Value.int IntKind.i64 (0 : Int)),
                                            AV.sc (Value.int IntKind.u8 (0 : Int))],
                                        AV.sc (Value.string { data := { toList := [] } }),
                                        AV.sc (Value.int IntKind.i64 (1 : Int))]))
                                  (iteP (inRange (0 : Int) x_3.snd.length)
                                    (([(100 : UInt8), (105 : UInt8), (111 : UInt8), (120 : UInt8), (88 : UInt8),
                                            (117 : UInt8), (99 : UInt8), (115 : UInt8), (102 : UInt8), (37 : UInt8)] =
                                          kinds ∧
                                        (0 : Int) ≤ IntKind.i32.wrap (byteAt x_3.snd (0 : Int)) ∧
                                          IntKind.i32.wrap (byteAt x_3.snd (0 : Int)) ≤ (255 : Int)) ∧
                                      ∀ (x_4 : Bool),
                                        x_4 =
                                            kinds.contains
                                              (UInt8.ofNat (IntKind.i32.wrap (byteAt x_3.snd (0 : Int))).toNat) →
                                          iteP x_4
                                            (iteP (decide ((255 : Int) < x_1.fst))
                                              (K
                                                (AV.tup
                                                  [AV.agg
                                                      [AV.sc (Value.bool false), AV.sc (Value.bool false),
                                                        AV.sc (Value.bool false), AV.sc (Value.bool false),
                                                        AV.sc (Value.int IntKind.i64 (0 : Int)),
                                                        AV.sc (Value.int IntKind.i64 (0 : Int)),
                                                        AV.sc (Value.int IntKind.u8 (0 : Int))],
                                                    AV.sc (Value.string { data := { toList := [] } }),
                                                    AV.sc (Value.int IntKind.i64 (2 : Int))]))
                                              (iteP (decide ((255 : Int) < x_3.fst))
                                                (K
                                                  (AV.tup
                                                    [AV.agg
                                                        [AV.sc (Value.bool false), AV.sc (Value.bool false),
                                                          AV.sc (Value.bool false), AV.sc (Value.bool false),
                                                          AV.sc (Value.int IntKind.i64 (0 : Int)),
                                                          AV.sc (Value.int IntKind.i64 (0 : Int)),
                                                          AV.sc (Value.int IntKind.u8 (0 : Int))],
                                                      AV.sc (Value.string { data := { toList := [] } }),
                                                      AV.sc (Value.int IntKind.i64 (2 : Int))]))
                                                (iteP (inRange (0 : Int) x_3.snd.length)
                                                  (iteP (true && decide ((1 : Int) ≤ (↑x_3.snd.length : Int)))
                                                    (K
                                                      (AV.tup
                                                        [AV.agg
                                                            [AV.sc (Value.bool x.fst.minus),
                                                              AV.sc (Value.bool x.fst.zero),
                                                              AV.sc (Value.bool x.fst.plus),
                                                              AV.sc (Value.bool x.fst.space),
                                                              AV.sc (Value.int IntKind.i64 x_1.fst),
                                                              AV.sc (Value.int IntKind.i64 x_3.fst),
                                                              AV.sc (Value.int IntKind.u8 (byteAt x_3.snd (0 : Int)))],
                                                          AV.sc
                                                            (Value.string
                                                              { data := { toList := List.drop (1 : Nat) x_3.snd } }),
                                                          AV.sc (Value.int IntKind.i64 (0 : Int))]))
                                                    False)
                                                  False)))
                                            (K
                                              (AV.tup
                                                [AV.agg
                                                    [AV.sc (Value.bool false), AV.sc (Value.bool false),
                                                      AV.sc (Value.bool false), AV.sc (Value.bool false),
                                                      AV.sc (Value.int IntKind.i64 (0 : Int)),
                                                      AV.sc (Value.int IntKind.i64 (0 : Int)),
                                                      AV.sc (Value.int IntKind.u8 (0 : Int))],
                                                  AV.sc (Value.string { data := { toList := [] } }),
                                                  AV.sc (Value.int IntKind.i64 (1 : Int))])))
                                    False)))
                        False)
                      (iteP (decide (x_1.snd = []))
                        (K
                          (AV.tup
                            [AV.agg
                                [AV.sc (Value.bool false), AV.sc (Value.bool false), AV.sc (Value.bool false),
                                  AV.sc (Value.bool false), AV.sc (Value.int IntKind.i64 (0 : Int)),
                                  AV.sc (Value.int IntKind.i64 (0 : Int)), AV.sc (Value.int IntKind.u8 (0 : Int))],
                              AV.sc (Value.string { data := { toList := [] } }),
                              AV.sc (Value.int IntKind.i64 (1 : Int))]))
                        (iteP (inRange (0 : Int) x_1.snd.length)
                          (([(100 : UInt8), (105 : UInt8), (111 : UInt8), (120 : UInt8), (88 : UInt8), (117 : UInt8),
                                  (99 : UInt8), (115 : UInt8), (102 : UInt8), (37 : UInt8)] =
                                kinds ∧
                              (0 : Int) ≤ IntKind.i32.wrap (byteAt x_1.snd (0 : Int)) ∧
                                IntKind.i32.wrap (byteAt x_1.snd (0 : Int)) ≤ (255 : Int)) ∧
                            ∀ (x_3 : Bool),
                              x_3 = kinds.contains (UInt8.ofNat (IntKind.i32.wrap (byteAt x_1.snd (0 : Int))).toNat) →
                                iteP x_3
                                  (iteP (decide ((255 : Int) < x_1.fst))
                                    (K
                                      (AV.tup
                                        [AV.agg
                                            [AV.sc (Value.bool false), AV.sc (Value.bool false),
                                              AV.sc (Value.bool false), AV.sc (Value.bool false),
                                              AV.sc (Value.int IntKind.i64 (0 : Int)),
                                              AV.sc (Value.int IntKind.i64 (0 : Int)),
                                              AV.sc (Value.int IntKind.u8 (0 : Int))],
                                          AV.sc (Value.string { data := { toList := [] } }),
                                          AV.sc (Value.int IntKind.i64 (2 : Int))]))
                                    (iteP (decide ((255 : Int) < x.fst.prec))
                                      (K
                                        (AV.tup
                                          [AV.agg
                                              [AV.sc (Value.bool false), AV.sc (Value.bool false),
                                                AV.sc (Value.bool false), AV.sc (Value.bool false),
                                                AV.sc (Value.int IntKind.i64 (0 : Int)),
                                                AV.sc (Value.int IntKind.i64 (0 : Int)),
                                                AV.sc (Value.int IntKind.u8 (0 : Int))],
                                            AV.sc (Value.string { data := { toList := [] } }),
                                            AV.sc (Value.int IntKind.i64 (2 : Int))]))
                                      (iteP (inRange (0 : Int) x_1.snd.length)
                                        (iteP (true && decide ((1 : Int) ≤ (↑x_1.snd.length : Int)))
                                          (K
                                            (AV.tup
                                              [AV.agg
                                                  [AV.sc (Value.bool x.fst.minus), AV.sc (Value.bool x.fst.zero),
                                                    AV.sc (Value.bool x.fst.plus), AV.sc (Value.bool x.fst.space),
                                                    AV.sc (Value.int IntKind.i64 x_1.fst),
                                                    AV.sc (Value.int IntKind.i64 x.fst.prec),
                                                    AV.sc (Value.int IntKind.u8 (byteAt x_1.snd (0 : Int)))],
                                                AV.sc
                                                  (Value.string { data := { toList := List.drop (1 : Nat) x_1.snd } }),
                                                AV.sc (Value.int IntKind.i64 (0 : Int))]))
                                          False)
                                        False)))
                                  (K
                                    (AV.tup
                                      [AV.agg
                                          [AV.sc (Value.bool false), AV.sc (Value.bool false), AV.sc (Value.bool false),
                                            AV.sc (Value.bool false), AV.sc (Value.int IntKind.i64 (0 : Int)),
                                            AV.sc (Value.int IntKind.i64 (0 : Int)),
                                            AV.sc (Value.int IntKind.u8 (0 : Int))],
                                        AV.sc (Value.string { data := { toList := [] } }),
                                        AV.sc (Value.int IntKind.i64 (1 : Int))])))
                          False))) :
    (fun (s : List UInt8) (K : AV → Prop) => wpCall T2 Door.cfg Tryz.prog 40 25 [aStr s] heapF fun r h' => wpBack h' r K) s K :=
  Eq.mp (by kernel_rfl) h
theorem v18 (s : List UInt8) (N : List UInt8 → Prop) (X : Ex → Int → Prop) (h :
 (s.length ≤ 1000000 ∧ [(37 : UInt8)] = [(37 : UInt8)]) ∧ ∀ (x : List UInt8 × List UInt8 × Bool), x = (before s, after s, hasPct s) → iteP x.snd.snd (x.snd.fst.length.le 1000000 ∧ ∀ (x_1 : Dir × List UInt8 × Int), x_1 = readF x.snd.fst → iteP (x_1.snd.snd != 0) (J18 x_1.snd.snd = J18 x_1.snd.snd ∧ X Ex.ret x_1.snd.snd) (I18 x_1.snd.fst = I18 x_1.snd.fst ∧ N x_1.snd.fst))
 (J18 0 = J18 0 ∧ X Ex.ret 0)) :
 (fun (s : List UInt8) (N : List UInt8 → Prop) (X : Ex → Int → Prop) => wpRound T3 Door.cfg Tryz.prog 40 10 2 (I18 s) (fun τ => τ = I18 (slS τ 0) ∧ N (slS τ 0)) (fun e τ => τ = J18 (slI τ 4) ∧ X e (slI τ 4))) s N X :=
 Eq.mp (by kernel_rfl) h
theorem c8 (s : List UInt8) (K : AV → Prop) (h :
 loopAt Tryz.prog 10 2 = loopAt Tryz.prog 10 2 ∧ (I18 s = I18 s ∧ s.length ≤ 1000000) ∧ ∀ (x : Int), x = checkF (s.length + 1) s → K (AV.sc (Value.int IntKind.i64 x))) :
 (fun (s : List UInt8) (K : AV → Prop) => wpCall T4 Door.cfg Tryz.prog 40 9 [aStr s] heapF fun r h' => wpBack h' r K) s K :=
 Eq.mp (by kernel_rfl) h
end
end Go.Proofs.Pr
namespace Go.Proofs.Pr
open Go Go.Ef
noncomputable section
set_option maxRecDepth 100000
theorem loop47 (s : List UInt8) (hs : s.length ≤ 1000000) (n k : Int) (h1 : 0 ≤ k) (h2 : -1 ≤ n) (h3 : n ≤ 256) (h4 : k ≤ s.length) :
  Ev Door.cfg Tryz.prog 47 (.loop (loopAt Tryz.prog 47 5)) (I47 s n k) fun e τ => τ = I47 s (slI τ 4) (slI τ 5) ∧ e = .exit 0 ∧ 0 ≤ slI τ 5 ∧ slI τ 5 ≤ s.length ∧ numL (s.drop k.toNat) n = (slI τ 4, s.drop (slI τ 5).toNat) := by
 refine loop_rd tab0_ok (n := 40) (fun x : Int × Int => I47 s x.1 x.2) (fun τ => (slI τ 4, slI τ 5)) (fun x => 0 ≤ x.2 ∧ -1 ≤ x.1 ∧ x.1 ≤ 256 ∧ x.2 ≤ s.length ∧ numL (s.drop x.2.toNat) x.1 = numL (s.drop k.toNat) n) (fun x => s.length - x.2.toNat) (by kernel_rfl)
  (fun x t ht => ?_) (fun x hx => ?_) (n, k) ⟨h1, h2, h3, h4, rfl⟩
 ·replace ht : Door.tidy 47 5 = some t := ht
  cases ht
  show (I47 s x.1 x.2).tidy [0, 4, 5] 0 = I47 s x.1 x.2
  kernel_rfl
 ·obtain ⟨m, j⟩ := x
  obtain ⟨q1, q2, q3, q4, q5⟩ := hx
  simp only at q1 q2 q3 q4 q5
  have hb := byteAt_le s j
  refine v47 s m j (fun m' j' => (0 ≤ j' ∧ -1 ≤ m' ∧ m' ≤ 256 ∧ j' ≤ s.length ∧ numL (s.drop j'.toNat) m' = numL (s.drop k.toNat) n) ∧ s.length - j'.toNat < s.length - j.toNat) (fun e m' j' => e = .exit 0 ∧ 0 ≤ j' ∧ j' ≤ s.length ∧ numL (s.drop k.toNat) n = (m', s.drop j'.toNat)) ?_
  simp only [iteP_F]
  simp only [iteP_iff, decide_eq_true_eq, decide_eq_false_iff_not, inRange_iff, true_and]
  rw [← q5]
  rcases hr : s.drop j.toNat with _ | ⟨c, r⟩
  ·have := drop_end hr
   exact ⟨fun h => by omega, fun _ => ⟨q1, q4, rfl⟩⟩
  ·obtain ⟨e1, e2, e3⟩ := byteAt_drop hr
   rw [e1] at hb ⊢
   have hj : IntKind.i64.wrap (j + 1) = j + 1 := wrap_in (by omega) (by omega)
   rw [hj, toNat_succ q1, e3]
   have hnum : numL (c :: r) m = if 48 ≤ (c.toNat : Int) ∧ (c.toNat : Int) ≤ 57 then numL r (min (10 * max m 0 + (c.toNat - 48)) 256) else (m, c :: r) := rfl
   repeat' (first | apply And.intro | intro _)
   all_goals (try simp (disch := omega) only [wrap_in, wrap8_in])
   all_goals try omega
   ·have hc : 48 ≤ (c.toNat : Int) ∧ (c.toNat : Int) ≤ 57 := by omega
    rw [hnum, if_pos hc]
   ·have hc : ¬ (48 ≤ (c.toNat : Int) ∧ (c.toNat : Int) ≤ 57) := by omega
    rw [hnum, if_neg hc]
   ·have hc : ¬ (48 ≤ (c.toNat : Int) ∧ (c.toNat : Int) ≤ 57) := by omega
    rw [hnum, if_neg hc]
theorem ok1 : TabOk Tryz.prog Door.cfg T1 := by
 refine addL_ok tab0_ok fun σ s hs hp => ?_
 refine lspec_ok (Option.some.inj hs) (fun hpre => ?_) hp
 obtain ⟨e, h1, h2, h3, h4, h5⟩ := hpre
 refine Ev.tidied (t := ⟨[0, 4, 5], [0, 4, 5], 0⟩) (τ := I47 (slS σ 0) (slI σ 4) (slI σ 5)) (by kernel_rfl) (by rw [e]; kernel_rfl) ?_
 refine (loop47 (slS σ 0) h5 (slI σ 4) (slI σ 5) h1 h2 h3 h4).mono fun ex τ h => ?_
 exact ⟨(slI τ 4, slI τ 5), ⟨h.2.2.1, h.2.2.2.1, h.2.2.2.2⟩, h.2.1, h.1⟩
theorem prefix_take (p s : List UInt8) : p.isPrefixOf s = decide (p.length ≤ s.length ∧ s.take p.length = p) := by
 rw [Bool.eq_iff_iff, List.isPrefixOf_iff_prefix, decide_eq_true_eq, List.prefix_iff_eq_take]
 constructor
 ·intro h
  have := congrArg List.length h
  simp at this
  exact ⟨by omega, h.symm⟩
 ·intro h; exact h.2.symm
theorem ok48 : TabOk Tryz.prog Door.cfg (T1.addC 48 C48) := by
 refine addC_ok ok1 fun args h s hs hp => ?_
 unfold C48 at hs
 split at hs
 ·rename_i s0 p0
  obtain ⟨⟨l⟩⟩ := s0
  obtain ⟨⟨p⟩⟩ := p0
  refine nspec_ok (Option.some.inj hs) (fun hpre => ?_) hp
  refine EvP.freshV tab0_ok (n := 40) (by kernel_rfl) (by kernel_rfl) (args' := [aStr l, aStr p]) rfl (c48 l p _ ?_)
  simp only [prefix_take, Int.toNat_natCast, Int.ofNat_le]
  by_cases h1 : p.length ≤ l.length
  ·by_cases h2 : l.take p.length = p
   ·simp [h1, h2, iteP_t, aBool]
   ·simp [h1, h2, iteP_t, iteP_f, aBool]
  ·simp [h1, iteP_f, aBool]
 ·cases hs
theorem prefix_one (c : UInt8) (s : List UInt8) : [c].isPrefixOf s = (match s with | [] => false | d :: _ => c == d) := by
 cases s with
 | nil => rfl
 | cons d r => simp [List.isPrefixOf]
theorem ok47 : TabOk Tryz.prog Door.cfg ((T1.addC 48 C48).addC 47 C47) := by
 refine addC_ok ok48 fun args h s hs hp => ?_
 unfold C47 at hs
 split at hs
 ·rename_i s0
  obtain ⟨⟨l⟩⟩ := s0
  refine nspec_ok (Option.some.inj hs) (fun hpre => ?_) hp
  refine EvP.freshV ok48 (n := 40) (by kernel_rfl) (by kernel_rfl) (args' := [aStr l]) rfl (c47 l _ ?_)
  replace hpre : l.length ≤ 1000000 := hpre
  show _ ∧ ∀ x : Bool, _ → iteP x (iteP _ (AV.tup _ = .tup [aK .i64 (numF l).1, aStr (numF l).2]) False) _
  refine ⟨hpre, fun x hx => ?_⟩
  subst hx
  have hrest : (∀ c r, l = c :: r → ¬ c = 42) → ∀ x : Int × Int, 0 ≤ x.2 ∧ x.2 ≤ l.length ∧ numL (l.drop (Int.toNat 0)) (-1) = (x.1, l.drop x.2.toNat) → numF l = (x.1, l.drop x.2.toNat) := by
   intro hne x hx
   have h3 := hx.2.2
   cases l with
   | nil => simpa [numF, numL] using h3
   | cons c r =>
    have := hne c r rfl
    simpa [numF, this] using h3
  rw [prefix_one]
  cases l with
  | nil =>
   rw [iteP_f]
   refine ⟨rfl, ⟨rfl, by simp⟩, fun x hx => ?_⟩
   have := hrest (fun c r h => by cases h) x hx
   simp only [iteP_F, this]
   simp only [Bool.and_eq_true, decide_eq_true_eq]
   exact ⟨⟨hx.1, hx.2.1⟩, rfl⟩
  | cons c r =>
   by_cases hc : c = 42
   ·subst hc
    have h1 : decide ((1 : Int) ≤ (((42 : UInt8) :: r).length : Int)) = true := by
     rw [decide_eq_true_eq, List.length_cons]; omega
    have h2 : ((42 : UInt8) == 42) = true := rfl
    show iteP ((42 : UInt8) == 42) _ _
    rw [h2, iteP_t, Bool.true_and, h1, iteP_t]
    rfl
   ·have : ((42 : UInt8) == c) = false := by simpa using fun e => hc e.symm
    simp only [this, iteP_f]
    refine ⟨trivial, ⟨trivial, by simp at hpre ⊢; omega⟩, fun x hx => ?_⟩
    have := hrest (fun c' r' h => by cases h; exact hc) x hx
    simp only [iteP_F, this]
    simp only [Bool.and_eq_true, decide_eq_true_eq]
    exact ⟨⟨hx.1, hx.2.1⟩, rfl⟩
 ·cases hs
def is43 (r : Nat) : Bool :=
 match evCall Door.cfg Tryz.prog 200 34 [aStr kinds, aK .i32 r] heapF with
 | some (.sc (.bool b), _) => b == kinds.contains (UInt8.ofNat r)
 | _ => false
theorem all43 : (List.range 256).all is43 = true := by decide +kernel
theorem is43_ok {r : Nat} (hr : r < 256) : ∃ h', evCall Door.cfg Tryz.prog 200 34 [aStr kinds, aK .i32 r] heapF = some (aBool (kinds.contains (UInt8.ofNat r)), h') := by
 have h := List.all_eq_true.1 all43 r (by simp [hr])
 unfold is43 at h
 split at h
 ·rename_i b h' he
  have : b = kinds.contains (UInt8.ofNat r) := by simpa using h
  exact ⟨h', by rw [he, this]; rfl⟩
 ·cases h
theorem ok43 : TabOk Tryz.prog Door.cfg (((T1.addC 48 C48).addC 47 C47).addC 34 C43) := by
 refine addC_ok ok47 fun args h s hs hp => ?_
 unfold C43 at hs
 split at hs
 ·rename_i s0 r
  obtain ⟨⟨l⟩⟩ := s0
  refine nspec_ok (Option.some.inj hs) (fun hpre => ?_) hp
  obtain ⟨h1, h2, h3⟩ := hpre
  replace h1 : l = kinds := h1
  subst h1
  obtain ⟨n, rfl⟩ := Int.eq_ofNat_of_zero_le h2
  obtain ⟨h', he⟩ := is43_ok (r := n) (by omega)
  refine EvP.fresh (by kernel_rfl) (by kernel_rfl) (args' := [aStr kinds, aK .i32 n]) rfl ⟨200, _, h', he, ?_⟩
  exact ⟨rfl, rfl⟩
 ·cases hs
end
end Go.Proofs.Pr
namespace Go.Proofs.Pr
open Go Go.Ef
noncomputable section
set_option maxRecDepth 100000
theorem byteAt_zero (c : UInt8) (r : List UInt8) : byteAt (c :: r) 0 = c.toNat := rfl
theorem one_le_cons (c : UInt8) (r : List UInt8) : decide ((1 : Int) ≤ ((c :: r).length : Int)) = true := by
 rw [decide_eq_true_eq, List.length_cons]; omega
theorem range_cons (c : UInt8) (r : List UInt8) : inRange 0 (c :: r).length = true := by
 rw [inRange_iff, List.length_cons]; omega
theorem beq_byte (c : UInt8) (n : Nat) (h : n < 256) : ((c.toNat : Int) == (n : Int)) = (c == UInt8.ofNat n) := by
 rw [Bool.eq_iff_iff, beq_iff_eq, beq_iff_eq, u8_eq]
 have : (UInt8.ofNat n).toNat = n := by rw [UInt8.toNat_ofNat']; omega
 rw [this]
theorem loop32 (s : List UInt8) (d : Dir) (_ : s.length ≤ 1000000) :
  Ev Door.cfg Tryz.prog 25 (.loop (loopAt Tryz.prog 25 3)) (I32 s d) fun e τ => τ = I32 (slS τ 0) (rdDir τ 1) ∧ e = .exit 0 ∧ flagsF s d = (rdDir τ 1, slS τ 0) := by
 refine loop_rd tab0_ok (n := 40) (fun x : List UInt8 × Dir => I32 x.1 x.2) (fun τ => (slS τ 0, rdDir τ 1)) (fun x => flagsF x.1 x.2 = flagsF s d) (fun x => x.1.length) (by kernel_rfl)
  (fun x t ht => ?_) (fun x hx => ?_) (s, d) rfl
 ·replace ht : Door.tidy 25 3 = some t := ht
  cases ht
  show (I32 x.1 x.2).tidy [0, 2, 5] 2 = I32 x.1 x.2
  kernel_rfl
 ·obtain ⟨u, f⟩ := x
  simp only at hx
  refine v32 u f (fun u' f' => flagsF u' f' = flagsF s d ∧ u'.length < u.length) (fun e u' f' => e = .exit 0 ∧ flagsF s d = (f', u')) ?_
  rw [← hx]
  cases u with
  | nil => exact ⟨rfl, rfl, rfl⟩
  | cons c r =>
   have hne : decide (c :: r ≠ []) = true := by simp
   have b45 := beq_byte c 45 (by decide)
   have b48 := beq_byte c 48 (by decide)
   have b43 := beq_byte c 43 (by decide)
   have b32 := beq_byte c 32 (by decide)
   simp only [byteAt_zero, hne, iteP_t, range_cons, one_le_cons, Bool.true_and]
   rw [show ((c.toNat : Int) == 45) = (c == 45) from b45, show ((c.toNat : Int) == 48) = (c == 48) from b48, show ((c.toNat : Int) == 43) = (c == 43) from b43, show ((c.toNat : Int) == 32) = (c == 32) from b32]
   have hfl : flagsF (c :: r) f = if isFlag c then flagsF r (setFlag f c) else (f, c :: r) := rfl
   rw [hfl]
   unfold isFlag setFlag
   by_cases h45 : c = 45
   ·subst h45; exact ⟨trivial, rfl, Nat.lt_succ_self _⟩
   ·by_cases h48 : c = 48
    ·subst h48; exact ⟨trivial, rfl, Nat.lt_succ_self _⟩
    ·by_cases h43 : c = 43
     ·subst h43; exact ⟨trivial, rfl, Nat.lt_succ_self _⟩
     ·by_cases h32 : c = 32
      ·subst h32; exact ⟨trivial, rfl, Nat.lt_succ_self _⟩
      ·have e1 : (c == 45) = false := by simpa using h45
       have e2 : (c == 48) = false := by simpa using h48
       have e3 : (c == 43) = false := by simpa using h43
       have e4 : (c == 32) = false := by simpa using h32
       simp only [e1, e2, e3, e4, iteP_f]
       exact ⟨trivial, trivial, rfl⟩
theorem ok2 : TabOk Tryz.prog Door.cfg T2 := by
 refine addL_ok ok43 fun σ s hs hp => ?_
 refine lspec_ok (Option.some.inj hs) (fun hpre => ?_) hp
 obtain ⟨e, h5⟩ := hpre
 refine Ev.tidied (t := ⟨[0, 2, 5], [0, 2, 5], 2⟩) (τ := I32 (slS σ 0) (rdDir σ 1)) (by kernel_rfl) (by rw [e]; kernel_rfl) ?_
 refine (loop32 (slS σ 0) (rdDir σ 1) h5).mono fun ex τ h => ?_
 exact ⟨(rdDir τ 1, slS τ 0), h.2.2.symm, h.2.1, h.1⟩
theorem flagsF_len : ∀ (s : List UInt8) (d : Dir), (flagsF s d).2.length ≤ s.length := by
 intro s
 induction s with
 | nil => intro d; exact Nat.le_refl _
 | cons c r ih =>
  intro d
  show (if isFlag c then flagsF r (setFlag d c) else (d, c :: r)).2.length ≤ _
  split
  ·exact Nat.le_succ_of_le (ih _)
  ·exact Nat.le_refl _
theorem flagsF_prec : ∀ (s : List UInt8) (d : Dir), (flagsF s d).1.prec = d.prec := by
 intro s
 induction s with
 | nil => intro d; rfl
 | cons c r ih =>
  intro d
  show (if isFlag c then flagsF r (setFlag d c) else (d, c :: r)).1.prec = _
  split
  ·rw [ih]
   unfold setFlag
   split
   ·rfl
   ·split
    ·rfl
    ·split <;> rfl
  ·rfl
theorem numL_len : ∀ (s : List UInt8) (n : Int), (numL s n).2.length ≤ s.length := by
 intro s
 induction s with
 | nil => intro d; exact Nat.le_refl _
 | cons c r ih =>
  intro n
  show (if 48 ≤ (c.toNat : Int) ∧ (c.toNat : Int) ≤ 57 then numL r (min (10 * max n 0 + (c.toNat - 48)) 256) else (n, c :: r)).2.length ≤ _
  split
  ·exact Nat.le_succ_of_le (ih _)
  ·exact Nat.le_refl _
theorem numF_len (s : List UInt8) : (numF s).2.length ≤ s.length := by
 cases s with
 | nil => exact Nat.le_refl _
 | cons c r =>
  show (if c = 42 then (-2, r) else numL (c :: r) (-1)).2.length ≤ _
  split
  ·exact Nat.le_succ _
  ·exact numL_len _ _
theorem kinds_byte (c : UInt8) : kinds.contains (UInt8.ofNat (IntKind.i32.wrap (c.toNat : Int)).toNat) = kinds.contains c := by
 have h := c.toNat_lt
 have : IntKind.i32.wrap (c.toNat : Int) = c.toNat := by rw [wrap32]; omega
 rw [this, Int.toNat_natCast, UInt8.ofNat_toNat]
theorem wrap_byte (c : UInt8) : 0 ≤ IntKind.i32.wrap (c.toNat : Int) ∧ IntKind.i32.wrap (c.toNat : Int) ≤ 255 := by
 have h := c.toNat_lt
 rw [wrap32]; omega
theorem ok32 : TabOk Tryz.prog Door.cfg (T2.addC 25 C32) := by
 refine addC_ok ok2 fun args h s hs hp => ?_
 unfold C32 at hs
 split at hs
 ·rename_i s0
  obtain ⟨⟨l⟩⟩ := s0
  refine nspec_ok (Option.some.inj hs) (fun hpre => ?_) hp
  replace hpre : l.length ≤ 1000000 := hpre
  refine EvP.freshV ok2 (n := 40) (by kernel_rfl) (by kernel_rfl) (args' := [aStr l]) rfl (c32 l _ ?_)
  show _ ∧ _ ∧ ∀ x : Dir × List UInt8, _ → _ ∧ ∀ x1 : Int × List UInt8, _ → _ ∧ ∀ x2 : Bool, _ → _
  refine ⟨rfl, ⟨rfl, hpre⟩, fun x hx => ?_⟩
  replace hx : x = flagsF l { Dir.none with prec := -1 } := hx
  have hpr : x.1.prec = -1 := by rw [hx, flagsF_prec]
  have l1 : x.2.length ≤ 1000000 := by rw [hx]; exact Nat.le_trans (flagsF_len _ _) hpre
  refine ⟨l1, fun x1 hx1 => ?_⟩
  have l2 : x1.2.length ≤ 1000000 := by rw [hx1]; exact Nat.le_trans (numF_len _) l1
  refine ⟨l2, fun x2 hx2 => ?_⟩
  -- the end
  have fin : ∀ (p : Int) (u : List UInt8), endF x.1 x1.1 p u = endF x.1 x1.1 p u := fun _ _ => rfl
  have hread : readF l = endF x.1 x1.1 (precF x1.2).1 (precF x1.2).2 := by unfold readF; rw [← hx, ← hx1]
  rw [hread]
  rw [prefix_one] at hx2
  subst hx2
  have key : ∀ (p : Int) (u : List UInt8) (R : AV), R = .tup [.agg (endF x.1 x1.1 p u).1.cells, aStr (endF x.1 x1.1 p u).2.1, aK .i64 (endF x.1 x1.1 p u).2.2] →
    iteP (decide (u = [])) (AV.tup [AV.agg [AV.sc (Value.bool false), AV.sc (Value.bool false), AV.sc (Value.bool false), AV.sc (Value.bool false), AV.sc (Value.int IntKind.i64 0), AV.sc (Value.int IntKind.i64 0), AV.sc (Value.int IntKind.u8 0)], AV.sc (Value.string ⟨⟨[]⟩⟩), AV.sc (Value.int IntKind.i64 1)] = R)
     (iteP (inRange 0 u.length) ((([100, 105, 111, 120, 88, 117, 99, 115, 102, 37] : List UInt8) = kinds ∧ 0 ≤ IntKind.i32.wrap (byteAt u 0) ∧ IntKind.i32.wrap (byteAt u 0) ≤ 255) ∧ ∀ x4 : Bool, x4 = kinds.contains (UInt8.ofNat (IntKind.i32.wrap (byteAt u 0)).toNat) →
      iteP x4 (iteP (decide (255 < x1.1)) (AV.tup [AV.agg [AV.sc (Value.bool false), AV.sc (Value.bool false), AV.sc (Value.bool false), AV.sc (Value.bool false), AV.sc (Value.int IntKind.i64 0), AV.sc (Value.int IntKind.i64 0), AV.sc (Value.int IntKind.u8 0)], AV.sc (Value.string ⟨⟨[]⟩⟩), AV.sc (Value.int IntKind.i64 2)] = R)
       (iteP (decide (255 < p)) (AV.tup [AV.agg [AV.sc (Value.bool false), AV.sc (Value.bool false), AV.sc (Value.bool false), AV.sc (Value.bool false), AV.sc (Value.int IntKind.i64 0), AV.sc (Value.int IntKind.i64 0), AV.sc (Value.int IntKind.u8 0)], AV.sc (Value.string ⟨⟨[]⟩⟩), AV.sc (Value.int IntKind.i64 2)] = R)
        (iteP (inRange 0 u.length) (iteP (true && decide ((1 : Int) ≤ (u.length : Int))) (AV.tup [AV.agg [AV.sc (Value.bool x.1.minus), AV.sc (Value.bool x.1.zero), AV.sc (Value.bool x.1.plus), AV.sc (Value.bool x.1.space), AV.sc (Value.int IntKind.i64 x1.1), AV.sc (Value.int IntKind.i64 p), AV.sc (Value.int IntKind.u8 (byteAt u 0))], AV.sc (Value.string ⟨⟨u.drop 1⟩⟩), AV.sc (Value.int IntKind.i64 0)] = R) False) False)))
       (AV.tup [AV.agg [AV.sc (Value.bool false), AV.sc (Value.bool false), AV.sc (Value.bool false), AV.sc (Value.bool false), AV.sc (Value.int IntKind.i64 0), AV.sc (Value.int IntKind.i64 0), AV.sc (Value.int IntKind.u8 0)], AV.sc (Value.string ⟨⟨[]⟩⟩), AV.sc (Value.int IntKind.i64 1)] = R)) False) := by
   intro p u R hR
   subst hR
   cases u with
   | nil => rfl
   | cons c r =>
    have hne : decide (c :: r = []) = false := by simp
    rw [hne, iteP_f, range_cons, iteP_t]
    refine ⟨⟨rfl, wrap_byte c⟩, fun x4 hx4 => ?_⟩
    rw [byteAt_zero, kinds_byte] at hx4
    rw [byteAt_zero, one_le_cons]
    have he : endF x.1 x1.1 p (c :: r) = if kinds.contains c then (if x1.1 > 255 ∨ p > 255 then (Dir.none, [], 2) else ({ x.1 with width := x1.1, prec := p, kind := c.toNat }, r, 0)) else (Dir.none, [], 1) := rfl
    rw [he, ← hx4]
    cases x4 with
    | false => rfl
    | true =>
     rw [iteP_t]
     by_cases h1 : 255 < x1.1
     ·rw [decide_eq_true h1, iteP_t, if_pos rfl, if_pos (.inl h1)]; rfl
     ·by_cases h2 : 255 < p
      ·rw [decide_eq_false h1, iteP_f, decide_eq_true h2, iteP_t, if_pos rfl, if_pos (.inr h2)]; rfl
      ·rw [decide_eq_false h1, iteP_f, decide_eq_false h2, iteP_f, if_pos rfl, if_neg (by omega)]; rfl
  cases hr : x1.2 with
  | nil => exact key (-1) [] _ rfl
  | cons c r =>
   by_cases hc : c = 46
   ·subst hc
    show iteP ((46 : UInt8) == 46) _ _
    rw [show ((46 : UInt8) == 46) = true from rfl, iteP_t, one_le_cons]
    refine ⟨?_, fun x3 hx3 => ?_⟩
    ·show r.length ≤ 1000000
     rw [hr] at l2; simp at l2; omega
    ·replace hx3 : x3 = numF r := hx3
     have hp : precF (46 :: r) = ((if (numF r).1 = -1 then 0 else (numF r).1), (numF r).2) := rfl
     rw [hp, ← hx3]
     by_cases h1 : x3.1 = -1
     ·rw [show (x3.1 == -1) = true from by rw [h1]; rfl, iteP_t, if_pos h1]
      have := key 0 x3.2 _ rfl
      rw [show decide ((255 : Int) < 0) = false from rfl] at this
      exact this
     ·rw [show (x3.1 == -1) = false from by simpa using h1, iteP_f, if_neg h1]
      exact key x3.1 x3.2 _ rfl
   ·have : ((46 : UInt8) == c) = false := by simpa using fun e => hc e.symm
    show iteP ((46 : UInt8) == c) _ _
    rw [this, iteP_f]
    have hp : precF (c :: r) = (-1, c :: r) := by show (if c = 46 then _ else _) = _; rw [if_neg hc]
    rw [hp]
    exact key x.1.prec (c :: r) (.tup [.agg (endF x.1 x1.1 (-1) (c :: r)).1.cells, aStr (endF x.1 x1.1 (-1) (c :: r)).2.1, aK .i64 (endF x.1 x1.1 (-1) (c :: r)).2.2]) (by rw [hpr])
 ·cases hs
theorem place_spec : ∀ (l : List UInt8) (n : Nat), (hasPct l = false → placeOf 37 l n = -1) ∧ (hasPct l = true → placeOf 37 l n = n + (before l).length ∧ l.drop (before l).length = 37 :: after l ∧ l.take (before l).length = before l) := by
 intro l
 induction l with
 | nil => intro n; exact ⟨fun _ => rfl, fun h => by simp [hasPct] at h⟩
 | cons b l ih =>
  intro n
  by_cases hb : b = 37
  ·subst hb
   refine ⟨fun h => by simp [hasPct] at h, fun _ => ?_⟩
   have e1 : before ((37 : UInt8) :: l) = [] := by simp [before]
   have e2 : after ((37 : UInt8) :: l) = l := by simp [after]
   rw [e1, e2]
   exact ⟨by show (bif Nat.beq 37 37 then (n : Int) else _) = _; simp, rfl, rfl⟩
  ·have h1 : hasPct (b :: l) = hasPct l := by
    have : ((37 : UInt8) == b) = false := by simpa using fun e => hb e.symm
    unfold hasPct
    rw [List.contains_cons, this, Bool.false_or]
   have h2 : before (b :: l) = b :: before l := by simp [before, hb]
   have h3 : after (b :: l) = after l := by simp [after, hb]
   have h4 : placeOf 37 (b :: l) n = placeOf 37 l (n + 1) := by
    show (bif Nat.beq b.toNat (37 : UInt8).toNat then (n : Int) else placeOf 37 l (n + 1)) = _
    have : Nat.beq b.toNat (37 : UInt8).toNat = false := by
     cases hq : Nat.beq b.toNat (37 : UInt8).toNat with
     | false => rfl
     | true => exact absurd (UInt8.toNat_inj.1 (Nat.eq_of_beq_eq_true hq)) hb
    rw [this]; rfl
   obtain ⟨i1, i2⟩ := ih (n + 1)
   rw [h1, h2, h3, h4]
   refine ⟨i1, fun h => ?_⟩
   obtain ⟨j1, j2, j3⟩ := i2 h
   refine ⟨by rw [j1, List.length_cons]; omega, by simpa using j2, by simpa using j3⟩
theorem noPct {l : List UInt8} (h : hasPct l = false) : before l = l ∧ after l = [] := by
 have h1 : ∀ x ∈ l, (x != 37) = true := by
  intro x hx
  simp only [bne_iff_ne, ne_eq]
  rintro rfl
  have : hasPct l = true := by simpa [hasPct] using hx
  rw [this] at h; cases h
 have h2 : ∀ m : List UInt8, (∀ x ∈ m, (x != 37) = true) → m.takeWhile (· != 37) = m ∧ m.dropWhile (· != 37) = [] := by
  intro m
  induction m with
  | nil => intro _; exact ⟨rfl, rfl⟩
  | cons b m ih =>
   intro hm
   have := ih fun x hx => hm x (by simp [hx])
   have hb := hm b (by simp)
   simp only [List.takeWhile, List.dropWhile, hb]
   exact ⟨by rw [this.1], this.2⟩
 obtain ⟨q1, q2⟩ := h2 l h1
 exact ⟨q1, by unfold after; rw [q2]; rfl⟩
theorem pct_len {l : List UInt8} (h : hasPct l = true) : (before l).length + 1 + (after l).length = l.length := by
 obtain ⟨_, h2⟩ := place_spec l 0
 obtain ⟨_, j2, _⟩ := h2 h
 have := congrArg List.length j2
 rw [List.length_drop, List.length_cons] at this
 omega
theorem ok31 : TabOk Tryz.prog Door.cfg T3 := by
 refine addC_ok ok32 fun args h s hs hp => ?_
 unfold C31 at hs
 split at hs
 ·rename_i s0 p0
  obtain ⟨⟨l⟩⟩ := s0
  obtain ⟨⟨p⟩⟩ := p0
  refine nspec_ok (Option.some.inj hs) (fun hpre => ?_) hp
  obtain ⟨h1, h2⟩ := hpre
  replace h1 : l.length ≤ 1000000 := h1
  replace h2 : p = [37] := h2
  subst h2
  refine EvP.freshV tab0_ok (n := 40) (by kernel_rfl) (by kernel_rfl) (args' := [aStr l, aStr [37]]) rfl (c31 l _ ?_)
  show iteP _ (iteP _ (_ = AV.tup [aStr (before l), aStr (after l), aBool (hasPct l)]) False) _
  by_cases hl : ([37] : List UInt8) = l
  ·subst hl; rfl
  ·rw [decide_eq_false hl, iteP_f]
   obtain ⟨q1, q2⟩ := place_spec l 0
   cases hq : hasPct l with
   | false =>
    obtain ⟨n1, n2⟩ := noPct hq
    rw [q1 hq, n1, n2]
    rfl
   | true =>
    obtain ⟨j1, j2, j3⟩ := q2 hq
    have j4 := pct_len hq
    rw [j1]
    have e0 : ((0 : Nat) : Int) + ((before l).length : Int) = (before l).length := by simp
    have e1 : IntKind.i64.wrap (((before l).length : Int) + 1) = ((before l).length : Int) + 1 := wrap_in (by omega) (by omega)
    rw [e0, e1]
    have t1 : decide ((0 : Int) ≤ ((before l).length : Int)) = true := by simp
    have t2 : decide (((before l).length : Int) ≤ (l.length : Int)) = true := by simp; omega
    have t3 : decide ((0 : Int) ≤ ((before l).length : Int) + 1) = true := by simp; omega
    have t4 : decide (((before l).length : Int) + 1 ≤ (l.length : Int)) = true := by simp; omega
    rw [t1, iteP_t, t2, Bool.and_self, iteP_t, t3, t4, Bool.and_self, iteP_t]
    have t5 : (((before l).length : Int) + 1).toNat = (before l).length + 1 := by omega
    rw [t5, Int.toNat_natCast, j3]
    have t6 : l.drop ((before l).length + 1) = after l := by rw [← List.drop_drop, j2]; rfl
    rw [t6]
    rfl
 ·cases hs
theorem endF_len (d : Dir) (w p : Int) (s : List UInt8) (h : (endF d w p s).2.2 = 0) : (endF d w p s).2.1.length < s.length := by
 cases s with
 | nil => cases h
 | cons c r =>
  have he : endF d w p (c :: r) = if kinds.contains c then (if w > 255 ∨ p > 255 then (Dir.none, [], 2) else ({ d with width := w, prec := p, kind := c.toNat }, r, 0)) else (Dir.none, [], 1) := rfl
  rw [he] at h ⊢
  split at h
  ·split at h
   ·cases h
   ·rename_i h1 h2
    rw [if_pos h1, if_neg h2]
    exact Nat.lt_succ_self _
  ·cases h
theorem precF_len (s : List UInt8) : (precF s).2.length ≤ s.length := by
 cases s with
 | nil => exact Nat.le_refl _
 | cons c r =>
  show (if c = 46 then ((if (numF r).1 = -1 then 0 else (numF r).1), (numF r).2) else ((-1 : Int), c :: r)).2.length ≤ _
  split
  ·exact Nat.le_succ_of_le (numF_len r)
  ·exact Nat.le_refl _
theorem readF_len (s : List UInt8) (h : (readF s).2.2 = 0) : (readF s).2.1.length < s.length := by
 have h1 := endF_len _ _ _ _ h
 exact Nat.lt_of_lt_of_le h1 (Nat.le_trans (precF_len _) (Nat.le_trans (numF_len _) (flagsF_len _ _)))
theorem checkF_more : ∀ n s, s.length < n → ∀ m, s.length < m → checkF n s = checkF m s := by
 intro n
 induction n with
 | zero => intro s h; omega
 | succ n ih =>
  intro s h m hm
  cases m with
  | zero => omega
  | succ m =>
   simp only [checkF]
   cases hq : hasPct s with
   | false => rfl
   | true =>
    simp only [if_true]
    by_cases h0 : (readF (after s)).2.2 = 0
    ·have l1 := readF_len _ h0
     have l2 := pct_len hq
     rw [if_pos h0, if_pos h0]
     exact ih _ (by omega) m (by omega)
    ·rw [if_neg h0, if_neg h0]
theorem loop18 (s : List UInt8) (hs : s.length ≤ 1000000) :
  Ev Door.cfg Tryz.prog 10 (.loop (loopAt Tryz.prog 10 2)) (I18 s) fun e τ => τ = J18 (slI τ 4) ∧ e = .ret ∧ slI τ 4 = checkF (s.length + 1) s := by
 refine loop_rd ok31 (n := 40) (fun x : List UInt8 => I18 x) (fun τ => slS τ 0) (fun x => x.length ≤ 1000000 ∧ checkF (x.length + 1) x = checkF (s.length + 1) s) (fun x => x.length) (by kernel_rfl)
  (fun x t ht => ?_) (fun x hx => ?_) s ⟨hs, rfl⟩
 ·replace ht : Door.tidy 10 2 = some t := ht
  cases ht
  show (I18 x).tidy [0, 1] 0 = I18 x
  kernel_rfl
 ·obtain ⟨h1, h2⟩ := hx
  refine v18 x (fun u => (u.length ≤ 1000000 ∧ checkF (u.length + 1) u = checkF (s.length + 1) s) ∧ u.length < x.length) (fun e v => e = .ret ∧ v = checkF (s.length + 1) s) ?_
  refine ⟨⟨h1, rfl⟩, fun y hy => ?_⟩
  subst hy
  rw [← h2]
  show iteP (hasPct x) _ _
  cases hq : hasPct x with
  | false =>
   rw [iteP_f]
   exact ⟨rfl, rfl, by simp only [checkF, hq]; rfl⟩
  | true =>
   rw [iteP_t]
   have l2 := pct_len hq
   refine ⟨by show (after x).length ≤ 1000000; omega, fun z hz => ?_⟩
   subst hz
   have hc : checkF (x.length + 1) x = if (readF (after x)).2.2 = 0 then checkF x.length (readF (after x)).2.1 else (readF (after x)).2.2 := by simp only [checkF, hq, if_true]
   by_cases h0 : (readF (after x)).2.2 = 0
   ·have l1 := readF_len _ h0
    rw [show ((readF (after x)).2.2 != 0) = false by rw [h0]; rfl, iteP_f, hc, if_pos h0]
    show _ ∧ ((readF (after x)).2.1.length ≤ 1000000 ∧ checkF ((readF (after x)).2.1.length + 1) (readF (after x)).2.1 = _) ∧ (readF (after x)).2.1.length < x.length
    exact ⟨rfl, ⟨by omega, checkF_more _ _ (by omega) _ (by omega)⟩, by omega⟩
   ·rw [show ((readF (after x)).2.2 != 0) = true by simpa using h0, iteP_t, hc, if_neg h0]
    exact ⟨rfl, rfl, rfl⟩
theorem ok4 : TabOk Tryz.prog Door.cfg T4 := by
 refine addL_ok ok31 fun σ s hs hp => ?_
 refine lspec_ok (Option.some.inj hs) (fun hpre => ?_) hp
 obtain ⟨e, h5⟩ := hpre
 refine Ev.tidied (t := ⟨[0, 1], [4], 0⟩) (τ := I18 (slS σ 0)) (by kernel_rfl) (by rw [e]; kernel_rfl) ?_
 refine (loop18 (slS σ 0) h5).mono fun ex τ h => ?_
 exact ⟨slI τ 4, h.2.2, h.2.1, h.1⟩
theorem ok8 : TabOk Tryz.prog Door.cfg (T4.addC 9 C8) := by
 refine addC_ok ok4 fun args h s hs hp => ?_
 unfold C8 at hs
 split at hs
 ·rename_i s0
  obtain ⟨⟨l⟩⟩ := s0
  refine nspec_ok (Option.some.inj hs) (fun hpre => ?_) hp
  refine EvP.freshV ok4 (n := 40) (by kernel_rfl) (by kernel_rfl) (args' := [aStr l]) rfl (c8 l _ ?_)
  exact ⟨rfl, ⟨rfl, hpre⟩, fun x hx => by rw [hx]; rfl⟩
 ·cases hs
end
end Go.Proofs.Pr
namespace Go.Ef
open Go
noncomputable section
section
variable {P : Program} {C : Cfg} {T : Tab}
theorem aspec_ok {g : FuncId} {args : List AV} {h : Heap} {α : Type} {pre : Prop} {post : α → Prop} {val : α → AV} {s : CSpec}
  (hs : ({ pre := pre, alts := [{ α := α, post := post, val := val, heap := fun _ => h }] } : CSpec) = s) (H : pre → EvP C P g args h fun v h' => (∃ x, post x ∧ v = val x) ∧ h' = h) (hp : s.pre) :
  ∃ a ∈ s.alts, ∃ x m, a.post x ∧ callP C (evCall C P m) g args h = some (a.val x, a.heap x) := by
 subst hs
 obtain ⟨m, v, h', h1, ⟨x, h2, rfl⟩, rfl⟩ := H hp
 exact ⟨_, List.mem_singleton.2 rfl, x, m, h2, h1⟩
theorem EvP.freshK (O : TabOk P C T) {n g : Nat} {args args' : List AV} {h : Heap} {Q : AV → Prop} (hf : C.fresh g = true) (hp : C.prim g = none) (ha : mapO (stripA 8) args = some args')
  (H : wpCall T C P n g args' heapF fun r h' => wpBack h' r Q) : EvP C P g args h fun y h' => Q y ∧ h' = h := by
 refine EvP.fresh hf hp ha ?_
 obtain ⟨m, r, h', h1, h2⟩ := call_okW O n g args' heapF _ H
 exact ⟨m, r, h', h1, wpBack_mono h2 fun y hy => ⟨hy, rfl⟩⟩
end
end
end Go.Ef
namespace Go.Proofs.Pr
open Go Go.Ef
noncomputable section
set_option maxRecDepth 100000
def whole : List UInt8 := [100, 105, 111, 120, 88, 117]
def C42 (args : List AV) (h : Heap) : Option CSpec :=
 match args with
 | [.sc (.string s), .sc (.int .i64 n)] => some (nspec (0 ≤ n ∧ n ≤ 100000 ∧ s.data.toList.length ≤ 1000000) (List.replicate n.toNat s.data.toList).flatten (fun x => aStr x) h)
 | _ => none
def C61 (args : List AV) (h : Heap) : Option CSpec :=
 match args with
 | [.sl els _, .sc (.string sep)] => match mapO strS els with
  | some xs => some (nspec (sep.data.toList.isEmpty = true ∧ (xs.map fun s => s.data.toList).length ≤ 1000 ∧ ((xs.map fun s => s.data.toList).flatten).length ≤ 10000000) ((xs.map fun s => s.data.toList).flatten) (fun x => aStr x) h)
  | none => none
 | _ => none
def C43' (args : List AV) (h : Heap) : Option CSpec :=
 match args with
 | [.sc (.string s), .sc (.int .i32 r)] => some (nspec ((s.data.toList = kinds ∨ s.data.toList = whole) ∧ 0 ≤ r ∧ r ≤ 255) (s.data.toList.contains (UInt8.ofNat r.toNat)) (fun x => aBool x) h)
 | _ => none
theorem EvP.prim {g : FuncId} {p : List AV → Heap → Option (AV × Heap)} {args : List AV} {h h' : Heap} {v : AV} {K : AV → Heap → Prop} (hp : Door.cfg.prim g = some p) (he : p args h = some (v, h')) (hk : K v h') : EvP Door.cfg Tryz.prog g args h K :=
 ⟨0, v, h', by unfold callP; rw [hp]; exact he, hk⟩
theorem repeat_flat (l : List UInt8) : ∀ n, Lib.repeatL l n = (List.replicate n l).flatten := by
 intro n
 induction n with
 | zero => rfl
 | succ n ih => simp [Lib.repeatL, List.replicate_succ, ih]
theorem ok42 {T : Tab} (O : TabOk Tryz.prog Door.cfg T) : TabOk Tryz.prog Door.cfg (T.addC 33 C42) := by
 refine addC_ok O fun args h s hs hp => ?_
 unfold C42 at hs
 split at hs
 ·rename_i s0 n
  obtain ⟨⟨l⟩⟩ := s0
  refine nspec_ok (Option.some.inj hs) (fun hpre => ?_) hp
  obtain ⟨h1, h2, h3⟩ := hpre
  replace h3 : l.length ≤ 1000000 := h3
  refine EvP.prim (p := repeatP) rfl (v := aStr (Lib.repeatL l n.toNat)) (h' := h) ?_ ⟨by rw [repeat_flat], rfl⟩
  have e1 : decide (0 ≤ n) = true := by simpa using h1
  have e2 : Nat.ble n.toNat maxRoom = true := Nat.ble_eq_true_of_le (by unfold maxRoom; omega)
  have e3 : Nat.ble (ByteArray.size ⟨⟨l⟩⟩ * n.toNat) maxRoom = true := Nat.ble_eq_true_of_le (by
   show l.length * n.toNat ≤ 2 ^ 47
   have : l.length * n.toNat ≤ 1000000 * 100000 := Nat.mul_le_mul h3 (by omega)
   omega)
  show (bif decide (0 ≤ n) && Nat.ble n.toNat maxRoom && Nat.ble (ByteArray.size ⟨⟨l⟩⟩ * n.toNat) maxRoom then _ else none) = _
  rw [e1, e2, e3]
  rfl
 ·cases hs
theorem join_flat : ∀ xs : List (List UInt8), Lib.join xs [] = xs.flatten := by
 intro xs
 cases xs with
 | nil => rfl
 | cons x r => rw [Lib.join_cons]; simp [Lib.joinTail]
theorem ok61 {T : Tab} (O : TabOk Tryz.prog Door.cfg T) : TabOk Tryz.prog Door.cfg (T.addC 61 C61) := by
 refine addC_ok O fun args h s hs hp => ?_
 unfold C61 at hs
 split at hs
 ·rename_i els tok sep
  split at hs
  ·rename_i xs hx
   refine nspec_ok (Option.some.inj hs) (fun hpre => ?_) hp
   obtain ⟨h1, h2, h3⟩ := hpre
   rw [List.length_map] at h2
   have h1 : sep.data.toList = [] := by simpa using h1
   have hj : Lib.join (xs.map (·.data.toList)) sep.data.toList = (xs.map fun s => s.data.toList).flatten := by rw [h1, join_flat]
   refine EvP.prim (p := joinP) rfl (v := aStr (Lib.join (xs.map (·.data.toList)) sep.data.toList)) (h' := h) ?_ ⟨by rw [hj], rfl⟩
   unfold joinP
   simp only [hx]
   have e1 : Nat.ble xs.length maxRoom = true := Nat.ble_eq_true_of_le (by unfold maxRoom; omega)
   have e2 : Nat.ble (Lib.join (xs.map (·.data.toList)) sep.data.toList).length maxRoom = true := Nat.ble_eq_true_of_le (by rw [hj]; unfold maxRoom; omega)
   rw [e1, e2]
   rfl
  ·cases hs
 ·cases hs
def is43w (r : Nat) : Bool :=
 match evCall Door.cfg Tryz.prog 200 34 [aStr whole, aK .i32 r] heapF with
 | some (.sc (.bool b), _) => b == whole.contains (UInt8.ofNat r)
 | _ => false
theorem all43w : (List.range 256).all is43w = true := by decide +kernel
theorem is43w_ok {r : Nat} (hr : r < 256) : ∃ h', evCall Door.cfg Tryz.prog 200 34 [aStr whole, aK .i32 r] heapF = some (aBool (whole.contains (UInt8.ofNat r)), h') := by
 have h := List.all_eq_true.1 all43w r (by simp [hr])
 unfold is43w at h
 split at h
 ·rename_i b h' he
  have : b = whole.contains (UInt8.ofNat r) := by simpa using h
  exact ⟨h', by rw [he, this]; rfl⟩
 ·cases h
theorem ok43' {T : Tab} (O : TabOk Tryz.prog Door.cfg T) : TabOk Tryz.prog Door.cfg (T.addC 34 C43') := by
 refine addC_ok O fun args h s hs hp => ?_
 unfold C43' at hs
 split at hs
 ·rename_i s0 r
  obtain ⟨⟨l⟩⟩ := s0
  refine nspec_ok (Option.some.inj hs) (fun hpre => ?_) hp
  obtain ⟨h1, h2, h3⟩ := hpre
  obtain ⟨n, rfl⟩ := Int.eq_ofNat_of_zero_le h2
  replace h1 : l = kinds ∨ l = whole := h1
  rcases h1 with rfl | rfl
  ·obtain ⟨h', he⟩ := is43_ok (r := n) (by omega)
   exact EvP.fresh (by kernel_rfl) (by kernel_rfl) (args' := [aStr kinds, aK .i32 n]) rfl ⟨200, _, h', he, rfl, rfl⟩
  ·obtain ⟨h', he⟩ := is43w_ok (r := n) (by omega)
   exact EvP.fresh (by kernel_rfl) (by kernel_rfl) (args' := [aStr whole, aK .i32 n]) rfl ⟨200, _, h', he, rfl, rfl⟩
 ·cases hs
def padF (d : Dir) (s r : List UInt8) : List UInt8 :=
 if d.minus then s ++ r ++ List.replicate (d.width - s.length - r.length).toNat 32
 else if d.zero ∧ (d.kind = 102 ∨ whole.contains (UInt8.ofNat d.kind.toNat) = true ∧ d.prec = -1) then s ++ List.replicate (d.width - s.length - r.length).toNat 48 ++ r
 else List.replicate (d.width - s.length - r.length).toNat 32 ++ s ++ r
def C25 (args : List AV) (h : Heap) : Option CSpec :=
 match args with
 | [.agg [.sc (.bool a), .sc (.bool b), .sc (.bool c), .sc (.bool e), .sc (.int .i64 w), .sc (.int .i64 p), .sc (.int .u8 k)], .sc (.string s), .sc (.string r)] =>
  some (nspec (-1000 ≤ w ∧ w ≤ 1000 ∧ 0 ≤ k ∧ k ≤ 255 ∧ s.data.toList.length ≤ 1000000 ∧ r.data.toList.length ≤ 1000000) (padF ⟨a, b, c, e, w, p, k⟩ s.data.toList r.data.toList) (fun x => aStr x) h)
 | _ => none
def Z1 : Tab := (((T3.addC 33 C42).addC 61 C61).addC 34 C43').name 15 7
def Z2 : Tab := Z1.addC 15 C25
end
end Go.Proofs.Pr
namespace Go.Proofs.Pr
open Go Go.Ef
noncomputable section
set_option maxRecDepth 100000
theorem c25 (d : Dir) (s : List UInt8) (r : List UInt8) (K : AV → Prop) (h :
 ∀ (m : Int), m = max (IntKind.i64.wrap (IntKind.i64.wrap (d.width - (↑s.length : Int)) - (↑r.length : Int))) 0 → (0 ≤ m ∧ m ≤ 100000 ∧ (1 : Nat) ≤ 1000000) ∧ ∀ (x : List UInt8), x = (List.replicate m.toNat [(32 : UInt8)]).flatten → (([(100 : UInt8), (105 : UInt8), (111 : UInt8), (120 : UInt8), (88 : UInt8), (117 : UInt8)] = kinds ∨
 [(100 : UInt8), (105 : UInt8), (111 : UInt8), (120 : UInt8), (88 : UInt8), (117 : UInt8)] = whole) ∧ 0 ≤ IntKind.i32.wrap d.kind ∧ IntKind.i32.wrap d.kind ≤ 255) ∧ ∀ (x_1 : Bool), x_1 = [(100 : UInt8), (105 : UInt8), (111 : UInt8), (120 : UInt8), (88 : UInt8), (117 : UInt8)].contains (UInt8.ofNat (IntKind.i32.wrap d.kind).toNat) → iteP x_1 (iteP d.minus
 ((true = true ∧ [s, r, x].length ≤ 1000 ∧ [s, r, x].flatten.length ≤ 10000000) ∧ ∀ (x_2 : List UInt8), x_2 = [s, r, x].flatten → K (AV.sc (Value.string { data := { toList := x_2 } }))) (iteP d.zero (iteP (d.kind == 102) ((0 ≤ max m 0 ∧ max m (0 : Int) ≤ 100000 ∧ (1 : Nat) ≤ 1000000) ∧ ∀ (x : List UInt8), x = (List.replicate (max m 0).toNat [(48 : UInt8)]).flatten → (true = true ∧
 [s, x, r].length ≤ 1000 ∧ [s, x, r].flatten.length ≤ 10000000) ∧ ∀ (x_2 : List UInt8), x_2 = [s, x, r].flatten → K (AV.sc (Value.string { data := { toList := x_2 } }))) (iteP (d.prec == (-1)) ((0 ≤ max m 0 ∧ max m (0 : Int) ≤ 100000 ∧ (1 : Nat) ≤ 1000000) ∧ ∀ (x : List UInt8), x = (List.replicate (max m 0).toNat [(48 : UInt8)]).flatten → (true = true ∧
 [s, x, r].length ≤ 1000 ∧ [s, x, r].flatten.length ≤ 10000000) ∧ ∀ (x_2 : List UInt8), x_2 = [s, x, r].flatten → K (AV.sc (Value.string { data := { toList := x_2 } }))) ((true = true ∧ [x, s, r].length ≤ 1000 ∧ [x, s, r].flatten.length ≤ 10000000) ∧ ∀ (x_2 : List UInt8), x_2 = [x, s, r].flatten → K (AV.sc (Value.string { data := { toList := x_2 } })))))
 ((true = true ∧ [x, s, r].length ≤ 1000 ∧ [x, s, r].flatten.length ≤ 10000000) ∧ ∀ (x_2 : List UInt8), x_2 = [x, s, r].flatten → K (AV.sc (Value.string { data := { toList := x_2 } }))))) (iteP d.minus ((true = true ∧ [s, r, x].length ≤ 1000 ∧ [s, r, x].flatten.length ≤ 10000000) ∧ ∀ (x_2 : List UInt8), x_2 = [s, r, x].flatten → K (AV.sc (Value.string { data := { toList := x_2 } }))) (iteP d.zero
 (iteP (d.kind == 102) ((0 ≤ max m 0 ∧ max m (0 : Int) ≤ 100000 ∧ (1 : Nat) ≤ 1000000) ∧ ∀ (x : List UInt8), x = (List.replicate (max m 0).toNat [(48 : UInt8)]).flatten → (true = true ∧ [s, x, r].length ≤ 1000 ∧ [s, x, r].flatten.length ≤ 10000000) ∧ ∀ (x_2 : List UInt8), x_2 = [s, x, r].flatten → K (AV.sc (Value.string { data := { toList := x_2 } })))
 ((true = true ∧ [x, s, r].length ≤ 1000 ∧ [x, s, r].flatten.length ≤ 10000000) ∧ ∀ (x_2 : List UInt8), x_2 = [x, s, r].flatten → K (AV.sc (Value.string { data := { toList := x_2 } })))) ((true = true ∧ [x, s, r].length ≤ 1000 ∧ [x, s, r].flatten.length ≤ 10000000) ∧ ∀ (x_2 : List UInt8), x_2 = [x, s, r].flatten → K (AV.sc (Value.string { data := { toList := x_2 } })))))) :
 (fun (d : Dir) (s r : List UInt8) (K : AV → Prop) => wpCall Z1 Door.cfg Tryz.prog 40 15 [.agg d.cells, aStr s, aStr r] heapF fun r h' => wpBack h' r K) d s r K :=
 Eq.mp (by kernel_rfl) h
end
end Go.Proofs.Pr
namespace Go.Proofs.Pr
open Go Go.Ef
noncomputable section
set_option maxRecDepth 100000
theorem rep_one (n : Nat) (a : UInt8) : (List.replicate n [a]).flatten = List.replicate n a := by
 induction n with
 | zero => rfl
 | succ n ih => simp [List.replicate_succ, ih]
theorem okZ1 : TabOk Tryz.prog Door.cfg Z1 := name_ok (ok43' (ok61 (ok42 ok31))) _ _
theorem okZ2 : TabOk Tryz.prog Door.cfg Z2 := by
 refine addC_ok okZ1 fun args h s hs hp => ?_
 unfold C25 at hs
 split at hs
 ·rename_i a b c e w p k s0 r0
  obtain ⟨⟨s1⟩⟩ := s0
  obtain ⟨⟨r1⟩⟩ := r0
  refine nspec_ok (Option.some.inj hs) (fun hpre => ?_) hp
  obtain ⟨p1, p2, p3, p4, p5, p6⟩ := hpre
  replace p5 : s1.length ≤ 1000000 := p5
  replace p6 : r1.length ≤ 1000000 := p6
  refine EvP.freshV okZ1 (n := 40) (by kernel_rfl) (by kernel_rfl) (args' := [.agg (Dir.cells ⟨a, b, c, e, w, p, k⟩), aStr s1, aStr r1]) rfl (c25 ⟨a, b, c, e, w, p, k⟩ s1 r1 _ ?_)
  have w1 : IntKind.i64.wrap (w - s1.length) = w - s1.length := wrap_in (by omega) (by omega)
  have w2 : IntKind.i64.wrap (w - s1.length - r1.length) = w - s1.length - r1.length := wrap_in (by omega) (by omega)
  have w3 : IntKind.i32.wrap k = k := by rw [wrap32]; omega
  intro m hm
  replace hm : m = max (w - s1.length - r1.length) 0 := by rw [hm]; show max (IntKind.i64.wrap (IntKind.i64.wrap (w - s1.length) - r1.length)) 0 = _; rw [w1, w2]
  have m1 : max m 0 = m := by omega
  have m2 : m.toNat = (w - s1.length - r1.length).toNat := by omega
  refine ⟨⟨by omega, by omega, by decide⟩, fun x hx => ?_⟩
  rw [rep_one] at hx
  refine ⟨⟨.inr rfl, by show 0 ≤ IntKind.i32.wrap k; omega, by show IntKind.i32.wrap k ≤ 255; omega⟩, fun x1 hx1 => ?_⟩
  replace hx1 : x1 = whole.contains (UInt8.ofNat k.toNat) := by rw [hx1]; show whole.contains (UInt8.ofNat (IntKind.i32.wrap k).toNat) = _; rw [w3]
  have hl : x.length ≤ 1000 := by rw [hx, List.length_replicate]; omega
  have len3 : ∀ u v t : List UInt8, u.length ≤ 1000000 → v.length ≤ 1000000 → t.length ≤ 1000000 → [u, v, t].flatten.length ≤ 10000000 := by
   intro u v t h1 h2 h3; simp; omega
  have A : ∀ u v t : List UInt8, [u, v, t].flatten = u ++ v ++ t := by intro u v t; simp
  have leaf : ∀ (K : AV → Prop) (u v t : List UInt8), u.length ≤ 1000000 → v.length ≤ 1000000 → t.length ≤ 1000000 → K (AV.sc (Value.string ⟨⟨u ++ v ++ t⟩⟩)) → (true = true ∧ [u, v, t].length ≤ 1000 ∧ [u, v, t].flatten.length ≤ 10000000) ∧ ∀ x2 : List UInt8, x2 = [u, v, t].flatten → K (AV.sc (Value.string ⟨⟨x2⟩⟩)) := by
   intro K u v t h1 h2 h3 hk
   refine ⟨⟨rfl, by show 3 ≤ 1000; decide, len3 u v t h1 h2 h3⟩, fun x2 e => ?_⟩
   rw [e, A]; exact hk
  have lx : x.length ≤ 1000000 := by omega
  have zero : ∀ (K : AV → Prop), K (AV.sc (Value.string ⟨⟨s1 ++ List.replicate (w - s1.length - r1.length).toNat 48 ++ r1⟩⟩)) → (0 ≤ max m 0 ∧ max m 0 ≤ 100000 ∧ 1 ≤ 1000000) ∧ ∀ x : List UInt8, x = (List.replicate (max m 0).toNat [48]).flatten → (true = true ∧ [s1, x, r1].length ≤ 1000 ∧ [s1, x, r1].flatten.length ≤ 10000000) ∧ ∀ x2 : List UInt8, x2 = [s1, x, r1].flatten → K (AV.sc (Value.string ⟨⟨x2⟩⟩)) := by
   intro K hk
   refine ⟨⟨by omega, by omega, by decide⟩, fun x hx => ?_⟩
   rw [rep_one, m1, m2] at hx
   refine leaf K _ _ _ p5 (by rw [hx, List.length_replicate]; omega) p6 (by rw [hx]; exact hk)
  rw [m2] at hx
  have L1 := fun R hk => leaf (fun v => v = aStr R) s1 r1 x p5 p6 lx hk
  have L3 := fun R hk => leaf (fun v => v = aStr R) x s1 r1 lx p5 p6 hk
  have L2 := fun R hk => zero (fun v => v = aStr R) hk
  have I : ∀ {q : Bool} {A B : Prop}, (q = true → A) → (q = false → B) → iteP q A B := fun h1 h2 => iteP_iff ▸ ⟨h1, h2⟩
  have P1 : a = true → x = List.replicate (w - s1.length - r1.length).toNat 32 → AV.sc (Value.string ⟨⟨s1 ++ r1 ++ x⟩⟩) = aStr (padF ⟨a, b, c, e, w, p, k⟩ s1 r1) := by
   intro e1 e2; simp only [padF, e1, e2, if_pos]; rfl
  have P2 : a = false → b = true → (k = 102 ∨ x1 = true ∧ p = -1) → AV.sc (Value.string ⟨⟨s1 ++ List.replicate (w - s1.length - r1.length).toNat 48 ++ r1⟩⟩) = aStr (padF ⟨a, b, c, e, w, p, k⟩ s1 r1) := by
   intro e1 e2 e3
   rw [hx1] at e3
   show _ = aStr (if a = true then _ else if b = true ∧ (k = 102 ∨ whole.contains (UInt8.ofNat k.toNat) = true ∧ p = -1) then _ else _)
   rw [if_neg (by rw [e1]; decide), if_pos ⟨e2, e3⟩]; rfl
  have P3 : a = false → ¬ (b = true ∧ (k = 102 ∨ x1 = true ∧ p = -1)) → AV.sc (Value.string ⟨⟨x ++ s1 ++ r1⟩⟩) = aStr (padF ⟨a, b, c, e, w, p, k⟩ s1 r1) := by
   intro e1 e3
   rw [hx1] at e3
   show _ = aStr (if a = true then _ else if b = true ∧ (k = 102 ∨ whole.contains (UInt8.ofNat k.toNat) = true ∧ p = -1) then _ else _)
   rw [if_neg (by rw [e1]; decide), if_neg e3, hx]; rfl
  refine I (fun e1 => I (fun e2 => L1 _ (P1 e2 hx)) (fun e2 => I (fun e3 => I (fun e4 => L2 _ (P2 e2 e3 (.inl (by simpa using e4)))) (fun e4 => I (fun e5 => L2 _ (P2 e2 e3 (.inr ⟨e1, by simpa using e5⟩))) (fun e5 => L3 _ (P3 e2 ?_)))) (fun e3 => L3 _ (P3 e2 ?_))))
   (fun e1 => I (fun e2 => L1 _ (P1 e2 hx)) (fun e2 => I (fun e3 => I (fun e4 => L2 _ (P2 e2 e3 (.inl (by simpa using e4)))) (fun e4 => L3 _ (P3 e2 ?_))) (fun e3 => L3 _ (P3 e2 ?_))))
  ·have e4 : k ≠ 102 := by simpa using e4
   have e5 : p ≠ -1 := by simpa using e5
   rintro ⟨_, q | ⟨_, q⟩⟩
   ·exact e4 q
   ·exact e5 q
  ·rintro ⟨q, _⟩
   have e3 : b = false := e3
   rw [e3] at q; cases q
  ·have e4 : k ≠ 102 := by simpa using e4
   rintro ⟨_, q | ⟨q, _⟩⟩
   ·exact e4 q
   ·rw [e1] at q; cases q
  ·rintro ⟨q, _⟩
   have e3 : b = false := e3
   rw [e3] at q; cases q
 ·cases hs
end
end Go.Proofs.Pr
namespace Go.Proofs.Pr
open Go Go.Ef
noncomputable section
abbrev Cells := List (List AV)
def nilA : AV := .sc (.slice none 0 0)
def hS (a : AV) (b : List AV) : Heap := { next := 4, objs := ((Tr.leaf.set 1 (.cells [a])).set 2 (.cells [.ptr 1 0])).set 3 (.cells b), ro := 1, ty := ((Tr.leaf.set 1 (35, 1)).set 2 (33, 1)).set 3 (39, 2) }
def byteCells (b : List UInt8) : Cells := b.map fun c => [aK .u8 c.toNat]
def hA (a : AV) : Heap := hS a [.sc (.pointer none), .sc (.slice none 0 0)]
def hB (a : AV) : Heap := hS a [.ptr 3 0, .sc (.slice none 0 0)]
def hC (a : AV) (b : Cells) (n : Nat) : Heap := { next := 5, objs := (((Tr.leaf.set 1 (.cells [a])).set 2 (.cells [.ptr 1 0])).set 3 (.cells [.ptr 3 0, .sl b 5])).set 4 (.own 1 5 n), ro := 1, ty := ((Tr.leaf.set 1 (35, 1)).set 2 (33, 1)).set 3 (39, 2) }
def hArg (h : Heap) : AV :=
 match h.objs.get 1 with
 | some (.cells [a]) => a
 | _ => nilA
def hBytes (h : Heap) : Cells :=
 match h.objs.get 3 with
 | some (.cells [_, .sl l _]) => l
 | _ => []
def hN (h : Heap) : Nat :=
 match h.objs.get 4 with
 | some (.own _ _ n) => n
 | _ => 0
def IS (s : List UInt8) (h : Heap) : St := stOf 41 [(0, sStr s), (1, .v (.fn (.func 11) [] [.ptr 3 0, .ptr 2 0]))] [] h
def sB (a : AV) : St := IS [] (hB a)
def sC (a : AV) (b : Cells) (n : Nat) : St := IS [] (hC a b n)
theorem IS_heap {s s' : List UInt8} {h h' : Heap} (e : IS s h = IS s' h') : h = h' := congrArg St.h e
def C36n (_ : List AV) (_ : Heap) : Option CSpec := some { pre := False, alts := [] }
end
end Go.Proofs.Pr
namespace Go.Proofs.Pr
open Go Go.Ef
noncomputable section
set_option maxRecDepth 100000
theorem evp_plain {g : FuncId} {args : List AV} {h : Heap} {K : AV → Heap → Prop} (hf : Door.cfg.fresh g = false) (hp : Door.cfg.prim g = none) (H : EvC Door.cfg Tryz.prog g args h K) : EvP Door.cfg Tryz.prog g args h K := by
 obtain ⟨m, r, h', h1, h2⟩ := H
 refine ⟨m, r, h', ?_, h2⟩
 unfold callP
 rw [hp]; simp only []; rw [hf]
 exact h1
end
end Go.Proofs.Pr
namespace Go.Ef
open Go
noncomputable section
section
variable {P : Program} {C : Cfg} {T : Tab}
theorem Ev.round (O : TabOk P C T) {n f i : Nat} {t : Tidy} {σ : St} {N : St → Prop} {X : Ex → St → Prop} {K : KR} (hi : firstId 8 (loopAt P f i) = i) (ht : C.tidy f i = some t) (hcan : σ.tidy t.head t.nloc = σ)
  (hs : wpRound T C P n f i σ N X) (hN : ∀ τ, N τ → Ev C P f (.loop (loopAt P f i)) τ K) (hX : ∀ e τ, X e τ → K e τ) : Ev C P f (.loop (loopAt P f i)) σ K := by
 unfold wpRound at hs
 rw [ht] at hs
 refine Ev.loopT (t := t) (by rw [hi]; exact ht) ?_
 rw [hcan]
 refine (code_okW O n f _ _ _ hs).mono fun e τ h => ?_
 cases e with
 | normal => exact Ev.tidied (t := t) (τ := τ.tidy t.head t.nloc) (by rw [hi]; exact ht) (tidy_tidy _ _ _).symm (hN _ h)
 | exit j => exact hX _ _ h
 | ret => exact hX _ _ h
theorem nspec_ok2 {g : FuncId} {args : List AV} {h h1 : Heap} {α : Type} {pre : Prop} {r : α} {val : α → AV} {s : CSpec} (hs : nspec pre r val h1 = s) (H : pre → EvP C P g args h fun v h' => v = val r ∧ h' = h1) (hp : s.pre) :
  ∃ a ∈ s.alts, ∃ x m, a.post x ∧ callP C (evCall C P m) g args h = some (a.val x, a.heap x) := by
 subst hs
 obtain ⟨m, v, h', g1, rfl, rfl⟩ := H hp
 exact ⟨_, List.mem_singleton.2 rfl, r, m, rfl, g1⟩
end
end
end Go.Ef
namespace Go.Proofs.Pr
open Go Go.Ef
noncomputable section
def IA (s : List UInt8) (a : AV) : St := IS s (hA a)
def IB (s : List UInt8) (a : AV) : St := IS s (hB a)
def IC (s : List UInt8) (a : AV) (b : Cells) (n : Nat) : St := IS s (hC a b n)
def JS (e : Int) (h : Heap) : St := stOf 41 [(4, sInt e)] [] h
def JB (e : Int) (a : AV) : St := JS e (hB a)
def JC (e : Int) (a : AV) (b : Cells) (n : Nat) : St := JS e (hC a b n)
def shp (h : Heap) : Nat :=
 match h.objs.get 3 with
 | some (.cells [.sc _, _]) => 0
 | some (.cells [_, .sl _ _]) => 2
 | _ => 1
end
end Go.Proofs.Pr
namespace Go.Proofs.Pr
open Go Go.Ef
noncomputable section
set_option maxRecDepth 100000
theorem one_cells (l : List UInt8) : ((l.map fun (b : UInt8) => [AV.sc (Value.int IntKind.u8 (b.toNat : Int))]).all fun (e : List AV) => e.all AV.one) = true := by
 rw [List.all_map]
 exact List.all_eq_true.2 fun _ _ => rfl
theorem fits_cells (l : List UInt8) (h : l.length ≤ 100000000) : fits (l.map fun (b : UInt8) => [AV.sc (Value.int IntKind.u8 (b.toNat : Int))]).length 1 = true := by
 rw [List.length_map]
 have h1 : Nat.ble (l.length * 1) maxRoom = true := Nat.ble_eq_true_of_le (by unfold maxRoom; omega)
 have h2 : Nat.ble l.length maxRoom = true := Nat.ble_eq_true_of_le (by unfold maxRoom; omega)
 show (Nat.ble (l.length * 1) maxRoom && Nat.ble l.length maxRoom) = true
 rw [h1, h2]; rfl
theorem allLen_cells (l : List UInt8) : allLen 1 (l.map fun (b : UInt8) => [AV.sc (Value.int IntKind.u8 (b.toNat : Int))]) = true := by
 unfold allLen
 rw [List.all_map]
 exact List.all_eq_true.2 fun _ _ => rfl
theorem copy_ok {T T' : Tab} (O : TabOk Tryz.prog Door.cfg T) (O' : TabOk Tryz.prog Door.cfg T') {g : Nat} {t : List AV → Heap → Option CSpec} (hc : T'.call g = some t) : TabOk Tryz.prog Door.cfg (T.addC g t) :=
 addC_ok O fun args h s hs hp => O'.call g t args h s hc hs hp
theorem cells_append (u s : List UInt8) : byteCells u ++ s.map (fun (b : UInt8) => [AV.sc (Value.int IntKind.u8 (b.toNat : Int))]) = byteCells (u ++ s) := (List.map_append ..).symm
theorem cells_len (u : List UInt8) : (byteCells u).length = u.length := List.length_map ..
end
end Go.Proofs.Pr
