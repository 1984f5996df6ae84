/- Made small by wip/pack.py: lemmas and contracts that the law's row leans on. -/
import Derived.Test.YtbjmbfjbjkhhdaaGreatDoorZFnTopOfAll49
import Derived.RowKit
import Derived.Lib.SliceRun
import Derived.Shelf.Strconv.Itoa0
import Derived.Shelf.Strings.SlTrimAscii
import Derived.Test.YtbjmbfjbjkhhdaaGreatDoorProg
namespace Go.Proofs
open Go.Shelf
def Tryz.lays129_ren : Go.Shelf.Ren := ⟨fun | 129 => 84 | n => n, fun | 53 => 37 | 3 => 3 | 4 => 4 | 46 => 90 | 5 => 5 | 9 => 9 | n => n, fun | n => n⟩
theorem Tryz.lays129 : Go.Proofs.Lays.n129 Tryz.prog Tryz.lays129_ren := {
 mixed := by kernel_rfl
 f129 := Tryz.func84.trans (congrArg some Qi0_)
 t3 := Tryz.underlying3
 a3 := Tryz.isAgg3
 z3 := Tryz.sizeOf3
 v3 := Tryz.zeroValue3
 t4 := Tryz.underlying4
 a4 := Tryz.isAgg4
 z4 := Tryz.sizeOf4
 v4 := Tryz.zeroValue4
 t5 := Tryz.underlying5
 a5 := Tryz.isAgg5
 z5 := Tryz.sizeOf5
 v5 := Tryz.zeroValue5
 t9 := Tryz.underlying9
 a9 := Tryz.isAgg9
 z9 := Tryz.sizeOf9
 v9 := Tryz.zeroValue9
 t46 := Tryz.underlying90
 a46 := Tryz.isAgg90
 z46 := Tryz.sizeOf90
 v46 := Tryz.zeroValue90
 t53 := Tryz.underlying37
 a53 := Tryz.isAgg37
 z53 := Tryz.sizeOf37
 v53 := Tryz.zeroValue37 }
open Go.RowKit Go.Lib in
theorem Tryz.bits_Len64 (x : Int) (w : World) (h0 : 0 ≤ x) (h1 : x ≤ 18446744073709551615) :
 Calls Tryz.prog 84 #[.int .u64 x] w fun e w' => e = .returned (.int .i64 (Lib.bitLen x.toNat)) ∧ w' = w := Any.bits_Len64 Tryz.lays129 x w h0 h1
def Tryz.lays160_ren : Go.Shelf.Ren := ⟨fun | 160 => 110 | 232 => 145 | 231 => 144 | 227 => 146 | 234 => 148 | 233 => 147 | 236 => 150 | 235 => 149 | 228 => 168 | 271 => 170 | 151 => 169 | 197 => 152 | 120 => 187 | 152 => 186 | 260 => 171 | 137 => 194 | 119 => 195 | 224 => 174 | 225 => 173 | 217 => 172 | 266 => 188 | n => n, fun | 9 => 9 | 4 => 4 | 3 => 3 | 5 => 5 | 117 => 158 | 116 => 157 | 0 => 0 | 124 => 161 | 21 => 21 | 105 => 163 | 46 => 90 | 119 => 185 | 139 => 188 | 138 => 187 | n => n, fun | 3 => 4 | 4 => 5 | n => n⟩
theorem Tryz.lays160 : Go.Proofs.Lays.n160 Tryz.prog Tryz.lays160_ren := {
 mixed := by kernel_rfl
 f119 := Tryz.func195.trans (congrArg some Qi0_)
 f120 := Tryz.func187.trans (congrArg some Qi0_)
 f137 := Tryz.func194.trans (congrArg some Qi0_)
 f151 := Tryz.func169.trans (congrArg some Qi0_)
 f152 := Tryz.func186.trans (congrArg some Qi0_)
 f160 := Tryz.func110.trans (congrArg some Qi0_)
 f197 := Tryz.func152.trans (congrArg some Qi0_)
 f217 := Tryz.func172.trans (congrArg some Qi0_)
 f224 := Tryz.func174.trans (congrArg some Qi0_)
 f225 := Tryz.func173.trans (congrArg some Qi0_)
 f227 := Tryz.func146.trans (congrArg some Qi0_)
 f228 := Tryz.func168.trans (congrArg some Qi0_)
 f231 := Tryz.func144.trans (congrArg some Qi0_)
 f232 := Tryz.func145.trans (congrArg some Qi0_)
 f233 := Tryz.func147.trans (congrArg some Qi0_)
 f234 := Tryz.func148.trans (congrArg some Qi0_)
 f235 := Tryz.func149.trans (congrArg some Qi0_)
 f236 := Tryz.func150.trans (congrArg some Qi0_)
 f260 := Tryz.func171.trans (congrArg some Qi0_)
 f266 := Tryz.func188.trans (congrArg some Qi0_)
 f271 := Tryz.func170.trans (congrArg some Qi0_)
 t0 := Tryz.underlying0
 a0 := Tryz.isAgg0
 z0 := Tryz.sizeOf0
 v0 := Tryz.zeroValue0
 t3 := Tryz.underlying3
 a3 := Tryz.isAgg3
 z3 := Tryz.sizeOf3
 v3 := Tryz.zeroValue3
 t4 := Tryz.underlying4
 a4 := Tryz.isAgg4
 z4 := Tryz.sizeOf4
 v4 := Tryz.zeroValue4
 t5 := Tryz.underlying5
 a5 := Tryz.isAgg5
 z5 := Tryz.sizeOf5
 v5 := Tryz.zeroValue5
 t9 := Tryz.underlying9
 a9 := Tryz.isAgg9
 z9 := Tryz.sizeOf9
 v9 := Tryz.zeroValue9
 t21 := Tryz.underlying21
 a21 := Tryz.isAgg21
 z21 := Tryz.sizeOf21
 v21 := Tryz.zeroValue21
 t46 := Tryz.underlying90
 a46 := Tryz.isAgg90
 z46 := Tryz.sizeOf90
 v46 := Tryz.zeroValue90
 t105 := Tryz.underlying163
 a105 := Tryz.isAgg163
 z105 := Tryz.sizeOf163
 v105 := Tryz.zeroValue163
 t116 := Tryz.underlying157
 a116 := Tryz.isAgg157
 z116 := Tryz.sizeOf157
 t117 := Tryz.underlying158
 a117 := Tryz.isAgg158
 z117 := Tryz.sizeOf158
 v117 := Tryz.zeroValue158
 t119 := Tryz.underlying185
 a119 := Tryz.isAgg185
 z119 := Tryz.sizeOf185
 t124 := Tryz.underlying161
 a124 := Tryz.isAgg161
 z124 := Tryz.sizeOf161
 v124 := Tryz.zeroValue161
 t138 := Tryz.underlying187
 a138 := Tryz.isAgg187
 z138 := Tryz.sizeOf187
 v138 := Tryz.zeroValue187
 t139 := Tryz.underlying188
 a139 := Tryz.isAgg188
 z139 := Tryz.sizeOf188
 v139 := Tryz.zeroValue188
 g3 := by kernel_rfl
 g4 := Qi0_ }
open Go.RowKit Go.Lib in
theorem Tryz.strings_Trim (s cutset : ByteArray) (w : World) (hs : s.size ≤ 9223372036854775807) (hcs : cutset.size < 4294967281) (hascii : ∀ (j : Nat) b, cutset.data.toList[j]? = some b → b.toNat < 128) :
 Calls Tryz.prog 110 #[.string s, .string cutset] w fun e w' => e = .returned (.string ⟨(Lib.trimS s.data.toList cutset.data.toList).toArray⟩) ∧ Below w.heap.size w w' := Any.strings_Trim_laid Tryz.lays160 Qi0_ s cutset w hs hcs hascii
end Go.Proofs
