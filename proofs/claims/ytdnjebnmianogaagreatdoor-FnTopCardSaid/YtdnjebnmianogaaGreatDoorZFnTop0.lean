/- Made small by wip/pack.py: lemmas and contracts that the law's row leans on. -/
import Derived.Test.YtdnjebnmianogaaGreatDoorZFnTop48
import Derived.RowKit
import Derived.Lib.SliceRun
import Derived.Shelf.Strconv.Itoa0
import Derived.Shelf.Strings.SlTrimAscii
import Derived.Test.YtdnjebnmianogaaGreatDoorProg
namespace Go.Proofs
open Go.Shelf
def Tryz.lays129_ren : Go.Shelf.Ren := ⟨fun | 129 => 67 | n => n, fun | 53 => 83 | 3 => 3 | 4 => 4 | 46 => 53 | 5 => 5 | 9 => 9 | n => n, fun | n => n⟩
theorem Tryz.lays129 : Go.Proofs.Lays.n129 Tryz.prog Tryz.lays129_ren := {
 mixed := by kernel_rfl
 f129 := Tryz.func67.trans (congrArg some Qh0_)
 t3 := Tryz.underlying3
 a3 := Tryz.isAgg3
 z3 := Tryz.sizeOf3
 v3 := Tryz.zeroValue3
 t4 := Tryz.underlying4
 a4 := Tryz.isAgg4
 z4 := Tryz.sizeOf4
 v4 := Tryz.zeroValue4
 t5 := Tryz.underlying5
 a5 := Tryz.isAgg5
 z5 := Tryz.sizeOf5
 v5 := Tryz.zeroValue5
 t9 := Tryz.underlying9
 a9 := Tryz.isAgg9
 z9 := Tryz.sizeOf9
 v9 := Tryz.zeroValue9
 t46 := Tryz.underlying53
 a46 := Tryz.isAgg53
 z46 := Tryz.sizeOf53
 v46 := Tryz.zeroValue53
 t53 := Tryz.underlying83
 a53 := Tryz.isAgg83
 z53 := Tryz.sizeOf83
 v53 := Tryz.zeroValue83 }
open Go.RowKit Go.Lib in
theorem Tryz.bits_Len64 (x : Int) (w : World) (h0 : 0 ≤ x) (h1 : x ≤ 18446744073709551615) :
 Calls Tryz.prog 67 #[.int .u64 x] w fun e w' => e = .returned (.int .i64 (Lib.bitLen x.toNat)) ∧ w' = w := Any.bits_Len64 Tryz.lays129 x w h0 h1
def Tryz.lays160_ren : Go.Shelf.Ren := ⟨fun | 160 => 83 | 232 => 105 | 231 => 104 | 227 => 106 | 234 => 108 | 233 => 107 | 236 => 110 | 235 => 109 | 228 => 123 | 271 => 125 | 151 => 124 | 197 => 112 | 120 => 140 | 152 => 139 | 260 => 126 | 137 => 147 | 119 => 148 | 224 => 129 | 225 => 128 | 217 => 127 | 266 => 141 | n => n, fun | 9 => 9 | 4 => 4 | 3 => 3 | 5 => 5 | 117 => 143 | 116 => 142 | 0 => 0 | 124 => 146 | 21 => 21 | 105 => 148 | 46 => 53 | 119 => 170 | 139 => 173 | 138 => 172 | n => n, fun | 3 => 4 | 4 => 5 | n => n⟩
theorem Tryz.lays160 : Go.Proofs.Lays.n160 Tryz.prog Tryz.lays160_ren := {
 mixed := by kernel_rfl
 f119 := Tryz.func148.trans (congrArg some Qh0_)
 f120 := Tryz.func140.trans (congrArg some Qh0_)
 f137 := Tryz.func147.trans (congrArg some Qh0_)
 f151 := Tryz.func124.trans (congrArg some Qh0_)
 f152 := Tryz.func139.trans (congrArg some Qh0_)
 f160 := Tryz.func83.trans (congrArg some Qh0_)
 f197 := Tryz.func112.trans (congrArg some Qh0_)
 f217 := Tryz.func127.trans (congrArg some Qh0_)
 f224 := Tryz.func129.trans (congrArg some Qh0_)
 f225 := Tryz.func128.trans (congrArg some Qh0_)
 f227 := Tryz.func106.trans (congrArg some Qh0_)
 f228 := Tryz.func123.trans (congrArg some Qh0_)
 f231 := Tryz.func104.trans (congrArg some Qh0_)
 f232 := Tryz.func105.trans (congrArg some Qh0_)
 f233 := Tryz.func107.trans (congrArg some Qh0_)
 f234 := Tryz.func108.trans (congrArg some Qh0_)
 f235 := Tryz.func109.trans (congrArg some Qh0_)
 f236 := Tryz.func110.trans (congrArg some Qh0_)
 f260 := Tryz.func126.trans (congrArg some Qh0_)
 f266 := Tryz.func141.trans (congrArg some Qh0_)
 f271 := Tryz.func125.trans (congrArg some Qh0_)
 t0 := Tryz.underlying0
 a0 := Tryz.isAgg0
 z0 := Tryz.sizeOf0
 v0 := Tryz.zeroValue0
 t3 := Tryz.underlying3
 a3 := Tryz.isAgg3
 z3 := Tryz.sizeOf3
 v3 := Tryz.zeroValue3
 t4 := Tryz.underlying4
 a4 := Tryz.isAgg4
 z4 := Tryz.sizeOf4
 v4 := Tryz.zeroValue4
 t5 := Tryz.underlying5
 a5 := Tryz.isAgg5
 z5 := Tryz.sizeOf5
 v5 := Tryz.zeroValue5
 t9 := Tryz.underlying9
 a9 := Tryz.isAgg9
 z9 := Tryz.sizeOf9
 v9 := Tryz.zeroValue9
 t21 := Tryz.underlying21
 a21 := Tryz.isAgg21
 z21 := Tryz.sizeOf21
 v21 := Tryz.zeroValue21
 t46 := Tryz.underlying53
 a46 := Tryz.isAgg53
 z46 := Tryz.sizeOf53
 v46 := Tryz.zeroValue53
 t105 := Tryz.underlying148
 a105 := Tryz.isAgg148
 z105 := Tryz.sizeOf148
 v105 := Tryz.zeroValue148
 t116 := Tryz.underlying142
 a116 := Tryz.isAgg142
 z116 := Tryz.sizeOf142
 t117 := Tryz.underlying143
 a117 := Tryz.isAgg143
 z117 := Tryz.sizeOf143
 v117 := Tryz.zeroValue143
 t119 := Tryz.underlying170
 a119 := Tryz.isAgg170
 z119 := Tryz.sizeOf170
 t124 := Tryz.underlying146
 a124 := Tryz.isAgg146
 z124 := Tryz.sizeOf146
 v124 := Tryz.zeroValue146
 t138 := Tryz.underlying172
 a138 := Tryz.isAgg172
 z138 := Tryz.sizeOf172
 v138 := Tryz.zeroValue172
 t139 := Tryz.underlying173
 a139 := Tryz.isAgg173
 z139 := Tryz.sizeOf173
 v139 := Tryz.zeroValue173
 g3 := by kernel_rfl
 g4 := Qh0_ }
open Go.RowKit Go.Lib in
theorem Tryz.strings_Trim (s cutset : ByteArray) (w : World) (hs : s.size ≤ 9223372036854775807) (hcs : cutset.size < 4294967281) (hascii : ∀ (j : Nat) b, cutset.data.toList[j]? = some b → b.toNat < 128) :
 Calls Tryz.prog 83 #[.string s, .string cutset] w fun e w' => e = .returned (.string ⟨(Lib.trimS s.data.toList cutset.data.toList).toArray⟩) ∧ Below w.heap.size w w' := Any.strings_Trim_laid Tryz.lays160 Qh0_ s cutset w hs hcs hascii
end Go.Proofs
