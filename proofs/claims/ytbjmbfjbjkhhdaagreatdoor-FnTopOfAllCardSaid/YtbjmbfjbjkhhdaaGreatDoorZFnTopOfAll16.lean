/- Made small by wip/pack.py: lemmas and contracts that the law's row leans on. -/
import Derived.Test.YtbjmbfjbjkhhdaaGreatDoorZFnTopOfAll49
import Derived.RowKit
import Derived.Lib.AppendIntMem
import Derived.Shelf.Strconv.Itoa4
import Derived.Test.YtbjmbfjbjkhhdaaGreatDoorProg
namespace Go.Proofs
open Go.Shelf
def Tryz.laysM173_ren : Go.Shelf.Ren := ⟨fun | 173 => 37 | 246 => 76 | 283 => 106 | 284 => 107 | 285 => 108 | 286 => 109 | 129 => 84 | 317 => 140 | 318 => 141 | 319 => 142 | 320 => 143 | 337 => 166 | 338 => 167 | n => n, fun | 2 => 2 | 3 => 3 | 9 => 9 | 4 => 4 | 171 => 123 | 0 => 0 | 53 => 37 | 37 => 59 | 5 => 5 | 173 => 125 | 212 => 151 | 51 => 127 | 20 => 20 | 213 => 152 | 46 => 90 | 232 => 182 | 233 => 183 | n => n, fun | 17 => 0 | 18 => 2 | 19 => 3 | n => n⟩
theorem Tryz.laysM173 : Go.Proofs.LaysM.n173 Tryz.prog Tryz.laysM173_ren := {
 mixed := by kernel_rfl
 f129 := Tryz.func84.trans (congrArg some Qi0_)
 f173 := Tryz.func37.trans (congrArg some Qi0_)
 f246 := Tryz.func76.trans (congrArg some Qi0_)
 f283 := Tryz.func106.trans (congrArg some Qi0_)
 f284 := Tryz.func107.trans (congrArg some Qi0_)
 f285 := Tryz.func108.trans (congrArg some Qi0_)
 f286 := Tryz.func109.trans (congrArg some Qi0_)
 f317 := Tryz.func140.trans (congrArg some Qi0_)
 f318 := Tryz.func141.trans (congrArg some Qi0_)
 f319 := Tryz.func142.trans (congrArg some Qi0_)
 f320 := Tryz.func143.trans (congrArg some Qi0_)
 f337 := Tryz.func166.trans (congrArg some Qi0_)
 f338 := Tryz.func167.trans (congrArg some Qi0_)
 t0 := Tryz.underlying0
 a0 := Tryz.isAgg0
 z0 := Tryz.sizeOf0
 v0 := Tryz.zeroValue0
 t2 := Tryz.underlying2
 a2 := Tryz.isAgg2
 z2 := Tryz.sizeOf2
 v2 := Tryz.zeroValue2
 t3 := Tryz.underlying3
 a3 := Tryz.isAgg3
 z3 := Tryz.sizeOf3
 v3 := Tryz.zeroValue3
 t4 := Tryz.underlying4
 a4 := Tryz.isAgg4
 z4 := Tryz.sizeOf4
 v4 := Tryz.zeroValue4
 t5 := Tryz.underlying5
 a5 := Tryz.isAgg5
 z5 := Tryz.sizeOf5
 v5 := Tryz.zeroValue5
 t9 := Tryz.underlying9
 a9 := Tryz.isAgg9
 z9 := Tryz.sizeOf9
 v9 := Tryz.zeroValue9
 t20 := Tryz.underlying20
 a20 := Tryz.isAgg20
 z20 := Tryz.sizeOf20
 v20 := Tryz.zeroValue20
 t37 := Tryz.underlying59
 a37 := Tryz.isAgg59
 z37 := Tryz.sizeOf59
 v37 := Tryz.zeroValue59
 t46 := Tryz.underlying90
 a46 := Tryz.isAgg90
 z46 := Tryz.sizeOf90
 v46 := Tryz.zeroValue90
 t51 := Tryz.underlying127
 a51 := Tryz.isAgg127
 z51 := Tryz.sizeOf127
 v51 := Tryz.zeroValue127
 t53 := Tryz.underlying37
 a53 := Tryz.isAgg37
 z53 := Tryz.sizeOf37
 v53 := Tryz.zeroValue37
 t171 := Tryz.underlying123
 a171 := Tryz.isAgg123
 z171 := Tryz.sizeOf123
 v171 := Tryz.zeroValue123
 t173 := Tryz.underlying125
 a173 := Tryz.isAgg125
 z173 := Tryz.sizeOf125
 v173 := Tryz.zeroValue125
 t212 := Tryz.underlying151
 a212 := Tryz.isAgg151
 z212 := Tryz.sizeOf151
 v212 := Tryz.zeroValue151
 t213 := Tryz.underlying152
 a213 := Tryz.isAgg152
 z213 := Tryz.sizeOf152
 t232 := Tryz.underlying182
 a232 := Tryz.isAgg182
 z232 := Tryz.sizeOf182
 v232 := Tryz.zeroValue182
 t233 := Tryz.underlying183
 a233 := Tryz.isAgg183
 z233 := Tryz.sizeOf183
 v233 := Tryz.zeroValue183
 g17 := by kernel_rfl
 g18 := by kernel_rfl
 g19 := by kernel_rfl
 i0 := by kernel_rfl
 i2 := by kernel_rfl
 i3 := by kernel_rfl
 i4 := by kernel_rfl
 i5 := by kernel_rfl
 i9 := by kernel_rfl
 i20 := by kernel_rfl
 i37 := by kernel_rfl
 i46 := by kernel_rfl
 i51 := by kernel_rfl
 i53 := by kernel_rfl
 i171 := by kernel_rfl
 i173 := by kernel_rfl
 i212 := by kernel_rfl
 i232 := by kernel_rfl
 i233 := by kernel_rfl
 m17 := by kernel_rfl
 m18 := by kernel_rfl
 m19 := Qi0_ }
open Go.RowKit Go.Lib in
theorem Tryz.strconv_FormatInt_10 (n : Int) (h0 : -9223372036854775808 ≤ n) (h1 : n ≤ 9223372036854775807) (w : World) (htab : Lib.TabIs Tryz.prog w "internal/strconv.uint64pow10" .u64 Lib.pow10Tab) :
 Calls Tryz.prog 37 #[.int .i64 n, .int .i64 10] w fun e w' => e = .returned (.string ⟨(Lib.itoa n).toArray⟩) ∧ ∃ k os, w' = Go.Sort.grow (w.drewN k) os := Any.strconv_FormatInt_10 Tryz.laysM173 n h0 h1 w htab
end Go.Proofs
