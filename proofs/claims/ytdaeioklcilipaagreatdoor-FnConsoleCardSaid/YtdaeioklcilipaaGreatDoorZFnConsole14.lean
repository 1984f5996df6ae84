/- Made small by wip/pack.py: lemmas and contracts that the law's row leans on. -/
import Derived.Test.YtdaeioklcilipaaGreatDoorZFnConsole50
import Derived.RowKit
import Derived.Shelf.Strings.Builder1
import Derived.Shelf.Strings.Repeat
import Derived.Test.YtdaeioklcilipaaGreatDoorProg
namespace Go.Proofs
open Go.Shelf
def Tryz.lays169_ren : Go.Shelf.Ren := ⟨fun | 169 => 20 | n => n, fun | 70 => 43 | 9 => 9 | 0 => 0 | 72 => 45 | 37 => 22 | 127 => 73 | 3 => 3 | 5 => 5 | n => n, fun | n => n⟩
theorem Tryz.lays169 : Go.Proofs.Lays.n169 Tryz.prog Tryz.lays169_ren := {
 mixed := by kernel_rfl
 f169 := Tryz.func20.trans (congrArg some Ql0_)
 t0 := Tryz.underlying0
 a0 := Tryz.isAgg0
 z0 := Tryz.sizeOf0
 v0 := Tryz.zeroValue0
 t3 := Tryz.underlying3
 a3 := Tryz.isAgg3
 z3 := Tryz.sizeOf3
 v3 := Tryz.zeroValue3
 t9 := Tryz.underlying9
 a9 := Tryz.isAgg9
 z9 := Tryz.sizeOf9
 v9 := Tryz.zeroValue9
 t37 := Tryz.underlying22
 a37 := Tryz.isAgg22
 z37 := Tryz.sizeOf22
 v37 := Tryz.zeroValue22
 t70 := Tryz.underlying43
 a70 := Tryz.isAgg43
 z70 := Tryz.sizeOf43
 v70 := Tryz.zeroValue43
 t72 := Tryz.underlying45
 a72 := Tryz.isAgg45
 z72 := Tryz.sizeOf45
 v72 := Tryz.zeroValue45
 t127 := Tryz.underlying73
 a127 := Tryz.isAgg73
 z127 := Tryz.sizeOf73
 v127 := Tryz.zeroValue73 }
open Go.RowKit Go.Lib in
theorem Tryz.Builder_Extra_169 : Builder.Extra Tryz.prog Tryz.lays169_ren := {
 sizeBuilder := by kernel_rfl
 liesBuilder := by kernel_rfl
 t5 := Tryz.underlying5
 a5 := Tryz.isAgg5
 z5 := Tryz.sizeOf5
 v5 := Tryz.zeroValue5
 infoByte := by kernel_rfl
 cellsByte := by kernel_rfl
 sizeByte := by kernel_rfl
 neB5 := by decide }
open Go.RowKit Go.Lib in
theorem Tryz.Builder_String_any (B b : Nat) (l : List UInt8) (w : World) (h : Lib.IsBuilder 45 5 B b (Lib.byteCells l) w) (hBw : B ≤ w.heap.size) :
 Calls Tryz.prog 20 #[.pointer (some ⟨b, 0, none⟩)] w fun e w' => e = .returned (.string ⟨l.toArray⟩) ∧ Below B w w' := Any.Builder_String_any Tryz.lays169 Tryz.Builder_Extra_169 B b l w h hBw
def Tryz.lays105_ren : Go.Shelf.Ren := ⟨fun | 105 => 59 | 212 => 89 | 99 => 90 | 165 => 91 | 166 => 19 | 170 => 92 | 169 => 20 | 263 => 126 | 264 => 127 | 206 => 128 | 240 => 36 | 241 => 129 | 276 => 55 | 277 => 148 | n => n, fun | 9 => 9 | 3 => 3 | 4 => 4 | 20 => 20 | 0 => 0 | 46 => 75 | 109 => 129 | 5 => 5 | 72 => 45 | 76 => 48 | 51 => 153 | 146 => 154 | 53 => 51 | 148 => 156 | 70 => 43 | 37 => 22 | 75 => 47 | 127 => 73 | 164 => 92 | 80 => 50 | n => n, fun | n => n⟩
theorem Tryz.lays105 : Go.Proofs.Lays.n105 Tryz.prog Tryz.lays105_ren := {
 mixed := by kernel_rfl
 f99 := Tryz.func90.trans (congrArg some Ql0_)
 f105 := Tryz.func59.trans (congrArg some Ql0_)
 f165 := Tryz.func91.trans (congrArg some Ql0_)
 f166 := Tryz.func19.trans (congrArg some Ql0_)
 f169 := Tryz.func20.trans (congrArg some Ql0_)
 f170 := Tryz.func92.trans (congrArg some Ql0_)
 f206 := Tryz.func128.trans (congrArg some Ql0_)
 f212 := Tryz.func89.trans (congrArg some Ql0_)
 f240 := Tryz.func36.trans (congrArg some Ql0_)
 f241 := Tryz.func129.trans (congrArg some Ql0_)
 f263 := Tryz.func126.trans (congrArg some Ql0_)
 f264 := Tryz.func127.trans (congrArg some Ql0_)
 f276 := Tryz.func55.trans (congrArg some Ql0_)
 f277 := Tryz.func148.trans (congrArg some Ql0_)
 t0 := Tryz.underlying0
 a0 := Tryz.isAgg0
 z0 := Tryz.sizeOf0
 v0 := Tryz.zeroValue0
 t3 := Tryz.underlying3
 a3 := Tryz.isAgg3
 z3 := Tryz.sizeOf3
 v3 := Tryz.zeroValue3
 t4 := Tryz.underlying4
 a4 := Tryz.isAgg4
 z4 := Tryz.sizeOf4
 v4 := Tryz.zeroValue4
 t5 := Tryz.underlying5
 a5 := Tryz.isAgg5
 z5 := Tryz.sizeOf5
 v5 := Tryz.zeroValue5
 t9 := Tryz.underlying9
 a9 := Tryz.isAgg9
 z9 := Tryz.sizeOf9
 v9 := Tryz.zeroValue9
 t20 := Tryz.underlying20
 a20 := Tryz.isAgg20
 z20 := Tryz.sizeOf20
 v20 := Tryz.zeroValue20
 t37 := Tryz.underlying22
 a37 := Tryz.isAgg22
 z37 := Tryz.sizeOf22
 v37 := Tryz.zeroValue22
 t46 := Tryz.underlying75
 a46 := Tryz.isAgg75
 z46 := Tryz.sizeOf75
 v46 := Tryz.zeroValue75
 t51 := Tryz.underlying153
 a51 := Tryz.isAgg153
 z51 := Tryz.sizeOf153
 v51 := Tryz.zeroValue153
 t53 := Tryz.underlying51
 a53 := Tryz.isAgg51
 z53 := Tryz.sizeOf51
 v53 := Tryz.zeroValue51
 t70 := Tryz.underlying43
 a70 := Tryz.isAgg43
 z70 := Tryz.sizeOf43
 v70 := Tryz.zeroValue43
 t72 := Tryz.underlying45
 a72 := Tryz.isAgg45
 z72 := Tryz.sizeOf45
 v72 := Tryz.zeroValue45
 t75 := Tryz.underlying47
 a75 := Tryz.isAgg47
 z75 := Tryz.sizeOf47
 v75 := Tryz.zeroValue47
 t76 := Tryz.underlying48
 a76 := Tryz.isAgg48
 z76 := Tryz.sizeOf48
 v76 := Tryz.zeroValue48
 t109 := Tryz.underlying129
 a109 := Tryz.isAgg129
 z109 := Tryz.sizeOf129
 v109 := Tryz.zeroValue129
 t127 := Tryz.underlying73
 a127 := Tryz.isAgg73
 z127 := Tryz.sizeOf73
 v127 := Tryz.zeroValue73
 t146 := Tryz.underlying154
 a146 := Tryz.isAgg154
 z146 := Tryz.sizeOf154
 v146 := Tryz.zeroValue154
 t148 := Tryz.underlying156
 a148 := Tryz.isAgg156
 z148 := Tryz.sizeOf156
 v148 := Tryz.zeroValue156
 t164 := Tryz.underlying92
 a164 := Tryz.isAgg92
 z164 := Tryz.sizeOf92
 v164 := Tryz.zeroValue92 }
open Go.RowKit Go.Lib in
theorem Tryz.Builder_Extra_105 : Builder.Extra Tryz.prog Tryz.lays105_ren := {
 sizeBuilder := by kernel_rfl
 liesBuilder := by kernel_rfl
 t5 := Tryz.underlying5
 a5 := Tryz.isAgg5
 z5 := Tryz.sizeOf5
 v5 := Tryz.zeroValue5
 infoByte := by kernel_rfl
 cellsByte := by kernel_rfl
 sizeByte := by kernel_rfl
 neB5 := by decide }
open Go.RowKit Go.Lib in
theorem Tryz.strings_Repeat (s : ByteArray) (c : Nat) (w : World) (hc : c ≤ 9223372036854775807) (hlen : s.size * c ≤ 140737488355328) :
 Calls Tryz.prog 59 #[.string s, .int .i64 c] w fun e w' => e = .returned (.string ⟨(Lib.repeatL s.data.toList c).toArray⟩) ∧ Below w.heap.size w w' := Any.strings_Repeat Tryz.lays105 Tryz.Builder_Extra_105 s c w hc hlen
open Go.RowKit Go.Lib in
def Tryz.lays167_ren : Go.Shelf.Ren := ⟨fun | 167 => 111 | 240 => 36 | 276 => 55 | n => n, fun | 0 => 0 | 3 => 3 | 4 => 4 | 9 => 9 | 20 => 20 | 37 => 22 | 70 => 43 | 72 => 45 | 75 => 47 | 164 => 92 | 5 => 5 | 80 => 50 | n => n, fun | n => n⟩
open Go.RowKit Go.Lib in
theorem Tryz.lays167 : Go.Proofs.Lays.n167 Tryz.prog Tryz.lays167_ren := {
 mixed := by kernel_rfl
 f167 := Tryz.func111.trans (congrArg some Ql0_)
 f240 := Tryz.func36.trans (congrArg some Ql0_)
 f276 := Tryz.func55.trans (congrArg some Ql0_)
 t0 := Tryz.underlying0
 a0 := Tryz.isAgg0
 z0 := Tryz.sizeOf0
 v0 := Tryz.zeroValue0
 t4 := Tryz.underlying4
 a4 := Tryz.isAgg4
 z4 := Tryz.sizeOf4
 v4 := Tryz.zeroValue4
 t5 := Tryz.underlying5
 a5 := Tryz.isAgg5
 z5 := Tryz.sizeOf5
 v5 := Tryz.zeroValue5
 t9 := Tryz.underlying9
 a9 := Tryz.isAgg9
 z9 := Tryz.sizeOf9
 v9 := Tryz.zeroValue9
 t20 := Tryz.underlying20
 a20 := Tryz.isAgg20
 z20 := Tryz.sizeOf20
 v20 := Tryz.zeroValue20
 t37 := Tryz.underlying22
 a37 := Tryz.isAgg22
 z37 := Tryz.sizeOf22
 v37 := Tryz.zeroValue22
 t70 := Tryz.underlying43
 a70 := Tryz.isAgg43
 z70 := Tryz.sizeOf43
 v70 := Tryz.zeroValue43
 t72 := Tryz.underlying45
 a72 := Tryz.isAgg45
 z72 := Tryz.sizeOf45
 v72 := Tryz.zeroValue45
 t75 := Tryz.underlying47
 a75 := Tryz.isAgg47
 z75 := Tryz.sizeOf47
 v75 := Tryz.zeroValue47
 t164 := Tryz.underlying92
 a164 := Tryz.isAgg92
 z164 := Tryz.sizeOf92
 v164 := Tryz.zeroValue92 }
open Go.RowKit Go.Lib in
theorem Tryz.Builder_Extra_167 : Builder.Extra Tryz.prog Tryz.lays167_ren := {
 sizeBuilder := by kernel_rfl
 liesBuilder := by kernel_rfl
 t5 := Tryz.underlying5
 a5 := Tryz.isAgg5
 z5 := Tryz.sizeOf5
 v5 := Tryz.zeroValue5
 infoByte := by kernel_rfl
 cellsByte := by kernel_rfl
 sizeByte := by kernel_rfl
 neB5 := by decide }
open Go.RowKit Go.Lib in
theorem Tryz.Builder_WriteByte (B b : Nat) (bs : List Value) (c : Int) (w : World) (h : Lib.IsBuilder 45 5 B b bs w) (hlen : bs.length + 1 ≤ 140737488355328) (hBw : B ≤ w.heap.size) :
 Calls Tryz.prog 111 #[.pointer (some ⟨b, 0, none⟩), .int .u8 c] w fun e w' => e = .returned .nilIface ∧ (Lib.BuilderAt 45 5 B b (.pointer (some ⟨b, 0, none⟩)) (bs ++ [.int .u8 c]) w' ∧ Below B w w') := Any.Builder_WriteByte Tryz.lays167 Tryz.Builder_Extra_167 B b bs c w h hlen hBw
open Go.RowKit Go.Lib in
def Tryz.lays166_ren : Go.Shelf.Ren := ⟨fun | 166 => 19 | 240 => 36 | 276 => 55 | n => n, fun | 0 => 0 | 3 => 3 | 4 => 4 | 9 => 9 | 20 => 20 | 37 => 22 | 70 => 43 | 72 => 45 | 75 => 47 | 164 => 92 | 5 => 5 | 80 => 50 | n => n, fun | n => n⟩
open Go.RowKit Go.Lib in
theorem Tryz.lays166 : Go.Proofs.Lays.n166 Tryz.prog Tryz.lays166_ren := {
 mixed := by kernel_rfl
 f166 := Tryz.func19.trans (congrArg some Ql0_)
 f240 := Tryz.func36.trans (congrArg some Ql0_)
 f276 := Tryz.func55.trans (congrArg some Ql0_)
 t0 := Tryz.underlying0
 a0 := Tryz.isAgg0
 z0 := Tryz.sizeOf0
 v0 := Tryz.zeroValue0
 t3 := Tryz.underlying3
 a3 := Tryz.isAgg3
 z3 := Tryz.sizeOf3
 v3 := Tryz.zeroValue3
 t4 := Tryz.underlying4
 a4 := Tryz.isAgg4
 z4 := Tryz.sizeOf4
 v4 := Tryz.zeroValue4
 t9 := Tryz.underlying9
 a9 := Tryz.isAgg9
 z9 := Tryz.sizeOf9
 v9 := Tryz.zeroValue9
 t20 := Tryz.underlying20
 a20 := Tryz.isAgg20
 z20 := Tryz.sizeOf20
 v20 := Tryz.zeroValue20
 t37 := Tryz.underlying22
 a37 := Tryz.isAgg22
 z37 := Tryz.sizeOf22
 v37 := Tryz.zeroValue22
 t70 := Tryz.underlying43
 a70 := Tryz.isAgg43
 z70 := Tryz.sizeOf43
 v70 := Tryz.zeroValue43
 t72 := Tryz.underlying45
 a72 := Tryz.isAgg45
 z72 := Tryz.sizeOf45
 v72 := Tryz.zeroValue45
 t75 := Tryz.underlying47
 a75 := Tryz.isAgg47
 z75 := Tryz.sizeOf47
 v75 := Tryz.zeroValue47
 t164 := Tryz.underlying92
 a164 := Tryz.isAgg92
 z164 := Tryz.sizeOf92
 v164 := Tryz.zeroValue92 }
open Go.RowKit Go.Lib in
theorem Tryz.Builder_Extra_166 : Builder.Extra Tryz.prog Tryz.lays166_ren := {
 sizeBuilder := by kernel_rfl
 liesBuilder := by kernel_rfl
 t5 := Tryz.underlying5
 a5 := Tryz.isAgg5
 z5 := Tryz.sizeOf5
 v5 := Tryz.zeroValue5
 infoByte := by kernel_rfl
 cellsByte := by kernel_rfl
 sizeByte := by kernel_rfl
 neB5 := by decide }
open Go.RowKit Go.Lib in
theorem Tryz.Builder_WriteString (B b : Nat) (bs : List Value) (s : ByteArray) (w : World) (h : Lib.IsBuilder 45 5 B b bs w) (hlen : bs.length + s.size ≤ 140737488355328) (hBw : B ≤ w.heap.size) :
 Calls Tryz.prog 19 #[.pointer (some ⟨b, 0, none⟩), .string s] w fun e w' => e = .returned (.tuple #[.int .i64 s.size, .nilIface]) ∧ (Lib.BuilderAt 45 5 B b (.pointer (some ⟨b, 0, none⟩)) (bs ++ Lib.strCells s) w' ∧ Below B w w') := Any.Builder_WriteString Tryz.lays166 Tryz.Builder_Extra_166 B b bs s w h hlen hBw
end Go.Proofs
