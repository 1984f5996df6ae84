/- FnExactSyncWord: functions that it reaches, with what they compute and the proof that they do; written by a program of this session (wip/myprint.py). -/
import Derived.Test.YtohdepanfnaddaaDoorQFnExactSyncWordx0
import Derived.Test.YtohdepanfnaddaaDoorQFnExactSyncWordx1
import Derived.Test.YtohdepanfnaddaaDoorQFnExactSyncWordx2
import Derived.Test.YtohdepanfnaddaaDoorQFnExactSyncWordx3
namespace Go.Proofs.YtohdepanfnaddaaDoor.QFnExactSyncWord
open Go.RowKit Go.Proofs.YtohdepanfnaddaaDoorW.PrintWords Go.Proofs.YtohdepanfnaddaaDoorW.PrintLast Go.Proofs.YtohdepanfnaddaaDoorW.PrintMore
attribute [local go_sem] max2_int min2_int max_two min_two max_three min_three max_four min_four   -- for this text's walks alone
set_option linter.unusedVariables false
set_option linter.unusedSimpArgs false

/-! ### spec_SyncWord: function 36 -/
mutual
def spec_SyncWord.j0 : Nat → List ByteArray → Bool → Option (ByteArray × Bool)
  | 0, _, _ => none
  | k + 1, x0, x30 => if x30 = true then (some ((⟨#[]⟩ : ByteArray), false)) else ((spec_l05Readers.f k x0).bind fun t148 => (if 2 ≤ 11728124029610 then (spec_SyncWord.l0 k x0 t148 (t148.length : Int) (List.replicate 2 []) 0) else (none)))
def spec_SyncWord.l0 : Nat → List ByteArray → List ByteArray → Int → List (List Int) → Int → Option (ByteArray × Bool)
  | 0, _, _, _, _, _ => none
  | k + 1, x0, x4, x5, x6, x7 => if x7 < 2 then (spec_SyncWord.l1 k x0 x4 x5 x6 x7 0) else ((spec_l03Index.f k x4 (⟨#[]⟩ : ByteArray)).bind fun t165 => (if 0 ≤ (IntKind.u64.wrap (t165)) then (if 0 ≤ (IntKind.u64.wrap (x5)) then (if 0 ≤ (shl .i64 1 (IntKind.u64.wrap (x5))) then (if (shl .i64 1 (IntKind.u64.wrap (x5)) : Int).toNat ≤ 35184372088832 then ((some (List.replicate (shl .i64 1 (IntKind.u64.wrap (x5)) : Int).toNat 0 : List Int)).bind fun y166 => (if 0 ≤ (wrap64 ((shl .i64 1 (IntKind.u64.wrap (x5))) - 1)) then (if (wrap64 ((shl .i64 1 (IntKind.u64.wrap (x5))) - 1)) < (y166.length : Int) then (spec_SyncWord.l2 k x5 x6 (shl .i64 1 (IntKind.u64.wrap (t165))) (y166.set ((wrap64 ((shl .i64 1 (IntKind.u64.wrap (x5))) - 1)) : Int).toNat (-1)) (([wrap64 ((shl .i64 1 (IntKind.u64.wrap (x5))) - 1)] : List Int)) 0) else (none)) else (none))) else (none)) else (none)) else (none)) else (none)))
def spec_SyncWord.l1 : Nat → List ByteArray → List ByteArray → Int → List (List Int) → Int → Int → Option (ByteArray × Bool)
  | 0, _, _, _, _, _, _ => none
  | k + 1, x0, x4, x5, x6, x7, x8 => if x8 < x5 then (if 0 ≤ x7 then (if x7 < (x6.length : Int) then (if 0 ≤ x8 then (if x8 < (x4.length : Int) then ((spec_l05Read.f k x0 (rdOf ByteArray.empty x4 x8) (strOfNums (([(wrap64 (48 + x7)) % 256] : List Int)))).bind fun t159 => ((spec_l03Index.f k x4 t159).bind fun t160 => (if (rd_L3 x6 x7).length < 17592186044416 then (spec_SyncWord.l1 k x0 x4 x5 (x6.set (x7 : Int).toNat ((rd_L3 x6 x7) ++ [t160])) x7 (wrap64 (x8 + 1))) else (none)))) else (none)) else (none)) else (none)) else (none)) else (spec_SyncWord.l0 k x0 x4 x5 x6 (wrap64 (x7 + 1)))
def spec_SyncWord.l2 : Nat → Int → List (List Int) → Int → List Int → List Int → Int → Option (ByteArray × Bool)
  | 0, _, _, _, _, _, _ => none
  | k + 1, x5, x6, x9, x10, x12, x13 => if x13 < (x12.length : Int) then (if 0 ≤ x13 then (spec_SyncWord.l3 k x5 x6 x9 x10 x12 x13 (rd x12 x13) 0) else (none)) else (some ((⟨#[]⟩ : ByteArray), false))
def spec_SyncWord.l3 : Nat → Int → List (List Int) → Int → List Int → List Int → Int → Int → Int → Option (ByteArray × Bool)
  | 0, _, _, _, _, _, _, _, _ => none
  | k + 1, x5, x6, x9, x10, x12, x13, x14, x15 => if x15 < 2 then (spec_SyncWord.l4 k x5 x6 x9 x10 x12 x13 x14 x15 0 0) else (spec_SyncWord.l2 k x5 x6 x9 x10 x12 (wrap64 (x13 + 1)))
def spec_SyncWord.l4 : Nat → Int → List (List Int) → Int → List Int → List Int → Int → Int → Int → Int → Int → Option (ByteArray × Bool)
  | 0, _, _, _, _, _, _, _, _, _, _ => none
  | k + 1, x5, x6, x9, x10, x12, x13, x14, x15, x16, x17 => if x17 < x5 then (if 0 ≤ (IntKind.u64.wrap (x17)) then (if (Go.bits .and .i64 (shr .i64 x14 (IntKind.u64.wrap (x17))) 1) = 1 then (if 0 ≤ x15 then (if x15 < (x6.length : Int) then (if 0 ≤ x17 then (if x17 < ((rd_L3 x6 x15).length : Int) then (if 0 ≤ (IntKind.u64.wrap (rd (rd_L3 x6 x15) x17)) then (spec_SyncWord.l4 k x5 x6 x9 x10 x12 x13 x14 x15 (Go.bits .or .i64 x16 (shl .i64 1 (IntKind.u64.wrap (rd (rd_L3 x6 x15) x17)))) (wrap64 (x17 + 1))) else (none)) else (none)) else (none)) else (none)) else (none)) else (spec_SyncWord.l4 k x5 x6 x9 x10 x12 x13 x14 x15 x16 (wrap64 (x17 + 1)))) else (none)) else (if x16 = x9 then ((spec_l05Back.f k x10 x14).bind fun t176 => ((some (([(wrap64 (48 + x15)) % 256] : List Int) : List Int)).bind fun y177 => (if t176.size + (strOfNums y177).size ≤ 9223372036854775807 then (some (t176 ++ (strOfNums y177), true)) else (none)))) else (if 0 ≤ x16 then (if x16 < (x10.length : Int) then (if (rd x10 x16) = 0 then (if x12.length < 17592186044416 then (spec_SyncWord.l3 k x5 x6 x9 (x10.set (x16 : Int).toNat (wrap64 ((wrap64 (2 * x14)) + x15))) (x12 ++ [x16]) x13 x14 (wrap64 (x15 + 1))) else (none)) else (spec_SyncWord.l3 k x5 x6 x9 x10 x12 x13 x14 (wrap64 (x15 + 1)))) else (none)) else (none)))
end
def spec_SyncWord.f (k : Nat) (l0 : List ByteArray) : Option (ByteArray × Bool) := (spec_l05Is.f k l0).bind fun t146 => (if t146 = true then (if (l0.length : Int) < 2 then (spec_SyncWord.j0 k l0 true) else ((spec_l05Complete.f k l0).bind fun t147 => (spec_SyncWord.j0 k l0 (!t147)))) else (spec_SyncWord.j0 k l0 true))
theorem spec_SyncWord.mono_l : ∀ k, (∀ y0 y1, LeO (spec_SyncWord.j0 k y0 y1) (spec_SyncWord.j0 (k + 1) y0 y1)) ∧ (∀ y0 y1 y2 y3 y4, LeO (spec_SyncWord.l0 k y0 y1 y2 y3 y4) (spec_SyncWord.l0 (k + 1) y0 y1 y2 y3 y4)) ∧ (∀ y0 y1 y2 y3 y4 y5, LeO (spec_SyncWord.l1 k y0 y1 y2 y3 y4 y5) (spec_SyncWord.l1 (k + 1) y0 y1 y2 y3 y4 y5)) ∧ (∀ y0 y1 y2 y3 y4 y5, LeO (spec_SyncWord.l2 k y0 y1 y2 y3 y4 y5) (spec_SyncWord.l2 (k + 1) y0 y1 y2 y3 y4 y5)) ∧ (∀ y0 y1 y2 y3 y4 y5 y6 y7, LeO (spec_SyncWord.l3 k y0 y1 y2 y3 y4 y5 y6 y7) (spec_SyncWord.l3 (k + 1) y0 y1 y2 y3 y4 y5 y6 y7)) ∧ (∀ y0 y1 y2 y3 y4 y5 y6 y7 y8 y9, LeO (spec_SyncWord.l4 k y0 y1 y2 y3 y4 y5 y6 y7 y8 y9) (spec_SyncWord.l4 (k + 1) y0 y1 y2 y3 y4 y5 y6 y7 y8 y9))
  | 0 => ⟨fun _ _ r h => by simp [spec_SyncWord.j0] at h, fun _ _ _ _ _ r h => by simp [spec_SyncWord.l0] at h, fun _ _ _ _ _ _ r h => by simp [spec_SyncWord.l1] at h, fun _ _ _ _ _ _ r h => by simp [spec_SyncWord.l2] at h, fun _ _ _ _ _ _ _ _ r h => by simp [spec_SyncWord.l3] at h, fun _ _ _ _ _ _ _ _ _ _ r h => by simp [spec_SyncWord.l4] at h⟩
  | k + 1 => by
    obtain ⟨ih0, ih1, ih2, ih3, ih4, ih5⟩ := spec_SyncWord.mono_l k
    refine ⟨?_, ?_, ?_, ?_, ?_, ?_⟩
    · intro y0 y1
      unfold spec_SyncWord.j0
      repeat' first
      | (with_reducible exact ih0 _ _)
      | (with_reducible exact ih1 _ _ _ _ _)
      | (with_reducible exact ih2 _ _ _ _ _ _)
      | (with_reducible exact ih3 _ _ _ _ _ _)
      | (with_reducible exact ih4 _ _ _ _ _ _ _ _)
      | (with_reducible exact ih5 _ _ _ _ _ _ _ _ _ _)
      | (with_reducible exact spec_l03Index.mono _ _ _)
      | (with_reducible exact spec_l05Back.mono _ _ _)
      | (with_reducible exact spec_l05Complete.mono _ _)
      | (with_reducible exact spec_l05Is.mono _ _)
      | (with_reducible exact spec_l05Read.mono _ _ _ _)
      | (with_reducible exact spec_l05Readers.mono _ _)
      | (with_reducible exact LeO.refl _)
      | (with_reducible exact LeO.none _)
      | (with_reducible refine LeO.ite ?_ ?_)
      | (with_reducible refine LeO.bind ?_ (fun _ => ?_))
      | exact ih0 _ _
      | exact ih1 _ _ _ _ _
      | exact ih2 _ _ _ _ _ _
      | exact ih3 _ _ _ _ _ _
      | exact ih4 _ _ _ _ _ _ _ _
      | exact ih5 _ _ _ _ _ _ _ _ _ _
      | exact spec_l03Index.mono _ _ _
      | exact spec_l05Back.mono _ _ _
      | exact spec_l05Complete.mono _ _
      | exact spec_l05Is.mono _ _
      | exact spec_l05Read.mono _ _ _ _
      | exact spec_l05Readers.mono _ _
      | exact LeO.none _
      | refine LeO.ite ?_ ?_
      | refine LeO.bind ?_ (fun _ => ?_)
    · intro y0 y1 y2 y3 y4
      unfold spec_SyncWord.l0
      repeat' first
      | (with_reducible exact ih0 _ _)
      | (with_reducible exact ih1 _ _ _ _ _)
      | (with_reducible exact ih2 _ _ _ _ _ _)
      | (with_reducible exact ih3 _ _ _ _ _ _)
      | (with_reducible exact ih4 _ _ _ _ _ _ _ _)
      | (with_reducible exact ih5 _ _ _ _ _ _ _ _ _ _)
      | (with_reducible exact spec_l03Index.mono _ _ _)
      | (with_reducible exact spec_l05Back.mono _ _ _)
      | (with_reducible exact spec_l05Complete.mono _ _)
      | (with_reducible exact spec_l05Is.mono _ _)
      | (with_reducible exact spec_l05Read.mono _ _ _ _)
      | (with_reducible exact spec_l05Readers.mono _ _)
      | (with_reducible exact LeO.refl _)
      | (with_reducible exact LeO.none _)
      | (with_reducible refine LeO.ite ?_ ?_)
      | (with_reducible refine LeO.bind ?_ (fun _ => ?_))
      | exact ih0 _ _
      | exact ih1 _ _ _ _ _
      | exact ih2 _ _ _ _ _ _
      | exact ih3 _ _ _ _ _ _
      | exact ih4 _ _ _ _ _ _ _ _
      | exact ih5 _ _ _ _ _ _ _ _ _ _
      | exact spec_l03Index.mono _ _ _
      | exact spec_l05Back.mono _ _ _
      | exact spec_l05Complete.mono _ _
      | exact spec_l05Is.mono _ _
      | exact spec_l05Read.mono _ _ _ _
      | exact spec_l05Readers.mono _ _
      | exact LeO.none _
      | refine LeO.ite ?_ ?_
      | refine LeO.bind ?_ (fun _ => ?_)
    · intro y0 y1 y2 y3 y4 y5
      unfold spec_SyncWord.l1
      repeat' first
      | (with_reducible exact ih0 _ _)
      | (with_reducible exact ih1 _ _ _ _ _)
      | (with_reducible exact ih2 _ _ _ _ _ _)
      | (with_reducible exact ih3 _ _ _ _ _ _)
      | (with_reducible exact ih4 _ _ _ _ _ _ _ _)
      | (with_reducible exact ih5 _ _ _ _ _ _ _ _ _ _)
      | (with_reducible exact spec_l03Index.mono _ _ _)
      | (with_reducible exact spec_l05Back.mono _ _ _)
      | (with_reducible exact spec_l05Complete.mono _ _)
      | (with_reducible exact spec_l05Is.mono _ _)
      | (with_reducible exact spec_l05Read.mono _ _ _ _)
      | (with_reducible exact spec_l05Readers.mono _ _)
      | (with_reducible exact LeO.refl _)
      | (with_reducible exact LeO.none _)
      | (with_reducible refine LeO.ite ?_ ?_)
      | (with_reducible refine LeO.bind ?_ (fun _ => ?_))
      | exact ih0 _ _
      | exact ih1 _ _ _ _ _
      | exact ih2 _ _ _ _ _ _
      | exact ih3 _ _ _ _ _ _
      | exact ih4 _ _ _ _ _ _ _ _
      | exact ih5 _ _ _ _ _ _ _ _ _ _
      | exact spec_l03Index.mono _ _ _
      | exact spec_l05Back.mono _ _ _
      | exact spec_l05Complete.mono _ _
      | exact spec_l05Is.mono _ _
      | exact spec_l05Read.mono _ _ _ _
      | exact spec_l05Readers.mono _ _
      | exact LeO.none _
      | refine LeO.ite ?_ ?_
      | refine LeO.bind ?_ (fun _ => ?_)
    · intro y0 y1 y2 y3 y4 y5
      unfold spec_SyncWord.l2
      repeat' first
      | (with_reducible exact ih0 _ _)
      | (with_reducible exact ih1 _ _ _ _ _)
      | (with_reducible exact ih2 _ _ _ _ _ _)
      | (with_reducible exact ih3 _ _ _ _ _ _)
      | (with_reducible exact ih4 _ _ _ _ _ _ _ _)
      | (with_reducible exact ih5 _ _ _ _ _ _ _ _ _ _)
      | (with_reducible exact spec_l03Index.mono _ _ _)
      | (with_reducible exact spec_l05Back.mono _ _ _)
      | (with_reducible exact spec_l05Complete.mono _ _)
      | (with_reducible exact spec_l05Is.mono _ _)
      | (with_reducible exact spec_l05Read.mono _ _ _ _)
      | (with_reducible exact spec_l05Readers.mono _ _)
      | (with_reducible exact LeO.refl _)
      | (with_reducible exact LeO.none _)
      | (with_reducible refine LeO.ite ?_ ?_)
      | (with_reducible refine LeO.bind ?_ (fun _ => ?_))
      | exact ih0 _ _
      | exact ih1 _ _ _ _ _
      | exact ih2 _ _ _ _ _ _
      | exact ih3 _ _ _ _ _ _
      | exact ih4 _ _ _ _ _ _ _ _
      | exact ih5 _ _ _ _ _ _ _ _ _ _
      | exact spec_l03Index.mono _ _ _
      | exact spec_l05Back.mono _ _ _
      | exact spec_l05Complete.mono _ _
      | exact spec_l05Is.mono _ _
      | exact spec_l05Read.mono _ _ _ _
      | exact spec_l05Readers.mono _ _
      | exact LeO.none _
      | refine LeO.ite ?_ ?_
      | refine LeO.bind ?_ (fun _ => ?_)
    · intro y0 y1 y2 y3 y4 y5 y6 y7
      unfold spec_SyncWord.l3
      repeat' first
      | (with_reducible exact ih0 _ _)
      | (with_reducible exact ih1 _ _ _ _ _)
      | (with_reducible exact ih2 _ _ _ _ _ _)
      | (with_reducible exact ih3 _ _ _ _ _ _)
      | (with_reducible exact ih4 _ _ _ _ _ _ _ _)
      | (with_reducible exact ih5 _ _ _ _ _ _ _ _ _ _)
      | (with_reducible exact spec_l03Index.mono _ _ _)
      | (with_reducible exact spec_l05Back.mono _ _ _)
      | (with_reducible exact spec_l05Complete.mono _ _)
      | (with_reducible exact spec_l05Is.mono _ _)
      | (with_reducible exact spec_l05Read.mono _ _ _ _)
      | (with_reducible exact spec_l05Readers.mono _ _)
      | (with_reducible exact LeO.refl _)
      | (with_reducible exact LeO.none _)
      | (with_reducible refine LeO.ite ?_ ?_)
      | (with_reducible refine LeO.bind ?_ (fun _ => ?_))
      | exact ih0 _ _
      | exact ih1 _ _ _ _ _
      | exact ih2 _ _ _ _ _ _
      | exact ih3 _ _ _ _ _ _
      | exact ih4 _ _ _ _ _ _ _ _
      | exact ih5 _ _ _ _ _ _ _ _ _ _
      | exact spec_l03Index.mono _ _ _
      | exact spec_l05Back.mono _ _ _
      | exact spec_l05Complete.mono _ _
      | exact spec_l05Is.mono _ _
      | exact spec_l05Read.mono _ _ _ _
      | exact spec_l05Readers.mono _ _
      | exact LeO.none _
      | refine LeO.ite ?_ ?_
      | refine LeO.bind ?_ (fun _ => ?_)
    · intro y0 y1 y2 y3 y4 y5 y6 y7 y8 y9
      unfold spec_SyncWord.l4
      repeat' first
      | (with_reducible exact ih0 _ _)
      | (with_reducible exact ih1 _ _ _ _ _)
      | (with_reducible exact ih2 _ _ _ _ _ _)
      | (with_reducible exact ih3 _ _ _ _ _ _)
      | (with_reducible exact ih4 _ _ _ _ _ _ _ _)
      | (with_reducible exact ih5 _ _ _ _ _ _ _ _ _ _)
      | (with_reducible exact spec_l03Index.mono _ _ _)
      | (with_reducible exact spec_l05Back.mono _ _ _)
      | (with_reducible exact spec_l05Complete.mono _ _)
      | (with_reducible exact spec_l05Is.mono _ _)
      | (with_reducible exact spec_l05Read.mono _ _ _ _)
      | (with_reducible exact spec_l05Readers.mono _ _)
      | (with_reducible exact LeO.refl _)
      | (with_reducible exact LeO.none _)
      | (with_reducible refine LeO.ite ?_ ?_)
      | (with_reducible refine LeO.bind ?_ (fun _ => ?_))
      | exact ih0 _ _
      | exact ih1 _ _ _ _ _
      | exact ih2 _ _ _ _ _ _
      | exact ih3 _ _ _ _ _ _
      | exact ih4 _ _ _ _ _ _ _ _
      | exact ih5 _ _ _ _ _ _ _ _ _ _
      | exact spec_l03Index.mono _ _ _
      | exact spec_l05Back.mono _ _ _
      | exact spec_l05Complete.mono _ _
      | exact spec_l05Is.mono _ _
      | exact spec_l05Read.mono _ _ _ _
      | exact spec_l05Readers.mono _ _
      | exact LeO.none _
      | refine LeO.ite ?_ ?_
      | refine LeO.bind ?_ (fun _ => ?_)
theorem spec_SyncWord.mono : ∀ a0 k, LeO (spec_SyncWord.f k a0) (spec_SyncWord.f (k + 1) a0) := by
  intro a0 k
  obtain ⟨ih0, ih1, ih2, ih3, ih4, ih5⟩ := spec_SyncWord.mono_l k
  unfold spec_SyncWord.f
  repeat' first
      | (with_reducible exact ih0 _ _)
      | (with_reducible exact ih1 _ _ _ _ _)
      | (with_reducible exact ih2 _ _ _ _ _ _)
      | (with_reducible exact ih3 _ _ _ _ _ _)
      | (with_reducible exact ih4 _ _ _ _ _ _ _ _)
      | (with_reducible exact ih5 _ _ _ _ _ _ _ _ _ _)
      | (with_reducible exact spec_l03Index.mono _ _ _)
      | (with_reducible exact spec_l05Back.mono _ _ _)
      | (with_reducible exact spec_l05Complete.mono _ _)
      | (with_reducible exact spec_l05Is.mono _ _)
      | (with_reducible exact spec_l05Read.mono _ _ _ _)
      | (with_reducible exact spec_l05Readers.mono _ _)
      | (with_reducible exact LeO.refl _)
      | (with_reducible exact LeO.none _)
      | (with_reducible refine LeO.ite ?_ ?_)
      | (with_reducible refine LeO.bind ?_ (fun _ => ?_))
      | exact ih0 _ _
      | exact ih1 _ _ _ _ _
      | exact ih2 _ _ _ _ _ _
      | exact ih3 _ _ _ _ _ _
      | exact ih4 _ _ _ _ _ _ _ _
      | exact ih5 _ _ _ _ _ _ _ _ _ _
      | exact spec_l03Index.mono _ _ _
      | exact spec_l05Back.mono _ _ _
      | exact spec_l05Complete.mono _ _
      | exact spec_l05Is.mono _ _
      | exact spec_l05Read.mono _ _ _ _
      | exact spec_l05Readers.mono _ _
      | exact LeO.none _
      | refine LeO.ite ?_ ?_
      | refine LeO.bind ?_ (fun _ => ?_)
def spec_SyncWord.T12 : Bool × List (List Nat × List Nat) := (true, [([], []), ([], []), ([], []), ([], []), ([2, 3], [2, 3]), ([4], [4]), ([], []), ([], []), ([], []), ([], []), ([8, 9], [8, 9]), ([10], [10]), ([], []), ([12], [12]), ([13], [13]), ([14], [14]), ([15], [15]), ([7, 11, 16], [7, 11, 16]), ([6, 17, 17], [6, 17]), ([18], [18]), ([5, 19, 18], [5, 19]), ([0, 1, 0, 1, 2, 3, 4, 5, 6, 7, 8, 9, 10, 11, 12, 13, 14, 15, 16, 17, 18, 19, 20], [0, 1]), ([21, 20, 20, 0, 1, 2, 3, 4, 5, 6, 7, 8, 9, 10, 11, 12, 13, 14, 15, 16, 17, 18, 19, 20], [20, 21])])
def spec_SyncWord.B12 : List Nat := [0, 0, 0, 0, 12, 28, 0, 0, 0, 0, 768, 1792, 0, 4096, 12288, 28672, 61440, 130944, 262080, 524224, 1048572, 2097151, 4194303]
theorem spec_SyncWord.tab12 : rtab .any (opsOf Tryd.f36 12) = spec_SyncWord.T12 := by kernel_rfl
theorem spec_SyncWord.bits12 : waitsOk spec_SyncWord.T12.2 spec_SyncWord.B12 = true := by kernel_rfl
def spec_SyncWord.T32 : Bool × List (List Nat × List Nat) := (true, [([], []), ([], []), ([0, 1], [0, 1]), ([], []), ([3], [3]), ([4], [4]), ([5], [5]), ([6], [6]), ([2, 7], [2, 7]), ([8, 2, 0, 1, 2, 3, 4, 5, 6, 7, 8], [8]), ([9, 0, 1, 2, 3, 4, 5, 6, 7, 8, 9], [])])
def spec_SyncWord.B32 : List Nat := [0, 0, 3, 0, 8, 24, 56, 120, 255, 511, 1023]
theorem spec_SyncWord.tab32 : rtab .any (opsOf Tryd.f36 32) = spec_SyncWord.T32 := by kernel_rfl
theorem spec_SyncWord.bits32 : waitsOk spec_SyncWord.T32.2 spec_SyncWord.B32 = true := by kernel_rfl
set_option maxHeartbeats 8000000 in
set_option maxRecDepth 100000 in
theorem spec_SyncWord.calls (k : Nat) (A0 : Option Addr) (c0 : Nat) (l0 : List ByteArray) (r1 : ByteArray) (r2 : Bool) (w : World) (hr0 : Kd.C Kd.string w A0 l0.length l0) (hc0 : l0.length ≤ c0) (h : spec_SyncWord.f k l0 = some (r1, r2)) :
    Calls Tryd.prog 36 #[.slice A0 l0.length c0] w fun e w' => e = .returned (.tuple #[.string r1, .bool r2]) ∧ Below w.heap.size w w' := by
  have HR0 := Aside0.mk hr0
  have HC0 := Aside0.mk hc0
  clear hr0 hc0
  have HB := Aside0.mk (Below.refl w.heap.size w)
  have H : ((spec_l05Is.f k l0).bind fun t146 => (if t146 = true then (if (l0.length : Int) < 2 then (spec_SyncWord.j0 k l0 true) else ((spec_l05Complete.f k l0).bind fun t147 => (spec_SyncWord.j0 k l0 (!t147)))) else (spec_SyncWord.j0 k l0 true))) = some (r1, r2) := h
  clear h
  have HC2 := Aside0.mk H
  clear H
  go_enter Tryd.func36, Tryd.ntmps36
  go_upto_region 1 with (fail)
  go_cut [30] (fun v30 wc => ∃ (kq : Nat) (x30_1 : Bool), v30 = .bool x30_1 ∧ Aside0 (spec_SyncWord.j0 kq l0 x30_1 = some (r1, r2)) ∧ Aside0 (kq ≤ k) ∧ Aside0 (Below w.heap.size w wc))
  case first =>
    have H := HC2.out
    clear HC2
    replace H := Option.bind_eq_some_iff.mp H
    obtain ⟨t146, A30, H⟩ := H
    replace H : (if t146 = true then (if (l0.length : Int) < 2 then (spec_SyncWord.j0 k l0 true) else ((spec_l05Complete.f k l0).bind fun t147 => (spec_SyncWord.j0 k l0 (!t147)))) else (spec_SyncWord.j0 k l0 true)) = some (r1, r2) := H
    have A3 := Aside0.mk A30
    clear A30
    by_cases c4 : t146 = true
    · subst c4
      have H1 : (if (l0.length : Int) < 2 then (spec_SyncWord.j0 k l0 true) else ((spec_l05Complete.f k l0).bind fun t147 => (spec_SyncWord.j0 k l0 (!t147)))) = some (r1, r2) := by rw [if_pos rfl] at H; exact H
      clear H
      have H := H1
      clear H1
      by_cases c5 : (l0.length : Int) < 2
      · rw [if_pos c5] at H
        have c5b0 : decide ((l0.length : Int) < 2) = true := decide_eq_true c5
        have c5b1 : decide (l0.length < 2) = true := decide_eq_true (by omega)
        clear c5
        (first | rw [c5b0] | (simp only [i64_w, i32_w]; rw [c5b0]) | skip)
        have H' := Aside0.mk H
        clear H
        go_wp2_with (first | ((with_reducible refine gate_callee (f := 61) rfl ?_); refine goesL_ (some 19) rfl rfl Tryd.func61 (by kernel_rfl) rfl #[.slice A0 l0.length c0] rfl (by (try simp only [List.map_toArray, List.map_cons, List.map_nil]); first | done | rfl | (simp only [List.length_drop, List.length_take]; rfl)) ?_; (with_reducible refine (spec_l05Is.calls k _ _ l0 true _ ?side1 ?side2 A3.out).mono ?_); (case side1 => repeat (first | exact (Kd.C_below HR0.out HB.out) | (with_reducible refine Kd.C_alloc ?_ _) | (with_reducible refine Kd.C_drewN ?_ _) | (with_reducible refine Kd.C_drew ?_))); (case side2 => exact HC0.out); rintro e w6 ⟨rfl, hb⟩; refine ⟨_, rfl, ?_⟩; have n0_ := Aside0.mk (below_step (by repeat (first | (with_reducible first | exact HB.out | apply below_alloc | apply pw_below_drewN | apply below_drew1) | exact HB.out)) hb); clear HB; have HB := n0_; clear n0_; (try clear hb); (try clear hb2); (try clear hk); (try clear hi)))
        go_meet
        case rel => exact ⟨_, (true), (by first | rfl | (simp; done) | (simp [*]; done)), H', ⟨by first | omega | exact Nat.le_refl _⟩, ⟨by repeat (first | (with_reducible first | exact HB.out | apply below_alloc | apply pw_below_drewN | apply below_drew1) | exact HB.out)⟩⟩
      · rw [if_neg c5] at H
        have c5b0 : decide ((l0.length : Int) < 2) = false := decide_eq_false c5
        have c5b1 : decide (l0.length < 2) = false := decide_eq_false (by omega)
        clear c5
        (first | rw [c5b0] | (simp only [i64_w, i32_w]; rw [c5b0]) | skip)
        replace H := Option.bind_eq_some_iff.mp H
        obtain ⟨t147, A70, H⟩ := H
        replace H : (spec_SyncWord.j0 k l0 (!t147)) = some (r1, r2) := H
        have A7 := Aside0.mk A70
        clear A70
        have H' := Aside0.mk H
        clear H
        go_wp2_with (first | ((with_reducible refine gate_callee (f := 61) rfl ?_); refine goesL_ (some 19) rfl rfl Tryd.func61 (by kernel_rfl) rfl #[.slice A0 l0.length c0] rfl (by (try simp only [List.map_toArray, List.map_cons, List.map_nil]); first | done | rfl | (simp only [List.length_drop, List.length_take]; rfl)) ?_; (with_reducible refine (spec_l05Is.calls k _ _ l0 true _ ?side1 ?side2 A3.out).mono ?_); (case side1 => repeat (first | exact (Kd.C_below HR0.out HB.out) | (with_reducible refine Kd.C_alloc ?_ _) | (with_reducible refine Kd.C_drewN ?_ _) | (with_reducible refine Kd.C_drew ?_))); (case side2 => exact HC0.out); rintro e w8 ⟨rfl, hb⟩; refine ⟨_, rfl, ?_⟩; have n0_ := Aside0.mk (below_step (by repeat (first | (with_reducible first | exact HB.out | apply below_alloc | apply pw_below_drewN | apply below_drew1) | exact HB.out)) hb); clear HB; have HB := n0_; clear n0_; (try clear hb); (try clear hb2); (try clear hk); (try clear hi)) | (go_at_call 62; (with_reducible refine (spec_l05Complete.calls k _ _ l0 t147 _ ?side1 ?side2 A7.out).mono ?_); (case side1 => repeat (first | exact (Kd.C_below HR0.out HB.out) | (with_reducible refine Kd.C_alloc ?_ _) | (with_reducible refine Kd.C_drewN ?_ _) | (with_reducible refine Kd.C_drew ?_))); (case side2 => exact HC0.out); rintro e w' ⟨rfl, ⟨nd, rfl⟩⟩))
        go_meet
        case rel => exact ⟨_, (!t147), (by first | rfl | (simp; done) | (simp [*]; done)), H', ⟨by first | omega | exact Nat.le_refl _⟩, ⟨by repeat (first | (with_reducible first | exact HB.out | apply below_alloc | apply pw_below_drewN | apply below_drew1) | exact HB.out)⟩⟩
    · replace c4 := Bool.eq_false_iff.mpr c4
      subst c4
      have H1 : (spec_SyncWord.j0 k l0 true) = some (r1, r2) := by rw [if_neg (show ¬ (false = true) by decide)] at H; exact H
      clear H
      have H := H1
      clear H1
      have H' := Aside0.mk H
      clear H
      go_wp2_with (first | ((with_reducible refine gate_callee (f := 61) rfl ?_); refine goesL_ (some 19) rfl rfl Tryd.func61 (by kernel_rfl) rfl #[.slice A0 l0.length c0] rfl (by (try simp only [List.map_toArray, List.map_cons, List.map_nil]); first | done | rfl | (simp only [List.length_drop, List.length_take]; rfl)) ?_; (with_reducible refine (spec_l05Is.calls k _ _ l0 false _ ?side1 ?side2 A3.out).mono ?_); (case side1 => repeat (first | exact (Kd.C_below HR0.out HB.out) | (with_reducible refine Kd.C_alloc ?_ _) | (with_reducible refine Kd.C_drewN ?_ _) | (with_reducible refine Kd.C_drew ?_))); (case side2 => exact HC0.out); rintro e w9 ⟨rfl, hb⟩; refine ⟨_, rfl, ?_⟩; have n0_ := Aside0.mk (below_step (by repeat (first | (with_reducible first | exact HB.out | apply below_alloc | apply pw_below_drewN | apply below_drew1) | exact HB.out)) hb); clear HB; have HB := n0_; clear n0_; (try clear hb); (try clear hb2); (try clear hk); (try clear hi)))
      go_meet
      case rel => exact ⟨_, (true), (by first | rfl | (simp; done) | (simp [*]; done)), H', ⟨by first | omega | exact Nat.le_refl _⟩, ⟨by repeat (first | (with_reducible first | exact HB.out | apply below_alloc | apply pw_below_drewN | apply below_drew1) | exact HB.out)⟩⟩
  case rest => as_aux_lemma =>
    clear HC2
    try clear p2
    try clear c3
    try clear c4
    try clear c5
    try clear c5b0
    try clear c5b1
    try clear c6
    obtain ⟨kq, x30_1, rfl, HA, HJ1, HB⟩ := hcut
    cases kq with
    | zero => exact absurd HA.out (by simp [spec_SyncWord.j0])
    | succ kj1 =>
      have H := HA.out
      clear HA
      simp only [spec_SyncWord.j0] at H
      by_cases c10 : x30_1 = true
      · subst c10
        have H1 : (some ((⟨#[]⟩ : ByteArray), false)) = some (r1, r2) := by rw [if_pos rfl] at H; exact H
        clear H
        have H := H1
        clear H1
        simp only [Option.some.injEq, Prod.mk.injEq] at H
        obtain ⟨rfl, rfl⟩ := H
        go_wp2
        go_ret2
        exact ⟨by first | rfl | (simp [errW_none, errW_some] <;> rfl) | (simp [*, errW_none, errW_some] <;> rfl), by repeat (first | (with_reducible first | exact HB.out | apply below_alloc | apply pw_below_drewN | apply below_drew1) | exact HB.out)⟩
      · replace c10 := Bool.eq_false_iff.mpr c10
        subst c10
        have H1 : ((spec_l05Readers.f kj1 l0).bind fun t148 => (if 2 ≤ 11728124029610 then (spec_SyncWord.l0 kj1 l0 t148 (t148.length : Int) (List.replicate 2 []) 0) else (none))) = some (r1, r2) := by rw [if_neg (show ¬ (false = true) by decide)] at H; exact H
        clear H
        have H := H1
        clear H1
        replace H := Option.bind_eq_some_iff.mp H
        obtain ⟨t148, A110, H⟩ := H
        replace H : (if 2 ≤ 11728124029610 then (spec_SyncWord.l0 kj1 l0 t148 (t148.length : Int) (List.replicate 2 []) 0) else (none)) = some (r1, r2) := H
        have A11 := Aside0.mk A110
        clear A110
        by_cases c12 : 2 ≤ 11728124029610
        · rw [if_pos c12] at H
          have c12b0 := eq_true c12
          have c12b1 : decide (2 ≤ 11728124029610) = true := decide_eq_true c12
          clear c12
          obtain ⟨y151, hy151⟩ : ∃ y_ : List (List Int), y_ = (List.replicate 2 []) := ⟨_, rfl⟩
          replace H : (spec_SyncWord.l0 kj1 l0 t148 (t148.length : Int) y151 0) = some (r1, r2) := by first | (rw [hy151]; with_reducible exact H) | (have H2_ := (Option.bind_some _ _).symm.trans H; rw [hy151]; with_reducible exact H2_) | (have H2_ := (Option.bind_some _ _).symm.trans H; with_reducible exact H2_) | with_reducible exact H | (rw [hy151]; exact H) | exact H
          have Ny151 := Aside0.mk hy151
          clear hy151
          have H' := Aside0.mk H
          clear H
          go_wp2_with (first | ((with_reducible refine gate_callee (f := 72) rfl ?_); refine goesL_ (some 32) rfl rfl Tryd.func72 (by kernel_rfl) rfl #[.slice A0 l0.length c0] rfl (by (try simp only [List.map_toArray, List.map_cons, List.map_nil]); first | done | rfl | (simp only [List.length_drop, List.length_take]; rfl)) ?_; (with_reducible refine (spec_l05Readers.calls kj1 _ _ l0 t148 _ ?side1 ?side2 A11.out).mono ?_); (case side1 => repeat (first | exact (Kd.C_below HR0.out HB.out) | (with_reducible refine Kd.C_alloc ?_ _) | (with_reducible refine Kd.C_drewN ?_ _) | (with_reducible refine Kd.C_drew ?_))); (case side2 => exact HC0.out); rintro e w13 ⟨v149, rfl, ho0, hb⟩; refine ⟨_, rfl, ?_⟩; have n0_ := Aside0.mk (Kd.R_lower ho0 (below_size (by repeat (first | (with_reducible first | exact HB.out | apply below_alloc | apply pw_below_drewN | apply below_drew1) | exact HB.out)))); have n1_ := Aside0.mk (below_step (by repeat (first | (with_reducible first | exact HB.out | apply below_alloc | apply pw_below_drewN | apply below_drew1) | exact HB.out)) hb); clear HB; have HO150 := n0_; have HB := n1_; clear n0_ n1_; (try clear hb); (try clear hb2); (try clear hk); (try clear hi); (try clear ho0); obtain ⟨Ao14, co14, eo14⟩ := Kd.R_slice HO150.out; subst eo14) | ((with_reducible refine gate_dst (N := 35) rfl ?_); (try (refine gate_guard (by rfl) ?_; dsimp only)); refine Kd.S_make (Kd.slice 3 (Kd.int .i64)) _ 56 rfl (N := 35) rfl 92 _ _ rfl 2 rfl rfl Tryd.underlying92 (.slice none 0 0) 24 info56 rfl (by decide) (by omega) [] (ok := fun _ => True) (okp := fun _ => True) ⟨_, rfl, Kd.R_nil _ _ _ _ _⟩ (fun _ hk => hk) trivial (by omega) (by omega) (Below.refl _ _) (Nat.le_refl _) ?_; intro v152 w15 ho16 hb hg_ hnew_; clear hg_ hnew_; (first | rw [← Ny151.out] at ho16 | (simp only [Int.reduceToNat] at ho16; rw [← Ny151.out] at ho16)); have n0_ := Aside0.mk (Kd.R_below (by (with_reducible repeat (first | apply Kd.R_alloc | apply Kd.R_drewN | apply Kd.R_drew)); exact HO150.out) hb); have n1_ := Aside0.mk (Kd.S_lower ho16 (below_size (by repeat (first | (with_reducible first | exact HB.out | apply below_alloc | apply pw_below_drewN | apply below_drew1) | exact HB.out)))); have n2_ := Aside0.mk (below_step (by repeat (first | (with_reducible first | exact HB.out | apply below_alloc | apply pw_below_drewN | apply below_drew1) | exact HB.out)) hb); clear HO150; clear HB; have HO150 := n0_; have HO153 := n1_; have HB := n2_; clear n0_ n1_ n2_; clear hb ho16))
          go_loopg [7] kj1 (fun kq v7 w' => ∃ (x6_2 : List (List Int)) (x7_2 : Int), v7 = .int .i64 x7_2 ∧ Aside0 (spec_SyncWord.l0 kq l0 t148 (t148.length : Int) x6_2 x7_2 = some (r1, r2)) ∧ Aside0 (kq ≤ kj1) ∧ Aside0 (Kd.R Kd.string 9 w' w.heap.size (fun _ => True) (.slice Ao14 t148.length co14) t148) ∧ Aside0 (Kd.S (Kd.slice 3 (Kd.int .i64)) 56 w' w.heap.size (fun _ => True) v152 x6_2) ∧ Aside0 (Below w.heap.size w w'))
          case atStart => exact ⟨(y151), (0), (by first | rfl | (simp; done) | (simp [*]; done)), H', ⟨Nat.le_refl _⟩, ⟨by (with_reducible repeat (first | apply Kd.R_alloc | apply Kd.R_drewN | apply Kd.R_drew)); exact HO150.out⟩, ⟨by (with_reducible repeat (first | apply Kd.S_alloc | apply Kd.S_drewN | apply Kd.S_drew)); exact HO153.out⟩, ⟨by repeat (first | (with_reducible first | exact HB.out | apply below_alloc | apply pw_below_drewN | apply below_drew1) | exact HB.out)⟩⟩
          case round => as_aux_lemma =>
            clear H'
            try clear c1
            try clear p2
            try clear c3
            try clear c4
            try clear c5
            try clear c5b0
            try clear c5b1
            try clear c6
            try clear c7
            try clear c10
            try clear c12
            try clear c12b0
            try clear c12b1
            try clear p2
            obtain ⟨x6_2, x7_2, rfl, HA, HK2, HO_4, HO_6, HB⟩ := hrel
            cases gk with
            | zero => exact absurd HA.out (by simp [spec_SyncWord.l0])
            | succ k2 =>
              have H := HA.out
              clear HA
              simp only [spec_SyncWord.l0] at H
              by_cases c17 : x7_2 < 2
              · rw [if_pos c17] at H
                have c17b0 : decide (x7_2 < 2) = true := decide_eq_true c17
                clear c17
                have H' := Aside0.mk H
                clear H
                go_wp2
                go_loopg [8] k2 (fun kq v8 w' => ∃ (x6_3 : List (List Int)) (x8_3 : Int), v8 = .int .i64 x8_3 ∧ Aside0 (spec_SyncWord.l1 kq l0 t148 (t148.length : Int) x6_3 x7_2 x8_3 = some (r1, r2)) ∧ Aside0 (kq ≤ k2) ∧ Aside0 (Kd.R Kd.string 9 w' w.heap.size (fun _ => True) (.slice Ao14 t148.length co14) t148) ∧ Aside0 (Kd.S (Kd.slice 3 (Kd.int .i64)) 56 w' w.heap.size (fun _ => True) v152 x6_3) ∧ Aside0 (Below w.heap.size w w'))
                case atStart => exact ⟨(x6_2), (0), (by first | rfl | (simp; done) | (simp [*]; done)), H', ⟨Nat.le_refl _⟩, ⟨by (with_reducible repeat (first | apply Kd.R_alloc | apply Kd.R_drewN | apply Kd.R_drew)); exact HO_4.out⟩, ⟨by (with_reducible repeat (first | apply Kd.S_alloc | apply Kd.S_drewN | apply Kd.S_drew)); exact HO_6.out⟩, ⟨by repeat (first | (with_reducible first | exact HB.out | apply below_alloc | apply pw_below_drewN | apply below_drew1) | exact HB.out)⟩⟩
                case round => as_aux_lemma =>
                  clear H'
                  try clear c1
                  try clear p2
                  try clear c3
                  try clear c4
                  try clear c5
                  try clear c5b0
                  try clear c5b1
                  try clear c6
                  try clear c7
                  try clear c10
                  try clear c12
                  try clear c12b0
                  try clear c12b1
                  try clear c17
                  try clear c17b0
                  try clear p2
                  obtain ⟨x6_3, x8_3, rfl, HA, HK3, HO_4, HO_6, HB⟩ := hrel
                  cases gk with
                  | zero => exact absurd HA.out (by simp [spec_SyncWord.l1])
                  | succ k3 =>
                    have H := HA.out
                    clear HA
                    simp only [spec_SyncWord.l1] at H
                    by_cases c18 : x8_3 < (t148.length : Int)
                    · rw [if_pos c18] at H
                      have c18b0 : decide (x8_3 < (t148.length : Int)) = true := decide_eq_true c18
                      clear c18
                      by_cases c19 : 0 ≤ x7_2
                      · rw [if_pos c19] at H
                        have c19b0 : decide (0 ≤ x7_2) = true := decide_eq_true c19
                        clear c19
                        by_cases c20 : x7_2 < (x6_3.length : Int)
                        · rw [if_pos c20] at H
                          have c20b0 : decide (x7_2 < (x6_3.length : Int)) = true := decide_eq_true c20
                          clear c20
                          by_cases c21 : 0 ≤ x8_3
                          · rw [if_pos c21] at H
                            have c21b0 : decide (0 ≤ x8_3) = true := decide_eq_true c21
                            clear c21
                            by_cases c22 : x8_3 < (t148.length : Int)
                            · rw [if_pos c22] at H
                              have c22b0 : decide (x8_3 < (t148.length : Int)) = true := decide_eq_true c22
                              clear c22
                              obtain ⟨y156, hy156⟩ : ∃ y_ : List Int, y_ = (([(wrap64 (48 + x7_2)) % 256] : List Int)) := ⟨_, rfl⟩
                              replace H : ((spec_l05Read.f k3 l0 (rdOf ByteArray.empty t148 x8_3) (strOfNums y156)).bind fun t159 => ((spec_l03Index.f k3 t148 t159).bind fun t160 => (if (rd_L3 x6_3 x7_2).length < 17592186044416 then (spec_SyncWord.l1 k3 l0 t148 (t148.length : Int) (x6_3.set (x7_2 : Int).toNat ((rd_L3 x6_3 x7_2) ++ [t160])) x7_2 (wrap64 (x8_3 + 1))) else (none)))) = some (r1, r2) := by first | (rw [hy156]; with_reducible exact H) | (have H2_ := (Option.bind_some _ _).symm.trans H; rw [hy156]; with_reducible exact H2_) | (have H2_ := (Option.bind_some _ _).symm.trans H; with_reducible exact H2_) | with_reducible exact H | (rw [hy156]; exact H) | exact H
                              have Ny156 := Aside0.mk hy156
                              clear hy156
                              replace H := Option.bind_eq_some_iff.mp H
                              obtain ⟨t159, A230, H⟩ := H
                              replace H : ((spec_l03Index.f k3 t148 t159).bind fun t160 => (if (rd_L3 x6_3 x7_2).length < 17592186044416 then (spec_SyncWord.l1 k3 l0 t148 (t148.length : Int) (x6_3.set (x7_2 : Int).toNat ((rd_L3 x6_3 x7_2) ++ [t160])) x7_2 (wrap64 (x8_3 + 1))) else (none))) = some (r1, r2) := H
                              have A23 := Aside0.mk A230
                              clear A230
                              replace H := Option.bind_eq_some_iff.mp H
                              obtain ⟨t160, A240, H⟩ := H
                              replace H : (if (rd_L3 x6_3 x7_2).length < 17592186044416 then (spec_SyncWord.l1 k3 l0 t148 (t148.length : Int) (x6_3.set (x7_2 : Int).toNat ((rd_L3 x6_3 x7_2) ++ [t160])) x7_2 (wrap64 (x8_3 + 1))) else (none)) = some (r1, r2) := H
                              have A24 := Aside0.mk A240
                              clear A240
                              by_cases c25 : (rd_L3 x6_3 x7_2).length < 17592186044416
                              · rw [if_pos c25] at H
                                have LMc25 := Aside0.mk c25
                                clear c25
                                obtain ⟨y161, hy161⟩ : ∃ y_ : List Int, y_ = ((rd_L3 x6_3 x7_2) ++ [t160]) := ⟨_, rfl⟩
                                replace H : (spec_SyncWord.l1 k3 l0 t148 (t148.length : Int) (x6_3.set (x7_2 : Int).toNat y161) x7_2 (wrap64 (x8_3 + 1))) = some (r1, r2) := by first | (rw [hy161]; with_reducible exact H) | (have H2_ := (Option.bind_some _ _).symm.trans H; rw [hy161]; with_reducible exact H2_) | (have H2_ := (Option.bind_some _ _).symm.trans H; with_reducible exact H2_) | with_reducible exact H | (rw [hy161]; exact H) | exact H
                                have Ny161 := Aside0.mk hy161
                                clear hy161
                                obtain ⟨y164, hy164⟩ : ∃ y_ : List (List Int), y_ = (x6_3.set (x7_2 : Int).toNat y161) := ⟨_, rfl⟩
                                replace H : (spec_SyncWord.l1 k3 l0 t148 (t148.length : Int) y164 x7_2 (wrap64 (x8_3 + 1))) = some (r1, r2) := by first | (rw [hy164]; with_reducible exact H) | (have H2_ := (Option.bind_some _ _).symm.trans H; rw [hy164]; with_reducible exact H2_) | (have H2_ := (Option.bind_some _ _).symm.trans H; with_reducible exact H2_) | with_reducible exact H | (rw [hy164]; exact H) | exact H
                                have Ny164 := Aside0.mk hy164
                                clear hy164
                                have H' := Aside0.mk H
                                clear H
                                try go_wp2
                                have n0_ := Aside0.mk (Kd.R_drew HO_4.out)
                                have n1_ := Aside0.mk (Kd.S_drew HO_6.out)
                                have n2_ := Aside0.mk (below_drew1 HB.out)
                                clear HO_4
                                clear HO_6
                                clear HB
                                have HO_4 := n0_
                                have HO_6 := n1_
                                have HB := n2_
                                clear n0_ n1_ n2_
                                obtain ⟨Ao28, co28, eo28⟩ := Kd.S_slice HO_6.out
                                (first | subst eo28 | (injection eo28 with f1_ f2_ f3_; have f4_ := f1_.symm; have f5_ := f3_.symm; clear f1_ f2_ f3_; subst f4_; subst f5_))
                                have p154 : 0 ≤ (x7_2 : Int) := of_decide_eq_true (by first | (with_reducible assumption) | assumption)
                                have q154 : x7_2 < (x6_3.length : Int) := of_decide_eq_true (by first | (with_reducible assumption) | assumption)
                                obtain ⟨ad154, A154_0, c154_0, e154, hx154_0, hl154_0, hi154_0⟩ := at_L3 (Kd.S_reads' HO_6.out).2.2 x7_2 p154 q154
                                cases e154
                                obtain ⟨ce154, hce154, hMe154, hcc154⟩ := Kd.S_get HO_6.out [] x7_2 p154 (by first | exact q154 | exact of_decide_eq_true (by first | (with_reducible assumption) | assumption) | (have e_ := (Kd.S_reads' HO_6.out).1; omega))
                                obtain ⟨ve154_0, rfl, ge154_0⟩ := hMe154
                                have hv154_0 := hcc154 0 _ rfl
                                rw [Nat.add_zero, show ((Kd.slice 3 (Kd.int .i64))).sz = 1 from rfl, Nat.mul_one] at hv154_0
                                replace hv154_0 := Option.some.inj (hv154_0.symm.trans hx154_0)
                                rw [hv154_0] at ge154_0
                                have HL154_0 := Aside0.mk (show Kd.R (Kd.int .i64) 3 _ _ _ _ (rd_L3 x6_3 x7_2) from ge154_0)
                                clear hv154_0 ge154_0
                                have HX154_0 := Aside0.mk hx154_0
                                clear hcc154 hce154
                                have HR154_0 := Aside0.mk hi154_0
                                have HC154_0 := Aside0.mk hl154_0
                                clear hi154_0 hl154_0
                                replace p154 := eq_true p154
                                replace q154 := eq_true q154
                                have p155 : 0 ≤ (x8_3 : Int) := of_decide_eq_true (by first | (with_reducible assumption) | assumption)
                                have q155 : x8_3 < (t148.length : Int) := of_decide_eq_true (by first | (with_reducible assumption) | assumption)
                                obtain ⟨ad155, e155, hx155_0⟩ := Kd.at_string (Kd.R_reads' HO_4.out).2.2 x8_3 p155 q155
                                cases e155
                                replace p155 := eq_true p155
                                replace q155 := eq_true q155
                                refine start_ (n := 23) (S := fun w' => w'.cell? (ad154.add (x7_2).toNat) = some (.slice A154_0 (rd_L3 x6_3 x7_2).length c154_0) ∧ w'.cell? (ad155.add (x8_3).toNat) = some (.string (rdOf ByteArray.empty t148 x8_3))) (ds := [20, 22]) #[false, false, false, false, false, false, false, false, false, false, false, false, false, false, false, false, false, false, false, false, false, false, false] (by kernel_rfl) rfl rfl ⟨hx154_0, hx155_0⟩ (fun hHeld => ?_); refine with_tabW spec_SyncWord.tab12 spec_SyncWord.bits12 (fun HT_ HW_ => ?_)
                                generalize wr.drew = w27 at HO_4 HO_6 HB HL154_0 HR154_0 HX154_0 hx154_0 hx155_0 hHeld ⊢
                                refine pure_ (i := 0) (N := some 45) (v := ?_) (a' := ?_) #[true, false, false, false, false, false, false, false, false, false, false, false, false, false, false, false, false, false, false, false, false, false, false] rfl rfl (any_of HT_.out (by kernel_rfl)) (fun _ _ _ h => h) (Or.inl ⟨by rfl, ?_⟩) ?_ ?_
                                rotate_left
                                · intro w'
                                  go_simp
                                  with_reducible rfl
                                rotate_left
                                · simp only [Act.put, List.setIfInBounds_toArray, List.set_cons_zero, List.set_cons_succ, i64_w, i32_w]
                                  rfl
                                refine pure_ (i := 1) (N := some 46) (v := ?_) (a' := ?_) #[true, true, false, false, false, false, false, false, false, false, false, false, false, false, false, false, false, false, false, false, false, false, false] rfl rfl (any_of HT_.out (by kernel_rfl)) (fun _ _ _ h => h) (Or.inl ⟨by rfl, ?_⟩) ?_ ?_
                                rotate_left
                                · intro w'
                                  go_simp
                                  with_reducible rfl
                                rotate_left
                                · simp only [Act.put, List.setIfInBounds_toArray, List.set_cons_zero, List.set_cons_succ, i64_w, i32_w]
                                  rfl
                                refine pure_ (i := 2) (N := some 47) (v := ?_) (a' := ?_) #[true, true, true, false, false, false, false, false, false, false, false, false, false, false, false, false, false, false, false, false, false, false, false] rfl rfl (any_of HT_.out (by kernel_rfl)) (fun _ _ _ h => h) (Or.inl ⟨by rfl, ?_⟩) ?_ ?_
                                rotate_left
                                · intro w'
                                  go_simp
                                  with_reducible rfl
                                rotate_left
                                · simp only [Act.put, List.setIfInBounds_toArray, List.set_cons_zero, List.set_cons_succ, i64_w, i32_w]
                                  rfl
                                refine pure_ (i := 3) (N := some 48) (v := ?_) (a' := ?_) #[true, true, true, true, false, false, false, false, false, false, false, false, false, false, false, false, false, false, false, false, false, false, false] rfl rfl (any_of HT_.out (by kernel_rfl)) (fun _ _ _ h => h) (Or.inl ⟨by rfl, ?_⟩) ?_ ?_
                                rotate_left
                                · intro w'
                                  go_simp
                                  with_reducible rfl
                                rotate_left
                                · simp only [Act.put, List.setIfInBounds_toArray, List.set_cons_zero, List.set_cons_succ, i64_w, i32_w]
                                  rfl
                                refine pure_ (i := 4) (N := some 49) (v := ?_) (a' := ?_) #[true, true, true, true, true, false, false, false, false, false, false, false, false, false, false, false, false, false, false, false, false, false, false] rfl rfl (any_of HT_.out (by kernel_rfl)) (fun _ _ _ h => h) (Or.inl ⟨by rfl, ?_⟩) ?_ ?_
                                rotate_left
                                · intro w'
                                  go_simp
                                  with_reducible rfl
                                rotate_left
                                · simp only [Act.put, List.setIfInBounds_toArray, List.set_cons_zero, List.set_cons_succ, i64_w, i32_w]
                                  rfl
                                refine pure_ (i := 6) (N := some 51) (v := ?_) (a' := ?_) #[true, true, true, true, true, false, true, false, false, false, false, false, false, false, false, false, false, false, false, false, false, false, false] rfl rfl (any_of HT_.out (by kernel_rfl)) (fun _ _ _ h => h) (Or.inl ⟨by rfl, ?_⟩) ?_ ?_
                                rotate_left
                                · intro w'
                                  go_simp
                                  with_reducible rfl
                                rotate_left
                                · simp only [Act.put, List.setIfInBounds_toArray, List.set_cons_zero, List.set_cons_succ, i64_w, i32_w]
                                  rfl
                                refine pure_ (i := 7) (N := some 52) (v := ?_) (a' := ?_) #[true, true, true, true, true, false, true, true, false, false, false, false, false, false, false, false, false, false, false, false, false, false, false] rfl rfl (any_of HT_.out (by kernel_rfl)) (fun _ _ _ h => h) (Or.inl ⟨by rfl, ?_⟩) ?_ ?_
                                rotate_left
                                · intro w'
                                  go_simp
                                  with_reducible rfl
                                rotate_left
                                · simp only [Act.put, List.setIfInBounds_toArray, List.set_cons_zero, List.set_cons_succ, i64_w, i32_w]
                                  rfl
                                refine pure_ (i := 8) (N := some 53) (v := ?_) (a' := ?_) #[true, true, true, true, true, false, true, true, true, false, false, false, false, false, false, false, false, false, false, false, false, false, false] rfl rfl (any_of HT_.out (by kernel_rfl)) (fun _ _ _ h => h) (Or.inl ⟨by rfl, ?_⟩) ?_ ?_
                                rotate_left
                                · intro w'
                                  go_simp
                                  with_reducible rfl
                                rotate_left
                                · simp only [Act.put, List.setIfInBounds_toArray, List.set_cons_zero, List.set_cons_succ, i64_w, i32_w]
                                  rfl
                                refine pure_ (i := 9) (N := some 54) (v := ?_) (a' := ?_) #[true, true, true, true, true, false, true, true, true, true, false, false, false, false, false, false, false, false, false, false, false, false, false] rfl rfl (any_of HT_.out (by kernel_rfl)) (fun _ _ _ h => h) (Or.inl ⟨by rfl, ?_⟩) ?_ ?_
                                rotate_left
                                · intro w'
                                  go_simp
                                  with_reducible rfl
                                rotate_left
                                · simp only [Act.put, List.setIfInBounds_toArray, List.set_cons_zero, List.set_cons_succ, i64_w, i32_w]
                                  rfl
                                refine pure_ (i := 10) (N := some 55) (v := ?_) (a' := ?_) #[true, true, true, true, true, false, true, true, true, true, true, false, false, false, false, false, false, false, false, false, false, false, false] rfl rfl (any_of HT_.out (by kernel_rfl)) (fun _ _ _ h => h) (Or.inl ⟨by rfl, ?_⟩) ?_ ?_
                                rotate_left
                                · intro w'
                                  go_simp
                                  with_reducible rfl
                                rotate_left
                                · simp only [Act.put, List.setIfInBounds_toArray, List.set_cons_zero, List.set_cons_succ, i64_w, i32_w]
                                  rfl
                                refine pure_ (i := 12) (N := some 57) (v := ?_) (a' := ?_) #[true, true, true, true, true, false, true, true, true, true, true, false, true, false, false, false, false, false, false, false, false, false, false] rfl rfl (any_of HT_.out (by kernel_rfl)) (fun _ _ _ h => h) (Or.inl ⟨by rfl, ?_⟩) ?_ ?_
                                rotate_left
                                · intro w'
                                  go_simp
                                  with_reducible rfl
                                rotate_left
                                · simp only [Act.put, List.setIfInBounds_toArray, List.set_cons_zero, List.set_cons_succ, i64_w, i32_w]
                                  rfl
                                refine pure_ (i := 13) (N := some 58) (v := ?_) (a' := ?_) #[true, true, true, true, true, false, true, true, true, true, true, false, true, true, false, false, false, false, false, false, false, false, false] rfl rfl (any_of HT_.out (by kernel_rfl)) (fun _ _ _ h => h) (Or.inl ⟨by rfl, ?_⟩) ?_ ?_
                                rotate_left
                                · intro w'
                                  go_simp
                                  with_reducible rfl
                                rotate_left
                                · simp only [Act.put, List.setIfInBounds_toArray, List.set_cons_zero, List.set_cons_succ, i64_w, i32_w]
                                  rfl
                                refine pure_ (i := 14) (N := some 59) (v := ?_) (a' := ?_) #[true, true, true, true, true, false, true, true, true, true, true, false, true, true, true, false, false, false, false, false, false, false, false] rfl rfl (any_of HT_.out (by kernel_rfl)) (fun _ _ _ h => h) (Or.inl ⟨by rfl, ?_⟩) ?_ ?_
                                rotate_left
                                · intro w'
                                  go_simp
                                  with_reducible rfl
                                rotate_left
                                · simp only [Act.put, List.setIfInBounds_toArray, List.set_cons_zero, List.set_cons_succ, i64_w, i32_w]
                                  rfl
                                refine take_ (i := 5) (N := some 50) (v := ?_) (a' := ?_) #[true, true, true, true, true, true, true, true, true, true, true, false, true, true, true, false, false, false, false, false, false, false, false] rfl rfl (take_ofW HT_.out HW_.out (by kernel_rfl)) (fun _ _ _ h => h) (Or.inl ⟨by rfl, ?_⟩) hHeld ?_ ?_
                                rotate_left
                                · rintro w' ⟨s0, s1⟩
                                  go_simp
                                  with_reducible rfl
                                rotate_left
                                · simp only [Act.put, List.setIfInBounds_toArray, List.set_cons_zero, List.set_cons_succ, i64_w, i32_w]
                                  rfl
                                refine take_ (i := 11) (N := some 56) (v := ?_) (a' := ?_) #[true, true, true, true, true, true, true, true, true, true, true, true, true, true, true, false, false, false, false, false, false, false, false] rfl rfl (take_ofW HT_.out HW_.out (by kernel_rfl)) (fun _ _ _ h => h) (Or.inl ⟨by rfl, ?_⟩) hHeld ?_ ?_
                                rotate_left
                                · rintro w' ⟨s0, s1⟩
                                  go_simp
                                  with_reducible rfl
                                rotate_left
                                · simp only [Act.put, List.setIfInBounds_toArray, List.set_cons_zero, List.set_cons_succ, i64_w, i32_w]
                                  rfl
                                refine one_ (i := 15) (N := some 60) #[true, true, true, true, true, true, true, true, true, true, true, true, true, true, true, true, false, false, false, false, false, false, false] rfl rfl (one_of HT_.out (by kernel_rfl)) (by decide) (fun K hK => ?_)
                                refine Kd.R_lit_step (Kd.int .u8) _ 5 ?hg (N := 60) ?hd (xs := ([(wrap64 (48 + x7_2)) % 256] : List Int)) (inner := [.int .u8 ((wrap64 (48 + x7_2)) % 256)]) (ok := fun _ => True) (okp := fun _ => True) ?hr ?hp (fun _ hk => hk) trivial (Below.refl _ _) (Nat.le_refl _) (by simp) ?_; (case hd => rfl); (case hg => rfl); (case hr => first | (go_simp; done) | (go_simp; rfl)); (case hp => exact (Reps.one (show Kd.M (Kd.int .u8) _ _ _ ((wrap64 (48 + x7_2)) % 256) [.int .u8 ((wrap64 (48 + x7_2)) % 256)] from rfl) (Reps.none _ _)))
                                intro v157 w29 ho30 hb hg_ hnew_
                                have HS0_ := (hb.cell (World.block_lt_of_cell? _ _ (hHeld.1))).trans (hHeld.1)
                                have HS1_ := (hb.cell (World.block_lt_of_cell? _ _ (hHeld.2))).trans (hHeld.2)
                                clear hg_ hnew_
                                (first | rw [← Ny156.out] at ho30 | (simp only [Int.reduceToNat] at ho30; rw [← Ny156.out] at ho30))
                                have n0_ := Aside0.mk (Kd.R_below (by (with_reducible repeat (first | apply Kd.R_alloc | apply Kd.R_drewN | apply Kd.R_drew)); exact HO_4.out) hb)
                                have n1_ := Aside0.mk (Kd.S_below (by (with_reducible repeat (first | apply Kd.S_alloc | apply Kd.S_drewN | apply Kd.S_drew)); exact HO_6.out) hb)
                                have n2_ := Aside0.mk (Kd.R_below (by (with_reducible repeat (first | apply Kd.R_alloc | apply Kd.R_drewN | apply Kd.R_drew)); exact HL154_0.out) hb)
                                have n3_ := Aside0.mk (Kd.R_lower ho30 (below_size (by repeat (first | (with_reducible first | exact HB.out | apply below_alloc | apply pw_below_drewN | apply below_drew1) | exact HB.out))))
                                have n4_ := Aside0.mk (Kd.C_below (by repeat (first | (with_reducible exact HR154_0.out) | (with_reducible refine Kd.C_alloc ?_ _) | (with_reducible refine Kd.C_drewN ?_ _) | (with_reducible refine Kd.C_drew ?_) | exact HR154_0.out)) hb)
                                have n5_ := Aside0.mk (pw_cell_below hb HX154_0.out)
                                have n6_ := Aside0.mk (below_step (by repeat (first | (with_reducible first | exact HB.out | apply below_alloc | apply pw_below_drewN | apply below_drew1) | exact HB.out)) hb)
                                clear HO_4
                                clear HO_6
                                clear HL154_0
                                clear HR154_0
                                clear HX154_0
                                clear HB
                                have HO_4 := n0_
                                have HO_6 := n1_
                                have HL154_0 := n2_
                                have HO158 := n3_
                                have HR154_0 := n4_
                                have HX154_0 := n5_
                                have HB := n6_
                                clear n0_ n1_ n2_ n3_ n4_ n5_ n6_
                                clear hb ho30
                                refine hK.out _ _ ⟨HS0_, HS1_⟩ (fun hHeld => ?_)
                                clear hK K
                                refine norm_ (a' := ?_) ?_ ?_
                                rotate_left
                                · show Act.put _ (some 60) _ = _
                                  simp only [Act.put, List.setIfInBounds_toArray, List.set_cons_zero, List.set_cons_succ, i64_w, i32_w]
                                  rfl
                                refine one_ (i := 16) (N := some 61) #[true, true, true, true, true, true, true, true, true, true, true, true, true, true, true, true, true, false, false, false, false, false, false] rfl rfl (one_of HT_.out (by kernel_rfl)) (by decide) (fun K hK => ?_)
                                have hcv31 := own_string (P := Tryd.prog) Tryd.underlying45 Tryd.underlying5 Tryd.underlying9 (Kd.own_of_R HO158.out)
                                refine value_ (w1 := ?_) (v := ?_) (by rfl) rfl ?_ ?_
                                rotate_left 2
                                · go_simp
                                  constructor
                                  · rfl
                                  · rfl
                                clear hcv31
                                refine hK.out _ _ (by first | exact trivial | exact hHeld | exact ⟨hHeld.1, hHeld.2⟩ | exact ⟨HS0_, HS1_⟩) (fun hHeld => ?_)
                                clear hK K
                                refine norm_ (a' := ?_) ?_ ?_
                                rotate_left
                                · show Act.put _ (some 61) _ = _
                                  simp only [Act.put, List.setIfInBounds_toArray, List.set_cons_zero, List.set_cons_succ, i64_w, i32_w]
                                  rfl
                                refine one_ (i := 17) (N := some 62) #[true, true, true, true, true, true, true, true, true, true, true, true, true, true, true, true, true, true, false, false, false, false, false] rfl rfl (one_of HT_.out (by kernel_rfl)) (by decide) (fun K hK => ?_)
                                refine goes_ Tryd.func74 (by kernel_rfl) rfl #[.slice A0 l0.length c0, .string (rdOf ByteArray.empty t148 x8_3), .string (strOfNums y156)] (by rfl) rfl rfl (by (try simp only [List.map_toArray, List.map_cons, List.map_nil]); first | done | rfl | (simp only [List.length_drop, List.length_take]; rfl)) ?_
                                with_reducible refine (spec_l05Read.calls k3 _ _ l0 (rdOf ByteArray.empty t148 x8_3) (strOfNums y156) t159 _ ?side1 ?side2 A23.out).mono ?_
                                (case side1 => repeat (first | exact (Kd.C_below HR0.out HB.out) | (with_reducible refine Kd.C_alloc ?_ _) | (with_reducible refine Kd.C_drewN ?_ _) | (with_reducible refine Kd.C_drew ?_)))
                                (case side2 => exact HC0.out)
                                rintro e w' ⟨rfl, ⟨nd, rfl⟩⟩
                                refine ⟨_, rfl, ?_⟩
                                refine hK.out _ _ ⟨hHeld.1, hHeld.2⟩ (fun hHeld => ?_)
                                clear hK K
                                refine norm_ (a' := ?_) ?_ ?_
                                rotate_left
                                · show Act.put _ (some 62) _ = _
                                  simp only [Act.put, List.setIfInBounds_toArray, List.set_cons_zero, List.set_cons_succ, i64_w, i32_w]
                                  rfl
                                refine one_ (i := 18) (N := some 63) #[true, true, true, true, true, true, true, true, true, true, true, true, true, true, true, true, true, true, true, false, false, false, false] rfl rfl (one_of HT_.out (by kernel_rfl)) (by decide) (fun K hK => ?_)
                                refine goes_ Tryd.func73 (by kernel_rfl) rfl #[.slice (some ad155) t148.length co14, .string t159] (by rfl) rfl rfl (by (try simp only [List.map_toArray, List.map_cons, List.map_nil]); first | done | rfl | (simp only [List.length_drop, List.length_take]; rfl)) ?_
                                with_reducible refine (spec_l03Index.calls k3 _ _ t148 t159 t160 _ ?side1 ?side2 A24.out).mono ?_
                                (case side1 => repeat (first | exact (Kd.R_reads' HO_4.out).2.2 | (with_reducible refine Kd.C_alloc ?_ _) | (with_reducible refine Kd.C_drewN ?_ _) | (with_reducible refine Kd.C_drew ?_)))
                                (case side2 => exact (Kd.R_reads' HO_4.out).2.1)
                                rintro e w' ⟨rfl, ⟨nd, rfl⟩⟩
                                refine ⟨_, rfl, ?_⟩
                                obtain ⟨go32, co32, eo32, gb32, gl32, cl32, HG32⟩ := Kd.S_form HO_6.out (by have h_ : (x7_2 : Int) < ((x6_3.length : Int) : Int) := of_decide_eq_true (by first | (with_reducible assumption) | assumption); have h2_ : 0 ≤ (x7_2 : Int) := (of_decide_eq_true (by first | (with_reducible assumption) | assumption)); omega)
                                (first | cases eo32 | (injection eo32 with ea_ en_ ec_; (first | subst ea_ | (injection ea_ with ea_; subst ea_)); subst ec_; clear en_))
                                have GB32 := Aside0.mk gb32
                                have GG32 := Aside0.mk HG32
                                clear gb32 gl32 HG32
                                (first | simp only [add_plain] at hx154_0 | skip)
                                obtain ⟨oki32, ce32, hcl32, hM32, hcc32, _, _, hH32⟩ := Kd.S_elem HO_6.out [] (x7_2 : Int) (of_decide_eq_true (by first | (with_reducible assumption) | assumption)) (by have h_ : (x7_2 : Int) < ((x6_3.length : Int) : Int) := of_decide_eq_true (by first | (with_reducible assumption) | assumption); first | exact h_ | (have e_ := (Kd.S_reads' HO_6.out).1; omega) | simpa using h_)
                                obtain ⟨ve32_0, rfl, ge32_0⟩ := hM32
                                have hv32 := hcc32 0 _ rfl
                                have hX32 := HX154_0.out
                                (try simp only [add_plain] at hX32)
                                (try simp only [Nat.add_zero] at hv32)
                                (try rw [show ((Kd.slice 3 (Kd.int .i64))).sz = 1 from rfl, Nat.mul_one] at hv32)
                                replace hv32 := Option.some.inj (hv32.symm.trans hX32)
                                subst hv32
                                clear hX32 hcc32 hcl32
                                have UU32 := Aside0.mk (show Kd.R (Kd.int .i64) 3 _ w.heap.size oki32 (.slice A154_0 (rd_L3 x6_3 x7_2).length c154_0) (rd_L3 x6_3 x7_2) from ge32_0)
                                have HH32 := Aside0.mk hH32
                                have HN32 := Aside0.mk (Kd.S_reads' HO_6.out).1
                                clear hH32 ge32_0
                                refine hK.out _ _ ⟨hHeld.1, hHeld.2⟩ (fun hHeld => ?_)
                                clear hK K
                                refine norm_ (a' := ?_) ?_ ?_
                                rotate_left
                                · show Act.put _ (some 63) _ = _
                                  simp only [Act.put, List.setIfInBounds_toArray, List.set_cons_zero, List.set_cons_succ, i64_w, i32_w]
                                  rfl
                                refine one_ (i := 19) (N := some 64) #[true, true, true, true, true, true, true, true, true, true, true, true, true, true, true, true, true, true, true, true, false, false, false] rfl rfl (one_of HT_.out (by kernel_rfl)) (by decide) (fun K hK => ?_)
                                refine value_ (w1 := ?_) (v := ?_) (by rfl) rfl ?_ ?_
                                rotate_left 2
                                · go_simp
                                  constructor
                                  · rfl
                                  · rfl
                                refine hK.out _ _ ⟨(World.cell?_alloc_lt _ _ _ (World.block_lt_of_cell? _ _ (hHeld.1))).trans (hHeld.1), (World.cell?_alloc_lt _ _ _ (World.block_lt_of_cell? _ _ (hHeld.2))).trans (hHeld.2)⟩ (fun hHeld => ?_)
                                clear hK K
                                refine norm_ (a' := ?_) ?_ ?_
                                rotate_left
                                · show Act.put _ (some 64) _ = _
                                  simp only [Act.put, List.setIfInBounds_toArray, List.set_cons_zero, List.set_cons_succ, i64_w, i32_w]
                                  rfl
                                refine last_ (i := 20) (N := some 65) #[true, true, true, true, true, true, true, true, true, true, true, true, true, true, true, true, true, true, true, true, true, false, false] rfl rfl (one_of HT_.out (by kernel_rfl)) (by decide) (fun K hK => ?_)
                                refine Kd.R_append_step (Kd.int .i64) (w0 := w) w.heap.size (by rfl) (.tmp 50) (.tmp 64) 56 3 (.int .i64 0) 8 rfl Tryd.underlying56 info3 rfl (by decide) (by omega) (.slice A154_0 (rd_L3 x6_3 x7_2).length c154_0) (rd_L3 x6_3 x7_2) t160 [.int .i64 t160] (fun k_ => oki32 k_ ∨ ((fun _ => True)) k_ ∧ w29.heap.size ≤ k_) (fun _ => False) rfl rfl ?aP (fun _ hk => hk.elim) ?aF ?aO ?aB ?aS ?aL ?_
                                (case aP => exact rfl)
                                (case aB => exact (by repeat (first | (with_reducible first | exact HB.out | apply below_alloc | apply pw_below_drewN | apply below_drew1) | exact HB.out)))
                                (case aF => exact (fun k_ hk => .inr ⟨trivial, hk⟩))
                                (case aO => exact (by (with_reducible repeat (first | apply Kd.R_alloc | apply Kd.R_drewN | apply Kd.R_drew)); exact Kd.R_mono UU32.out (fun _ hk => .inl hk)))
                                (case aS => exact (below_size (by repeat (first | (with_reducible first | exact HB.out | apply below_alloc | apply pw_below_drewN | apply below_drew1) | exact HB.out))))
                                (case aL => have := LMc25.out; omega)
                                intro v162 w33 ho hb hg hat
                                rw [← Ny161.out] at ho
                                have n0_ := Aside0.mk (Kd.R_over' (v := (.slice A154_0 (rd_L3 x6_3 x7_2).length c154_0)) (by (with_reducible repeat (first | apply Kd.R_alloc | apply Kd.R_drewN | apply Kd.R_drew)); exact HO_4.out) (Kd.R_typed (by (with_reducible repeat (first | apply Kd.R_alloc | apply Kd.R_drewN | apply Kd.R_drew)); exact HL154_0.out)) (by decide) hg)
                                have n1_ := Aside0.mk (Kd.R_over' (v := (.slice A154_0 (rd_L3 x6_3 x7_2).length c154_0)) (by (with_reducible repeat (first | apply Kd.R_alloc | apply Kd.R_drewN | apply Kd.R_drew)); exact HO158.out) (Kd.R_typed (by (with_reducible repeat (first | apply Kd.R_alloc | apply Kd.R_drewN | apply Kd.R_drew)); exact HL154_0.out)) (by decide) hg)
                                have n2_ := Aside0.mk (hb)
                                have n3_ := Aside0.mk (Kd.H_grown (Kd.H_widen (by repeat (first | exact HH32.out | refine Kd.H_alloc ?_ _ | refine Kd.H_drewN ?_ _ | refine Kd.H_drew ?_))) hg (fun k_ e_ => .inl (UU32.out.1 k_ e_)))
                                have n4_ := Aside0.mk (ho)
                                clear HO_4
                                clear HO158
                                clear HB
                                clear HH32
                                clear HO_6
                                clear UU32
                                clear HL154_0
                                have HO_4 := n0_
                                have HO158 := n1_
                                have HB := n2_
                                have HH32 := n3_
                                have HO163 := n4_
                                clear n0_ n1_ n2_ n3_ n4_
                                clear ho hb hg hat
                                have p26 : 0 ≤ (x7_2 : Int) := of_decide_eq_true (by first | (with_reducible assumption) | assumption)
                                have q26 : (x7_2 : Int) < ((x6_3.length : Int) : Int) := of_decide_eq_true (by first | (with_reducible assumption) | assumption)
                                replace p26 := eq_true p26
                                replace q26 := eq_true q26
                                obtain ⟨Ao36, co36, eo36⟩ := Kd.R_slice HO163.out
                                (first | subst eo36 | (injection eo36 with f1_ f2_ f3_; have f4_ := f1_.symm; have f5_ := f3_.symm; clear f1_ f2_ f3_; subst f4_; subst f5_))
                                obtain ⟨_, _, hraw34, _, _, hcc34, _⟩ := Kd.H_raw HH32.out (of_decide_eq_true (by first | (with_reducible assumption) | assumption)) (by have h_ : (x7_2 : Int) < ((x6_3.length : Int) : Int) := of_decide_eq_true (by first | (with_reducible assumption) | assumption); first | exact h_ | (have e_ := (HN32.out); omega) | simpa using h_)
                                obtain ⟨_, hfr34⟩ := Kd.H_at HH32.out (of_decide_eq_true (by first | (with_reducible assumption) | assumption)) (by have h_ : (x7_2 : Int) < ((x6_3.length : Int) : Int) := of_decide_eq_true (by first | (with_reducible assumption) | assumption); first | exact h_ | (have e_ := (HN32.out); omega) | simpa using h_)
                                have hx34_0 := hcc34 0 _ rfl
                                have hf34_0 := hfr34 0
                                (try simp only [Nat.add_zero] at hx34_0 hf34_0)
                                (try rw [show ((Kd.slice 3 (Kd.int .i64))).sz = 1 from rfl, Nat.mul_one] at hx34_0)
                                (try rw [show ((Kd.slice 3 (Kd.int .i64))).sz = 1 from rfl, Nat.mul_one] at hf34_0)
                                have HP34 := Kd.S_seg0 HH32.out (of_decide_eq_true (by first | (with_reducible assumption) | assumption)) (by have h_ : (x7_2 : Int) < ((x6_3.length : Int) : Int) := of_decide_eq_true (by first | (with_reducible assumption) | assumption); first | exact h_ | (have e_ := (HN32.out); omega) | simpa using h_) (seg := [.slice Ao36 y161.length co36]) (j := 0) (show 1 ≤ 1 from by decide) (x' := y161) (Kd.M_row HO163.out) (fun _ hk => hk)
                                (try simp only [show ((Kd.slice 3 (Kd.int .i64))).sz = 1 from rfl, Nat.mul_one, Nat.add_zero] at HP34)
                                clear hcc34 hfr34
                                have HS34 := HP34.1
                                rw [← Ny164.out] at HS34
                                have HQ34 := Aside0.mk HS34
                                obtain ⟨_, hgg34⟩ := Kd.R_typed hraw34 go32 rfl
                                have GG34_ := Aside0.mk hgg34
                                clear HP34 HS34 hgg34
                                refine hK.out _ _ ?_
                                clear hK K
                                refine norm_ (a' := ?_) ?_ ?_
                                rotate_left
                                · show Act.put _ (some 65) _ = _
                                  simp only [Act.put, List.setIfInBounds_toArray, List.set_cons_zero, List.set_cons_succ, i64_w, i32_w]
                                  rfl
                                refine pure_ (i := 21) (N := some 66) (v := ?_) (a' := ?_) #[true, true, true, true, true, true, true, true, true, true, true, true, true, true, true, true, true, true, true, true, true, true, false] rfl rfl (any_of HT_.out (by kernel_rfl)) (fun _ _ _ h => h) (Or.inl ⟨by rfl, ?_⟩) ?_ ?_
                                rotate_left
                                · intro w'
                                  go_simp
                                  with_reducible rfl
                                rotate_left
                                · simp only [Act.put, List.setIfInBounds_toArray, List.set_cons_zero, List.set_cons_succ, i64_w, i32_w]
                                  rfl
                                refine last_ (i := 22) (N := none) #[true, true, true, true, true, true, true, true, true, true, true, true, true, true, true, true, true, true, true, true, true, true, true] rfl rfl (one_of HT_.out (by kernel_rfl)) (by decide) (fun K hK => ?_)
                                refine skip_ (w1 := ?_) (by rfl) rfl ?_ ?_
                                rotate_left
                                · go_simp
                                  rfl
                                refine hK.out _ _ ?_
                                clear hK K
                                refine done_ (done_of HT_.out (by kernel_rfl)) ?_
                                try go_wp2
                                go_roundg k3
                                case measure => have := HJ1.out; have := HK2.out; have := HK3.out; omega
                                case rel => exact ⟨(y164), (wrap64 (x8_3 + 1)), (by first | rfl | (simp; done) | (simp [*]; done)), H', ⟨by have := HJ1.out; have := HK2.out; have := HK3.out; omega⟩, ⟨by (with_reducible repeat (first | apply Kd.R_alloc | apply Kd.R_drewN | apply Kd.R_drew)); exact Kd.R_mono (Kd.R_far (p := ⟨go32, (x7_2 : Int).toNat, none⟩) (Kd.R_types HO_4.out GG34_.out (by decide)) (fun _ hk => hk.2) (.slice Ao36 y161.length co36)) (fun _ hk => trivial)⟩, ⟨by (with_reducible repeat (first | apply Kd.S_alloc | apply Kd.S_drewN | apply Kd.S_drew)); exact HQ34.out⟩, ⟨by repeat (first | (with_reducible first | exact HB.out | apply below_alloc | apply pw_below_drewN | apply below_drew1 | refine below_set ?_ GB32.out) | exact HB.out)⟩⟩
                              · rw [if_neg c25] at H
                                exact absurd H (by simp)
                            · rw [if_neg c22] at H
                              exact absurd H (by simp)
                          · rw [if_neg c21] at H
                            exact absurd H (by simp)
                        · rw [if_neg c20] at H
                          exact absurd H (by simp)
                      · rw [if_neg c19] at H
                        exact absurd H (by simp)
                    · rw [if_neg c18] at H
                      have c18b0 : decide (x8_3 < (t148.length : Int)) = false := decide_eq_false c18
                      clear c18
                      have H' := Aside0.mk H
                      clear H
                      go_wp2
                      go_roundg k3
                      case measure => have := HJ1.out; have := HK2.out; have := HK3.out; omega
                      case rel => exact ⟨(x6_3), (wrap64 (x7_2 + 1)), (by first | rfl | (simp; done) | (simp [*]; done)), H', ⟨by have := HJ1.out; have := HK2.out; have := HK3.out; omega⟩, ⟨by (with_reducible repeat (first | apply Kd.R_alloc | apply Kd.R_drewN | apply Kd.R_drew)); exact HO_4.out⟩, ⟨by (with_reducible repeat (first | apply Kd.S_alloc | apply Kd.S_drewN | apply Kd.S_drew)); exact HO_6.out⟩, ⟨by repeat (first | (with_reducible first | exact HB.out | apply below_alloc | apply pw_below_drewN | apply below_drew1) | exact HB.out)⟩⟩
              · rw [if_neg c17] at H
                have c17b0 : decide (x7_2 < 2) = false := decide_eq_false c17
                clear c17
                replace H := Option.bind_eq_some_iff.mp H
                obtain ⟨t165, A370, H⟩ := H
                replace H : (if 0 ≤ (IntKind.u64.wrap (t165)) then (if 0 ≤ (IntKind.u64.wrap ((t148.length : Int))) then (if 0 ≤ (shl .i64 1 (IntKind.u64.wrap ((t148.length : Int)))) then (if (shl .i64 1 (IntKind.u64.wrap ((t148.length : Int))) : Int).toNat ≤ 35184372088832 then ((some (List.replicate (shl .i64 1 (IntKind.u64.wrap ((t148.length : Int))) : Int).toNat 0 : List Int)).bind fun y166 => (if 0 ≤ (wrap64 ((shl .i64 1 (IntKind.u64.wrap ((t148.length : Int)))) - 1)) then (if (wrap64 ((shl .i64 1 (IntKind.u64.wrap ((t148.length : Int)))) - 1)) < (y166.length : Int) then (spec_SyncWord.l2 k2 (t148.length : Int) x6_2 (shl .i64 1 (IntKind.u64.wrap (t165))) (y166.set ((wrap64 ((shl .i64 1 (IntKind.u64.wrap ((t148.length : Int)))) - 1)) : Int).toNat (-1)) (([wrap64 ((shl .i64 1 (IntKind.u64.wrap ((t148.length : Int)))) - 1)] : List Int)) 0) else (none)) else (none))) else (none)) else (none)) else (none)) else (none)) = some (r1, r2) := H
                have A37 := Aside0.mk A370
                clear A370
                obtain ⟨ji38, hji38⟩ : ∃ j_ : Int, (IntKind.u64.wrap (t165)) = j_ := ⟨_, rfl⟩
                replace H : (if 0 ≤ (ji38) then (if 0 ≤ (IntKind.u64.wrap ((t148.length : Int))) then (if 0 ≤ (shl .i64 1 (IntKind.u64.wrap ((t148.length : Int)))) then (if (shl .i64 1 (IntKind.u64.wrap ((t148.length : Int))) : Int).toNat ≤ 35184372088832 then ((some (List.replicate (shl .i64 1 (IntKind.u64.wrap ((t148.length : Int))) : Int).toNat 0 : List Int)).bind fun y166 => (if 0 ≤ (wrap64 ((shl .i64 1 (IntKind.u64.wrap ((t148.length : Int)))) - 1)) then (if (wrap64 ((shl .i64 1 (IntKind.u64.wrap ((t148.length : Int)))) - 1)) < (y166.length : Int) then (spec_SyncWord.l2 k2 (t148.length : Int) x6_2 (shl .i64 1 (ji38)) (y166.set ((wrap64 ((shl .i64 1 (IntKind.u64.wrap ((t148.length : Int)))) - 1)) : Int).toNat (-1)) (([wrap64 ((shl .i64 1 (IntKind.u64.wrap ((t148.length : Int)))) - 1)] : List Int)) 0) else (none)) else (none))) else (none)) else (none)) else (none)) else (none)) = some (r1, r2) := by first | (rw [hji38] at H; exact H) | (simp only [hji38] at H ⊢; exact H)
                (try rw [hji38] at A37)
                by_cases c39 : 0 ≤ (ji38)
                · rw [if_pos c39] at H
                  have c39b0 := eq_true c39
                  have c39b1 : decide (0 ≤ (ji38)) = true := decide_eq_true c39
                  clear c39
                  obtain ⟨ji40, hji40⟩ : ∃ j_ : Int, (shl .i64 1 (ji38)) = j_ := ⟨_, rfl⟩
                  replace H : (if 0 ≤ (IntKind.u64.wrap ((t148.length : Int))) then (if 0 ≤ (shl .i64 1 (IntKind.u64.wrap ((t148.length : Int)))) then (if (shl .i64 1 (IntKind.u64.wrap ((t148.length : Int))) : Int).toNat ≤ 35184372088832 then ((some (List.replicate (shl .i64 1 (IntKind.u64.wrap ((t148.length : Int))) : Int).toNat 0 : List Int)).bind fun y166 => (if 0 ≤ (wrap64 ((shl .i64 1 (IntKind.u64.wrap ((t148.length : Int)))) - 1)) then (if (wrap64 ((shl .i64 1 (IntKind.u64.wrap ((t148.length : Int)))) - 1)) < (y166.length : Int) then (spec_SyncWord.l2 k2 (t148.length : Int) x6_2 ji40 (y166.set ((wrap64 ((shl .i64 1 (IntKind.u64.wrap ((t148.length : Int)))) - 1)) : Int).toNat (-1)) (([wrap64 ((shl .i64 1 (IntKind.u64.wrap ((t148.length : Int)))) - 1)] : List Int)) 0) else (none)) else (none))) else (none)) else (none)) else (none)) = some (r1, r2) := by first | (rw [hji40] at H; exact H) | (simp only [hji40] at H ⊢; exact H)
                  (try rw [hji40] at A37)
                  have hji40_ : (IntKind.i64.wrap (1 * 2 ^ min (ji38).toNat 64)) = ji40 := hji40
                  have hji40z : (ji38) ≤ 64 → (IntKind.i64.wrap (1 * 2 ^ (ji38).toNat)) = ji40 := shl_small hji40
                  have hji40u : (IntKind.i64.wrap (2 ^ min (ji38).toNat 64)) = ji40 := by have h_ := hji40_; rw [Int.one_mul] at h_; exact h_
                  have hji40v : (ji38) ≤ 64 → (IntKind.i64.wrap (2 ^ (ji38).toNat)) = ji40 := fun hle_ => by have h_ := hji40z hle_; rw [Int.one_mul] at h_; exact h_
                  have hji40y : (wrap64 (1 * 2 ^ min (ji38).toNat 64)) = ji40 := (i64_w _).symm.trans hji40_
                  have hji40x : (ji38) ≤ 64 → (wrap64 (1 * 2 ^ (ji38).toNat)) = ji40 := fun h_ => (i64_w _).symm.trans (hji40z h_)
                  obtain ⟨ji41, hji41⟩ : ∃ j_ : Int, (IntKind.u64.wrap ((t148.length : Int))) = j_ := ⟨_, rfl⟩
                  replace H : (if 0 ≤ (ji41) then (if 0 ≤ (shl .i64 1 (ji41)) then (if (shl .i64 1 (ji41) : Int).toNat ≤ 35184372088832 then ((some (List.replicate (shl .i64 1 (ji41) : Int).toNat 0 : List Int)).bind fun y166 => (if 0 ≤ (wrap64 ((shl .i64 1 (ji41)) - 1)) then (if (wrap64 ((shl .i64 1 (ji41)) - 1)) < (y166.length : Int) then (spec_SyncWord.l2 k2 (t148.length : Int) x6_2 ji40 (y166.set ((wrap64 ((shl .i64 1 (ji41)) - 1)) : Int).toNat (-1)) (([wrap64 ((shl .i64 1 (ji41)) - 1)] : List Int)) 0) else (none)) else (none))) else (none)) else (none)) else (none)) = some (r1, r2) := by first | (rw [hji41] at H; exact H) | (simp only [hji41] at H ⊢; exact H)
                  (try rw [hji41] at A37)
                  by_cases c42 : 0 ≤ (ji41)
                  · rw [if_pos c42] at H
                    have c42b0 := eq_true c42
                    have c42b1 : decide (0 ≤ (ji41)) = true := decide_eq_true c42
                    clear c42
                    obtain ⟨ji43, hji43⟩ : ∃ j_ : Int, (shl .i64 1 (ji41)) = j_ := ⟨_, rfl⟩
                    replace H : (if 0 ≤ (ji43) then (if (ji43 : Int).toNat ≤ 35184372088832 then ((some (List.replicate (ji43 : Int).toNat 0 : List Int)).bind fun y166 => (if 0 ≤ (wrap64 ((ji43) - 1)) then (if (wrap64 ((ji43) - 1)) < (y166.length : Int) then (spec_SyncWord.l2 k2 (t148.length : Int) x6_2 ji40 (y166.set ((wrap64 ((ji43) - 1)) : Int).toNat (-1)) (([wrap64 ((ji43) - 1)] : List Int)) 0) else (none)) else (none))) else (none)) else (none)) = some (r1, r2) := by first | (rw [hji43] at H; exact H) | (simp only [hji43] at H ⊢; exact H)
                    (try rw [hji43] at A37)
                    have hji43_ : (IntKind.i64.wrap (1 * 2 ^ min (ji41).toNat 64)) = ji43 := hji43
                    have hji43z : (ji41) ≤ 64 → (IntKind.i64.wrap (1 * 2 ^ (ji41).toNat)) = ji43 := shl_small hji43
                    have hji43u : (IntKind.i64.wrap (2 ^ min (ji41).toNat 64)) = ji43 := by have h_ := hji43_; rw [Int.one_mul] at h_; exact h_
                    have hji43v : (ji41) ≤ 64 → (IntKind.i64.wrap (2 ^ (ji41).toNat)) = ji43 := fun hle_ => by have h_ := hji43z hle_; rw [Int.one_mul] at h_; exact h_
                    have hji43y : (wrap64 (1 * 2 ^ min (ji41).toNat 64)) = ji43 := (i64_w _).symm.trans hji43_
                    have hji43x : (ji41) ≤ 64 → (wrap64 (1 * 2 ^ (ji41).toNat)) = ji43 := fun h_ => (i64_w _).symm.trans (hji43z h_)
                    by_cases c44 : 0 ≤ (ji43)
                    · rw [if_pos c44] at H
                      have c44b0 := eq_true c44
                      have c44b1 : decide (0 ≤ (ji43)) = true := decide_eq_true c44
                      clear c44
                      by_cases c45 : (ji43 : Int).toNat ≤ 35184372088832
                      · rw [if_pos c45] at H
                        have c45b0 := eq_true c45
                        have c45b1 : decide ((ji43 : Int).toNat ≤ 35184372088832) = true := decide_eq_true c45
                        clear c45
                        obtain ⟨y166, hy166⟩ : ∃ y_ : List Int, y_ = (List.replicate (ji43 : Int).toNat 0) := ⟨_, rfl⟩
                        replace H : (if 0 ≤ (wrap64 ((ji43) - 1)) then (if (wrap64 ((ji43) - 1)) < (y166.length : Int) then (spec_SyncWord.l2 k2 (t148.length : Int) x6_2 ji40 (y166.set ((wrap64 ((ji43) - 1)) : Int).toNat (-1)) (([wrap64 ((ji43) - 1)] : List Int)) 0) else (none)) else (none)) = some (r1, r2) := by first | (rw [hy166]; with_reducible exact H) | (have H2_ := (Option.bind_some _ _).symm.trans H; rw [hy166]; with_reducible exact H2_) | (have H2_ := (Option.bind_some _ _).symm.trans H; with_reducible exact H2_) | with_reducible exact H | (rw [hy166]; exact H) | exact H
                        have Ny166 := Aside0.mk hy166
                        clear hy166
                        have c46b0 := eq_true (of_decide_eq_true (by first | (with_reducible assumption) | assumption) : 0 ≤ (ji41))
                        obtain ⟨ji48, hji48⟩ : ∃ j_ : Int, (wrap64 ((ji43) - 1)) = j_ := ⟨_, rfl⟩
                        replace H : (if 0 ≤ (ji48) then (if (ji48) < (y166.length : Int) then (spec_SyncWord.l2 k2 (t148.length : Int) x6_2 ji40 (y166.set ((ji48) : Int).toNat (-1)) (([ji48] : List Int)) 0) else (none)) else (none)) = some (r1, r2) := by first | (rw [hji48] at H; exact H) | (simp only [hji48] at H ⊢; exact H)
                        (try rw [hji48] at A37)
                        have hji48w : (IntKind.i64.wrap ((ji43) - 1)) = ji48 := (i64_w _).trans hji48
                        (try rw [hji48])
                        by_cases c49 : 0 ≤ (ji48)
                        · rw [if_pos c49] at H
                          have c49b0 : decide (0 ≤ (ji48)) = true := decide_eq_true c49
                          clear c49
                          by_cases c50 : (ji48) < (y166.length : Int)
                          · rw [if_pos c50] at H
                            have c50b0 : decide ((ji48) < (y166.length : Int)) = true := decide_eq_true c50
                            clear c50
                            obtain ⟨y169, hy169⟩ : ∃ y_ : List Int, y_ = (y166.set ((ji48) : Int).toNat (-1)) := ⟨_, rfl⟩
                            replace H : (spec_SyncWord.l2 k2 (t148.length : Int) x6_2 ji40 y169 (([ji48] : List Int)) 0) = some (r1, r2) := by first | (rw [hy169]; with_reducible exact H) | (have H2_ := (Option.bind_some _ _).symm.trans H; rw [hy169]; with_reducible exact H2_) | (have H2_ := (Option.bind_some _ _).symm.trans H; with_reducible exact H2_) | with_reducible exact H | (rw [hy169]; exact H) | exact H
                            have Ny169 := Aside0.mk hy169
                            clear hy169
                            obtain ⟨y170, hy170⟩ : ∃ y_ : List Int, y_ = (([ji48] : List Int)) := ⟨_, rfl⟩
                            replace H : (spec_SyncWord.l2 k2 (t148.length : Int) x6_2 ji40 y169 y170 0) = some (r1, r2) := by first | (rw [hy170]; with_reducible exact H) | (have H2_ := (Option.bind_some _ _).symm.trans H; rw [hy170]; with_reducible exact H2_) | (have H2_ := (Option.bind_some _ _).symm.trans H; with_reducible exact H2_) | with_reducible exact H | (rw [hy170]; exact H) | exact H
                            have Ny170 := Aside0.mk hy170
                            clear hy170
                            have H' := Aside0.mk H
                            clear H
                            go_wp2_with (first | ((with_reducible refine gate_callee (f := 73) rfl ?_); refine goesL_ (some 68) rfl rfl Tryd.func73 (by kernel_rfl) rfl #[.slice Ao14 t148.length co14, .string (⟨#[]⟩ : ByteArray)] rfl (by (try simp only [List.map_toArray, List.map_cons, List.map_nil]); first | done | rfl | (simp only [List.length_drop, List.length_take]; rfl)) ?_; (with_reducible refine (spec_l03Index.calls k2 _ _ t148 (⟨#[]⟩ : ByteArray) t165 _ ?side1 ?side2 A37.out).mono ?_); (case side1 => repeat (first | exact (Kd.R_reads' HO_4.out).2.2 | (with_reducible refine Kd.C_alloc ?_ _) | (with_reducible refine Kd.C_drewN ?_ _) | (with_reducible refine Kd.C_drew ?_))); (case side2 => exact (Kd.R_reads' HO_4.out).2.1); rintro e w' ⟨rfl, ⟨nd, rfl⟩⟩; refine ⟨_, rfl, ?_⟩; (try (rw [drewN_self wr]; generalize hq_ : World.drewN wr _ = wr; have n0_ : Aside0 (Kd.R Kd.string 9 wr w.heap.size (fun _ => True) (.slice Ao14 t148.length co14) t148) := ⟨by rw [← hq_]; exact (by (with_reducible repeat (first | apply Kd.R_alloc | apply Kd.R_drewN | apply Kd.R_drew)); exact HO_4.out)⟩; have n1_ : Aside0 (Kd.S (Kd.slice 3 (Kd.int .i64)) 56 wr w.heap.size (fun _ => True) v152 x6_2) := ⟨by rw [← hq_]; exact (by (with_reducible repeat (first | apply Kd.S_alloc | apply Kd.S_drewN | apply Kd.S_drew)); exact HO_6.out)⟩; have n2_ : Aside0 (Below w.heap.size w wr) := ⟨by rw [← hq_]; exact (by repeat (first | (with_reducible first | exact HB.out | apply below_alloc | apply pw_below_drewN | apply below_drew1) | exact HB.out))⟩; clear HO_4 HO_6 HB hq_; have HO_4 := n0_; have HO_6 := n1_; have HB := n2_; clear n0_ n1_ n2_))) | ((with_reducible refine gate_dst (N := 74) rfl ?_); (try (refine gate_guard (by rfl) ?_; dsimp only)); refine Kd.R_make (Kd.int .i64) _ 3 rfl (N := 74) rfl 56 _ _ rfl ji43 rfl rfl Tryd.underlying56 (.int .i64 0) 8 info3 rfl (by decide) (by omega) 0 (ok := fun _ => True) (okp := fun _ => True) rfl (fun _ hk => hk) trivial (of_decide_eq_true (by first | (with_reducible assumption) | assumption)) (Nat.le_trans (Nat.mul_le_mul_right _ (of_decide_eq_true (by first | (with_reducible assumption) | assumption) : ji43.toNat ≤ 35184372088832)) (by omega)) (Below.refl _ _) (Nat.le_refl _) ?_; intro v167 w52 ho53 hb hg_ hnew_; clear hg_ hnew_; (first | rw [← Ny166.out] at ho53 | (simp only [Int.reduceToNat] at ho53; rw [← Ny166.out] at ho53)); have n0_ := Aside0.mk (Kd.R_below (by (with_reducible repeat (first | apply Kd.R_alloc | apply Kd.R_drewN | apply Kd.R_drew)); exact HO_4.out) hb); have n1_ := Aside0.mk (Kd.S_elder' (by (with_reducible repeat (first | apply Kd.S_alloc | apply Kd.S_drewN | apply Kd.S_drew)); exact HO_6.out) (Kd.R_base ho53) hb); have n2_ := Aside0.mk (Kd.R_lower ho53 (below_size (by repeat (first | (with_reducible first | exact HB.out | apply below_alloc | apply pw_below_drewN | apply below_drew1) | exact HB.out)))); have n3_ := Aside0.mk (below_step (by repeat (first | (with_reducible first | exact HB.out | apply below_alloc | apply pw_below_drewN | apply below_drew1) | exact HB.out)) hb); clear HO_4; clear HO_6; clear HB; have HO_4 := n0_; have HO_6 := n1_; have HO168 := n2_; have HB := n3_; clear n0_ n1_ n2_ n3_; clear hb ho53; have p51 : 0 ≤ ((ji48) : Int) := of_decide_eq_true (by first | (with_reducible assumption) | assumption); have q51 : ((ji48) : Int) < ((y166.length : Int) : Int) := of_decide_eq_true (by first | (with_reducible assumption) | assumption); obtain ⟨go51, co51, eo51, gb51, gl51, cl51, HG51⟩ := Kd.R_form HO168.out (by omega); (first | cases eo51 | (injection eo51 with ea_ en_ ec_; (first | subst ea_ | (injection ea_ with ea_; subst ea_)); subst ec_; clear en_)); have GB51 := Aside0.mk gb51; have GG51 := Aside0.mk HG51; clear gb51 gl51 HG51; obtain ⟨hx51_0, hf51_0⟩ := Kd.R_celln 0 HO168.out ((ji48) : Int) p51 q51; replace p51 := eq_true p51; replace q51 := eq_true q51; obtain ⟨hy54_, hz54_⟩ := Kd.R_celln 0 HO168.out ((ji48) : Int) (of_decide_eq_true (by first | (with_reducible assumption) | assumption)) (of_decide_eq_true (by first | (with_reducible assumption) | assumption)); have HP54 := Kd.R_putg HO168.out ((ji48) : Int) (-1)) | ((with_reducible refine gate_store (t := 3) (p := 81) rfl ?_); refine store_event (t := 3) (p := 81) (v := ?vo_w55) (w1 := (w52.setCell ⟨go51, ((ji48) : Int).toNat, none⟩ (.int .i64 (-1)))) ?hg ?ho ?hn ?hr ?_; (case ho => rfl); (case hg => rfl); (case hn => rfl); (case hr => first | (go_simp; done) | (go_simp; rfl)); intro w55 hw; have hg : w52.grownBy w55 (some go51) := (by rw [hw]; exact HP54.2); have hp_ : Kd.R (Kd.int .i64) 3 w55 w.heap.size (fun _ => True) (.slice (some ⟨go51, 0, none⟩) y166.length co51) y169 := (by rw [hw, Ny169.out]; exact HP54.1); clear HP54; have n0_ := Aside0.mk (Kd.R_over' (v := (.slice (some ⟨go51, 0, none⟩) y166.length co51)) (by (with_reducible repeat (first | apply Kd.R_alloc | apply Kd.R_drewN | apply Kd.R_drew)); exact HO_4.out) (Kd.R_typed HO168.out) (by decide) hg); have n1_ := Aside0.mk (Kd.S_after (v := (.slice (some ⟨go51, 0, none⟩) y166.length co51)) (v1 := (.slice (some ⟨go51, 0, none⟩) y166.length co51)) (ok := (fun _ => True)) (by (with_reducible repeat (first | apply Kd.S_alloc | apply Kd.S_drewN | apply Kd.S_drew)); exact HO_6.out) hg (.inl rfl)); have n2_ := Aside0.mk (hp_); have n3_ := Aside0.mk ((by rw [hw]; exact below_set (HB.out) GB51.out : Below w.heap.size w w55)); clear HO_4; clear HO_6; clear HO168; clear HB; have HO_4 := n0_; have HO_6 := n1_; have HO168 := n2_; have HB := n3_; clear n0_ n1_ n2_ n3_; clear hg hw hp_) | ((with_reducible refine gate_dst (N := 83) rfl ?_); (try (refine gate_guard (by rfl) ?_; dsimp only)); refine Kd.R_lit (Kd.int .i64) _ 3 ?hg (N := 83) ?hd (xs := ([ji48] : List Int)) (inner := [.int .i64 ji48]) (ok := fun _ => True) (okp := fun _ => True) ?hr ?hp (fun _ hk => hk) trivial (Below.refl _ _) (Nat.le_refl _) (by simp) ?_; (case hd => rfl); (case hg => rfl); (case hr => first | (go_simp; done) | (go_simp; rfl)); (case hp => exact (Reps.one (show Kd.M (Kd.int .i64) _ _ _ ji48 [.int .i64 ji48] from rfl) (Reps.none _ _))); intro v171 w56 ho57 hb hg_ hnew_; clear hg_ hnew_; (first | rw [← Ny170.out] at ho57 | (simp only [Int.reduceToNat] at ho57; rw [← Ny170.out] at ho57)); have n0_ := Aside0.mk (Kd.R_below (by (with_reducible repeat (first | apply Kd.R_alloc | apply Kd.R_drewN | apply Kd.R_drew)); exact HO_4.out) hb); have n1_ := Aside0.mk (Kd.S_elder' (by (with_reducible repeat (first | apply Kd.S_alloc | apply Kd.S_drewN | apply Kd.S_drew)); exact HO_6.out) (Kd.R_base ho57) hb); have n2_ := Aside0.mk (Kd.R_elder' (by (with_reducible repeat (first | apply Kd.R_alloc | apply Kd.R_drewN | apply Kd.R_drew)); exact HO168.out) (Kd.R_base ho57) hb); have n3_ := Aside0.mk (Kd.R_lower (Kd.R_new' ho57 (Kd.R_lt (by (with_reducible repeat (first | apply Kd.R_alloc | apply Kd.R_drewN | apply Kd.R_drew)); exact HO168.out))) (below_size (by repeat (first | (with_reducible first | exact HB.out | apply below_alloc | apply pw_below_drewN | apply below_drew1) | exact HB.out)))); have n4_ := Aside0.mk (below_step (by repeat (first | (with_reducible first | exact HB.out | apply below_alloc | apply pw_below_drewN | apply below_drew1) | exact HB.out)) hb); clear HO_4; clear HO_6; clear HO168; clear HB; have HO_4 := n0_; have HO_6 := n1_; have HO168 := n2_; have HO172 := n3_; have HB := n4_; clear n0_ n1_ n2_ n3_ n4_; clear hb ho57))
                            go_loopg [12, 13] k2 (fun kq v12 v13 w' => ∃ (x10_3 : List Int) (x12_3 : List Int) (x13_3 : Int), v13 = .int .i64 x13_3 ∧ Aside0 (spec_SyncWord.l2 kq (t148.length : Int) x6_2 ji40 x10_3 x12_3 x13_3 = some (r1, r2)) ∧ Aside0 (kq ≤ k2) ∧ Aside0 (Kd.S (Kd.slice 3 (Kd.int .i64)) 56 w' w.heap.size (fun k_ => some k_ ≠ ((.slice (some ⟨go51, 0, none⟩) y166.length co51) : Value).ownBlock ∧ some k_ ≠ (v12 : Value).ownBlock) v152 x6_2) ∧ Aside0 (Kd.R (Kd.int .i64) 3 w' w.heap.size (fun k_ => some k_ ≠ (v12 : Value).ownBlock) (.slice (some ⟨go51, 0, none⟩) y166.length co51) x10_3) ∧ Aside0 (Kd.R (Kd.int .i64) 3 w' w.heap.size (fun k_ => some k_ ≠ ((.slice (some ⟨go51, 0, none⟩) y166.length co51) : Value).ownBlock) v12 x12_3) ∧ Aside0 (Below w.heap.size w w'))
                            case atStart => exact ⟨(y169), (y170), (0), (by first | rfl | (simp; done) | (simp [*]; done)), H', ⟨Nat.le_refl _⟩, ⟨by (with_reducible repeat (first | apply Kd.S_alloc | apply Kd.S_drewN | apply Kd.S_drew)); exact Kd.S_mono HO_6.out (fun _ hk => ⟨hk.1.2, hk.2⟩)⟩, ⟨by (with_reducible repeat (first | apply Kd.R_alloc | apply Kd.R_drewN | apply Kd.R_drew)); exact Kd.R_mono HO168.out (fun _ hk => hk.2)⟩, ⟨by (with_reducible repeat (first | apply Kd.R_alloc | apply Kd.R_drewN | apply Kd.R_drew)); exact Kd.R_mono HO172.out (fun _ hk => hk.2)⟩, ⟨by repeat (first | (with_reducible first | exact HB.out | apply below_alloc | apply pw_below_drewN | apply below_drew1) | exact HB.out)⟩⟩
                            case round => as_aux_lemma =>
                              clear H'
                              try clear c1
                              try clear p1
                              try clear q1
                              try clear hx1
                              try clear c2
                              try clear p2
                              try clear q2
                              try clear c3
                              try clear hx3
                              try clear hcv3
                              try clear hf3
                              try clear c4
                              try clear c5
                              try clear c5b0
                              try clear c5b1
                              try clear p5
                              try clear q5
                              try clear hx5
                              try clear hf5
                              try clear c6
                              try clear p6
                              try clear c7
                              try clear c10
                              try clear c12
                              try clear c12b0
                              try clear c12b1
                              try clear c15
                              try clear p15
                              try clear q15
                              try clear hx15
                              try clear c17
                              try clear c17b0
                              try clear c18
                              try clear c18b0
                              try clear c19
                              try clear c19b0
                              try clear c20
                              try clear c20b0
                              try clear c21
                              try clear c21b0
                              try clear c22
                              try clear c22b0
                              try clear c25
                              try clear p26
                              try clear q26
                              try clear hcv31
                              try clear c32
                              try clear c34
                              try clear hx34
                              try clear hf34
                              try clear c39
                              try clear c39b0
                              try clear c39b1
                              try clear c42
                              try clear c42b0
                              try clear c42b1
                              try clear c44
                              try clear c44b0
                              try clear c44b1
                              try clear c45
                              try clear c45b0
                              try clear c45b1
                              try clear c46
                              try clear c46b0
                              try clear c47
                              try clear c47b0
                              try clear c49
                              try clear c49b0
                              try clear c50
                              try clear c50b0
                              try clear p51
                              try clear q51
                              try clear hx51
                              try clear hf51
                              try clear hx154_0
                              try clear hx155_0
                              try clear hx34_0
                              try clear hx51_0
                              try clear p154
                              try clear p155
                              try clear p2
                              try clear p26
                              try clear p51
                              try clear q154
                              try clear q155
                              try clear q26
                              try clear q51
                              obtain ⟨x10_3, x12_3, x13_3, rfl, HA, HK3, HO_6, HO_10, HO_12, HB⟩ := hrel
                              have hl10_3 := (Kd.R_reads' HO_10.out).1
                              rw [hl10_3] at HO_10
                              (try simp only [hl10_3])
                              (try simp only [hl10_3] at HO_6)
                              (try simp only [hl10_3] at HO_12)
                              cases gk with
                              | zero => exact absurd HA.out (by simp [spec_SyncWord.l2])
                              | succ k3 =>
                                have H := HA.out
                                clear HA
                                simp only [spec_SyncWord.l2] at H
                                by_cases c58 : x13_3 < (x12_3.length : Int)
                                · rw [if_pos c58] at H
                                  have c58b0 : decide (x13_3 < (x12_3.length : Int)) = true := decide_eq_true c58
                                  clear c58
                                  by_cases c59 : 0 ≤ x13_3
                                  · rw [if_pos c59] at H
                                    have c59b0 : decide (0 ≤ x13_3) = true := decide_eq_true c59
                                    clear c59
                                    have H' := Aside0.mk H
                                    clear H
                                    obtain ⟨Ao60, co60, eo60⟩ := Kd.R_slice HO_12.out
                                    subst eo60
                                    have p173 : 0 ≤ (x13_3 : Int) := of_decide_eq_true (by first | (with_reducible assumption) | assumption)
                                    have q173 : x13_3 < (x12_3.length : Int) := of_decide_eq_true (by first | (with_reducible assumption) | assumption)
                                    obtain ⟨ad173, e173, hx173_0⟩ := Kd.at_int (Kd.R_reads' HO_12.out).2.2 x13_3 p173 q173
                                    cases e173
                                    replace p173 := eq_true p173
                                    replace q173 := eq_true q173
                                    go_wp2
                                    go_loopg [12, 15] k3 (fun kq v12 v15 w' => ∃ (x10_4 : List Int) (x12_4 : List Int) (x15_4 : Int), v15 = .int .i64 x15_4 ∧ Aside0 (spec_SyncWord.l3 kq (t148.length : Int) x6_2 ji40 x10_4 x12_4 x13_3 (rd x12_3 x13_3) x15_4 = some (r1, r2)) ∧ Aside0 (kq ≤ k3) ∧ Aside0 (Kd.S (Kd.slice 3 (Kd.int .i64)) 56 w' w.heap.size (fun k_ => some k_ ≠ ((.slice (some ⟨go51, 0, none⟩) x10_3.length co51) : Value).ownBlock ∧ some k_ ≠ (v12 : Value).ownBlock) v152 x6_2) ∧ Aside0 (Kd.R (Kd.int .i64) 3 w' w.heap.size (fun k_ => some k_ ≠ (v12 : Value).ownBlock) (.slice (some ⟨go51, 0, none⟩) x10_3.length co51) x10_4) ∧ Aside0 (Kd.R (Kd.int .i64) 3 w' w.heap.size (fun k_ => some k_ ≠ ((.slice (some ⟨go51, 0, none⟩) x10_3.length co51) : Value).ownBlock) v12 x12_4) ∧ Aside0 (Below w.heap.size w w'))
                                    case atStart => exact ⟨(x10_3), (x12_3), (0), (by first | rfl | (simp; done) | (simp [*]; done)), H', ⟨Nat.le_refl _⟩, ⟨by (try simp only [hl10_3]); (with_reducible repeat (first | apply Kd.S_alloc | apply Kd.S_drewN | apply Kd.S_drew)); exact HO_6.out⟩, ⟨by (try simp only [hl10_3]); (with_reducible repeat (first | apply Kd.R_alloc | apply Kd.R_drewN | apply Kd.R_drew)); exact HO_10.out⟩, ⟨by (try simp only [hl10_3]); (with_reducible repeat (first | apply Kd.R_alloc | apply Kd.R_drewN | apply Kd.R_drew)); exact HO_12.out⟩, ⟨by repeat (first | (with_reducible first | exact HB.out | apply below_alloc | apply pw_below_drewN | apply below_drew1) | exact HB.out)⟩⟩
                                    case round => as_aux_lemma =>
                                      clear H'
                                      try clear c1
                                      try clear p1
                                      try clear q1
                                      try clear hx1
                                      try clear c2
                                      try clear p2
                                      try clear q2
                                      try clear c3
                                      try clear hx3
                                      try clear hcv3
                                      try clear hf3
                                      try clear c4
                                      try clear c5
                                      try clear c5b0
                                      try clear c5b1
                                      try clear p5
                                      try clear q5
                                      try clear hx5
                                      try clear hf5
                                      try clear c6
                                      try clear p6
                                      try clear c7
                                      try clear c10
                                      try clear c12
                                      try clear c12b0
                                      try clear c12b1
                                      try clear c15
                                      try clear p15
                                      try clear q15
                                      try clear hx15
                                      try clear c17
                                      try clear c17b0
                                      try clear p17
                                      try clear q17
                                      try clear hx17
                                      try clear c18
                                      try clear c18b0
                                      try clear c19
                                      try clear c19b0
                                      try clear c20
                                      try clear c20b0
                                      try clear c21
                                      try clear c21b0
                                      try clear c22
                                      try clear c22b0
                                      try clear c25
                                      try clear p26
                                      try clear q26
                                      try clear hcv31
                                      try clear c32
                                      try clear c34
                                      try clear hx34
                                      try clear hf34
                                      try clear c39
                                      try clear c39b0
                                      try clear c39b1
                                      try clear c42
                                      try clear c42b0
                                      try clear c42b1
                                      try clear c44
                                      try clear c44b0
                                      try clear c44b1
                                      try clear c45
                                      try clear c45b0
                                      try clear c45b1
                                      try clear c46
                                      try clear c46b0
                                      try clear c47
                                      try clear c47b0
                                      try clear c49
                                      try clear c49b0
                                      try clear c50
                                      try clear c50b0
                                      try clear p51
                                      try clear q51
                                      try clear hx51
                                      try clear hf51
                                      try clear c58
                                      try clear c58b0
                                      try clear c59
                                      try clear c59b0
                                      try clear hx154_0
                                      try clear hx155_0
                                      try clear hx173_0
                                      try clear hx34_0
                                      try clear hx51_0
                                      try clear p1
                                      try clear p15
                                      try clear p154
                                      try clear p155
                                      try clear p173
                                      try clear p2
                                      try clear p26
                                      try clear p5
                                      try clear p51
                                      try clear p6
                                      try clear q1
                                      try clear q15
                                      try clear q154
                                      try clear q155
                                      try clear q173
                                      try clear q2
                                      try clear q26
                                      try clear q5
                                      try clear q51
                                      obtain ⟨x10_4, x12_4, x15_4, rfl, HA, HK4, HO_6, HO_10, HO_12, HB⟩ := hrel
                                      have hl10_4 := (Kd.R_reads' HO_10.out).1
                                      rw [hl10_4] at HO_10
                                      (try simp only [hl10_4])
                                      (try simp only [hl10_4] at HO_6)
                                      (try simp only [hl10_4] at HO_12)
                                      cases gk with
                                      | zero => exact absurd HA.out (by simp [spec_SyncWord.l3])
                                      | succ k4 =>
                                        have H := HA.out
                                        clear HA
                                        simp only [spec_SyncWord.l3] at H
                                        by_cases c61 : x15_4 < 2
                                        · rw [if_pos c61] at H
                                          have c61b0 : decide (x15_4 < 2) = true := decide_eq_true c61
                                          clear c61
                                          have H' := Aside0.mk H
                                          clear H
                                          go_wp2
                                          go_loopg [16, 17] k4 (fun kq v16 v17 w' => ∃ (x16_5 : Int) (x17_5 : Int), v16 = .int .i64 x16_5 ∧ v17 = .int .i64 x17_5 ∧ Aside0 (spec_SyncWord.l4 kq (t148.length : Int) x6_2 ji40 x10_4 x12_4 x13_3 (rd x12_3 x13_3) x15_4 x16_5 x17_5 = some (r1, r2)) ∧ Aside0 (kq ≤ k4) ∧ Aside0 (Kd.S (Kd.slice 3 (Kd.int .i64)) 56 w' w.heap.size (fun k_ => some k_ ≠ ((.slice (some ⟨go51, 0, none⟩) x10_4.length co51) : Value).ownBlock ∧ some k_ ≠ (u12 : Value).ownBlock) v152 x6_2) ∧ Aside0 (Kd.R (Kd.int .i64) 3 w' w.heap.size (fun k_ => some k_ ≠ (u12 : Value).ownBlock) (.slice (some ⟨go51, 0, none⟩) x10_4.length co51) x10_4) ∧ Aside0 (Kd.R (Kd.int .i64) 3 w' w.heap.size (fun k_ => some k_ ≠ ((.slice (some ⟨go51, 0, none⟩) x10_4.length co51) : Value).ownBlock) u12 x12_4) ∧ Aside0 (Below w.heap.size w w'))
                                          case atStart => exact ⟨(0), (0), (by first | rfl | (simp; done) | (simp [*]; done)), (by first | rfl | (simp; done) | (simp [*]; done)), H', ⟨Nat.le_refl _⟩, ⟨by (try simp only [hl10_3]); (try simp only [hl10_4]); (with_reducible repeat (first | apply Kd.S_alloc | apply Kd.S_drewN | apply Kd.S_drew)); exact HO_6.out⟩, ⟨by (try simp only [hl10_3]); (try simp only [hl10_4]); (with_reducible repeat (first | apply Kd.R_alloc | apply Kd.R_drewN | apply Kd.R_drew)); exact HO_10.out⟩, ⟨by (try simp only [hl10_3]); (try simp only [hl10_4]); (with_reducible repeat (first | apply Kd.R_alloc | apply Kd.R_drewN | apply Kd.R_drew)); exact HO_12.out⟩, ⟨by repeat (first | (with_reducible first | exact HB.out | apply below_alloc | apply pw_below_drewN | apply below_drew1) | exact HB.out)⟩⟩
                                          case round => as_aux_lemma =>
                                            clear H'
                                            try clear c1
                                            try clear p1
                                            try clear q1
                                            try clear hx1
                                            try clear c2
                                            try clear p2
                                            try clear q2
                                            try clear c3
                                            try clear hx3
                                            try clear hcv3
                                            try clear hf3
                                            try clear c4
                                            try clear c5
                                            try clear c5b0
                                            try clear c5b1
                                            try clear p5
                                            try clear q5
                                            try clear hx5
                                            try clear hf5
                                            try clear c6
                                            try clear p6
                                            try clear c7
                                            try clear c10
                                            try clear c12
                                            try clear c12b0
                                            try clear c12b1
                                            try clear c15
                                            try clear p15
                                            try clear q15
                                            try clear hx15
                                            try clear c17
                                            try clear c17b0
                                            try clear p17
                                            try clear q17
                                            try clear hx17
                                            try clear c18
                                            try clear c18b0
                                            try clear c19
                                            try clear c19b0
                                            try clear c20
                                            try clear c20b0
                                            try clear c21
                                            try clear c21b0
                                            try clear c22
                                            try clear c22b0
                                            try clear c25
                                            try clear p26
                                            try clear q26
                                            try clear hcv31
                                            try clear c32
                                            try clear c34
                                            try clear hx34
                                            try clear hf34
                                            try clear c39
                                            try clear c39b0
                                            try clear c39b1
                                            try clear c42
                                            try clear c42b0
                                            try clear c42b1
                                            try clear c44
                                            try clear c44b0
                                            try clear c44b1
                                            try clear c45
                                            try clear c45b0
                                            try clear c45b1
                                            try clear c46
                                            try clear c46b0
                                            try clear c47
                                            try clear c47b0
                                            try clear c49
                                            try clear c49b0
                                            try clear c50
                                            try clear c50b0
                                            try clear p51
                                            try clear q51
                                            try clear hx51
                                            try clear hf51
                                            try clear c58
                                            try clear c58b0
                                            try clear c59
                                            try clear c59b0
                                            try clear c61
                                            try clear c61b0
                                            try clear hx154_0
                                            try clear hx155_0
                                            try clear hx173_0
                                            try clear hx34_0
                                            try clear hx51_0
                                            try clear p1
                                            try clear p15
                                            try clear p154
                                            try clear p155
                                            try clear p17
                                            try clear p173
                                            try clear p2
                                            try clear p26
                                            try clear p5
                                            try clear p51
                                            try clear p6
                                            try clear q1
                                            try clear q15
                                            try clear q154
                                            try clear q155
                                            try clear q17
                                            try clear q173
                                            try clear q2
                                            try clear q26
                                            try clear q5
                                            try clear q51
                                            obtain ⟨x16_5, x17_5, rfl, rfl, HA, HK5, HO_6, HO_10, HO_12, HB⟩ := hrel
                                            cases gk with
                                            | zero => exact absurd HA.out (by simp [spec_SyncWord.l4])
                                            | succ k5 =>
                                              have H := HA.out
                                              clear HA
                                              simp only [spec_SyncWord.l4] at H
                                              by_cases c62 : x17_5 < (t148.length : Int)
                                              · rw [if_pos c62] at H
                                                have c62b0 : decide (x17_5 < (t148.length : Int)) = true := decide_eq_true c62
                                                clear c62
                                                obtain ⟨ji63, hji63⟩ : ∃ j_ : Int, (IntKind.u64.wrap (x17_5)) = j_ := ⟨_, rfl⟩
                                                replace H : (if 0 ≤ (ji63) then (if (Go.bits .and .i64 (shr .i64 (rd x12_3 x13_3) (ji63)) 1) = 1 then (if 0 ≤ x15_4 then (if x15_4 < (x6_2.length : Int) then (if 0 ≤ x17_5 then (if x17_5 < ((rd_L3 x6_2 x15_4).length : Int) then (if 0 ≤ (IntKind.u64.wrap (rd (rd_L3 x6_2 x15_4) x17_5)) then (spec_SyncWord.l4 k5 (t148.length : Int) x6_2 ji40 x10_4 x12_4 x13_3 (rd x12_3 x13_3) x15_4 (Go.bits .or .i64 x16_5 (shl .i64 1 (IntKind.u64.wrap (rd (rd_L3 x6_2 x15_4) x17_5)))) (wrap64 (x17_5 + 1))) else (none)) else (none)) else (none)) else (none)) else (none)) else (spec_SyncWord.l4 k5 (t148.length : Int) x6_2 ji40 x10_4 x12_4 x13_3 (rd x12_3 x13_3) x15_4 x16_5 (wrap64 (x17_5 + 1)))) else (none)) = some (r1, r2) := by first | (rw [hji63] at H; exact H) | (simp only [hji63] at H ⊢; exact H)
                                                by_cases c64 : 0 ≤ (ji63)
                                                · rw [if_pos c64] at H
                                                  have c64b0 := eq_true c64
                                                  have c64b1 : decide (0 ≤ (ji63)) = true := decide_eq_true c64
                                                  clear c64
                                                  obtain ⟨ji65, hji65⟩ : ∃ j_ : Int, (shr .i64 (rd x12_3 x13_3) (ji63)) = j_ := ⟨_, rfl⟩
                                                  replace H : (if (Go.bits .and .i64 (ji65) 1) = 1 then (if 0 ≤ x15_4 then (if x15_4 < (x6_2.length : Int) then (if 0 ≤ x17_5 then (if x17_5 < ((rd_L3 x6_2 x15_4).length : Int) then (if 0 ≤ (IntKind.u64.wrap (rd (rd_L3 x6_2 x15_4) x17_5)) then (spec_SyncWord.l4 k5 (t148.length : Int) x6_2 ji40 x10_4 x12_4 x13_3 (rd x12_3 x13_3) x15_4 (Go.bits .or .i64 x16_5 (shl .i64 1 (IntKind.u64.wrap (rd (rd_L3 x6_2 x15_4) x17_5)))) (wrap64 (x17_5 + 1))) else (none)) else (none)) else (none)) else (none)) else (none)) else (spec_SyncWord.l4 k5 (t148.length : Int) x6_2 ji40 x10_4 x12_4 x13_3 (rd x12_3 x13_3) x15_4 x16_5 (wrap64 (x17_5 + 1)))) = some (r1, r2) := by first | (rw [hji65] at H; exact H) | (simp only [hji65] at H ⊢; exact H)
                                                  have hji65_ : ((rd x12_3 x13_3) / 2 ^ min (ji63).toNat 64) = ji65 := hji65
                                                  have hji65z : (ji63) ≤ 64 → ((rd x12_3 x13_3) / 2 ^ (ji63).toNat) = ji65 := shr_small hji65
                                                  by_cases c66 : (Go.bits .and .i64 (ji65) 1) = 1
                                                  · rw [if_pos c66] at H
                                                    have c66b0 : ((Go.bits .and .i64 (ji65) 1) == 1) = true := beq_iff_eq.mpr c66
                                                    have c66b1 : ((Go.bits .and .i64 (ji65) 1) != 1) = false := bne_eq_false_iff_eq.mpr c66
                                                    clear c66
                                                    by_cases c67 : 0 ≤ x15_4
                                                    · rw [if_pos c67] at H
                                                      have c67b0 : decide (0 ≤ x15_4) = true := decide_eq_true c67
                                                      clear c67
                                                      by_cases c68 : x15_4 < (x6_2.length : Int)
                                                      · rw [if_pos c68] at H
                                                        have c68b0 : decide (x15_4 < (x6_2.length : Int)) = true := decide_eq_true c68
                                                        clear c68
                                                        by_cases c69 : 0 ≤ x17_5
                                                        · rw [if_pos c69] at H
                                                          have c69b0 : decide (0 ≤ x17_5) = true := decide_eq_true c69
                                                          clear c69
                                                          by_cases c70 : x17_5 < ((rd_L3 x6_2 x15_4).length : Int)
                                                          · rw [if_pos c70] at H
                                                            have c70b0 : decide (x17_5 < ((rd_L3 x6_2 x15_4).length : Int)) = true := decide_eq_true c70
                                                            clear c70
                                                            obtain ⟨ji71, hji71⟩ : ∃ j_ : Int, (IntKind.u64.wrap (rd (rd_L3 x6_2 x15_4) x17_5)) = j_ := ⟨_, rfl⟩
                                                            replace H : (if 0 ≤ (ji71) then (spec_SyncWord.l4 k5 (t148.length : Int) x6_2 ji40 x10_4 x12_4 x13_3 (rd x12_3 x13_3) x15_4 (Go.bits .or .i64 x16_5 (shl .i64 1 (ji71))) (wrap64 (x17_5 + 1))) else (none)) = some (r1, r2) := by first | (rw [hji71] at H; exact H) | (simp only [hji71] at H ⊢; exact H)
                                                            by_cases c72 : 0 ≤ (ji71)
                                                            · rw [if_pos c72] at H
                                                              have c72b0 := eq_true c72
                                                              have c72b1 : decide (0 ≤ (ji71)) = true := decide_eq_true c72
                                                              clear c72
                                                              obtain ⟨ji73, hji73⟩ : ∃ j_ : Int, (shl .i64 1 (ji71)) = j_ := ⟨_, rfl⟩
                                                              replace H : (spec_SyncWord.l4 k5 (t148.length : Int) x6_2 ji40 x10_4 x12_4 x13_3 (rd x12_3 x13_3) x15_4 (Go.bits .or .i64 x16_5 (ji73)) (wrap64 (x17_5 + 1))) = some (r1, r2) := by first | (rw [hji73] at H; exact H) | (simp only [hji73] at H ⊢; exact H)
                                                              have hji73_ : (IntKind.i64.wrap (1 * 2 ^ min (ji71).toNat 64)) = ji73 := hji73
                                                              have hji73z : (ji71) ≤ 64 → (IntKind.i64.wrap (1 * 2 ^ (ji71).toNat)) = ji73 := shl_small hji73
                                                              have hji73u : (IntKind.i64.wrap (2 ^ min (ji71).toNat 64)) = ji73 := by have h_ := hji73_; rw [Int.one_mul] at h_; exact h_
                                                              have hji73v : (ji71) ≤ 64 → (IntKind.i64.wrap (2 ^ (ji71).toNat)) = ji73 := fun hle_ => by have h_ := hji73z hle_; rw [Int.one_mul] at h_; exact h_
                                                              have hji73y : (wrap64 (1 * 2 ^ min (ji71).toNat 64)) = ji73 := (i64_w _).symm.trans hji73_
                                                              have hji73x : (ji71) ≤ 64 → (wrap64 (1 * 2 ^ (ji71).toNat)) = ji73 := fun h_ => (i64_w _).symm.trans (hji73z h_)
                                                              have H' := Aside0.mk H
                                                              clear H
                                                              obtain ⟨Ao74, co74, eo74⟩ := Kd.S_slice HO_6.out
                                                              subst eo74
                                                              have p174 : 0 ≤ (x15_4 : Int) := of_decide_eq_true (by first | (with_reducible assumption) | assumption)
                                                              have q174 : x15_4 < (x6_2.length : Int) := of_decide_eq_true (by first | (with_reducible assumption) | assumption)
                                                              obtain ⟨ad174, A174_0, c174_0, e174, hx174_0, hl174_0, hi174_0⟩ := at_L3 (Kd.S_reads' HO_6.out).2.2 x15_4 p174 q174
                                                              cases e174
                                                              obtain ⟨ce174, hce174, hMe174, hcc174⟩ := Kd.S_get HO_6.out [] x15_4 p174 (by first | exact q174 | exact of_decide_eq_true (by first | (with_reducible assumption) | assumption) | (have e_ := (Kd.S_reads' HO_6.out).1; omega))
                                                              obtain ⟨ve174_0, rfl, ge174_0⟩ := hMe174
                                                              have hv174_0 := hcc174 0 _ rfl
                                                              rw [Nat.add_zero, show ((Kd.slice 3 (Kd.int .i64))).sz = 1 from rfl, Nat.mul_one] at hv174_0
                                                              replace hv174_0 := Option.some.inj (hv174_0.symm.trans hx174_0)
                                                              rw [hv174_0] at ge174_0
                                                              have HL174_0 := Aside0.mk (show Kd.R (Kd.int .i64) 3 _ _ _ _ (rd_L3 x6_2 x15_4) from ge174_0)
                                                              clear hv174_0 ge174_0
                                                              have HX174_0 := Aside0.mk hx174_0
                                                              clear hcc174 hce174
                                                              have HR174_0 := Aside0.mk hi174_0
                                                              have HC174_0 := Aside0.mk hl174_0
                                                              clear hi174_0 hl174_0
                                                              replace p174 := eq_true p174
                                                              replace q174 := eq_true q174
                                                              have p175 : 0 ≤ (x17_5 : Int) := of_decide_eq_true (by first | (with_reducible assumption) | assumption)
                                                              have q175 : x17_5 < ((rd_L3 x6_2 x15_4).length : Int) := of_decide_eq_true (by first | (with_reducible assumption) | assumption)
                                                              obtain ⟨ad175, e175, hx175_0⟩ := Kd.at_int (by repeat (first | (with_reducible exact HR174_0.out) | (with_reducible refine Kd.C_alloc ?_ _) | (with_reducible refine Kd.C_drewN ?_ _) | (with_reducible refine Kd.C_drew ?_) | exact HR174_0.out)) x17_5 p175 q175
                                                              cases e175
                                                              replace p175 := eq_true p175
                                                              replace q175 := eq_true q175
                                                              go_wp2
                                                              go_roundg k5
                                                              case measure => have := HJ1.out; have := HK2.out; have := HK3.out; have := HK4.out; have := HK5.out; omega
                                                              case rel => exact ⟨(Go.bits .or .i64 x16_5 (ji73)), (wrap64 (x17_5 + 1)), (by first | rfl | (simp; done) | (simp only [← hji73] <;> (first | rfl | simp)) | (simp [*]; done)), (by first | rfl | (simp; done) | (simp [*]; done)), H', ⟨by have := HJ1.out; have := HK2.out; have := HK3.out; have := HK4.out; have := HK5.out; omega⟩, ⟨by (try simp only [hl10_3]); (try simp only [hl10_4]); (with_reducible repeat (first | apply Kd.S_alloc | apply Kd.S_drewN | apply Kd.S_drew)); exact HO_6.out⟩, ⟨by (try simp only [hl10_3]); (try simp only [hl10_4]); (with_reducible repeat (first | apply Kd.R_alloc | apply Kd.R_drewN | apply Kd.R_drew)); exact HO_10.out⟩, ⟨by (try simp only [hl10_3]); (try simp only [hl10_4]); (with_reducible repeat (first | apply Kd.R_alloc | apply Kd.R_drewN | apply Kd.R_drew)); exact HO_12.out⟩, ⟨by repeat (first | (with_reducible first | exact HB.out | apply below_alloc | apply pw_below_drewN | apply below_drew1) | exact HB.out)⟩⟩
                                                            · rw [if_neg c72] at H
                                                              exact absurd H (by simp)
                                                          · rw [if_neg c70] at H
                                                            exact absurd H (by simp)
                                                        · rw [if_neg c69] at H
                                                          exact absurd H (by simp)
                                                      · rw [if_neg c68] at H
                                                        exact absurd H (by simp)
                                                    · rw [if_neg c67] at H
                                                      exact absurd H (by simp)
                                                  · rw [if_neg c66] at H
                                                    have c66b0 : ((Go.bits .and .i64 (ji65) 1) == 1) = false := beq_eq_false_iff_ne.mpr c66
                                                    have c66b1 : ((Go.bits .and .i64 (ji65) 1) != 1) = true := bne_iff_ne.mpr c66
                                                    have H' := Aside0.mk H
                                                    clear H
                                                    go_wp2
                                                    go_roundg k5
                                                    case measure => have := HJ1.out; have := HK2.out; have := HK3.out; have := HK4.out; have := HK5.out; omega
                                                    case rel => exact ⟨(x16_5), (wrap64 (x17_5 + 1)), (by first | rfl | (simp; done) | (simp [*]; done)), (by first | rfl | (simp; done) | (simp [*]; done)), H', ⟨by have := HJ1.out; have := HK2.out; have := HK3.out; have := HK4.out; have := HK5.out; omega⟩, ⟨by (try simp only [hl10_3]); (try simp only [hl10_4]); (with_reducible repeat (first | apply Kd.S_alloc | apply Kd.S_drewN | apply Kd.S_drew)); exact HO_6.out⟩, ⟨by (try simp only [hl10_3]); (try simp only [hl10_4]); (with_reducible repeat (first | apply Kd.R_alloc | apply Kd.R_drewN | apply Kd.R_drew)); exact HO_10.out⟩, ⟨by (try simp only [hl10_3]); (try simp only [hl10_4]); (with_reducible repeat (first | apply Kd.R_alloc | apply Kd.R_drewN | apply Kd.R_drew)); exact HO_12.out⟩, ⟨by repeat (first | (with_reducible first | exact HB.out | apply below_alloc | apply pw_below_drewN | apply below_drew1) | exact HB.out)⟩⟩
                                                · rw [if_neg c64] at H
                                                  exact absurd H (by simp)
                                              · rw [if_neg c62] at H
                                                have c62b0 : decide (x17_5 < (t148.length : Int)) = false := decide_eq_false c62
                                                clear c62
                                                by_cases c75 : x16_5 = ji40
                                                · rw [if_pos c75] at H
                                                  have c75b0 : (x16_5 == ji40) = true := beq_iff_eq.mpr c75
                                                  have c75b1 : (x16_5 != ji40) = false := bne_eq_false_iff_eq.mpr c75
                                                  clear c75
                                                  replace H := Option.bind_eq_some_iff.mp H
                                                  obtain ⟨t176, A760, H⟩ := H
                                                  replace H : ((some (([(wrap64 (48 + x15_4)) % 256] : List Int) : List Int)).bind fun y177 => (if t176.size + (strOfNums y177).size ≤ 9223372036854775807 then (some (t176 ++ (strOfNums y177), true)) else (none))) = some (r1, r2) := H
                                                  have A76 := Aside0.mk A760
                                                  clear A760
                                                  obtain ⟨y177, hy177⟩ : ∃ y_ : List Int, y_ = (([(wrap64 (48 + x15_4)) % 256] : List Int)) := ⟨_, rfl⟩
                                                  replace H : (if t176.size + (strOfNums y177).size ≤ 9223372036854775807 then (some (t176 ++ (strOfNums y177), true)) else (none)) = some (r1, r2) := by first | (rw [hy177]; with_reducible exact H) | (have H2_ := (Option.bind_some _ _).symm.trans H; rw [hy177]; with_reducible exact H2_) | (have H2_ := (Option.bind_some _ _).symm.trans H; with_reducible exact H2_) | with_reducible exact H | (rw [hy177]; exact H) | exact H
                                                  have Ny177 := Aside0.mk hy177
                                                  clear hy177
                                                  by_cases c77 : t176.size + (strOfNums y177).size ≤ 9223372036854775807
                                                  · rw [if_pos c77] at H
                                                    have c77b0 := eq_true c77
                                                    have c77b1 : decide (t176.size + (strOfNums y177).size ≤ 9223372036854775807) = true := decide_eq_true c77
                                                    try have c77b2 : (9223372036854775807 < t176.size + (strOfNums y177).size) = False := eq_false (Nat.not_lt.2 c77)
                                                    simp only [Option.some.injEq, Prod.mk.injEq] at H
                                                    obtain ⟨rfl, rfl⟩ := H
                                                    try go_wp2
                                                    have n0_ := Aside0.mk (Kd.S_drew HO_6.out)
                                                    have n1_ := Aside0.mk (Kd.R_drew HO_10.out)
                                                    have n2_ := Aside0.mk (Kd.R_drew HO_12.out)
                                                    have n3_ := Aside0.mk (below_drew1 HB.out)
                                                    clear HO_6
                                                    clear HO_10
                                                    clear HO_12
                                                    clear HB
                                                    have HO_6 := n0_
                                                    have HO_10 := n1_
                                                    have HO_12 := n2_
                                                    have HB := n3_
                                                    clear n0_ n1_ n2_ n3_
                                                    refine start_ (n := 11) (S := fun w' => True) (ds := []) #[false, false, false, false, false, false, false, false, false, false, false] (by kernel_rfl) rfl rfl trivial (fun hHeld => ?_); refine with_tabW spec_SyncWord.tab32 spec_SyncWord.bits32 (fun HT_ HW_ => ?_)
                                                    generalize wr.drew = w78 at HO_6 HO_10 HO_12 HB hHeld ⊢
                                                    refine pure_ (i := 0) (N := some 123) (v := ?_) (a' := ?_) #[true, false, false, false, false, false, false, false, false, false, false] rfl rfl (any_of HT_.out (by kernel_rfl)) (fun _ _ _ h => h) (Or.inl ⟨by rfl, ?_⟩) ?_ ?_
                                                    rotate_left
                                                    · intro w'
                                                      go_simp
                                                      with_reducible rfl
                                                    rotate_left
                                                    · simp only [Act.put, List.setIfInBounds_toArray, List.set_cons_zero, List.set_cons_succ, i64_w, i32_w]
                                                      rfl
                                                    refine pure_ (i := 1) (N := some 124) (v := ?_) (a' := ?_) #[true, true, false, false, false, false, false, false, false, false, false] rfl rfl (any_of HT_.out (by kernel_rfl)) (fun _ _ _ h => h) (Or.inl ⟨by rfl, ?_⟩) ?_ ?_
                                                    rotate_left
                                                    · intro w'
                                                      go_simp
                                                      with_reducible rfl
                                                    rotate_left
                                                    · simp only [Act.put, List.setIfInBounds_toArray, List.set_cons_zero, List.set_cons_succ, i64_w, i32_w]
                                                      rfl
                                                    refine pure_ (i := 3) (N := some 126) (v := ?_) (a' := ?_) #[true, true, false, true, false, false, false, false, false, false, false] rfl rfl (any_of HT_.out (by kernel_rfl)) (fun _ _ _ h => h) (Or.inl ⟨by rfl, ?_⟩) ?_ ?_
                                                    rotate_left
                                                    · intro w'
                                                      go_simp
                                                      with_reducible rfl
                                                    rotate_left
                                                    · simp only [Act.put, List.setIfInBounds_toArray, List.set_cons_zero, List.set_cons_succ, i64_w, i32_w]
                                                      rfl
                                                    refine pure_ (i := 4) (N := some 127) (v := ?_) (a' := ?_) #[true, true, false, true, true, false, false, false, false, false, false] rfl rfl (any_of HT_.out (by kernel_rfl)) (fun _ _ _ h => h) (Or.inl ⟨by rfl, ?_⟩) ?_ ?_
                                                    rotate_left
                                                    · intro w'
                                                      go_simp
                                                      with_reducible rfl
                                                    rotate_left
                                                    · simp only [Act.put, List.setIfInBounds_toArray, List.set_cons_zero, List.set_cons_succ, i64_w, i32_w]
                                                      rfl
                                                    refine pure_ (i := 5) (N := some 128) (v := ?_) (a' := ?_) #[true, true, false, true, true, true, false, false, false, false, false] rfl rfl (any_of HT_.out (by kernel_rfl)) (fun _ _ _ h => h) (Or.inl ⟨by rfl, ?_⟩) ?_ ?_
                                                    rotate_left
                                                    · intro w'
                                                      go_simp
                                                      with_reducible rfl
                                                    rotate_left
                                                    · simp only [Act.put, List.setIfInBounds_toArray, List.set_cons_zero, List.set_cons_succ, i64_w, i32_w]
                                                      rfl
                                                    refine join_ (σ := Value) 3 #[true, true, true, true, true, true, true, true, false, false, false] (fun s_ => [(125, .string t176), (129, s_), (130, .string (strOfNums y177))]) (fun s_ w' => (Kd.R (Kd.int .u8) 5 w' w.heap.size (fun _ => True) s_ y177) ∧ (Kd.R (Kd.int .i64) 3 w' w.heap.size (fun k_ => some k_ ≠ (u12 : Value).ownBlock) (.slice (some ⟨go51, 0, none⟩) x10_4.length co51) x10_4) ∧ (Kd.R (Kd.int .i64) 3 w' w.heap.size (fun k_ => some k_ ≠ (.slice (some ⟨go51, 0, none⟩) x10_4.length co51 : Value).ownBlock) u12 x12_4) ∧ (Kd.S (Kd.slice 3 (Kd.int .i64)) 56 w' w.heap.size (fun k_ => some k_ ≠ (.slice (some ⟨go51, 0, none⟩) x10_4.length co51 : Value).ownBlock ∧ some k_ ≠ (u12 : Value).ownBlock) v152 x6_2) ∧ (Below w.heap.size w w')) ?_ ?_
                                                    rotate_left
                                                    · intro hCont
                                                      refine two_ (i := 2) (j := 6) (Ni := some 125) (Nj := some 129) #[true, true, true, true, true, true, false, false, false, false, false] #[true, true, false, true, true, true, true, false, false, false, false] rfl rfl rfl rfl (two_of HT_.out (by kernel_rfl)) (by decide) (by decide) (fun K hK => ?_) (fun K hK => ?_)
                                                      · skip
                                                        refine goes_ Tryd.func75 (by kernel_rfl) rfl #[.slice (some ⟨go51, 0, none⟩) x10_4.length co51, .int .i64 (rd x12_3 x13_3)] (by rfl) rfl rfl (by (try simp only [List.map_toArray, List.map_cons, List.map_nil]); first | done | rfl | (simp only [List.length_drop, List.length_take]; rfl)) ?_
                                                        with_reducible refine (spec_l05Back.calls k5 _ _ x10_4 (rd x12_3 x13_3) t176 _ ?side1 ?side2 A76.out).mono ?_
                                                        (case side1 => repeat (first | exact (Kd.R_reads' HO_10.out).2.2 | (with_reducible refine Kd.C_alloc ?_ _) | (with_reducible refine Kd.C_drewN ?_ _) | (with_reducible refine Kd.C_drew ?_)))
                                                        (case side2 => exact (Kd.R_reads' HO_10.out).2.1)
                                                        rintro e w79 ⟨rfl, hb⟩
                                                        refine ⟨_, rfl, ?_⟩
                                                        have n0_ := Aside0.mk (Kd.S_below (by (with_reducible repeat (first | apply Kd.S_alloc | apply Kd.S_drewN | apply Kd.S_drew)); exact HO_6.out) hb)
                                                        have n1_ := Aside0.mk (Kd.R_below (by (with_reducible repeat (first | apply Kd.R_alloc | apply Kd.R_drewN | apply Kd.R_drew)); exact HO_10.out) hb)
                                                        have n2_ := Aside0.mk (Kd.R_below (by (with_reducible repeat (first | apply Kd.R_alloc | apply Kd.R_drewN | apply Kd.R_drew)); exact HO_12.out) hb)
                                                        have n3_ := Aside0.mk (below_step (by repeat (first | (with_reducible first | exact HB.out | apply below_alloc | apply pw_below_drewN | apply below_drew1) | exact HB.out)) hb)
                                                        clear HO_6
                                                        clear HO_10
                                                        clear HO_12
                                                        clear HB
                                                        have HO_6 := n0_
                                                        have HO_10 := n1_
                                                        have HO_12 := n2_
                                                        have HB := n3_
                                                        clear n0_ n1_ n2_ n3_
                                                        (try clear hb)
                                                        (try clear hb2)
                                                        (try clear hk)
                                                        (try clear hi)
                                                        refine hK.out _ _ (by first | exact trivial | exact hHeld | exact ⟨hHeld.1, hHeld.2⟩ | exact ⟨HS0_, HS1_⟩) (fun hHeld => ?_)
                                                        clear hK K
                                                        refine norm_ (a' := ?_) ?_ ?_
                                                        rotate_left
                                                        · show Act.put _ (some 125) _ = _
                                                          simp only [Act.put, List.setIfInBounds_toArray, List.set_cons_zero, List.set_cons_succ, i64_w, i32_w]
                                                          rfl
                                                        refine one_ (i := 6) (N := some 129) #[true, true, true, true, true, true, true, false, false, false, false] rfl rfl (one_of HT_.out (by kernel_rfl)) (by decide) (fun K hK => ?_)
                                                        refine Kd.R_lit_step (Kd.int .u8) _ 5 ?hg (N := 129) ?hd (xs := ([(wrap64 (48 + x15_4)) % 256] : List Int)) (inner := [.int .u8 ((wrap64 (48 + x15_4)) % 256)]) (ok := fun _ => True) (okp := fun _ => True) ?hr ?hp (fun _ hk => hk) trivial (Below.refl _ _) (Nat.le_refl _) (by simp) ?_; (case hd => rfl); (case hg => rfl); (case hr => first | (go_simp; done) | (go_simp; rfl)); (case hp => exact (Reps.one (show Kd.M (Kd.int .u8) _ _ _ ((wrap64 (48 + x15_4)) % 256) [.int .u8 ((wrap64 (48 + x15_4)) % 256)] from rfl) (Reps.none _ _)))
                                                        intro v178 w80 ho81 hb hg_ hnew_
                                                        clear hg_ hnew_
                                                        (first | rw [← Ny177.out] at ho81 | (simp only [Int.reduceToNat] at ho81; rw [← Ny177.out] at ho81))
                                                        have n0_ := Aside0.mk (Kd.S_below (by (with_reducible repeat (first | apply Kd.S_alloc | apply Kd.S_drewN | apply Kd.S_drew)); exact HO_6.out) hb)
                                                        have n1_ := Aside0.mk (Kd.R_below (by (with_reducible repeat (first | apply Kd.R_alloc | apply Kd.R_drewN | apply Kd.R_drew)); exact HO_10.out) hb)
                                                        have n2_ := Aside0.mk (Kd.R_below (by (with_reducible repeat (first | apply Kd.R_alloc | apply Kd.R_drewN | apply Kd.R_drew)); exact HO_12.out) hb)
                                                        have n3_ := Aside0.mk (Kd.R_lower ho81 (below_size (by repeat (first | (with_reducible first | exact HB.out | apply below_alloc | apply pw_below_drewN | apply below_drew1) | exact HB.out))))
                                                        have n4_ := Aside0.mk (below_step (by repeat (first | (with_reducible first | exact HB.out | apply below_alloc | apply pw_below_drewN | apply below_drew1) | exact HB.out)) hb)
                                                        clear HO_6
                                                        clear HO_10
                                                        clear HO_12
                                                        clear HB
                                                        have HO_6 := n0_
                                                        have HO_10 := n1_
                                                        have HO_12 := n2_
                                                        have HO179 := n3_
                                                        have HB := n4_
                                                        clear n0_ n1_ n2_ n3_ n4_
                                                        clear hb ho81
                                                        refine hK.out _ _ (by first | exact trivial | exact hHeld | exact ⟨hHeld.1, hHeld.2⟩ | exact ⟨HS0_, HS1_⟩) (fun hHeld => ?_)
                                                        clear hK K
                                                        refine norm_ (a' := ?_) ?_ ?_
                                                        rotate_left
                                                        · show Act.put _ (some 129) _ = _
                                                          simp only [Act.put, List.setIfInBounds_toArray, List.set_cons_zero, List.set_cons_succ, i64_w, i32_w]
                                                          rfl
                                                        refine one_ (i := 7) (N := some 130) #[true, true, true, true, true, true, true, true, false, false, false] rfl rfl (one_of HT_.out (by kernel_rfl)) (by decide) (fun K hK => ?_)
                                                        have hcv82 := own_string (P := Tryd.prog) Tryd.underlying45 Tryd.underlying5 Tryd.underlying9 (Kd.own_of_R HO179.out)
                                                        refine value_ (w1 := ?_) (v := ?_) (by rfl) rfl ?_ ?_
                                                        rotate_left 2
                                                        · go_simp
                                                          constructor
                                                          · rfl
                                                          · rfl
                                                        clear hcv82
                                                        refine hK.out _ _ (by first | exact trivial | exact hHeld | exact ⟨hHeld.1, hHeld.2⟩ | exact ⟨HS0_, HS1_⟩) (fun hHeld => ?_)
                                                        clear hK K
                                                        refine norm_ (a' := ?_) ?_ ?_
                                                        rotate_left
                                                        · show Act.put _ (some 130) _ = _
                                                          simp only [Act.put, List.setIfInBounds_toArray, List.set_cons_zero, List.set_cons_succ, i64_w, i32_w]
                                                          rfl
                                                        exact norm_ (by simp only [putAll, Act.put, List.setIfInBounds_toArray, List.set_cons_zero, List.set_cons_succ]) (hCont (v178) _ ⟨(by (with_reducible repeat (first | apply Kd.R_alloc | apply Kd.R_drewN | apply Kd.R_drew)); exact HO179.out), (by (with_reducible repeat (first | apply Kd.R_alloc | apply Kd.R_drewN | apply Kd.R_drew)); exact HO_10.out), (by (with_reducible repeat (first | apply Kd.R_alloc | apply Kd.R_drewN | apply Kd.R_drew)); exact HO_12.out), (by (with_reducible repeat (first | apply Kd.S_alloc | apply Kd.S_drewN | apply Kd.S_drew)); exact HO_6.out), (by repeat (first | (with_reducible first | exact HB.out | apply below_alloc | apply pw_below_drewN | apply below_drew1) | exact HB.out))⟩)
                                                      · skip
                                                        refine Kd.R_lit_step (Kd.int .u8) _ 5 ?hg (N := 129) ?hd (xs := ([(wrap64 (48 + x15_4)) % 256] : List Int)) (inner := [.int .u8 ((wrap64 (48 + x15_4)) % 256)]) (ok := fun _ => True) (okp := fun _ => True) ?hr ?hp (fun _ hk => hk) trivial (Below.refl _ _) (Nat.le_refl _) (by simp) ?_; (case hd => rfl); (case hg => rfl); (case hr => first | (go_simp; done) | (go_simp; rfl)); (case hp => exact (Reps.one (show Kd.M (Kd.int .u8) _ _ _ ((wrap64 (48 + x15_4)) % 256) [.int .u8 ((wrap64 (48 + x15_4)) % 256)] from rfl) (Reps.none _ _)))
                                                        intro v178 w79 ho80 hb hg_ hnew_
                                                        clear hg_ hnew_
                                                        (first | rw [← Ny177.out] at ho80 | (simp only [Int.reduceToNat] at ho80; rw [← Ny177.out] at ho80))
                                                        have n0_ := Aside0.mk (Kd.S_below (by (with_reducible repeat (first | apply Kd.S_alloc | apply Kd.S_drewN | apply Kd.S_drew)); exact HO_6.out) hb)
                                                        have n1_ := Aside0.mk (Kd.R_below (by (with_reducible repeat (first | apply Kd.R_alloc | apply Kd.R_drewN | apply Kd.R_drew)); exact HO_10.out) hb)
                                                        have n2_ := Aside0.mk (Kd.R_below (by (with_reducible repeat (first | apply Kd.R_alloc | apply Kd.R_drewN | apply Kd.R_drew)); exact HO_12.out) hb)
                                                        have n3_ := Aside0.mk (Kd.R_lower ho80 (below_size (by repeat (first | (with_reducible first | exact HB.out | apply below_alloc | apply pw_below_drewN | apply below_drew1) | exact HB.out))))
                                                        have n4_ := Aside0.mk (below_step (by repeat (first | (with_reducible first | exact HB.out | apply below_alloc | apply pw_below_drewN | apply below_drew1) | exact HB.out)) hb)
                                                        clear HO_6
                                                        clear HO_10
                                                        clear HO_12
                                                        clear HB
                                                        have HO_6 := n0_
                                                        have HO_10 := n1_
                                                        have HO_12 := n2_
                                                        have HO179 := n3_
                                                        have HB := n4_
                                                        clear n0_ n1_ n2_ n3_ n4_
                                                        clear hb ho80
                                                        refine hK.out _ _ (by first | exact trivial | exact hHeld | exact ⟨hHeld.1, hHeld.2⟩ | exact ⟨HS0_, HS1_⟩) (fun hHeld => ?_)
                                                        clear hK K
                                                        refine norm_ (a' := ?_) ?_ ?_
                                                        rotate_left
                                                        · show Act.put _ (some 129) _ = _
                                                          simp only [Act.put, List.setIfInBounds_toArray, List.set_cons_zero, List.set_cons_succ, i64_w, i32_w]
                                                          rfl
                                                        refine two_ (i := 2) (j := 7) (Ni := some 125) (Nj := some 130) #[true, true, true, true, true, true, true, false, false, false, false] #[true, true, false, true, true, true, true, true, false, false, false] rfl rfl rfl rfl (two_of HT_.out (by kernel_rfl)) (by decide) (by decide) (fun K hK => ?_) (fun K hK => ?_)
                                                        · skip
                                                          refine goes_ Tryd.func75 (by kernel_rfl) rfl #[.slice (some ⟨go51, 0, none⟩) x10_4.length co51, .int .i64 (rd x12_3 x13_3)] (by rfl) rfl rfl (by (try simp only [List.map_toArray, List.map_cons, List.map_nil]); first | done | rfl | (simp only [List.length_drop, List.length_take]; rfl)) ?_
                                                          with_reducible refine (spec_l05Back.calls k5 _ _ x10_4 (rd x12_3 x13_3) t176 _ ?side1 ?side2 A76.out).mono ?_
                                                          (case side1 => repeat (first | exact (Kd.R_reads' HO_10.out).2.2 | (with_reducible refine Kd.C_alloc ?_ _) | (with_reducible refine Kd.C_drewN ?_ _) | (with_reducible refine Kd.C_drew ?_)))
                                                          (case side2 => exact (Kd.R_reads' HO_10.out).2.1)
                                                          rintro e w81 ⟨rfl, hb⟩
                                                          refine ⟨_, rfl, ?_⟩
                                                          have n0_ := Aside0.mk (Kd.S_below (by (with_reducible repeat (first | apply Kd.S_alloc | apply Kd.S_drewN | apply Kd.S_drew)); exact HO_6.out) hb)
                                                          have n1_ := Aside0.mk (Kd.R_below (by (with_reducible repeat (first | apply Kd.R_alloc | apply Kd.R_drewN | apply Kd.R_drew)); exact HO_10.out) hb)
                                                          have n2_ := Aside0.mk (Kd.R_below (by (with_reducible repeat (first | apply Kd.R_alloc | apply Kd.R_drewN | apply Kd.R_drew)); exact HO_12.out) hb)
                                                          have n3_ := Aside0.mk (Kd.R_below (by (with_reducible repeat (first | apply Kd.R_alloc | apply Kd.R_drewN | apply Kd.R_drew)); exact HO179.out) hb)
                                                          have n4_ := Aside0.mk (below_step (by repeat (first | (with_reducible first | exact HB.out | apply below_alloc | apply pw_below_drewN | apply below_drew1) | exact HB.out)) hb)
                                                          clear HO_6
                                                          clear HO_10
                                                          clear HO_12
                                                          clear HO179
                                                          clear HB
                                                          have HO_6 := n0_
                                                          have HO_10 := n1_
                                                          have HO_12 := n2_
                                                          have HO179 := n3_
                                                          have HB := n4_
                                                          clear n0_ n1_ n2_ n3_ n4_
                                                          (try clear hb)
                                                          (try clear hb2)
                                                          (try clear hk)
                                                          (try clear hi)
                                                          refine hK.out _ _ (by first | exact trivial | exact hHeld | exact ⟨hHeld.1, hHeld.2⟩ | exact ⟨HS0_, HS1_⟩) (fun hHeld => ?_)
                                                          clear hK K
                                                          refine norm_ (a' := ?_) ?_ ?_
                                                          rotate_left
                                                          · show Act.put _ (some 125) _ = _
                                                            simp only [Act.put, List.setIfInBounds_toArray, List.set_cons_zero, List.set_cons_succ, i64_w, i32_w]
                                                            rfl
                                                          refine one_ (i := 7) (N := some 130) #[true, true, true, true, true, true, true, true, false, false, false] rfl rfl (one_of HT_.out (by kernel_rfl)) (by decide) (fun K hK => ?_)
                                                          have hcv82 := own_string (P := Tryd.prog) Tryd.underlying45 Tryd.underlying5 Tryd.underlying9 (Kd.own_of_R HO179.out)
                                                          refine value_ (w1 := ?_) (v := ?_) (by rfl) rfl ?_ ?_
                                                          rotate_left 2
                                                          · go_simp
                                                            constructor
                                                            · rfl
                                                            · rfl
                                                          clear hcv82
                                                          refine hK.out _ _ (by first | exact trivial | exact hHeld | exact ⟨hHeld.1, hHeld.2⟩ | exact ⟨HS0_, HS1_⟩) (fun hHeld => ?_)
                                                          clear hK K
                                                          refine norm_ (a' := ?_) ?_ ?_
                                                          rotate_left
                                                          · show Act.put _ (some 130) _ = _
                                                            simp only [Act.put, List.setIfInBounds_toArray, List.set_cons_zero, List.set_cons_succ, i64_w, i32_w]
                                                            rfl
                                                          exact norm_ (by simp only [putAll, Act.put, List.setIfInBounds_toArray, List.set_cons_zero, List.set_cons_succ]) (hCont (v178) _ ⟨(by (with_reducible repeat (first | apply Kd.R_alloc | apply Kd.R_drewN | apply Kd.R_drew)); exact HO179.out), (by (with_reducible repeat (first | apply Kd.R_alloc | apply Kd.R_drewN | apply Kd.R_drew)); exact HO_10.out), (by (with_reducible repeat (first | apply Kd.R_alloc | apply Kd.R_drewN | apply Kd.R_drew)); exact HO_12.out), (by (with_reducible repeat (first | apply Kd.S_alloc | apply Kd.S_drewN | apply Kd.S_drew)); exact HO_6.out), (by repeat (first | (with_reducible first | exact HB.out | apply below_alloc | apply pw_below_drewN | apply below_drew1) | exact HB.out))⟩)
                                                        · skip
                                                          have hcv81 := own_string (P := Tryd.prog) Tryd.underlying45 Tryd.underlying5 Tryd.underlying9 (Kd.own_of_R HO179.out)
                                                          refine value_ (w1 := ?_) (v := ?_) (by rfl) rfl ?_ ?_
                                                          rotate_left 2
                                                          · go_simp
                                                            constructor
                                                            · rfl
                                                            · rfl
                                                          clear hcv81
                                                          refine hK.out _ _ (by first | exact trivial | exact hHeld | exact ⟨hHeld.1, hHeld.2⟩ | exact ⟨HS0_, HS1_⟩) (fun hHeld => ?_)
                                                          clear hK K
                                                          refine norm_ (a' := ?_) ?_ ?_
                                                          rotate_left
                                                          · show Act.put _ (some 130) _ = _
                                                            simp only [Act.put, List.setIfInBounds_toArray, List.set_cons_zero, List.set_cons_succ, i64_w, i32_w]
                                                            rfl
                                                          refine one_ (i := 2) (N := some 125) #[true, true, true, true, true, true, true, true, false, false, false] rfl rfl (one_of HT_.out (by kernel_rfl)) (by decide) (fun K hK => ?_)
                                                          refine goes_ Tryd.func75 (by kernel_rfl) rfl #[.slice (some ⟨go51, 0, none⟩) x10_4.length co51, .int .i64 (rd x12_3 x13_3)] (by rfl) rfl rfl (by (try simp only [List.map_toArray, List.map_cons, List.map_nil]); first | done | rfl | (simp only [List.length_drop, List.length_take]; rfl)) ?_
                                                          with_reducible refine (spec_l05Back.calls k5 _ _ x10_4 (rd x12_3 x13_3) t176 _ ?side1 ?side2 A76.out).mono ?_
                                                          (case side1 => repeat (first | exact (Kd.R_reads' HO_10.out).2.2 | (with_reducible refine Kd.C_alloc ?_ _) | (with_reducible refine Kd.C_drewN ?_ _) | (with_reducible refine Kd.C_drew ?_)))
                                                          (case side2 => exact (Kd.R_reads' HO_10.out).2.1)
                                                          rintro e w82 ⟨rfl, hb⟩
                                                          refine ⟨_, rfl, ?_⟩
                                                          have n0_ := Aside0.mk (Kd.S_below (by (with_reducible repeat (first | apply Kd.S_alloc | apply Kd.S_drewN | apply Kd.S_drew)); exact HO_6.out) hb)
                                                          have n1_ := Aside0.mk (Kd.R_below (by (with_reducible repeat (first | apply Kd.R_alloc | apply Kd.R_drewN | apply Kd.R_drew)); exact HO_10.out) hb)
                                                          have n2_ := Aside0.mk (Kd.R_below (by (with_reducible repeat (first | apply Kd.R_alloc | apply Kd.R_drewN | apply Kd.R_drew)); exact HO_12.out) hb)
                                                          have n3_ := Aside0.mk (Kd.R_below (by (with_reducible repeat (first | apply Kd.R_alloc | apply Kd.R_drewN | apply Kd.R_drew)); exact HO179.out) hb)
                                                          have n4_ := Aside0.mk (below_step (by repeat (first | (with_reducible first | exact HB.out | apply below_alloc | apply pw_below_drewN | apply below_drew1) | exact HB.out)) hb)
                                                          clear HO_6
                                                          clear HO_10
                                                          clear HO_12
                                                          clear HO179
                                                          clear HB
                                                          have HO_6 := n0_
                                                          have HO_10 := n1_
                                                          have HO_12 := n2_
                                                          have HO179 := n3_
                                                          have HB := n4_
                                                          clear n0_ n1_ n2_ n3_ n4_
                                                          (try clear hb)
                                                          (try clear hb2)
                                                          (try clear hk)
                                                          (try clear hi)
                                                          refine hK.out _ _ (by first | exact trivial | exact hHeld | exact ⟨hHeld.1, hHeld.2⟩ | exact ⟨HS0_, HS1_⟩) (fun hHeld => ?_)
                                                          clear hK K
                                                          refine norm_ (a' := ?_) ?_ ?_
                                                          rotate_left
                                                          · show Act.put _ (some 125) _ = _
                                                            simp only [Act.put, List.setIfInBounds_toArray, List.set_cons_zero, List.set_cons_succ, i64_w, i32_w]
                                                            rfl
                                                          exact norm_ (by simp only [putAll, Act.put, List.setIfInBounds_toArray, List.set_cons_zero, List.set_cons_succ]) (hCont (v178) _ ⟨(by (with_reducible repeat (first | apply Kd.R_alloc | apply Kd.R_drewN | apply Kd.R_drew)); exact HO179.out), (by (with_reducible repeat (first | apply Kd.R_alloc | apply Kd.R_drewN | apply Kd.R_drew)); exact HO_10.out), (by (with_reducible repeat (first | apply Kd.R_alloc | apply Kd.R_drewN | apply Kd.R_drew)); exact HO_12.out), (by (with_reducible repeat (first | apply Kd.S_alloc | apply Kd.S_drewN | apply Kd.S_drew)); exact HO_6.out), (by repeat (first | (with_reducible first | exact HB.out | apply below_alloc | apply pw_below_drewN | apply below_drew1) | exact HB.out))⟩)
                                                    rintro v178 w83 ⟨h0_, h1_, h2_, h3_, h4_⟩
                                                    have n0_ : Aside0 (Kd.R (Kd.int .u8) 5 w83 w.heap.size (fun _ => True) v178 y177) := ⟨h0_⟩
                                                    have n1_ : Aside0 (Kd.R (Kd.int .i64) 3 w83 w.heap.size (fun k_ => some k_ ≠ (u12 : Value).ownBlock) (.slice (some ⟨go51, 0, none⟩) x10_4.length co51) x10_4) := ⟨h1_⟩
                                                    have n2_ : Aside0 (Kd.R (Kd.int .i64) 3 w83 w.heap.size (fun k_ => some k_ ≠ (.slice (some ⟨go51, 0, none⟩) x10_4.length co51 : Value).ownBlock) u12 x12_4) := ⟨h2_⟩
                                                    have n3_ : Aside0 (Kd.S (Kd.slice 3 (Kd.int .i64)) 56 w83 w.heap.size (fun k_ => some k_ ≠ (.slice (some ⟨go51, 0, none⟩) x10_4.length co51 : Value).ownBlock ∧ some k_ ≠ (u12 : Value).ownBlock) v152 x6_2) := ⟨h3_⟩
                                                    have n4_ : Aside0 (Below w.heap.size w w83) := ⟨h4_⟩
                                                    clear HO_6
                                                    clear HO_10
                                                    clear HO_12
                                                    clear HB
                                                    clear h0_ h1_ h2_ h3_ h4_
                                                    have HO179 := n0_
                                                    have HO_10 := n1_
                                                    have HO_12 := n2_
                                                    have HO_6 := n3_
                                                    have HB := n4_
                                                    clear n0_ n1_ n2_ n3_ n4_
                                                    have hHeld := trivial
                                                    refine norm_ (a' := ?_) ?_ ?_
                                                    rotate_left
                                                    · simp only [putAll, Act.put, List.setIfInBounds_toArray, List.set_cons_zero, List.set_cons_succ]
                                                      rfl
                                                    refine pure_ (i := 8) (N := some 131) (v := ?_) (a' := ?_) #[true, true, true, true, true, true, true, true, true, false, false] rfl rfl (any_of HT_.out (by kernel_rfl)) (fun _ _ _ h => h) (Or.inl ⟨by rfl, ?_⟩) ?_ ?_
                                                    rotate_left
                                                    · intro w'
                                                      go_simp
                                                      with_reducible rfl
                                                    rotate_left
                                                    · simp only [Act.put, List.setIfInBounds_toArray, List.set_cons_zero, List.set_cons_succ, i64_w, i32_w]
                                                      rfl
                                                    refine pure_ (i := 9) (N := some 2) (v := ?_) (a' := ?_) #[true, true, true, true, true, true, true, true, true, true, false] rfl rfl (any_of HT_.out (by kernel_rfl)) (fun _ _ _ h => h) (Or.inl ⟨by rfl, ?_⟩) ?_ ?_
                                                    rotate_left
                                                    · intro w'
                                                      go_simp
                                                      with_reducible rfl
                                                    rotate_left
                                                    · simp only [Act.put, List.setIfInBounds_toArray, List.set_cons_zero, List.set_cons_succ, i64_w, i32_w]
                                                      rfl
                                                    refine pure_ (i := 10) (N := some 3) (v := ?_) (a' := ?_) #[true, true, true, true, true, true, true, true, true, true, true] rfl rfl (any_of HT_.out (by kernel_rfl)) (fun _ _ _ h => h) (Or.inl ⟨by rfl, ?_⟩) ?_ ?_
                                                    rotate_left
                                                    · intro w'
                                                      go_simp
                                                      with_reducible rfl
                                                    rotate_left
                                                    · simp only [Act.put, List.setIfInBounds_toArray, List.set_cons_zero, List.set_cons_succ, i64_w, i32_w]
                                                      rfl
                                                    refine done_ (done_of HT_.out (by kernel_rfl)) ?_
                                                    try go_wp2
                                                    go_ret2
                                                    exact ⟨by first | rfl | (simp [errW_none, errW_some] <;> rfl) | (simp only [← hji38, ← hji40, ← hji41, ← hji43, ← hji48]; first | rfl | (simp [errW_none, errW_some] <;> rfl)) | (simp [*, errW_none, errW_some] <;> rfl), by repeat (first | (with_reducible first | exact HB.out | apply below_alloc | apply pw_below_drewN | apply below_drew1) | exact HB.out)⟩
                                                  · rw [if_neg c77] at H
                                                    exact absurd H (by simp)
                                                · rw [if_neg c75] at H
                                                  have c75b0 : (x16_5 == ji40) = false := beq_eq_false_iff_ne.mpr c75
                                                  have c75b1 : (x16_5 != ji40) = true := bne_iff_ne.mpr c75
                                                  by_cases c84 : 0 ≤ x16_5
                                                  · rw [if_pos c84] at H
                                                    have c84b0 : decide (0 ≤ x16_5) = true := decide_eq_true c84
                                                    clear c84
                                                    by_cases c85 : x16_5 < (x10_4.length : Int)
                                                    · rw [if_pos c85] at H
                                                      have c85b0 : decide (x16_5 < (x10_4.length : Int)) = true := decide_eq_true c85
                                                      have c85b0q := c85b0
                                                      (try simp only [hl10_3, hl10_4] at c85b0q)
                                                      clear c85
                                                      by_cases c86 : (rd x10_4 x16_5) = 0
                                                      · rw [if_pos c86] at H
                                                        have c86b0 : ((rd x10_4 x16_5) == 0) = true := beq_iff_eq.mpr c86
                                                        have c86b1 : ((rd x10_4 x16_5) != 0) = false := bne_eq_false_iff_eq.mpr c86
                                                        clear c86
                                                        obtain ⟨y181, hy181⟩ : ∃ y_ : List Int, y_ = (x10_4.set (x16_5 : Int).toNat (wrap64 ((wrap64 (2 * (rd x12_3 x13_3))) + x15_4))) := ⟨_, rfl⟩
                                                        replace H : (if x12_4.length < 17592186044416 then (spec_SyncWord.l3 k5 (t148.length : Int) x6_2 ji40 y181 (x12_4 ++ [x16_5]) x13_3 (rd x12_3 x13_3) (wrap64 (x15_4 + 1))) else (none)) = some (r1, r2) := by first | (rw [hy181]; with_reducible exact H) | (have H2_ := (Option.bind_some _ _).symm.trans H; rw [hy181]; with_reducible exact H2_) | (have H2_ := (Option.bind_some _ _).symm.trans H; with_reducible exact H2_) | with_reducible exact H | (rw [hy181]; exact H) | exact H
                                                        have Ny181 := Aside0.mk hy181
                                                        clear hy181
                                                        by_cases c88 : x12_4.length < 17592186044416
                                                        · rw [if_pos c88] at H
                                                          have LMc88 := Aside0.mk c88
                                                          clear c88
                                                          obtain ⟨y182, hy182⟩ : ∃ y_ : List Int, y_ = (x12_4 ++ [x16_5]) := ⟨_, rfl⟩
                                                          replace H : (spec_SyncWord.l3 k5 (t148.length : Int) x6_2 ji40 y181 y182 x13_3 (rd x12_3 x13_3) (wrap64 (x15_4 + 1))) = some (r1, r2) := by first | (rw [hy182]; with_reducible exact H) | (have H2_ := (Option.bind_some _ _).symm.trans H; rw [hy182]; with_reducible exact H2_) | (have H2_ := (Option.bind_some _ _).symm.trans H; with_reducible exact H2_) | with_reducible exact H | (rw [hy182]; exact H) | exact H
                                                          have Ny182 := Aside0.mk hy182
                                                          clear hy182
                                                          have H' := Aside0.mk H
                                                          clear H
                                                          have p180 : 0 ≤ (x16_5 : Int) := of_decide_eq_true (by first | (with_reducible assumption) | assumption)
                                                          have q180 : x16_5 < (x10_4.length : Int) := of_decide_eq_true (by first | (with_reducible assumption) | assumption)
                                                          obtain ⟨ad180, e180, hx180_0⟩ := Kd.at_int (Kd.R_reads' HO_10.out).2.2 x16_5 p180 q180
                                                          obtain rfl : (⟨go51, 0, none⟩ : Addr) = ad180 := (by injection e180)
                                                          (first | simp only [add_plain] at hx180_0 | simp only [add_at] at hx180_0 | simp only [Addr.add, Nat.zero_add] at hx180_0 | skip)
                                                          replace p180 := eq_true p180
                                                          replace q180 := eq_true q180
                                                          have p87 : 0 ≤ (x16_5 : Int) := of_decide_eq_true (by first | (with_reducible assumption) | assumption)
                                                          have q87 : (x16_5 : Int) < ((x10_4.length : Int) : Int) := of_decide_eq_true (by first | (with_reducible assumption) | assumption)
                                                          obtain ⟨hx87_0, hf87_0⟩ := Kd.R_celln 0 HO_10.out (x16_5 : Int) p87 q87
                                                          replace p87 := eq_true p87
                                                          replace q87 := eq_true q87
                                                          have HP89 := Kd.R_putg HO_10.out (x16_5 : Int) (wrap64 ((wrap64 (2 * (rd x12_3 x13_3))) + x15_4))
                                                          go_wp2_with (first | ((with_reducible refine gate_store (t := 3) (p := 143) rfl ?_); refine store_event (t := 3) (p := 143) (v := ?vo_w90) (w1 := (wr.setCell ⟨go51, (x16_5 : Int).toNat, none⟩ (.int .i64 (wrap64 ((wrap64 (2 * (rd x12_3 x13_3))) + x15_4))))) ?hg ?ho ?hn ?hr ?_; (case ho => rfl); (case hg => rfl); (case hn => rfl); (case hr => first | (go_simp; done) | (go_simp; rfl)); intro w90 hw; have hg : wr.grownBy w90 (some go51) := (by rw [hw]; exact HP89.2); have hp_ : Kd.R (Kd.int .i64) 3 w90 w.heap.size (fun k_ => some k_ ≠ (u12 : Value).ownBlock) (.slice (some ⟨go51, 0, none⟩) x10_4.length co51) y181 := (by rw [hw, Ny181.out]; exact HP89.1); clear HP89; have n0_ := Aside0.mk (Kd.S_after (v := (.slice (some ⟨go51, 0, none⟩) x10_4.length co51)) (v1 := (.slice (some ⟨go51, 0, none⟩) x10_4.length co51)) (ok := (fun k_ => some k_ ≠ (u12 : Value).ownBlock)) (by (with_reducible repeat (first | apply Kd.S_alloc | apply Kd.S_drewN | apply Kd.S_drew)); exact Kd.S_mono HO_6.out (fun _ hk => ⟨hk.2, hk.1⟩)) hg (.inl rfl)); have n1_ := Aside0.mk (hp_); have n2_ := Aside0.mk (Kd.R_after (v := (.slice (some ⟨go51, 0, none⟩) x10_4.length co51)) (v1 := (.slice (some ⟨go51, 0, none⟩) x10_4.length co51)) (ok := (fun _ => True)) (by (with_reducible repeat (first | apply Kd.R_alloc | apply Kd.R_drewN | apply Kd.R_drew)); exact Kd.R_mono HO_12.out (fun _ hk => ⟨trivial, hk⟩)) hg (.inl rfl)); have n3_ := Aside0.mk ((by rw [hw]; exact below_set (HB.out) GB51.out : Below w.heap.size w w90)); clear HO_6; clear HO_10; clear HO_12; clear HB; have HO_6 := n0_; have HO_10 := n1_; have HO_12 := n2_; have HB := n3_; clear n0_ n1_ n2_ n3_; clear hg hw hp_) | ((with_reducible refine gate_builtin (b := .append) (xs := #[.tmp 144, .tmp 146]) rfl ?_); (try (refine gate_guard (by rfl) ?_; dsimp only)); at_builtin; refine Kd.R_append (Kd.int .i64) (w0 := w) w.heap.size rfl (.tmp 144) (.tmp 146) 56 3 (.int .i64 0) 8 rfl Tryd.underlying56 info3 rfl (by decide) (by omega) u12 x12_4 x16_5 [.int .i64 x16_5] (fun k_ => some k_ ≠ (.slice (some ⟨go51, 0, none⟩) x10_4.length co51 : Value).ownBlock) (fun _ => False) rfl rfl ?aP (fun _ hk => hk.elim) ?aF ?aO ?aB ?aS ?aL ?_; (case aP => exact rfl); (case aB => exact (by repeat (first | (with_reducible first | exact HB.out | apply below_alloc | apply pw_below_drewN | apply below_drew1) | exact HB.out))); (case aF => exact (fun k_ hk => Kd.fresh' (Kd.R_lt (by (with_reducible repeat (first | apply Kd.R_alloc | apply Kd.R_drewN | apply Kd.R_drew)); exact HO_10.out)) k_ hk)); (case aO => exact (by (with_reducible repeat (first | apply Kd.R_alloc | apply Kd.R_drewN | apply Kd.R_drew)); exact Kd.R_mono HO_12.out (fun _ hk => hk.2))); (case aS => exact (below_size (by repeat (first | (with_reducible first | exact HB.out | apply below_alloc | apply pw_below_drewN | apply below_drew1) | exact HB.out)))); (case aL => have := LMc88.out; omega); intro v183 w91 ho hb hg hat; rw [← Ny182.out] at ho; have n0_ := Aside0.mk (Kd.S_after (ok := (fun k_ => some k_ ≠ (.slice (some ⟨go51, 0, none⟩) x10_4.length co51 : Value).ownBlock)) (by (with_reducible repeat (first | apply Kd.S_alloc | apply Kd.S_drewN | apply Kd.S_drew)); exact Kd.S_mono HO_6.out (fun _ hk => ⟨hk.2, hk.1⟩)) hg hat); have n1_ := Aside0.mk (Kd.R_after (ok := (fun _ => True)) (by (with_reducible repeat (first | apply Kd.R_alloc | apply Kd.R_drewN | apply Kd.R_drew)); exact Kd.R_mono HO_10.out (fun _ hk => ⟨trivial, hk⟩)) hg hat); have n2_ := Aside0.mk (hb); have n3_ := Aside0.mk (ho); clear HO_6; clear HO_10; clear HB; clear HO_12; have HO_6 := n0_; have HO_10 := n1_; have HB := n2_; have HO184 := n3_; clear n0_ n1_ n2_ n3_; clear ho hb hg hat))
                                                          (try simp only [← hl10_4])
                                                          go_roundg k5
                                                          case measure => have := HJ1.out; have := HK2.out; have := HK3.out; have := HK4.out; have := HK5.out; omega
                                                          case rel => exact ⟨(y181), (y182), (wrap64 (x15_4 + 1)), (by first | rfl | (simp; done) | (simp [*]; done)), H', ⟨by have := HJ1.out; have := HK2.out; have := HK3.out; have := HK4.out; have := HK5.out; omega⟩, ⟨by (try simp only [hl10_3]); (try simp only [hl10_4]); (with_reducible repeat (first | apply Kd.S_alloc | apply Kd.S_drewN | apply Kd.S_drew)); exact HO_6.out⟩, ⟨by (try simp only [hl10_3]); (try simp only [hl10_4]); (with_reducible repeat (first | apply Kd.R_alloc | apply Kd.R_drewN | apply Kd.R_drew)); exact Kd.R_mono HO_10.out (fun _ hk => hk.2)⟩, ⟨by (try simp only [hl10_3]); (try simp only [hl10_4]); (with_reducible repeat (first | apply Kd.R_alloc | apply Kd.R_drewN | apply Kd.R_drew)); exact HO184.out⟩, ⟨by repeat (first | (with_reducible first | exact HB.out | apply below_alloc | apply pw_below_drewN | apply below_drew1) | exact HB.out)⟩⟩
                                                        · rw [if_neg c88] at H
                                                          exact absurd H (by simp)
                                                      · rw [if_neg c86] at H
                                                        have c86b0 : ((rd x10_4 x16_5) == 0) = false := beq_eq_false_iff_ne.mpr c86
                                                        have c86b1 : ((rd x10_4 x16_5) != 0) = true := bne_iff_ne.mpr c86
                                                        have H' := Aside0.mk H
                                                        clear H
                                                        have p180 : 0 ≤ (x16_5 : Int) := of_decide_eq_true (by first | (with_reducible assumption) | assumption)
                                                        have q180 : x16_5 < (x10_4.length : Int) := of_decide_eq_true (by first | (with_reducible assumption) | assumption)
                                                        obtain ⟨ad180, e180, hx180_0⟩ := Kd.at_int (Kd.R_reads' HO_10.out).2.2 x16_5 p180 q180
                                                        obtain rfl : (⟨go51, 0, none⟩ : Addr) = ad180 := (by injection e180)
                                                        (first | simp only [add_plain] at hx180_0 | simp only [add_at] at hx180_0 | simp only [Addr.add, Nat.zero_add] at hx180_0 | skip)
                                                        replace p180 := eq_true p180
                                                        replace q180 := eq_true q180
                                                        go_wp2
                                                        (try simp only [← hl10_4])
                                                        go_roundg k5
                                                        case measure => have := HJ1.out; have := HK2.out; have := HK3.out; have := HK4.out; have := HK5.out; omega
                                                        case rel => exact ⟨(x10_4), (x12_4), (wrap64 (x15_4 + 1)), (by first | rfl | (simp; done) | (simp [*]; done)), H', ⟨by have := HJ1.out; have := HK2.out; have := HK3.out; have := HK4.out; have := HK5.out; omega⟩, ⟨by (try simp only [hl10_3]); (try simp only [hl10_4]); (with_reducible repeat (first | apply Kd.S_alloc | apply Kd.S_drewN | apply Kd.S_drew)); exact HO_6.out⟩, ⟨by (try simp only [hl10_3]); (try simp only [hl10_4]); (with_reducible repeat (first | apply Kd.R_alloc | apply Kd.R_drewN | apply Kd.R_drew)); exact HO_10.out⟩, ⟨by (try simp only [hl10_3]); (try simp only [hl10_4]); (with_reducible repeat (first | apply Kd.R_alloc | apply Kd.R_drewN | apply Kd.R_drew)); exact HO_12.out⟩, ⟨by repeat (first | (with_reducible first | exact HB.out | apply below_alloc | apply pw_below_drewN | apply below_drew1) | exact HB.out)⟩⟩
                                                    · rw [if_neg c85] at H
                                                      exact absurd H (by simp)
                                                  · rw [if_neg c84] at H
                                                    exact absurd H (by simp)
                                        · rw [if_neg c61] at H
                                          have c61b0 : decide (x15_4 < 2) = false := decide_eq_false c61
                                          clear c61
                                          have H' := Aside0.mk H
                                          clear H
                                          go_wp2
                                          (try simp only [← hl10_3, ← hl10_4])
                                          go_roundg k4
                                          case measure => have := HJ1.out; have := HK2.out; have := HK3.out; have := HK4.out; omega
                                          case rel => exact ⟨(x10_4), (x12_4), (wrap64 (x13_3 + 1)), (by first | rfl | (simp; done) | (simp [*]; done)), H', ⟨by have := HJ1.out; have := HK2.out; have := HK3.out; have := HK4.out; omega⟩, ⟨by (try simp only [hl10_3]); (try simp only [hl10_4]); (with_reducible repeat (first | apply Kd.S_alloc | apply Kd.S_drewN | apply Kd.S_drew)); exact HO_6.out⟩, ⟨by (try simp only [hl10_3]); (try simp only [hl10_4]); (with_reducible repeat (first | apply Kd.R_alloc | apply Kd.R_drewN | apply Kd.R_drew)); exact HO_10.out⟩, ⟨by (try simp only [hl10_3]); (try simp only [hl10_4]); (with_reducible repeat (first | apply Kd.R_alloc | apply Kd.R_drewN | apply Kd.R_drew)); exact HO_12.out⟩, ⟨by repeat (first | (with_reducible first | exact HB.out | apply below_alloc | apply pw_below_drewN | apply below_drew1) | exact HB.out)⟩⟩
                                  · rw [if_neg c59] at H
                                    exact absurd H (by simp)
                                · rw [if_neg c58] at H
                                  have c58b0 : decide (x13_3 < (x12_3.length : Int)) = false := decide_eq_false c58
                                  clear c58
                                  simp only [Option.some.injEq, Prod.mk.injEq] at H
                                  obtain ⟨rfl, rfl⟩ := H
                                  obtain ⟨Ao92, co92, eo92⟩ := Kd.R_slice HO_12.out
                                  subst eo92
                                  go_wp2
                                  go_ret2
                                  exact ⟨by first | rfl | (simp [errW_none, errW_some] <;> rfl) | (simp only [← hji38, ← hji40, ← hji41, ← hji43, ← hji48]; first | rfl | (simp [errW_none, errW_some] <;> rfl)) | (simp [*, errW_none, errW_some] <;> rfl), by repeat (first | (with_reducible first | exact HB.out | apply below_alloc | apply pw_below_drewN | apply below_drew1) | exact HB.out)⟩
                          · rw [if_neg c50] at H
                            exact absurd H (by simp)
                        · rw [if_neg c49] at H
                          exact absurd H (by simp)
                      · rw [if_neg c45] at H
                        exact absurd H (by simp)
                    · rw [if_neg c44] at H
                      exact absurd H (by simp)
                  · rw [if_neg c42] at H
                    exact absurd H (by simp)
                · rw [if_neg c39] at H
                  exact absurd H (by simp)
        · rw [if_neg c12] at H
          exact absurd H (by simp)

end Go.Proofs.YtohdepanfnaddaaDoor.QFnExactSyncWord
