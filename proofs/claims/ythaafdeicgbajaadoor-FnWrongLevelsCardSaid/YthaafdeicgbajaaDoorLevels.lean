/- Plain definitions and lemmas on the levels of bits, for six kinds of lines. They speak of no Go. -/
import Derived.Test.YthaafdeicgbajaaDoorBase
namespace Go.Proofs.YthaafdeicgbajaaDoor.Levels
open Go.RowKit Go.Proofs.YthaafdeicgbajaaDoorW.PrintWords Go.Proofs.YthaafdeicgbajaaDoorW.PrintMore Go.Proofs.YthaafdeicgbajaaDoor.Base

/-- The circle of the sixth kind. -/
def circ (s : Int) : Int := if s = 1 then 1 else if s = 3 then -1 else 0
/-- The levels of one bit, and the state behind them. -/
def lvOut (kind s : Int) (b : Bool) : List Int :=
  if kind = 0 then (if b = true then [1] else [-1])
  else if kind = 1 then (if b = true then [-s] else [s])
  else if kind = 2 then (if b = true then [-1, 1] else [1, -1])
  else if kind = 3 then (if b = true then [s, -s] else [-s, s])
  else if kind = 4 then (if b = true then [s] else [0])
  else (if b = true then [circ (if s = 3 then 0 else s + 1)] else [circ s])
def lvNext (kind s : Int) (b : Bool) : Int :=
  if b = true then (if kind = 1 ∨ kind = 3 ∨ kind = 4 then -s else if kind = 5 then (if s = 3 then 0 else s + 1) else s) else s
def lvStart (kind : Int) : Int := if kind = 1 ∨ kind = 3 then -1 else if kind = 4 then 1 else 0
def lvGo (kind s : Int) : List UInt8 → List Int
  | [] => []
  | c :: r => lvOut kind s (c == 49) ++ lvGo kind (lvNext kind s (c == 49)) r
def levelsN (kind : Int) (l : List UInt8) : List Int := lvGo kind (lvStart kind) l
/-- States that occur, by kind. -/
def sOK (kind s : Int) : Prop := (kind = 0 ∧ s = 0) ∨ (kind = 1 ∧ (s = 1 ∨ s = -1)) ∨ (kind = 2 ∧ s = 0) ∨ (kind = 3 ∧ (s = 1 ∨ s = -1)) ∨ (kind = 4 ∧ (s = 1 ∨ s = -1)) ∨ (kind = 5 ∧ (s = 0 ∨ s = 1 ∨ s = 2 ∨ s = 3))
theorem sOK_start {kind : Int} (h : kind = 0 ∨ kind = 1 ∨ kind = 2 ∨ kind = 3 ∨ kind = 4 ∨ kind = 5) : sOK kind (lvStart kind) := by
  rcases h with rfl | rfl | rfl | rfl | rfl | rfl <;> simp [sOK, lvStart]
theorem sOK_next {kind s : Int} (h : sOK kind s) (b : Bool) : sOK kind (lvNext kind s b) := by
  rcases h with ⟨rfl, rfl⟩ | ⟨rfl, rfl | rfl⟩ | ⟨rfl, rfl⟩ | ⟨rfl, rfl | rfl⟩ | ⟨rfl, rfl | rfl⟩ | ⟨rfl, rfl | rfl | rfl | rfl⟩ <;> cases b <;> simp [sOK, lvNext]
theorem lvOut_len {kind s : Int} (h : sOK kind s) (b : Bool) : (lvOut kind s b).length = if kind = 2 ∨ kind = 3 then 2 else 1 := by
  rcases h with ⟨rfl, rfl⟩ | ⟨rfl, rfl | rfl⟩ | ⟨rfl, rfl⟩ | ⟨rfl, rfl | rfl⟩ | ⟨rfl, rfl | rfl⟩ | ⟨rfl, rfl | rfl | rfl | rfl⟩ <;> cases b <;> rfl
theorem lvOut_in {kind s : Int} (h : sOK kind s) (b : Bool) : ∀ x ∈ lvOut kind s b, -1 ≤ x ∧ x ≤ 1 := by
  rcases h with ⟨rfl, rfl⟩ | ⟨rfl, rfl | rfl⟩ | ⟨rfl, rfl⟩ | ⟨rfl, rfl | rfl⟩ | ⟨rfl, rfl | rfl⟩ | ⟨rfl, rfl | rfl | rfl | rfl⟩ <;> cases b <;> decide
theorem lvGo_len {kind : Int} (l : List UInt8) : ∀ {s : Int}, sOK kind s → (lvGo kind s l).length = (if kind = 2 ∨ kind = 3 then 2 else 1) * l.length := by
  induction l with
  | nil => intro s h; simp [lvGo]
  | cons c l ih =>
    intro s h
    rw [lvGo, List.length_append, lvOut_len h, ih (sOK_next h _), List.length_cons, Nat.mul_succ, Nat.add_comm]
theorem lvGo_in {kind : Int} (l : List UInt8) : ∀ {s : Int}, sOK kind s → ∀ x ∈ lvGo kind s l, -1 ≤ x ∧ x ≤ 1 := by
  induction l with
  | nil => intro s h x hx; simp [lvGo] at hx
  | cons c l ih =>
    intro s h x hx
    rw [lvGo, List.mem_append] at hx
    rcases hx with hx | hx
    · exact lvOut_in h _ x hx
    · exact ih (sOK_next h _) x hx
/-- The state of the wire, out of the state. -/
def wLevel (kind s : Int) : Int := if kind = 1 ∨ kind = 3 then s else if kind = 5 then circ s else 0
def wNext (kind s : Int) : Int := if kind = 4 then s else 1
def wFrom (kind s : Int) : Int := if kind = 5 ∧ (s = 1 ∨ s = 2) then 1 else -1

/-- The longest part of equal numbers. -/
def flatR (prev run best : Int) : List Int → Int
  | [] => best
  | x :: r => flatR x (if x = prev then run + 1 else 1) (max best (if x = prev then run + 1 else 1)) r
def flatN : List Int → Int
  | [] => 0
  | x :: r => flatR x 1 1 r
theorem flatR_ge (l : List Int) : ∀ (prev run best : Int), best ≤ flatR prev run best l := by
  induction l with
  | nil => intro prev run best; exact Int.le_refl _
  | cons x l ih =>
    intro prev run best
    have := ih x (if x = prev then run + 1 else 1) (max best (if x = prev then run + 1 else 1))
    unfold flatR
    omega
theorem flatR_le (l : List Int) : ∀ (prev run best : Int), 1 ≤ run → flatR prev run best l ≤ max best (run + l.length) := by
  induction l with
  | nil => intro prev run best h; unfold flatR; omega
  | cons x l ih =>
    intro prev run best h
    unfold flatR
    rw [List.length_cons]
    split
    · have := ih x (run + 1) (max best (run + 1)) (by omega); omega
    · have := ih x 1 (max best 1) (by omega); omega
theorem flatN_le (l : List Int) : flatN l ≤ l.length := by
  cases l with
  | nil => exact Int.le_refl _
  | cons x l =>
    have := flatR_le l x 1 1 (by omega)
    simp only [flatN]
    rw [List.length_cons]; omega
theorem flatN_ge (l : List Int) : 0 ≤ flatN l := by
  cases l with
  | nil => exact Int.le_refl _
  | cons x l => have := flatR_ge l x 1 1; simp only [flatN]; omega
theorem flatR_const (x : Int) (n : Nat) : ∀ (run best : Int), run ≤ best → flatR x run best (List.replicate n x) = max best (run + n) := by
  induction n with
  | zero => intro run best h; unfold flatR; simp; omega
  | succ n ih =>
    intro run best h
    rw [List.replicate_succ]
    unfold flatR
    rw [if_pos rfl, ih (run + 1) _ (by omega)]
    omega
theorem flatN_const (x : Int) (n : Nat) : flatN (List.replicate n x) = n := by
  cases n with
  | zero => rfl
  | succ n =>
    rw [List.replicate_succ]
    simp only [flatN]
    rw [flatR_const x n 1 1 (by omega)]
    omega
/-- Pairs of opposite numbers. -/
inductive PairL : List Int → Prop
  | nil : PairL []
  | cons (x : Int) (r : List Int) (hx : x ≠ 0) (h : PairL r) : PairL (x :: -x :: r)
theorem flatR_pair {l : List Int} (h : PairL l) : ∀ (prev best : Int), best ≤ 2 → flatR prev 1 best l ≤ 2 := by
  induction h with
  | nil => intro prev best hb; exact hb
  | cons x r hx h ih =>
    intro prev best hb
    have hne : ¬ (-x = x) := by omega
    simp only [flatR, hne, if_false]
    exact ih _ _ (by split <;> omega)
theorem flatN_pair {l : List Int} (h : PairL l) : flatN l ≤ 2 := by
  cases h with
  | nil => decide
  | cons x r hx h =>
    have hne : ¬ (-x = x) := by omega
    simp only [flatN, flatR, hne, if_false]
    exact flatR_pair h _ _ (by omega)
theorem lvGo_pair {kind : Int} (hk : kind = 2 ∨ kind = 3) (l : List UInt8) : ∀ {s : Int}, sOK kind s → PairL (lvGo kind s l) := by
  induction l with
  | nil => intro s h; exact .nil
  | cons c l ih =>
    intro s h
    have hn := sOK_next h (c == 49)
    have step : ∃ x, x ≠ 0 ∧ lvOut kind s (c == 49) = [x, -x] := by
      generalize (c == 49) = b
      rcases hk with rfl | rfl <;> rcases h with ⟨h, rfl⟩ | ⟨h, rfl | rfl⟩ | ⟨h, rfl⟩ | ⟨h, rfl | rfl⟩ | ⟨h, rfl | rfl⟩ | ⟨h, rfl | rfl | rfl | rfl⟩ <;> first | exact absurd h (by decide) | (cases b <;> first | exact ⟨1, by decide, by decide⟩ | exact ⟨-1, by decide, by decide⟩)
    obtain ⟨x, hx, e⟩ := step
    rw [lvGo, e]
    exact .cons x _ hx (ih hn)
theorem lvGo_zeros {kind s : Int} (n : Nat) (h : ¬ (kind = 2 ∨ kind = 3)) : ∃ v, lvGo kind s (List.replicate n 48) = List.replicate n v := by
  have hn : lvNext kind s false = s := by unfold lvNext; rw [if_neg (by decide)]
  have ho : ∃ v, lvOut kind s false = [v] := by
    unfold lvOut
    by_cases h0 : kind = 0
    · exact ⟨-1, by simp [h0]⟩
    · by_cases h1 : kind = 1
      · exact ⟨s, by simp [h1]⟩
      · by_cases h4 : kind = 4
        · exact ⟨0, by simp [h4]⟩
        · exact ⟨circ s, by rw [if_neg h0, if_neg h1, if_neg (fun e => h (.inl e)), if_neg (fun e => h (.inr e)), if_neg h4, if_neg (by decide)]⟩
  obtain ⟨v, hv⟩ := ho
  refine ⟨v, ?_⟩
  induction n with
  | zero => rfl
  | succ n ih =>
    rw [List.replicate_succ, lvGo]
    have e : ((48 : UInt8) == 49) = false := by decide
    rw [e, hv, hn, ih]; rfl

end Go.Proofs.YthaafdeicgbajaaDoor.Levels
