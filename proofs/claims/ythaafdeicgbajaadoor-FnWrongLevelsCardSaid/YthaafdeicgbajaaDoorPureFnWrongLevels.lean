/- For all bytes a level of the drawn bits that is another one makes as many bits wrong as are told, at most two, and where an error shows, no bits have the levels up to it. -/
import Derived.Test.YthaafdeicgbajaaDoorQFnWrongLevelsx7
import Derived.Test.YthaafdeicgbajaaDoorBase
import Derived.Test.YthaafdeicgbajaaDoorLevels
namespace Go.Proofs.YthaafdeicgbajaaDoor.Pure
open Go.RowKit Go.Proofs.YthaafdeicgbajaaDoor.QFnWrongLevels Go.Proofs.YthaafdeicgbajaaDoor.Base Go.Proofs.YthaafdeicgbajaaDoorW.PrintWords Go.Proofs.YthaafdeicgbajaaDoorW.PrintLast Go.Proofs.YthaafdeicgbajaaDoorW.PrintMore
open Go.Proofs.YthaafdeicgbajaaDoor.Levels
set_option linter.unusedVariables false
set_option linter.unusedSimpArgs false

/-! lvNe -/
theorem lvOut_ne {kind s : Int} (h : sOK kind s) : lvOut kind s false ≠ lvOut kind s true := by
  rcases h with ⟨rfl, rfl⟩ | ⟨rfl, rfl | rfl⟩ | ⟨rfl, rfl⟩ | ⟨rfl, rfl | rfl⟩ | ⟨rfl, rfl | rfl⟩ | ⟨rfl, rfl | rfl | rfl | rfl⟩ <;> decide

/-! matching -/
/-- How many numbers two lists have in common at the beginning. -/
def matN : List Int → List Int → Nat
  | a :: r, b :: q => if a = b then matN r q + 1 else 0
  | _, _ => 0
theorem matN_nil (l : List Int) : matN l [] = 0 := by cases l <;> rfl
theorem matN_same (l : List Int) : matN l l = l.length := by
  induction l with
  | nil => rfl
  | cons a l ih => simp [matN, ih]
theorem matN_le : ∀ (l q : List Int), matN l q ≤ l.length ∧ matN l q ≤ q.length := by
  intro l
  induction l with
  | nil => intro q; cases q <;> simp [matN]
  | cons a l ih =>
    intro q
    cases q with
    | nil => simp [matN]
    | cons b q =>
      have := ih q
      simp only [matN, List.length_cons]
      split <;> omega
theorem matN_full : ∀ (l q : List Int), l.length = q.length → matN l q = q.length → l = q := by
  intro l
  induction l with
  | nil => intro q h _; cases q with
    | nil => rfl
    | cons b q => simp at h
  | cons a l ih =>
    intro q h h2
    cases q with
    | nil => simp at h
    | cons b q =>
      simp only [List.length_cons] at h h2
      simp only [matN] at h2
      by_cases e : a = b
      · rw [if_pos e] at h2
        rw [e, ih q (by omega) (by omega)]
      · rw [if_neg e] at h2; omega
theorem matching_l0 (a b : List Int) (ha : a.length ≤ 1000) : ∀ (d n : Nat), n + d = a.length → Ev (fun k => impl_matching.l0 k a b (n : Int)) ((n + matN (a.drop n) (b.drop n) : Nat) : Int) := by
  intro d
  induction d with
  | zero =>
    intro n h
    have c1 : ¬ (n : Int) < (a.length : Int) := by omega
    have e : a.drop n = [] := List.drop_eq_nil_of_le (by omega)
    rw [e]
    apply Ev.succ
    simp only [impl_matching.l0]
    exact Ev.cond (fun h' => absurd h' c1) (fun _ => Ev.now _)
  | succ d ih =>
    intro n h
    have c1 : (n : Int) < (a.length : Int) := by omega
    have c2 : (0 : Int) ≤ (n : Int) := by omega
    have hw := w64_succ (show n < 9223372036854775807 by omega)
    by_cases hb : n < b.length
    · have c3 : (n : Int) < (b.length : Int) := by omega
      rw [drop_rd (show n < a.length by omega), drop_rd hb]
      simp only [matN]
      apply Ev.succ
      simp only [impl_matching.l0, hw]
      refine Ev.cond (fun _ => ?_) (fun h' => absurd c1 h')
      refine Ev.cond (fun _ => ?_) (fun h' => absurd c3 h')
      refine Ev.cond (fun _ => ?_) (fun h' => absurd c2 h')
      by_cases e : rd a (n : Int) = rd b (n : Int)
      · rw [if_pos e]
        refine Ev.cond (fun _ => ?_) (fun h' => absurd e h')
        have h3 := ih (n + 1) (by omega)
        have e2 : n + (matN (a.drop (n + 1)) (b.drop (n + 1)) + 1) = n + 1 + matN (a.drop (n + 1)) (b.drop (n + 1)) := by omega
        rw [e2]
        exact h3
      · rw [if_neg e]
        refine Ev.cond (fun h' => absurd h' e) (fun _ => ?_)
        exact Ev.now _
    · have c3 : ¬ (n : Int) < (b.length : Int) := by omega
      have e : b.drop n = [] := List.drop_eq_nil_of_le (by omega)
      rw [e, matN_nil]
      apply Ev.succ
      simp only [impl_matching.l0]
      refine Ev.cond (fun _ => ?_) (fun h' => absurd c1 h')
      exact Ev.cond (fun h' => absurd h' c3) (fun _ => Ev.now _)
theorem matching_ev (a b : List Int) (ha : a.length ≤ 1000) : Ev (fun k => impl_matching.f k a b) ((matN a b : Nat) : Int) := by
  have h := matching_l0 a b ha a.length 0 (by omega)
  rw [Nat.zero_add] at h
  exact h

/-! within -/
theorem within_eq (a b c : Int) : impl_within.f a b c = some (decide (b ≤ a ∧ a ≤ c)) := by
  unfold impl_within.f
  by_cases h : b ≤ a
  · simp [h, ge_iff_le]
  · simp [h, ge_iff_le]

/-! l00In -/

/-! lineKinds -/
def kindB (kind : Int) : Bool := decide (0 ≤ kind ∧ kind ≤ 5)
def pairB (kind : Int) : Bool := decide (kind = 2 ∨ kind = 3)
def perN (kind : Int) : Int := if kind = 2 ∨ kind = 3 then 2 else 1
theorem kinds_of {kind : Int} (h : kindB kind = true) : kind = 0 ∨ kind = 1 ∨ kind = 2 ∨ kind = 3 ∨ kind = 4 ∨ kind = 5 := by
  have h := of_decide_eq_true h
  omega
theorem isLine_eq (kind : Int) : impl_isLine.f kind = some (kindB kind) := by
  unfold impl_isLine.f kindB
  rw [within_eq]; rfl
theorem isPaired_eq (kind : Int) : impl_isPaired.f kind = some (pairB kind) := by
  unfold impl_isPaired.f pairB
  by_cases h : kind = 2
  · simp [h]
  · by_cases h3 : kind = 3
    · simp [h3]
    · simp [h, h3]

/-! lineBefore -/
def beforeN (kind : Int) : Int := if kind = 1 ∨ kind = 3 then -1 else 0

/-! lineMore -/
theorem perBit_eq (kind : Int) : impl_perBit.f kind = some (perN kind) := by
  unfold impl_perBit.f perN
  rw [isPaired_eq]
  unfold pairB
  by_cases h : kind = 2 ∨ kind = 3
  · simp [h]
  · simp [h]
theorem newWire_eq (kind : Int) : impl_newWire.f kind = some (kind, beforeN kind, 1, -1) := by
  unfold impl_newWire.f beforeN
  by_cases h : kind = 1
  · simp [h]
  · by_cases h3 : kind = 3
    · simp [h3]
    · simp [h, h3]
theorem bitOf_eq (b : Bool) : impl_bitOf.f b = some (bitStr b) := by cases b <;> rfl

/-! levelsImpl -/
theorem send_eq {kind s : Int} (h : sOK kind s) (b : Bool) : impl_wire_send.f kind (wLevel kind s) (wNext kind s) (wFrom kind s) b = some (lvOut kind s b, kind, wLevel kind (lvNext kind s b), wNext kind (lvNext kind s b), wFrom kind (lvNext kind s b)) := by
  rcases h with ⟨rfl, rfl⟩ | ⟨rfl, rfl | rfl⟩ | ⟨rfl, rfl⟩ | ⟨rfl, rfl | rfl⟩ | ⟨rfl, rfl | rfl⟩ | ⟨rfl, rfl | rfl | rfl | rfl⟩ <;> cases b <;> decide +kernel
theorem levelsOf_l0 (kind : Int) (t : ByteArray) (ht : t.size ≤ 1048576) : ∀ (d n : Nat) (c : List Int) (s : Int), sOK kind s → c.length ≤ 2 * n → n + d = t.size →
    Ev (fun k => impl_levelsOf.l0 k t c (t.size : Int) (n : Int) kind (wLevel kind s) (wNext kind s) (wFrom kind s)) (c ++ lvGo kind s (t.data.toList.drop n)) := by
  intro d
  induction d with
  | zero =>
    intro n c s hs hc h
    have c1 : ¬ ((n : Int) < (t.size : Int)) := by omega
    have c2 : t.data.toList.drop n = [] := List.drop_eq_nil_of_le (by rw [size_data]; omega)
    apply Ev.succ
    simp only [impl_levelsOf.l0]
    rw [c2, lvGo, List.append_nil]
    exact Ev.cond (fun h' => absurd h' c1) (fun _ => Ev.now _)
  | succ d ih =>
    intro n c s hs hc h
    have hl : n < t.size := by omega
    have c1 : (n : Int) < (t.size : Int) := by omega
    have c2 : (0 : Int) ≤ (n : Int) := by omega
    have hbt : (bt t (n : Int) == 49) = (t[n] == 49) := by
      rw [bt_nat t n hl, Bool.eq_iff_iff, beq_iff_eq, beq_iff_eq]
      constructor
      · intro h'; exact UInt8.toNat_inj.1 (by show (t[n]).toNat = 49; omega)
      · intro h'; rw [h']; rfl
    have hlen := lvOut_len hs (t[n] == 49)
    have hlen2 : (lvOut kind s (t[n] == 49)).length ≤ 2 := by rw [hlen]; split <;> omega
    have h3 := ih (n + 1) (c ++ lvOut kind s (t[n] == 49)) (lvNext kind s (t[n] == 49)) (sOK_next hs _) (by rw [List.length_append]; omega) (by omega)
    rw [List.append_assoc] at h3
    rw [drop_data hl, lvGo]
    apply Ev.succ
    simp only [impl_levelsOf.l0]
    refine Ev.cond (fun _ => ?_) (fun h' => absurd c1 h')
    refine Ev.cond (fun _ => ?_) (fun h' => absurd c2 h')
    refine Ev.cond (fun _ => ?_) (fun h' => absurd c1 h')
    rw [hbt]
    refine Ev.bind (Ev.const (send_eq hs _)) ?_
    refine Ev.cond (fun _ => ?_) (fun h' => absurd (by show c.length + (lvOut kind s (t[n] == 49)).length < 17592186044416; omega) h')
    rw [w64_succ (show n < 9223372036854775807 by omega)]
    exact h3
theorem levelsOf_ev (kind : Int) (hk : kindB kind = true) (t : ByteArray) (ht : t.size ≤ 1048576) : Ev (fun k => impl_levelsOf.f k kind t) (levelsN kind t.data.toList) := by
  unfold impl_levelsOf.f
  have hk' := kinds_of hk
  have e : beforeN kind = wLevel kind (lvStart kind) ∧ (1 : Int) = wNext kind (lvStart kind) ∧ (-1 : Int) = wFrom kind (lvStart kind) := by
    rcases hk' with rfl | rfl | rfl | rfl | rfl | rfl <;> decide
  refine Ev.bind (Ev.const (newWire_eq kind)) ?_
  have h := levelsOf_l0 kind t ht t.size 0 [] (lvStart kind) (sOK_start hk') (by simp) (by omega)
  rw [← e.1, ← e.2.1, ← e.2.2] at h
  exact h

/-! areIn -/
theorem areIn_l0 (lo hi : Int) (xs : List Int) (hn : xs.length ≤ 1099511627776) : ∀ d n, n + d = xs.length → Ev (fun k => impl_areIn.l0 k lo hi xs (xs.length : Int) (n : Int)) (inAll lo hi (xs.drop n)) := by
  intro d
  induction d with
  | zero =>
    intro n h
    apply Ev.succ
    have h1 : ¬ ((n : Int) < (xs.length : Int)) := by omega
    have h2 : xs.drop n = [] := List.drop_eq_nil_of_le (by omega)
    simp only [impl_areIn.l0, h1, if_false, h2]
    exact Ev.now true
  | succ d ih =>
    intro n h
    apply Ev.succ
    have h1 : (n : Int) < (xs.length : Int) := by omega
    have h2 : (0 : Int) ≤ (n : Int) := by omega
    have h3 := ih (n + 1) (by omega)
    rw [drop_rd (show n < xs.length by omega), inAll_cons]
    simp only [impl_areIn.l0, h1, h2, if_true, within_eq, Option.bind_some, w64_succ (show n < 9223372036854775807 by omega)]
    by_cases hc : lo ≤ rd xs (n : Int) ∧ rd xs (n : Int) ≤ hi
    · simp only [hc, decide_true, if_true, Bool.true_and, and_self]; exact h3
    · simp only [hc, decide_false, Bool.false_and, Bool.false_eq_true, if_false]; exact Ev.now false
theorem areIn_ev (lo hi : Int) (xs : List Int) (hn : xs.length ≤ 1099511627776) : Ev (fun k => impl_areIn.f k xs lo hi) (inAll lo hi xs) := by
  have h := areIn_l0 lo hi xs hn xs.length 0 (by omega)
  exact h

/-! areLevels -/
theorem areLevels_ev (xs : List Int) (hn : xs.length ≤ 1099511627776) : Ev (fun k => impl_areLevels.f k xs) (levelsB xs) := by
  unfold impl_areLevels.f levelsB
  by_cases h : xs.length ≤ 800
  · have h1 : (xs.length : Int) ≤ 800 := by omega
    simp only [h1, if_true, h, decide_true, Bool.and_true]
    exact Ev.bind (areIn_ev (-1) 1 xs hn) (Ev.now _)
  · have h1 : ¬ (xs.length : Int) ≤ 800 := by omega
    simp only [h1, if_false, h, decide_false, Bool.and_false]
    exact Ev.now _

/-! mxmn -/
theorem mx_eq (a b : Int) : mx a b = max a b := by unfold mx; split <;> omega
theorem mn_eq (a b : Int) : mn a b = min a b := by unfold mn; split <;> omega

/-! FirstWrongI -/
/-- One step of the program's search for the first wrong level, out of a state of the wire. -/
theorem FWi_step (kind : Int) (Q : Nat) (hQ : perN kind = (Q : Int)) (hQ12 : Q = 1 ∨ Q = 2) (hQ2 : (if kind = 2 ∨ kind = 3 then 2 else 1) = Q) (xs : List Int) (hx : xs.length ≤ 1000)
    (n : Nat) (hn : n < xs.length) (s : Int) (hs : sOK kind s) (rest : List Int) (hrest : (xs.take (min (n + Q) xs.length)).drop n = rest) (r : Int × Bool)
    (bad : max (matN (lvOut kind s false) rest) (matN (lvOut kind s true) rest) < rest.length → r = (((n + max (matN (lvOut kind s false) rest) (matN (lvOut kind s true) rest) : Nat) : Int), true))
    (one : ¬ max (matN (lvOut kind s false) rest) (matN (lvOut kind s true) rest) < rest.length → matN (lvOut kind s false) rest < matN (lvOut kind s true) rest →
      Ev (fun k => impl_FirstWrong.l0 k kind xs ((n + Q : Nat) : Int) kind (wLevel kind (lvNext kind s true)) (wNext kind (lvNext kind s true)) (wFrom kind (lvNext kind s true))) r)
    (zero : ¬ max (matN (lvOut kind s false) rest) (matN (lvOut kind s true) rest) < rest.length → ¬ matN (lvOut kind s false) rest < matN (lvOut kind s true) rest →
      Ev (fun k => impl_FirstWrong.l0 k kind xs ((n + Q : Nat) : Int) kind (wLevel kind (lvNext kind s false)) (wNext kind (lvNext kind s false)) (wFrom kind (lvNext kind s false))) r) :
    Ev (fun k => impl_FirstWrong.l0 k kind xs (n : Int) kind (wLevel kind s) (wNext kind s) (wFrom kind s)) r := by
  have hlen : ∀ b, (lvOut kind s b).length = Q := fun b => by rw [lvOut_len hs b]; exact hQ2
  have c1 : (n : Int) < (xs.length : Int) := by omega
  have c2 : (0 : Int) ≤ (n : Int) := by omega
  have hw : wrap64 ((n : Int) + (Q : Int)) = ((n + Q : Nat) : Int) := w64_add _ _ (by omega)
  have hmn : mn ((n + Q : Nat) : Int) (xs.length : Int) = ((min (n + Q) xs.length : Nat) : Int) := by rw [mn_eq]; omega
  have c3 : (n : Int) ≤ ((min (n + Q) xs.length : Nat) : Int) := by omega
  have c4 : ((min (n + Q) xs.length : Nat) : Int) ≤ (xs.length : Int) := by omega
  have m1 := matching_ev (lvOut kind s false) rest (by rw [hlen]; omega)
  have m2 := matching_ev (lvOut kind s true) rest (by rw [hlen]; omega)
  have p1 := (matN_le (lvOut kind s false) rest).1
  have p2 := (matN_le (lvOut kind s true) rest).1
  rw [hlen] at p1 p2
  apply Ev.succ
  simp only [impl_FirstWrong.l0]
  refine Ev.cond (fun _ => ?_) (fun h' => absurd c1 h')
  refine Ev.bind (Ev.const (perBit_eq kind)) ?_
  rw [hQ, hw, hmn]
  refine Ev.cond (fun _ => ?_) (fun h' => absurd c2 h')
  refine Ev.cond (fun _ => ?_) (fun h' => absurd c3 h')
  refine Ev.cond (fun _ => ?_) (fun h' => absurd c4 h')
  refine Ev.bind (Ev.const (send_eq hs false)) ?_
  refine Ev.bind (Ev.const (send_eq hs true)) ?_
  rw [Int.toNat_natCast, Int.toNat_natCast, hrest]
  refine Ev.bind m1 (Ev.bind m2 ?_)
  rw [mx_eq]
  generalize matN (lvOut kind s false) rest = a at *
  generalize matN (lvOut kind s true) rest = b at *
  by_cases hb : max a b < rest.length
  · refine Ev.cond (fun _ => ?_) (fun h' => absurd (by omega) h')
    have e : wrap64 ((n : Int) + max (a : Int) (b : Int)) = ((n + max a b : Nat) : Int) := by rw [w64 (by omega) (by omega)]; omega
    rw [bad hb, e]
    exact Ev.now _
  · refine Ev.cond (fun h' => absurd h' (by omega)) (fun _ => ?_)
    by_cases hab : a < b
    · refine Ev.cond (fun _ => ?_) (fun h' => absurd (by omega) h')
      refine Ev.bind (Ev.const (perBit_eq kind)) ?_
      rw [hQ, hw]
      exact one hb hab
    · refine Ev.cond (fun h' => absurd h' (by omega)) (fun _ => ?_)
      refine Ev.bind (Ev.const (perBit_eq kind)) ?_
      rw [hQ, hw]
      exact zero hb hab
theorem FWi_end (kind : Int) (xs : List Int) (n : Nat) (hn : xs.length ≤ n) (a b c d : Int) : Ev (fun k => impl_FirstWrong.l0 k kind xs (n : Int) a b c d) (0, false) := by
  have c1 : ¬ (n : Int) < (xs.length : Int) := by omega
  apply Ev.succ
  simp only [impl_FirstWrong.l0]
  exact Ev.cond (fun h' => absurd h' c1) (fun _ => Ev.now _)

/-! FirstWrongS -/
theorem seg1 {xs : List Int} {n : Nat} (h : n < xs.length) : (xs.take (min (n + 1) xs.length)).drop n = [rd xs (n : Int)] := by
  rw [Nat.min_eq_left (by omega), List.drop_take, Nat.add_sub_cancel_left, drop_rd h]
  rfl
/-- Which bit a level tells, for kinds with one level a bit. -/
def stepS (kind s x : Int) : Option Bool := if lvOut kind s true = [x] then some true else if lvOut kind s false = [x] then some false else none
theorem mat1 (a x : Int) : matN [a] [x] = if a = x then 1 else 0 := by
  by_cases h : a = x
  · simp [matN, h]
  · simp [matN, h]
theorem FWi_S (kind : Int) (hk : kindB kind = true) (hp : ¬ (kind = 2 ∨ kind = 3)) (xs : List Int) (hx : xs.length ≤ 1000) (n : Nat) (hn : n < xs.length) (s : Int) (hs : sOK kind s) (r : Int × Bool)
    (bad : stepS kind s (rd xs (n : Int)) = none → r = ((n : Int), true))
    (next : ∀ b, stepS kind s (rd xs (n : Int)) = some b → Ev (fun k => impl_FirstWrong.l0 k kind xs ((n + 1 : Nat) : Int) kind (wLevel kind (lvNext kind s b)) (wNext kind (lvNext kind s b)) (wFrom kind (lvNext kind s b))) r) :
    Ev (fun k => impl_FirstWrong.l0 k kind xs (n : Int) kind (wLevel kind s) (wNext kind s) (wFrom kind s)) r := by
  have hQ : perN kind = ((1 : Nat) : Int) := by unfold perN; rw [if_neg hp]; rfl
  have hQ2 : (if kind = 2 ∨ kind = 3 then 2 else 1) = 1 := by rw [if_neg hp]
  have hlen : ∀ b, (lvOut kind s b).length = 1 := fun b => by rw [lvOut_len hs b]; exact hQ2
  obtain ⟨z, hz⟩ := List.length_eq_one_iff.1 (hlen false)
  obtain ⟨o, ho⟩ := List.length_eq_one_iff.1 (hlen true)
  have hne : z ≠ o := by
    intro e
    have h := lvOut_ne hs
    rw [hz, ho, e] at h
    exact h rfl
  have hseg := seg1 hn
  unfold stepS at bad next
  rw [hz, ho] at bad next
  generalize rd xs (n : Int) = x at bad next hseg
  have e1 : ([o] = [x]) ↔ o = x := by simp
  have e2 : ([z] = [x]) ↔ z = x := by simp
  simp only [e1, e2] at bad next
  refine FWi_step kind 1 hQ (.inl rfl) hQ2 xs hx n hn s hs [x] hseg r ?_ ?_ ?_
  · rw [hz, ho, mat1, mat1]
    intro h
    by_cases h1 : o = x
    · rw [if_pos h1] at h
      simp only [List.length_singleton] at h
      omega
    · by_cases h2 : z = x
      · rw [if_pos h2] at h
        simp only [List.length_singleton] at h
        omega
      · rw [if_neg h1, if_neg h2] at bad ⊢
        exact bad rfl
  · rw [hz, ho, mat1, mat1]
    intro _ h
    by_cases h1 : o = x
    · exact next true (by rw [if_pos h1])
    · rw [if_neg h1] at h
      omega
  · rw [hz, ho, mat1, mat1]
    intro h h3
    by_cases h1 : o = x
    · rw [if_pos h1, if_neg (fun e => hne (by rw [e, h1]))] at h3
      omega
    · by_cases h2 : z = x
      · exact next false (by rw [if_neg h1, if_pos h2])
      · rw [if_neg h1, if_neg h2] at h
        simp only [List.length_singleton] at h
        omega

/-! FirstWrongM -/
/-- The first wrong level, by kinds with one level a bit and by kinds with two. -/
def fwS (kind s : Int) : List Int → Option Nat
  | [] => none
  | x :: r => match stepS kind s x with
    | none => some 0
    | some b => (fwS kind (lvNext kind s b) r).map (· + 1)
def fwP : List Int → Option Nat
  | x :: y :: r => if x = 0 then some 0 else if y ≠ -x then some 1 else (fwP r).map (· + 2)
  | [x] => if x = 0 then some 0 else none
  | [] => none
def fwN (kind : Int) (xs : List Int) : Option Nat := if kind = 2 ∨ kind = 3 then fwP xs else fwS kind (lvStart kind) xs
def fwR (n : Nat) : Option Nat → Int × Bool
  | none => (0, false)
  | some a => (((n + a : Nat) : Int), true)
theorem fwR_map (n c : Nat) (o : Option Nat) : fwR n (o.map (· + c)) = fwR (n + c) o := by
  cases o with
  | none => rfl
  | some a => simp only [Option.map_some, fwR]; rw [show n + (a + c) = n + c + a by omega]
theorem fwS_ev {kind : Int} (hp : ¬ (kind = 2 ∨ kind = 3)) (hkb : kindB kind = true) {xs : List Int} (hl : xs.length ≤ 1000) :
    ∀ (d n : Nat) (s : Int), n + d = xs.length → sOK kind s →
      Ev (fun k => impl_FirstWrong.l0 k kind xs (n : Int) kind (wLevel kind s) (wNext kind s) (wFrom kind s)) (fwR n (fwS kind s (xs.drop n))) := by
  intro d
  induction d with
  | zero =>
    intro n s h hs
    rw [List.drop_eq_nil_of_le (by omega)]
    exact FWi_end kind xs n (by omega) _ _ _ _
  | succ d ih =>
    intro n s h hs
    have hn : n < xs.length := by omega
    rw [drop_rd hn]
    refine FWi_S kind hkb hp xs hl n hn s hs _ (fun h => ?_) (fun b hb => ?_)
    · simp only [fwS, h, fwR, Nat.add_zero]
    · have h3 := ih (n + 1) (lvNext kind s b) (by omega) (sOK_next hs b)
      simp only [fwS, hb]
      rw [fwR_map]
      exact h3
theorem lvOut_two {kind s : Int} (hk : kind = 2 ∨ kind = 3) (hs : sOK kind s) : ∃ a : Int, (a = 1 ∨ a = -1) ∧ lvOut kind s false = [a, -a] ∧ lvOut kind s true = [-a, a] := by
  rcases hk with rfl | rfl <;> rcases hs with ⟨h, rfl⟩ | ⟨h, rfl | rfl⟩ | ⟨h, rfl⟩ | ⟨h, rfl | rfl⟩ | ⟨h, rfl | rfl⟩ | ⟨h, rfl | rfl | rfl | rfl⟩ <;> first | exact absurd h (by decide) | exact ⟨1, .inl rfl, by decide, by decide⟩ | exact ⟨-1, .inr rfl, by decide, by decide⟩
theorem mat22 (a b x y : Int) : matN [a, b] [x, y] = if a = x then (if b = y then 2 else 1) else 0 := by
  by_cases h : a = x
  · by_cases h2 : b = y
    · simp [matN, h, h2]
    · simp [matN, h, h2]
  · simp [matN, h]
theorem mat21 (a b x : Int) : matN [a, b] [x] = if a = x then 1 else 0 := by
  by_cases h : a = x
  · simp [matN, h]
  · simp [matN, h]
theorem seg2 {xs : List Int} {n : Nat} (h : n + 1 < xs.length) : (xs.take (min (n + 2) xs.length)).drop n = [rd xs (n : Int), rd xs ((n + 1 : Nat) : Int)] := by
  have e : n + 2 - n = 2 := by omega
  rw [Nat.min_eq_left (show n + 2 ≤ xs.length from h), List.drop_take, e, drop_rd (show n < xs.length from Nat.lt_of_succ_lt h), drop_rd h]
  rfl
theorem seg21 {xs : List Int} {n : Nat} (h : n + 1 = xs.length) : (xs.take (min (n + 2) xs.length)).drop n = [rd xs (n : Int)] := by
  have e : n + 1 - n = 1 := by omega
  have e2 : min (n + 2) xs.length = n + 1 := by omega
  rw [e2, List.drop_take, e, drop_rd (show n < xs.length by omega)]
  rfl
theorem fwP_ev {kind : Int} (hk : kind = 2 ∨ kind = 3) {xs : List Int} (hl : xs.length ≤ 1000) (hx : ∀ i : Nat, i < xs.length → -1 ≤ rd xs (i : Int) ∧ rd xs (i : Int) ≤ 1) :
    ∀ (d n : Nat) (s : Int), xs.length ≤ n + 2 * d → sOK kind s →
      Ev (fun k => impl_FirstWrong.l0 k kind xs (n : Int) kind (wLevel kind s) (wNext kind s) (wFrom kind s)) (fwR n (fwP (xs.drop n))) := by
  have hQ : perN kind = ((2 : Nat) : Int) := by unfold perN; rw [if_pos hk]; rfl
  have hQ2 : (if kind = 2 ∨ kind = 3 then 2 else 1) = 2 := by rw [if_pos hk]
  intro d
  induction d with
  | zero =>
    intro n s h hs
    rw [List.drop_eq_nil_of_le (by omega)]
    exact FWi_end kind xs n (by omega) _ _ _ _
  | succ d ih =>
    intro n s h hs
    by_cases hn : n < xs.length
    · have hxn := hx n hn
      obtain ⟨a, ha, ea, eb⟩ := lvOut_two hk hs
      have st := FWi_step kind 2 hQ (.inr rfl) hQ2 xs hl n hn s hs
      rw [ea, eb] at st
      by_cases hn1 : n + 1 < xs.length
      · have hyn := hx (n + 1) hn1
        have hsg := seg2 hn1
        have hdr : xs.drop n = rd xs (n : Int) :: rd xs ((n + 1 : Nat) : Int) :: xs.drop (n + 2) := by rw [drop_rd hn, drop_rd hn1]
        have ih1 := ih (n + 2) (lvNext kind s false) (by omega) (sOK_next hs _)
        have ih2 := ih (n + 2) (lvNext kind s true) (by omega) (sOK_next hs _)
        rw [hdr]
        generalize rd xs (n : Int) = x at *
        generalize rd xs ((n + 1 : Nat) : Int) = y at *
        generalize xs.drop (n + 2) = R at *
        simp only [fwP]
        by_cases h0 : x = 0
        · have e1 : matN [a, -a] [x, y] = 0 := by rw [mat22, if_neg (by omega)]
          have e2 : matN [-a, a] [x, y] = 0 := by rw [mat22, if_neg (by omega)]
          rw [if_pos h0]
          refine st _ hsg _ ?_ ?_ ?_
          · rw [e1, e2]; intro _; rfl
          · rw [e1, e2]; intro h'; exact absurd (by simp) h'
          · rw [e1, e2]; intro h'; exact absurd (by simp) h'
        · rw [if_neg h0]
          by_cases hy : y = -x
          · rw [if_neg (fun h' => h' hy), fwR_map]
            by_cases hxa : x = a
            · have e1 : matN [a, -a] [x, y] = 2 := by rw [mat22, if_pos hxa.symm, if_pos (by omega)]
              have e2 : matN [-a, a] [x, y] = 0 := by rw [mat22, if_neg (by omega)]
              refine st _ hsg _ ?_ ?_ ?_
              · rw [e1, e2]; intro h'; exact absurd h' (by simp)
              · rw [e1, e2]; intro _ h'; exact absurd h' (by simp)
              · intro _ _; exact ih1
            · have e1 : matN [a, -a] [x, y] = 0 := by rw [mat22, if_neg (by omega)]
              have e2 : matN [-a, a] [x, y] = 2 := by rw [mat22, if_pos (by omega), if_pos (by omega)]
              refine st _ hsg _ ?_ ?_ ?_
              · rw [e1, e2]; intro h'; exact absurd h' (by simp)
              · intro _ _; exact ih2
              · rw [e1, e2]; intro _ h'; exact absurd (by simp) h'
          · rw [if_pos hy]
            have e3 : max (matN [a, -a] [x, y]) (matN [-a, a] [x, y]) = 1 := by
              by_cases hxa : x = a
              · have e1 : matN [a, -a] [x, y] = 1 := by rw [mat22, if_pos hxa.symm, if_neg (by omega)]
                have e2 : matN [-a, a] [x, y] = 0 := by rw [mat22, if_neg (by omega)]
                rw [e1, e2]; rfl
              · have e1 : matN [a, -a] [x, y] = 0 := by rw [mat22, if_neg (by omega)]
                have e2 : matN [-a, a] [x, y] = 1 := by rw [mat22, if_pos (by omega), if_neg (by omega)]
                rw [e1, e2]; rfl
            refine st _ hsg _ ?_ ?_ ?_
            · rw [e3]; intro _; rfl
            · rw [e3]; intro h'; exact absurd (by simp) h'
            · rw [e3]; intro h'; exact absurd (by simp) h'
      · have hn2 : n + 1 = xs.length := by omega
        have hsg := seg21 hn2
        have hdr : xs.drop n = [rd xs (n : Int)] := by rw [drop_rd hn, List.drop_eq_nil_of_le (by omega)]
        rw [hdr]
        generalize rd xs (n : Int) = x at *
        simp only [fwP]
        by_cases h0 : x = 0
        · have e1 : matN [a, -a] [x] = 0 := by rw [mat21, if_neg (by omega)]
          have e2 : matN [-a, a] [x] = 0 := by rw [mat21, if_neg (by omega)]
          rw [if_pos h0]
          refine st _ hsg _ ?_ ?_ ?_
          · rw [e1, e2]; intro _; rfl
          · rw [e1, e2]; intro h'; exact absurd (by simp) h'
          · rw [e1, e2]; intro h'; exact absurd (by simp) h'
        · rw [if_neg h0]
          have e3 : max (matN [a, -a] [x]) (matN [-a, a] [x]) = 1 := by
            by_cases hxa : x = a
            · have e1 : matN [a, -a] [x] = 1 := by rw [mat21, if_pos hxa.symm]
              have e2 : matN [-a, a] [x] = 0 := by rw [mat21, if_neg (by omega)]
              rw [e1, e2]; rfl
            · have e1 : matN [a, -a] [x] = 0 := by rw [mat21, if_neg (by omega)]
              have e2 : matN [-a, a] [x] = 1 := by rw [mat21, if_pos (by omega)]
              rw [e1, e2]; rfl
          refine st _ hsg _ ?_ ?_ ?_
          · rw [e3]; intro h'; exact absurd h' (by simp)
          · intro _ _; exact FWi_end kind xs (n + 2) (by omega) _ _ _ _
          · intro _ _; exact FWi_end kind xs (n + 2) (by omega) _ _ _ _
    · rw [List.drop_eq_nil_of_le (by omega)]
      exact FWi_end kind xs n (by omega) _ _ _ _
theorem fw_impl {kind : Int} (hk : kindB kind = true) {xs : List Int} (hx : levelsB xs = true) (hg : (kind = 2 ∨ kind = 3) ∨ xs.length ≤ 400) : Ev (fun k => impl_FirstWrong.f k kind xs) (fwR 0 (fwN kind xs)) := by
  have hx' := hx
  unfold levelsB at hx'
  rw [Bool.and_eq_true] at hx'
  have hl := of_decide_eq_true hx'.2
  have hin : ∀ i : Nat, i < xs.length → -1 ≤ rd xs (i : Int) ∧ rd xs (i : Int) ≤ 1 := fun i hi => inAll_mem hx'.1 _ (rd_mem hi)
  have hks := kinds_of hk
  have hs := sOK_start hks
  have hfw : Ev (fun k => impl_FirstWrong.l0 k kind xs 0 kind (wLevel kind (lvStart kind)) (wNext kind (lvStart kind)) (wFrom kind (lvStart kind))) (fwR 0 (fwN kind xs)) := by
    unfold fwN
    by_cases hp : kind = 2 ∨ kind = 3
    · rw [if_pos hp]
      have h := fwP_ev hp (by omega) hin xs.length 0 (lvStart kind) (by omega) hs
      rw [List.drop_zero] at h
      exact h
    · rw [if_neg hp]
      have h := fwS_ev (xs := xs) hp hk (by omega) xs.length 0 (lvStart kind) (by omega) hs
      rw [List.drop_zero] at h
      exact h
  unfold impl_FirstWrong.f
  refine Ev.bind (Ev.const (isLine_eq kind)) ?_
  refine Ev.cond (fun _ => ?_) (fun h' => absurd hk h')
  refine Ev.bind (areLevels_ev xs (by omega)) ?_
  refine Ev.cond (fun _ => ?_) (fun h' => absurd hx h')
  refine Ev.bind (Ev.const (perBit_eq kind)) ?_
  have e : decide ((xs.length : Int) > wrap64 (400 * perN kind)) = false := by
    apply decide_eq_false
    by_cases hp : kind = 2 ∨ kind = 3
    · have : perN kind = 2 := by unfold perN; rw [if_pos hp]
      rw [this, show wrap64 (400 * 2) = 800 by decide +kernel]; omega
    · have : perN kind = 1 := by unfold perN; rw [if_neg hp]
      have h4 : xs.length ≤ 400 := hg.elim (fun g => absurd g hp) id
      rw [this, show wrap64 (400 * 1) = 400 by decide +kernel]; omega
  rw [e]
  apply Ev.succ
  simp only [impl_FirstWrong.j0]
  refine Ev.cond (fun h' => absurd h' (by decide)) (fun _ => ?_)
  refine Ev.bind (Ev.const (newWire_eq kind)) ?_
  have e2 : beforeN kind = wLevel kind (lvStart kind) ∧ (1 : Int) = wNext kind (lvStart kind) ∧ (-1 : Int) = wFrom kind (lvStart kind) := by
    rcases hks with rfl | rfl | rfl | rfl | rfl | rfl <;> decide
  rw [← e2.1, ← e2.2.1, ← e2.2.2] at hfw
  exact hfw
/-- A beginning up to the first wrong level has none, and one with it has one. -/
theorem fwS_pre {kind : Int} : ∀ (xs : List Int) (s : Int) (a : Nat), fwS kind s xs = some a → a < xs.length ∧ fwS kind s (xs.take a) = none ∧ fwS kind s (xs.take (a + 1)) ≠ none := by
  intro xs
  induction xs with
  | nil => intro s a h; exact absurd h (by simp [fwS])
  | cons x r ih =>
    intro s a h
    simp only [fwS] at h
    cases hst : stepS kind s x with
    | none =>
      rw [hst] at h
      obtain rfl : 0 = a := by simpa using h
      refine ⟨by simp, by simp [fwS], ?_⟩
      simp [fwS, hst]
    | some b =>
      rw [hst] at h
      simp only at h
      cases hf : fwS kind (lvNext kind s b) r with
      | none => rw [hf] at h; exact absurd h (by simp)
      | some a' =>
        rw [hf] at h
        obtain rfl : a' + 1 = a := by simpa using h
        obtain ⟨h1, h2, h3⟩ := ih _ _ hf
        refine ⟨by simp; exact h1, ?_, ?_⟩
        · rw [List.take_succ_cons]; simp only [fwS, hst, h2]; rfl
        · rw [List.take_succ_cons]; simp only [fwS, hst]
          intro e
          cases hq : fwS kind (lvNext kind s b) (r.take (a' + 1)) with
          | none => exact h3 hq
          | some q => rw [hq] at e; exact absurd e (by simp)
theorem fwP_pre : ∀ (d : Nat) (xs : List Int) (a : Nat), xs.length ≤ 2 * d + 1 → fwP xs = some a → a < xs.length ∧ fwP (xs.take a) = none ∧ fwP (xs.take (a + 1)) ≠ none := by
  intro d
  induction d with
  | zero =>
    intro xs a hd h
    match xs, hd, h with
    | [], _, h => exact absurd h (by simp [fwP])
    | [x], _, h =>
      simp only [fwP] at h
      by_cases hx : x = 0
      · rw [if_pos hx] at h
        obtain rfl : 0 = a := by simpa using h
        exact ⟨by simp, by simp [fwP], by simp [fwP, hx]⟩
      · rw [if_neg hx] at h; exact absurd h (by simp)
  | succ d ih =>
    intro xs a hd h
    match xs, hd, h with
    | [], _, h => exact absurd h (by simp [fwP])
    | [x], _, h =>
      simp only [fwP] at h
      by_cases hx : x = 0
      · rw [if_pos hx] at h
        obtain rfl : 0 = a := by simpa using h
        exact ⟨by simp, by simp [fwP], by simp [fwP, hx]⟩
      · rw [if_neg hx] at h; exact absurd h (by simp)
    | x :: y :: r, hd, h =>
      simp only [fwP] at h
      by_cases hx : x = 0
      · rw [if_pos hx] at h
        obtain rfl : 0 = a := by simpa using h
        exact ⟨by simp, by simp [fwP], by simp [fwP, hx]⟩
      · rw [if_neg hx] at h
        by_cases hy : y = -x
        · rw [if_neg (fun h' => h' hy)] at h
          cases hf : fwP r with
          | none => rw [hf] at h; exact absurd h (by simp)
          | some a' =>
            rw [hf] at h
            obtain rfl : a' + 2 = a := by simpa using h
            obtain ⟨h1, h2, h3⟩ := ih r a' (by simp at hd; omega) hf
            refine ⟨by simp; exact h1, ?_, ?_⟩
            · rw [show a' + 2 = (a' + 1) + 1 by omega, List.take_succ_cons, List.take_succ_cons]
              simp only [fwP]
              rw [if_neg hx, if_neg (fun h' => h' hy), h2]; rfl
            · rw [show a' + 2 + 1 = (a' + 1 + 1) + 1 by omega, List.take_succ_cons, List.take_succ_cons]
              simp only [fwP]
              rw [if_neg hx, if_neg (fun h' => h' hy)]
              intro e
              cases hq : fwP (r.take (a' + 1)) with
              | none => exact h3 hq
              | some q => rw [hq] at e; exact absurd e (by simp)
        · rw [if_pos hy] at h
          obtain rfl : 1 = a := by simpa using h
          refine ⟨by simp, ?_, ?_⟩
          · show fwP [x] = none
            simp only [fwP]; rw [if_neg hx]
          · show fwP [x, y] ≠ none
            simp only [fwP]; rw [if_neg hx, if_pos hy]; simp
theorem fwN_pre {kind : Int} {xs : List Int} {a : Nat} (h : fwN kind xs = some a) : a < xs.length ∧ fwN kind (xs.take a) = none ∧ fwN kind (xs.take (a + 1)) ≠ none := by
  unfold fwN at h ⊢
  by_cases hp : kind = 2 ∨ kind = 3
  · rw [if_pos hp] at h
    rw [if_pos hp, if_pos hp]
    exact fwP_pre xs.length xs a (by omega) h
  · rw [if_neg hp] at h
    rw [if_neg hp, if_neg hp]
    exact fwS_pre xs _ a h
/-- Levels without a wrong one are those of some bits. -/
theorem fwS_bits {kind : Int} : ∀ (xs : List Int) (s : Int), fwS kind s xs = none → ∃ l : List UInt8, lvGo kind s l = xs := by
  intro xs
  induction xs with
  | nil => intro s _; exact ⟨[], rfl⟩
  | cons x r ih =>
    intro s h
    simp only [fwS] at h
    cases hst : stepS kind s x with
    | none => rw [hst] at h; exact absurd h (by simp)
    | some b =>
      rw [hst] at h
      simp only at h
      have h2 : fwS kind (lvNext kind s b) r = none := by
        cases hq : fwS kind (lvNext kind s b) r with
        | none => rfl
        | some q => rw [hq] at h; exact absurd h (by simp)
      obtain ⟨l, hl⟩ := ih _ h2
      refine ⟨(if b = true then 49 else 48) :: l, ?_⟩
      have e : ((if b = true then (49 : UInt8) else 48) == 49) = b := by cases b <;> rfl
      have eo : lvOut kind s b = [x] := by
        unfold stepS at hst
        by_cases h1 : lvOut kind s true = [x]
        · rw [if_pos h1] at hst
          obtain rfl : true = b := by simpa using hst
          exact h1
        · rw [if_neg h1] at hst
          by_cases h3 : lvOut kind s false = [x]
          · rw [if_pos h3] at hst
            obtain rfl : false = b := by simpa using hst
            exact h3
          · rw [if_neg h3] at hst; exact absurd hst (by simp)
      rw [lvGo, e, eo, hl]; rfl
theorem fwP_bits {kind : Int} (hk : kind = 2 ∨ kind = 3) : ∀ (d : Nat) (xs : List Int) (s : Int), xs.length = 2 * d → sOK kind s → (∀ x ∈ xs, -1 ≤ x ∧ x ≤ 1) → fwP xs = none → ∃ l : List UInt8, lvGo kind s l = xs := by
  intro d
  induction d with
  | zero => intro xs s hd _ _ _; exact ⟨[], by rw [List.eq_nil_of_length_eq_zero hd]; rfl⟩
  | succ d ih =>
    intro xs s hd hs hin h
    match xs, hd, hin, h with
    | x :: y :: r, hd, hin, h =>
      simp only [fwP] at h
      by_cases hx : x = 0
      · rw [if_pos hx] at h; exact absurd h (by simp)
      · rw [if_neg hx] at h
        by_cases hy : y = -x
        · rw [if_neg (fun h' => h' hy)] at h
          have h2 : fwP r = none := by
            cases hq : fwP r with
            | none => rfl
            | some q => rw [hq] at h; exact absurd h (by simp)
          obtain ⟨a, ha, ea, eb⟩ := lvOut_two hk hs
          have hxb := hin x List.mem_cons_self
          have hrl : r.length = 2 * d := by simp at hd; omega
          have hrin : ∀ z ∈ r, -1 ≤ z ∧ z ≤ 1 := fun z hz => hin z (List.mem_cons_of_mem _ (List.mem_cons_of_mem _ hz))
          by_cases hxa : x = a
          · obtain ⟨l, hl⟩ := ih r (lvNext kind s false) hrl (sOK_next hs _) hrin h2
            refine ⟨48 :: l, ?_⟩
            rw [lvGo, show ((48 : UInt8) == 49) = false by decide, ea, hl, hy, hxa]; rfl
          · obtain ⟨l, hl⟩ := ih r (lvNext kind s true) hrl (sOK_next hs _) hrin h2
            refine ⟨49 :: l, ?_⟩
            rw [lvGo, show ((49 : UInt8) == 49) = true by decide, eb, hl, hy, show x = -a by omega, Int.neg_neg]; rfl
        · rw [if_pos hy] at h; exact absurd h (by simp)

/-! readDefs -/
/-- What levels are read as: kinds with one level a bit, kinds with two. -/
def readS (kind last : Int) : List Int → List Int
  | [] => []
  | x :: r => bitN (if kind = 0 then x == 1 else if kind = 4 then x != 0 else x != last) :: readS kind x r
def readP (kind last : Int) : List Int → List Int
  | x :: y :: r => bitN (if kind = 3 then x == last else decide (x < y)) :: readP kind y r
  | _ => []
def readN (kind : Int) (xs : List Int) : List Int := if kind = 2 ∨ kind = 3 then readP kind (beforeN kind) xs else readS kind (beforeN kind) xs
theorem drop_two {xs : List Int} {n : Nat} (h : n + 1 < xs.length) : xs.drop n = rd xs (n : Int) :: rd xs ((n + 1 : Nat) : Int) :: xs.drop (n + 2) := by
  rw [drop_rd (show n < xs.length by omega), drop_rd h]

/-! readDif -/
/-- In how many places two lists differ. -/
def difL : List Int → List Int → Int
  | x :: a, y :: b => (if x = y then 0 else 1) + difL a b
  | _, _ => 0
theorem difL_self (a : List Int) : difL a a = 0 := by
  induction a with
  | nil => rfl
  | cons x a ih => simp only [difL, ih, if_true]; rfl
theorem difL_nn (a : List Int) : ∀ b, 0 ≤ difL a b := by
  induction a with
  | nil => intro b; exact Int.le_refl _
  | cons x a ih =>
    intro b
    cases b with
    | nil => exact Int.le_refl _
    | cons y b => have := ih b; simp only [difL]; split <;> omega
theorem readS_last (kind a b : Int) (xs : List Int) : difL (readS kind a xs) (readS kind b xs) ≤ 1 := by
  cases xs with
  | nil => exact (by decide : (0 : Int) ≤ 1)
  | cons x r => simp only [readS, difL, difL_self]; split <;> omega
theorem readP_last (kind a b : Int) (xs : List Int) : difL (readP kind a xs) (readP kind b xs) ≤ 1 := by
  match xs with
  | [] => exact (by decide : (0 : Int) ≤ 1)
  | [x] => exact (by decide : (0 : Int) ≤ 1)
  | x :: y :: r => simp only [readP, difL, difL_self]; split <;> omega
theorem readS_set (kind v : Int) : ∀ (xs : List Int) (p : Nat) (last : Int), difL (readS kind last (xs.set p v)) (readS kind last xs) ≤ 2 := by
  intro xs
  induction xs with
  | nil => intro p last; exact (by decide : (0 : Int) ≤ 2)
  | cons x r ih =>
    intro p last
    cases p with
    | zero =>
      rw [List.set_cons_zero]
      have := readS_last kind v x r
      simp only [readS, difL]; split <;> omega
    | succ p =>
      rw [List.set_cons_succ]
      have := ih p x
      simp only [readS, difL, if_true]; omega
theorem readP_set (kind v : Int) : ∀ (d : Nat) (xs : List Int) (p : Nat) (last : Int), xs.length ≤ 2 * d + 1 → difL (readP kind last (xs.set p v)) (readP kind last xs) ≤ 2 := by
  intro d
  induction d with
  | zero =>
    intro xs p last hd
    match xs, hd with
    | [], _ => exact (by decide : (0 : Int) ≤ 2)
    | [x], _ =>
      cases p with
      | zero => exact (by decide : (0 : Int) ≤ 2)
      | succ p => exact (by decide : (0 : Int) ≤ 2)
  | succ d ih =>
    intro xs p last hd
    match xs, hd with
    | [], _ => exact (by decide : (0 : Int) ≤ 2)
    | [x], _ =>
      cases p with
      | zero => exact (by decide : (0 : Int) ≤ 2)
      | succ p => exact (by decide : (0 : Int) ≤ 2)
    | x :: y :: r, hd =>
      match p with
      | 0 =>
        rw [List.set_cons_zero]
        simp only [readP, difL, difL_self]; split <;> omega
      | 1 =>
        rw [List.set_cons_succ, List.set_cons_zero]
        have := readP_last kind v y r
        simp only [readP, difL]; split <;> omega
      | p + 2 =>
        rw [List.set_cons_succ, List.set_cons_succ]
        have := ih r p y (by simp at hd; omega)
        simp only [readP, difL, if_true]; omega
theorem readN_set (kind v : Int) (xs : List Int) (p : Nat) : difL (readN kind (xs.set p v)) (readN kind xs) ≤ 2 := by
  unfold readN
  split
  · exact readP_set kind v xs.length xs p _ (by omega)
  · exact readS_set kind v xs p _

/-! strs -/
theorem str_size (l : List Int) : (strOfNums l).size = l.length := by
  show (strOfNums l).data.size = _
  simp [strOfNums]
theorem bt_str {xs : List Int} {k : Nat} (hk : k < xs.length) (h : 0 ≤ xs[k] ∧ xs[k] ≤ 255) : bt (strOfNums xs) (k : Int) = xs[k] := by
  have hk' : k < (strOfNums xs).size := by rw [str_size]; exact hk
  rw [bt_nat _ _ hk']
  have e : (strOfNums xs)[k]'hk' = UInt8.ofNat (xs[k]).toNat := by
    show (strOfNums xs).data[k]'_ = _
    simp [strOfNums]
  rw [e, UInt8.toNat_ofNat']
  omega
theorem all_bits_iff (s : ByteArray) : s.data.toList.all isBitB = true ↔ ∀ k : Nat, k < s.size → (bt s (k : Int) = 48 ∨ bt s (k : Int) = 49) := by
  rw [List.all_eq_true]
  constructor
  · intro h k hk
    rw [bt_nat s k hk]
    refine (isBit_iff _).1 (h _ ?_)
    rw [← data_get hk]; exact List.getElem_mem _
  · intro h b hb
    obtain ⟨k, hk, rfl⟩ := List.mem_iff_getElem.1 hb
    have hk' : k < s.size := by rw [← size_data]; exact hk
    rw [isBit_iff, data_get hk', ← bt_nat s k hk']
    exact h k hk'
theorem str_ext {s t : ByteArray} (h : s.size = t.size) (h2 : ∀ k : Nat, k < s.size → bt s (k : Int) = bt t (k : Int)) : s = t := by
  apply ByteArray.ext
  apply Array.ext
  · exact h
  · intro k h3 h4
    have e := h2 k h3
    rw [bt_nat s k h3, bt_nat t k h4] at e
    exact UInt8.toNat_inj.1 (by exact_mod_cast e)

/-! readBack -/
/-- The texts of bits. -/
def txtL (l : List UInt8) : List Int := l.map fun c => bitN (c == 49)
theorem RB_r0 (l : List UInt8) : ∀ (last s : Int), readS 0 last (lvGo 0 s l) = txtL l := by
  induction l with
  | nil => intro last s; rfl
  | cons c l ih =>
    intro last s
    have e : lvGo 0 s (c :: l) = (if (c == 49) = true then 1 else -1) :: lvGo 0 (lvNext 0 s (c == 49)) l := by
      rw [lvGo]
      generalize (c == 49) = b
      cases b <;> simp [lvOut]
    rw [e, readS, ih]
    unfold txtL
    rw [List.map_cons]
    congr 1
    generalize (c == 49) = b
    cases b <;> simp
theorem RB_r2 (l : List UInt8) : ∀ (last s : Int), readP 2 last (lvGo 2 s l) = txtL l := by
  induction l with
  | nil => intro last s; rfl
  | cons c l ih =>
    intro last s
    have e : lvGo 2 s (c :: l) = (if (c == 49) = true then -1 else 1) :: (if (c == 49) = true then 1 else -1) :: lvGo 2 (lvNext 2 s (c == 49)) l := by
      rw [lvGo]
      generalize (c == 49) = b
      cases b <;> simp [lvOut]
    rw [e, readP, ih]
    unfold txtL
    rw [List.map_cons]
    congr 1
    generalize (c == 49) = b
    cases b <;> simp
theorem RB_r4 (l : List UInt8) : ∀ (last s : Int), (s = 1 ∨ s = -1) → readS 4 last (lvGo 4 s l) = txtL l := by
  induction l with
  | nil => intro last s _; rfl
  | cons c l ih =>
    intro last s hs
    have hn : lvNext 4 s (c == 49) = 1 ∨ lvNext 4 s (c == 49) = -1 := by
      rcases hs with rfl | rfl <;> generalize (c == 49) = b <;> cases b <;> simp [lvNext]
    have e : lvGo 4 s (c :: l) = (if (c == 49) = true then s else 0) :: lvGo 4 (lvNext 4 s (c == 49)) l := by
      rw [lvGo]
      generalize (c == 49) = b
      rcases hs with rfl | rfl <;> cases b <;> simp [lvOut]
    rw [e, readS, ih _ _ hn]
    unfold txtL
    rw [List.map_cons]
    congr 1
    generalize (c == 49) = b
    rcases hs with rfl | rfl <;> cases b <;> simp
theorem RB_r1 (l : List UInt8) : ∀ (s : Int), (s = 1 ∨ s = -1) → readS 1 s (lvGo 1 s l) = txtL l := by
  induction l with
  | nil => intro s _; rfl
  | cons c l ih =>
    intro s hs
    have hn : lvNext 1 s (c == 49) = 1 ∨ lvNext 1 s (c == 49) = -1 := by
      rcases hs with rfl | rfl <;> generalize (c == 49) = b <;> cases b <;> simp [lvNext]
    have e : lvGo 1 s (c :: l) = lvNext 1 s (c == 49) :: lvGo 1 (lvNext 1 s (c == 49)) l := by
      rw [lvGo]
      generalize (c == 49) = b
      rcases hs with rfl | rfl <;> cases b <;> simp [lvOut, lvNext]
    rw [e, readS, ih _ hn]
    unfold txtL
    rw [List.map_cons]
    congr 1
    generalize (c == 49) = b
    rcases hs with rfl | rfl <;> cases b <;> simp [lvNext]
theorem RB_r3 (l : List UInt8) : ∀ (s : Int), (s = 1 ∨ s = -1) → readP 3 s (lvGo 3 s l) = txtL l := by
  induction l with
  | nil => intro s _; rfl
  | cons c l ih =>
    intro s hs
    have hn : lvNext 3 s (c == 49) = 1 ∨ lvNext 3 s (c == 49) = -1 := by
      rcases hs with rfl | rfl <;> generalize (c == 49) = b <;> cases b <;> simp [lvNext]
    have e : lvGo 3 s (c :: l) = (if (c == 49) = true then s else -s) :: lvNext 3 s (c == 49) :: lvGo 3 (lvNext 3 s (c == 49)) l := by
      rw [lvGo]
      generalize (c == 49) = b
      rcases hs with rfl | rfl <;> cases b <;> simp [lvOut, lvNext]
    rw [e, readP, ih _ hn]
    unfold txtL
    rw [List.map_cons]
    congr 1
    generalize (c == 49) = b
    rcases hs with rfl | rfl <;> cases b <;> simp
theorem RB_r5 (l : List UInt8) : ∀ (s : Int), (s = 0 ∨ s = 1 ∨ s = 2 ∨ s = 3) → readS 5 (circ s) (lvGo 5 s l) = txtL l := by
  induction l with
  | nil => intro s _; rfl
  | cons c l ih =>
    intro s hs
    have hn : lvNext 5 s (c == 49) = 0 ∨ lvNext 5 s (c == 49) = 1 ∨ lvNext 5 s (c == 49) = 2 ∨ lvNext 5 s (c == 49) = 3 := by
      rcases hs with rfl | rfl | rfl | rfl <;> generalize (c == 49) = b <;> cases b <;> simp [lvNext]
    have e : lvGo 5 s (c :: l) = circ (lvNext 5 s (c == 49)) :: lvGo 5 (lvNext 5 s (c == 49)) l := by
      rw [lvGo]
      generalize (c == 49) = b
      rcases hs with rfl | rfl | rfl | rfl <;> cases b <;> simp [lvOut, lvNext, circ]
    rw [e, readS, ih _ hn]
    unfold txtL
    rw [List.map_cons]
    congr 1
    generalize (c == 49) = b
    rcases hs with rfl | rfl | rfl | rfl <;> cases b <;> simp [circ, lvNext]
theorem RB_read (kind : Int) (hk : kindB kind = true) (l : List UInt8) : readN kind (levelsN kind l) = txtL l := by
  rcases kinds_of hk with rfl | rfl | rfl | rfl | rfl | rfl
  · exact RB_r0 l _ _
  · exact RB_r1 l (-1) (.inr rfl)
  · exact RB_r2 l _ _
  · exact RB_r3 l (-1) (.inr rfl)
  · exact RB_r4 l _ _ (.inl rfl)
  · exact RB_r5 l 0 (.inl rfl)
theorem RB_str (t : ByteArray) (hb : t.data.toList.all isBitB = true) : strOfNums (txtL t.data.toList) = t := by
  have hlen : (txtL t.data.toList).length = t.size := by unfold txtL; rw [List.length_map, size_data]
  apply str_ext
  · rw [str_size, hlen]
  · intro k hk
    rw [str_size, hlen] at hk
    have hbit : isBitB (t[k]) = true := by
      rw [List.all_eq_true] at hb
      exact hb _ (by rw [← data_get hk]; exact List.getElem_mem _)
    have hv : bitN (t[k] == 49) = (t[k].toNat : Int) := by
      rcases (isBit_iff _).1 hbit with e | e
      · have e2 : t[k] = 48 := UInt8.toNat_inj.1 (by show (t[k]).toNat = 48; omega)
        rw [e2]; decide
      · have e2 : t[k] = 49 := UInt8.toNat_inj.1 (by show (t[k]).toNat = 49; omega)
        rw [e2]; decide
    have ev : (txtL t.data.toList)[k]'(by rw [hlen]; exact hk) = (t[k].toNat : Int) := by
      simp only [txtL, List.getElem_map, data_get hk]
      exact hv
    rw [bt_str (by rw [hlen]; exact hk) (by rw [ev]; have := (t[k]).toNat_lt; omega), ev, bt_nat t k hk]

/-! readLen -/
theorem readS_len (kind : Int) : ∀ (xs : List Int) (last : Int), (readS kind last xs).length = xs.length := by
  intro xs
  induction xs with
  | nil => intro last; rfl
  | cons x xs ih => intro last; simp only [readS, List.length_cons, ih]
theorem readP_len (kind : Int) : ∀ (n : Nat) (xs : List Int) (last : Int), xs.length = 2 * n → (readP kind last xs).length = n := by
  intro n
  induction n with
  | zero =>
    intro xs last h
    obtain rfl : xs = [] := List.eq_nil_of_length_eq_zero (by omega)
    rfl
  | succ n ih =>
    intro xs last h
    match xs, h with
    | x :: y :: r, h =>
      simp only [List.length_cons] at h
      simp only [readP, List.length_cons, ih r y (by omega)]
theorem readN_len {kind : Int} {xs : List Int} {n : Nat} (h : xs.length = (if kind = 2 ∨ kind = 3 then 2 else 1) * n) : (readN kind xs).length = n := by
  unfold readN
  by_cases hp : kind = 2 ∨ kind = 3
  · rw [if_pos hp] at h ⊢
    exact readP_len kind n xs _ h
  · rw [if_neg hp] at h ⊢
    rw [readS_len, h, Nat.one_mul]

/-! readLevelsI -/
theorem rl_tail {kind : Int} {Q : Nat} (hQ : perN kind = (Q : Int)) (hQ1 : 1 ≤ Q) (hQ2 : Q ≤ 2) {xs c : List Int} {n : Nat} {b : Bool} {r : ByteArray} (hlen : n + Q ≤ xs.length) (hx : xs.length ≤ 1099511627776) (hc : c.length ≤ n)
    (h : Ev (fun k => impl_readLevels.l0 k kind xs (c ++ [bitN b]) (rd xs ((n + Q - 1 : Nat) : Int)) ((n + Q : Nat) : Int)) r) :
    Ev (fun k => (impl_perBit.f kind).bind fun t => (if 0 ≤ (wrap64 ((wrap64 ((n : Int) + t)) - 1)) then (if (wrap64 ((wrap64 ((n : Int) + t)) - 1)) < (xs.length : Int) then ((impl_bitOf.f b).bind fun t' => (if c.length + t'.size < 140737488355328 then ((impl_perBit.f kind).bind fun t'' => (impl_readLevels.l0 k kind xs (c ++ bytesOf t') (rd xs (wrap64 ((wrap64 ((n : Int) + t)) - 1))) (wrap64 ((n : Int) + t'')))) else (none))) else (none)) else (none))) r := by
  refine Ev.bind (Ev.const (perBit_eq kind)) ?_
  have e1 : wrap64 ((n : Int) + (Q : Int)) = ((n + Q : Nat) : Int) := by rw [w64 (by omega) (by omega)]; omega
  have e2 : wrap64 (((n + Q : Nat) : Int) - 1) = ((n + Q - 1 : Nat) : Int) := by rw [w64 (by omega) (by omega)]; omega
  rw [hQ, e1, e2]
  refine Ev.cond (fun _ => ?_) (fun h' => absurd (by omega) h')
  refine Ev.cond (fun _ => ?_) (fun h' => absurd (by omega) h')
  refine Ev.bind (Ev.const (bitOf_eq b)) ?_
  refine Ev.cond (fun _ => ?_) (fun h' => absurd (by rw [bitStr_size]; omega) h')
  refine Ev.bind (Ev.const (perBit_eq kind)) ?_
  rw [hQ, e1, bytesOf_bitStr]
  exact h
theorem readLevels_SI (kind : Int) (hk : kind = 0 ∨ kind = 1 ∨ kind = 4 ∨ kind = 5) (xs : List Int) (hn : xs.length ≤ 1099511627776) : ∀ (d n : Nat) (c : List Int) (last : Int), c.length ≤ n → n + d = xs.length →
    Ev (fun k => impl_readLevels.l0 k kind xs c last (n : Int)) (strOfNums (c ++ readS kind last (xs.drop n))) := by
  have hp : perN kind = ((1 : Nat) : Int) := by unfold perN; rw [if_neg (by omega)]; rfl
  have hq : pairB kind = false := decide_eq_false (by omega)
  intro d
  induction d with
  | zero =>
    intro n c last hc h
    have h1 : ¬ ((n : Int) < (xs.length : Int)) := by omega
    have h2 : xs.drop n = [] := List.drop_eq_nil_of_le (by omega)
    rw [h2]
    simp only [readS, List.append_nil]
    refine Ev.succ ?_
    simp only [impl_readLevels.l0, h1, if_false]; exact Ev.now _
  | succ d ih =>
    intro n c last hc h
    have h1 : (n : Int) < (xs.length : Int) := by omega
    have h2 : (0 : Int) ≤ (n : Int) := by omega
    rw [drop_rd (show n < xs.length by omega)]
    simp only [readS]
    have key : ∀ b : Bool, b = (if kind = 0 then rd xs (n : Int) == 1 else if kind = 4 then rd xs (n : Int) != 0 else rd xs (n : Int) != last) →
        Ev (fun k => impl_readLevels.l0 k kind xs (c ++ [bitN b]) (rd xs ((n + 1 - 1 : Nat) : Int)) ((n + 1 : Nat) : Int)) (strOfNums (c ++ bitN (if kind = 0 then rd xs (n : Int) == 1 else if kind = 4 then rd xs (n : Int) != 0 else rd xs (n : Int) != last) :: readS kind (rd xs (n : Int)) (xs.drop (n + 1)))) := by
      intro b hb
      have h3 := ih (n + 1) (c ++ [bitN b]) (rd xs (n : Int)) (by simp; omega) (by omega)
      rw [List.append_assoc] at h3
      rw [← hb]
      exact h3
    rcases hk with rfl | rfl | rfl | rfl
    · have k2 := key (rd xs (n : Int) == 1) (by rw [if_pos rfl])
      refine Ev.succ ?_
      simp only [impl_readLevels.l0]
      refine Ev.cond (fun _ => ?_) (fun h' => absurd h1 h')
      refine Ev.cond (fun _ => ?_) (fun h' => absurd h2 h')
      refine Ev.cond (fun _ => ?_) (fun h' => absurd (by decide) h')
      exact rl_tail hp (by omega) (by omega) (by omega) hn hc k2
    · have k2 := key (rd xs (n : Int) != last) (by rw [if_neg (by decide), if_neg (by decide)])
      refine Ev.succ ?_
      simp only [impl_readLevels.l0]
      refine Ev.cond (fun _ => ?_) (fun h' => absurd h1 h')
      refine Ev.cond (fun _ => ?_) (fun h' => absurd h2 h')
      refine Ev.cond (fun h' => absurd h' (by decide)) (fun _ => ?_)
      refine Ev.cond (fun _ => Ev.succ ?_) (fun h' => absurd (by decide) h')
      simp only [impl_readLevels.j1]
      refine Ev.cond (fun _ => ?_) (fun h' => absurd (by decide) h')
      exact rl_tail hp (by omega) (by omega) (by omega) hn hc k2
    · have k2 := key (rd xs (n : Int) != 0) (by rw [if_neg (by decide), if_pos rfl])
      refine Ev.succ ?_
      simp only [impl_readLevels.l0]
      refine Ev.cond (fun _ => ?_) (fun h' => absurd h1 h')
      refine Ev.cond (fun _ => ?_) (fun h' => absurd h2 h')
      refine Ev.cond (fun h' => absurd h' (by decide)) (fun _ => ?_)
      refine Ev.cond (fun h' => absurd h' (by decide)) (fun _ => Ev.succ ?_)
      simp only [impl_readLevels.j1]
      refine Ev.cond (fun h' => absurd h' (by decide)) (fun _ => ?_)
      refine Ev.cond (fun h' => absurd h' (by decide)) (fun _ => ?_)
      refine Ev.cond (fun h' => absurd h' (by decide)) (fun _ => ?_)
      refine Ev.cond (fun _ => ?_) (fun h' => absurd (by decide) h')
      exact rl_tail hp (by omega) (by omega) (by omega) hn hc k2
    · have k2 := key (rd xs (n : Int) != last) (by rw [if_neg (by decide), if_neg (by decide)])
      refine Ev.succ ?_
      simp only [impl_readLevels.l0]
      refine Ev.cond (fun _ => ?_) (fun h' => absurd h1 h')
      refine Ev.cond (fun _ => ?_) (fun h' => absurd h2 h')
      refine Ev.cond (fun h' => absurd h' (by decide)) (fun _ => ?_)
      refine Ev.cond (fun h' => absurd h' (by decide)) (fun _ => Ev.succ ?_)
      simp only [impl_readLevels.j1]
      refine Ev.cond (fun _ => ?_) (fun h' => absurd (by decide) h')
      exact rl_tail hp (by omega) (by omega) (by omega) hn hc k2
theorem readLevels_PI (kind : Int) (hk : kind = 2 ∨ kind = 3) (xs : List Int) (hn : xs.length ≤ 1099511627776) : ∀ (d n : Nat) (c : List Int) (last : Int), c.length ≤ n → n + 2 * d = xs.length →
    Ev (fun k => impl_readLevels.l0 k kind xs c last (n : Int)) (strOfNums (c ++ readP kind last (xs.drop n))) := by
  have hp : perN kind = ((2 : Nat) : Int) := by unfold perN; rw [if_pos hk]; rfl
  have hq : pairB kind = true := decide_eq_true hk
  intro d
  induction d with
  | zero =>
    intro n c last hc h
    have h1 : ¬ ((n : Int) < (xs.length : Int)) := by omega
    have h2 : xs.drop n = [] := List.drop_eq_nil_of_le (by omega)
    rw [h2]
    simp only [readP, List.append_nil]
    refine Ev.succ ?_
    simp only [impl_readLevels.l0, h1, if_false]; exact Ev.now _
  | succ d ih =>
    intro n c last hc h
    have h1 : (n : Int) < (xs.length : Int) := by omega
    have h2 : (0 : Int) ≤ (n : Int) := by omega
    have h3 : ((n + 1 : Nat) : Int) < (xs.length : Int) := by omega
    have h4 : (0 : Int) ≤ ((n + 1 : Nat) : Int) := by omega
    have h4' : ¬ ((n + 1 : Nat) : Int) = (xs.length : Int) := by omega
    have hw := w64_succ (show n < 9223372036854775807 by omega)
    have hw4 := w64_succ (show n + 1 < 9223372036854775807 by omega)
    rw [drop_two (show n + 1 < xs.length by omega)]
    simp only [readP]
    have tl : ∀ b : Bool, b = (if kind = 3 then rd xs (n : Int) == last else decide (rd xs (n : Int) < rd xs ((n + 1 : Nat) : Int))) →
        Ev (fun k => impl_readLevels.l0 k kind xs (c ++ [bitN b]) (rd xs ((n + 2 - 1 : Nat) : Int)) ((n + 2 : Nat) : Int)) (strOfNums (c ++ bitN (if kind = 3 then rd xs (n : Int) == last else decide (rd xs (n : Int) < rd xs ((n + 1 : Nat) : Int))) :: readP kind (rd xs ((n + 1 : Nat) : Int)) (xs.drop (n + 2)))) := by
      intro b hb
      have h9 := ih (n + 2) (c ++ [bitN b]) (rd xs ((n + 1 : Nat) : Int)) (by simp; omega) (by omega)
      rw [List.append_assoc] at h9
      rw [← hb]
      exact h9
    rcases hk with rfl | rfl
    · have k2 := tl (decide (rd xs (n : Int) < rd xs ((n + 1 : Nat) : Int))) (by rw [if_neg (by decide)])
      refine Ev.succ ?_
      simp only [impl_readLevels.l0]
      refine Ev.cond (fun _ => ?_) (fun h' => absurd h1 h')
      refine Ev.cond (fun _ => ?_) (fun h' => absurd h2 h')
      refine Ev.cond (fun h' => absurd h' (by decide)) (fun _ => ?_)
      refine Ev.cond (fun h' => absurd h' (by decide)) (fun _ => Ev.succ ?_)
      simp only [impl_readLevels.j1]
      refine Ev.cond (fun h' => absurd h' (by decide)) (fun _ => ?_)
      refine Ev.cond (fun _ => ?_) (fun h' => absurd (by decide) h')
      rw [hw]
      refine Ev.cond (fun _ => ?_) (fun h' => absurd h4 h')
      refine Ev.cond (fun _ => ?_) (fun h' => absurd h3 h')
      exact rl_tail hp (by omega) (by omega) (by omega) hn hc k2
    · have k2 := tl (rd xs (n : Int) == last) (by rw [if_pos rfl])
      refine Ev.succ ?_
      simp only [impl_readLevels.l0]
      refine Ev.cond (fun _ => ?_) (fun h' => absurd h1 h')
      refine Ev.cond (fun _ => ?_) (fun h' => absurd h2 h')
      refine Ev.cond (fun h' => absurd h' (by decide)) (fun _ => ?_)
      refine Ev.cond (fun h' => absurd h' (by decide)) (fun _ => Ev.succ ?_)
      simp only [impl_readLevels.j1]
      refine Ev.cond (fun h' => absurd h' (by decide)) (fun _ => ?_)
      refine Ev.cond (fun h' => absurd h' (by decide)) (fun _ => ?_)
      refine Ev.cond (fun _ => ?_) (fun h' => absurd (by decide) h')
      exact rl_tail hp (by omega) (by omega) (by omega) hn hc k2
theorem readLevels_impl (kind : Int) (hk : kindB kind = true) (xs : List Int) (hn : xs.length ≤ 1099511627776) (hp : pairB kind = true → xs.length % 2 = 0) :
    Ev (fun k => impl_readLevels.f k kind xs) (strOfNums (readN kind xs)) := by
  unfold impl_readLevels.f readN
  have hk' := kinds_of hk
  have fin : Ev (fun k => impl_readLevels.l0 k kind xs [] (beforeN kind) 0) (strOfNums (if kind = 2 ∨ kind = 3 then readP kind (beforeN kind) xs else readS kind (beforeN kind) xs)) := by
    by_cases h : kind = 2 ∨ kind = 3
    · have h' := hp (decide_eq_true h)
      rw [if_pos h]
      exact readLevels_PI kind h xs hn (xs.length / 2) 0 [] (beforeN kind) (by simp) (by omega)
    · rw [if_neg h]
      exact readLevels_SI kind (by omega) xs hn xs.length 0 [] (beforeN kind) (by simp) (by omega)
  exact Ev.bind (Ev.const (newWire_eq kind)) fin

/-! l10Is -/

/-! canRead -/
def canB (kind : Int) (xs : List Int) : Bool := kindB kind && levelsB xs && (if kind = 2 ∨ kind = 3 then decide (xs.length % 2 = 0) else decide (xs.length ≤ 400))
theorem canRead_ev (kind : Int) (xs : List Int) (hn : xs.length ≤ 1099511627776) : Ev (fun k => impl_canRead.f k kind xs) (canB kind xs) := by
  unfold impl_canRead.f canB
  simp only [isLine_eq, Option.bind_some]
  by_cases h1 : kindB kind = true
  · simp only [h1, if_true, Bool.true_and]
    refine Ev.bind (areLevels_ev xs hn) ?_
    by_cases h2 : levelsB xs = true
    · have hl : xs.length ≤ 800 := by
        unfold levelsB at h2; rw [Bool.and_eq_true] at h2; exact of_decide_eq_true h2.2
      simp only [h2, if_true, Bool.true_and, perBit_eq, Option.bind_some]
      by_cases h3 : kind = 2 ∨ kind = 3
      · have hp : perN kind = 2 := by unfold perN; rw [if_pos h3]
        have hw : wrap64 ((xs.length : Int) / 2) = (xs.length : Int) / 2 := w64 (by omega) (by omega)
        have h5 : ((xs.length : Int) / 2 ≤ 400) = True := by simp only [eq_iff_iff, iff_true]; omega
        simp only [h3, if_true, hp, Int.reduceEq, if_false, hw, h5, decide_true]
        by_cases h4 : xs.length % 2 = 0
        · have h4' : (xs.length : Int) % 2 = 0 := by omega
          simp only [h4, h4', if_true, decide_true]; exact Ev.now _
        · have h4' : ¬ (xs.length : Int) % 2 = 0 := by omega
          simp only [h4, h4', if_false, decide_false]; exact Ev.now _
      · have hp : perN kind = 1 := by unfold perN; rw [if_neg h3]
        have hw : wrap64 ((xs.length : Int) / 1) = (xs.length : Int) := by rw [Int.ediv_one]; exact w64 (by omega) (by omega)
        have h4 : (xs.length : Int) % 1 = 0 := by omega
        have h5 : ((xs.length : Int) ≤ 400) = (xs.length ≤ 400) := propext ⟨fun h => by omega, fun h => by omega⟩
        simp only [h3, if_false, hp, Int.reduceEq, hw, h4, if_true, h5]; exact Ev.now _
    · simp only [h2, if_false, Bool.false_and]; exact Ev.now _
  · simp only [h1, Bool.false_eq_true, if_false, Bool.false_and]; exact Ev.now _
theorem canB_pair {kind : Int} {xs : List Int} (h : canB kind xs = true) : kindB kind = true ∧ levelsB xs = true ∧ (pairB kind = true → xs.length % 2 = 0) := by
  unfold canB at h
  rw [Bool.and_eq_true, Bool.and_eq_true] at h
  refine ⟨h.1.1, h.1.2, fun hp => ?_⟩
  have hp := of_decide_eq_true hp
  rw [if_pos hp] at h
  exact of_decide_eq_true h.2

/-! RdLI -/
def RdI_ans (kind : Int) (xs : List Int) : ByteArray × Bool := if canB kind xs = true then (strOfNums (readN kind xs), true) else (⟨#[]⟩, false)
theorem RdI_impl (kind : Int) (xs : List Int) (hn : xs.length ≤ 1099511627776) : Ev (fun k => impl_ReadLevels.f k kind xs) (RdI_ans kind xs) := by
  unfold impl_ReadLevels.f RdI_ans
  refine Ev.bind (canRead_ev kind xs hn) ?_
  by_cases h : canB kind xs = true
  · obtain ⟨h1, h2, h3⟩ := canB_pair h
    refine Ev.cond (fun _ => ?_) (fun h' => absurd h h')
    rw [if_pos h]
    exact Ev.bind (readLevels_impl kind h1 xs hn h3) (Ev.now _)
  · refine Ev.cond (fun h' => absurd h' h) (fun _ => ?_)
    rw [if_neg h]
    exact Ev.now _

/-! IsBits -/
theorem trim_bits (s : ByteArray) (h : s.size ≤ 9223372036854775807) : strings_Trim.f s (⟨#[48, 49]⟩ : ByteArray) = some ⟨(Lib.trimS s.data.toList [48, 49]).toArray⟩ := by
  unfold strings_Trim.f
  rw [if_pos ⟨h, by decide, by decide⟩]
theorem areBits_eq (s : ByteArray) (h : s.size ≤ 9223372036854775807) : impl_areBits.f s = some (s.data.toList.all isBitB) := by
  unfold impl_areBits.f
  rw [trim_bits s h, Option.bind_some]
  congr 1
  have e1 : (⟨(Lib.trimS s.data.toList [48, 49]).toArray⟩ : ByteArray).toList = Lib.trimS s.data.toList [48, 49] := by rw [Lib.toList_data]
  rw [e1, Bool.eq_iff_iff, beq_iff_eq, trimS_nil]
  have e2 : (fun b => ([48, 49] : List UInt8).contains b) = isBitB := funext contains_bits
  rw [e2]
theorem IsBits_eq (s : ByteArray) (h : s.size ≤ 9223372036854775807) : impl_IsBits.f s = some (bitsB s) := by
  unfold impl_IsBits.f bitsB
  by_cases h4 : s.size ≤ 400
  · have h4' : (s.size : Int) ≤ 400 := by omega
    simp only [h4', if_true, areBits_eq s h, Option.bind_some, h4, decide_true, Bool.and_true]
  · have h4' : ¬ (s.size : Int) ≤ 400 := by omega
    simp only [h4', if_false, h4, decide_false, Bool.and_false]

/-! LevelsOfI -/
def LO_ans (kind : Int) (t : ByteArray) : List Int × Bool := if kindB kind = true ∧ bitsB t = true then (levelsN kind t.data.toList, true) else ([], false)
theorem LO_len (kind : Int) (t : ByteArray) : (LO_ans kind t).1.length ≤ 1048576 := by
  unfold LO_ans
  split
  · rename_i h
    have h2 := h.2
    unfold bitsB at h2
    rw [Bool.and_eq_true] at h2
    have h3 := of_decide_eq_true h2.2
    have hs : sOK kind (lvStart kind) := sOK_start (kinds_of h.1)
    unfold levelsN
    rw [lvGo_len _ hs, size_data]
    split <;> omega
  · exact Nat.zero_le _
theorem LO_impl (kind : Int) (t : ByteArray) (ht : t.size ≤ 1048576) : Ev (fun k => impl_LevelsOf.f k kind t) (LO_ans kind t) := by
  unfold impl_LevelsOf.f LO_ans
  refine Ev.bind (Ev.const (isLine_eq kind)) ?_
  by_cases h1 : kindB kind = true
  · refine Ev.cond (fun _ => ?_) (fun h' => absurd h1 h')
    refine Ev.bind (Ev.const (IsBits_eq t (by omega))) ?_
    by_cases h2 : bitsB t = true
    · refine Ev.cond (fun _ => ?_) (fun h' => absurd h2 h')
      rw [if_pos ⟨h1, h2⟩]
      exact Ev.bind (levelsOf_ev kind h1 t ht) (Ev.now _)
    · refine Ev.cond (fun h' => absurd h' h2) (fun _ => ?_)
      rw [if_neg (fun h => h2 h.2)]
      exact Ev.now _
  · refine Ev.cond (fun h' => absurd h' h1) (fun _ => ?_)
    rw [if_neg (fun h => h1 h.1)]
    exact Ev.now _

/-! r8 -/
theorem wf_u8 {x : Int} (h : (Lit.int .u8 x).wf = true) : 0 ≤ x ∧ x ≤ 255 := by
  have h1 : decide (IntKind.min .u8 ≤ x) = true ∧ decide (x ≤ IntKind.max .u8) = true := by
    simpa [Lit.wf] using h
  obtain ⟨ha, hb⟩ := h1
  have ha := of_decide_eq_true ha
  have hb := of_decide_eq_true hb
  have e1 : IntKind.min .u8 = 0 := by decide
  have e2 : IntKind.max .u8 = 255 := by decide
  rw [e1] at ha
  rw [e2] at hb
  exact ⟨ha, hb⟩
theorem r8At_eq (l : List Int) (h : ∀ x ∈ l, (Lit.int .u8 x).wf = true) (a n : Int) (ha : 0 ≤ a) (hn : 1 ≤ n) : ∃ t, laws_r8At.f l a n = some t ∧ 0 ≤ t ∧ t < n := by
  unfold laws_r8At.f
  by_cases h1 : n ≤ 1
  · exact ⟨0, by rw [if_pos h1], by omega, by omega⟩
  by_cases h2 : a ≥ (l.length : Int)
  · exact ⟨0, by rw [if_neg h1, if_pos h2], by omega, by omega⟩
  obtain ⟨m, rfl⟩ := Int.eq_ofNat_of_zero_le ha
  have hm : m < l.length := by omega
  have hx := wf_u8 (h _ (rd_mem hm))
  have h0 : 0 ≤ Int.tmod (rd l (m : Int)) n := Int.tmod_nonneg _ hx.1
  have h3 : Int.tmod (rd l (m : Int)) n < n := Int.tmod_lt_of_pos _ (by omega)
  refine ⟨Int.tmod (rd l (m : Int)) n, ?_, h0, h3⟩
  rw [if_neg h1, if_neg h2, if_pos (by omega), if_pos (by omega), if_neg (by omega), w64 (by omega) (by omega)]
theorem r8Long_eq (l m : List Int) : ∃ b, laws_r8Long.f l m = some b ∧ (b = false → l.length ≤ 48 ∧ m.length ≤ 48) := by
  unfold laws_r8Long.f
  by_cases h : (l.length : Int) > 48
  · exact ⟨true, by rw [if_pos h], by simp⟩
  · refine ⟨decide ((m.length : Int) > 48), by rw [if_neg h], fun h2 => ?_⟩
    have h3 := of_decide_eq_false h2
    omega

/-! src -/
theorem u64_mod (z : Int) : IntKind.u64.wrap z = z % 18446744073709551616 := by simp [IntKind.wrap, IntKind.bits, IntKind.signed]
theorem u64_and255 (z : Int) : 0 ≤ wrap64 (Go.bits .and .u64 ((IntKind.u64.wrap z) / 1099511627776) 255) ∧ wrap64 (Go.bits .and .u64 ((IntKind.u64.wrap z) / 1099511627776) 255) ≤ 255 := by
  obtain ⟨Y, hY⟩ := Int.eq_ofNat_of_zero_le (show 0 ≤ (IntKind.u64.wrap z) / 1099511627776 by rw [u64_mod]; omega)
  have hlt : Y < 18446744073709551616 := by rw [u64_mod] at hY; omega
  rw [hY]
  have h2 : Go.bits .and .u64 (Y : Int) 255 = ((Y &&& 255 : Nat) : Int) := bits_and_u64_nat Y 255 hlt (by decide)
  rw [h2]
  have h3 : Y &&& 255 ≤ 255 := Nat.and_le_right
  rw [w64 (by omega) (by omega)]
  omega
theorem src_next (l : List Int) (h : ∀ x ∈ l, (Lit.int .u8 x).wf = true) (p : Nat) (hs : Int) (hp : p < 1099511627776) : ∃ v hs', spec_l00Src_next.f l (p : Int) hs = some (v, ((p + 1 : Nat) : Int), hs') ∧ 0 ≤ v ∧ v ≤ 255 := by
  have hw : wrap64 ((p : Int) + 1) = ((p + 1 : Nat) : Int) := w64_succ (by omega)
  unfold spec_l00Src_next.f
  by_cases h1 : p < l.length
  · have hx := wf_u8 (h _ (rd_mem h1))
    rw [if_pos (show (p : Int) < (l.length : Int) by omega), if_pos (show (0 : Int) ≤ (p : Int) by omega), hw, if_pos (show ((p + 1 : Nat) : Int) ≤ (l.length : Int) by omega)]
    refine ⟨_, _, rfl, ?_⟩
    rw [w64 (by omega) (by omega)]
    exact hx
  · rw [if_neg (show ¬ (p : Int) < (l.length : Int) by omega), hw, if_neg (show ¬ ((p + 1 : Nat) : Int) ≤ (l.length : Int) by omega)]
    exact ⟨_, _, rfl, u64_and255 _⟩
theorem src_pick (l : List Int) (h : ∀ x ∈ l, (Lit.int .u8 x).wf = true) (p : Nat) (hs a : Int) (hp : p < 1099511627776) (ha : 2 ≤ a) (ha2 : a ≤ 200) : ∃ v hs', spec_l00Src_pick.f l (p : Int) hs a = some (v, ((p + 1 : Nat) : Int), hs') ∧ 0 ≤ v ∧ v < a := by
  obtain ⟨v, hs', h1, h2, h3⟩ := src_next l h p hs hp
  unfold spec_l00Src_pick.f
  rw [if_neg (by omega), h1, Option.bind_some, if_neg (by omega), if_neg (by omega)]
  exact ⟨_, _, rfl, Int.tmod_nonneg _ h2, Int.tmod_lt_of_pos _ (by omega)⟩

/-! R8Bits -/
theorem src_one (l : List Int) (h : ∀ x ∈ l, (Lit.int .u8 x).wf = true) (p : Nat) (hs : Int) (hp : p < 1099511627776) : ∃ b hs', spec_l00Src_one.f l (p : Int) hs 2 = some (b, ((p + 1 : Nat) : Int), hs') := by
  obtain ⟨v, hs', h1, h2, h3⟩ := src_pick l h p hs 2 hp (by omega) (by omega)
  unfold spec_l00Src_one.f
  rw [h1, Option.bind_some]
  exact ⟨_, _, rfl⟩
theorem R8Bits_l0 (l : List Int) (h : ∀ x ∈ l, (Lit.int .u8 x).wf = true) : ∀ (d : Nat) (xs : List Int) (p : Nat) (hs : Int), p + 2 * d ≤ 1000000 → xs.length + d ≤ 1000 → (∀ x ∈ xs, x = 48 ∨ x = 49) →
    ∃ ys, Ev (fun k => spec_R8Bits.l0 k xs (d : Int) l (p : Int) hs) (strOfNums ys) ∧ ys.length = xs.length + d ∧ ∀ x ∈ ys, x = 48 ∨ x = 49 := by
  intro d
  induction d with
  | zero =>
    intro xs p hs h1 h2 hx
    have c1 : ¬ ((0 : Nat) : Int) > 0 := by omega
    refine ⟨xs, Ev.succ ?_, rfl, hx⟩
    simp only [spec_R8Bits.l0]
    refine Ev.cond (fun h' => absurd h' c1) (fun _ => Ev.now _)
  | succ d ih =>
    intro xs p hs h1 h2 hx
    have c1 : ((d + 1 : Nat) : Int) > 0 := by omega
    have c2 : xs.length < 140737488355328 := by omega
    have hw : wrap64 (((d + 1 : Nat) : Int) - 1) = (d : Int) := by rw [w64 (by omega) (by omega)]; omega
    obtain ⟨v, hs1, e1, v0, v1⟩ := src_pick l h p hs 2 (by omega) (by omega) (by omega)
    obtain ⟨b, hs2, e2⟩ := src_one l h (p + 1) hs1 (by omega)
    have hv : (wrap64 (48 + v)) % 256 = 48 ∨ (wrap64 (48 + v)) % 256 = 49 := by
      rw [w64 (by omega) (by omega)]; omega
    have app : ∀ y : Int, (y = 48 ∨ y = 49) → ∀ x ∈ xs ++ [y], x = 48 ∨ x = 49 := by
      intro y hy x hm
      rcases List.mem_append.1 hm with hm | hm
      · exact hx x hm
      · rw [List.mem_singleton] at hm; rw [hm]; exact hy
    by_cases h0 : (xs.length : Int) > 0
    · have hlast : wrap64 ((xs.length : Int) - 1) = ((xs.length - 1 : Nat) : Int) := by rw [w64 (by omega) (by omega)]; omega
      have c3 : (0 : Int) ≤ ((xs.length - 1 : Nat) : Int) := by omega
      have c4 : ((xs.length - 1 : Nat) : Int) < (xs.length : Int) := by omega
      by_cases hb : b = true
      · have hr : rd xs ((xs.length - 1 : Nat) : Int) = 48 ∨ rd xs ((xs.length - 1 : Nat) : Int) = 49 := hx _ (rd_mem (by omega))
        obtain ⟨ys, y1, y2, y3⟩ := ih (xs ++ [rd xs ((xs.length - 1 : Nat) : Int)]) (p + 2) hs2 (by omega) (by rw [List.length_append, List.length_singleton]; omega) (app _ hr)
        refine ⟨ys, Ev.succ ?_, by rw [y2, List.length_append, List.length_singleton]; omega, y3⟩
        simp only [spec_R8Bits.l0, hw, hlast]
        refine Ev.cond (fun _ => ?_) (fun h' => absurd c1 h')
        refine Ev.bind (Ev.const e1) ?_
        refine Ev.cond (fun _ => ?_) (fun h' => absurd h0 h')
        refine Ev.bind (Ev.const e2) ?_
        refine Ev.cond (fun _ => ?_) (fun h' => absurd hb h')
        refine Ev.cond (fun _ => ?_) (fun h' => absurd c3 h')
        refine Ev.cond (fun _ => ?_) (fun h' => absurd c4 h')
        exact Ev.cond (fun _ => y1) (fun h' => absurd c2 h')
      · obtain ⟨ys, y1, y2, y3⟩ := ih (xs ++ [(wrap64 (48 + v)) % 256]) (p + 2) hs2 (by omega) (by rw [List.length_append, List.length_singleton]; omega) (app _ hv)
        refine ⟨ys, Ev.succ ?_, by rw [y2, List.length_append, List.length_singleton]; omega, y3⟩
        simp only [spec_R8Bits.l0, hw, hlast]
        refine Ev.cond (fun _ => ?_) (fun h' => absurd c1 h')
        refine Ev.bind (Ev.const e1) ?_
        refine Ev.cond (fun _ => ?_) (fun h' => absurd h0 h')
        refine Ev.bind (Ev.const e2) ?_
        refine Ev.cond (fun h' => absurd h' hb) (fun _ => ?_)
        exact Ev.cond (fun _ => y1) (fun h' => absurd c2 h')
    · obtain ⟨ys, y1, y2, y3⟩ := ih (xs ++ [(wrap64 (48 + v)) % 256]) (p + 1) hs1 (by omega) (by rw [List.length_append, List.length_singleton]; omega) (app _ hv)
      refine ⟨ys, Ev.succ ?_, by rw [y2, List.length_append, List.length_singleton]; omega, y3⟩
      simp only [spec_R8Bits.l0, hw]
      refine Ev.cond (fun _ => ?_) (fun h' => absurd c1 h')
      refine Ev.bind (Ev.const e1) ?_
      refine Ev.cond (fun h' => absurd h' h0) (fun _ => ?_)
      exact Ev.cond (fun _ => y1) (fun h' => absurd c2 h')
theorem str_bits {ys : List Int} (h : ∀ x ∈ ys, x = 48 ∨ x = 49) : (strOfNums ys).data.toList.all isBitB = true := by
  rw [List.all_eq_true]
  intro b hb
  have e : (strOfNums ys).data.toList = ys.map fun n => UInt8.ofNat n.toNat := by simp [strOfNums]
  rw [e, List.mem_map] at hb
  obtain ⟨x, hx, rfl⟩ := hb
  rcases h x hx with rfl | rfl <;> decide
theorem R8Bits_ev (l : List Int) (h : ∀ x ∈ l, (Lit.int .u8 x).wf = true) (n : Nat) (hn1 : 1 ≤ n) (hn : n ≤ 100) : ∃ s : ByteArray, Ev (fun k => spec_R8Bits.f k l (n : Int)) s ∧ s.size ≤ n ∧ s.data.toList.all isBitB = true := by
  have hw : wrap64 ((n : Int) + 1) = (n : Int) + 1 := w64 (by omega) (by omega)
  obtain ⟨v, hs, e1, v0, v1⟩ := src_pick l h 0 0 ((n : Int) + 1) (by omega) (by omega) (by omega)
  obtain ⟨v, rfl⟩ := Int.eq_ofNat_of_zero_le v0
  obtain ⟨ys, y1, y2, y3⟩ := R8Bits_l0 l h v [] 1 hs (by omega) (by simp; omega) (by simp)
  refine ⟨strOfNums ys, ?_, by rw [str_size, y2, List.length_nil]; omega, str_bits y3⟩
  unfold spec_R8Bits.f spec_l00From.f
  refine Ev.bind (Ev.const rfl) ?_
  rw [hw]
  exact Ev.bind (Ev.const e1) y1

/-! slicesEqual -/
theorem slicesEqual_l0 (xs ys : List Int) (hl : xs.length = ys.length) (hn : xs.length ≤ 1099511627776) : ∀ d n, n + d = xs.length → Ev (fun k => slices_Equal_int64_int64.l0 k xs ys (xs.length : Int) (n : Int)) (decide (xs.drop n = ys.drop n)) := by
  intro d
  induction d with
  | zero =>
    intro n h
    apply Ev.succ
    have h1 : ¬ ((n : Int) < (xs.length : Int)) := by omega
    have h2 : xs.drop n = [] := List.drop_eq_nil_of_le (by omega)
    have h3 : ys.drop n = [] := List.drop_eq_nil_of_le (by omega)
    simp only [slices_Equal_int64_int64.l0, h1, if_false, h2, h3, decide_true]
    exact Ev.now true
  | succ d ih =>
    intro n h
    apply Ev.succ
    have h1 : (n : Int) < (xs.length : Int) := by omega
    have h1' : (n : Int) < (ys.length : Int) := by omega
    have h2 : (0 : Int) ≤ (n : Int) := by omega
    have h3 := ih (n + 1) (by omega)
    rw [drop_rd (show n < xs.length by omega), drop_rd (show n < ys.length by omega)]
    simp only [slices_Equal_int64_int64.l0, h1, h1', h2, if_true, w64_succ (show n < 9223372036854775807 by omega), List.cons.injEq]
    by_cases hc : rd xs (n : Int) = rd ys (n : Int)
    · simp only [hc, if_true, true_and]; exact h3
    · simp only [hc, if_false, false_and, decide_false]; exact Ev.now false
theorem slicesEqual_ev (xs ys : List Int) (hn : xs.length ≤ 1099511627776) : Ev (fun k => slices_Equal_int64_int64.f k xs ys) (decide (xs = ys)) := by
  unfold slices_Equal_int64_int64.f
  by_cases hl : xs.length = ys.length
  · have h1 : (xs.length : Int) = (ys.length : Int) := by omega
    simp only [h1, if_true]
    have h := slicesEqual_l0 xs ys hl hn xs.length 0 (by omega)
    rw [h1] at h
    exact h
  · have h1 : ¬ (xs.length : Int) = (ys.length : Int) := by omega
    have h2 : ¬ xs = ys := fun h => hl (by rw [h])
    simp only [h1, if_false, h2, decide_false]
    exact Ev.now false

theorem bitN_in (b : Bool) : bitN b = 48 ∨ bitN b = 49 := by cases b <;> decide
theorem readS_in (kind : Int) : ∀ (xs : List Int) (last : Int), ∀ x ∈ readS kind last xs, x = 48 ∨ x = 49 := by
  intro xs
  induction xs with
  | nil => intro last x hx; exact absurd hx (by simp [readS])
  | cons y r ih =>
    intro last x hx
    simp only [readS] at hx
    rcases List.mem_cons.1 hx with rfl | hx
    · exact bitN_in _
    · exact ih y x hx
theorem readP_in (kind : Int) : ∀ (d : Nat) (xs : List Int) (last : Int), xs.length ≤ 2 * d + 1 → ∀ x ∈ readP kind last xs, x = 48 ∨ x = 49 := by
  intro d
  induction d with
  | zero =>
    intro xs last hd x hx
    match xs, hd, hx with
    | [], _, hx => exact absurd hx (by simp [readP])
    | [y], _, hx => exact absurd hx (by simp [readP])
  | succ d ih =>
    intro xs last hd x hx
    match xs, hd, hx with
    | [], _, hx => exact absurd hx (by simp [readP])
    | [y], _, hx => exact absurd hx (by simp [readP])
    | y :: z :: r, hd, hx =>
      simp only [readP] at hx
      rcases List.mem_cons.1 hx with rfl | hx
      · exact bitN_in _
      · exact ih r z (by simp at hd; omega) x hx
theorem readN_in (kind : Int) (xs : List Int) : ∀ x ∈ readN kind xs, x = 48 ∨ x = 49 := by
  unfold readN
  split
  · exact readP_in kind xs.length xs _ (by omega)
  · exact readS_in kind xs _
theorem bt_bits {R : List Int} (h : ∀ x ∈ R, x = 48 ∨ x = 49) {n : Nat} (hn : n < R.length) : bt (strOfNums R) (n : Int) = R[n] := by
  have := h _ (List.getElem_mem hn)
  exact bt_str hn (by omega)
theorem difL_drop {R S : List Int} {n : Nat} (h1 : n < R.length) (h2 : n < S.length) : difL (R.drop n) (S.drop n) = (if R[n] = S[n] then 0 else 1) + difL (R.drop (n + 1)) (S.drop (n + 1)) := by
  rw [List.drop_eq_getElem_cons h1, List.drop_eq_getElem_cons h2]; rfl
theorem difL_le (R S : List Int) : difL R S ≤ (R.length : Int) := by
  induction R generalizing S with
  | nil => exact Int.le_refl _
  | cons x R ih =>
    cases S with
    | nil => simp [difL]; omega
    | cons y S => have := ih S; simp only [difL, List.length_cons]; split <;> omega
theorem WL_wb {R S : List Int} (hR : ∀ x ∈ R, x = 48 ∨ x = 49) (hS : ∀ x ∈ S, x = 48 ∨ x = 49) (hl : R.length = S.length) (hl2 : R.length ≤ 1000) : ∀ (d n : Nat) (c : Int), n + d = R.length → 0 ≤ c → c ≤ (n : Int) →
    Ev (fun k => impl_WrongBehind.l0 k (strOfNums S) (strOfNums R) c (((strOfNums S).size : Nat) : Int) (n : Int)) (c + difL (R.drop n) (S.drop n), true) := by
  intro d
  induction d with
  | zero =>
    intro n c h h0 h1
    have c1 : ¬ (n : Int) < (((strOfNums S).size : Nat) : Int) := by rw [str_size]; omega
    rw [List.drop_eq_nil_of_le (show R.length ≤ n by omega)]
    simp only [difL, Int.add_zero]
    apply Ev.succ
    simp only [impl_WrongBehind.l0]
    exact Ev.cond (fun h' => absurd h' c1) (fun _ => Ev.now _)
  | succ d ih =>
    intro n c h h0 h1
    have hn : n < R.length := by omega
    have hn2 : n < S.length := by omega
    have c1 : (n : Int) < (((strOfNums S).size : Nat) : Int) := by rw [str_size]; omega
    have c2 : (0 : Int) ≤ (n : Int) := by omega
    have c3 : (n : Int) < (((strOfNums R).size : Nat) : Int) := by rw [str_size]; omega
    have e1 := bt_bits hR hn
    have e2 := bt_bits hS hn2
    have hw : wrap64 (c + 1) = c + 1 := w64 (by omega) (by omega)
    rw [difL_drop hn hn2]
    apply Ev.succ
    simp only [impl_WrongBehind.l0, e1, e2, hw, w64_succ (show n < 9223372036854775807 by omega)]
    refine Ev.cond (fun _ => ?_) (fun h' => absurd c1 h')
    refine Ev.cond (fun _ => ?_) (fun h' => absurd c2 h')
    refine Ev.cond (fun _ => ?_) (fun h' => absurd c3 h')
    refine Ev.cond (fun _ => ?_) (fun h' => absurd c1 h')
    by_cases he : R[n] = S[n]
    · rw [if_pos he, Int.zero_add]
      exact Ev.cond (fun _ => ih (n + 1) c (by omega) h0 (by omega)) (fun h' => absurd he h')
    · rw [if_neg he, ← Int.add_assoc]
      exact Ev.cond (fun h' => absurd h' he) (fun _ => ih (n + 1) (c + 1) (by omega) (by omega) (by omega))
theorem WL_l0 {R S : List Int} {kind x11 : Int} {x12 : Bool} {x13 : List Int} (hR : ∀ x ∈ R, x = 48 ∨ x = 49) (hS : ∀ x ∈ S, x = 48 ∨ x = 49) (hl : R.length = S.length) (hl2 : R.length ≤ 1000) (hx : x12 = true → x11 = difL R S) (h2 : difL R S ≤ 2)
    (fin : Ev (fun k => laws_FnWrongLevels.j3 k kind x13 false) true) : ∀ (d n : Nat) (c : Int), n + d = R.length → 0 ≤ c → c ≤ (n : Int) → c + difL (R.drop n) (S.drop n) = difL R S →
    Ev (fun k => laws_FnWrongLevels.l0 k kind (strOfNums S) x11 x12 x13 (strOfNums R) c (n : Int)) true := by
  intro d
  induction d with
  | zero =>
    intro n c h h0 h1 hc
    have c1 : ¬ (n : Int) < (((strOfNums S).size : Nat) : Int) := by rw [str_size]; omega
    rw [List.drop_eq_nil_of_le (show R.length ≤ n by omega)] at hc
    simp only [difL, Int.add_zero] at hc
    apply Ev.succ
    simp only [laws_FnWrongLevels.l0]
    refine Ev.cond (fun h' => absurd h' c1) (fun _ => ?_)
    refine Ev.cond (fun h' => ?_) (fun _ => fin)
    have e := hx h'
    have e2 : x11 = c := by omega
    refine Ev.cond (fun _ => ?_) (fun h' => absurd e2 h')
    rw [decide_eq_false (show ¬ x11 > 2 by omega)]
    exact fin
  | succ d ih =>
    intro n c h h0 h1 hc
    have hn : n < R.length := by omega
    have hn2 : n < S.length := by omega
    have c1 : (n : Int) < (((strOfNums S).size : Nat) : Int) := by rw [str_size]; omega
    have c2 : (0 : Int) ≤ (n : Int) := by omega
    have c3 : (n : Int) < (((strOfNums R).size : Nat) : Int) := by rw [str_size]; omega
    have e1 := bt_bits hR hn
    have e2 := bt_bits hS hn2
    have hw : wrap64 (c + 1) = c + 1 := w64 (by omega) (by omega)
    rw [difL_drop hn hn2] at hc
    apply Ev.succ
    simp only [laws_FnWrongLevels.l0, e1, e2, hw, w64_succ (show n < 9223372036854775807 by omega)]
    refine Ev.cond (fun _ => ?_) (fun h' => absurd c1 h')
    refine Ev.cond (fun _ => ?_) (fun h' => absurd c2 h')
    refine Ev.cond (fun _ => ?_) (fun h' => absurd c3 h')
    by_cases he : R[n] = S[n]
    · rw [if_pos he] at hc
      exact Ev.cond (fun _ => ih (n + 1) c (by omega) h0 (by omega) (by omega)) (fun h' => absurd he h')
    · rw [if_neg he] at hc
      exact Ev.cond (fun h' => absurd h' he) (fun _ => ih (n + 1) (c + 1) (by omega) (by omega) (by omega) (by omega))
theorem str_data (ys : List Int) : (strOfNums ys).data.toList = ys.map fun n => UInt8.ofNat n.toNat := by simp [strOfNums]
theorem lvGo_txt (kind : Int) (l : List UInt8) : ∀ s : Int, lvGo kind s (strOfNums (txtL l)).data.toList = lvGo kind s l := by
  rw [str_data]
  induction l with
  | nil => intro s; rfl
  | cons c l ih =>
    intro s
    have e : (UInt8.ofNat (bitN (c == 49)).toNat == 49) = (c == 49) := by
      generalize (c == 49) = b
      cases b <;> decide
    simp only [txtL, List.map_cons, lvGo, e]
    exact congrArg _ (ih _)
theorem fwS_none {kind : Int} (hp : ¬ (kind = 2 ∨ kind = 3)) : ∀ (l : List UInt8) (s : Int), sOK kind s → fwS kind s (lvGo kind s l) = none := by
  intro l
  induction l with
  | nil => intro s _; rfl
  | cons c l ih =>
    intro s hs
    have hlen : ∀ b, (lvOut kind s b).length = 1 := fun b => by rw [lvOut_len hs b, if_neg hp]
    have hne := lvOut_ne hs
    obtain ⟨x, hx⟩ := List.length_eq_one_iff.1 (hlen (c == 49))
    have hst : stepS kind s x = some (c == 49) := by
      unfold stepS
      rw [← hx]
      generalize (c == 49) = b at *
      cases b
      · rw [if_neg (fun e => hne e.symm), if_pos rfl]
      · rw [if_pos rfl]
    rw [lvGo, hx]
    simp only [List.singleton_append, fwS, hst, ih _ (sOK_next hs _)]
    rfl
theorem fwP_none {kind : Int} (hk : kind = 2 ∨ kind = 3) : ∀ (l : List UInt8) (s : Int), sOK kind s → fwP (lvGo kind s l) = none := by
  intro l
  induction l with
  | nil => intro s _; rfl
  | cons c l ih =>
    intro s hs
    obtain ⟨a, ha, ea, eb⟩ := lvOut_two hk hs
    rw [lvGo]
    have h := ih _ (sOK_next hs (c == 49))
    generalize lvGo kind (lvNext kind s (c == 49)) l = R at *
    generalize (c == 49) = b at *
    cases b
    · rw [ea]
      show fwP (a :: -a :: R) = none
      simp only [fwP]
      rw [if_neg (by omega), if_neg (by simp), h]; rfl
    · rw [eb]
      show fwP (-a :: a :: R) = none
      simp only [fwP]
      rw [if_neg (by omega), if_neg (by simp), h]; rfl
theorem fwN_none {kind : Int} (hk : kindB kind = true) (l : List UInt8) : fwN kind (levelsN kind l) = none := by
  have hs := sOK_start (kinds_of hk)
  unfold fwN levelsN
  by_cases hp : kind = 2 ∨ kind = 3
  · rw [if_pos hp]; exact fwP_none hp l _ hs
  · rw [if_neg hp]; exact fwS_none hp l _ hs
theorem fwN_bits {kind : Int} (hk : kindB kind = true) {xs : List Int} {m : Nat} (hl : xs.length = (if kind = 2 ∨ kind = 3 then 2 else 1) * m) (hin : ∀ x ∈ xs, -1 ≤ x ∧ x ≤ 1) (h : fwN kind xs = none) : ∃ l : List UInt8, levelsN kind l = xs := by
  have hs := sOK_start (kinds_of hk)
  unfold fwN at h
  unfold levelsN
  by_cases hp : kind = 2 ∨ kind = 3
  · rw [if_pos hp] at h hl
    exact fwP_bits hp m xs _ hl hs hin h
  · rw [if_neg hp] at h
    exact fwS_bits xs _ h
theorem WL_j3 {kind : Int} (hk : kindB kind = true) {xs : List Int} {m : Nat} (hl : xs.length = (if kind = 2 ∨ kind = 3 then 2 else 1) * m) (hm : m ≤ 100) (hin : ∀ x ∈ xs, -1 ≤ x ∧ x ≤ 1) : Ev (fun k => laws_FnWrongLevels.j3 k kind xs false) true := by
  have hlen : xs.length ≤ 200 := by rw [hl]; split <;> omega
  have hB : levelsB xs = true := by unfold levelsB; rw [inAll_of hin, decide_eq_true (show xs.length ≤ 800 by omega)]; rfl
  have hcan : canB kind xs = true := by
    unfold canB
    rw [hk, hB, Bool.true_and, Bool.true_and]
    by_cases hp : kind = 2 ∨ kind = 3
    · rw [if_pos hp] at hl ⊢
      exact decide_eq_true (by omega)
    · rw [if_neg hp]
      exact decide_eq_true (by omega)
  have t1 := fw_impl hk hB (.inr (by omega))
  have t2 := RdI_impl kind xs (by omega)
  unfold RdI_ans at t2
  rw [if_pos hcan] at t2
  have hsz : (strOfNums (readN kind xs)).size ≤ 1048576 := by rw [str_size, readN_len hl]; omega
  have t3 := levelsOf_ev kind hk (strOfNums (readN kind xs)) hsz
  have t3l : (levelsN kind (strOfNums (readN kind xs)).data.toList).length ≤ 1099511627776 := by
    unfold levelsN
    rw [lvGo_len _ (sOK_start (kinds_of hk)), size_data, str_size, readN_len hl]
    split <;> omega
  have t4 := slicesEqual_ev (levelsN kind (strOfNums (readN kind xs)).data.toList) xs t3l
  apply Ev.succ
  simp only [laws_FnWrongLevels.j3]
  refine Ev.cond (fun h' => absurd h' (by decide)) (fun _ => ?_)
  refine Ev.bind t1 ?_
  by_cases he : levelsN kind (strOfNums (readN kind xs)).data.toList = xs
  · rw [decide_eq_true he] at t4
    have t5 : Ev (fun k => impl_BitsOfLevels.f k kind xs) (strOfNums (readN kind xs), true) := by
      unfold impl_BitsOfLevels.f
      refine Ev.bind t2 ?_
      refine Ev.cond (fun _ => ?_) (fun h' => absurd (by trivial) h')
      refine Ev.bind t3 (Ev.bind t4 ?_)
      exact Ev.cond (fun _ => Ev.now _) (fun h' => absurd (by trivial) h')
    have hn : fwN kind xs = none := by rw [← he]; exact fwN_none hk _
    rw [hn]
    refine Ev.bind t5 ?_
    refine Ev.cond (fun h' => absurd h' (by simp [fwR])) (fun _ => ?_)
    refine Ev.cond (fun h' => absurd h' (by simp [fwR])) (fun _ => ?_)
    apply Ev.succ
    simp only [laws_FnWrongLevels.j4]
    refine Ev.cond (fun h' => absurd h' (by decide)) (fun _ => ?_)
    exact Ev.cond (fun h' => absurd h' (by decide)) (fun _ => Ev.now _)
  · rw [decide_eq_false he] at t4
    have t5 : Ev (fun k => impl_BitsOfLevels.f k kind xs) ((⟨#[]⟩ : ByteArray), false) := by
      unfold impl_BitsOfLevels.f
      refine Ev.bind t2 ?_
      refine Ev.cond (fun _ => ?_) (fun h' => absurd (by trivial) h')
      refine Ev.bind t3 (Ev.bind t4 ?_)
      exact Ev.cond (fun h' => absurd h' (by decide)) (fun _ => Ev.now _)
    cases hf : fwN kind xs with
    | none =>
      obtain ⟨l, hl2⟩ := fwN_bits hk hl hin hf
      have hr := RB_read kind hk l
      rw [hl2] at hr
      refine absurd ?_ he
      rw [hr]
      unfold levelsN
      rw [lvGo_txt]
      exact hl2
    | some a =>
      obtain ⟨p1, p2, p3⟩ := fwN_pre hf
      have sub : ∀ b : Nat, levelsB (xs.take b) = true ∧ (xs.take b).length ≤ 400 := by
        intro b
        have h1 : (xs.take b).length ≤ xs.length := by rw [List.length_take]; omega
        refine ⟨?_, by omega⟩
        unfold levelsB
        rw [inAll_of (fun x hx => hin x (List.mem_of_mem_take hx)), decide_eq_true (show (xs.take b).length ≤ 800 by omega)]; rfl
      have u1 := fw_impl hk (sub a).1 (.inr (sub a).2)
      have u2 := fw_impl hk (sub (a + 1)).1 (.inr (sub (a + 1)).2)
      rw [p2] at u1
      have e0 : ((0 + a : Nat) : Int) = (a : Int) := by omega
      have c1 : ¬ (a : Int) < 0 := by omega
      have c2 : (0 : Int) ≤ (a : Int) := by omega
      have c3 : (a : Int) ≤ (xs.length : Int) := by omega
      have hw : wrap64 ((a : Int) + 1) = ((a + 1 : Nat) : Int) := w64_succ (by omega)
      have c4 : (0 : Int) ≤ ((a + 1 : Nat) : Int) := by omega
      have c5 : ((a + 1 : Nat) : Int) ≤ (xs.length : Int) := by omega
      refine Ev.bind t5 ?_
      simp only [fwR, e0]
      refine Ev.cond (fun h' => absurd h' (by decide)) (fun _ => ?_)
      refine Ev.cond (fun _ => ?_) (fun h' => absurd (by trivial) h')
      refine Ev.cond (fun h' => absurd h' c1) (fun _ => ?_)
      rw [decide_eq_false (show ¬ (a : Int) ≥ (xs.length : Int) by omega)]
      apply Ev.succ
      simp only [laws_FnWrongLevels.j4, hw, Int.toNat_natCast]
      refine Ev.cond (fun h' => absurd h' (by decide)) (fun _ => ?_)
      refine Ev.cond (fun _ => ?_) (fun h' => absurd (by trivial) h')
      refine Ev.cond (fun _ => ?_) (fun h' => absurd c2 h')
      refine Ev.cond (fun _ => ?_) (fun h' => absurd c3 h')
      refine Ev.bind u1 ?_
      refine Ev.cond (fun _ => ?_) (fun h' => absurd c4 h')
      refine Ev.cond (fun _ => ?_) (fun h' => absurd c5 h')
      refine Ev.bind u2 ?_
      cases hq : fwN kind (xs.take (a + 1)) with
      | none => exact absurd hq p3
      | some b =>
        refine Ev.cond (fun h' => absurd h' (by simp [fwR])) (fun _ => ?_)
        exact Ev.now _
theorem FnWrongLevels : laws_FnWrongLevels.Pure := by
  intro l m hl hl2 hlw hm hm2 hmw
  refine Ev.rounds ?_
  unfold laws_FnWrongLevels.f
  obtain ⟨b, hb, _⟩ := r8Long_eq l m
  refine Ev.bind (Ev.const hb) ?_
  refine Ev.cond (fun _ => Ev.now _) (fun _ => ?_)
  obtain ⟨kind, hkd, hk0, hk1⟩ := r8At_eq l hlw 0 6 (by omega) (by omega)
  obtain ⟨t0, ht0, hts, htb⟩ := R8Bits_ev m hmw 20 (by omega) (by omega)
  have hk : kindB kind = true := decide_eq_true (by omega)
  have hks := kinds_of hk
  refine Ev.bind (Ev.const hkd) (Ev.bind ht0 ?_)
  refine Ev.cond (fun _ => ?_) (fun h' => absurd (show t0.size + 1 ≤ 9223372036854775807 by omega) h')
  have htb2 : (t0 ++ (⟨#[49]⟩ : ByteArray)).data.toList.all isBitB = true := by
    rw [ByteArray.data_append, Array.toList_append, List.all_append, htb]; decide
  have hts2 : (t0 ++ (⟨#[49]⟩ : ByteArray)).size = t0.size + 1 := by rw [ByteArray.size_append]; rfl
  generalize t0 ++ (⟨#[49]⟩ : ByteArray) = t at *
  have htB : bitsB t = true := by unfold bitsB; rw [htb2, decide_eq_true (show t.size ≤ 400 by omega)]; rfl
  have hlo := LO_impl kind t (by omega)
  unfold LO_ans at hlo
  rw [if_pos ⟨hk, htB⟩] at hlo
  have hs : sOK kind (lvStart kind) := sOK_start hks
  have hlen : (levelsN kind t.data.toList).length = (if kind = 2 ∨ kind = 3 then 2 else 1) * t.size := by
    unfold levelsN; rw [lvGo_len _ hs, size_data]
  have hin : ∀ x ∈ levelsN kind t.data.toList, -1 ≤ x ∧ x ≤ 1 := lvGo_in _ hs
  have hrd := RB_read kind hk t.data.toList
  have hst := RB_str t htb2
  refine Ev.bind hlo ?_
  refine Ev.cond (fun _ => ?_) (fun h' => absurd (by trivial) h')
  generalize levelsN kind t.data.toList = L at *
  generalize txtL t.data.toList = S at *
  have hge : t.size ≤ L.length := by rw [hlen]; split <;> omega
  have hle : L.length ≤ 2 * t.size := by rw [hlen]; split <;> omega
  rw [decide_eq_false (show ¬ (L.length : Int) < (t.size : Int) by omega)]
  apply Ev.succ
  simp only [laws_FnWrongLevels.j0]
  refine Ev.cond (fun h' => absurd h' (by decide)) (fun _ => ?_)
  obtain ⟨p, hp, hp0, hp1⟩ := r8At_eq l hlw 1 (L.length : Int) (by omega) (by omega)
  obtain ⟨v, hv, hv0, hv1⟩ := r8At_eq l hlw 2 3 (by omega) (by omega)
  obtain ⟨p, rfl⟩ := Int.eq_ofNat_of_zero_le hp0
  have hpL : p < L.length := by omega
  have hvw : wrap64 (v - 1) = v - 1 := w64 (by omega) (by omega)
  refine Ev.bind (Ev.const hp) (Ev.bind (Ev.const hv) ?_)
  rw [hvw]
  generalize hu : v - 1 = u at *
  have hu1 : -1 ≤ u ∧ u ≤ 1 := by omega
  have hSin : ∀ x ∈ S, x = 48 ∨ x = 49 := by rw [← hrd]; exact readN_in kind L
  have hRin : ∀ x ∈ readN kind (L.set p u), x = 48 ∨ x = 49 := readN_in kind _
  have hblen : (L.set p u).length = (if kind = 2 ∨ kind = 3 then 2 else 1) * t.size := by rw [List.length_set]; exact hlen
  have hRl : (readN kind (L.set p u)).length = t.size := readN_len hblen
  have hSl : S.length = t.size := by rw [← hrd]; exact readN_len hlen
  have hdif : difL (readN kind (L.set p u)) S ≤ 2 := by rw [← hrd]; exact readN_set kind u L p
  have hbin : ∀ x ∈ L.set p u, -1 ≤ x ∧ x ≤ 1 := by
    intro x hx
    rcases List.mem_or_eq_of_mem_set hx with h | h
    · exact hin x h
    · rw [h]; exact hu1
  have hpar : pairB kind = true → (L.set p u).length % 2 = 0 := by
    intro h
    have h := of_decide_eq_true h
    rw [hblen, if_pos h]; omega
  have hrlv := readLevels_impl kind hk (L.set p u) (by rw [List.length_set]; omega) hpar
  have hwb : Ev (fun k => impl_WrongBehind.f k kind t (p : Int) u) (if rd L (p : Int) = u then (0, false) else (difL (readN kind (L.set p u)) S, true)) := by
    have c1 : (0 : Int) ≤ (p : Int) := by omega
    have c2 : (p : Int) < (L.length : Int) := by omega
    have hw2 : wrap64 ((L.length : Int) - 1) = (L.length : Int) - 1 := w64 (by omega) (by omega)
    unfold impl_WrongBehind.f
    refine Ev.bind hlo ?_
    refine Ev.cond (fun _ => ?_) (fun h' => absurd (by trivial) h')
    refine Ev.bind (Ev.const (within_eq _ _ _)) ?_
    rw [hw2, decide_eq_true (show 0 ≤ (p : Int) ∧ (p : Int) ≤ (L.length : Int) - 1 by omega)]
    refine Ev.cond (fun _ => ?_) (fun h' => absurd (by trivial) h')
    refine Ev.bind (Ev.const (within_eq _ _ _)) ?_
    rw [decide_eq_true hu1]
    refine Ev.cond (fun _ => ?_) (fun h' => absurd (by trivial) h')
    refine Ev.cond (fun _ => ?_) (fun h' => absurd c1 h')
    refine Ev.cond (fun _ => ?_) (fun h' => absurd c2 h')
    apply Ev.succ
    simp only [impl_WrongBehind.j0, Int.toNat_natCast]
    by_cases he : rd L (p : Int) = u
    · rw [if_pos he, beq_iff_eq.2 he]
      exact Ev.cond (fun _ => Ev.now _) (fun h' => absurd (by trivial) h')
    · rw [if_neg he, beq_eq_false_iff_ne.2 he]
      refine Ev.cond (fun h' => absurd h' (by decide)) (fun _ => ?_)
      refine Ev.cond (fun _ => ?_) (fun h' => absurd c1 h')
      refine Ev.cond (fun _ => ?_) (fun h' => absurd c2 h')
      refine Ev.bind hrlv ?_
      have h := WL_wb hRin hSin (by omega) (by omega) t.size 0 0 (by omega) (by omega) (by omega)
      rw [List.drop_zero, List.drop_zero, Int.zero_add, hst] at h
      exact h
  refine Ev.bind hwb ?_
  have c1 : (0 : Int) ≤ (p : Int) := by omega
  have c2 : (p : Int) < (L.length : Int) := by omega
  refine Ev.cond (fun _ => ?_) (fun h' => absurd c1 h')
  refine Ev.cond (fun _ => ?_) (fun h' => absurd c2 h')
  have e2 : ((if rd L (p : Int) = u then ((0 : Int), false) else (difL (readN kind (L.set p u)) S, true)).2 != (rd L (p : Int) != u)) = false := by
    by_cases he : rd L (p : Int) = u
    · rw [if_pos he, he, bne_self_eq_false]; rfl
    · rw [if_neg he, bne_iff_ne.2 he]; rfl
  rw [e2]
  refine Ev.cond (fun h' => absurd h' (by decide)) (fun _ => ?_)
  refine Ev.bind (Ev.now _) ?_
  refine Ev.cond (fun _ => ?_) (fun h' => absurd (show ([] : List Int).length + L.length < 17592186044416 by simp; omega) h')
  refine Ev.bind (Ev.now _) ?_
  rw [List.nil_append, Int.toNat_natCast]
  refine Ev.cond (fun _ => ?_) (fun h' => absurd c2 h')
  refine Ev.bind (Ev.now _) ?_
  have hB : levelsB (L.set p u) = true := by unfold levelsB; rw [inAll_of hbin, decide_eq_true (show (L.set p u).length ≤ 800 by rw [List.length_set]; omega)]; rfl
  have hcan : canB kind (L.set p u) = true := by
    unfold canB
    rw [hk, hB, Bool.true_and, Bool.true_and]
    by_cases hp : kind = 2 ∨ kind = 3
    · rw [if_pos hp]
      exact decide_eq_true (hpar (decide_eq_true hp))
    · rw [if_neg hp]
      exact decide_eq_true (by rw [List.length_set]; omega)
  have t3 := RdI_impl kind (L.set p u) (by rw [List.length_set]; omega)
  unfold RdI_ans at t3
  rw [if_pos hcan] at t3
  refine Ev.bind t3 ?_
  refine Ev.cond (fun _ => ?_) (fun h' => absurd (by trivial) h')
  rw [show ((((strOfNums (readN kind (L.set p u))).size : Nat) : Int) != (t.size : Int)) = false by rw [str_size, hRl]; simp]
  apply Ev.succ
  simp only [laws_FnWrongLevels.j1]
  refine Ev.cond (fun h' => absurd h' (by decide)) (fun _ => ?_)
  have fin := WL_j3 hk hblen (by omega) hbin
  have h := WL_l0 (kind := kind) (x11 := (if rd L (p : Int) = u then ((0 : Int), false) else (difL (readN kind (L.set p u)) S, true)).1) (x12 := (if rd L (p : Int) = u then ((0 : Int), false) else (difL (readN kind (L.set p u)) S, true)).2)
    (x13 := L.set p u) hRin hSin (by omega) (by omega) (by
      intro h'
      by_cases he : rd L (p : Int) = u
      · rw [if_pos he] at h'; exact absurd h' (by decide)
      · rw [if_neg he]) hdif fin t.size 0 0 (by omega) (by omega) (by omega) (by rw [List.drop_zero, List.drop_zero, Int.zero_add])
  rw [hst] at h
  exact h

end Go.Proofs.YthaafdeicgbajaaDoor.Pure
