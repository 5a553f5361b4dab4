/- Expressions: how they are read, and what they mean. -/
import Derived.Test.YtbddklkfekiaeaaC1
set_option maxHeartbeats 4000000
set_option synthInstance.maxHeartbeats 400000
set_option synthInstance.maxSize 4096
set_option linter.unusedSimpArgs false
set_option linter.unusedVariables false
namespace Go.Proofs.Ytbddklkfekiaeaa

set_option maxRecDepth 100000

inductive Ex where
  | mark (w : ByteArray) : Ex
  | mod (w : ByteArray) : Ex
  | neg (e : Ex) : Ex
  | con (a b : Ex) : Ex
  | dis (a b : Ex) : Ex

def Ex.ev (m : ByteArray) (marks : List ByteArray) : Ex → Bool
  | .mark w => decide (w ∈ marks)
  | .mod w => decide (w = m)
  | .neg e => !e.ev m marks
  | .con a b => a.ev m marks && b.ev m marks
  | .dis a b => a.ev m marks || b.ev m marks

abbrev Bs := List UInt8
/-- A text of bytes. -/
def tx (s : Bs) : ByteArray := ⟨s.toArray⟩
def notW : Bs := [110, 111, 116, 32]
def openW : Bs := [40]
def closeW : Bs := [41]
def atW : Bs := [64]
def andW : Bs := [32, 97, 110, 100, 32]
def orW : Bs := [32, 111, 114, 32]

/-- A name or a module. -/
def atomP (s : Bs) : Option (Ex × Bs) :=
  if atW.isPrefixOf s then (if nmOk (tx ((s.drop 1).takeWhile lettr)) then some (.mod (tx ((s.drop 1).takeWhile lettr)), (s.drop 1).dropWhile lettr) else none)
  else (if nmOk (tx (s.takeWhile lettr)) then some (.mark (tx (s.takeWhile lettr)), s.dropWhile lettr) else none)

def loopP (take : Bs → Option (Ex × Bs)) (w : Bs) (op : Ex → Ex → Ex) : Nat → Ex → Bs → Option (Ex × Bs)
  | 0, _, _ => none
  | n + 1, e, r => if w.isPrefixOf r then (match take (r.drop w.length) with
    | some (e2, r2) => loopP take w op n (op e e2) r2
    | none => none) else some (e, r)

def facP (row fac : Bs → Option (Ex × Bs)) (s : Bs) : Option (Ex × Bs) :=
  if notW.isPrefixOf s then (match fac (s.drop 4) with
    | some (e, r) => some (.neg e, r)
    | none => none)
  else if openW.isPrefixOf s then (match row (s.drop 1) with
    | some (e, r) => if closeW.isPrefixOf r then some (e, r.drop 1) else none
    | none => none)
  else atomP s

def rowP (take : Bs → Option (Ex × Bs)) (w : Bs) (op : Ex → Ex → Ex) (n : Nat) (s : Bs) : Option (Ex × Bs) :=
  match take s with
  | some (e, r) => loopP take w op n e r
  | none => none

inductive Lv where
  | fac : Lv
  | con : Lv
  | dis : Lv
def Lv.n : Lv → Nat
  | .fac => 0
  | .con => 1
  | .dis => 2

def parse : Nat → Lv → Bs → Option (Ex × Bs)
  | 0, _, _ => none
  | n + 1, .fac, s => facP (parse n .dis) (parse n .fac) s
  | n + 1, .con, s => rowP (parse n .fac) andW .con n s
  | n + 1, .dis, s => rowP (parse n .con) orW .dis n s

/-- What is read of an expression. -/
def exprP (s : ByteArray) : Option Ex :=
  if s.size ≤ 60 then (match parse 1000 .dis s.data.toList with
    | some (e, []) => some e
    | _ => none) else none

def Short (take : Bs → Option (Ex × Bs)) : Prop := ∀ s e r, take s = some (e, r) → r <:+ s ∧ r.length < s.length

theorem dropWhile_suffix' {α : Type} (p : α → Bool) : ∀ (s : List α), s.dropWhile p <:+ s
  | [] => List.suffix_refl _
  | x :: s => by
    rw [List.dropWhile_cons]
    split
    · exact (dropWhile_suffix' p s).trans (List.suffix_cons ..)
    · exact List.suffix_refl _

theorem take_drop_len {α : Type} (p : α → Bool) : ∀ (s : List α), (s.takeWhile p).length + (s.dropWhile p).length = s.length
  | [] => rfl
  | x :: s => by
    rw [List.dropWhile_cons, List.takeWhile_cons]
    split
    · have := take_drop_len p s
      simp only [List.length_cons]
      omega
    · simp

theorem nm_size {s : ByteArray} (h : nmOk s = true) : 1 ≤ s.size ∧ s.size ≤ 6 := by
  unfold nmOk at h
  simp only [Bool.and_eq_true, decide_eq_true_eq] at h
  omega

theorem tx_size (s : Bs) : (tx s).size = s.length := by
  show s.toArray.size = _
  simp

theorem atomP_short : Short atomP := by
  intro s e r h
  unfold atomP at h
  have key : ∀ t : Bs, t <:+ s → ∀ (f : ByteArray → Ex), (if nmOk (tx (t.takeWhile lettr)) then some (f (tx (t.takeWhile lettr)), t.dropWhile lettr) else none) = some (e, r) → r <:+ s ∧ r.length < s.length := by
    intro t ht f hq
    split at hq
    · rename_i hn
      injection hq with hq
      injection hq with _ hq
      subst hq
      have h1 := (nm_size hn).1
      rw [tx_size] at h1
      have h2 := take_drop_len lettr t
      have h3 := ht.length_le
      exact ⟨(dropWhile_suffix' lettr t).trans ht, by omega⟩
    · cases hq
  split at h
  · exact key _ (List.drop_suffix ..) _ h
  · exact key _ (List.suffix_refl _) _ h

theorem loopP_short {take : Bs → Option (Ex × Bs)} (ht : Short take) (w : Bs) (op : Ex → Ex → Ex) : ∀ (n : Nat) (e : Ex) (s : Bs) (e' : Ex) (r : Bs), loopP take w op n e s = some (e', r) → r <:+ s
  | 0, _, _, _, _, h => by cases h
  | n + 1, e, s, e', r, h => by
    unfold loopP at h
    split at h
    · split at h
      · rename_i e2 r2 hq
        exact (loopP_short ht w op n _ r2 e' r h).trans ((ht _ _ _ hq).1.trans (List.drop_suffix ..))
      · cases h
    · injection h with h
      injection h with _ h
      subst h
      exact List.suffix_refl _

theorem rowP_short {take : Bs → Option (Ex × Bs)} (ht : Short take) (w : Bs) (op : Ex → Ex → Ex) (n : Nat) : Short (rowP take w op n) := by
  intro s e r h
  unfold rowP at h
  split at h
  · rename_i e1 r1 hq
    have h1 := ht _ _ _ hq
    have h2 := loopP_short ht w op n _ _ _ _ h
    exact ⟨h2.trans h1.1, Nat.lt_of_le_of_lt h2.length_le h1.2⟩
  · cases h

theorem pre_len {w s : Bs} (h : w.isPrefixOf s = true) : w.length ≤ s.length := by
  rw [List.isPrefixOf_iff_prefix] at h
  exact h.length_le

theorem facP_short {row fac : Bs → Option (Ex × Bs)} (hr : Short row) (hf : Short fac) : Short (facP row fac) := by
  intro s e r h
  unfold facP at h
  split at h
  · rename_i hp
    have := pre_len hp
    split at h
    · rename_i e1 r1 hq
      injection h with h
      injection h with _ h
      subst h
      have h1 := hf _ _ _ hq
      rw [List.length_drop] at h1
      exact ⟨h1.1.trans (List.drop_suffix ..), by omega⟩
    · cases h
  · split at h
    · rename_i hp
      have := pre_len hp
      split at h
      · rename_i e1 r1 hq
        split at h
        · injection h with h
          injection h with _ h
          subst h
          have h1 := hr _ _ _ hq
          rw [List.length_drop] at h1
          refine ⟨((List.drop_suffix ..).trans h1.1).trans (List.drop_suffix ..), ?_⟩
          rw [List.length_drop]
          omega
        · cases h
      · cases h
    · exact atomP_short _ _ _ h

theorem parse_short : ∀ (n : Nat) (l : Lv), Short (parse n l)
  | 0, _ => fun s e r h => by unfold parse at h; cases h
  | n + 1, .fac => facP_short (parse_short n .dis) (parse_short n .fac)
  | n + 1, .con => rowP_short (parse_short n .fac) andW .con n
  | n + 1, .dis => rowP_short (parse_short n .con) orW .dis n

/-! More steps than enough change nothing. -/

theorem loopP_congr {t t' : Bs → Option (Ex × Bs)} {w : Bs} {op : Ex → Ex → Ex} (hs : Short t) (hw : 0 < w.length) : ∀ (m m' : Nat) (e : Ex) (r : Bs), r.length < m → r.length < m' → (∀ s : Bs, s.length < r.length → t s = t' s) → loopP t w op m e r = loopP t' w op m' e r
  | 0, _, _, _, h, _, _ => absurd h (Nat.not_lt_zero _)
  | _ + 1, 0, _, _, _, h, _ => absurd h (Nat.not_lt_zero _)
  | m + 1, m' + 1, e, r, h1, h2, ht => by
    unfold loopP
    split
    · rename_i hp
      have hl := pre_len hp
      have hd : (r.drop w.length).length < r.length := by rw [List.length_drop]; omega
      rw [← ht _ hd]
      split
      · rename_i e2 r2 hq
        have := (hs _ _ _ hq).2
        exact loopP_congr hs hw m m' _ r2 (by omega) (by omega) fun s hs2 => ht s (by omega)
      · rfl
    · rfl

theorem parse_fuel : ∀ (n : Nat) (l : Lv) (s : Bs), 3 * s.length + l.n < n → parse n l s = parse (n + 1) l s
  | 0, _, _, h => absurd h (Nat.not_lt_zero _)
  | n + 1, .fac, s, h => by
    have h : 3 * s.length + 0 < n + 1 := h
    show facP (parse n .dis) (parse n .fac) s = facP (parse (n + 1) .dis) (parse (n + 1) .fac) s
    unfold facP
    split
    · rename_i hp
      have := pre_len hp
      rw [parse_fuel n .fac (s.drop 4) (by show 3 * _ + 0 < n; rw [List.length_drop]; have h4 : notW.length = 4 := rfl; omega)]
    · split
      · rename_i hp
        have := pre_len hp
        rw [parse_fuel n .dis (s.drop 1) (by show 3 * _ + 2 < n; rw [List.length_drop]; have h4 : openW.length = 1 := rfl; omega)]
      · rfl
  | n + 1, .con, s, h => by
    have h : 3 * s.length + 1 < n + 1 := h
    show rowP (parse n .fac) andW .con n s = rowP (parse (n + 1) .fac) andW .con (n + 1) s
    unfold rowP
    rw [← parse_fuel n .fac s (by show 3 * _ + 0 < n; omega)]
    split
    · rename_i e r hq
      have h1 := (parse_short n .fac _ _ _ hq).2
      exact loopP_congr (parse_short n .fac) (by decide) _ _ _ _ (by omega) (by omega) fun t ht => parse_fuel n .fac t (by show 3 * _ + 0 < n; omega)
    · rfl
  | n + 1, .dis, s, h => by
    have h : 3 * s.length + 2 < n + 1 := h
    show rowP (parse n .con) orW .dis n s = rowP (parse (n + 1) .con) orW .dis (n + 1) s
    unfold rowP
    rw [← parse_fuel n .con s (by show 3 * _ + 1 < n; omega)]
    split
    · rename_i e r hq
      have h1 := (parse_short n .con _ _ _ hq).2
      exact loopP_congr (parse_short n .con) (by decide) _ _ _ _ (by omega) (by omega) fun t ht => parse_fuel n .con t (by show 3 * _ + 1 < n; omega)
    · rfl

/-! A bracket that closes ends what is read. -/

theorem pre_ctx {w : Bs} (hw : ∀ b, b ∈ w → b ≠ 41) (s u : Bs) : w.isPrefixOf (s ++ 41 :: u) = w.isPrefixOf s := by
  induction w generalizing s with
  | nil => rw [List.isPrefixOf_nil_left, List.isPrefixOf_nil_left]
  | cons x w ih =>
    have hx := hw x (List.mem_cons_self ..)
    cases s with
    | nil =>
      show (x == 41 && _) = false
      rw [show (x == 41) = false by simpa using hx, Bool.false_and]
    | cons y s =>
      show (x == y && w.isPrefixOf (s ++ 41 :: u)) = (x == y && w.isPrefixOf s)
      rw [ih (fun b hb => hw b (List.mem_cons_of_mem _ hb)) s]
theorem drop_ctx {w : Bs} {s : Bs} (h : w.isPrefixOf s = true) (u : Bs) : (s ++ u).drop w.length = s.drop w.length ++ u := by
  rw [List.drop_append_of_le_length (pre_len h)]
theorem letters_ctx : ∀ (s u : Bs), (s ++ 41 :: u).takeWhile lettr = s.takeWhile lettr ∧ (s ++ 41 :: u).dropWhile lettr = s.dropWhile lettr ++ 41 :: u
  | [], u => by
    have h : lettr 41 = false := by decide
    rw [List.nil_append, List.takeWhile_cons, List.dropWhile_cons, h]
    exact ⟨rfl, rfl⟩
  | x :: s, u => by
    have ih := letters_ctx s u
    rw [List.cons_append, List.takeWhile_cons, List.dropWhile_cons, List.takeWhile_cons, List.dropWhile_cons, ih.1, ih.2]
    split
    · exact ⟨rfl, rfl⟩
    · exact ⟨rfl, rfl⟩

def Ctx (take : Bs → Option (Ex × Bs)) (u : Bs) : Prop := ∀ s e r, take s = some (e, r) → take (s ++ 41 :: u) = some (e, r ++ 41 :: u)
theorem atomP_ctx (u : Bs) : Ctx atomP u := by
  intro s e r h
  have key : ∀ (t : Bs) (f : ByteArray → Ex), (if nmOk (tx (t.takeWhile lettr)) then some (f (tx (t.takeWhile lettr)), t.dropWhile lettr) else none) = some (e, r) → (if nmOk (tx ((t ++ 41 :: u).takeWhile lettr)) then some (f (tx ((t ++ 41 :: u).takeWhile lettr)), (t ++ 41 :: u).dropWhile lettr) else none) = some (e, r ++ 41 :: u) := by
    intro t f hq
    rw [(letters_ctx t u).1, (letters_ctx t u).2]
    split at hq
    · rename_i hn
      rw [if_pos hn]
      injection hq with hq
      injection hq with h1 h2
      rw [h1, h2]
    · cases hq
  unfold atomP at h ⊢
  rw [pre_ctx (by decide)]
  split at h
  · rename_i hp
    rw [if_pos hp]
    have : (s ++ 41 :: u).drop 1 = s.drop 1 ++ 41 :: u := drop_ctx hp _
    rw [this]
    exact key _ _ h
  · rename_i hp
    rw [if_neg hp]
    exact key _ _ h

theorem loopP_ctx {take : Bs → Option (Ex × Bs)} {u w : Bs} (ht : Ctx take u) (hw : ∀ b, b ∈ w → b ≠ 41) (op : Ex → Ex → Ex) : ∀ (n : Nat) (e : Ex) (s : Bs) (e' : Ex) (r : Bs), loopP take w op n e s = some (e', r) → loopP take w op n e (s ++ 41 :: u) = some (e', r ++ 41 :: u)
  | 0, _, _, _, _, h => by cases h
  | n + 1, e, s, e', r, h => by
    unfold loopP at h ⊢
    rw [pre_ctx hw]
    split at h
    · rename_i hp
      rw [if_pos hp, drop_ctx hp]
      split at h
      · rename_i e2 r2 hq
        rw [ht _ _ _ hq]
        exact loopP_ctx ht hw op n _ _ _ _ h
      · cases h
    · rename_i hp
      rw [if_neg hp]
      injection h with h
      injection h with h1 h2
      rw [h1, h2]

theorem rowP_ctx {take : Bs → Option (Ex × Bs)} {u w : Bs} (ht : Ctx take u) (hw : ∀ b, b ∈ w → b ≠ 41) (op : Ex → Ex → Ex) (n : Nat) : Ctx (rowP take w op n) u := by
  intro s e r h
  unfold rowP at h ⊢
  split at h
  · rename_i e1 r1 hq
    rw [ht _ _ _ hq]
    exact loopP_ctx ht hw op n _ _ _ _ h
  · cases h

theorem facP_ctx {row fac : Bs → Option (Ex × Bs)} {u : Bs} (hr : Ctx row u) (hf : Ctx fac u) : Ctx (facP row fac) u := by
  intro s e r h
  unfold facP at h ⊢
  rw [pre_ctx (w := notW) (by decide), pre_ctx (w := openW) (by decide)]
  split at h
  · rename_i hp
    rw [if_pos hp]
    have : (s ++ 41 :: u).drop 4 = s.drop 4 ++ 41 :: u := drop_ctx hp _
    rw [this]
    split at h
    · rename_i e1 r1 hq
      rw [hf _ _ _ hq]
      injection h with h
      injection h with h1 h2
      rw [← h1, ← h2]
    · cases h
  · rename_i hp
    rw [if_neg hp]
    split at h
    · rename_i hp2
      rw [if_pos hp2]
      have : (s ++ 41 :: u).drop 1 = s.drop 1 ++ 41 :: u := drop_ctx hp2 _
      rw [this]
      split at h
      · rename_i e1 r1 hq
        rw [hr _ _ _ hq]
        split at h
        · rename_i hc
          cases r1 with
          | nil => exact absurd hc (by decide)
          | cons x r1 =>
            have hx : closeW.isPrefixOf (x :: r1 ++ 41 :: u) = true := by
              show (41 == x && ([] : Bs).isPrefixOf (r1 ++ 41 :: u)) = true
              have : (41 == x && ([] : Bs).isPrefixOf r1) = true := hc
              rw [List.isPrefixOf_nil_left] at this ⊢
              exact this
            injection h with h
            injection h with h1 h2
            rw [← h1, ← h2]
            simp only [hx, if_true]
            rfl
        · cases h
      · cases h
    · rename_i hp2
      rw [if_neg hp2]
      exact atomP_ctx u _ _ _ h

theorem parse_ctx (u : Bs) : ∀ (n : Nat) (l : Lv), Ctx (parse n l) u
  | 0, _ => fun s e r h => by unfold parse at h; cases h
  | n + 1, .fac => facP_ctx (parse_ctx u n .dis) (parse_ctx u n .fac)
  | n + 1, .con => rowP_ctx (parse_ctx u n .fac) (by decide) .con n
  | n + 1, .dis => rowP_ctx (parse_ctx u n .con) (by decide) .dis n

theorem row_end {take : Bs → Option (Ex × Bs)} {w : Bs} {op : Ex → Ex → Ex} {n : Nat} {s : Bs} {e : Ex} (hw : 0 < w.length) (hn : 0 < n) (h : take s = some (e, [])) : rowP take w op n s = some (e, []) := by
  unfold rowP
  rw [h]
  cases n with
  | zero => omega
  | succ n =>
    show loopP take w op (n + 1) e [] = _
    unfold loopP
    cases w with
    | nil => cases hw
    | cons x w => rfl
/-- What is one factor is an expression. -/
theorem fac_dis {n : Nat} {s : Bs} {e : Ex} (hn : 0 < n) (h : parse n .fac s = some (e, [])) : parse (n + 2) .dis s = some (e, []) :=
  row_end (by decide) (by omega) (row_end (by decide) hn h)

theorem parse_less {n k : Nat} {l : Lv} {s : Bs} (h : 3 * s.length + l.n < n) : parse (n + k) l s = parse n l s := by
  induction k with
  | zero => rfl
  | succ k ih => rw [← ih]; exact (parse_fuel (n + k) l s (by omega)).symm

theorem pre_head {b x : UInt8} {w t : Bs} (h : b ≠ x) : (b :: w).isPrefixOf (x :: t) = false := by
  show (b == x && _) = false
  rw [show (b == x) = false by simpa using h, Bool.false_and]
theorem pre_self (w t : Bs) : w.isPrefixOf (w ++ t) = true := by
  rw [List.isPrefixOf_iff_prefix]
  exact List.prefix_append ..
/-- The expression of not, and another one in brackets. -/
theorem exprP_not {s : ByteArray} {e : Ex} (h : exprP s = some e) (hl : s.size + 6 ≤ 60) : exprP (tx (notW ++ openW ++ s.data.toList ++ closeW)) = some (.neg e) := by
  have hlen : s.data.toList.length = s.size := by rw [Array.length_toList]; rfl
  unfold exprP at h
  rw [if_pos (by omega)] at h
  split at h
  · rename_i e' hq
    injection h with h
    subst h
    have h1 : parse 996 .dis s.data.toList = some (e', []) := by
      rw [← hq]
      exact (parse_less (n := 996) (k := 4) (l := .dis) (by show 3 * _ + 2 < 996; omega)).symm
    have h2 := parse_ctx [] 996 .dis _ _ _ h1
    have h3 : parse 997 .fac (openW ++ s.data.toList ++ closeW) = some (e', []) := by
      have hn : notW.isPrefixOf (openW ++ (s.data.toList ++ [41])) = false := pre_head (by decide)
      show facP (parse 996 .dis) (parse 996 .fac) (openW ++ (s.data.toList ++ [41])) = _
      unfold facP
      rw [if_neg (by rw [hn]; decide), if_pos (pre_self _ _)]
      show (match parse 996 .dis (s.data.toList ++ [41]) with
        | some (e, r) => if closeW.isPrefixOf r then some (e, r.drop 1) else none
        | none => none) = _
      rw [h2]
      rfl
    have h4 : parse 998 .fac (notW ++ openW ++ s.data.toList ++ closeW) = some (.neg e', []) := by
      show facP (parse 997 .dis) (parse 997 .fac) (notW ++ (openW ++ s.data.toList ++ closeW)) = _
      unfold facP
      rw [if_pos (pre_self _ _)]
      show (match parse 997 .fac (openW ++ s.data.toList ++ closeW) with
        | some (e, r) => some (Ex.neg e, r)
        | none => none) = _
      rw [h3]
    unfold exprP
    rw [tx_size, if_pos (by simp [notW, openW, closeW]; omega)]
    have h5 := fac_dis (by omega) h4
    show (match parse 1000 .dis (notW ++ openW ++ s.data.toList ++ closeW).toArray.toList with
      | some (e, []) => some e
      | _ => none) = _
    rw [List.toList_toArray, h5]
  · cases h

theorem takeWhile_all {α : Type} {p : α → Bool} : ∀ {s : List α}, s.all p = true → s.takeWhile p = s ∧ s.dropWhile p = []
  | [], _ => ⟨rfl, rfl⟩
  | x :: s, h => by
    rw [List.all_cons, Bool.and_eq_true] at h
    have ih := takeWhile_all h.2
    rw [List.takeWhile_cons, List.dropWhile_cons, h.1, ih.1, ih.2]
    exact ⟨rfl, rfl⟩
theorem nm_letters {s : ByteArray} (h : nmOk s = true) : s.data.toList.all lettr = true := by
  unfold nmOk at h
  rw [Bool.and_eq_true] at h
  exact h.1
theorem tx_self (s : ByteArray) : tx s.data.toList = s := by
  cases s
  rfl
theorem nm_first {s : ByteArray} (h : nmOk s = true) : ∃ x t, s.data.toList = x :: t ∧ lettr x = true := by
  have h1 := nm_letters h
  have h2 := (nm_size h).1
  have hlen : s.data.toList.length = s.size := by rw [Array.length_toList]; rfl
  cases hq : s.data.toList with
  | nil => rw [hq] at hlen; simp at hlen; omega
  | cons x t =>
    rw [hq, List.all_cons, Bool.and_eq_true] at h1
    exact ⟨x, t, rfl, h1.1⟩
theorem nm_notW {s : Bs} (h : s.all lettr = true) : notW.isPrefixOf s = false := by
  cases hq : notW.isPrefixOf s with
  | false => rfl
  | true =>
    rw [List.isPrefixOf_iff_prefix] at hq
    have := List.all_eq_true.1 h 32 (hq.subset (by decide))
    exact absurd this (by decide)
/-- A name is an expression, and so is a module. -/
theorem exprP_mark {w : ByteArray} (h : nmOk w = true) : exprP w = some (.mark w) := by
  have hw := takeWhile_all (nm_letters h)
  obtain ⟨x, t, hx, hl⟩ := nm_first h
  have hs := (nm_size h).2
  have h1 : parse 998 .fac w.data.toList = some (.mark w, []) := by
    show facP (parse 997 .dis) (parse 997 .fac) w.data.toList = _
    unfold facP
    rw [if_neg (by rw [nm_notW (nm_letters h)]; decide)]
    have ho : openW.isPrefixOf w.data.toList = false := by rw [hx]; exact pre_head (by rintro rfl; exact absurd hl (by decide))
    have ha : atW.isPrefixOf w.data.toList = false := by rw [hx]; exact pre_head (by rintro rfl; exact absurd hl (by decide))
    rw [if_neg (by rw [ho]; decide)]
    unfold atomP
    rw [if_neg (by rw [ha]; decide), hw.1, hw.2, tx_self, if_pos h]
  unfold exprP
  rw [if_pos (by omega), fac_dis (by omega) h1]
theorem exprP_mod {w : ByteArray} (h : nmOk w = true) : exprP (tx (64 :: w.data.toList)) = some (.mod w) := by
  have hw := takeWhile_all (nm_letters h)
  have hs := (nm_size h).2
  have hlen : w.data.toList.length = w.size := by rw [Array.length_toList]; rfl
  have h1 : parse 998 .fac (64 :: w.data.toList) = some (.mod w, []) := by
    show facP (parse 997 .dis) (parse 997 .fac) (64 :: w.data.toList) = _
    unfold facP
    have hn : notW.isPrefixOf (64 :: w.data.toList) = false := pre_head (by decide)
    have ho : openW.isPrefixOf (64 :: w.data.toList) = false := pre_head (by decide)
    rw [if_neg (by rw [hn]; decide), if_neg (by rw [ho]; decide)]
    unfold atomP
    rw [if_pos (show atW.isPrefixOf (64 :: w.data.toList) = true from pre_self atW w.data.toList), List.drop_succ_cons, List.drop_zero, hw.1, hw.2, tx_self, if_pos h]
  unfold exprP
  rw [tx_size, if_pos (by rw [List.length_cons]; omega)]
  show (match parse 1000 .dis (64 :: w.data.toList).toArray.toList with
    | some (e, []) => some e
    | _ => none) = _
  rw [List.toList_toArray, fac_dis (by omega) h1]

end Go.Proofs.Ytbddklkfekiaeaa

