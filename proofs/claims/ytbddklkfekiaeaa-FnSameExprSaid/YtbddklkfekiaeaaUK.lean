/- Expressions: the atoms that the reference finds in the text. -/
import Derived.Test.YtbddklkfekiaeaaUJ
set_option maxHeartbeats 4000000
set_option synthInstance.maxHeartbeats 400000
set_option synthInstance.maxSize 4096
set_option linter.unusedSimpArgs false
set_option linter.unusedVariables false
namespace Go.Proofs.Ytbddklkfekiaeaa

set_option maxRecDepth 100000

def wordB (x : UInt8) : Bool := decide (x = 64) || lettr x
/-- A word that is done: kept if it is an atom. -/
def flushS (acc : List ByteArray) (w : ByteArray) : List ByteArray := if w = ⟨#[]⟩ ∨ w = ⟨#[97, 110, 100]⟩ ∨ w = ⟨#[111, 114]⟩ ∨ w = ⟨#[110, 111, 116]⟩ then acc else addT acc w
def scanS (acc : List ByteArray) (w : Bs) : Bs → List ByteArray
  | [] => flushS acc (tx w)
  | x :: t => if wordB x = true then scanS acc (w ++ [x]) t else scanS (flushS acc (tx w)) [] t
def stepS (st : List ByteArray × Bs) (x : UInt8) : List ByteArray × Bs := if wordB x = true then (st.1, st.2 ++ [x]) else (flushS st.1 (tx st.2), [])
theorem scan_fold : ∀ (s : Bs) (acc : List ByteArray) (w : Bs), scanS acc w s = flushS (s.foldl stepS (acc, w)).1 (tx (s.foldl stepS (acc, w)).2)
  | [], _, _ => rfl
  | x :: s, acc, w => by
    unfold scanS
    rw [List.foldl_cons]
    unfold stepS
    split
    · exact scan_fold s _ _
    · exact scan_fold s _ _
theorem flush_nil (acc : List ByteArray) : flushS acc (tx []) = acc := by
  unfold flushS
  rw [if_pos (.inl rfl)]
theorem flush_atom {acc : List ByteArray} {w : ByteArray} (h0 : w ≠ ⟨#[]⟩) (h1 : (w = ⟨#[110, 111, 116]⟩) = False ∧ (w = ⟨#[97, 110, 100]⟩) = False ∧ (w = ⟨#[111, 114]⟩) = False) : flushS acc w = addT acc w := by
  unfold flushS
  rw [if_neg]
  rintro (h | h | h | h)
  · exact h0 h
  · exact h1.2.1 ▸ h
  · exact h1.2.2 ▸ h
  · exact h1.1 ▸ h
def okEnd (r : Bs) : Prop := ∀ x t, r = x :: t → wordB x = false
theorem okEnd_nil : okEnd [] := fun x t h => by cases h
theorem scan_word : ∀ (ls : Bs) (acc : List ByteArray) (w r : Bs), (∀ x, x ∈ ls → wordB x = true) → scanS acc w (ls ++ r) = scanS acc (w ++ ls) r
  | [], _, w, _, _ => by rw [List.append_nil]; rfl
  | x :: ls, acc, w, r, h => by
    rw [List.cons_append, scanS, if_pos (h x (List.mem_cons_self ..)), scan_word ls acc _ r fun y hy => h y (List.mem_cons_of_mem _ hy), List.append_assoc]
    rfl
theorem scan_end {acc : List ByteArray} {ls r : Bs} (h : okEnd r) : scanS acc ls r = scanS (flushS acc (tx ls)) [] r := by
  cases r with
  | nil => unfold scanS; rw [flush_nil]
  | cons x t =>
    have hx := h x t rfl
    rw [scanS, if_neg (by rw [hx]; decide), scanS, if_neg (by rw [hx]; decide), flush_nil]
def AtP (take : Bs → Option (Ex × Bs)) : Prop := ∀ s e r acc, take s = some (e, r) → okEnd r → scanS acc [] s = scanS (addAll acc e.leaves) [] r
theorem pre_split {w s : Bs} (h : w.isPrefixOf s = true) : s = w ++ s.drop w.length := by
  obtain ⟨t, rfl⟩ := List.isPrefixOf_iff_prefix.1 h
  rw [List.drop_left]
theorem tw_letters (s : Bs) : ∀ x, x ∈ s.takeWhile lettr → wordB x = true := fun x hx => by
  unfold wordB
  have : lettr x = true := by
    induction s with
    | nil => cases hx
    | cons y s ih =>
      rw [List.takeWhile_cons] at hx
      split at hx
      · rename_i hy
        rcases List.mem_cons.1 hx with rfl | hx
        · exact hy
        · exact ih hx
      · cases hx
  rw [this, Bool.or_true]
theorem atomP_scan : AtP atomP := by
  intro s e r acc h hr
  unfold atomP at h
  split at h
  · rename_i hat
    have hs := pre_split hat
    have hd : s.drop 1 = (s.drop 1).takeWhile lettr ++ (s.drop 1).dropWhile lettr := (List.takeWhile_append_dropWhile ..).symm
    split at h
    · rename_i hn
      injection h with h
      injection h with h1 h2
      subst h1; subst h2
      have hs2 : s = (64 :: (s.drop 1).takeWhile lettr) ++ (s.drop 1).dropWhile lettr := by
        conv => lhs; rw [hs]
        exact congrArg (List.cons 64) hd
      have hz := at_size (tx ((s.drop 1).takeWhile lettr))
      have hne : atS (tx ((s.drop 1).takeWhile lettr)) ≠ ⟨#[]⟩ := fun hq => by
        rw [hq] at hz
        have h0 : (⟨#[]⟩ : ByteArray).size = 0 := rfl
        omega
      have heq : tx (64 :: (s.drop 1).takeWhile lettr) = atS (tx ((s.drop 1).takeWhile lettr)) := ba_ext (by rw [at_list]; rfl)
      conv => lhs; rw [hs2]
      rw [scan_word _ _ _ _ (fun y hy => by
        rcases List.mem_cons.1 hy with rfl | hy
        · decide
        · exact tw_letters _ y hy), List.nil_append, scan_end hr, heq, flush_atom hne (at_ne _)]
      rfl
    · cases h
  · split at h
    · rename_i hn
      injection h with h
      injection h with h1 h2
      subst h1; subst h2
      have hs2 : s = s.takeWhile lettr ++ s.dropWhile lettr := (List.takeWhile_append_dropWhile ..).symm
      have hne : tx (s.takeWhile lettr) ≠ ⟨#[]⟩ := fun hq => by
        have := (nm_size hn).1
        rw [hq] at this
        exact absurd this (by decide)
      conv => lhs; rw [hs2]
      rw [scan_word _ _ _ _ (tw_letters s), List.nil_append, scan_end hr, flush_atom hne (nm_ne hn)]
      rfl
    · cases h
theorem loopP_scan {take : Bs → Option (Ex × Bs)} {w : Bs} {op : Ex → Ex → Ex} (ht : AtP take) (hop : ∀ a b, (op a b).leaves = a.leaves ++ b.leaves) (hw : ∀ X r, scanS X [] (w ++ r) = scanS X [] r) (hh : ∀ r, okEnd (w ++ r)) : ∀ (n : Nat) (e : Ex) (r0 : Bs) (e' : Ex) (r : Bs) (acc : List ByteArray), loopP take w op n e r0 = some (e', r) → okEnd r → okEnd r0 ∧ scanS (addAll acc e.leaves) [] r0 = scanS (addAll acc e'.leaves) [] r
  | 0, _, _, _, _, _, h, _ => by cases h
  | n + 1, e, r0, e', r, acc, h, hr => by
    unfold loopP at h
    split at h
    · rename_i hp
      have hs := pre_split hp
      split at h
      · rename_i e2 r2 hq
        obtain ⟨h1, h2⟩ := loopP_scan ht hop hw hh n (op e e2) r2 e' r acc h hr
        refine ⟨by rw [hs]; exact hh _, ?_⟩
        rw [hs, hw, ht _ _ _ _ hq h1, ← addAll_app, ← hop]
        exact h2
      · cases h
    · injection h with h
      injection h with h1 h2
      subst h1; subst h2
      exact ⟨hr, rfl⟩
theorem rowP_scan {take : Bs → Option (Ex × Bs)} {w : Bs} {op : Ex → Ex → Ex} (ht : AtP take) (hop : ∀ a b, (op a b).leaves = a.leaves ++ b.leaves) (hw : ∀ X r, scanS X [] (w ++ r) = scanS X [] r) (hh : ∀ r, okEnd (w ++ r)) (n : Nat) : AtP (rowP take w op n) := by
  intro s e r acc h hr
  unfold rowP at h
  split at h
  · rename_i e1 r1 hq
    obtain ⟨h1, h2⟩ := loopP_scan ht hop hw hh n e1 r1 e r acc h hr
    rw [ht _ _ _ _ hq h1, h2]
  · cases h
theorem and_scan (X : List ByteArray) (r : Bs) : scanS X [] (andW ++ r) = scanS X [] r := by
  show scanS X [] (32 :: 97 :: 110 :: 100 :: 32 :: r) = _
  rw [scanS, if_neg (by decide), flush_nil, scanS, if_pos (by decide), scanS, if_pos (by decide), scanS, if_pos (by decide), scanS, if_neg (by decide)]
  exact congrArg (fun a => scanS a [] r) (show flushS X (tx ([] ++ [97] ++ [110] ++ [100])) = X from if_pos (.inr (.inl rfl)))
theorem or_scan (X : List ByteArray) (r : Bs) : scanS X [] (orW ++ r) = scanS X [] r := by
  show scanS X [] (32 :: 111 :: 114 :: 32 :: r) = _
  rw [scanS, if_neg (by decide), flush_nil, scanS, if_pos (by decide), scanS, if_pos (by decide), scanS, if_neg (by decide)]
  exact congrArg (fun a => scanS a [] r) (show flushS X (tx ([] ++ [111] ++ [114])) = X from if_pos (.inr (.inr (.inl rfl))))
theorem not_scan (X : List ByteArray) (r : Bs) : scanS X [] (notW ++ r) = scanS X [] r := by
  show scanS X [] (110 :: 111 :: 116 :: 32 :: r) = _
  rw [scanS, if_pos (by decide), scanS, if_pos (by decide), scanS, if_pos (by decide), scanS, if_neg (by decide)]
  exact congrArg (fun a => scanS a [] r) (show flushS X (tx ([] ++ [110] ++ [111] ++ [116])) = X from if_pos (.inr (.inr (.inr rfl))))
theorem par_scan {x : UInt8} (hx : wordB x = false) (X : List ByteArray) (r : Bs) : scanS X [] (x :: r) = scanS X [] r := by
  rw [scanS, if_neg (by rw [hx]; decide), flush_nil]
theorem okEnd_of {x : UInt8} (hx : wordB x = false) (t : Bs) : okEnd (x :: t) := fun y u h => by
  injection h with h1 _
  rw [← h1]; exact hx
theorem facP_scan {row fac : Bs → Option (Ex × Bs)} (hrow : AtP row) (hfac : AtP fac) : AtP (facP row fac) := by
  intro s e r acc h hr
  unfold facP at h
  split at h
  · rename_i hp
    have hs := pre_split hp
    split at h
    · rename_i e1 r1 hq
      injection h with h
      injection h with h1 h2
      subst h1; subst h2
      rw [hs, not_scan]
      exact (hfac _ _ _ _ hq hr : scanS acc [] (s.drop 4) = scanS (addAll acc e1.leaves) [] r1)
    · cases h
  · split at h
    · rename_i hp
      have hs := pre_split hp
      split at h
      · rename_i e1 r1 hq
        split at h
        · rename_i hc
          have hs2 := pre_split hc
          injection h with h
          injection h with h1 h2
          subst h1; subst h2
          rw [hs]
          show scanS acc [] (40 :: s.drop 1) = _
          rw [par_scan (by decide), hrow _ _ _ _ hq (by rw [hs2]; exact okEnd_of (x := 41) (by decide) _)]
          conv => lhs; rw [hs2]
          show scanS _ [] (41 :: r1.drop 1) = _
          rw [par_scan (by decide)]
        · cases h
      · cases h
    · exact atomP_scan _ _ _ _ h hr
theorem parse_scan : ∀ (n : Nat) (l : Lv), AtP (parse n l)
  | 0, _ => fun s e r acc h => by cases h
  | n + 1, .fac => facP_scan (parse_scan n .dis) (parse_scan n .fac)
  | n + 1, .con => rowP_scan (parse_scan n .fac) (fun _ _ => rfl) and_scan (fun r => okEnd_of (x := 32) (by decide) _) n
  | n + 1, .dis => rowP_scan (parse_scan n .con) (fun _ _ => rfl) or_scan (fun r => okEnd_of (x := 32) (by decide) _) n
theorem exprP_scan {s : ByteArray} {e : Ex} (h : exprP s = some e) : scanS [] [] s.data.toList = addAll [] e.leaves := by
  unfold exprP at h
  split at h
  · split at h
    · rename_i e1 hq
      injection h with h
      subst h
      rw [parse_scan _ _ _ _ _ _ hq okEnd_nil]
      unfold scanS
      exact flush_nil _
    · cases h
  · cases h

end Go.Proofs.Ytbddklkfekiaeaa

