/- Expressions that are the same, in plain words. -/
import Derived.Test.YtbddklkfekiaeaaUP
set_option maxHeartbeats 4000000
set_option synthInstance.maxHeartbeats 400000
set_option synthInstance.maxSize 4096
set_option linter.unusedSimpArgs false
set_option linter.unusedVariables false
namespace Go.Proofs.Ytbddklkfekiaeaa

set_option maxRecDepth 100000

theorem twoA_mem (a b : Ex) (y : ByteArray) : y ∈ twoA a b ↔ y ∈ a.leaves ∨ y ∈ b.leaves := by
  unfold twoA
  rw [addAll_mem, addAll_mem, addAll_mem]
  simp
theorem addAll_nodup : ∀ (ls acc : List ByteArray), acc.Nodup → (addAll acc ls).Nodup
  | [], _, h => h
  | y :: ls, acc, h => by
    show (addAll (addT acc y) ls).Nodup
    refine addAll_nodup ls _ ?_
    unfold addT
    split
    · exact h
    · rename_i hn
      refine List.nodup_append.2 ⟨h, by simp, fun a ha b hb hab => hn ?_⟩
      rw [← List.mem_singleton.1 hb, ← hab]
      exact ha
theorem twoA_nodup (a b : Ex) : (twoA a b).Nodup := addAll_nodup _ _ (addAll_nodup _ _ List.nodup_nil)
theorem twoA_len (a b : Ex) : (twoA a b).length = (twoA b a).length := ((List.perm_ext_iff_of_nodup (twoA_nodup a b) (twoA_nodup b a)).2 fun y => by rw [twoA_mem, twoA_mem]; exact Or.comm).length_eq
theorem twoA_self (a : Ex) : (twoA a a).length = (addAll [] a.leaves).length := ((List.perm_ext_iff_of_nodup (twoA_nodup a a) (addAll_nodup _ _ List.nodup_nil)).2 fun y => by rw [twoA_mem, addAll_mem]; simp).length_eq

/-- All names in an expression are names. -/
def Ex.ok : Ex → Prop
  | .mark w => nmOk w = true
  | .mod w => nmOk w = true
  | .neg e => e.ok
  | .con a b => a.ok ∧ b.ok
  | .dis a b => a.ok ∧ b.ok
def OkP (take : Bs → Option (Ex × Bs)) : Prop := ∀ s e r, take s = some (e, r) → e.ok
theorem atomP_ok : OkP atomP := fun s e r h => by
  unfold atomP at h
  split at h <;> split at h
  · rename_i hn; injection h with h; injection h with h _; subst h; exact hn
  · cases h
  · rename_i hn; injection h with h; injection h with h _; subst h; exact hn
  · cases h
theorem loopP_ok {take : Bs → Option (Ex × Bs)} {w : Bs} {op : Ex → Ex → Ex} (ht : OkP take) (hop : ∀ a b, a.ok → b.ok → (op a b).ok) : ∀ (n : Nat) (e : Ex) (r0 : Bs) (e' : Ex) (r : Bs), e.ok → loopP take w op n e r0 = some (e', r) → e'.ok
  | 0, _, _, _, _, _, h => by cases h
  | n + 1, e, r0, e', r, he, h => by
    unfold loopP at h
    split at h
    · split at h
      · rename_i e2 r2 hq
        exact loopP_ok ht hop n (op e e2) r2 e' r (hop _ _ he (ht _ _ _ hq)) h
      · cases h
    · injection h with h
      injection h with h1 h2
      subst h1
      exact he
theorem rowP_ok {take : Bs → Option (Ex × Bs)} {w : Bs} {op : Ex → Ex → Ex} (ht : OkP take) (hop : ∀ a b, a.ok → b.ok → (op a b).ok) (n : Nat) : OkP (rowP take w op n) := fun s e r h => by
  unfold rowP at h
  split at h
  · rename_i e1 r1 hq
    exact loopP_ok ht hop n e1 r1 e r (ht _ _ _ hq) h
  · cases h
theorem facP_ok {row fac : Bs → Option (Ex × Bs)} (hrow : OkP row) (hfac : OkP fac) : OkP (facP row fac) := fun s e r h => by
  unfold facP at h
  split at h
  · split at h
    · rename_i e1 r1 hq
      injection h with h
      injection h with h1 h2
      subst h1
      exact (hfac _ _ _ hq : e1.ok)
    · cases h
  · split at h
    · split at h
      · rename_i e1 r1 hq
        split at h
        · injection h with h
          injection h with h1 h2
          subst h1
          exact hrow _ _ _ hq
        · cases h
      · cases h
    · exact atomP_ok _ _ _ h
theorem parse_ok : ∀ (n : Nat) (l : Lv), OkP (parse n l)
  | 0, _ => fun s e r h => by cases h
  | n + 1, .fac => facP_ok (parse_ok n .dis) (parse_ok n .fac)
  | n + 1, .con => rowP_ok (parse_ok n .fac) (fun a b h1 h2 => (show (Ex.con a b).ok from ⟨h1, h2⟩)) n
  | n + 1, .dis => rowP_ok (parse_ok n .con) (fun a b h1 h2 => (show (Ex.dis a b).ok from ⟨h1, h2⟩)) n
theorem exprP_ok {s : ByteArray} {e : Ex} (h : exprP s = some e) : e.ok := by
  unfold exprP at h
  split at h
  · split at h
    · rename_i e1 hq
      injection h with h
      subst h
      exact parse_ok _ _ _ _ _ hq
    · cases h
  · cases h

theorem ex_mask (p : ByteArray → Bool) : ∀ (m : List ByteArray), ∃ u, u < 2 ^ m.length ∧ maskL m.reverse u = m.reverse.filter p
  | [] => ⟨0, by decide, rfl⟩
  | a :: m => by
    obtain ⟨u, h1, h2⟩ := ex_mask p m
    rw [List.reverse_cons, List.length_cons, Nat.pow_succ, List.filter_append, List.filter_cons, List.filter_nil]
    by_cases hp : p a = true
    · refine ⟨u + 2 ^ m.length, by omega, ?_⟩
      rw [maskL_snoc, maskL_high m u m.length (Nat.le_refl _), h2, List.length_reverse, Nat.add_div_right _ (Nat.two_pow_pos _), Nat.div_eq_of_lt h1, if_pos rfl, if_pos hp]
    · refine ⟨u, by omega, ?_⟩
      rw [maskL_snoc, h2, List.length_reverse, Nat.div_eq_of_lt h1, if_neg (by decide), if_neg hp]
theorem isAt_mark {w : ByteArray} (h : nmOk w = true) : isAt w = false := by
  unfold isAt
  have := nm_byte h
  exact decide_eq_false (by omega)
theorem isAt_mod (w : ByteArray) : isAt (atS w) = true := by
  unfold isAt
  rw [at_byte]
  rfl
theorem cut1_at (w : ByteArray) : cut1 (atS w) = w := by
  unfold cut1
  rw [extract_tx, at_list]
  exact tx_self w
theorem ev_same {L S : List ByteArray} {m : ByteArray} {m' : ByteArray} (hm : ∀ w, atS w ∈ L → nmOk w = true → (w = m ↔ w = m')) : ∀ (e : Ex), e.ok → (∀ y, y ∈ e.leaves → y ∈ L) → e.ev m S = e.ev m' ((mrk L).filter fun y => decide (y ∈ S))
  | .mark w, hk, hl => by
    have h1 : w ∈ L := hl w (List.mem_singleton.2 rfl)
    have h2 : w ∈ mrk L := List.mem_filter.2 ⟨h1, by rw [isAt_mark hk]; rfl⟩
    unfold Ex.ev
    rw [Bool.eq_iff_iff, decide_eq_true_eq, decide_eq_true_eq, List.mem_filter, decide_eq_true_eq]
    exact ⟨fun h => ⟨h2, h⟩, fun h => h.2⟩
  | .mod w, hk, hl => by
    unfold Ex.ev
    rw [Bool.eq_iff_iff, decide_eq_true_eq, decide_eq_true_eq]
    exact hm w (hl _ (List.mem_singleton.2 rfl)) hk
  | .neg e, hk, hl => by
    unfold Ex.ev
    rw [ev_same hm e hk hl]
  | .con a b, hk, hl => by
    unfold Ex.ev
    rw [ev_same hm a hk.1 fun y hy => hl y (List.mem_append_left _ hy), ev_same hm b hk.2 fun y hy => hl y (List.mem_append_right _ hy)]
  | .dis a b, hk, hl => by
    unfold Ex.ev
    rw [ev_same hm a hk.1 fun y hy => hl y (List.mem_append_left _ hy), ev_same hm b hk.2 fun y hy => hl y (List.mem_append_right _ hy)]
/-- No world at all tells the two apart. -/
theorem alike_all {a b : Ex} (ha : a.ok) (hb : b.ok) : alike a b (worldsR (twoA a b)) = true ↔ ∀ m S, a.ev m S = b.ev m S := by
  rw [alike_iff]
  constructor
  · intro h m S
    have hex := ex_mask (fun y => decide (y ∈ S)) (mrk (twoA a b)).reverse
    rw [List.reverse_reverse, List.length_reverse] at hex
    obtain ⟨u, hu, hmk⟩ := hex
    have hla : ∀ y, y ∈ a.leaves → y ∈ twoA a b := fun y hy => (twoA_mem a b y).2 (.inl hy)
    have hlb : ∀ y, y ∈ b.leaves → y ∈ twoA a b := fun y hy => (twoA_mem a b y).2 (.inr hy)
    by_cases hm : m ∈ modW (twoA a b)
    · have hmm : ∀ w, atS w ∈ twoA a b → nmOk w = true → (w = m ↔ w = m) := fun _ _ _ => Iff.rfl
      rw [ev_same hmm a ha hla, ev_same hmm b hb hlb, ← hmk]
      exact h m hm u hu
    · have hmm : ∀ w, atS w ∈ twoA a b → nmOk w = true → (w = m ↔ w = (⟨#[]⟩ : ByteArray)) := fun w hw hn => by
        constructor
        · rintro rfl
          exfalso
          refine hm (List.mem_cons_of_mem _ (List.mem_map.2 ⟨atS w, List.mem_filter.2 ⟨hw, isAt_mod w⟩, cut1_at w⟩))
        · rintro rfl
          exact absurd (nm_size hn).1 (by decide)
      rw [ev_same hmm a ha hla, ev_same hmm b hb hlb, ← hmk]
      exact h _ (List.mem_cons_self ..) u hu
  · exact fun h m _ u _ => h m _
theorem sameE_sym (s t : ByteArray) : sameE s t = sameE t s := by
  cases hs : exprP s with
  | none => rw [sameE_no (.inl (by unfold isE; rw [hs]; rfl)), sameE_no (.inr (by unfold isE; rw [hs]; rfl))]
  | some a =>
    cases ht : exprP t with
    | none => rw [sameE_no (.inr (by unfold isE; rw [ht]; rfl)), sameE_no (.inl (by unfold isE; rw [ht]; rfl))]
    | some b =>
      rw [sameE_of hs ht, sameE_of ht hs, twoA_len a b]
      congr 1
      rw [Bool.eq_iff_iff, alike_all (exprP_ok hs) (exprP_ok ht), alike_all (exprP_ok ht) (exprP_ok hs)]
      exact ⟨fun h m S => (h m S).symm, fun h m S => (h m S).symm⟩
theorem sameE_pick {s t : ByteArray} {a b : Ex} (hs : exprP s = some a) (ht : exprP t = some b) (h : sameE s t = true) (ts : List TestD) : selE true s ts = selE true t ts := by
  rw [sameE_of hs ht, Bool.and_eq_true, alike_all (exprP_ok hs) (exprP_ok ht)] at h
  unfold selE
  rw [hs, ht]
  show (if testsB ts then _ else _) = if testsB ts then _ else _
  congr 1
  unfold pickE
  refine List.filter_congr fun x _ => ?_
  rw [h.2]
theorem sameE_self {s : ByteArray} {a : Ex} (hs : exprP s = some a) (h : (addAll [] a.leaves).length ≤ 6) : sameE s s = true := by
  rw [sameE_of hs hs, twoA_self, decide_eq_true h, Bool.true_and, alike_all (exprP_ok hs) (exprP_ok hs)]
  exact fun _ _ => rfl

end Go.Proofs.Ytbddklkfekiaeaa

