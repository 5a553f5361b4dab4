/- Part 6 of the proof: its texts, one behind the other. -/
import Derived.Test.YtggklaimbklefaaJParsePlan3
import Derived.Test.YtggklaimbklefaaJParsePlan5

/- Texts of plans, parsed by the reference: plain facts. -/
set_option maxHeartbeats 4000000
set_option synthInstance.maxHeartbeats 400000
set_option synthInstance.maxSize 4096
set_option linter.unusedSimpArgs false
set_option linter.unusedVariables false
namespace Go.Proofs.Ytggklaimbklefaa

set_option maxRecDepth 100000

/-- The parts of a text between the bytes of a kind. -/
def splitL (c : UInt8) : List UInt8 → List (List UInt8)
  | [] => [[]]
  | b :: l => if b = c then [] :: splitL c l else match splitL c l with
    | [] => [[b]]
    | w :: ws => (b :: w) :: ws
theorem splitL_at (c : UInt8) (l : List UInt8) : splitL c (c :: l) = [] :: splitL c l := by rw [splitL, if_pos rfl]
theorem splitL_other {b c : UInt8} (h : b ≠ c) {l w : List UInt8} {ws : List (List UInt8)} (hs : splitL c l = w :: ws) : splitL c (b :: l) = (b :: w) :: ws := by rw [splitL, if_neg h, hs]
theorem splitL_cons (c : UInt8) : ∀ l : List UInt8, splitL c l = tw c l :: (if c ∈ l then splitL c (dw c l) else [])
  | [] => rfl
  | b :: l => by
    by_cases hb : b = c
    · subst hb
      rw [(tw_eq b l).1, (tw_eq b l).2, if_pos (List.mem_cons_self ..)]
      exact splitL_at b l
    · have ih := splitL_cons c l
      rw [splitL_other hb ih, (tw_ne hb l).1, (tw_ne hb l).2]
      have hm : (c ∈ b :: l) = (c ∈ l) := by
        rw [List.mem_cons, eq_iff_iff]
        exact ⟨fun h => h.resolve_left fun e => hb e.symm, .inr⟩
      simp only [hm]
theorem splitL_app {c : UInt8} {a : List UInt8} (b : List UInt8) (h : c ∉ a) : splitL c (a ++ c :: b) = a :: splitL c b := by
  rw [splitL_cons, (tw_app b h).1, (tw_app b h).2, if_pos (by simp)]
theorem splitL_none {c : UInt8} {a : List UInt8} (h : c ∉ a) : splitL c a = [a] := by
  rw [splitL_cons, (tw_none h).1, if_neg h]
theorem splitL_ne (c : UInt8) (l : List UInt8) : splitL c l ≠ [] := by
  rw [splitL_cons]
  simp
/-- One byte more. -/
theorem splitL_snoc (c b : UInt8) : ∀ (l : List UInt8) (out : List (List UInt8)) (last : List UInt8), splitL c l = out ++ [last] → splitL c (l ++ [b]) = if b = c then out ++ [last] ++ [[]] else out ++ [last ++ [b]]
  | [], out, last, h => by
    have h : [[]] = out ++ [last] := h
    cases out with
    | nil =>
      injection h with h1 _
      subst h1
      by_cases hb : b = c <;> simp [splitL, hb]
    | cons x out => simp at h
  | x :: l, out, last, h => by
    by_cases hx : x = c
    · subst hx
      rw [splitL_at] at h
      cases out with
      | nil =>
        injection h with h1 h2
        exact absurd h2 (splitL_ne _ _)
      | cons y out =>
        rw [List.cons_append] at h
        injection h with h1 h2
        subst h1
        have ih := splitL_snoc x b l out last h2
        rw [List.cons_append, splitL_at, ih]
        by_cases hb : b = x <;> simp [hb]
    · cases hs : splitL c l with
      | nil => exact absurd hs (splitL_ne _ _)
      | cons w ws =>
        rw [splitL_other hx hs] at h
        cases out with
        | nil =>
          rw [List.nil_append] at h
          injection h with h1 h2
          subst h1; subst h2
          have ih := splitL_snoc c b l [] w (by rw [hs, List.nil_append])
          by_cases hb : b = c
          · rw [if_pos hb] at ih ⊢
            exact splitL_other hx ih
          · rw [if_neg hb] at ih ⊢
            exact splitL_other hx ih
        | cons y out =>
          rw [List.cons_append] at h
          injection h with h1 h2
          subst h1; subst h2
          have ih := splitL_snoc c b l (w :: out) last (by rw [hs, List.cons_append])
          by_cases hb : b = c
          · rw [if_pos hb] at ih ⊢
            exact splitL_other hx ih
          · rw [if_neg hb] at ih ⊢
            exact splitL_other hx ih
theorem splitL_back {c : UInt8} : ∀ (out : List (List UInt8)) (l last : List UInt8), splitL c l = out ++ [last] → l = out.flatMap (· ++ [c]) ++ last ∧ c ∉ last ∧ ∀ w ∈ out, c ∉ w
  | [], l, last, h => by
    rw [splitL_cons, List.nil_append] at h
    injection h with h1 h2
    split at h2
    · exact absurd h2 (splitL_ne _ _)
    · rename_i hm
      rw [(tw_none hm).1] at h1
      subst h1
      exact ⟨by simp, hm, by simp⟩
  | w :: out, l, last, h => by
    rw [splitL_cons, List.cons_append] at h
    injection h with h1 h2
    split at h2
    · rename_i hm
      obtain ⟨h3, h4, h5⟩ := splitL_back out (dw c l) last h2
      obtain ⟨h6, h7⟩ := tw_split hm
      rw [h1] at h6 h7
      refine ⟨?_, h4, fun x hx => ?_⟩
      · rw [h6, h3]
        simp
      · rcases List.mem_cons.1 hx with rfl | hx
        · exact h7
        · exact h5 x hx
    · exact absurd h2 (by simp)
theorem splitL_len (c : UInt8) : ∀ l : List UInt8, (splitL c l).length ≤ l.length + 1
  | [] => by simp [splitL]
  | b :: l => by
    have ih := splitL_len c l
    by_cases hb : b = c
    · subst hb
      rw [splitL_at]
      simp only [List.length_cons]; omega
    · cases hs : splitL c l with
      | nil => exact absurd hs (splitL_ne _ _)
      | cons w ws =>
        rw [splitL_other hb hs]
        rw [hs] at ih
        simp only [List.length_cons] at ih ⊢
        omega
theorem splitL_sz (c : UInt8) : ∀ (l : List UInt8), ∀ w ∈ splitL c l, w.length ≤ l.length
  | [], w, h => by
    have h : w ∈ [[]] := h
    rw [List.mem_singleton.1 h]
    exact Nat.le_refl _
  | b :: l, w, h => by
    have ih := splitL_sz c l
    by_cases hb : b = c
    · subst hb
      rw [splitL_at] at h
      rcases List.mem_cons.1 h with rfl | h
      · simp
      · have := ih w h
        simp only [List.length_cons]; omega
    · cases hs : splitL c l with
      | nil => exact absurd hs (splitL_ne _ _)
      | cons x ws =>
        rw [splitL_other hb hs] at h
        rw [hs] at ih
        rcases List.mem_cons.1 h with rfl | h
        · have := ih x (List.mem_cons_self ..)
          simp only [List.length_cons]; omega
        · have := ih w (List.mem_cons_of_mem _ h)
          simp only [List.length_cons]; omega

/-- The event of a line, if it has a right form. -/
def lineP (w : List UInt8) : Option EventD := match splitL 32 w with
  | [a, b] => if evOk (kindW (Bt a), Bt b, ()) = true then some (kindW (Bt a), Bt b, ()) else none
  | _ => none
theorem lineP_line {e : EventD} (h : evOk e = true) : lineP ((wordE e.1).data.toList ++ 32 :: e.2.1.data.toList) = some e := by
  unfold lineP
  rw [splitL_app _ (wordE_bytes _).2, splitL_none (evOk_bytes h).2]
  have e1 : ((kindW (Bt (wordE e.1).data.toList), Bt e.2.1.data.toList, ()) : EventD) = e := by
    rw [Bt_of, Bt_of, kindW_word (evOk_kind h)]
  dsimp only
  rw [e1, if_pos h]
theorem lineP_back {w : List UInt8} {e : EventD} (h : lineP w = some e) : evOk e = true ∧ w ++ [10] = lineE e := by
  unfold lineP at h
  split at h
  · rename_i a b hs
    split at h
    · rename_i hev
      injection h with h
      obtain ⟨h1, _, _⟩ := splitL_back [a] w b hs
      have hk := evOk_kind hev
      have hw := kindW_inv (w := Bt a) (by
        have hk : kindW (Bt a) = 0 ∨ kindW (Bt a) = 1 ∨ kindW (Bt a) = 2 := hk
        omega)
      rw [← h]
      refine ⟨hev, ?_⟩
      unfold lineE
      dsimp only
      rw [← hw, Bt_list, Bt_list, h1]
      simp
    · cases h
  · cases h

/-- The events of lines, as long as all of them have a right form. -/
def evsP : List (List UInt8) → Option (List EventD)
  | [] => some []
  | w :: ws => match lineP w with
    | some e => (evsP ws).map (e :: ·)
    | none => none
theorem evsP_text : ∀ {es : List EventD}, es.all evOk = true → ∃ ws, splitL 10 (textE es) = ws ++ [[]] ∧ evsP ws = some es
  | [], _ => ⟨[], rfl, rfl⟩
  | e :: es, h => by
    rw [List.all_cons, Bool.and_eq_true] at h
    obtain ⟨ws, h1, h2⟩ := evsP_text h.2
    have hc : textE (e :: es) = ((wordE e.1).data.toList ++ 32 :: e.2.1.data.toList) ++ 10 :: textE es := by
      show lineE e ++ textE es = _
      unfold lineE
      simp
    have hn : (10 : UInt8) ∉ (wordE e.1).data.toList ++ 32 :: e.2.1.data.toList := by
      intro hm
      rcases List.mem_append.1 hm with hm | hm
      · exact (wordE_bytes _).1 hm
      · rcases List.mem_cons.1 hm with hm | hm
        · exact absurd hm (by decide)
        · exact (evOk_bytes h.1).1 hm
    refine ⟨((wordE e.1).data.toList ++ 32 :: e.2.1.data.toList) :: ws, ?_, ?_⟩
    · rw [hc, splitL_app _ hn, h1]
      rfl
    · unfold evsP
      rw [lineP_line h.1, h2]
      rfl
theorem evsP_back : ∀ {ws : List (List UInt8)} {es : List EventD}, evsP ws = some es → es.all evOk = true ∧ ws.flatMap (· ++ [10]) = textE es
  | [], es, h => by
    injection h with h
    subst h
    exact ⟨rfl, rfl⟩
  | w :: ws, es, h => by
    unfold evsP at h
    cases hw : lineP w with
    | none => rw [hw] at h; cases h
    | some e =>
      rw [hw] at h
      cases hr : evsP ws with
      | none => rw [hr] at h; cases h
      | some fs =>
        rw [hr] at h
        injection h with h
        have h : e :: fs = es := h
        subst h
        obtain ⟨h1, h2⟩ := evsP_back hr
        obtain ⟨h3, h4⟩ := lineP_back hw
        refine ⟨by rw [List.all_cons, h3, h1]; rfl, ?_⟩
        rw [List.flatMap_cons, h2, h4]
        rfl
theorem evsP_take {ws : List (List UInt8)} {i : Nat} (hi : i < ws.length) {fs : List EventD} (h : evsP (ws.take i) = some fs) : evsP (ws.take (i + 1)) = (lineP ws[i]).map fun e => fs ++ [e] := by
  have key : ∀ (us : List (List UInt8)) (w : List UInt8) (fs : List EventD), evsP us = some fs → evsP (us ++ [w]) = (lineP w).map fun e => fs ++ [e] := by
    intro us
    induction us with
    | nil =>
      intro w fs h
      injection h with h
      subst h
      show evsP [w] = _
      unfold evsP
      cases lineP w <;> rfl
    | cons u us ih =>
      intro w fs h
      unfold evsP at h
      rw [List.cons_append]
      unfold evsP
      cases hu : lineP u with
      | none => rw [hu] at h; cases h
      | some e =>
        rw [hu] at h
        cases hr : evsP us with
        | none => rw [hr] at h; cases h
        | some gs =>
          rw [hr] at h
          injection h with h
          have h : e :: gs = fs := h
          subst h
          dsimp only
          rw [ih w gs hr]
          cases lineP w <;> rfl
  rw [List.take_succ_eq_append_getElem hi]
  exact key _ _ _ h
theorem evsP_none : ∀ {ws : List (List UInt8)} {i : Nat} (hi : i < ws.length), lineP ws[i] = none → evsP ws = none
  | w :: ws, 0, _, h => by
    unfold evsP
    have h : lineP w = none := h
    rw [h]
  | w :: ws, i + 1, hi, h => by
    unfold evsP
    rw [evsP_none (ws := ws) (i := i) (by simpa using hi) (by simpa using h)]
    cases lineP w <;> rfl

/-- What the reference parses. -/
theorem parse_spec {s last : List UInt8} {ws : List (List UInt8)} (h : splitL 10 s = ws ++ [last]) :
    (if planB (evsL s) = Bt s then some (evsL s) else none) = (if last = [] then evsP ws else none) := by
  obtain ⟨h1, _, _⟩ := splitL_back ws s last h
  by_cases hp : planB (evsL s) = Bt s
  · rw [if_pos hp]
    have hall : (evsL s).all evOk = true := by
      by_cases ha : (evsL s).all evOk = true
      · exact ha
      · exfalso
        unfold planB at hp
        rw [if_neg ha] at hp
        have hs : s = [] := (Bt_inj (l := []) hp).symm
        rw [hs] at ha
        exact ha rfl
    rw [planB_yes hall] at hp
    have ht : textE (evsL s) = s := Bt_inj hp
    obtain ⟨ws', h2, h3⟩ := evsP_text hall
    rw [ht, h] at h2
    have h4 := List.append_inj' h2 rfl
    rw [if_pos (by have := h4.2; injection this), h4.1, h3]
  · rw [if_neg hp]
    split
    · rename_i hl
      cases he : evsP ws with
      | none => rfl
      | some es =>
        exfalso
        obtain ⟨h2, h3⟩ := evsP_back he
        rw [hl, List.append_nil, h3] at h1
        apply hp
        rw [h1, evsL_text h2, planB_yes h2]
        rfl
    · rfl

end Go.Proofs.Ytggklaimbklefaa

/- Texts of plans, parsed by the reference. -/
set_option maxHeartbeats 4000000
set_option synthInstance.maxHeartbeats 400000
set_option synthInstance.maxSize 4096
set_option linter.unusedSimpArgs false
set_option linter.unusedVariables false
namespace Go.Proofs.Ytggklaimbklefaa

set_option maxRecDepth 100000

theorem parsedR_yes {s : List UInt8} {ws : List (List UInt8)} {es : List EventD} (h : splitL 10 s = ws ++ [[]]) (he : evsP ws = some es) : parsedR s = (es, true) := by
  have hp := parse_spec h
  rw [if_pos rfl, he] at hp
  unfold parsedR
  by_cases hb : planB (evsL s) = Bt s
  · rw [if_pos hb] at hp ⊢
    injection hp with hp
    rw [hp]
  · rw [if_neg hb] at hp
    cases hp
theorem parsedR_no {s last : List UInt8} {ws : List (List UInt8)} (h : splitL 10 s = ws ++ [last]) (hn : last ≠ [] ∨ evsP ws = none) : parsedR s = ([], false) := by
  have hp := parse_spec h
  unfold parsedR
  by_cases hb : planB (evsL s) = Bt s
  · exfalso
    rw [if_pos hb] at hp
    split at hp
    · rename_i hl
      rcases hn with hn | hn
      · exact hn hl
      · rw [hn] at hp; cases hp
    · cases hp
  · rw [if_neg hb]

theorem spec_splitAt_c (A : View) (s : List UInt8) (c : UInt8) (hs : s.length ≤ 140000) : ACalls Try.prog 26 #[.string (Bt s), .int .u8 c.toNat] A fun r V => ∃ fp, Led A [osl 9 strO fp r ((splitL c s).map Bt)] V := by
  have hsz := Bt_size s
  refine acalls Try.func26 rfl (by kernel_rfl) ?_
  simp (disch := omega) only [↓stq, amv_at, vls, inf, frs, mark_eq, ↓reduceIte, Nat.reduceEqDiff, ite_tt, ite_ff, eq_self, and_true, true_and, and_self, implies_true, Bool.true_eq_false, Bool.false_eq_true, decide_true, decide_false, decide_eq_true_eq, decide_eq_false_iff_not, ne_eq, not_true_eq_false, not_false_eq_true, Bool.not_eq_true', Bool.not_eq_false', beq_self_eq_true, Bool.not_true, Bool.not_false, List.getElem?_toArray, List.getElem?_cons_zero, List.getElem?_cons_succ]
  refine led_lit0 (O := strO) li54 (Led.nil A) fun b V _ l => ?_
  simp (disch := omega) only [↓stq, amv_at, vls, inf, frs, mark_eq, ↓reduceIte, Nat.reduceEqDiff, ite_tt, ite_ff, eq_self, and_true, true_and, and_self, implies_true, Bool.true_eq_false, Bool.false_eq_true, decide_true, decide_false, decide_eq_true_eq, decide_eq_false_iff_not, ne_eq, not_true_eq_false, not_false_eq_true, Bool.not_eq_true', Bool.not_eq_false', beq_self_eq_true, Bool.not_true, Bool.not_false, List.getElem?_toArray, List.getElem?_cons_zero, List.getElem?_cons_succ]
  refine aloop (fun d fr V => ∃ (i f : Nat) (fp : List Nat) (w : Value) (out : List (List UInt8)), i ≤ s.length ∧ d = s.length - i ∧ f ≤ i ∧ splitL c (s.take i) = out ++ [(s.take i).drop f] ∧ Led A [osl 9 strO fp w (out.map Bt)] V ∧ fr 0 = .string (Bt s) ∧ fr 1 = .int .u8 c.toNat ∧ fr 5 = w ∧ fr 6 = .int .i64 f ∧ fr 7 = .int .i64 i) s.length ⟨0, 0, [b], _, [], by omega, by omega, by omega, rfl, l, by rfl, by rfl, by rfl, by rfl, by rfl⟩ ?_
  clear l
  rintro d fr V ⟨i, f, fp, w, out, hi, rfl, hf, hsp, l, h0, h1, h5, h6, h7⟩
  have hol : out.length ≤ 140000 := by
    have h1 := splitL_len c (s.take i)
    rw [hsp, List.length_append, List.length_take, List.length_singleton] at h1
    omega
  simp (disch := omega) only [↓stq, amv_at, vls, inf, frs, mark_eq, ↓reduceIte, Nat.reduceEqDiff, ite_tt, ite_ff, eq_self, and_true, true_and, and_self, implies_true, Bool.true_eq_false, Bool.false_eq_true, decide_true, decide_false, decide_eq_true_eq, decide_eq_false_iff_not, ne_eq, not_true_eq_false, not_false_eq_true, Bool.not_eq_true', Bool.not_eq_false', beq_self_eq_true, Bool.not_true, Bool.not_false, List.getElem?_toArray, List.getElem?_cons_zero, List.getElem?_cons_succ, h0, h1, h5, h6, h7, hsz]
  refine ⟨fun e1 => ?_, fun e1 => ?_⟩
  · have hlt : i < s.length := by omega
    obtain ⟨b, hb, hv⟩ := sbyte_at (s := Bt s) (i := i) (by omega)
    rw [Bt_list] at hb
    have htk : s.take (i + 1) = s.take i ++ [b] := by rw [List.take_add_one, hb]; rfl
    have hdk : (s.take (i + 1)).drop f = (s.take i).drop f ++ [b] := by
      rw [htk, List.drop_append_of_le_length (by rw [List.length_take]; omega)]
    have hsn := splitL_snoc c b (s.take i) out _ hsp
    rw [← htk] at hsn
    simp (disch := omega) only [↓stq, amv_at, vls, inf, frs, mark_eq, ↓reduceIte, Nat.reduceEqDiff, ite_tt, ite_ff, eq_self, and_true, true_and, and_self, implies_true, Bool.true_eq_false, Bool.false_eq_true, decide_true, decide_false, decide_eq_true_eq, decide_eq_false_iff_not, ne_eq, not_true_eq_false, not_false_eq_true, Bool.not_eq_true', Bool.not_eq_false', beq_self_eq_true, Bool.not_true, Bool.not_false, List.getElem?_toArray, List.getElem?_cons_zero, List.getElem?_cons_succ, h0, h1, h5, h6, h7, hsz]
    rw [hv]
    by_cases hbc : b = c
    · subst hbc
      rw [if_pos rfl] at hsn
      simp (disch := omega) only [↓stq, amv_at, vls, inf, frs, mark_eq, ↓reduceIte, Nat.reduceEqDiff, ite_tt, ite_ff, eq_self, and_true, true_and, and_self, implies_true, Bool.true_eq_false, Bool.false_eq_true, decide_true, decide_false, decide_eq_true_eq, decide_eq_false_iff_not, ne_eq, not_true_eq_false, not_false_eq_true, Bool.not_eq_true', Bool.not_eq_false', beq_self_eq_true, Bool.not_true, Bool.not_false, List.getElem?_toArray, List.getElem?_cons_zero, List.getElem?_cons_succ, h0, h1, h5, h6, h7, hsz, Bt_extract]
      refine led_lit li54 (by omega) rfl (fun p hp => by rcases List.mem_singleton.1 hp with rfl; exact ⟨rfl, rfl⟩) l fun bl V3 _ l => ?_
      simp (disch := omega) only [↓stq, amv_at, vls, inf, frs, mark_eq, ↓reduceIte, Nat.reduceEqDiff, ite_tt, ite_ff, eq_self, and_true, true_and, and_self, implies_true, Bool.true_eq_false, Bool.false_eq_true, decide_true, decide_false, decide_eq_true_eq, decide_eq_false_iff_not, ne_eq, not_true_eq_false, not_false_eq_true, Bool.not_eq_true', Bool.not_eq_false', beq_self_eq_true, Bool.not_true, Bool.not_false, List.getElem?_toArray, List.getElem?_cons_zero, List.getElem?_cons_succ, h0, h1, h5, h6, h7]
      refine led_app (O := strO) ap54_54 (by decide) l (i := 1) rfl (l.src1 (S := strS) (j := 0) (x := Bt ((s.take i).drop f)) rfl ⟨rfl, by rw [Bt_size, List.length_drop, List.length_take]; omega⟩) (by rw [List.length_map, List.length_singleton]; omega) fun fp2 w2 V4 _ l => ?_
      simp (disch := omega) only [↓stq, amv_at, vls, inf, frs, mark_eq, ↓reduceIte, Nat.reduceEqDiff, ite_tt, ite_ff, eq_self, and_true, true_and, and_self, implies_true, Bool.true_eq_false, Bool.false_eq_true, decide_true, decide_false, decide_eq_true_eq, decide_eq_false_iff_not, ne_eq, not_true_eq_false, not_false_eq_true, Bool.not_eq_true', Bool.not_eq_false', beq_self_eq_true, Bool.not_true, Bool.not_false, List.getElem?_toArray, List.getElem?_cons_zero, List.getElem?_cons_succ, h0, h1, h5, h6, h7, hsz]
      refine ⟨_, by omega, i + 1, i + 1, fp2, w2, out ++ [(s.take i).drop f], by omega, rfl, by omega, ?_, ?_, rfl, rfl, rfl⟩
      · have e0 : (s.take (i + 1)).drop (i + 1) = [] := List.drop_of_length_le (by rw [List.length_take]; omega)
        rw [hsn, e0]
      · have e : (out ++ [(s.take i).drop f]).map Bt = out.map Bt ++ [Bt ((s.take i).drop f)] := by simp
        rw [e]
        exact l.tail
    · have e10 : ((b.toNat : Int) = c.toNat) = False := eq_false fun h => hbc (UInt8.toNat_inj.1 (by omega))
      rw [if_neg hbc] at hsn
      simp (disch := omega) only [↓stq, amv_at, vls, inf, frs, mark_eq, ↓reduceIte, Nat.reduceEqDiff, ite_tt, ite_ff, eq_self, and_true, true_and, and_self, implies_true, Bool.true_eq_false, Bool.false_eq_true, decide_true, decide_false, decide_eq_true_eq, decide_eq_false_iff_not, ne_eq, not_true_eq_false, not_false_eq_true, Bool.not_eq_true', Bool.not_eq_false', beq_self_eq_true, Bool.not_true, Bool.not_false, List.getElem?_toArray, List.getElem?_cons_zero, List.getElem?_cons_succ, h0, h1, h5, h6, h7, hsz, e10]
      exact ⟨_, by omega, i + 1, f, fp, w, out, by omega, rfl, by omega, by rw [hsn, hdk], l, rfl, rfl, rfl⟩
  · have hie : i = s.length := by omega
    subst hie
    rw [List.take_length] at hsp
    have h2 : s.take s.length = s := List.take_length
    simp (disch := omega) only [↓stq, amv_at, vls, inf, frs, mark_eq, ↓reduceIte, Nat.reduceEqDiff, ite_tt, ite_ff, eq_self, and_true, true_and, and_self, implies_true, Bool.true_eq_false, Bool.false_eq_true, decide_true, decide_false, decide_eq_true_eq, decide_eq_false_iff_not, ne_eq, not_true_eq_false, not_false_eq_true, Bool.not_eq_true', Bool.not_eq_false', beq_self_eq_true, Bool.not_true, Bool.not_false, List.getElem?_toArray, List.getElem?_cons_zero, List.getElem?_cons_succ, h0, h1, h5, h6, h7, hsz, Bt_extract, h2]
    refine led_lit li54 (by omega) rfl (fun p hp => by rcases List.mem_singleton.1 hp with rfl; exact ⟨rfl, rfl⟩) l fun bl V3 _ l => ?_
    simp (disch := omega) only [↓stq, amv_at, vls, inf, frs, mark_eq, ↓reduceIte, Nat.reduceEqDiff, ite_tt, ite_ff, eq_self, and_true, true_and, and_self, implies_true, Bool.true_eq_false, Bool.false_eq_true, decide_true, decide_false, decide_eq_true_eq, decide_eq_false_iff_not, ne_eq, not_true_eq_false, not_false_eq_true, Bool.not_eq_true', Bool.not_eq_false', beq_self_eq_true, Bool.not_true, Bool.not_false, List.getElem?_toArray, List.getElem?_cons_zero, List.getElem?_cons_succ, h0, h1, h5, h6, h7]
    refine led_app (O := strO) ap54_54 (by decide) l (i := 1) rfl (l.src1 (S := strS) (j := 0) (x := Bt (s.drop f)) rfl ⟨rfl, by rw [Bt_size, List.length_drop]; omega⟩) (by rw [List.length_map, List.length_singleton]; omega) fun fp2 w2 V4 _ l => ?_
    simp (disch := omega) only [↓stq, amv_at, vls, inf, frs, mark_eq, ↓reduceIte, Nat.reduceEqDiff, ite_tt, ite_ff, eq_self, and_true, true_and, and_self, implies_true, Bool.true_eq_false, Bool.false_eq_true, decide_true, decide_false, decide_eq_true_eq, decide_eq_false_iff_not, ne_eq, not_true_eq_false, not_false_eq_true, Bool.not_eq_true', Bool.not_eq_false', beq_self_eq_true, Bool.not_true, Bool.not_false, List.getElem?_toArray, List.getElem?_cons_zero, List.getElem?_cons_succ, h0, h1, h5, h6, h7]
    refine ⟨fp2, ?_⟩
    have e : (splitL c s).map Bt = out.map Bt ++ [Bt (s.drop f)] := by rw [hsp]; simp
    rw [e]
    exact l.tail

theorem spec_indexText_c (A : View) (v : Value) (xs : List ByteArray) (s : ByteArray) (h : Sl strS A v xs) : ACalls Try.prog 27 #[v, .string s] A fun r A' => r = .int .i64 (idxI (s == ·) xs) ∧ A' = A := by
  obtain ⟨a, c, rfl, _, hl⟩ := h.slice
  refine acalls Try.func27 rfl (by kernel_rfl) ?_
  simp (disch := omega) only [↓stq, amv_at, vls, inf, frs, mark_eq, ↓reduceIte, Nat.reduceEqDiff, ite_tt, ite_ff, eq_self, and_true, true_and, and_self, implies_true, Bool.true_eq_false, Bool.false_eq_true, decide_true, decide_false, decide_eq_true_eq, decide_eq_false_iff_not, ne_eq, not_true_eq_false, not_false_eq_true, Bool.not_eq_true', Bool.not_eq_false', beq_self_eq_true, Bool.not_true, Bool.not_false, List.getElem?_toArray, List.getElem?_cons_zero, List.getElem?_cons_succ]
  refine aloop (fun d fr V => ∃ i : Nat, i ≤ xs.length ∧ d = xs.length - i ∧ V = A ∧ (∀ j (hj : j < xs.length), j < i → (s == xs[j]) = false) ∧ fr 0 = .slice a xs.length c ∧ fr 1 = .string s ∧ fr 5 = .int .i64 i) xs.length ⟨0, by omega, by omega, rfl, fun j _ hj => absurd hj (Nat.not_lt_zero _), by rfl, by rfl, by rfl⟩ ?_
  rintro d fr V ⟨i, hi, rfl, rfl, hno, h0, h1, h5⟩
  simp (disch := omega) only [↓stq, amv_at, vls, inf, frs, mark_eq, ↓reduceIte, Nat.reduceEqDiff, ite_tt, ite_ff, eq_self, and_true, true_and, and_self, implies_true, Bool.true_eq_false, Bool.false_eq_true, decide_true, decide_false, decide_eq_true_eq, decide_eq_false_iff_not, ne_eq, not_true_eq_false, not_false_eq_true, Bool.not_eq_true', Bool.not_eq_false', beq_self_eq_true, Bool.not_true, Bool.not_false, List.getElem?_toArray, List.getElem?_cons_zero, List.getElem?_cons_succ, h0, h1, h5]
  refine ⟨fun e1 => ?_, fun e1 => ?_⟩
  · have hlt : i < xs.length := by omega
    obtain ⟨ad, rfl, hcl, _⟩ := h.str hlt
    by_cases hx : xs[i] = s
    · have hb : (s == xs[i]) = true := beq_iff_eq.2 hx.symm
      simp (disch := omega) only [↓stq, amv_at, vls, inf, frs, mark_eq, ↓reduceIte, Nat.reduceEqDiff, ite_tt, ite_ff, eq_self, and_true, true_and, and_self, implies_true, Bool.true_eq_false, Bool.false_eq_true, decide_true, decide_false, decide_eq_true_eq, decide_eq_false_iff_not, ne_eq, not_true_eq_false, not_false_eq_true, Bool.not_eq_true', Bool.not_eq_false', beq_self_eq_true, Bool.not_true, Bool.not_false, List.getElem?_toArray, List.getElem?_cons_zero, List.getElem?_cons_succ, h0, h1, h5, hcl, eq_true hx]
      rw [idxI_found (p := (s == ·)) hlt (fun j hj => hno j (by omega) hj) hb]
    · have hb : (s == xs[i]) = false := by rw [beq_eq_false_iff_ne]; exact fun e => hx e.symm
      simp (disch := omega) only [↓stq, amv_at, vls, inf, frs, mark_eq, ↓reduceIte, Nat.reduceEqDiff, ite_tt, ite_ff, eq_self, and_true, true_and, and_self, implies_true, Bool.true_eq_false, Bool.false_eq_true, decide_true, decide_false, decide_eq_true_eq, decide_eq_false_iff_not, ne_eq, not_true_eq_false, not_false_eq_true, Bool.not_eq_true', Bool.not_eq_false', beq_self_eq_true, Bool.not_true, Bool.not_false, List.getElem?_toArray, List.getElem?_cons_zero, List.getElem?_cons_succ, h0, h1, h5, hcl, eq_false hx]
      refine ⟨_, by omega, i + 1, by omega, rfl, ?_, rfl⟩
      intro j hj hji
      rcases Nat.lt_succ_iff_lt_or_eq.1 hji with h | rfl
      · exact hno j hj h
      · exact hb
  · simp (disch := omega) only [↓stq, amv_at, vls, inf, frs, mark_eq, ↓reduceIte, Nat.reduceEqDiff, ite_tt, ite_ff, eq_self, and_true, true_and, and_self, implies_true, Bool.true_eq_false, Bool.false_eq_true, decide_true, decide_false, decide_eq_true_eq, decide_eq_false_iff_not, ne_eq, not_true_eq_false, not_false_eq_true, Bool.not_eq_true', Bool.not_eq_false', beq_self_eq_true, Bool.not_true, Bool.not_false, List.getElem?_toArray, List.getElem?_cons_zero, List.getElem?_cons_succ, h0, h1, h5]
    rw [idxI_none (p := (s == ·)) fun j hj => hno j hj (by omega)]

theorem spec_ParsePlan_c (A : View) (s : List UInt8) (hs : s.length ≤ 140000) : ACalls Try.prog 8 #[.string (Bt s)] A fun r V => ∃ fp w, r = .tuple #[w, .bool (parsedR s).2] ∧ Led A [osl 56 eventO fp w (parsedR s).1] V := by
  have hwl : ∃ ws last, splitL 10 s = ws ++ [last] := ⟨_, _, (List.dropLast_concat_getLast (splitL_ne 10 s)).symm⟩
  obtain ⟨ws, last, hsp⟩ := hwl
  have hll := splitL_len 10 s
  have hsz := splitL_sz 10 s
  have hfail : ∀ {V : View} {L : List It}, parsedR s = ([], false) → Led A L V → ∃ fp w, Value.tuple #[.slice none 0 0, .bool false] = .tuple #[w, .bool (parsedR s).2] ∧ Led A [osl 56 eventO fp w (parsedR s).1] V := fun hp l => by
    rw [hp]
    exact ⟨[], _, rfl, (l.nilO 56 eventO).sub (.cons_cons _ (List.nil_sublist _))⟩
  have hyes : ∀ {es : List EventD}, last = [] → evsP ws = some es → parsedR s = (es, true) := fun hl he => parsedR_yes (ws := ws) (by rw [hsp, hl]) he
  have hno : last ≠ [] ∨ evsP ws = none → parsedR s = ([], false) := fun hn => parsedR_no hsp hn
  refine acalls Try.func8 rfl (by kernel_rfl) ?_
  simp (disch := omega) only [↓stq, amv_at, vls, inf, frs, mark_eq, ↓reduceIte, Nat.reduceEqDiff, ite_tt, ite_ff, eq_self, and_true, true_and, and_self, implies_true, Bool.true_eq_false, Bool.false_eq_true, decide_true, decide_false, decide_eq_true_eq, decide_eq_false_iff_not, ne_eq, not_true_eq_false, not_false_eq_true, Bool.not_eq_true', Bool.not_eq_false', beq_self_eq_true, Bool.not_true, Bool.not_false, List.getElem?_toArray, List.getElem?_cons_zero, List.getElem?_cons_succ]
  refine led_lit0 (O := eventO) li24 (Led.nil A) fun b V _ l => ?_
  simp (disch := omega) only [↓stq, amv_at, vls, inf, frs, mark_eq, ↓reduceIte, Nat.reduceEqDiff, ite_tt, ite_ff, eq_self, and_true, true_and, and_self, implies_true, Bool.true_eq_false, Bool.false_eq_true, decide_true, decide_false, decide_eq_true_eq, decide_eq_false_iff_not, ne_eq, not_true_eq_false, not_false_eq_true, Bool.not_eq_true', Bool.not_eq_false', beq_self_eq_true, Bool.not_true, Bool.not_false, List.getElem?_toArray, List.getElem?_cons_zero, List.getElem?_cons_succ]
  refine (spec_splitAt_c V s 10 hs).mono ?_
  rintro lv V1 ⟨fl, l1⟩
  replace l := l.append l1
  rw [hsp] at l hll hsz
  have hnl : ((ws ++ [last]).map Bt).length = ws.length + 1 := by simp
  obtain ⟨al, cl, rfl, _, _⟩ := (OSl.toS (show OSl 9 strO V1 fl lv _ from l.at (i := 0) rfl)).slice
  clear l1
  simp (disch := omega) only [↓stq, amv_at, vls, inf, frs, mark_eq, ↓reduceIte, Nat.reduceEqDiff, ite_tt, ite_ff, eq_self, and_true, true_and, and_self, implies_true, Bool.true_eq_false, Bool.false_eq_true, decide_true, decide_false, decide_eq_true_eq, decide_eq_false_iff_not, ne_eq, not_true_eq_false, not_false_eq_true, Bool.not_eq_true', Bool.not_eq_false', beq_self_eq_true, Bool.not_true, Bool.not_false, List.getElem?_toArray, List.getElem?_cons_zero, List.getElem?_cons_succ]
  refine aloop (fun d fr V => ∃ (i : Nat) (fp : List Nat) (w : Value) (out : List EventD), i ≤ ws.length ∧ d = ws.length - i ∧ evsP (ws.take i) = some out ∧ out.length = i ∧ Led A [osl 9 strO fl (.slice al ((ws ++ [last]).map Bt).length cl) ((ws ++ [last]).map Bt), osl 56 eventO fp w out] V ∧ fr 4 = w ∧ fr 5 = .slice al ((ws ++ [last]).map Bt).length cl ∧ fr 6 = .int .i64 i) ws.length ⟨0, [b], _, [], by omega, by omega, rfl, rfl, l, rfl, rfl, rfl⟩ ?_
  clear l
  rintro d fr V ⟨i, fp, w, out, hi, rfl, hout, hol, l, h4, h5, h6⟩
  have hLl : ws.length ≤ 140000 := by
    rw [List.length_append, List.length_singleton] at hll
    omega
  have hLS : Sl strS V (.slice al ((ws ++ [last]).map Bt).length cl) ((ws ++ [last]).map Bt) :=
    OSl.toS (show OSl 9 strO V fl _ _ from l.at (i := 0) rfl)
  simp (disch := omega) only [↓stq, amv_at, vls, inf, frs, mark_eq, ↓reduceIte, Nat.reduceEqDiff, ite_tt, ite_ff, eq_self, and_true, true_and, and_self, implies_true, Bool.true_eq_false, Bool.false_eq_true, decide_true, decide_false, decide_eq_true_eq, decide_eq_false_iff_not, ne_eq, not_true_eq_false, not_false_eq_true, Bool.not_eq_true', Bool.not_eq_false', beq_self_eq_true, Bool.not_true, Bool.not_false, List.getElem?_toArray, List.getElem?_cons_zero, List.getElem?_cons_succ, h4, h5, h6]
  refine ⟨fun e1 => ?_, fun e1 => ?_⟩
  · have hlt : i < ws.length := by omega
    obtain ⟨ad, rfl, hcl, _⟩ := hLS.str (i := i) (by omega)
    have hgi : ((ws ++ [last]).map Bt)[i]'(by omega) = Bt ws[i] := by
      rw [List.getElem_map, List.getElem_append_left hlt]
    rw [hgi] at hcl
    have hwz : (ws[i]).length ≤ 140000 := by
      have := hsz ws[i] (List.mem_append_left _ (List.getElem_mem hlt))
      omega
    have hnx := evsP_take hlt hout
    simp (disch := omega) only [↓stq, amv_at, vls, inf, frs, mark_eq, ↓reduceIte, Nat.reduceEqDiff, ite_tt, ite_ff, eq_self, and_true, true_and, and_self, implies_true, Bool.true_eq_false, Bool.false_eq_true, decide_true, decide_false, decide_eq_true_eq, decide_eq_false_iff_not, ne_eq, not_true_eq_false, not_false_eq_true, Bool.not_eq_true', Bool.not_eq_false', beq_self_eq_true, Bool.not_true, Bool.not_false, List.getElem?_toArray, List.getElem?_cons_zero, List.getElem?_cons_succ, h4, h5, h6, hcl]
    refine (spec_splitAt_c V ws[i] 32 hwz).mono ?_
    rintro wv V2 ⟨fw, l2⟩
    replace l := l.append l2
    have hWS := (OSl.toS (show OSl 9 strO V2 fw wv _ from l.at (i := 0) rfl))
    obtain ⟨aw, cw, rfl, _, _⟩ := hWS.slice
    by_cases h2 : ((splitL 32 ws[i]).map Bt).length = 2
    · have e2 : ((((splitL 32 ws[i]).map Bt).length : Int) = 2) = True := eq_true (by omega)
      match hsw : splitL 32 ws[i], h2 with
      | [a, b], _ =>
        rw [hsw] at l hWS
        have haz : a.length ≤ 140000 := by
          have := splitL_sz 32 ws[i] a (by rw [hsw]; simp)
          omega
        have hbz : b.length ≤ 140000 := by
          have := splitL_sz 32 ws[i] b (by rw [hsw]; simp)
          omega
        have hlp : lineP ws[i] = if evOk (kindW (Bt a), Bt b, ()) = true then some (kindW (Bt a), Bt b, ()) else none := by
          unfold lineP
          rw [hsw]
        obtain ⟨aw, rfl, ka, _⟩ := hWS.str (i := 0) (by show 0 < 2; omega)
        obtain ⟨_, hq, kb, _⟩ := hWS.str (i := 1) (by show 1 < 2; omega)
        obtain rfl := Option.some.inj hq
        replace ka : V2.cell (aw.add (Int.toNat 0)) = some (.string (Bt a)) := ka
        replace kb : V2.cell (aw.add (Int.toNat 1)) = some (.string (Bt b)) := kb
        have e2 : ((([Bt a, Bt b] : List ByteArray).length : Int) = 2) = True := eq_true rfl
        simp (disch := omega) only [↓stq, amv_at, vls, inf, frs, mark_eq, ↓reduceIte, Nat.reduceEqDiff, ite_tt, ite_ff, eq_self, and_true, true_and, and_self, implies_true, Bool.true_eq_false, Bool.false_eq_true, decide_true, decide_false, decide_eq_true_eq, decide_eq_false_iff_not, ne_eq, not_true_eq_false, not_false_eq_true, Bool.not_eq_true', Bool.not_eq_false', beq_self_eq_true, Bool.not_true, Bool.not_false, List.getElem?_toArray, List.getElem?_cons_zero, List.getElem?_cons_succ, h4, h5, h6, e2]
        refine adraw_items [.q 1, .q 2, .l 3 true, .q 5, .q 6, .l 7 true, .c 0 [3, 7], .c 4 [7], .q 8, .c 9 [], .c 10 []] (by kernel_rfl) (by kernel_rfl) ?_
        have e5 : ([Bt a, Bt b] : List ByteArray).length = 2 := rfl
        simp (disch := omega) only [↓stq, amv_at, ↓pln, plv, nilOk, Nat.reduceBEq, Bool.or_false, Bool.or_true, Bool.false_or, Bool.true_or, vls, inf, frs, mark_eq, ↓reduceIte, Nat.reduceEqDiff, ite_tt, ite_ff, eq_self, and_true, true_and, and_self, implies_true, Bool.true_eq_false, Bool.false_eq_true, decide_true, decide_false, decide_eq_true_eq, decide_eq_false_iff_not, ne_eq, not_true_eq_false, not_false_eq_true, Bool.not_eq_true', Bool.not_eq_false', beq_self_eq_true, Bool.not_true, Bool.not_false, List.getElem?_toArray, List.getElem?_cons_zero, List.getElem?_cons_succ, h4, h5, h6, ka, kb, e5]
        refine (spec_eventWords_c V2).mono ?_
        rintro _ V3 ⟨bw, rfl, lw⟩
        replace l := l.append lw
        have ka := lw.ext.cell ka
        have kb := lw.ext.cell kb
        clear lw
        simp (disch := omega) only [↓stq, amv_at, ↓pln, plv, nilOk, Nat.reduceBEq, Bool.or_false, Bool.or_true, Bool.false_or, Bool.true_or, vls, inf, frs, mark_eq, ↓reduceIte, Nat.reduceEqDiff, ite_tt, ite_ff, eq_self, and_true, true_and, and_self, implies_true, Bool.true_eq_false, Bool.false_eq_true, decide_true, decide_false, decide_eq_true_eq, decide_eq_false_iff_not, ne_eq, not_true_eq_false, not_false_eq_true, Bool.not_eq_true', Bool.not_eq_false', beq_self_eq_true, Bool.not_true, Bool.not_false, List.getElem?_toArray, List.getElem?_cons_zero, List.getElem?_cons_succ, h4, h5, h6, ka, kb]
        refine (spec_indexText_c V3 _ _ (Bt a) (words_S (e := 9) (room := 3) (c := 3) (l.at (i := 0) rfl) (by omega))).mono ?_
        rintro _ V4 ⟨rfl, rfl⟩
        simp (disch := omega) only [↓stq, amv_at, ↓pln, plv, nilOk, Nat.reduceBEq, Bool.or_false, Bool.or_true, Bool.false_or, Bool.true_or, vls, inf, frs, mark_eq, ↓reduceIte, Nat.reduceEqDiff, ite_tt, ite_ff, eq_self, and_true, true_and, and_self, implies_true, Bool.true_eq_false, Bool.false_eq_true, decide_true, decide_false, decide_eq_true_eq, decide_eq_false_iff_not, ne_eq, not_true_eq_false, not_false_eq_true, Bool.not_eq_true', Bool.not_eq_false', beq_self_eq_true, Bool.not_true, Bool.not_false, List.getElem?_toArray, List.getElem?_cons_zero, List.getElem?_cons_succ, h4, h5, h6, ka, kb]
        refine led_alloc zc56 l fun q8 V4 _ l => ?_
        simp (disch := omega) only [↓stq, amv_at, ↓pln, plv, nilOk, Nat.reduceBEq, Bool.or_false, Bool.or_true, Bool.false_or, Bool.true_or, vls, inf, frs, mark_eq, ↓reduceIte, Nat.reduceEqDiff, ite_tt, ite_ff, eq_self, and_true, true_and, and_self, implies_true, Bool.true_eq_false, Bool.false_eq_true, decide_true, decide_false, decide_eq_true_eq, decide_eq_false_iff_not, ne_eq, not_true_eq_false, not_false_eq_true, Bool.not_eq_true', Bool.not_eq_false', beq_self_eq_true, Bool.not_true, Bool.not_false, List.getElem?_toArray, List.getElem?_cons_zero, List.getElem?_cons_succ, h4, h5, h6, false_implies]
        refine led_storeAll l 0 rfl sz56 rfl rfl (by simp [Value.oneCell']) fun V5 l => ?_
        have kq : V5.part ⟨q8, 0, none⟩ 2 = some [.int .i64 (kindW (Bt a)), .string (Bt b)] := l.partn (i := 0) rfl rfl (by simp [Value.oneCell'])
        simp (disch := omega) only [↓stq, amv_at, ↓pln, plv, nilOk, Nat.reduceBEq, Bool.or_false, Bool.or_true, Bool.false_or, Bool.true_or, vls, inf, frs, mark_eq, ↓reduceIte, Nat.reduceEqDiff, ite_tt, ite_ff, eq_self, and_true, true_and, and_self, implies_true, Bool.true_eq_false, Bool.false_eq_true, decide_true, decide_false, decide_eq_true_eq, decide_eq_false_iff_not, ne_eq, not_true_eq_false, not_false_eq_true, Bool.not_eq_true', Bool.not_eq_false', beq_self_eq_true, Bool.not_true, Bool.not_false, List.getElem?_toArray, List.getElem?_cons_zero, List.getElem?_cons_succ, h4, h5, h6, kq, false_implies]
        refine (spec_validEvent_c V5 (kindW (Bt a), Bt b, ()) (by show (Bt b).size ≤ _; rw [Bt_size]; omega)).mono ?_
        rintro _ V6 ⟨rfl, he6⟩
        replace l := l.step he6
        replace kq := he6.part kq
        cases hev : evOk (kindW (Bt a), Bt b, ()) with
        | false =>
          simp (disch := omega) only [↓stq, amv_at, vls, inf, frs, mark_eq, ↓reduceIte, Nat.reduceEqDiff, ite_tt, ite_ff, eq_self, and_true, true_and, and_self, implies_true, Bool.true_eq_false, Bool.false_eq_true, decide_true, decide_false, decide_eq_true_eq, decide_eq_false_iff_not, ne_eq, not_true_eq_false, not_false_eq_true, Bool.not_eq_true', Bool.not_eq_false', beq_self_eq_true, Bool.not_true, Bool.not_false, List.getElem?_toArray, List.getElem?_cons_zero, List.getElem?_cons_succ, h4, h5, h6]
          exact hfail (hno (.inr (evsP_none hlt (by rw [hlp, hev]; rfl)))) l
        | true =>
          simp (disch := omega) only [↓stq, amv_at, vls, inf, frs, mark_eq, ↓reduceIte, Nat.reduceEqDiff, ite_tt, ite_ff, eq_self, and_true, true_and, and_self, implies_true, Bool.true_eq_false, Bool.false_eq_true, decide_true, decide_false, decide_eq_true_eq, decide_eq_false_iff_not, ne_eq, not_true_eq_false, not_false_eq_true, Bool.not_eq_true', Bool.not_eq_false', beq_self_eq_true, Bool.not_true, Bool.not_false, List.getElem?_toArray, List.getElem?_cons_zero, List.getElem?_cons_succ, h4, h5, h6, kq]
          refine led_lit li24 (by omega) rfl (fun p hp => by rcases List.mem_singleton.1 hp with rfl; exact ⟨rfl, rfl⟩) l fun b4 V7 _ l => ?_
          simp (disch := omega) only [↓stq, amv_at, vls, inf, frs, mark_eq, ↓reduceIte, Nat.reduceEqDiff, ite_tt, ite_ff, eq_self, and_true, true_and, and_self, implies_true, Bool.true_eq_false, Bool.false_eq_true, decide_true, decide_false, decide_eq_true_eq, decide_eq_false_iff_not, ne_eq, not_true_eq_false, not_false_eq_true, Bool.not_eq_true', Bool.not_eq_false', beq_self_eq_true, Bool.not_true, Bool.not_false, List.getElem?_toArray, List.getElem?_cons_zero, List.getElem?_cons_succ, h4, h5, h6]
          have hkr := kindW_range (Bt a)
          have hel : eventS.rel V7 (kindW (Bt a), Bt b, ()) [.int .i64 (kindW (Bt a)), .string (Bt b)] := by
            refine eventS_mk (x := (kindW (Bt a), Bt b, ())) ⟨?_, ?_⟩ ?_
            · show -9223372036854775808 ≤ kindW (Bt a)
              omega
            · show kindW (Bt a) < 9223372036854775808
              omega
            · show (Bt b).size ≤ _
              rw [Bt_size]
              omega
          refine led_app (O := eventO) ap24_24 (by decide) l (i := 5) rfl (l.src1 (S := eventS) (j := 0) rfl hel) (by rw [List.length_singleton]; omega) fun fp2 w2 V5 _ l => ?_
          simp (disch := omega) only [↓stq, amv_at, vls, inf, frs, mark_eq, ↓reduceIte, Nat.reduceEqDiff, ite_tt, ite_ff, eq_self, and_true, true_and, and_self, implies_true, Bool.true_eq_false, Bool.false_eq_true, decide_true, decide_false, decide_eq_true_eq, decide_eq_false_iff_not, ne_eq, not_true_eq_false, not_false_eq_true, Bool.not_eq_true', Bool.not_eq_false', beq_self_eq_true, Bool.not_true, Bool.not_false, List.getElem?_toArray, List.getElem?_cons_zero, List.getElem?_cons_succ, h4, h5, h6]
          exact ⟨_, by omega, i + 1, fp2, w2, out ++ [(kindW (Bt a), Bt b, ())], by omega, rfl, by rw [hnx, hlp, if_pos hev]; rfl, by rw [List.length_append, hol]; rfl, l.tail.tail.tail.tail, rfl, rfl⟩
    · have e2 : ((((splitL 32 ws[i]).map Bt).length : Int) = 2) = False := eq_false (by omega)
      have hlp : lineP ws[i] = none := by
        unfold lineP
        split
        · rename_i a b hab
          exact absurd (by rw [hab]; rfl) h2
        · rfl
      simp (disch := omega) only [↓stq, amv_at, vls, inf, frs, mark_eq, ↓reduceIte, Nat.reduceEqDiff, ite_tt, ite_ff, eq_self, and_true, true_and, and_self, implies_true, Bool.true_eq_false, Bool.false_eq_true, decide_true, decide_false, decide_eq_true_eq, decide_eq_false_iff_not, ne_eq, not_true_eq_false, not_false_eq_true, Bool.not_eq_true', Bool.not_eq_false', beq_self_eq_true, Bool.not_true, Bool.not_false, List.getElem?_toArray, List.getElem?_cons_zero, List.getElem?_cons_succ, h4, h5, h6, e2]
      exact hfail (hno (.inr (evsP_none hlt hlp))) l
  · have hie : i = ws.length := by omega
    subst hie
    rw [List.take_length] at hout
    obtain ⟨ad, rfl, hcl, _⟩ := hLS.str (i := ws.length) (by omega)
    have hgi : ((ws ++ [last]).map Bt)[ws.length]'(by omega) = Bt last := by
      rw [List.getElem_map, List.getElem_append_right (Nat.le_refl _)]
      simp
    rw [hgi] at hcl
    have eN : (((ws ++ [last]).map Bt).length : Int) - 1 = ws.length := by omega
    by_cases hl : last = []
    · have e3 : (Bt last = ⟨#[]⟩) = True := eq_true (by rw [hl]; rfl)
      simp (disch := omega) only [↓stq, amv_at, vls, inf, frs, mark_eq, ↓reduceIte, Nat.reduceEqDiff, ite_tt, ite_ff, eq_self, and_true, true_and, and_self, implies_true, Bool.true_eq_false, Bool.false_eq_true, decide_true, decide_false, decide_eq_true_eq, decide_eq_false_iff_not, ne_eq, not_true_eq_false, not_false_eq_true, Bool.not_eq_true', Bool.not_eq_false', beq_self_eq_true, Bool.not_true, Bool.not_false, List.getElem?_toArray, List.getElem?_cons_zero, List.getElem?_cons_succ, h4, h5, h6, hcl, eN, e3]
      rw [hyes hl hout]
      exact ⟨fp, w, rfl, l.tail⟩
    · have e3 : (Bt last = ⟨#[]⟩) = False := eq_false fun h => hl (Bt_inj (m := []) h)
      simp (disch := omega) only [↓stq, amv_at, vls, inf, frs, mark_eq, ↓reduceIte, Nat.reduceEqDiff, ite_tt, ite_ff, eq_self, and_true, true_and, and_self, implies_true, Bool.true_eq_false, Bool.false_eq_true, decide_true, decide_false, decide_eq_true_eq, decide_eq_false_iff_not, ne_eq, not_true_eq_false, not_false_eq_true, Bool.not_eq_true', Bool.not_eq_false', beq_self_eq_true, Bool.not_true, Bool.not_false, List.getElem?_toArray, List.getElem?_cons_zero, List.getElem?_cons_succ, h4, h5, h6, hcl, eN, e3]
      exact hfail (hno (.inl hl)) l

end Go.Proofs.Ytggklaimbklefaa

/- Plans: the reference's plan. -/
set_option maxHeartbeats 4000000
set_option synthInstance.maxHeartbeats 400000
set_option synthInstance.maxSize 4096
set_option linter.unusedSimpArgs false
set_option linter.unusedVariables false
namespace Go.Proofs.Ytggklaimbklefaa

set_option maxRecDepth 100000

/-- A choice after which all goes on alike. -/
theorem abr_cut {P : Program} {c d : Prop} {c1 c2 : Code} {k : Fr → View → Prop} {K : Post} {fr1 fr2 : Fr} {A : View} (Q : Fr → View → Prop) (h1 : c → awp P c1 (fun e fr A => e = .normal ∧ Q fr A) fr1 A) (h2 : d → awp P c2 (fun e fr A => e = .normal ∧ Q fr A) fr2 A) (h3 : ∀ fr A, Q fr A → k fr A) : abr c (awp P c1 (seqK k K) fr1 A) ∧ abr d (awp P c2 (seqK k K) fr2 A) := by
  have key : ∀ e fr A, (e = .normal ∧ Q fr A) → seqK k K e fr A := by
    rintro e fr A ⟨rfl, h⟩
    exact h3 fr A h
  exact ⟨fun e => awp_mono c1 key fr1 A (h1 e), fun e => awp_mono c2 key fr2 A (h2 e)⟩
theorem draw_cut {P : Program} {id : Nat} {ops : Array Oper} {y : Code} {R : Fr → View → Prop} {K1 K2 : Post} {fr : Fr} {A : View} (Q : Fr → View → Prop) (h1 : ADraw P id ops (fun fr A => awp P y (fun e fr A => e = .normal ∧ Q fr A) fr A) fr A) (h2 : ∀ fr A, Q fr A → R fr A) : ADraw P id ops (seqK (awp P y (seqK R K1)) K2 .normal) fr A :=
  awp_mono (.region id ops true) (K := fun e fr A => match e with
    | .normal => awp P y (fun e fr A => e = .normal ∧ Q fr A) fr A
    | _ => False) (fun e fr A h => by
    cases e <;> first
      | exact awp_mono y (fun e fr A h => by
          obtain ⟨rfl, h⟩ := h
          exact h2 fr A h) fr A h
      | exact h.elim) fr A h1

def genE (e : EventD) : Prop := -1 ≤ e.1 ∧ e.1 ≤ 3 ∧ e.2.1.size ≤ 300
theorem genE_app {xs ys : List EventD} (h : ∀ e, e ∈ xs → genE e) (h' : ∀ e, e ∈ ys → genE e) : ∀ e, e ∈ xs ++ ys → genE e := fun e he => (List.mem_append.1 he).elim (h e) (h' e)
theorem has_size {x : SuiteD} (hg : GenS x) {a : ByteArray} (ha : hasF x.1 a) : a.size ≤ 100 := by
  obtain ⟨f, hf, rfl⟩ := List.mem_map.1 ha
  exact (hg.s0 f hf).1
theorem genE_down {x : SuiteD} (hg : GenS x) {ls : List ByteArray} (h : ∀ a, a ∈ ls → hasF x.1 a) : ∀ e, e ∈ downR ls → genE e := fun e he => by
  unfold downR at he
  obtain ⟨a, ha, rfl⟩ := List.mem_map.1 he
  have := has_size hg (h a (List.mem_reverse.1 ha))
  exact ⟨by show (-1 : Int) ≤ 1; omega, by show (1 : Int) ≤ 3; omega, by show a.size ≤ 300; omega⟩
theorem downR_len (ls : List ByteArray) : (downR ls).length = ls.length := by
  unfold downR
  rw [List.length_map, List.length_reverse]
theorem Names.filter {fs : List FixtureD} {ls : List ByteArray} (h : Names fs ls) (p : ByteArray → Bool) : Names fs (ls.filter p) := ⟨List.filter_sublist.nodup h.1, fun a ha => h.2 a (List.mem_filter.1 ha).1⟩

theorem spec_planOf_c (A : View) (d : List Value) (x : SuiteD) (hx : suiteS.rel A x d) (hg : GenS x) : ACalls Try.prog 20 #[.agg d.toArray] A fun r V => ∃ es, es.length ≤ 410 ∧ (∀ e, e ∈ es → genE e) ∧ NewSl 56 eventO A r V es := by
  obtain ⟨u0, u1, rfl, g0, g1⟩ := suiteS_open hx
  obtain ⟨a0, c0, rfl, _, _⟩ := g0.slice
  obtain ⟨a1, c1, rfl, _, _⟩ := g1.slice
  have hl0 := hg.l0
  have hl1 := hg.l1
  have hNl : ∀ {ls : List ByteArray}, Names x.1 ls → ls.length ≤ 6 := fun h => Nat.le_trans h.len hl0
  refine acalls Try.func20 rfl (by kernel_rfl) ?_
  simp (disch := omega) only [↓stq, amv_at, vls, inf, frs, mark_eq, ↓reduceIte, Nat.reduceEqDiff, ite_tt, ite_ff, eq_self, and_true, true_and, and_self, implies_true, Bool.true_eq_false, Bool.false_eq_true, decide_true, decide_false, decide_eq_true_eq, decide_eq_false_iff_not, ne_eq, not_true_eq_false, not_false_eq_true, Bool.not_eq_true', Bool.not_eq_false', beq_self_eq_true, Bool.not_true, Bool.not_false, List.getElem?_toArray, List.getElem?_cons_zero, List.getElem?_cons_succ]
  refine led_box (Led.nil A) rfl fun q1 V _ l => ?_
  simp (disch := omega) only [↓stq, amv_at, vls, inf, frs, mark_eq, ↓reduceIte, Nat.reduceEqDiff, ite_tt, ite_ff, eq_self, and_true, true_and, and_self, implies_true, Bool.true_eq_false, Bool.false_eq_true, decide_true, decide_false, decide_eq_true_eq, decide_eq_false_iff_not, ne_eq, not_true_eq_false, not_false_eq_true, Bool.not_eq_true', Bool.not_eq_false', beq_self_eq_true, Bool.not_true, Bool.not_false, List.getElem?_toArray, List.getElem?_cons_zero, List.getElem?_cons_succ]
  refine led_lit0 (O := eventO) li24 l fun be V _ l => ?_
  simp (disch := omega) only [↓stq, amv_at, vls, inf, frs, mark_eq, ↓reduceIte, Nat.reduceEqDiff, ite_tt, ite_ff, eq_self, and_true, true_and, and_self, implies_true, Bool.true_eq_false, Bool.false_eq_true, decide_true, decide_false, decide_eq_true_eq, decide_eq_false_iff_not, ne_eq, not_true_eq_false, not_false_eq_true, Bool.not_eq_true', Bool.not_eq_false', beq_self_eq_true, Bool.not_true, Bool.not_false, List.getElem?_toArray, List.getElem?_cons_zero, List.getElem?_cons_succ]
  refine led_lit0 (O := strO) li54 l fun bl V _ l => ?_
  simp (disch := omega) only [↓stq, amv_at, vls, inf, frs, mark_eq, ↓reduceIte, Nat.reduceEqDiff, ite_tt, ite_ff, eq_self, and_true, true_and, and_self, implies_true, Bool.true_eq_false, Bool.false_eq_true, decide_true, decide_false, decide_eq_true_eq, decide_eq_false_iff_not, ne_eq, not_true_eq_false, not_false_eq_true, Bool.not_eq_true', Bool.not_eq_false', beq_self_eq_true, Bool.not_true, Bool.not_false, List.getElem?_toArray, List.getElem?_cons_zero, List.getElem?_cons_succ]
  refine aloop (fun d fr V => ∃ (i : Nat) (fe : List Nat) (we : Value) (es : List EventD) (fl : List Nat) (wl : Value) (ls : List ByteArray), i ≤ x.2.1.length ∧ d = x.2.1.length - i ∧ Led A [osl 56 eventO fe we es, osl 9 strO fl wl ls, bx q1 ⟨41, [.slice a0 x.1.length c0, .slice a1 x.2.1.length c1], 2, true⟩] V ∧ es.length ≤ 40 * i ∧ (∀ e, e ∈ es → genE e) ∧ Names x.1 ls ∧ fr 1 = .pointer (some ⟨q1, 0, none⟩) ∧ fr 3 = we ∧ fr 4 = wl ∧ fr 5 = .int .i64 i) x.2.1.length ⟨0, _, _, _, _, _, _, by omega, by omega, l.perm (List.Perm.swap ..), by simp, by simp, names_nil _, by rfl, by rfl, by rfl, by rfl⟩ ?_
  clear l
  rintro d fr V ⟨i, fe, we, es, fl, wl, ls, hi, rfl, l, hel, hge, hN, h1, h3, h4, h5⟩
  have k1 := l.cell (i := 2) rfl (o := 1) rfl rfl
  simp (disch := omega) only [↓stq, amv_at, vls, inf, frs, mark_eq, ↓reduceIte, Nat.reduceEqDiff, ite_tt, ite_ff, eq_self, and_true, true_and, and_self, implies_true, Bool.true_eq_false, Bool.false_eq_true, decide_true, decide_false, decide_eq_true_eq, decide_eq_false_iff_not, ne_eq, not_true_eq_false, not_false_eq_true, Bool.not_eq_true', Bool.not_eq_false', beq_self_eq_true, Bool.not_true, Bool.not_false, List.getElem?_toArray, List.getElem?_cons_zero, List.getElem?_cons_succ, h1, h3, h4, h5, add_at, k1]
  refine ⟨fun e1 => ?_, fun e1 => ?_⟩
  · have hlt : i < x.2.1.length := by omega
    obtain ⟨ad, u2, u3, rfl, hclA, z1, z2, f2, f3⟩ := g1.test hlt
    obtain ⟨a2, c2, rfl, _, _⟩ := f2.slice
    obtain ⟨a3, c3, rfl, _, _⟩ := f3.slice
    have hgt := hg.s1 _ (List.getElem_mem hlt)
    have hcl := l.ext.part hclA
    simp (disch := omega) only [↓stq, amv_at, vls, inf, frs, mark_eq, ↓reduceIte, Nat.reduceEqDiff, ite_tt, ite_ff, eq_self, and_true, true_and, and_self, implies_true, Bool.true_eq_false, Bool.false_eq_true, decide_true, decide_false, decide_eq_true_eq, decide_eq_false_iff_not, ne_eq, not_true_eq_false, not_false_eq_true, Bool.not_eq_true', Bool.not_eq_false', beq_self_eq_true, Bool.not_true, Bool.not_false, List.getElem?_toArray, List.getElem?_cons_zero, List.getElem?_cons_succ, h1, h3, h4, h5, add_at, k1, hcl]
    refine led_alloc zc78 l fun q6 V _ l => ?_
    simp (disch := omega) only [↓stq, amv_at, vls, inf, frs, mark_eq, ↓reduceIte, Nat.reduceEqDiff, ite_tt, ite_ff, eq_self, and_true, true_and, and_self, implies_true, Bool.true_eq_false, Bool.false_eq_true, decide_true, decide_false, decide_eq_true_eq, decide_eq_false_iff_not, ne_eq, not_true_eq_false, not_false_eq_true, Bool.not_eq_true', Bool.not_eq_false', beq_self_eq_true, Bool.not_true, Bool.not_false, List.getElem?_toArray, List.getElem?_cons_zero, List.getElem?_cons_succ, h1, h3, h4, h5]
    refine led_storeAll l 0 rfl sz78 rfl rfl (by simp [Value.oneCell']) fun V l => ?_
    simp (disch := omega) only [↓stq, amv_at, vls, inf, frs, mark_eq, ↓reduceIte, Nat.reduceEqDiff, ite_tt, ite_ff, eq_self, and_true, true_and, and_self, implies_true, Bool.true_eq_false, Bool.false_eq_true, decide_true, decide_false, decide_eq_true_eq, decide_eq_false_iff_not, ne_eq, not_true_eq_false, not_false_eq_true, Bool.not_eq_true', Bool.not_eq_false', beq_self_eq_true, Bool.not_true, Bool.not_false, List.getElem?_toArray, List.getElem?_cons_zero, List.getElem?_cons_succ, h1, h3, h4, h5]
    refine draw_cut (fun fr V => ∃ (fe : List Nat) (we : Value) (es : List EventD) (fl : List Nat) (wl : Value) (ls : List ByteArray), Led A [bx q6 ⟨78, [.string (x.2.1[i]).1, .string (x.2.1[i]).2.1, .slice a2 (x.2.1[i]).2.2.1.length c2, .slice a3 (x.2.1[i]).2.2.2.1.length c3], 4, true⟩, osl 56 eventO fe we es, osl 9 strO fl wl ls, bx q1 ⟨41, [.slice a0 x.1.length c0, .slice (some ad) x.2.1.length c1], 2, true⟩] V ∧ es.length ≤ 40 * i + 6 ∧ (∀ e, e ∈ es → genE e) ∧ Names x.1 ls ∧ fr 1 = .pointer (some ⟨q1, 0, none⟩) ∧ fr 3 = we ∧ fr 4 = wl ∧ fr 5 = .int .i64 i ∧ fr 6 = .pointer (some ⟨q6, 0, none⟩)) ?_ ?_
    · refine adraw_items [.q 0, .q 1, .q 2, .q 3, .l 4 false, .q 5, .q 6, .q 7, .q 8, .l 9 false, .q 10, .l 11 false, .q 12, .q 13] (by kernel_rfl) (by kernel_rfl) ?_
      have k1 := l.cell (i := 3) rfl (o := 1) rfl rfl
      have m0 := l.cell (i := 0) rfl (o := 0) rfl rfl
      simp (disch := omega) only [↓stq, amv_at, ↓pln, plv, nilOk, Nat.reduceBEq, Bool.or_false, Bool.or_true, Bool.false_or, Bool.true_or, vls, inf, frs, mark_eq, ↓reduceIte, Nat.reduceEqDiff, ite_tt, ite_ff, eq_self, and_true, true_and, and_self, implies_true, Bool.true_eq_false, Bool.false_eq_true, decide_true, decide_false, decide_eq_true_eq, decide_eq_false_iff_not, ne_eq, not_true_eq_false, not_false_eq_true, Bool.not_eq_true', Bool.not_eq_false', beq_self_eq_true, Bool.not_true, Bool.not_false, List.getElem?_toArray, List.getElem?_cons_zero, List.getElem?_cons_succ, h1, h3, h4, h5, add_at, k1, m0]
      have same : Led A [bx q6 ⟨78, [.string (x.2.1[i]).1, .string (x.2.1[i]).2.1, .slice a2 (x.2.1[i]).2.2.1.length c2, .slice a3 (x.2.1[i]).2.2.2.1.length c3], 4, true⟩, osl 56 eventO fe we es, osl 9 strO fl wl ls, bx q1 ⟨41, [.slice a0 x.1.length c0, .slice (some ad) x.2.1.length c1], 2, true⟩] V := l
      refine ⟨fun e2 => ?_, fun e2 => ?_⟩
      · obtain ⟨_, _, _, hq, hclP, _, _, _, _⟩ := g1.test (i := i - 1) (by omega)
        obtain rfl := Option.some.inj hq
        have p0 := View.part_cell (l.ext.part hclP) (j := 0) rfl
        have hdd : ((i : Int) - 1).toNat = i - 1 := by omega
        simp (disch := omega) only [↓stq, amv_at, ↓pln, plv, nilOk, Nat.reduceBEq, Bool.or_false, Bool.or_true, Bool.false_or, Bool.true_or, vls, inf, frs, mark_eq, ↓reduceIte, Nat.reduceEqDiff, ite_tt, ite_ff, eq_self, and_true, true_and, and_self, implies_true, Bool.true_eq_false, Bool.false_eq_true, decide_true, decide_false, decide_eq_true_eq, decide_eq_false_iff_not, ne_eq, not_true_eq_false, not_false_eq_true, Bool.not_eq_true', Bool.not_eq_false', beq_self_eq_true, Bool.not_true, Bool.not_false, List.getElem?_toArray, List.getElem?_cons_zero, List.getElem?_cons_succ, h1, h3, h4, h5, e2, add_at, k1, m0, hdd, p0]
        refine ⟨fun e3 => ?_, fun e3 => ?_⟩
        · have kp : V.part ⟨q1, 0, none⟩ 2 = some [.slice a0 x.1.length c0, .slice (some ad) x.2.1.length c1] := l.part (i := 3) rfl rfl
          obtain ⟨al, cl, rfl, _, _⟩ := (OSl.toS (show OSl 9 strO V fl wl ls from l.at (i := 2) rfl)).slice
          have hNl6 := hNl hN
          simp (disch := omega) only [↓stq, amv_at, vls, inf, frs, mark_eq, ↓reduceIte, Nat.reduceEqDiff, ite_tt, ite_ff, eq_self, and_true, true_and, and_self, implies_true, Bool.true_eq_false, Bool.false_eq_true, decide_true, decide_false, decide_eq_true_eq, decide_eq_false_iff_not, ne_eq, not_true_eq_false, not_false_eq_true, Bool.not_eq_true', Bool.not_eq_false', beq_self_eq_true, Bool.not_true, Bool.not_false, List.getElem?_toArray, List.getElem?_cons_zero, List.getElem?_cons_succ, h1, h3, h4, h5, kp]
          refine (spec_liveScope_c V _ x _ ls 1 (suiteS_mk (g0.mono l.ext) (g1.mono l.ext)) (OSl.toS (l.at (i := 2) rfl)) hN.2 (by omega)).mono ?_
          rintro r7 V2 ⟨f7, l7⟩
          have hB := bucket_len x.1 ls 1
          have hBh : ∀ a, a ∈ bucket x.1 ls 1 → hasF x.1 a := fun a ha => hN.2 a (bucket_mem.1 ha).1
          generalize bucket x.1 ls 1 = bk at l7 hB hBh
          obtain ⟨a7, c7, rfl, _, _⟩ := (OSl.toS (show OSl 9 strO V2 f7 r7 bk from l7.at (i := 0) rfl)).slice
          replace l := l.append l7
          simp (disch := omega) only [↓stq, amv_at, vls, inf, frs, mark_eq, ↓reduceIte, Nat.reduceEqDiff, ite_tt, ite_ff, eq_self, and_true, true_and, and_self, implies_true, Bool.true_eq_false, Bool.false_eq_true, decide_true, decide_false, decide_eq_true_eq, decide_eq_false_iff_not, ne_eq, not_true_eq_false, not_false_eq_true, Bool.not_eq_true', Bool.not_eq_false', beq_self_eq_true, Bool.not_true, Bool.not_false, List.getElem?_toArray, List.getElem?_cons_zero, List.getElem?_cons_succ, h1, h3, h4, h5]
          refine (spec_downs_c V2 _ bk (OSl.toS (l.at (i := 0) rfl)) (by omega)).mono ?_
          rintro rd V3 ⟨fd, ld⟩
          replace l := l.append ld
          have hdl := downR_len bk
          have hdg := genE_down hg hBh
          generalize downR bk = dn at l hdl hdg
          obtain ⟨adn, cdn, rfl, _, _⟩ := (OSl.toS (show OSl 56 eventO V3 fd rd dn from l.at (i := 0) rfl)).slice
          simp (disch := omega) only [↓stq, amv_at, vls, inf, frs, mark_eq, ↓reduceIte, Nat.reduceEqDiff, ite_tt, ite_ff, eq_self, and_true, true_and, and_self, implies_true, Bool.true_eq_false, Bool.false_eq_true, decide_true, decide_false, decide_eq_true_eq, decide_eq_false_iff_not, ne_eq, not_true_eq_false, not_false_eq_true, Bool.not_eq_true', Bool.not_eq_false', beq_self_eq_true, Bool.not_true, Bool.not_false, List.getElem?_toArray, List.getElem?_cons_zero, List.getElem?_cons_succ, h1, h3, h4, h5]
          refine led_app (O := eventO) ap24_24 (by decide) l (i := 3) rfl (Sl.srcOf (OSl.toS (l.at (i := 0) rfl))) (by omega) fun fe2 we2 V4 _ l => ?_
          simp (disch := omega) only [↓stq, amv_at, vls, inf, frs, mark_eq, ↓reduceIte, Nat.reduceEqDiff, ite_tt, ite_ff, eq_self, and_true, true_and, and_self, implies_true, Bool.true_eq_false, Bool.false_eq_true, decide_true, decide_false, decide_eq_true_eq, decide_eq_false_iff_not, ne_eq, not_true_eq_false, not_false_eq_true, Bool.not_eq_true', Bool.not_eq_false', beq_self_eq_true, Bool.not_true, Bool.not_false, List.getElem?_toArray, List.getElem?_cons_zero, List.getElem?_cons_succ, h1, h3, h4, h5]
          refine (spec_without_c V4 _ _ ls bk (OSl.toS (l.at (i := 4) rfl)) (OSl.toS (l.at (i := 1) rfl)) (by omega)).mono ?_
          rintro rl V5 ⟨fl2, l5⟩
          replace l := l.append l5
          simp (disch := omega) only [↓stq, amv_at, vls, inf, frs, mark_eq, ↓reduceIte, Nat.reduceEqDiff, ite_tt, ite_ff, eq_self, and_true, true_and, and_self, implies_true, Bool.true_eq_false, Bool.false_eq_true, decide_true, decide_false, decide_eq_true_eq, decide_eq_false_iff_not, ne_eq, not_true_eq_false, not_false_eq_true, Bool.not_eq_true', Bool.not_eq_false', beq_self_eq_true, Bool.not_true, Bool.not_false, List.getElem?_toArray, List.getElem?_cons_zero, List.getElem?_cons_succ, h1, h3, h4, h5]
          exact ⟨fe2, we2, es ++ dn, fl2, rl, _, (l.sub (M := [osl 9 strO fl2 rl (ls.filter fun a => decide (a ∉ bk)), bx q6 ⟨78, [.string (x.2.1[i]).1, .string (x.2.1[i]).2.1, .slice a2 (x.2.1[i]).2.2.1.length c2, .slice a3 (x.2.1[i]).2.2.2.1.length c3], 4, true⟩, osl 56 eventO fe2 we2 (es ++ dn), bx q1 ⟨41, [.slice a0 x.1.length c0, .slice (some ad) x.2.1.length c1], 2, true⟩]) (.cons_cons _ (.cons _ (.cons _ (.cons_cons _ (.cons_cons _ (.cons _ (.cons_cons _ (List.Sublist.refl []))))))))).perm (((List.Perm.swap ..).cons _).trans (List.Perm.swap ..)).symm.symm, by rw [List.length_append]; omega, genE_app hge hdg, hN.filter _, rfl, rfl⟩
        · simp (disch := omega) only [↓stq, amv_at, vls, inf, frs, mark_eq, ↓reduceIte, Nat.reduceEqDiff, ite_tt, ite_ff, eq_self, and_true, true_and, and_self, implies_true, Bool.true_eq_false, Bool.false_eq_true, decide_true, decide_false, decide_eq_true_eq, decide_eq_false_iff_not, ne_eq, not_true_eq_false, not_false_eq_true, Bool.not_eq_true', Bool.not_eq_false', beq_self_eq_true, Bool.not_true, Bool.not_false, List.getElem?_toArray, List.getElem?_cons_zero, List.getElem?_cons_succ, h1, h3, h4, h5]
          exact ⟨fe, we, es, fl, wl, ls, same, by omega, hge, hN, rfl, rfl⟩
      · simp (disch := omega) only [↓stq, amv_at, ↓pln, plv, nilOk, Nat.reduceBEq, Bool.or_false, Bool.or_true, Bool.false_or, Bool.true_or, vls, inf, frs, mark_eq, ↓reduceIte, Nat.reduceEqDiff, ite_tt, ite_ff, eq_self, and_true, true_and, and_self, implies_true, Bool.true_eq_false, Bool.false_eq_true, decide_true, decide_false, decide_eq_true_eq, decide_eq_false_iff_not, ne_eq, not_true_eq_false, not_false_eq_true, Bool.not_eq_true', Bool.not_eq_false', beq_self_eq_true, Bool.not_true, Bool.not_false, List.getElem?_toArray, List.getElem?_cons_zero, List.getElem?_cons_succ, h1, h3, h4, h5, e2]
        exact ⟨fe, we, es, fl, wl, ls, same, by omega, hge, hN, rfl, rfl⟩
    · clear l k1 hel hge hN h1 h3 h4 h5
      rintro fr V ⟨fe, we, es, fl, wl, ls, l, hel, hge, hN, h1, h3, h4, h5, h6⟩
      have kp : V.part ⟨q1, 0, none⟩ 2 = some [.slice a0 x.1.length c0, .slice (some ad) x.2.1.length c1] := l.part (i := 3) rfl rfl
      have kt : V.part ⟨q6, 0, none⟩ 4 = some [.string (x.2.1[i]).1, .string (x.2.1[i]).2.1, .slice a2 (x.2.1[i]).2.2.1.length c2, .slice a3 (x.2.1[i]).2.2.2.1.length c3] := l.part (i := 0) rfl rfl
      simp (disch := omega) only [↓stq, amv_at, vls, inf, frs, mark_eq, ↓reduceIte, Nat.reduceEqDiff, ite_tt, ite_ff, eq_self, and_true, true_and, and_self, implies_true, Bool.true_eq_false, Bool.false_eq_true, decide_true, decide_false, decide_eq_true_eq, decide_eq_false_iff_not, ne_eq, not_true_eq_false, not_false_eq_true, Bool.not_eq_true', Bool.not_eq_false', beq_self_eq_true, Bool.not_true, Bool.not_false, List.getElem?_toArray, List.getElem?_cons_zero, List.getElem?_cons_succ, h1, h3, h4, h5, h6, kp, kt]
      refine (spec_closure_c V _ _ x x.2.1[i] (suiteS_mk (g0.mono l.ext) (g1.mono l.ext)) (testS_mk z1 z2 (f2.mono l.ext) (f3.mono l.ext)) (by omega)).mono ?_
      rintro r8 V2 ⟨f8, l8⟩
      have hcl := cloR_len hl0 (preR x x.2.1[i])
      have hch := cloR_has (fs := x.1) (ns := preR x x.2.1[i])
      generalize cloR x.1 (preR x x.2.1[i]) = cs at l8 hcl hch
      obtain ⟨a8, c8, rfl, _, _⟩ := (OSl.toS (show OSl 9 strO V2 f8 r8 cs from l8.at (i := 0) rfl)).slice
      replace l := l.append l8
      simp (disch := omega) only [↓stq, amv_at, vls, inf, frs, mark_eq, ↓reduceIte, Nat.reduceEqDiff, ite_tt, ite_ff, eq_self, and_true, true_and, and_self, implies_true, Bool.true_eq_false, Bool.false_eq_true, decide_true, decide_false, decide_eq_true_eq, decide_eq_false_iff_not, ne_eq, not_true_eq_false, not_false_eq_true, Bool.not_eq_true', Bool.not_eq_false', beq_self_eq_true, Bool.not_true, Bool.not_false, List.getElem?_toArray, List.getElem?_cons_zero, List.getElem?_cons_succ, h1, h3, h4, h5, h6]
      refine aloop (fun d fr V => ∃ (j : Nat) (fe : List Nat) (we : Value) (es : List EventD) (fl : List Nat) (wl : Value) (ls : List ByteArray), j ≤ cs.length ∧ d = cs.length - j ∧ Led A [osl 9 strO f8 (.slice a8 cs.length c8) cs, bx q6 ⟨78, [.string (x.2.1[i]).1, .string (x.2.1[i]).2.1, .slice a2 (x.2.1[i]).2.2.1.length c2, .slice a3 (x.2.1[i]).2.2.2.1.length c3], 4, true⟩, osl 56 eventO fe we es, osl 9 strO fl wl ls, bx q1 ⟨41, [.slice a0 x.1.length c0, .slice (some ad) x.2.1.length c1], 2, true⟩] V ∧ es.length ≤ 40 * i + 6 + j ∧ (∀ e, e ∈ es → genE e) ∧ Names x.1 ls ∧ fr 1 = .pointer (some ⟨q1, 0, none⟩) ∧ fr 3 = we ∧ fr 4 = wl ∧ fr 5 = .int .i64 i ∧ fr 6 = .pointer (some ⟨q6, 0, none⟩) ∧ fr 8 = .slice a8 cs.length c8 ∧ fr 9 = .int .i64 j) cs.length ⟨0, fe, we, es, fl, wl, ls, by omega, by omega, l, by omega, hge, hN, h1, h3, h4, h5, h6, by rfl, by rfl⟩ ?_
      clear l kp kt hel hge hN h1 h3 h4 h5 h6
      rintro d fr V ⟨j, fe, we, es, fl, wl, ls, hj, rfl, l, hel, hge, hN, h1, h3, h4, h5, h6, h8, h9⟩
      simp (disch := omega) only [↓stq, amv_at, vls, inf, frs, mark_eq, ↓reduceIte, Nat.reduceEqDiff, ite_tt, ite_ff, eq_self, and_true, true_and, and_self, implies_true, Bool.true_eq_false, Bool.false_eq_true, decide_true, decide_false, decide_eq_true_eq, decide_eq_false_iff_not, ne_eq, not_true_eq_false, not_false_eq_true, Bool.not_eq_true', Bool.not_eq_false', beq_self_eq_true, Bool.not_true, Bool.not_false, List.getElem?_toArray, List.getElem?_cons_zero, List.getElem?_cons_succ, h1, h3, h4, h5, h6, h8, h9]
      refine ⟨fun e2 => ?_, fun e2 => ?_⟩
      · have hltj : j < cs.length := by omega
        have hNl6 := hNl hN
        have hFj := hch _ (List.getElem_mem hltj)
        have hzj := has_size hg hFj
        obtain ⟨adr, hq, kr, zr⟩ := (OSl.toS (show OSl 9 strO V f8 _ cs from l.at (i := 0) rfl)).str hltj
        subst hq
        simp (disch := omega) only [↓stq, amv_at, vls, inf, frs, mark_eq, ↓reduceIte, Nat.reduceEqDiff, ite_tt, ite_ff, eq_self, and_true, true_and, and_self, implies_true, Bool.true_eq_false, Bool.false_eq_true, decide_true, decide_false, decide_eq_true_eq, decide_eq_false_iff_not, ne_eq, not_true_eq_false, not_false_eq_true, Bool.not_eq_true', Bool.not_eq_false', beq_self_eq_true, Bool.not_true, Bool.not_false, List.getElem?_toArray, List.getElem?_cons_zero, List.getElem?_cons_succ, h1, h3, h4, h5, h6, h8, h9, kr]
        refine (spec_hasText_c V _ ls cs[j] (OSl.toS (l.at (i := 3) rfl))).mono ?_
        rintro _ V ⟨rfl, rfl⟩
        simp (disch := omega) only [↓stq, amv_at, vls, inf, frs, mark_eq, ↓reduceIte, Nat.reduceEqDiff, ite_tt, ite_ff, eq_self, and_true, true_and, and_self, implies_true, Bool.true_eq_false, Bool.false_eq_true, decide_true, decide_false, decide_eq_true_eq, decide_eq_false_iff_not, ne_eq, not_true_eq_false, not_false_eq_true, Bool.not_eq_true', Bool.not_eq_false', beq_self_eq_true, Bool.not_true, Bool.not_false, List.getElem?_toArray, List.getElem?_cons_zero, List.getElem?_cons_succ, h1, h3, h4, h5, h6, h8, h9]
        refine ⟨fun e3 => ?_, fun e3 => ?_⟩ <;> simp (disch := omega) only [↓stq, amv_at, vls, inf, frs, mark_eq, ↓reduceIte, Nat.reduceEqDiff, ite_tt, ite_ff, eq_self, and_true, true_and, and_self, implies_true, Bool.true_eq_false, Bool.false_eq_true, decide_true, decide_false, decide_eq_true_eq, decide_eq_false_iff_not, ne_eq, not_true_eq_false, not_false_eq_true, Bool.not_eq_true', Bool.not_eq_false', beq_self_eq_true, Bool.not_true, Bool.not_false, List.getElem?_toArray, List.getElem?_cons_zero, List.getElem?_cons_succ, h1, h3, h4, h5, h6, h8, h9, kr]
        · refine led_lit li54 (by omega) rfl (by simp [Value.cells, Value.oneCell']) l fun bl2 V _ l => ?_
          simp (disch := omega) only [↓stq, amv_at, vls, inf, frs, mark_eq, ↓reduceIte, Nat.reduceEqDiff, ite_tt, ite_ff, eq_self, and_true, true_and, and_self, implies_true, Bool.true_eq_false, Bool.false_eq_true, decide_true, decide_false, decide_eq_true_eq, decide_eq_false_iff_not, ne_eq, not_true_eq_false, not_false_eq_true, Bool.not_eq_true', Bool.not_eq_false', beq_self_eq_true, Bool.not_true, Bool.not_false, List.getElem?_toArray, List.getElem?_cons_zero, List.getElem?_cons_succ, h1, h3, h4, h5, h6, h8, h9]
          refine led_app (O := strO) ap54_54 (by decide) l (i := 4) rfl (l.src1 (S := strS) (j := 0) rfl ⟨rfl, zr⟩) (by rw [List.length_singleton]; omega) fun fl2 wl2 V _ l => ?_
          replace l := l.tail
          obtain ⟨_, hq, kr, _⟩ := (OSl.toS (show OSl 9 strO V f8 _ cs from l.at (i := 0) rfl)).str hltj
          obtain rfl := Option.some.inj hq
          simp (disch := omega) only [↓stq, amv_at, vls, inf, frs, mark_eq, ↓reduceIte, Nat.reduceEqDiff, ite_tt, ite_ff, eq_self, and_true, true_and, and_self, implies_true, Bool.true_eq_false, Bool.false_eq_true, decide_true, decide_false, decide_eq_true_eq, decide_eq_false_iff_not, ne_eq, not_true_eq_false, not_false_eq_true, Bool.not_eq_true', Bool.not_eq_false', beq_self_eq_true, Bool.not_true, Bool.not_false, List.getElem?_toArray, List.getElem?_cons_zero, List.getElem?_cons_succ, h1, h3, h4, h5, h6, h8, h9, kr]
          refine led_lit li24 (by omega) rfl (fun p hp => by rcases List.mem_singleton.1 hp with rfl; exact ⟨rfl, rfl⟩) l fun bl3 V _ l => ?_
          simp (disch := omega) only [↓stq, amv_at, vls, inf, frs, mark_eq, ↓reduceIte, Nat.reduceEqDiff, ite_tt, ite_ff, eq_self, and_true, true_and, and_self, implies_true, Bool.true_eq_false, Bool.false_eq_true, decide_true, decide_false, decide_eq_true_eq, decide_eq_false_iff_not, ne_eq, not_true_eq_false, not_false_eq_true, Bool.not_eq_true', Bool.not_eq_false', beq_self_eq_true, Bool.not_true, Bool.not_false, List.getElem?_toArray, List.getElem?_cons_zero, List.getElem?_cons_succ, h1, h3, h4, h5, h6, h8, h9]
          refine led_app (O := eventO) ap24_24 (by decide) l (i := 3) rfl (l.src1 (S := eventS) (j := 0) rfl (eventS_mk (x := (0, cs[j], ())) (by show (_ : Int) ≤ 0 ∧ (0 : Int) < _; omega) zr)) (by rw [List.length_singleton]; omega) fun fe2 we2 V _ l => ?_
          replace l := l.tail
          simp (disch := omega) only [↓stq, amv_at, vls, inf, frs, mark_eq, ↓reduceIte, Nat.reduceEqDiff, ite_tt, ite_ff, eq_self, and_true, true_and, and_self, implies_true, Bool.true_eq_false, Bool.false_eq_true, decide_true, decide_false, decide_eq_true_eq, decide_eq_false_iff_not, ne_eq, not_true_eq_false, not_false_eq_true, Bool.not_eq_true', Bool.not_eq_false', beq_self_eq_true, Bool.not_true, Bool.not_false, List.getElem?_toArray, List.getElem?_cons_zero, List.getElem?_cons_succ, h1, h3, h4, h5, h6, h8, h9]
          exact ⟨_, by omega, j + 1, fe2, we2, es ++ [(0, cs[j], ())], fl2, wl2, ls ++ [cs[j]], by omega, rfl, l, by rw [List.length_append, List.length_singleton]; omega, genE_app hge (fun e he => by rw [List.mem_singleton.1 he]; exact ⟨by show (-1 : Int) ≤ 0; omega, by show (0 : Int) ≤ 3; omega, by show (cs[j]).size ≤ 300; omega⟩), hN.snoc hFj e3, rfl, rfl, rfl⟩
        · exact ⟨_, by omega, j + 1, fe, we, es, fl, wl, ls, by omega, rfl, l, by omega, hge, hN, rfl, rfl, rfl⟩
      · replace l := l.tail
        have hNl6 := hNl hN
        have kt : V.part ⟨q6, 0, none⟩ 4 = some [.string (x.2.1[i]).1, .string (x.2.1[i]).2.1, .slice a2 (x.2.1[i]).2.2.1.length c2, .slice a3 (x.2.1[i]).2.2.2.1.length c3] := l.part (i := 0) rfl rfl
        simp (disch := omega) only [↓stq, amv_at, vls, inf, frs, mark_eq, ↓reduceIte, Nat.reduceEqDiff, ite_tt, ite_ff, eq_self, and_true, true_and, and_self, implies_true, Bool.true_eq_false, Bool.false_eq_true, decide_true, decide_false, decide_eq_true_eq, decide_eq_false_iff_not, ne_eq, not_true_eq_false, not_false_eq_true, Bool.not_eq_true', Bool.not_eq_false', beq_self_eq_true, Bool.not_true, Bool.not_false, List.getElem?_toArray, List.getElem?_cons_zero, List.getElem?_cons_succ, h1, h3, h4, h5, h6, h8, h9, kt]
        refine (spec_idOf_c V _ x.2.1[i] (testS_mk z1 z2 (f2.mono l.ext) (f3.mono l.ext))).mono ?_
        rintro _ V2 ⟨rfl, he2⟩
        replace l := l.step he2
        have hiz : (idD x.2.1[i]).size ≤ 300 := by
          have h1 := hgt.1
          have h2 := hgt.2.1
          rw [idD_size]; omega
        generalize idD x.2.1[i] = idi at hiz
        simp (disch := omega) only [↓stq, amv_at, vls, inf, frs, mark_eq, ↓reduceIte, Nat.reduceEqDiff, ite_tt, ite_ff, eq_self, and_true, true_and, and_self, implies_true, Bool.true_eq_false, Bool.false_eq_true, decide_true, decide_false, decide_eq_true_eq, decide_eq_false_iff_not, ne_eq, not_true_eq_false, not_false_eq_true, Bool.not_eq_true', Bool.not_eq_false', beq_self_eq_true, Bool.not_true, Bool.not_false, List.getElem?_toArray, List.getElem?_cons_zero, List.getElem?_cons_succ, h1, h3, h4, h5, h6, h8, h9]
        refine led_lit li24 (by omega) rfl (fun p hp => by rcases List.mem_singleton.1 hp with rfl; exact ⟨rfl, rfl⟩) l fun bl3 V _ l => ?_
        simp (disch := omega) only [↓stq, amv_at, vls, inf, frs, mark_eq, ↓reduceIte, Nat.reduceEqDiff, ite_tt, ite_ff, eq_self, and_true, true_and, and_self, implies_true, Bool.true_eq_false, Bool.false_eq_true, decide_true, decide_false, decide_eq_true_eq, decide_eq_false_iff_not, ne_eq, not_true_eq_false, not_false_eq_true, Bool.not_eq_true', Bool.not_eq_false', beq_self_eq_true, Bool.not_true, Bool.not_false, List.getElem?_toArray, List.getElem?_cons_zero, List.getElem?_cons_succ, h1, h3, h4, h5, h6, h8, h9]
        refine led_app (O := eventO) ap24_24 (by decide) l (i := 2) rfl (l.src1 (S := eventS) (j := 0) rfl (eventS_mk (x := (2, idi, ())) (by show (_ : Int) ≤ 2 ∧ (2 : Int) < _; omega) (by show idi.size ≤ _; omega))) (by rw [List.length_singleton]; omega) fun fe1 we1 V _ l => ?_
        replace l := l.tail
        have hge1 := genE_app hge (ys := [(2, idi, ())]) (fun e he => by rw [List.mem_singleton.1 he]; exact ⟨by show (-1 : Int) ≤ 2; omega, by show (2 : Int) ≤ 3; omega, hiz⟩)
        have hel1 : (es ++ [((2 : Int), idi, ())]).length ≤ 40 * i + 25 := by rw [List.length_append, List.length_singleton]; omega
        generalize es ++ [((2 : Int), idi, ())] = es1 at l hge1 hel1
        have kp : V.part ⟨q1, 0, none⟩ 2 = some [.slice a0 x.1.length c0, .slice (some ad) x.2.1.length c1] := l.part (i := 3) rfl rfl
        obtain ⟨al, cl, rfl, _, _⟩ := (OSl.toS (show OSl 9 strO V fl wl ls from l.at (i := 2) rfl)).slice
        simp (disch := omega) only [↓stq, amv_at, vls, inf, frs, mark_eq, ↓reduceIte, Nat.reduceEqDiff, ite_tt, ite_ff, eq_self, and_true, true_and, and_self, implies_true, Bool.true_eq_false, Bool.false_eq_true, decide_true, decide_false, decide_eq_true_eq, decide_eq_false_iff_not, ne_eq, not_true_eq_false, not_false_eq_true, Bool.not_eq_true', Bool.not_eq_false', beq_self_eq_true, Bool.not_true, Bool.not_false, List.getElem?_toArray, List.getElem?_cons_zero, List.getElem?_cons_succ, h1, h3, h4, h5, h6, h8, h9, kp]
        refine (spec_liveScope_c V _ x _ ls 0 (suiteS_mk (g0.mono l.ext) (g1.mono l.ext)) (OSl.toS (l.at (i := 2) rfl)) hN.2 (by omega)).mono ?_
        rintro r7 V2 ⟨f7, l7⟩
        have hB := bucket_len x.1 ls 0
        have hBh : ∀ a, a ∈ bucket x.1 ls 0 → hasF x.1 a := fun a ha => hN.2 a (bucket_mem.1 ha).1
        generalize bucket x.1 ls 0 = bk at l7 hB hBh
        obtain ⟨a7, c7, rfl, _, _⟩ := (OSl.toS (show OSl 9 strO V2 f7 r7 bk from l7.at (i := 0) rfl)).slice
        replace l := l.append l7
        simp (disch := omega) only [↓stq, amv_at, vls, inf, frs, mark_eq, ↓reduceIte, Nat.reduceEqDiff, ite_tt, ite_ff, eq_self, and_true, true_and, and_self, implies_true, Bool.true_eq_false, Bool.false_eq_true, decide_true, decide_false, decide_eq_true_eq, decide_eq_false_iff_not, ne_eq, not_true_eq_false, not_false_eq_true, Bool.not_eq_true', Bool.not_eq_false', beq_self_eq_true, Bool.not_true, Bool.not_false, List.getElem?_toArray, List.getElem?_cons_zero, List.getElem?_cons_succ, h1, h3, h4, h5, h6, h8, h9]
        refine (spec_downs_c V2 _ bk (OSl.toS (l.at (i := 0) rfl)) (by omega)).mono ?_
        rintro rd V3 ⟨fd, ld⟩
        replace l := l.append ld
        have hdl := downR_len bk
        have hdg := genE_down hg hBh
        generalize downR bk = dn at l hdl hdg
        obtain ⟨adn, cdn, rfl, _, _⟩ := (OSl.toS (show OSl 56 eventO V3 fd rd dn from l.at (i := 0) rfl)).slice
        simp (disch := omega) only [↓stq, amv_at, vls, inf, frs, mark_eq, ↓reduceIte, Nat.reduceEqDiff, ite_tt, ite_ff, eq_self, and_true, true_and, and_self, implies_true, Bool.true_eq_false, Bool.false_eq_true, decide_true, decide_false, decide_eq_true_eq, decide_eq_false_iff_not, ne_eq, not_true_eq_false, not_false_eq_true, Bool.not_eq_true', Bool.not_eq_false', beq_self_eq_true, Bool.not_true, Bool.not_false, List.getElem?_toArray, List.getElem?_cons_zero, List.getElem?_cons_succ, h1, h3, h4, h5, h6, h8, h9]
        refine led_app (O := eventO) ap24_24 (by decide) l (i := 3) rfl (Sl.srcOf (OSl.toS (l.at (i := 0) rfl))) (by omega) fun fe2 we2 V4 _ l => ?_
        simp (disch := omega) only [↓stq, amv_at, vls, inf, frs, mark_eq, ↓reduceIte, Nat.reduceEqDiff, ite_tt, ite_ff, eq_self, and_true, true_and, and_self, implies_true, Bool.true_eq_false, Bool.false_eq_true, decide_true, decide_false, decide_eq_true_eq, decide_eq_false_iff_not, ne_eq, not_true_eq_false, not_false_eq_true, Bool.not_eq_true', Bool.not_eq_false', beq_self_eq_true, Bool.not_true, Bool.not_false, List.getElem?_toArray, List.getElem?_cons_zero, List.getElem?_cons_succ, h1, h3, h4, h5, h6, h8, h9]
        refine (spec_without_c V4 _ _ ls bk (OSl.toS (l.at (i := 4) rfl)) (OSl.toS (l.at (i := 1) rfl)) (by omega)).mono ?_
        rintro rl V5 ⟨fl2, l5⟩
        replace l := l.append l5
        simp (disch := omega) only [↓stq, amv_at, vls, inf, frs, mark_eq, ↓reduceIte, Nat.reduceEqDiff, ite_tt, ite_ff, eq_self, and_true, true_and, and_self, implies_true, Bool.true_eq_false, Bool.false_eq_true, decide_true, decide_false, decide_eq_true_eq, decide_eq_false_iff_not, ne_eq, not_true_eq_false, not_false_eq_true, Bool.not_eq_true', Bool.not_eq_false', beq_self_eq_true, Bool.not_true, Bool.not_false, List.getElem?_toArray, List.getElem?_cons_zero, List.getElem?_cons_succ, h1, h3, h4, h5, h6, h8, h9]
        exact ⟨_, by omega, i + 1, fe2, we2, es1 ++ dn, fl2, rl, _, by omega, rfl, (l.sub (M := [osl 9 strO fl2 rl (ls.filter fun a => decide (a ∉ bk)), osl 56 eventO fe2 we2 (es1 ++ dn), bx q1 ⟨41, [.slice a0 x.1.length c0, .slice (some ad) x.2.1.length c1], 2, true⟩]) (.cons_cons _ (.cons _ (.cons _ (.cons _ (.cons_cons _ (.cons _ (.cons_cons _ (List.Sublist.refl []))))))))).perm (List.Perm.swap ..), by rw [List.length_append]; omega, genE_app hge1 hdg, hN.filter _, rfl, rfl, rfl⟩
  · have hNl6 := hNl hN
    simp (disch := omega) only [↓stq, amv_at, vls, inf, frs, mark_eq, ↓reduceIte, Nat.reduceEqDiff, ite_tt, ite_ff, eq_self, and_true, true_and, and_self, implies_true, Bool.true_eq_false, Bool.false_eq_true, decide_true, decide_false, decide_eq_true_eq, decide_eq_false_iff_not, ne_eq, not_true_eq_false, not_false_eq_true, Bool.not_eq_true', Bool.not_eq_false', beq_self_eq_true, Bool.not_true, Bool.not_false, List.getElem?_toArray, List.getElem?_cons_zero, List.getElem?_cons_succ, h1, h3, h4, h5]
    refine (spec_downs_c V _ ls (OSl.toS (l.at (i := 1) rfl)) (by omega)).mono ?_
    rintro rd V3 ⟨fd, ld⟩
    replace l := l.append ld
    have hdl := downR_len ls
    have hdg := genE_down hg hN.2
    generalize downR ls = dn at l hdl hdg
    obtain ⟨adn, cdn, rfl, _, _⟩ := (OSl.toS (show OSl 56 eventO V3 fd rd dn from l.at (i := 0) rfl)).slice
    simp (disch := omega) only [↓stq, amv_at, vls, inf, frs, mark_eq, ↓reduceIte, Nat.reduceEqDiff, ite_tt, ite_ff, eq_self, and_true, true_and, and_self, implies_true, Bool.true_eq_false, Bool.false_eq_true, decide_true, decide_false, decide_eq_true_eq, decide_eq_false_iff_not, ne_eq, not_true_eq_false, not_false_eq_true, Bool.not_eq_true', Bool.not_eq_false', beq_self_eq_true, Bool.not_true, Bool.not_false, List.getElem?_toArray, List.getElem?_cons_zero, List.getElem?_cons_succ, h1, h3, h4, h5]
    refine led_app (O := eventO) ap24_24 (by decide) l (i := 1) rfl (Sl.srcOf (OSl.toS (l.at (i := 0) rfl))) (by omega) fun fe2 we2 V4 _ l => ?_
    simp (disch := omega) only [↓stq, amv_at, vls, inf, frs, mark_eq, ↓reduceIte, Nat.reduceEqDiff, ite_tt, ite_ff, eq_self, and_true, true_and, and_self, implies_true, Bool.true_eq_false, Bool.false_eq_true, decide_true, decide_false, decide_eq_true_eq, decide_eq_false_iff_not, ne_eq, not_true_eq_false, not_false_eq_true, Bool.not_eq_true', Bool.not_eq_false', beq_self_eq_true, Bool.not_true, Bool.not_false, List.getElem?_toArray, List.getElem?_cons_zero, List.getElem?_cons_succ, h1, h3, h4, h5]
    exact ⟨es ++ dn, by rw [List.length_append]; omega, genE_app hge hdg, NewSl.of l (i := 1) rfl⟩

end Go.Proofs.Ytggklaimbklefaa

/- Generators of texts of plans. -/
set_option maxHeartbeats 4000000
set_option synthInstance.maxHeartbeats 400000
set_option synthInstance.maxSize 4096
set_option linter.unusedSimpArgs false
set_option linter.unusedVariables false
namespace Go.Proofs.Ytggklaimbklefaa

set_option maxRecDepth 100000

theorem genE_text : ∀ {es : List EventD}, (∀ e, e ∈ es → genE e) → (textE es).length ≤ 306 * es.length
  | [], _ => by simp [textE]
  | e :: es, h => by
    have h1 := genE_text fun x hx => h x (List.mem_cons_of_mem _ hx)
    have h2 := lineE_len e
    have h3 := (h e (List.mem_cons_self ..)).2.2
    have hc : textE (e :: es) = lineE e ++ textE es := rfl
    rw [hc, List.length_append, List.length_cons]
    omega

theorem ext_size (s : ByteArray) (i j : Nat) (hj : j ≤ s.size) (hi : i ≤ j) : (s.extract i j).size = j - i := by
  rw [ByteArray.size_extract]
  omega

theorem mutate_c (B A : View) (L : List It) (q : Nat) (sl : Value) (N : Nat) (s : ByteArray) (hs : s.size ≤ 1048576) (hb : Bts B sl) (hN : N ≤ 900000000) (l : Led B (rdr q sl N :: L) A) : ACalls Try.prog 23 #[.pointer (some ⟨q, 0, none⟩), .string s] A fun r V => ∃ s' : ByteArray, r = .string s' ∧ s'.size ≤ s.size + 1 ∧ Led B (rdr q sl (N + 3) :: L) V := by
  refine acalls Try.func23 rfl (by kernel_rfl) ?_
  simp (disch := omega) only [↓stq, amv_at, vls, inf, frs, mark_eq, ↓reduceIte, Nat.reduceEqDiff, ite_tt, ite_ff, eq_self, and_true, true_and, and_self, implies_true, Bool.true_eq_false, Bool.false_eq_true, decide_true, decide_false, decide_eq_true_eq, decide_eq_false_iff_not, ne_eq, not_true_eq_false, not_false_eq_true, Bool.not_eq_true', Bool.not_eq_false', beq_self_eq_true, Bool.not_true, Bool.not_false, List.getElem?_toArray, List.getElem?_cons_zero, List.getElem?_cons_succ]
  refine (pick_c B A L q sl N _ hb (by omega) ⟨by omega, by omega⟩ l).mono ?_
  rintro _ V ⟨k, rfl, hk0, hk1, l⟩
  obtain ⟨k, rfl⟩ := Int.eq_ofNat_of_zero_le hk0
  have hkl : k ≤ s.size := by omega
  simp (disch := omega) only [↓stq, amv_at, vls, inf, frs, mark_eq, ↓reduceIte, Nat.reduceEqDiff, ite_tt, ite_ff, eq_self, and_true, true_and, and_self, implies_true, Bool.true_eq_false, Bool.false_eq_true, decide_true, decide_false, decide_eq_true_eq, decide_eq_false_iff_not, ne_eq, not_true_eq_false, not_false_eq_true, Bool.not_eq_true', Bool.not_eq_false', beq_self_eq_true, Bool.not_true, Bool.not_false, List.getElem?_toArray, List.getElem?_cons_zero, List.getElem?_cons_succ]
  refine (pick_c B V L q sl (N + 1) 5 hb (by omega) ⟨by omega, by omega⟩ l).mono ?_
  rintro _ V ⟨u, rfl, hu0, hu1, l⟩
  have one : ∀ x : ByteArray, x.size = 1 → ∀ V, Led B (rdr q sl (N + 1 + 1 + 1) :: L) V → k < s.size → (s.extract 0 k ++ x ++ s.extract (k + 1) s.size).size ≤ s.size + 1 := fun x hx V _ hk => by
    rw [ByteArray.size_append, ByteArray.size_append, ext_size s 0 k (by omega) (by omega), ext_size s (k + 1) s.size (by omega) (by omega), hx]
    omega
  have fin : ∀ V, Led B (rdr q sl (N + 1 + 1) :: L) V → ∃ s' : ByteArray, Value.string s = .string s' ∧ s'.size ≤ s.size + 1 ∧ Led B (rdr q sl (N + 3) :: L) V := fun V l => ⟨s, rfl, by omega, rdr_more l (by omega)⟩
  by_cases u0 : u = 0
  · simp (disch := omega) only [↓stq, amv_at, vls, inf, frs, mark_eq, ↓reduceIte, Nat.reduceEqDiff, ite_tt, ite_ff, eq_self, and_true, true_and, and_self, implies_true, Bool.true_eq_false, Bool.false_eq_true, decide_true, decide_false, decide_eq_true_eq, decide_eq_false_iff_not, ne_eq, not_true_eq_false, not_false_eq_true, Bool.not_eq_true', Bool.not_eq_false', beq_self_eq_true, Bool.not_true, Bool.not_false, List.getElem?_toArray, List.getElem?_cons_zero, List.getElem?_cons_succ, eq_true u0]
    refine ⟨fun e1 => ?_, fun e1 => ?_⟩
    · simp (disch := omega) only [↓stq, amv_at, vls, inf, frs, mark_eq, ↓reduceIte, Nat.reduceEqDiff, ite_tt, ite_ff, eq_self, and_true, true_and, and_self, implies_true, Bool.true_eq_false, Bool.false_eq_true, decide_true, decide_false, decide_eq_true_eq, decide_eq_false_iff_not, ne_eq, not_true_eq_false, not_false_eq_true, Bool.not_eq_true', Bool.not_eq_false', beq_self_eq_true, Bool.not_true, Bool.not_false, List.getElem?_toArray, List.getElem?_cons_zero, List.getElem?_cons_succ]
      refine adraw_items [.q 0, .q 1, .q 2, .q 3, .q 7, .q 8, .q 9, .q 10, .c 4 [], .c 5 [], .q 6, .q 11, .q 12] (by kernel_rfl) (by kernel_rfl) ?_
      simp (disch := omega) only [↓stq, amv_at, ↓pln, plv, nilOk, Nat.reduceBEq, Bool.or_false, Bool.or_true, Bool.false_or, Bool.true_or, vls, inf, frs, mark_eq, ↓reduceIte, Nat.reduceEqDiff, ite_tt, ite_ff, eq_self, and_true, true_and, and_self, implies_true, Bool.true_eq_false, Bool.false_eq_true, decide_true, decide_false, decide_eq_true_eq, decide_eq_false_iff_not, ne_eq, not_true_eq_false, not_false_eq_true, Bool.not_eq_true', Bool.not_eq_false', beq_self_eq_true, Bool.not_true, Bool.not_false, List.getElem?_toArray, List.getElem?_cons_zero, List.getElem?_cons_succ, false_implies]
      refine led_lit li54 (by omega) rfl (by simp [Value.cells, Value.oneCell']) l fun bl V _ l => ?_
      simp (disch := omega) only [↓stq, amv_at, ↓pln, plv, nilOk, Nat.reduceBEq, Bool.or_false, Bool.or_true, Bool.false_or, Bool.true_or, vls, inf, frs, mark_eq, ↓reduceIte, Nat.reduceEqDiff, ite_tt, ite_ff, eq_self, and_true, true_and, and_self, implies_true, Bool.true_eq_false, Bool.false_eq_true, decide_true, decide_false, decide_eq_true_eq, decide_eq_false_iff_not, ne_eq, not_true_eq_false, not_false_eq_true, Bool.not_eq_true', Bool.not_eq_false', beq_self_eq_true, Bool.not_true, Bool.not_false, List.getElem?_toArray, List.getElem?_cons_zero, List.getElem?_cons_succ, false_implies]
      refine (ofLit_c (n := 9) (c := 9) (xs := [_, _, _, _, _, _, _, _, _]) B V L q sl _ hb (by omega) rfl rfl (by omega) (by decide) (by omega) (by omega) l).mono ?_
      rintro _ V ⟨x, rfl, hx, l⟩
      have hx1 : x.size = 1 := by revert hx; revert x; decide
      have s2 := ByteArray.size_append (a := s.extract 0 k) (b := x)
      have eK : ((k : Int) + 1).toNat = k + 1 := by omega
      have s3 := ext_size s 0 k (by omega) (by omega)
      have s4 := ext_size s (k + 1) s.size (by omega) (by omega)
      simp (disch := omega) only [↓stq, amv_at, ↓pln, plv, nilOk, Nat.reduceBEq, Bool.or_false, Bool.or_true, Bool.false_or, Bool.true_or, vls, inf, frs, mark_eq, ↓reduceIte, Nat.reduceEqDiff, ite_tt, ite_ff, eq_self, and_true, true_and, and_self, implies_true, Bool.true_eq_false, Bool.false_eq_true, decide_true, decide_false, decide_eq_true_eq, decide_eq_false_iff_not, ne_eq, not_true_eq_false, not_false_eq_true, Bool.not_eq_true', Bool.not_eq_false', beq_self_eq_true, Bool.not_true, Bool.not_false, List.getElem?_toArray, List.getElem?_cons_zero, List.getElem?_cons_succ, false_implies, eK]
      exact ⟨_, rfl, one x hx1 V l (by omega), l⟩
    · simp (disch := omega) only [↓stq, amv_at, vls, inf, frs, mark_eq, ↓reduceIte, Nat.reduceEqDiff, ite_tt, ite_ff, eq_self, and_true, true_and, and_self, implies_true, Bool.true_eq_false, Bool.false_eq_true, decide_true, decide_false, decide_eq_true_eq, decide_eq_false_iff_not, ne_eq, not_true_eq_false, not_false_eq_true, Bool.not_eq_true', Bool.not_eq_false', beq_self_eq_true, Bool.not_true, Bool.not_false, List.getElem?_toArray, List.getElem?_cons_zero, List.getElem?_cons_succ]
      exact fin V l
  by_cases u1 : u = 1
  · simp (disch := omega) only [↓stq, amv_at, vls, inf, frs, mark_eq, ↓reduceIte, Nat.reduceEqDiff, ite_tt, ite_ff, eq_self, and_true, true_and, and_self, implies_true, Bool.true_eq_false, Bool.false_eq_true, decide_true, decide_false, decide_eq_true_eq, decide_eq_false_iff_not, ne_eq, not_true_eq_false, not_false_eq_true, Bool.not_eq_true', Bool.not_eq_false', beq_self_eq_true, Bool.not_true, Bool.not_false, List.getElem?_toArray, List.getElem?_cons_zero, List.getElem?_cons_succ, eq_false u0, eq_true u1]
    refine ⟨fun e1 => ?_, fun e1 => ?_⟩
    · simp (disch := omega) only [↓stq, amv_at, vls, inf, frs, mark_eq, ↓reduceIte, Nat.reduceEqDiff, ite_tt, ite_ff, eq_self, and_true, true_and, and_self, implies_true, Bool.true_eq_false, Bool.false_eq_true, decide_true, decide_false, decide_eq_true_eq, decide_eq_false_iff_not, ne_eq, not_true_eq_false, not_false_eq_true, Bool.not_eq_true', Bool.not_eq_false', beq_self_eq_true, Bool.not_true, Bool.not_false, List.getElem?_toArray, List.getElem?_cons_zero, List.getElem?_cons_succ]
      refine adraw_items [.q 0, .q 1, .q 2, .q 3, .q 7, .q 8, .q 9, .q 10, .c 4 [], .c 5 [], .q 6, .q 11, .q 12] (by kernel_rfl) (by kernel_rfl) ?_
      simp (disch := omega) only [↓stq, amv_at, ↓pln, plv, nilOk, Nat.reduceBEq, Bool.or_false, Bool.or_true, Bool.false_or, Bool.true_or, vls, inf, frs, mark_eq, ↓reduceIte, Nat.reduceEqDiff, ite_tt, ite_ff, eq_self, and_true, true_and, and_self, implies_true, Bool.true_eq_false, Bool.false_eq_true, decide_true, decide_false, decide_eq_true_eq, decide_eq_false_iff_not, ne_eq, not_true_eq_false, not_false_eq_true, Bool.not_eq_true', Bool.not_eq_false', beq_self_eq_true, Bool.not_true, Bool.not_false, List.getElem?_toArray, List.getElem?_cons_zero, List.getElem?_cons_succ, false_implies]
      refine led_lit li54 (by omega) rfl (by simp [Value.cells, Value.oneCell']) l fun bl V _ l => ?_
      simp (disch := omega) only [↓stq, amv_at, ↓pln, plv, nilOk, Nat.reduceBEq, Bool.or_false, Bool.or_true, Bool.false_or, Bool.true_or, vls, inf, frs, mark_eq, ↓reduceIte, Nat.reduceEqDiff, ite_tt, ite_ff, eq_self, and_true, true_and, and_self, implies_true, Bool.true_eq_false, Bool.false_eq_true, decide_true, decide_false, decide_eq_true_eq, decide_eq_false_iff_not, ne_eq, not_true_eq_false, not_false_eq_true, Bool.not_eq_true', Bool.not_eq_false', beq_self_eq_true, Bool.not_true, Bool.not_false, List.getElem?_toArray, List.getElem?_cons_zero, List.getElem?_cons_succ, false_implies]
      refine (ofLit_c (n := 9) (c := 9) (xs := [_, _, _, _, _, _, _, _, _]) B V L q sl _ hb (by omega) rfl rfl (by omega) (by decide) (by omega) (by omega) l).mono ?_
      rintro _ V ⟨x, rfl, hx, l⟩
      have hx1 : x.size = 1 := by revert hx; revert x; decide
      have s2 := ByteArray.size_append (a := s.extract 0 k) (b := x)
      have eK : ((k : Int) + 1).toNat = k + 1 := by omega
      have s3 := ext_size s 0 k (by omega) (by omega)
      have s4 := ext_size s (k + 1) s.size (by omega) (by omega)
      simp (disch := omega) only [↓stq, amv_at, ↓pln, plv, nilOk, Nat.reduceBEq, Bool.or_false, Bool.or_true, Bool.false_or, Bool.true_or, vls, inf, frs, mark_eq, ↓reduceIte, Nat.reduceEqDiff, ite_tt, ite_ff, eq_self, and_true, true_and, and_self, implies_true, Bool.true_eq_false, Bool.false_eq_true, decide_true, decide_false, decide_eq_true_eq, decide_eq_false_iff_not, ne_eq, not_true_eq_false, not_false_eq_true, Bool.not_eq_true', Bool.not_eq_false', beq_self_eq_true, Bool.not_true, Bool.not_false, List.getElem?_toArray, List.getElem?_cons_zero, List.getElem?_cons_succ, false_implies, eK]
      exact ⟨_, rfl, one x hx1 V l (by omega), l⟩
    · simp (disch := omega) only [↓stq, amv_at, vls, inf, frs, mark_eq, ↓reduceIte, Nat.reduceEqDiff, ite_tt, ite_ff, eq_self, and_true, true_and, and_self, implies_true, Bool.true_eq_false, Bool.false_eq_true, decide_true, decide_false, decide_eq_true_eq, decide_eq_false_iff_not, ne_eq, not_true_eq_false, not_false_eq_true, Bool.not_eq_true', Bool.not_eq_false', beq_self_eq_true, Bool.not_true, Bool.not_false, List.getElem?_toArray, List.getElem?_cons_zero, List.getElem?_cons_succ]
      exact fin V l
  by_cases u2 : u = 2
  · simp (disch := omega) only [↓stq, amv_at, vls, inf, frs, mark_eq, ↓reduceIte, Nat.reduceEqDiff, ite_tt, ite_ff, eq_self, and_true, true_and, and_self, implies_true, Bool.true_eq_false, Bool.false_eq_true, decide_true, decide_false, decide_eq_true_eq, decide_eq_false_iff_not, ne_eq, not_true_eq_false, not_false_eq_true, Bool.not_eq_true', Bool.not_eq_false', beq_self_eq_true, Bool.not_true, Bool.not_false, List.getElem?_toArray, List.getElem?_cons_zero, List.getElem?_cons_succ, eq_false u0, eq_false u1, eq_true u2]
    exact ⟨_, rfl, by rw [ext_size s 0 k (by omega) (by omega)]; omega, rdr_more l (by omega)⟩
  by_cases u3 : u = 3
  · simp (disch := omega) only [↓stq, amv_at, vls, inf, frs, mark_eq, ↓reduceIte, Nat.reduceEqDiff, ite_tt, ite_ff, eq_self, and_true, true_and, and_self, implies_true, Bool.true_eq_false, Bool.false_eq_true, decide_true, decide_false, decide_eq_true_eq, decide_eq_false_iff_not, ne_eq, not_true_eq_false, not_false_eq_true, Bool.not_eq_true', Bool.not_eq_false', beq_self_eq_true, Bool.not_true, Bool.not_false, List.getElem?_toArray, List.getElem?_cons_zero, List.getElem?_cons_succ, eq_false u0, eq_false u1, eq_false u2, eq_true u3]
    refine led_lit li54 (by omega) rfl (by simp [Value.cells, Value.oneCell']) l fun bl V _ l => ?_
    simp (disch := omega) only [↓stq, amv_at, vls, inf, frs, mark_eq, ↓reduceIte, Nat.reduceEqDiff, ite_tt, ite_ff, eq_self, and_true, true_and, and_self, implies_true, Bool.true_eq_false, Bool.false_eq_true, decide_true, decide_false, decide_eq_true_eq, decide_eq_false_iff_not, ne_eq, not_true_eq_false, not_false_eq_true, Bool.not_eq_true', Bool.not_eq_false', beq_self_eq_true, Bool.not_true, Bool.not_false, List.getElem?_toArray, List.getElem?_cons_zero, List.getElem?_cons_succ]
    refine (ofLit_c (n := 4) (c := 4) (xs := [_, _, _, _]) B V L q sl _ hb (by omega) rfl rfl (by omega) (by decide) (by omega) (by omega) l).mono ?_
    rintro _ V ⟨x, rfl, hx, l⟩
    have hx1 : x.size = 1 := by revert hx; revert x; decide
    simp (disch := omega) only [↓stq, amv_at, vls, inf, frs, mark_eq, ↓reduceIte, Nat.reduceEqDiff, ite_tt, ite_ff, eq_self, and_true, true_and, and_self, implies_true, Bool.true_eq_false, Bool.false_eq_true, decide_true, decide_false, decide_eq_true_eq, decide_eq_false_iff_not, ne_eq, not_true_eq_false, not_false_eq_true, Bool.not_eq_true', Bool.not_eq_false', beq_self_eq_true, Bool.not_true, Bool.not_false, List.getElem?_toArray, List.getElem?_cons_zero, List.getElem?_cons_succ]
    exact ⟨_, rfl, by rw [ByteArray.size_append]; omega, l⟩
  simp (disch := omega) only [↓stq, amv_at, vls, inf, frs, mark_eq, ↓reduceIte, Nat.reduceEqDiff, ite_tt, ite_ff, eq_self, and_true, true_and, and_self, implies_true, Bool.true_eq_false, Bool.false_eq_true, decide_true, decide_false, decide_eq_true_eq, decide_eq_false_iff_not, ne_eq, not_true_eq_false, not_false_eq_true, Bool.not_eq_true', Bool.not_eq_false', beq_self_eq_true, Bool.not_true, Bool.not_false, List.getElem?_toArray, List.getElem?_cons_zero, List.getElem?_cons_succ, eq_false u0, eq_false u1, eq_false u2, eq_false u3]
  exact fin V l

theorem DrawParsePlan_c (A : View) (v : Value) (bs : List UInt8) (h : Sl byteS A v bs) : ACalls Try.prog 6 #[v] A fun r V => ∃ s : ByteArray, r = .string s ∧ s.size ≤ 140000 ∧ Ext A V := by
  refine acalls Try.func6 rfl (by kernel_rfl) ?_
  simp (disch := omega) only [↓stq, amv_at, vls, inf, frs, mark_eq, ↓reduceIte, Nat.reduceEqDiff, ite_tt, ite_ff, eq_self, and_true, true_and, and_self, implies_true, Bool.true_eq_false, Bool.false_eq_true, decide_true, decide_false, decide_eq_true_eq, decide_eq_false_iff_not, ne_eq, not_true_eq_false, not_false_eq_true, Bool.not_eq_true', Bool.not_eq_false', beq_self_eq_true, Bool.not_true, Bool.not_false, List.getElem?_toArray, List.getElem?_cons_zero, List.getElem?_cons_succ]
  refine (newReader_c A A _ bs h).mono ?_
  rintro _ V ⟨q, sl, rfl, hb, l⟩
  simp (disch := omega) only [↓stq, amv_at, vls, inf, frs, mark_eq, ↓reduceIte, Nat.reduceEqDiff, ite_tt, ite_ff, eq_self, and_true, true_and, and_self, implies_true, Bool.true_eq_false, Bool.false_eq_true, decide_true, decide_false, decide_eq_true_eq, decide_eq_false_iff_not, ne_eq, not_true_eq_false, not_false_eq_true, Bool.not_eq_true', Bool.not_eq_false', beq_self_eq_true, Bool.not_true, Bool.not_false, List.getElem?_toArray, List.getElem?_cons_zero, List.getElem?_cons_succ]
  refine (goodSuite_c A V _ q sl 0 hb (by omega) l).mono ?_
  rintro _ V ⟨fp, x, cells, rfl, hg, l⟩
  simp (disch := omega) only [↓stq, amv_at, vls, inf, frs, mark_eq, ↓reduceIte, Nat.reduceEqDiff, ite_tt, ite_ff, eq_self, and_true, true_and, and_self, implies_true, Bool.true_eq_false, Bool.false_eq_true, decide_true, decide_false, decide_eq_true_eq, decide_eq_false_iff_not, ne_eq, not_true_eq_false, not_false_eq_true, Bool.not_eq_true', Bool.not_eq_false', beq_self_eq_true, Bool.not_true, Bool.not_false, List.getElem?_toArray, List.getElem?_cons_zero, List.getElem?_cons_succ]
  refine (spec_planOf_c V _ x (suiteO_S (show suiteO.rel V fp x cells from l.at (i := 0) rfl)) hg).mono ?_
  rintro we V3 ⟨es, hel, hge, fe, l3⟩
  replace l := l.append l3
  have hT := genE_text hge
  simp (disch := omega) only [↓stq, amv_at, vls, inf, frs, mark_eq, ↓reduceIte, Nat.reduceEqDiff, ite_tt, ite_ff, eq_self, and_true, true_and, and_self, implies_true, Bool.true_eq_false, Bool.false_eq_true, decide_true, decide_false, decide_eq_true_eq, decide_eq_false_iff_not, ne_eq, not_true_eq_false, not_false_eq_true, Bool.not_eq_true', Bool.not_eq_false', beq_self_eq_true, Bool.not_true, Bool.not_false, List.getElem?_toArray, List.getElem?_cons_zero, List.getElem?_cons_succ]
  refine (spec_PlanText_c V3 _ es (OSl.toS (show OSl 56 eventO V3 fe we es from l.at (i := 0) rfl)) (by omega)).mono ?_
  rintro _ V ⟨rfl, he⟩
  replace l := l.step he
  have hpl : (planB es).size ≤ 130000 := by
    unfold planB
    split
    · show (textE es).toArray.size ≤ _
      rw [List.size_toArray]
      omega
    · show (#[] : Array UInt8).size ≤ _
      simp
  replace l : Led A (rdr q sl (0 + 200) :: [osl 56 eventO fe we es, oc suiteO fp x cells]) V := l.perm ((List.Perm.swap ..).trans ((List.Perm.swap ..).cons _))
  simp (disch := omega) only [↓stq, amv_at, vls, inf, frs, mark_eq, ↓reduceIte, Nat.reduceEqDiff, ite_tt, ite_ff, eq_self, and_true, true_and, and_self, implies_true, Bool.true_eq_false, Bool.false_eq_true, decide_true, decide_false, decide_eq_true_eq, decide_eq_false_iff_not, ne_eq, not_true_eq_false, not_false_eq_true, Bool.not_eq_true', Bool.not_eq_false', beq_self_eq_true, Bool.not_true, Bool.not_false, List.getElem?_toArray, List.getElem?_cons_zero, List.getElem?_cons_succ]
  refine (pick_c A V _ q sl _ 3 hb (by omega) ⟨by omega, by omega⟩ l).mono ?_
  rintro _ V ⟨u0, rfl, hu0, hu1, l⟩
  simp (disch := omega) only [↓stq, amv_at, vls, inf, frs, mark_eq, ↓reduceIte, Nat.reduceEqDiff, ite_tt, ite_ff, eq_self, and_true, true_and, and_self, implies_true, Bool.true_eq_false, Bool.false_eq_true, decide_true, decide_false, decide_eq_true_eq, decide_eq_false_iff_not, ne_eq, not_true_eq_false, not_false_eq_true, Bool.not_eq_true', Bool.not_eq_false', beq_self_eq_true, Bool.not_true, Bool.not_false, List.getElem?_toArray, List.getElem?_cons_zero, List.getElem?_cons_succ]
  refine ⟨fun e3 => ?_, fun e3 => ?_⟩ <;> simp (disch := omega) only [↓stq, amv_at, vls, inf, frs, mark_eq, ↓reduceIte, Nat.reduceEqDiff, ite_tt, ite_ff, eq_self, and_true, true_and, and_self, implies_true, Bool.true_eq_false, Bool.false_eq_true, decide_true, decide_false, decide_eq_true_eq, decide_eq_false_iff_not, ne_eq, not_true_eq_false, not_false_eq_true, Bool.not_eq_true', Bool.not_eq_false', beq_self_eq_true, Bool.not_true, Bool.not_false, List.getElem?_toArray, List.getElem?_cons_zero, List.getElem?_cons_succ]
  · refine (mutate_c A V _ q sl _ (planB es) (by omega) hb (by omega) l).mono ?_
    rintro _ V ⟨s', rfl, hs', l⟩
    simp (disch := omega) only [↓stq, amv_at, vls, inf, frs, mark_eq, ↓reduceIte, Nat.reduceEqDiff, ite_tt, ite_ff, eq_self, and_true, true_and, and_self, implies_true, Bool.true_eq_false, Bool.false_eq_true, decide_true, decide_false, decide_eq_true_eq, decide_eq_false_iff_not, ne_eq, not_true_eq_false, not_false_eq_true, Bool.not_eq_true', Bool.not_eq_false', beq_self_eq_true, Bool.not_true, Bool.not_false, List.getElem?_toArray, List.getElem?_cons_zero, List.getElem?_cons_succ]
    exact ⟨s', rfl, by omega, l.ext⟩
  · exact ⟨_, rfl, by omega, l.ext⟩

end Go.Proofs.Ytggklaimbklefaa

/- The law FnParsePlan. -/
set_option maxHeartbeats 4000000
set_option synthInstance.maxHeartbeats 400000
set_option synthInstance.maxSize 4096
set_option linter.unusedSimpArgs false
set_option linter.unusedVariables false
namespace Go.Proofs.Ytggklaimbklefaa

set_option maxRecDepth 100000

theorem law_FnParsePlan (A : View) (v0 : Value) (x0 : List UInt8) (h0 : Sl byteS A v0 x0) : ACalls Try.prog 3 #[v0] A fun r _ => r = .bool true := by
  obtain ⟨a, c, rfl, _, _⟩ := h0.slice
  refine acalls Try.func3 rfl (by kernel_rfl) ?_
  simp (disch := omega) only [↓stq, amv_at, vls, inf, frs, mark_eq, ↓reduceIte, Nat.reduceEqDiff, ite_tt, ite_ff, eq_self, and_true, true_and, and_self, implies_true, Bool.true_eq_false, Bool.false_eq_true, decide_true, decide_false, decide_eq_true_eq, decide_eq_false_iff_not, ne_eq, not_true_eq_false, not_false_eq_true, Bool.not_eq_true', Bool.not_eq_false', beq_self_eq_true, Bool.not_true, Bool.not_false, List.getElem?_toArray, List.getElem?_cons_zero, List.getElem?_cons_succ]
  refine ⟨fun e => ?_, fun e => ?_⟩ <;> simp (disch := omega) only [↓stq, amv_at, vls, inf, frs, mark_eq, ↓reduceIte, Nat.reduceEqDiff, ite_tt, ite_ff, eq_self, and_true, true_and, and_self, implies_true, Bool.true_eq_false, Bool.false_eq_true, decide_true, decide_false, decide_eq_true_eq, decide_eq_false_iff_not, ne_eq, not_true_eq_false, not_false_eq_true, Bool.not_eq_true', Bool.not_eq_false', beq_self_eq_true, Bool.not_true, Bool.not_false, List.getElem?_toArray, List.getElem?_cons_zero, List.getElem?_cons_succ]
  refine (DrawParsePlan_c A _ x0 h0).mono ?_
  rintro vt V ⟨s0, rfl, hs0, _⟩
  obtain ⟨s, rfl⟩ : ∃ s, Bt s = s0 := ⟨_, Bt_of s0⟩
  rw [Bt_size] at hs0
  simp (disch := omega) only [↓stq, amv_at, vls, inf, frs, mark_eq, ↓reduceIte, Nat.reduceEqDiff, ite_tt, ite_ff, eq_self, and_true, true_and, and_self, implies_true, Bool.true_eq_false, Bool.false_eq_true, decide_true, decide_false, decide_eq_true_eq, decide_eq_false_iff_not, ne_eq, not_true_eq_false, not_false_eq_true, Bool.not_eq_true', Bool.not_eq_false', beq_self_eq_true, Bool.not_true, Bool.not_false, List.getElem?_toArray, List.getElem?_cons_zero, List.getElem?_cons_succ]
  have hok : (parsedR s).2 = true → planB (parsedR s).1 = Bt s := by
    unfold parsedR
    split
    · rename_i h
      exact fun _ => h
    · exact fun h => by cases h
  have hT : (textE (parsedR s).1).length ≤ 1048576 := by
    unfold parsedR
    split
    · have := textE_evsF s.length s
      show (textE (evsF s.length s)).length ≤ _
      omega
    · simp [textE]
  have C1 := impl_ParsePlan_c V s hs0
  have C2 := fun V => spec_ParsePlan_c V s hs0
  generalize parsedR s = pr at C1 C2 hok hT
  obtain ⟨es, ok⟩ := pr
  dsimp only at C1 C2 hok hT
  have n2 : (es = es) = True := eq_true rfl
  refine C1.mono ?_
  rintro _ V1 ⟨f1, w1, rfl, l1⟩
  simp (disch := omega) only [↓stq, amv_at, vls, inf, frs, mark_eq, ↓reduceIte, Nat.reduceEqDiff, ite_tt, ite_ff, eq_self, and_true, true_and, and_self, implies_true, Bool.true_eq_false, Bool.false_eq_true, decide_true, decide_false, decide_eq_true_eq, decide_eq_false_iff_not, ne_eq, not_true_eq_false, not_false_eq_true, Bool.not_eq_true', Bool.not_eq_false', beq_self_eq_true, Bool.not_true, Bool.not_false, List.getElem?_toArray, List.getElem?_cons_zero, List.getElem?_cons_succ]
  refine (C2 V1).mono ?_
  rintro _ V2 ⟨f2, w2, rfl, l2⟩
  have hE1 : Sl eventS V2 w1 es := (OSl.toS (show OSl 56 eventO V1 f1 w1 es from l1.at (i := 0) rfl)).mono l2.ext
  have hE2 : Sl eventS V2 w2 es := OSl.toS (show OSl 56 eventO V2 f2 w2 es from l2.at (i := 0) rfl)
  simp (disch := omega) only [↓stq, amv_at, vls, inf, frs, mark_eq, ↓reduceIte, Nat.reduceEqDiff, ite_tt, ite_ff, eq_self, and_true, true_and, and_self, implies_true, Bool.true_eq_false, Bool.false_eq_true, decide_true, decide_false, decide_eq_true_eq, decide_eq_false_iff_not, ne_eq, not_true_eq_false, not_false_eq_true, Bool.not_eq_true', Bool.not_eq_false', beq_self_eq_true, Bool.not_true, Bool.not_false, List.getElem?_toArray, List.getElem?_cons_zero, List.getElem?_cons_succ]
  refine (equalEvents_c V2 w1 w2 es es hE1 hE2).mono ?_
  rintro _ V3 ⟨rfl, he3⟩
  cases ok with
  | false =>
    simp (disch := omega) only [↓stq, amv_at, vls, inf, frs, mark_eq, ↓reduceIte, Nat.reduceEqDiff, ite_tt, ite_ff, eq_self, and_true, true_and, and_self, implies_true, Bool.true_eq_false, Bool.false_eq_true, decide_true, decide_false, decide_eq_true_eq, decide_eq_false_iff_not, ne_eq, not_true_eq_false, not_false_eq_true, Bool.not_eq_true', Bool.not_eq_false', beq_self_eq_true, Bool.not_true, Bool.not_false, List.getElem?_toArray, List.getElem?_cons_zero, List.getElem?_cons_succ]
    refine (equalEvents_c V3 w1 w2 es es (hE1.mono he3) (hE2.mono he3)).mono ?_
    rintro _ V4 ⟨rfl, he4⟩
    simp (disch := omega) only [↓stq, amv_at, vls, inf, frs, mark_eq, ↓reduceIte, Nat.reduceEqDiff, ite_tt, ite_ff, eq_self, and_true, true_and, and_self, implies_true, Bool.true_eq_false, Bool.false_eq_true, decide_true, decide_false, decide_eq_true_eq, decide_eq_false_iff_not, ne_eq, not_true_eq_false, not_false_eq_true, Bool.not_eq_true', Bool.not_eq_false', beq_self_eq_true, Bool.not_true, Bool.not_false, List.getElem?_toArray, List.getElem?_cons_zero, List.getElem?_cons_succ]
  | true =>
    simp (disch := omega) only [↓stq, amv_at, vls, inf, frs, mark_eq, ↓reduceIte, Nat.reduceEqDiff, ite_tt, ite_ff, eq_self, and_true, true_and, and_self, implies_true, Bool.true_eq_false, Bool.false_eq_true, decide_true, decide_false, decide_eq_true_eq, decide_eq_false_iff_not, ne_eq, not_true_eq_false, not_false_eq_true, Bool.not_eq_true', Bool.not_eq_false', beq_self_eq_true, Bool.not_true, Bool.not_false, List.getElem?_toArray, List.getElem?_cons_zero, List.getElem?_cons_succ]
    refine (impl_PlanText_c V3 w1 es (hE1.mono he3) hT).mono ?_
    rintro _ V4 ⟨rfl, he4⟩
    have n3 : (planB es = Bt s) = True := eq_true (hok rfl)
    simp (disch := omega) only [↓stq, amv_at, vls, inf, frs, mark_eq, ↓reduceIte, Nat.reduceEqDiff, ite_tt, ite_ff, eq_self, and_true, true_and, and_self, implies_true, Bool.true_eq_false, Bool.false_eq_true, decide_true, decide_false, decide_eq_true_eq, decide_eq_false_iff_not, ne_eq, not_true_eq_false, not_false_eq_true, Bool.not_eq_true', Bool.not_eq_false', beq_self_eq_true, Bool.not_true, Bool.not_false, List.getElem?_toArray, List.getElem?_cons_zero, List.getElem?_cons_succ, n3]

end Go.Proofs.Ytggklaimbklefaa
