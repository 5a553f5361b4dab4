/- What is appended, in ledgers. -/
import Derived.Test.YtggklaimbklefaaDoorFw11
set_option maxHeartbeats 4000000
set_option synthInstance.maxHeartbeats 400000
set_option synthInstance.maxSize 4096
set_option linter.unusedSimpArgs false
set_option linter.unusedVariables false
namespace Go.Proofs.YtggklaimbklefaaDoor

section
variable {P : Program} {A B V W : View} {K : Value → View → Prop} {L M : List It}

theorem Led.swap2 {ot it jt : It} {i : Nat} (h : Led A (ot :: L) V) (hi : L[i]? = some it) (ho : Only (it.fp ++ ot.fp) V W) (hφ : jt.φ W) (hfr : ∀ b, b ∈ jt.fp → b ∈ it.fp ∨ b ∈ ot.fp ∨ V b = none) (hnd : jt.fp.Nodup) : Led A (L.set i jt) W := by
  have hlt := (List.getElem?_eq_some_iff.1 hi).1
  have hs : (L.set i jt)[i]? = some jt := by rw [List.getElem?_set_self hlt]
  have hnd0 : (ot.fp ++ fps L).Nodup := h.nd
  have hn1 := List.nodup_append.1 hnd0
  have hit : ∀ b, b ∈ it.fp → b ∈ fps L := fun b hb => mem_fps (List.mem_of_getElem? hi) hb
  have hold : ∀ b, b ∈ it.fp ++ ot.fp → A b = none := fun b hb => by
    refine h.new b ?_
    show b ∈ ot.fp ++ fps L
    rcases List.mem_append.1 hb with hb | hb
    · exact List.mem_append_right _ (hit b hb)
    · exact List.mem_append_left _ hb
  have hnew : ∀ b, b ∈ jt.fp → A b = none := fun b hb => by
    rcases hfr b hb with hb | hb | hb
    · exact hold b (List.mem_append_left _ hb)
    · exact hold b (List.mem_append_right _ hb)
    · exact h.ext.none hb
  have hother : ∀ x, x ∈ fps (L.take i) ++ fps (L.drop (i + 1)) → x ∉ jt.fp := by
    intro x hx hj
    have hxL : x ∈ fps L := by
      rw [fps_split L i it hi]
      rcases List.mem_append.1 hx with hx | hx
      · exact List.mem_append_left _ hx
      · exact List.mem_append_right _ (List.mem_append_right _ hx)
    rcases hfr x hj with hb | hb | hb
    · have hn := hn1.2.1
      rw [fps_split L i it hi, List.nodup_append] at hn
      have h2 := List.nodup_append.1 hn.2.1
      rcases List.mem_append.1 hx with hx | hx
      · exact hn.2.2 x hx x (List.mem_append_left _ hb) rfl
      · exact h2.2.2 x hb x hx rfl
    · exact hn1.2.2 x hb x hxL rfl
    · obtain ⟨k, hk⟩ := h.has (b := x) (show x ∈ ot.fp ++ fps L from List.mem_append_right _ hxL)
      rw [hb] at hk; cases hk
  refine ⟨fun b k hb => ho b k (fun hm => by rw [hold b hm] at hb; cases hb) (h.ext b k hb), fun x hx => ?_, fun b hb => ?_, ?_⟩
  · obtain ⟨j, hj⟩ := List.mem_iff_getElem?.1 hx
    by_cases hij : i = j
    · subst hij
      rw [List.getElem?_set_self hlt] at hj
      obtain rfl := Option.some.inj hj
      exact hφ
    · rw [List.getElem?_set_ne hij] at hj
      refine x.stay (h.all x (List.mem_cons_of_mem _ (List.mem_of_getElem? hj))) fun b k hb hk => ho b k (fun hm => ?_) hk
      rcases List.mem_append.1 hm with hm | hm
      · exact fps_dis hn1.2.1 hj hi (fun e => hij e.symm) b hb hm
      · exact hn1.2.2 b hm b (mem_fps (List.mem_of_getElem? hj) hb) rfl
  · rw [fps_split _ i jt hs, List.take_set_of_le (Nat.le_refl _), List.drop_set_of_lt (by omega)] at hb
    rcases List.mem_append.1 hb with hb | hb
    · exact h.new b (show b ∈ ot.fp ++ fps L from List.mem_append_right _ (by rw [fps_split L i it hi]; exact List.mem_append_left _ hb))
    · rcases List.mem_append.1 hb with hb | hb
      · exact hnew b hb
      · exact h.new b (show b ∈ ot.fp ++ fps L from List.mem_append_right _ (by rw [fps_split L i it hi]; exact List.mem_append_right _ (List.mem_append_right _ hb)))
  · have hn := hn1.2.1
    rw [fps_split L i it hi, List.nodup_append] at hn
    have h2 := List.nodup_append.1 hn.2.1
    rw [fps_split _ i jt hs, List.take_set_of_le (Nat.le_refl _), List.drop_set_of_lt (by omega), List.nodup_append, List.nodup_append]
    refine ⟨hn.1, ⟨hnd, h2.2.1, fun x hx y hy e => hother y (List.mem_append_right _ hy) (by rw [← e]; exact hx)⟩, fun x hx y hy e => ?_⟩
    rcases List.mem_append.1 hy with hy | hy
    · exact hother x (List.mem_append_left _ hx) (by rw [e]; exact hy)
    · exact hn.2.2 x hx y (List.mem_append_right _ hy) e

def emp : It := ⟨[], fun _ => True, fun _ _ => trivial, fun _ b hb => by cases hb⟩
theorem Led.emp (h : Led A L V) : Led A (emp :: L) V := ⟨h.ext, fun it hit => by
  rcases List.mem_cons.1 hit with rfl | hit
  · exact trivial
  · exact h.all it hit, h.new, h.nd⟩
theorem Led.swap {it jt : It} {i : Nat} (h : Led A L V) (hi : L[i]? = some it) (ho : Only it.fp V W) (hφ : jt.φ W) (hfr : ∀ b, b ∈ jt.fp → b ∈ it.fp ∨ V b = none) (hnd : jt.fp.Nodup) : Led A (L.set i jt) W :=
  h.emp.swap2 hi (ho.more fun b hb => List.mem_append_left _ hb) hφ (fun b hb => (hfr b hb).elim .inl fun h => .inr (.inr h)) hnd

/-- What is appended to a slice of one's own. -/
theorem app_view {t tx ty e : TypeId} {size bytes b n m c : Nat} {x : Value} {xs news : List Value} (hT : appT P t tx = some (e, size, bytes)) (hb : V b = some ⟨e, xs, c * size, true⟩) (hx : xs.length = n * size)
    (hs : asrc V size x = some (m, news)) (hby : (n + m) * bytes ≤ 140737488355328) (h63 : n + m ≤ 9223372036854775807)
    (h : ∀ b' c' W, (b' = b ∨ V b' = none) → n + m ≤ c' → Only [b] V W → W b' = some ⟨e, xs ++ news, c' * size, true⟩ → K (.slice (some ⟨b', 0, none⟩) (n + m) c') W) :
    aappend P #[t, tx] ty #[.slice (some ⟨b, 0, none⟩) n c, x] V K := by
  refine aappend_own hT hb hx hs hby h63 fun b' c' hb' hle => h b' c' _ ?_ hle (fun y k hy hk => ?_) (View.set_same ..)
  · by_cases e : b' = b
    · exact .inl e
    · rw [View.kill_ne _ e] at hb'; exact .inr hb'
  · have hyb : y ≠ b := fun e => hy (List.mem_singleton.2 e)
    have hyb' : y ≠ b' := fun e => by rw [← e, View.kill_ne _ hyb, hk] at hb'; cases hb'
    rw [View.set_ne _ _ hyb', View.kill_ne _ hyb]; exact hk
theorem app_nil {t tx ty e : TypeId} {size bytes m : Nat} {x : Value} {news : List Value} (hT : appT P t tx = some (e, size, bytes)) (hs : asrc V size x = some (m, news)) (hm : 0 < m) (hby : m * bytes ≤ 140737488355328) (h63 : m ≤ 9223372036854775807)
    (h : ∀ b' c' W, V b' = none → m ≤ c' → Ext V W → W b' = some ⟨e, news, c' * size, true⟩ → K (.slice (some ⟨b', 0, none⟩) m c') W) :
    aappend P #[t, tx] ty #[.slice none 0 0, x] V K := by
  refine aappend_fresh hT (olds := []) (n := 0) (m := m) (c := 0) (by simp [asrc]) hs (by omega) (by simpa using hby) (by omega) fun b' c' hb' hle => ?_
  rw [Nat.zero_add] at hle ⊢
  exact h b' c' _ hb' hle (Ext.new hb' _) (by rw [View.set_same, List.nil_append])

/-- What may be appended: elements that are read. -/
def SrcOf {α : Type} (S : Shape α) (V : View) (u : Value) (ys : List α) : Prop := ∃ cells, asrc V S.size u = some (ys.length, cells) ∧ Elems S V ys cells

theorem Sl.srcOf {α : Type} {S : Shape α} {u : Value} {ys : List α} (h : Sl S V u ys) : SrcOf S V u ys := by
  obtain ⟨h0, a, c, rfl, h2, h3⟩ := h
  cases ys with
  | nil =>
    refine ⟨[], ?_, .nil⟩
    cases a <;> simp [asrc]
  | cons y ys =>
    obtain ⟨ad, cs, rfl, hp, he⟩ := h3 (by simp)
    refine ⟨cs, ?_, he⟩
    unfold asrc
    simp only [List.length_cons] at hp ⊢
    simp [hp]
theorem Led.src1 {α : Type} {S : Shape α} (h : Led A L V) {j bl room c : Nat} {e : TypeId} {x : α} {cells : List Value} (hj : L[j]? = some (bx bl ⟨e, cells, room, true⟩)) (hx : S.rel V x cells) : SrcOf S V (.slice (some ⟨bl, 0, none⟩) 1 c) [x] := by
  refine ⟨cells, ?_, Elems.single hx⟩
  have hb : V bl = some ⟨e, cells, room, true⟩ := h.at hj
  have hl := S.len hx
  have hp := part_at (n := 1 * S.size) (off := 0) hb (by simp [hl]) (fun v hv => S.one hx v (List.mem_of_mem_drop (List.mem_of_mem_take hv)))
  unfold asrc
  simp only [Nat.one_ne_zero, if_false, List.length_singleton]
  rw [hp]
  simp [← hl]

theorem OElems.scalE {α : Type} {S : Shape α} {hS : ∀ {A B : View} {x : α} {cs : List Value}, S.rel A x cs → S.rel B x cs} {xs : List α} {cs : List Value} (h : Elems S A xs cs) : OElems (scalO S hS) B [] xs cs := by
  induction h with
  | nil => exact .nil
  | cons h1 _ ih => exact OElems.cons (O := scalO S hS) (A := B) (f := []) (fp := []) ⟨rfl, hS h1⟩ ih
theorem OElems.scalN {α : Type} {S : Shape α} {hS : ∀ {A B : View} {x : α} {cs : List Value}, S.rel A x cs → S.rel B x cs} {fp : List Nat} {xs : List α} {cs : List Value} (h : OElems (scalO S hS) A fp xs cs) : fp = [] := by
  induction h with
  | nil => rfl
  | cons h1 _ ih => rw [h1.1, ih]; rfl
/-- Kinds whose elements bear no memory. -/
class Flat {α : Type} (O : OwnS α) : Prop where
  up : ∀ {A B : View} {x : α} {cs : List Value}, O.S.rel A x cs → O.rel B [] x cs
  nil : ∀ {A : View} {fp : List Nat} {x : α} {cs : List Value}, O.rel A fp x cs → fp = []
instance {α : Type} (S : Shape α) (hS : ∀ {A B : View} {x : α} {cs : List Value}, S.rel A x cs → S.rel B x cs) : Flat (scalO S hS) := ⟨fun h => ⟨rfl, hS h⟩, fun h => h.1⟩
instance : Flat strO := ⟨fun h => ⟨rfl, h⟩, fun h => h.1⟩
instance : Flat intO := ⟨fun h => ⟨rfl, h⟩, fun h => h.1⟩
instance : Flat boolO := ⟨fun h => ⟨rfl, h⟩, fun h => h.1⟩
instance : Flat byteO := ⟨fun h => ⟨rfl, h⟩, fun h => h.1⟩
instance : Flat unitO := ⟨fun h => ⟨rfl, h⟩, fun h => h.1⟩
instance {α β : Type} (O : OwnS α) (Q : OwnS β) [Flat O] [Flat Q] : Flat (consO O Q) :=
  ⟨fun ⟨c, d, h, h1, h2⟩ => ⟨[], [], c, d, rfl, h, Flat.up h1, Flat.up h2⟩, fun ⟨f, g, c, d, hf, h, h1, h2⟩ => by rw [hf, Flat.nil h1, Flat.nil h2]; rfl⟩
theorem OElems.flatE {α : Type} {O : OwnS α} [Flat O] {xs : List α} {cs : List Value} (h : Elems O.S A xs cs) : OElems O B [] xs cs := by
  induction h with
  | nil => exact .nil
  | cons h1 _ ih => exact OElems.cons (A := B) (f := []) (fp := []) (Flat.up h1) ih
theorem OElems.flatN {α : Type} {O : OwnS α} [Flat O] {fp : List Nat} {xs : List α} {cs : List Value} (h : OElems O A fp xs cs) : fp = [] := by
  induction h with
  | nil => rfl
  | cons h1 _ ih => rw [Flat.nil h1, ih]; rfl

/-- Elements that bear no memory, appended. -/
theorem led_app {α : Type} {O : OwnS α} [Flat O] {t tx ty e : TypeId} {bytes i : Nat} {fp : List Nat} {v u : Value} {xs ys : List α} (hT : appT P t tx = some (e, O.S.size, bytes)) (hby : bytes ≤ 1024) (h : Led A L V) (hi : L[i]? = some (osl e O fp v xs))
    (hs : SrcOf O.S V u ys) (hsm : xs.length + ys.length ≤ 16777216) (hk : ∀ fp' v' W, Only fp V W → Led A (L.set i (osl e O fp' v' (xs ++ ys))) W → K v' W) : aappend P #[t, tx] ty #[v, u] V K := by
  obtain ⟨news, hsrc, hel⟩ := hs
  have hb1 : (xs.length + ys.length) * bytes ≤ 140737488355328 := by
    have := Nat.mul_le_mul hsm hby
    omega
  have hlen : (xs ++ ys).length ≤ 140737488355328 := by rw [List.length_append]; omega
  have hO : OSl e O V fp v xs := h.at hi
  obtain ⟨hl, ⟨rfl, rfl, rfl⟩ | ⟨b, c, cells, f, rfl, hc, rfl, hbk, he⟩⟩ := hO
  · by_cases hm : ys.length = 0
    · have : ys = [] := List.eq_nil_of_length_eq_zero hm
      subst this
      refine aappend_nil0 hT hsrc (hk [] _ V (Only.refl _ _) ?_)
      exact h.swap hi (Only.refl _ _) (show OSl e O V [] _ _ from ⟨by simp, .inl ⟨rfl, rfl, rfl⟩⟩) (by simp [osl]) (by simp [osl])
    · refine app_nil hT hsrc (by omega) (by simpa using hb1) (by omega) fun b' c' W hb' hle hext hw => ?_
      refine hk [b'] _ W (Only.ext hext _) (h.swap hi (Only.ext hext _) (show OSl e O W [b'] _ _ from ⟨hlen, .inr ⟨b', c', news, [], rfl, hle, rfl, hw, ?_⟩⟩) (fun x hx => ?_) (by simp [osl]))
      · exact OElems.flatE hel
      · rw [List.mem_singleton.1 hx]; exact .inr hb'
  · have hf := he.flatN
    subst hf
    refine app_view hT hbk he.len hsrc hb1 (by omega) fun b' c' W hb' hle ho hw => ?_
    have hK : Led A (L.set i (osl e O [b'] (.slice (some ⟨b', 0, none⟩) (xs.length + ys.length) c') (xs ++ ys))) W := by
      refine h.swap hi ho (show OSl e O W [b'] _ _ from ⟨hlen, .inr ⟨b', c', cells ++ news, [], by rw [List.length_append], by rw [List.length_append]; exact hle, rfl, hw, ?_⟩⟩) (fun x hx => ?_) (by simp [osl])
      · exact OElems.append (he.stay fun x k hx => by cases hx) (OElems.flatE hel) (fq := [])
      · rw [List.mem_singleton.1 hx]
        rcases hb' with rfl | hb'
        · exact .inl (List.mem_singleton.2 rfl)
        · exact .inr hb'
    exact hk [b'] _ W ho hK

/-- An element with memory of its own, appended: it stands ahead in the ledger. -/
theorem led_appO {α : Type} {O : OwnS α} {t tx ty e e' : TypeId} {bytes i bl room c0 : Nat} {fp fd : List Nat} {v : Value} {x : α} {cells : List Value} {xs : List α} (hT : appT P t tx = some (e, O.S.size, bytes)) (hby : bytes ≤ 1024)
    (h : Led A (bx bl ⟨e', cells, room, true⟩ :: oc O fd x cells :: L) V) (hi : L[i]? = some (osl e O fp v xs)) (hsm : xs.length + 1 ≤ 16777216)
    (hk : ∀ fp' v' W, Only fp V W → Led A (L.set i (osl e O fp' v' (xs ++ [x]))) W → K v' W) : aappend P #[t, tx] ty #[v, .slice (some ⟨bl, 0, none⟩) 1 c0] V K := by
  have hx : O.rel V fd x cells := h.at (i := 1) rfl
  obtain ⟨news, hsrc, hel⟩ := h.src1 (S := O.S) (j := 0) (c := c0) rfl (O.toS hx)
  replace hsrc : asrc V O.S.size (.slice (some ⟨bl, 0, none⟩) 1 c0) = some (1, news) := hsrc
  have hb : V bl = some ⟨e', cells, room, true⟩ := h.at (i := 0) rfl
  have hnc : news = cells := by
    unfold asrc at hsrc
    simp only [Nat.one_ne_zero, if_false] at hsrc
    have hl := O.S.len (O.toS hx)
    have hp := part_at (n := 1 * O.S.size) (off := 0) hb (by simp [hl]) (fun v hv => O.S.one (O.toS hx) v (List.mem_of_mem_drop (List.mem_of_mem_take hv)))
    rw [hp] at hsrc
    simp [← hl] at hsrc
    exact hsrc.symm
  subst hnc
  have hb1 : (xs.length + 1) * bytes ≤ 140737488355328 := by
    have := Nat.mul_le_mul hsm hby
    omega
  have hlen : (xs ++ [x]).length ≤ 140737488355328 := by rw [List.length_append, List.length_singleton]; omega
  have h2 : Led A (oc O fd x news :: L) V := h.tail
  have hO : OSl e O V fp v xs := h2.at (i := i + 1) (by simpa using hi)
  have hfdn : fd.Nodup := h2.nodup1 (i := 0) rfl
  have hfd : ∀ b, b ∈ fd → b ∉ fp := fun b hb => h2.dis (i := 0) (j := i + 1) rfl (by simpa using hi) (by omega) b hb
  obtain ⟨hl, ⟨rfl, rfl, rfl⟩ | ⟨b, c, old, f, rfl, hc, rfl, hbk, he⟩⟩ := hO
  · refine app_nil hT hsrc (by omega) (by simpa using hb1) (by omega) fun b' c' W hb' hle hext hw => ?_
    have hbf : b' ∉ fd := fun hm => by
      obtain ⟨k, hk⟩ := O.has hx b' hm
      rw [hb'] at hk; cases hk
    refine hk (b' :: fd) _ W (Only.ext hext _) (h2.swap2 hi (Only.ext hext _) (show OSl e O W (b' :: fd) _ _ from ⟨hlen, .inr ⟨b', c', news, fd, rfl, hle, rfl, hw, OElems.single (O.stay hx fun y k _ hy => hext y k hy)⟩⟩) (fun y hy => ?_) (List.nodup_cons.2 ⟨hbf, hfdn⟩))
    rcases List.mem_cons.1 hy with rfl | hy
    · exact .inr (.inr hb')
    · exact .inr (.inl hy)
  · have hndf : (b :: f).Nodup := h2.nodup1 (i := i + 1) (it := osl e O (b :: f) _ _) (by simpa using hi)
    have hbf := (List.nodup_cons.1 hndf).1
    refine app_view hT hbk he.len hsrc hb1 (by omega) fun b' c' W hb' hle ho hw => ?_
    have hof : ∀ y k, y ∈ f → V y = some k → W y = some k := fun y k hy hk => ho y k (fun hm => hbf (by rw [← List.mem_singleton.1 hm]; exact hy)) hk
    have hod : ∀ y k, y ∈ fd → V y = some k → W y = some k := fun y k hy hk => ho y k (fun hm => hfd y hy (by rw [List.mem_singleton.1 hm]; exact List.mem_cons_self ..)) hk
    have hb'f : b' ∉ f ++ fd := fun hm => by
      rcases hb' with rfl | hb'
      · rcases List.mem_append.1 hm with hm | hm
        · exact hbf hm
        · exact hfd b' hm (List.mem_cons_self ..)
      · rcases List.mem_append.1 hm with hm | hm
        · obtain ⟨k, hk⟩ := he.has b' hm; rw [hb'] at hk; cases hk
        · obtain ⟨k, hk⟩ := O.has hx b' hm; rw [hb'] at hk; cases hk
    refine hk (b' :: (f ++ fd)) _ W (ho.more fun y hy => by rw [List.mem_singleton.1 hy]; exact List.mem_cons_self ..) (h2.swap2 hi (ho.more fun y hy => by rw [List.mem_singleton.1 hy]; exact List.mem_append_left _ (List.mem_cons_self ..))
      (show OSl e O W (b' :: (f ++ fd)) _ _ from ⟨hlen, .inr ⟨b', c', old ++ news, f ++ fd, by simp, by simpa using hle, rfl, hw, OElems.append (he.stay hof) (OElems.single (O.stay hx hod))⟩⟩) (fun y hy => ?_) ?_)
    · rcases List.mem_cons.1 hy with rfl | hy
      · rcases hb' with rfl | hb'
        · exact .inl (List.mem_cons_self ..)
        · exact .inr (.inr hb')
      · rcases List.mem_append.1 hy with hy | hy
        · exact .inl (List.mem_cons_of_mem _ hy)
        · exact .inr (.inl hy)
    · refine List.nodup_cons.2 ⟨hb'f, List.nodup_append.2 ⟨(List.nodup_cons.1 hndf).2, hfdn, fun y hy z hz e => hfd z hz (by rw [← e]; exact List.mem_cons_of_mem _ hy)⟩⟩

/-- A slice of one's own whose elements are read as they were known in an older view. -/
def RSl {α : Type} (e : TypeId) (S : Shape α) (B V : View) (fp : List Nat) (v : Value) (xs : List α) : Prop :=
  xs.length ≤ 140737488355328 ∧ ((v = .slice none 0 0 ∧ xs = [] ∧ fp = []) ∨
    ∃ b c cells, v = .slice (some ⟨b, 0, none⟩) xs.length c ∧ xs.length ≤ c ∧ fp = [b] ∧ V b = some ⟨e, cells, c * S.size, true⟩ ∧ Elems S B xs cells)
def rsl {α : Type} (e : TypeId) (S : Shape α) (B : View) (fp : List Nat) (v : Value) (xs : List α) : It := ⟨fp, fun V => RSl e S B V fp v xs, fun h hs => by
  obtain ⟨hl, ⟨rfl, rfl, rfl⟩ | ⟨b, c, cells, rfl, hc, rfl, hb, he⟩⟩ := h
  · exact ⟨hl, .inl ⟨rfl, rfl, rfl⟩⟩
  · exact ⟨hl, .inr ⟨b, c, cells, rfl, hc, rfl, hs b _ (List.mem_singleton.2 rfl) hb, he⟩⟩, fun h b hb => by
  obtain ⟨hl, ⟨rfl, rfl, rfl⟩ | ⟨b', c, cells, rfl, hc, rfl, hb', he⟩⟩ := h
  · cases hb
  · rw [List.mem_singleton.1 hb]; exact ⟨_, hb'⟩⟩
theorem RSl.toS {α : Type} {e : TypeId} {S : Shape α} {fp : List Nat} {v : Value} {xs : List α} (h : RSl e S B V fp v xs) (hx : Ext B V) : Sl S V v xs := by
  obtain ⟨hl, ⟨rfl, rfl, rfl⟩ | ⟨b, c, cells, rfl, hc, rfl, hb, he⟩⟩ := h
  · exact Sl.nil _ _
  · refine ⟨hl, _, c, rfl, hc, fun _ => ⟨_, cells, rfl, ?_, he.mono hx⟩⟩
    rw [part_at hb (by simp [he.len]) (fun v hv => he.one v (List.mem_of_mem_drop (List.mem_of_mem_take hv)))]
    simp [List.take_of_length_le, he.len]
/-- Elements that are read, appended. -/
theorem led_appR {α : Type} {S : Shape α} {t tx ty e : TypeId} {bytes i : Nat} {fp : List Nat} {v u : Value} {xs ys : List α} {news : List Value} (hT : appT P t tx = some (e, S.size, bytes)) (hby : bytes ≤ 1024) (h : Led A L V) (hi : L[i]? = some (rsl e S B fp v xs))
    (hsrc : asrc V S.size u = some (ys.length, news)) (hel : Elems S B ys news) (hsm : xs.length + ys.length ≤ 16777216) (hk : ∀ fp' v' W, Only fp V W → Led A (L.set i (rsl e S B fp' v' (xs ++ ys))) W → K v' W) : aappend P #[t, tx] ty #[v, u] V K := by
  have hb1 : (xs.length + ys.length) * bytes ≤ 140737488355328 := by
    have := Nat.mul_le_mul hsm hby
    omega
  have hlen : (xs ++ ys).length ≤ 140737488355328 := by rw [List.length_append]; omega
  have hO : RSl e S B V fp v xs := h.at hi
  obtain ⟨hl, ⟨rfl, rfl, rfl⟩ | ⟨b, c, cells, rfl, hc, rfl, hbk, he⟩⟩ := hO
  · by_cases hm : ys.length = 0
    · have : ys = [] := List.eq_nil_of_length_eq_zero hm
      subst this
      refine aappend_nil0 hT hsrc (hk [] _ V (Only.refl _ _) ?_)
      exact h.swap hi (Only.refl _ _) (show RSl e S B V [] _ _ from ⟨by simp, .inl ⟨rfl, rfl, rfl⟩⟩) (by simp [rsl]) (by simp [rsl])
    · refine app_nil hT hsrc (by omega) (by simpa using hb1) (by omega) fun b' c' W hb' hle hext hw => ?_
      refine hk [b'] _ W (Only.ext hext _) (h.swap hi (Only.ext hext _) (show RSl e S B W [b'] _ _ from ⟨hlen, .inr ⟨b', c', news, rfl, hle, rfl, hw, hel⟩⟩) (fun x hx => ?_) (by simp [rsl]))
      rw [List.mem_singleton.1 hx]; exact .inr hb'
  · refine app_view hT hbk he.len hsrc hb1 (by omega) fun b' c' W hb' hle ho hw => ?_
    have hK : Led A (L.set i (rsl e S B [b'] (.slice (some ⟨b', 0, none⟩) (xs.length + ys.length) c') (xs ++ ys))) W := by
      refine h.swap hi ho (show RSl e S B W [b'] _ _ from ⟨hlen, .inr ⟨b', c', cells ++ news, by rw [List.length_append], by rw [List.length_append]; exact hle, rfl, hw, he.append hel⟩⟩) (fun x hx => ?_) (by simp [rsl])
      rw [List.mem_singleton.1 hx]
      rcases hb' with rfl | hb'
      · exact .inl (List.mem_singleton.2 rfl)
      · exact .inr hb'
    exact hk [b'] _ W ho hK

/-- Cells of a block of one's own, cleared. -/
theorem aclear_at {t e : TypeId} {ty : TypeId} {bytes n b o c : Nat} {z : List Value} {k : Blk} (hT : makeT P t = some (e, bytes, z)) (hb : V b = some k) (hown : k.own = true) (hn : 0 < n) (hfit : o + n * z.length ≤ k.cells.length)
    (hk : ∀ zs, zs.length = n * z.length → K (.tuple #[]) (V.set b ⟨k.ty, k.cells.take o ++ zs ++ k.cells.drop (o + n * z.length), k.room, true⟩)) : aclear P #[t] ty #[.slice (some ⟨b, o, none⟩) n c] V K := by
  intro w hw
  unfold makeT at hT
  split at hT
  · rename_i e' hu
    split at hT
    · rename_i i hi
      split at hT
      · rename_i z' hz
        split at hT
        · rename_i hc
          simp at hT
          obtain ⟨rfl, rfl, rfl⟩ := hT
          obtain ⟨⟨cur, fz, hcell, hcs, hl, htk, hf⟩, hone⟩ := hw _ _ hb
          have hone := hone hown
          obtain rfl := hf hown
          have hzl : (Builtin.zeroCells z'.cells n).toList.length = n * z'.cells.toList.length := by rw [Array.length_toList, size_zeroCells, Array.length_toList]
          have hz1 := zeroCells_one (P := P) (i := i) z'.cells n (by rw [← Array.all_toList]; exact hc.2)
          simp only [Array.length_toList] at hfit hk hzl
          have hrun := run_storeCells_at (P := P) b o k.ty (Builtin.zeroCells z'.cells n).toList 0 cur w hcell (by rw [Array.length_toList, size_zeroCells]; omega) hz1
          simp only [Nat.add_zero] at hrun
          have hget : ∀ j, j < k.cells.length → cur.toList[j]? = k.cells[j]? := fun j hj => by rw [← htk, List.getElem?_take, if_pos (by simpa using hj)]
          have hzl' : (Builtin.zeroCells z'.cells n).toList.length = n * z'.cells.size := hzl
          generalize hzs : (Builtin.zeroCells z'.cells n).toList = zs at *
          have hw1 := hw.write (c' := (cur.toList.take o ++ zs ++ cur.toList.drop (o + zs.length)).toArray) (cs := k.cells.take o ++ zs ++ k.cells.drop (o + n * z'.cells.size)) hb hown (by simp; omega) (by simp; omega) (by
            apply List.ext_getElem?
            intro j
            simp only [List.getElem?_take, List.length_append, List.length_take, List.length_drop, List.getElem?_append, List.getElem?_drop, Array.length_toList]
            by_cases hj : j < k.cells.length
            · have h1 := hget j hj
              have h2 := fun (hh : ¬ j < o + zs.length) => hget (o + zs.length + (j - (o + zs.length))) (by omega)
              rw [if_pos (by omega), Nat.min_eq_left (by omega), Nat.min_eq_left (by omega)]
              split
              · split
                · first | exact h1 | (rw [if_pos (by omega)]; exact h1)
                · rfl
              · rename_i hh
                rw [h2 hh, hzl']
            · rw [if_neg (by omega), if_neg (by omega), List.getElem?_eq_none (by omega)]) (fun u hu => by
            simp only [List.mem_append] at hu
            rcases hu with (h | h) | h
            · exact hone u (List.mem_of_mem_take h)
            · exact hz1 u h
            · exact hone u (List.mem_of_mem_drop h))
          refine ⟨_, _, _, ?_, hk zs hzl', hw1.1, hw1.2⟩
          obtain ⟨n', rfl⟩ : ∃ n', n = n' + 1 := ⟨n - 1, by omega⟩
          simp only [Builtin.clear_, List.getElem?_toArray, List.getElem?_cons_zero, Sem.run_bind, run_underlying hu, Result.andThen, zeroValue, typeInfo, hi, hz, Sem.run_pure, hzs]
          simp [hi, hz, Result.andThen, hzs, hrun]
        · simp at hT
      · simp at hT
    · simp at hT
  · simp at hT

/-- One cell of an element of a slice of one's own is written. -/
theorem led_setfield {α : Type} {O : OwnS α} [Flat O] {t e : TypeId} {i k j b c o : Nat} {fp : List Nat} {xs : List α} {val : Value} {x' : α} (h : Led A L V) (hi : L[i]? = some (osl e O fp (.slice (some ⟨b, 0, none⟩) xs.length c) xs)) (hk : k < xs.length) (hs : (P.info? t).map (·.size) = some 1)
    (ho : o = k * O.S.size + j) (hv : val.cells = #[val] ∧ val.oneCell' = true) (hx : ∀ d, O.S.rel V xs[k] d → j < d.length ∧ O.S.rel V x' (d.set j val))
    (hK : ∀ W, Only fp V W → Led A (L.set i (osl e O fp (.slice (some ⟨b, 0, none⟩) xs.length c) (xs.set k x'))) W → K undef W) : astore P t (.pointer (some ⟨b, o, none⟩)) val V K := by
  have hO : OSl e O V fp (.slice (some ⟨b, 0, none⟩) xs.length c) xs := h.at hi
  obtain ⟨hl, ⟨hq, _⟩ | ⟨b', c', cells, f, hq, hc, rfl, hbk, he⟩⟩ := hO
  · cases hq
  · injection hq with hq1 hq2 hq3
    injection hq1 with hq1
    injection hq1 with hq1
    subst hq1; subst hq3
    obtain rfl := he.flatN
    obtain ⟨f1, f2, f3, c1, c2, c3, hf, rfl, hc1, h1, h2, h3⟩ := he.at hk
    obtain ⟨hj, hx'⟩ := hx c2 (O.toS h2)
    have hcv : val.cells.toList = [val] := by rw [hv.1]
    subst ho
    rw [← hc1]
    have e1 : (c1 ++ (c2 ++ c3)).take (c1.length + j) ++ val.cells.toList ++ (c1 ++ (c2 ++ c3)).drop (c1.length + j + 1) = c1 ++ (c2.set j val ++ c3) := by
      rw [hcv, List.take_append, List.take_of_length_le (by omega), Nat.add_sub_cancel_left, List.take_append_of_le_length (by omega), Nat.add_assoc, ← List.drop_drop, List.drop_left' rfl, List.drop_append_of_le_length (by omega), List.set_eq_take_append_cons_drop, if_pos hj]
      simp only [List.append_assoc, List.cons_append, List.nil_append]
    rw [astore_at, storev_set hs (k := ⟨e, c1 ++ (c2 ++ c3), c * O.S.size, true⟩) hbk rfl rfl (by rw [hv.1]; rfl) (by simp; omega) (by rw [hcv]; simpa using hv.2)]
    show K undef _
    simp only [e1]
    have hset := List.set_eq_take_append_cons_drop (l := xs) (i := k) (a := x')
    rw [if_pos hk] at hset
    refine hK _ (Only.set _ (List.mem_cons_self ..)) (h.upd hi rfl (Only.set _ (List.mem_cons_self ..)) (show OSl e O _ [b] _ _ from ⟨by simpa using hl, .inr ⟨b, c, _, [], by simp, by simpa using hc, rfl, View.set_same .., ?_⟩⟩))
    rw [hset]
    have g1 : OElems O (V.set b ⟨e, c1 ++ (c2.set j val ++ c3), c * O.S.size, true⟩) [] (xs.take k) c1 := OElems.flatE h1.toS
    have g2 : OElems O (V.set b ⟨e, c1 ++ (c2.set j val ++ c3), c * O.S.size, true⟩) [] (x' :: xs.drop (k + 1)) (c2.set j val ++ c3) := OElems.cons (f := []) (fp := []) (Flat.up hx') (OElems.flatE h3.toS)
    exact OElems.append (fp := []) (fq := []) g1 g2

/-! ### literals -/
theorem led_lit {t e : TypeId} {size n : Nat} {ps : Array (Nat × Value)} (ht : litT P t = some (e, size)) (hn : n * size ≤ 16777216) (hf : ps.toList.map (·.1) = List.range' 0 n) (hs : ∀ p ∈ ps.toList, p.2.cells.size = size ∧ p.2.cells.toList.all (·.oneCell') = true)
    (h : Led A L V) (hk : ∀ b W, Ext V W → Led A (bx b ⟨e, ps.toList.flatMap (·.2.cells.toList), n * size, true⟩ :: L) W → K (.slice (some ⟨b, 0, none⟩) n n) W) : alit P t n ps V K :=
  alit_at ht hn hf hs fun b hb => hk b _ (Ext.new hb _) (h.cons (Ext.new hb _) (bx b _) (View.set_same ..) (fun x hx => by rw [List.mem_singleton.1 hx]; exact hb) (by simp [bx]))
theorem led_lit0 {α : Type} {O : OwnS α} {t e : TypeId} (ht : litT P t = some (e, O.S.size)) (h : Led A L V) (hk : ∀ b W, Ext V W → Led A (osl e O [b] (.slice (some ⟨b, 0, none⟩) 0 0) ([] : List α) :: L) W → K (.slice (some ⟨b, 0, none⟩) 0 0) W) : alit P t 0 #[] V K :=
  led_lit ht (by simp) rfl (by simp) h fun b W he l => hk b W he (by
    refine l.swap (i := 0) rfl (Only.refl _ _) (show OSl e O W [b] _ _ from ⟨by simp, .inr ⟨b, 0, [], [], rfl, Nat.le_refl _, rfl, ?_, .nil⟩⟩) (fun x hx => .inl hx) (by simp [osl])
    exact l.at (i := 0) rfl)
theorem led_lit0R {α : Type} {S : Shape α} {t e : TypeId} (B : View) (ht : litT P t = some (e, S.size)) (h : Led A L V) (hk : ∀ b W, Ext V W → Led A (rsl e S B [b] (.slice (some ⟨b, 0, none⟩) 0 0) ([] : List α) :: L) W → K (.slice (some ⟨b, 0, none⟩) 0 0) W) : alit P t 0 #[] V K :=
  led_lit ht (by simp) rfl (by simp) h fun b W he l => hk b W he (by
    refine l.swap (i := 0) rfl (Only.refl _ _) (show RSl e S B W [b] _ _ from ⟨by simp, .inr ⟨b, 0, [], rfl, Nat.le_refl _, rfl, ?_, .nil⟩⟩) (fun x hx => .inl hx) (by simp [rsl])
    exact l.at (i := 0) rfl)
/-- nil, as a slice of one's own. -/
theorem Led.nilO {α : Type} (e : TypeId) (O : OwnS α) (h : Led A L V) : Led A (osl e O [] (.slice none 0 0) ([] : List α) :: L) V := h.cons (Ext.refl _) _ (show OSl e O V [] _ _ from ⟨by simp, .inl ⟨rfl, rfl, rfl⟩⟩) (fun b hb => by cases hb) List.nodup_nil
theorem Led.nilR {α : Type} (e : TypeId) (S : Shape α) (B : View) (h : Led A L V) : Led A (rsl e S B [] (.slice none 0 0) ([] : List α) :: L) V := h.cons (Ext.refl _) _ (show RSl e S B V [] _ _ from ⟨by simp, .inl ⟨rfl, rfl, rfl⟩⟩) (fun b hb => by cases hb) List.nodup_nil

/-- A slice of one's own that came of a call, as an item. -/
theorem Led.one {α : Type} {e : TypeId} {O : OwnS α} {fp : List Nat} {v : Value} {xs : List α} (h : OSl e O V fp v xs) (he : Ext A V) (hn : ∀ b, b ∈ fp → A b = none) (hd : fp.Nodup) : Led A [osl e O fp v xs] V := (Led.nil A).cons he (osl e O fp v xs) h hn hd
end

end Go.Proofs.YtggklaimbklefaaDoor

