/- What views say of Go's data: slices of elements that have a shape; what stays true as memory grows. -/
import Derived.Test.YtggklaimbklefaaDoorFw8
set_option maxHeartbeats 4000000
set_option synthInstance.maxHeartbeats 400000
set_option synthInstance.maxSize 4096
set_option linter.unusedSimpArgs false
set_option linter.unusedVariables false
namespace Go.Proofs.YtggklaimbklefaaDoor

instance : LawfulBEq ByteArray where
  eq_of_beq {a b} h := ByteArray.ext (eq_of_beq (show (a.data == b.data) = true from h))
  rfl {a} := show (a.data == a.data) = true from beq_self_eq_true _

/-- All that was known is still known. -/
def Ext (A A' : View) : Prop := ∀ b k, A b = some k → A' b = some k
theorem Ext.refl (A : View) : Ext A A := fun _ _ h => h
theorem Ext.trans {A B C : View} (h : Ext A B) (h' : Ext B C) : Ext A C := fun b k hb => h' b k (h b k hb)
theorem Ext.new {A : View} {b : Nat} (hb : A b = none) (k : Blk) : Ext A (A.set b k) := fun x kx hx => by
  rw [View.set_ne _ _ (fun e => by rw [e, hb] at hx; cases hx)]; exact hx
theorem Ext.kill (A : View) (b : Nat) : Ext (A.kill b) A := fun x k hx => by
  by_cases h : x = b
  · subst h; rw [View.kill_same] at hx; cases hx
  · rwa [View.kill_ne _ h] at hx
theorem Ext.killBoth {A B : View} (h : Ext A B) (b : Nat) : Ext (A.kill b) (B.kill b) := fun x k hx => by
  by_cases hxb : x = b
  · subst hxb; rw [View.kill_same] at hx; cases hx
  · rw [View.kill_ne _ hxb] at hx ⊢; exact h x k hx
theorem Ext.killNew {A : View} {b : Nat} (hb : A b = none) (k : Blk) : Ext A ((A.set b k).kill b) := fun x kx hx => by
  have : x ≠ b := fun e => by rw [e, hb] at hx; cases hx
  rw [View.kill_ne _ this, View.set_ne _ _ this]; exact hx
theorem Ext.setKill {A : View} {b : Nat} (k : Blk) : Ext (A.kill b) (A.set b k) := fun x kx hx => by
  by_cases hxb : x = b
  · subst hxb; rw [View.kill_same] at hx; cases hx
  · rw [View.kill_ne _ hxb] at hx; rw [View.set_ne _ _ hxb]; exact hx
theorem Ext.ne {A : View} {b x : Nat} {k : Blk} (hx : A x = some k) (hb : A b = none) : x ≠ b := fun e => by rw [e, hb] at hx; cases hx
theorem Ext.none {A B : View} (h : Ext A B) {b : Nat} (hb : B b = none) : A b = none := by
  cases hk : A b with
  | none => rfl
  | some k => rw [h b k hk] at hb; cases hb
theorem Ext.cell {A B : View} (h : Ext A B) {a : Addr} {v : Value} (hv : A.cell a = some v) : B.cell a = some v := by
  obtain ⟨hs, ⟨k, hk, hc⟩, h1⟩ := View.cell_some hv
  exact View.cell_mk hs (h _ _ hk) hc h1
theorem Ext.part {A B : View} (h : Ext A B) {a : Addr} {n : Nat} {cs : List Value} (hv : A.part a n = some cs) : B.part a n = some cs := by
  obtain ⟨hs, k, hk, hl, rfl, h1⟩ := View.part_some hv
  exact View.part_mk hs (h _ _ hk) hl h1
theorem Ext.loadv {A B : View} (h : Ext A B) {P : Program} {t : TypeId} {a : Addr} {v : Value} (hv : A.loadv P t a = some v) : B.loadv P t a = some v := by
  unfold View.loadv at hv ⊢
  split at hv
  · cases hp : A.part a _ with
    | none => rw [hp] at hv; cases hv
    | some cs => rw [hp] at hv; rw [h.part hp]; exact hv
  · exact h.cell hv
  · cases hv

theorem cell_at {A : View} {b off : Nat} {k : Blk} {v : Value} (h : A b = some k) (hv : k.cells[off]? = some v) (h1 : v.oneCell' = true) : A.cell ⟨b, off, none⟩ = some v := View.cell_mk rfl h hv h1
theorem part_at {A : View} {b off n : Nat} {k : Blk} (h : A b = some k) (hl : off + n ≤ k.cells.length) (h1 : ∀ v ∈ (k.cells.drop off).take n, v.oneCell' = true) : A.part ⟨b, off, none⟩ n = some ((k.cells.drop off).take n) := View.part_mk rfl h hl h1
theorem add_at (b o n : Nat) : (⟨b, o, none⟩ : Addr).add n = ⟨b, o + n, none⟩ := by unfold Addr.add; split <;> simp_all
theorem addr_add_add (a : Addr) (i j : Nat) : (a.add i).add j = a.add (i + j) := by
  unfold Addr.add
  by_cases hi : i = 0
  · subst hi; simp
  · by_cases hj : j = 0
    · subst hj; simp [hi]
    · simp [hi, hj, show i + j ≠ 0 by omega]; omega
theorem add_block (a : Addr) (i : Nat) : (a.add i).block = a.block := by unfold Addr.add; split <;> rfl
theorem add_off (a : Addr) (i : Nat) : (a.add i).off = a.off + i := by unfold Addr.add; split <;> simp_all
theorem add_spot {a : Addr} (i : Nat) (h : a.spot = none) : (a.add i).spot = none := by unfold Addr.add; split <;> simp_all
theorem View.part_cell {A : View} {a : Addr} {n : Nat} {cs : List Value} (h : A.part a n = some cs) {j : Nat} {v : Value} (hj : cs[j]? = some v) : A.cell (a.add j) = some v := by
  obtain ⟨hs, k, hk, hl, rfl, h1⟩ := View.part_some h
  refine View.cell_mk (k := k) (add_spot j hs) (by rw [add_block]; exact hk) ?_ (h1 _ (List.mem_of_getElem? hj))
  rw [add_off]
  rw [List.getElem?_take] at hj
  split at hj
  · rwa [List.getElem?_drop] at hj
  · simp at hj
theorem View.part_part {A : View} {a : Addr} {n : Nat} {cs : List Value} (h : A.part a n = some cs) {i m : Nat} (hl : i + m ≤ n) : A.part (a.add i) m = some ((cs.drop i).take m) := by
  obtain ⟨hs, k, hk, hle, rfl, h1⟩ := View.part_some h
  have e : (((k.cells.drop a.off).take n).drop i).take m = (k.cells.drop (a.off + i)).take m := by
    rw [List.drop_take, List.take_take, List.drop_drop, Nat.min_eq_left (by omega)]
  have := View.part_mk (A := A) (a := a.add i) (n := m) (add_spot i hs) (by rw [add_block]; exact hk) (by rw [add_off]; omega) (fun v hv => by
    rw [add_off, ← e] at hv
    exact h1 v (List.mem_of_mem_drop (List.mem_of_mem_take hv)))
  rw [this, add_off, e]

/-- The shape of an element: how many cells, and what they say. -/
structure Shape (α : Type) where
  size : Nat
  rel : View → α → List Value → Prop
  mono : ∀ {A B x cs}, Ext A B → rel A x cs → rel B x cs
  len : ∀ {A x cs}, rel A x cs → cs.length = size
  one : ∀ {A x cs}, rel A x cs → ∀ v ∈ cs, v.oneCell' = true

def strS : Shape ByteArray := ⟨1, fun _ x cs => cs = [.string x] ∧ x.size ≤ 140737488355328, fun _ h => h, fun h => by rw [h.1]; rfl, fun h v hv => by rw [h.1] at hv; simp at hv; rw [hv]; rfl⟩
def intS : Shape Int := ⟨1, fun _ x cs => cs = [.int .i64 x] ∧ -9223372036854775808 ≤ x ∧ x < 9223372036854775808, fun _ h => h, fun h => by rw [h.1]; rfl, fun h v hv => by rw [h.1] at hv; simp at hv; rw [hv]; rfl⟩
def boolS : Shape Bool := ⟨1, fun _ x cs => cs = [.bool x], fun _ h => h, fun h => by rw [h]; rfl, fun h v hv => by rw [h] at hv; simp at hv; rw [hv]; rfl⟩
def byteS : Shape UInt8 := ⟨1, fun _ x cs => cs = [.int .u8 x.toNat], fun _ h => h, fun h => by rw [h]; rfl, fun h v hv => by rw [h] at hv; simp at hv; rw [hv]; rfl⟩

section
variable {α : Type}
/-- Elements, one after the other. -/
inductive Elems (S : Shape α) (A : View) : List α → List Value → Prop where
  | nil : Elems S A [] []
  | cons {x : α} {xs : List α} {c cs : List Value} : S.rel A x c → Elems S A xs cs → Elems S A (x :: xs) (c ++ cs)

variable {S : Shape α} {A B : View} {xs ys : List α} {cs ds : List Value}
theorem Elems.mono (h : Elems S A xs cs) (he : Ext A B) : Elems S B xs cs := by
  induction h with
  | nil => exact .nil
  | cons hx _ ih => exact .cons (S.mono he hx) ih
theorem Elems.len (h : Elems S A xs cs) : cs.length = xs.length * S.size := by
  induction h with
  | nil => simp
  | cons hx _ ih => rw [List.length_append, S.len hx, ih, List.length_cons, Nat.add_mul]; omega
theorem Elems.one (h : Elems S A xs cs) : ∀ v ∈ cs, v.oneCell' = true := by
  induction h with
  | nil => intro v hv; cases hv
  | cons hx _ ih => exact fun v hv => (List.mem_append.1 hv).elim (S.one hx v) (ih v)
theorem Elems.append (h : Elems S A xs cs) (h' : Elems S A ys ds) : Elems S A (xs ++ ys) (cs ++ ds) := by
  induction h with
  | nil => exact h'
  | cons hx _ ih => rw [List.append_assoc]; exact .cons hx ih
theorem Elems.single {x : α} {c : List Value} (h : S.rel A x c) : Elems S A [x] c := by
  have := Elems.cons h (.nil (S := S) (A := A))
  rwa [List.append_nil] at this
theorem Elems.at (h : Elems S A xs cs) : ∀ (i : Nat) (hi : i < xs.length), S.rel A xs[i] ((cs.drop (i * S.size)).take S.size) := by
  induction h with
  | nil => intro i hi; simp at hi
  | cons hx hrest ih =>
    intro i hi
    cases i with
    | zero => simpa [S.len hx, List.take_left' (S.len hx)] using hx
    | succ i =>
      have := ih i (by simpa using hi)
      have e : (i + 1) * S.size = S.size + i * S.size := by rw [Nat.add_mul]; omega
      rw [e, ← List.drop_drop, List.drop_left' (S.len hx)]
      exact this
theorem Elems.take (h : Elems S A xs cs) : ∀ (n : Nat), Elems S A (xs.take n) (cs.take (n * S.size)) := by
  induction h with
  | nil => intro n; simp; exact .nil
  | @cons x xs c cs hx hrest ih =>
    intro n
    cases n with
    | zero => simp; exact .nil
    | succ n =>
      have e : (n + 1) * S.size = S.size + n * S.size := by rw [Nat.add_mul]; omega
      have ht : List.take (S.size + n * S.size) c = c := List.take_of_length_le (by rw [S.len hx]; omega)
      rw [List.take_succ_cons, e, List.take_append, S.len hx, Nat.add_sub_cancel_left, ht]
      exact .cons hx (ih n)
theorem Elems.drop (h : Elems S A xs cs) : ∀ (n : Nat), Elems S A (xs.drop n) (cs.drop (n * S.size)) := by
  induction h with
  | nil => intro n; simp; exact .nil
  | cons hx hrest ih =>
    intro n
    cases n with
    | zero => simp; exact .cons hx hrest
    | succ n =>
      have e : (n + 1) * S.size = S.size + n * S.size := by rw [Nat.add_mul]; omega
      rw [List.drop_succ_cons, e, ← List.drop_drop, List.drop_left' (S.len hx)]
      exact ih n
theorem Elems.set (h : Elems S A xs cs) : ∀ (i : Nat) (_ : i < xs.length) (x : α) (c : List Value), S.rel A x c → Elems S A (xs.set i x) (cs.take (i * S.size) ++ c ++ cs.drop (i * S.size + S.size)) := by
  induction h with
  | nil => intro i hi; simp at hi
  | @cons x0 xs d cs hx hrest ih =>
    intro i hi x c hc
    cases i with
    | zero => simp only [Nat.zero_mul, List.take_zero, List.nil_append, Nat.zero_add, List.set_cons_zero]; rw [List.drop_left' (S.len hx)]; exact .cons hc hrest
    | succ i =>
      have e : (i + 1) * S.size = S.size + i * S.size := by rw [Nat.add_mul]; omega
      have h := ih i (by simpa using hi) x c hc
      have ht : List.take (S.size + i * S.size) d = d := List.take_of_length_le (by rw [S.len hx]; omega)
      have hd : List.drop (S.size + i * S.size + S.size) (d ++ cs) = List.drop (i * S.size + S.size) cs := by
        rw [Nat.add_assoc, ← List.drop_drop, List.drop_left' (S.len hx)]
      rw [List.set_cons_succ, e, List.take_append, S.len hx, Nat.add_sub_cancel_left, ht, hd, List.append_assoc, List.append_assoc, ← List.append_assoc (List.take _ _)]
      exact .cons hx h

/-- A slice that is read. -/
def Sl (S : Shape α) (A : View) (v : Value) (xs : List α) : Prop :=
  xs.length ≤ 140737488355328 ∧ ∃ a c, v = .slice a xs.length c ∧ xs.length ≤ c ∧ (0 < xs.length → ∃ ad cs, a = some ad ∧ A.part ad (xs.length * S.size) = some cs ∧ Elems S A xs cs)

theorem Sl.mono {v : Value} (h : Sl S A v xs) (he : Ext A B) : Sl S B v xs := by
  obtain ⟨h0, a, c, h1, h2, h3⟩ := h
  exact ⟨h0, a, c, h1, h2, fun hp => let ⟨ad, cs, e1, e2, e3⟩ := h3 hp; ⟨ad, cs, e1, he.part e2, e3.mono he⟩⟩
theorem Sl.slice {v : Value} (h : Sl S A v xs) : ∃ a c, v = .slice a xs.length c ∧ xs.length ≤ c ∧ xs.length ≤ 140737488355328 := let ⟨h0, a, c, h1, h2, _⟩ := h; ⟨a, c, h1, h2, h0⟩
theorem Sl.nil (S : Shape α) (A : View) : Sl S A (.slice none 0 0) [] := ⟨by simp, none, 0, rfl, Nat.le_refl _, fun h => absurd h (by simp)⟩
theorem Sl.empty (S : Shape α) (A : View) (a : Option Addr) (c : Nat) : Sl S A (.slice a 0 c) [] := ⟨by simp, a, c, rfl, Nat.zero_le _, fun h => absurd h (by simp)⟩
/-- One element of a slice that is read. -/
theorem Sl.at {a : Option Addr} {n c : Nat} (h : Sl S A (.slice a n c) xs) {i : Nat} (hi : i < xs.length) : ∃ ad d, a = some ad ∧ S.rel A xs[i] d ∧ A.part (ad.add (i * S.size)) S.size = some d ∧ ∀ j u, d[j]? = some u → A.cell ((ad.add (i * S.size)).add j) = some u := by
  obtain ⟨h0, a', c', h1, h2, h3⟩ := h
  injection h1 with e1 e2 e3
  obtain ⟨ad, cs, rfl, hp, he⟩ := h3 (by omega)
  have hm : i * S.size + S.size ≤ xs.length * S.size := by
    have := Nat.mul_le_mul_right S.size (show i + 1 ≤ xs.length from hi)
    rw [Nat.add_mul] at this; omega
  have hpp := View.part_part hp hm
  exact ⟨ad, _, e1, he.at i hi, hpp, fun j u hj => View.part_cell hpp hj⟩
/-- The first elements of a slice. -/
theorem Sl.take {a : Option Addr} {n c : Nat} (h : Sl S A (.slice a n c) xs) {k : Nat} (hk : k ≤ xs.length) (es : Nat) : Sl S A (.slice (cutAddr a 0 c es) k c) (xs.take k) := by
  obtain ⟨h0, a', c', h1, h2, h3⟩ := h
  injection h1 with e1 e2 e3
  subst e1; subst e3
  have hlen : (xs.take k).length = k := by simp; omega
  refine ⟨by omega, cutAddr a 0 c es, c, by rw [hlen], by omega, fun hp => ?_⟩
  obtain ⟨ad, cs, rfl, hpart, he⟩ := h3 (by omega)
  have : cutAddr (some ad) 0 c es = some ad := by
    unfold cutAddr
    split
    · rfl
    · simp [Addr.add]
  rw [hlen]
  have hm : k * S.size ≤ xs.length * S.size := Nat.mul_le_mul_right _ hk
  refine ⟨ad, cs.take (k * S.size), this, ?_, he.take k⟩
  have := View.part_part hpart (i := 0) (m := k * S.size) (by omega)
  simpa [Addr.add] using this
/-- What is behind the first elements of a slice. -/
theorem Sl.drop {a : Option Addr} {n c : Nat} (h : Sl S A (.slice a n c) xs) {k : Nat} (hk : k ≤ xs.length) : Sl S A (.slice (cutAddr a k c S.size) (n - k) (c - k)) (xs.drop k) := by
  obtain ⟨h0, a', c', h1, h2, h3⟩ := h
  injection h1 with e1 e2 e3
  subst e1; subst e3
  have hlen : (xs.drop k).length = n - k := by simp; omega
  refine ⟨by omega, cutAddr a k c S.size, c - k, by rw [hlen], by omega, fun hp => ?_⟩
  obtain ⟨ad, cs, rfl, hpart, he⟩ := h3 (by omega)
  have hc : ¬ c = k := by omega
  have : cutAddr (some ad) k c S.size = some (ad.add (k * S.size)) := by
    unfold cutAddr
    rw [if_neg hc]; rfl
  have hm : k * S.size + (xs.drop k).length * S.size = xs.length * S.size := by
    rw [← Nat.add_mul]; congr 1; simp; omega
  refine ⟨_, cs.drop (k * S.size), this, ?_, he.drop k⟩
  have h4 := View.part_part hpart (i := k * S.size) (m := (xs.drop k).length * S.size) (by omega)
  rw [h4, List.take_of_length_le (by rw [List.length_drop, he.len]; omega)]

/-- A slice of one's own: its block holds just its elements, which need nothing of that block. -/
structure Own (S : Shape α) (e : TypeId) (A : View) (b c : Nat) (xs : List α) : Prop where
  ex : ∃ cs, A b = some ⟨e, cs, c * S.size, true⟩ ∧ Elems S (A.kill b) xs cs
  fits : xs.length ≤ c
  small : xs.length ≤ 140737488355328

theorem Own.sl {e : TypeId} {b c : Nat} (h : Own S e A b c xs) : Sl S A (.slice (some ⟨b, 0, none⟩) xs.length c) xs := by
  obtain ⟨⟨cs, hb, he⟩, hf, hs⟩ := h
  refine ⟨hs, _, c, rfl, hf, fun _ => ⟨_, cs, rfl, ?_, he.mono (Ext.kill A b)⟩⟩
  rw [part_at hb (by simp [he.len]) (fun v hv => he.one v (List.mem_of_mem_drop (List.mem_of_mem_take hv)))]
  simp [List.take_of_length_le, he.len]
theorem Own.mono {e : TypeId} {b c : Nat} (h : Own S e A b c xs) (hx : Ext A B) : Own S e B b c xs := by
  obtain ⟨⟨cs, hb, he⟩, hf, hs⟩ := h
  exact ⟨⟨cs, hx _ _ hb, he.mono (hx.killBoth b)⟩, hf, hs⟩
theorem Own.has {e : TypeId} {b c : Nat} (h : Own S e A b c xs) : ∃ k, A b = some k := let ⟨⟨_, hb, _⟩, _, _⟩ := h; ⟨_, hb⟩
theorem Own.lit {e : TypeId} {b n : Nat} (hb : A b = none) (hn : n = xs.length) (hs : n ≤ 140737488355328) (h : Elems S A xs cs) : Own S e (A.set b ⟨e, cs, n * S.size, true⟩) b n xs := by
  subst hn
  exact ⟨⟨cs, View.set_same .., h.mono (Ext.killNew hb _)⟩, Nat.le_refl _, hs⟩
/-- What is appended to a slice of one's own. -/
theorem Own.app {e : TypeId} {b c b' c' : Nat} (h : Own S e A b c xs) (hb : (A.kill b) b' = none) (hd : Elems S (A.kill b) ys ds) (cs : List Value) (hcs : A b = some ⟨e, cs, c * S.size, true⟩) (hc : (xs ++ ys).length ≤ c') (hsm : (xs ++ ys).length ≤ 140737488355328) :
    Own S e ((A.kill b).set b' ⟨e, cs ++ ds, c' * S.size, true⟩) b' c' (xs ++ ys) := by
  obtain ⟨⟨cs', hb', he⟩, hf, hs⟩ := h
  have : cs' = cs := by rw [hcs] at hb'; simpa using hb'.symm
  subst this
  exact ⟨⟨_, View.set_same .., (he.append hd).mono (Ext.killNew hb _)⟩, hc, hsm⟩
end

end Go.Proofs.YtggklaimbklefaaDoor

