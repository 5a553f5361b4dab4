/- Names, ids, texts in lists. -/
import Derived.Test.YtggklaimbklefaaDoorFw10
import Derived.Test.YtggklaimbklefaaDoorInfo
set_option maxHeartbeats 4000000
set_option synthInstance.maxHeartbeats 400000
set_option synthInstance.maxSize 4096
set_option linter.unusedSimpArgs false
set_option linter.unusedVariables false
namespace Go.Proofs.YtggklaimbklefaaDoor

set_option maxRecDepth 100000

/-- A byte that is a small letter. -/
def lettr (b : UInt8) : Bool := decide (97 ≤ b.toNat) && decide (b.toNat ≤ 122)

/-- What a name is. -/
def nmOk (s : ByteArray) : Bool := s.data.toList.all lettr && (decide (1 ≤ s.size) && decide (s.size ≤ 6) && (!decide (s = ⟨#[97, 110, 100]⟩)) && (!decide (s = ⟨#[111, 114]⟩)) && (!decide (s = ⟨#[110, 111, 116]⟩)))

theorem sbyte_at {s : ByteArray} {i : Nat} (hi : i < s.size) : ∃ b, s.data.toList[i]? = some b ∧ sbyte s i = b.toNat := by
  have hd : i < s.data.size := hi
  refine ⟨s.data[i], by simp [hd], ?_⟩
  unfold sbyte
  rw [Array.getElem?_eq_getElem hd]
  rfl

theorem nm_no {s : ByteArray} {i : Nat} (hi : i < s.size) (h : sbyte s i < 97 ∨ 122 < sbyte s i) : nmOk s = false := by
  obtain ⟨b, hb, he⟩ := sbyte_at hi
  have hm : b ∈ s.data.toList := List.mem_of_getElem? hb
  have : lettr b = false := by unfold lettr; rw [he] at h; simp; omega
  have h2 : s.data.toList.all lettr = false := by rw [List.all_eq_false]; exact ⟨b, hm, by simp [this]⟩
  unfold nmOk
  rw [h2, Bool.false_and]

theorem nm_go {s : ByteArray} {i : Nat} (hi : i < s.size) (hn : (s.data.toList.take i).all lettr = true) (h1 : ¬ sbyte s i < 97) (h2 : ¬ 122 < sbyte s i) : (s.data.toList.take (i + 1)).all lettr = true := by
  obtain ⟨b, hb, he⟩ := sbyte_at hi
  rw [List.take_add_one, List.all_append, hn, hb, Bool.true_and]
  have : lettr b = true := by unfold lettr; rw [Bool.and_eq_true, decide_eq_true_eq, decide_eq_true_eq]; omega
  simp only [Option.toList, List.all_cons, this, List.all_nil, Bool.and_self]

theorem nm_end {s : ByteArray} (hn : (s.data.toList.take s.size).all lettr = true) : nmOk s = (decide (1 ≤ s.size) && decide (s.size ≤ 6) && (!decide (s = ⟨#[97, 110, 100]⟩)) && (!decide (s = ⟨#[111, 114]⟩)) && (!decide (s = ⟨#[110, 111, 116]⟩))) := by
  rw [List.take_of_length_le (by rw [Array.length_toList]; exact Nat.le_refl _)] at hn
  unfold nmOk
  rw [hn, Bool.true_and]

/-- Where a byte stands first. -/
def ixb (s : ByteArray) (c : UInt8) : Int := Go.Lib.indexByte s.data.toList c

theorem indexByte_lt (l : List UInt8) (c : UInt8) : Go.Lib.indexByte l c < l.length ∨ Go.Lib.indexByte l c = -1 := by
  induction l with
  | nil => exact .inr rfl
  | cons b l ih =>
    unfold Go.Lib.indexByte
    split
    · left; simp
    · split
      · exact .inr rfl
      · rename_i h
        have : Go.Lib.indexByte l c ≠ -1 := by simpa using h
        left; simp; omega

theorem ixb_lt {s : ByteArray} {c : UInt8} (h : 0 ≤ ixb s c) : ixb s c < s.size := by
  have := indexByte_lt s.data.toList c
  unfold ixb at *
  rw [Array.length_toList] at this
  rcases this with h1 | h1
  · exact h1
  · omega

theorem ixb_range (s : ByteArray) (c : UInt8) : -1 ≤ ixb s c := Go.Lib.indexByte_ge _ _

/-- What an id is: two names with a point between them. -/
def idB (s : ByteArray) : Bool := decide (0 ≤ ixb s 46) && nmOk (s.extract 0 (ixb s 46).toNat) && nmOk (s.extract ((ixb s 46).toNat + 1) s.size)

theorem indexByte_before : ∀ (l : List UInt8) (c : UInt8) (i : Nat), (∀ j, j < i → ∀ b, l[j]? = some b → b ≠ c) → l[i]? = some c → Go.Lib.indexByte l c = i
  | [], _, _, _, h => by simp at h
  | b :: l, c, 0, _, h => by simp at h; simp [Go.Lib.indexByte, h]
  | b :: l, c, i + 1, hn, h => by
    have hb : b ≠ c := hn 0 (by omega) b (by simp)
    have := indexByte_before l c i (fun j hj b' hb' => hn (j + 1) (by omega) b' (by simpa using hb')) (by simpa using h)
    unfold Go.Lib.indexByte
    rw [this, if_neg (by simpa using hb), if_neg (by simp)]
    simp

theorem indexByte_none : ∀ (l : List UInt8) (c : UInt8), (∀ b ∈ l, b ≠ c) → Go.Lib.indexByte l c = -1
  | [], _, _ => rfl
  | b :: l, c, hn => by
    unfold Go.Lib.indexByte
    rw [indexByte_none l c (fun b hb => hn b (List.mem_cons_of_mem _ hb)), if_neg (by simpa using hn b (List.mem_cons_self ..))]
    simp

theorem idx_before {s : ByteArray} {i : Nat} (hi : i < s.size) (hn : ∀ j, j < i → sbyte s j ≠ 46) (h : sbyte s i = 46) : ixb s 46 = i := by
  refine indexByte_before _ _ _ (fun j hj b hb e => ?_) ?_
  · obtain ⟨b', hb', he⟩ := sbyte_at (s := s) (i := j) (by omega)
    rw [hb] at hb'
    injection hb' with hb'
    subst hb'; subst e
    exact hn j hj he
  · obtain ⟨b', hb', he⟩ := sbyte_at hi
    rw [hb', h] at *
    have : b' = 46 := UInt8.toNat_inj.1 (by rw [← he]; rfl)
    rw [this]

theorem idx_none {s : ByteArray} (hn : ∀ j, j < s.size → sbyte s j ≠ 46) : ixb s 46 = -1 := by
  refine indexByte_none _ _ fun b hb e => ?_
  obtain ⟨j, hj, he⟩ := List.getElem_of_mem hb
  have hjs : j < s.size := by rw [Array.length_toList] at hj; exact hj
  obtain ⟨b', hb', he'⟩ := sbyte_at hjs
  rw [List.getElem?_eq_getElem hj, he, e] at hb'
  injection hb' with hb'
  subst hb'
  exact hn j hjs he'

end Go.Proofs.YtggklaimbklefaaDoor

