/- What is wrong with a suite. -/
import Derived.Test.YtjojofnkgeiadaaV5
import Derived.Test.YtjojofnkgeiadaaGProblem
set_option maxHeartbeats 4000000
set_option synthInstance.maxHeartbeats 400000
set_option synthInstance.maxSize 4096
set_option linter.unusedSimpArgs false
set_option linter.unusedVariables false
namespace Go.Proofs.Ytjojofnkgeiadaa

set_option maxRecDepth 100000

def scopeAt (fs : List FixtureD) (a : ByteArray) : Int := ((fs.find? (isF a)).map (·.2.1)).getD 0
def prNeed (fs : List FixtureD) (f : FixtureD) (nd : ByteArray) : List ProblemD := if fAt fs nd < 0 then [(0, f.1, nd, ())] else if scopeAt fs nd < f.2.1 then [(1, f.1, nd, ())] else []
noncomputable def prFix (fs : List FixtureD) (f : FixtureD) : List ProblemD := f.2.2.1.flatMap (prNeed fs f) ++ (if circB fs f.1 then [(2, f.1, f.1, ())] else [])
def prTestN (fs : List FixtureD) (t : TestD) (nd : ByteArray) : List ProblemD := if fAt fs nd < 0 then [(0, idD t, nd, ())] else []
def prTest (fs : List FixtureD) (t : TestD) : List ProblemD := t.2.2.2.1.flatMap (prTestN fs t)
/-- What is wrong with a suite of the right form. -/
noncomputable def probR (x : SuiteD) : List ProblemD := x.1.flatMap (prFix x.1) ++ x.2.1.flatMap (prTest x.1)

theorem flatMap_le {α β : Type} {f : α → List β} {m : Nat} (h : ∀ x, (f x).length ≤ m) (xs : List α) : (xs.flatMap f).length ≤ m * xs.length := by
  induction xs with
  | nil => simp
  | cons x xs ih =>
    rw [List.flatMap_cons, List.length_append, List.length_cons, Nat.mul_succ]
    have := h x
    omega
theorem flatMap_le' {α β : Type} {f : α → List β} {m : Nat} (xs : List α) (h : ∀ x, x ∈ xs → (f x).length ≤ m) : (xs.flatMap f).length ≤ m * xs.length := by
  induction xs with
  | nil => simp
  | cons x xs ih =>
    rw [List.flatMap_cons, List.length_append, List.length_cons, Nat.mul_succ]
    have h1 := h x (List.mem_cons_self ..)
    have h2 := ih fun y hy => h y (List.mem_cons_of_mem _ hy)
    omega
theorem prNeed_len (fs : List FixtureD) (f : FixtureD) (nd : ByteArray) : (prNeed fs f nd).length ≤ 1 := by
  unfold prNeed
  split
  · simp
  · split <;> simp
theorem prTestN_len (fs : List FixtureD) (t : TestD) (nd : ByteArray) : (prTestN fs t nd).length ≤ 1 := by
  unfold prTestN
  split <;> simp
theorem prFix_len {fs : List FixtureD} {f : FixtureD} (h : f.2.2.1.length ≤ 4) : (prFix fs f).length ≤ 5 := by
  unfold prFix
  have := flatMap_le (prNeed_len fs f) f.2.2.1
  rw [List.length_append]
  split
  · rw [List.length_singleton]; omega
  · rw [List.length_nil]; omega
theorem prTest_len {fs : List FixtureD} {t : TestD} (h : t.2.2.2.1.length ≤ 4) : (prTest fs t).length ≤ 4 := by
  unfold prTest
  have := flatMap_le (prTestN_len fs t) t.2.2.2.1
  omega

instance flatProblem : Flat problemO := inferInstanceAs (Flat (consO intO (consO strO (consO strO unitO))))

structure Formed (x : SuiteD) : Prop where
  fl : x.1.length ≤ 6
  fn : (x.1.map (·.1)).Nodup
  fs : ∀ f, f ∈ x.1 → f.2.2.1.length ≤ 4 ∧ f.2.2.1.Nodup ∧ 0 ≤ f.2.1 ∧ f.2.1 ≤ 2
  tl : x.2.1.length ≤ 10
  ts : ∀ t, t ∈ x.2.1 → testB t = true ∧ t.2.2.2.1.length ≤ 4
theorem namesB_len {xs : List ByteArray} {m : Int} (h : namesB xs m = true) : (xs.length : Int) ≤ m := by
  unfold namesB at h
  simp only [Bool.and_eq_true, decide_eq_true_eq] at h
  exact h.2
theorem formed_of {x : SuiteD} (h : formedB x = true) : Formed x := by
  unfold formedB at h
  rw [Bool.and_eq_true, Bool.and_eq_true, List.all_eq_true] at h
  obtain ⟨⟨h1, h2⟩, h3⟩ := h
  unfold testsB at h3
  rw [Bool.and_eq_true, Bool.and_eq_true, List.all_eq_true, decide_eq_true_eq, decide_eq_true_eq] at h3
  obtain ⟨⟨h3, _⟩, h4⟩ := h3
  refine ⟨?_, namesB_nodup h2, fun f hf => ?_, h4, fun t ht => ⟨h3 t ht, ?_⟩⟩
  · have := namesB_len h2
    rw [List.length_map] at this
    omega
  · have := h1 f hf
    unfold fixB at this
    rw [Bool.and_eq_true, Bool.and_eq_true, decide_eq_true_eq, decide_eq_true_eq] at this
    have hl := namesB_len this.2
    exact ⟨by omega, namesB_nodup this.2, this.1.1, this.1.2⟩
  · have := h3 t ht
    unfold testB at this
    rw [Bool.and_eq_true] at this
    have hl := namesB_len this.2
    omega
theorem find_self {fs : List FixtureD} (hn : (fs.map (·.1)).Nodup) {i : Nat} (hi : i < fs.length) : fs.find? (isF (fs[i]).1) = some fs[i] := by
  rw [List.find?_eq_some_iff_getElem]
  refine ⟨by simp [isF], i, hi, rfl, fun j hj => ?_⟩
  have := List.pairwise_iff_getElem.1 hn j i (by rw [List.length_map]; omega) (by rw [List.length_map]; exact hi) hj
  rw [List.getElem_map, List.getElem_map] at this
  simp [isF, this]
theorem needs_self {fs : List FixtureD} (hn : (fs.map (·.1)).Nodup) {i : Nat} (hi : i < fs.length) : needsAt fs (fs[i]).1 = (fs[i]).2.2.1 := by
  unfold needsAt
  rw [find_self hn hi]; rfl
theorem scope_idx {fs : List FixtureD} {a : ByteArray} (h : 0 ≤ fAt fs a) : ∃ i : Nat, fAt fs a = i ∧ ∃ hi : i < fs.length, needsAt fs a = fs[i].2.2.1 ∧ scopeAt fs a = fs[i].2.1 ∧ fs[i].1 = a := by
  obtain ⟨i, h1, hi, h2, h3⟩ := idxI_lt h
  exact ⟨i, h1, hi, by unfold needsAt; rw [h3]; rfl, by unfold scopeAt; rw [h3]; rfl, of_decide_eq_true h2⟩

end Go.Proofs.Ytjojofnkgeiadaa

