/- The law FnExactSortTests, over the contracts. -/
import Derived.Test.YtbddklkfekiaeaaLaSortTests
import Derived.Test.YtbddklkfekiaeaaRU
set_option maxHeartbeats 4000000
set_option synthInstance.maxHeartbeats 400000
set_option synthInstance.maxSize 4096
set_option linter.unusedSimpArgs false
set_option linter.unusedVariables false
namespace Go.Proofs.Ytbddklkfekiaeaa

theorem valid_cnt {ts : List TestD} (h : ∀ t, t ∈ ts → testB t = true) : cntL testT ts ≤ 9 * ts.length := by
  induction ts with
  | nil => simp [cntL]
  | cons t ts ih =>
    have h1 := ih fun y hy => h y (List.mem_cons_of_mem _ hy)
    have h2 := h t (List.mem_cons_self ..)
    unfold testB at h2
    simp only [Bool.and_eq_true] at h2
    have h3 := namesB_len h2.1.1.2
    have h4 := namesB_len h2.2
    have h5 : testT.cnt t = 1 + (1 + (cntL strT t.2.2.1 + (cntL strT t.2.2.2.1 + 0))) := rfl
    rw [cntL_str, cntL_str] at h5
    simp only [cntL, List.length_cons]
    omega
theorem sortR_cnt (ts : List TestD) : cntL testT (sortR ts) ≤ 1073741824 := by
  unfold sortR
  cases ht : testsB ts with
  | false => rw [if_neg (by decide)]; simp [cntL]
  | true =>
    rw [if_pos rfl]
    obtain ⟨h1, h2, _⟩ := testsB_len ht
    have := valid_cnt (ts := ssort (fun t => rankI (ts.map idD) (idD t)) ts) fun t h => h2 t ((ssort_mem ..).1 h)
    rw [ssort_len] at this
    omega

theorem law_FnExactSortTests (A : View) (v0 : Value) (x0 : List TestD) (h0 : Sl testS A v0 x0) : ACalls Try.prog 9 #[v0] A fun r _ => r = .bool true :=
  walkFnExactSortTests A v0 x0 h0 (sortR x0) (sortR_cnt _)
    (fun B v0 h0 w0 => (spec_SortTests_c B v0 x0 h0).mono fun r B' h => h.out)
    (fun B v0 h0 w0 => (impl_SortTests_c B v0 x0 h0 (by omega)).mono fun r B' h => h.out)

end Go.Proofs.Ytbddklkfekiaeaa

