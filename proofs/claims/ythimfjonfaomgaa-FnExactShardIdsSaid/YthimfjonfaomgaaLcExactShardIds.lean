/- The law FnExactShardIds, over the contracts. -/
import Derived.Test.YthimfjonfaomgaaLaShardIds
import Derived.Test.YthimfjonfaomgaaR5
set_option maxHeartbeats 4000000
set_option synthInstance.maxHeartbeats 400000
set_option synthInstance.maxSize 4096
set_option linter.unusedSimpArgs false
set_option linter.unusedVariables false
namespace Go.Proofs.Ythimfjonfaomgaa

theorem law_FnExactShardIds (A : View) (v0 : Value) (x0 : List ByteArray) (v1 : Value) (x1 : List PastD) (x2 : Int) (h0 : Sl strS A v0 x0) (h1 : Sl pastS A v1 x1) (h2 : -9223372036854775808 ≤ x2 ∧ x2 < 9223372036854775808) : ACalls Try.prog 7 #[v0, v1, .int .i64 x2] A fun r _ => r = .bool true := by
  refine walkFnExactShardIds A v0 x0 v1 x1 x2 h0 h1 h2 (shardR x0 x1 x2) ?_
    (fun B v0 v1 h0 h1 w0 w1 => (spec_shardIds_c B v0 v1 x0 x1 x2 h0 h1).mono fun r B' h => h.out)
    (fun B v0 v1 h0 h1 w0 w1 => (impl_shardIds_c B v0 v1 x0 x1 x2 h0 h1 (by omega)).mono fun r B' h => h.out)
  have key : ∀ (xs : List (List ByteArray)), (∀ x ∈ xs, x.length ≤ 10) → cntL (slT 9 strT) xs ≤ 10 * xs.length := by
    intro xs
    induction xs with
    | nil => intro _; simp [cntL]
    | cons x xs ih =>
      intro h
      have h1 := ih fun y hy => h y (List.mem_cons_of_mem _ hy)
      have h2 : (slT 9 strT).cnt x = x.length := cntL_str x
      have h3 := h x (List.mem_cons_self ..)
      simp only [cntL, List.length_cons, h2]
      omega
  have h1 := shardR_cnt x0 x1 x2
  have h2 := key _ h1.2
  have h3 := h1.1
  omega

end Go.Proofs.Ythimfjonfaomgaa

