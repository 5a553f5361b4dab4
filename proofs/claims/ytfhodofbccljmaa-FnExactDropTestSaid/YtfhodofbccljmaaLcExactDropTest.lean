/- The law FnExactDropTest, over the contracts. -/
import Derived.Test.YtfhodofbccljmaaLaDropTest
import Derived.Test.YtfhodofbccljmaaW6
set_option maxHeartbeats 4000000
set_option synthInstance.maxHeartbeats 400000
set_option synthInstance.maxSize 4096
set_option linter.unusedSimpArgs false
set_option linter.unusedVariables false
namespace Go.Proofs.Ytfhodofbccljmaa

theorem law_FnExactDropTest (A : View) (d0 : List Value) (x0 : SuiteD) (x1 : ByteArray) (h0 : suiteS.rel A x0 d0) (h1 : x1.size ≤ 140737488355328) : ACalls Try.prog 3 #[.agg d0.toArray, .string x1] A fun r _ => r = .bool true := by
  refine walkFnExactDropTest A d0 x0 x1 h0 h1 (sel (dropTC x0 x1) (dropTY x0 x1)) ?_ (dropTC x0 x1)
    (fun B d0 h0 w0 w1 => (spec_DropTest_c B d0 x0 x1 h0).mono fun r B' h => h)
    (fun B d0 h0 w0 w1 => (impl_DropTest_c B d0 x0 x1 h0 (by rw [suiteT_w] at w0; omega) (by rw [suiteT_w] at w0; omega)).mono fun r B' h => h)
  unfold sel
  split
  · rename_i hc
    unfold dropTC at hc
    rw [Bool.and_eq_true] at hc
    have hS := (validB_parts hc.1).1.small
    refine (hS.tests (ts := x0.2.1.take (findB x0.2.1 x1).toNat ++ x0.2.1.drop ((findB x0.2.1 x1).toNat + 1)) ?_ fun t ht => ?_).cnt
    · have h1 := hS.l1
      have h2 := of_decide_eq_true hc.2
      obtain ⟨k, hk, hkn, hkl⟩ := findB_lt h2
      rw [hkn, List.length_append, List.length_take, List.length_drop]
      omega
    · rcases List.mem_append.1 ht with ht | ht
      · exact List.mem_of_mem_take ht
      · exact List.mem_of_mem_drop ht
  · exact none_cnt

end Go.Proofs.Ytfhodofbccljmaa

