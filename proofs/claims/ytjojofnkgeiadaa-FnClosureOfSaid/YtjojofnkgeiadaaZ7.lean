/- Generators: a suite and a name. -/
import Derived.Test.YtjojofnkgeiadaaZ6
set_option maxHeartbeats 4000000
set_option synthInstance.maxHeartbeats 400000
set_option synthInstance.maxSize 4096
set_option linter.unusedSimpArgs false
set_option linter.unusedVariables false
namespace Go.Proofs.Ytjojofnkgeiadaa

set_option maxRecDepth 100000

theorem join_suite {B V : View} {L : List It} {q : Nat} {sl : Value} {M N : Nat} {x : SuiteD} {ff0 ff1 : List Nat} {uu0 uu1 : Value} (h : Led B (rdr q sl M :: osl 33 fixtureO ff0 uu0 x.1 :: osl 38 testO ff1 uu1 x.2.1 :: L) V) (hM : M ≤ N) : Led B (oc suiteO (ff0 ++ ff1) x [uu0, uu1] :: rdr q sl N :: L) V := by
  have l2 : Led B (osl 38 testO ff1 uu1 x.2.1 :: osl 33 fixtureO ff0 uu0 x.1 :: rdr q sl M :: L) V := h.perm (((List.Perm.swap ..).trans ((List.Perm.swap ..).cons _)).trans (List.Perm.swap ..)).symm.symm
  have l3 := l2.join2 (jt := oc suiteO (ff0 ++ ff1) x [uu0, uu1]) rfl (suiteO_mk (l2.at (i := 1) rfl) (l2.at (i := 0) rfl))
  exact (rdr_more (l3.perm (List.Perm.swap ..)) hM).perm (List.Perm.swap ..)

/-- A struct of cells, read. -/
theorem suite_cells {V : View} {x : SuiteD} {d : List Value} (h : suiteS.rel V x d) : d.length = 2 ∧ ∀ v ∈ d, v.oneCell' = true := ⟨suiteS.len h, suiteS.one h⟩

end Go.Proofs.Ytjojofnkgeiadaa

