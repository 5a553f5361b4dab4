/- Parts of slices; what is chosen. -/
import Derived.Test.YtbddklkfekiaeaaUC
import Derived.Test.YtbddklkfekiaeaaUF
import Derived.Test.YtbddklkfekiaeaaYS
set_option maxHeartbeats 4000000
set_option synthInstance.maxHeartbeats 400000
set_option synthInstance.maxSize 4096
set_option linter.unusedSimpArgs false
set_option linter.unusedVariables false
namespace Go.Proofs.Ytbddklkfekiaeaa

set_option maxRecDepth 100000

theorem Sl.mid {α : Type} {S : Shape α} {A : View} {xs : List α} {a : Option Addr} {n c : Nat} (h : Sl S A (.slice a n c) xs) {k m : Nat} (hk : k + m ≤ xs.length) : Sl S A (.slice (cutAddr a k c S.size) m (c - k)) ((xs.drop k).take m) := by
  by_cases hx : xs.length = 0
  · have hm : m = 0 := by omega
    subst hm
    rw [List.take_zero]
    exact Sl.empty S A _ _
  · obtain ⟨ad, d, rfl, _⟩ := h.at (i := 0) (by omega)
    have e0 : cutAddr (some ad) 0 c S.size = some ad := by
      unfold cutAddr
      split
      · rfl
      · simp [Addr.add]
    have h1 := h.take (k := k + m) hk S.size
    rw [e0] at h1
    have h2 := h1.drop (k := k) (by rw [List.length_take]; omega)
    rw [Nat.add_sub_cancel_left] at h2
    rwa [List.take_drop]

theorem grp_split {ts : List TestD} {ms : List ByteArray} {k : Nat} (hk : k < ms.length) : ms.flatMap (ofM ts) = (ms.take k).flatMap (ofM ts) ++ (ofM ts ms[k] ++ (ms.drop (k + 1)).flatMap (ofM ts)) := by
  conv => lhs; rw [← List.take_append_drop k ms, List.drop_eq_getElem_cons hk]
  rw [List.flatMap_append, List.flatMap_cons]
theorem grp_mid {ts : List TestD} {ms : List ByteArray} {k : Nat} (hk : k < ms.length) : ((ms.flatMap (ofM ts)).drop ((ms.take k).flatMap (ofM ts)).length).take (ofM ts ms[k]).length = ofM ts ms[k] := by
  rw [grp_split hk, List.drop_left, List.take_left]
theorem grp_step {ts : List TestD} {ms : List ByteArray} {k : Nat} (hk : k < ms.length) : (ms.take (k + 1)).flatMap (ofM ts) = (ms.take k).flatMap (ofM ts) ++ ofM ts ms[k] := by
  rw [List.take_succ_eq_append_getElem hk, List.flatMap_append]
  simp

def atM (m : ByteArray) : ByteArray := (⟨#[64]⟩ : ByteArray) ++ m
theorem atM_tx (m : ByteArray) : atM m = tx (64 :: m.data.toList) := by
  refine ba_ext ?_
  rw [tx_list]
  unfold atM
  rw [ByteArray.data_append, Array.toList_append]
  rfl
theorem atM_size (m : ByteArray) : (atM m).size = m.size + 1 := by
  unfold atM
  rw [ByteArray.size_append]
  show 1 + m.size = _
  omega
theorem selE_mod {m : ByteArray} {ts : List TestD} (h : nmOk m = true) (h2 : testsB ts = true) : selE true (atM m) ts = ofM ts m := by
  rw [selE_of (e := .mod m) (by rw [atM_tx]; exact exprP_mod h) h2]
  unfold pickE ofM
  refine List.filter_congr fun t _ => ?_
  show (decide (m = t.1) == true) = decide (t.1 = m)
  by_cases hq : t.1 = m
  · rw [decide_eq_true hq, decide_eq_true hq.symm]; rfl
  · rw [decide_eq_false hq, decide_eq_false fun h => hq h.symm]; rfl
theorem selE_sub (want : Bool) (s : ByteArray) (ts : List TestD) : (selE want s ts).Sublist ts := by
  unfold selE
  split
  · split
    · exact pickE_sub ..
    · exact List.nil_sublist _
  · exact List.nil_sublist _

end Go.Proofs.Ytbddklkfekiaeaa

