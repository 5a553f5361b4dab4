/- Bytes as a text. -/
import Derived.Test.YtggklaimbklefaaDoorC1
set_option maxHeartbeats 4000000
set_option synthInstance.maxHeartbeats 400000
set_option synthInstance.maxSize 4096
set_option linter.unusedSimpArgs false
set_option linter.unusedVariables false
namespace Go.Proofs.YtggklaimbklefaaDoor

set_option maxRecDepth 100000

/-- Bytes as a text. -/
def Bt (l : List UInt8) : ByteArray := ⟨l.toArray⟩
theorem Bt_list (l : List UInt8) : (Bt l).data.toList = l := by simp [Bt]
theorem Bt_of (s : ByteArray) : Bt s.data.toList = s := by
  apply ByteArray.ext
  simp [Bt]
theorem Bt_size (l : List UInt8) : (Bt l).size = l.length := by
  show l.toArray.size = _
  simp
theorem Bt_inj {l m : List UInt8} (h : Bt l = Bt m) : l = m := by rw [← Bt_list l, h, Bt_list]
theorem Bt_app (l m : List UInt8) : Bt l ++ Bt m = Bt (l ++ m) := by
  apply ByteArray.ext
  simp [Bt]
theorem Bt_extract (l : List UInt8) (i j : Nat) : (Bt l).extract i j = Bt ((l.take j).drop i) := by
  apply ByteArray.ext
  apply Array.toList_inj.1
  show (((Bt l).extract i j).data).toList = _
  rw [ByteArray.data_extract]
  simp [Bt, List.extract_eq_take_drop, List.drop_take]

end Go.Proofs.YtggklaimbklefaaDoor

