/- Closed facts of this seat: layouts of types, and which functions have bodies. -/
import Derived.Test.YtggklaimbklefaaDoorProg
import Derived.Test.YtggklaimbklefaaDoorFw6
import Derived.KernelRfl
set_option maxRecDepth 100000
namespace Go.Proofs.YtggklaimbklefaaDoor

theorem ld3 {A : View} (a : Addr) : A.loadv Tryd.prog 3 a = A.cell a := loadv_cell (n := 1) (by kernel_rfl) a
theorem ld5 {A : View} (a : Addr) : A.loadv Tryd.prog 5 a = A.cell a := loadv_cell (n := 1) (by kernel_rfl) a
theorem ld9 {A : View} (a : Addr) : A.loadv Tryd.prog 9 a = A.cell a := loadv_cell (n := 1) (by kernel_rfl) a
theorem ld22 {A : View} (a : Addr) : A.loadv Tryd.prog 22 a = A.cell a := loadv_cell (n := 1) (by kernel_rfl) a
theorem ld23 {A : View} (a : Addr) : A.loadv Tryd.prog 23 a = A.cell a := loadv_cell (n := 1) (by kernel_rfl) a
theorem ld25 {A : View} (a : Addr) : A.loadv Tryd.prog 25 a = (A.part a 2).map fun cs => .agg cs.toArray := loadv_agg (by kernel_rfl) a
theorem ld28 {A : View} (a : Addr) : A.loadv Tryd.prog 28 a = A.cell a := loadv_cell (n := 1) (by kernel_rfl) a
theorem ld30 {A : View} (a : Addr) : A.loadv Tryd.prog 30 a = (A.part a 2).map fun cs => .agg cs.toArray := loadv_agg (by kernel_rfl) a
theorem ld46 {A : View} (a : Addr) : A.loadv Tryd.prog 46 a = (A.part a 2).map fun cs => .agg cs.toArray := loadv_agg (by kernel_rfl) a
theorem ld47 {A : View} (a : Addr) : A.loadv Tryd.prog 47 a = (A.part a 2).map fun cs => .agg cs.toArray := loadv_agg (by kernel_rfl) a
theorem ld49 {A : View} (a : Addr) : A.loadv Tryd.prog 49 a = A.cell a := loadv_cell (n := 1) (by kernel_rfl) a
theorem ld50 {A : View} (a : Addr) : A.loadv Tryd.prog 50 a = A.cell a := loadv_cell (n := 1) (by kernel_rfl) a
theorem ld63 {A : View} (a : Addr) : A.loadv Tryd.prog 63 a = A.cell a := loadv_cell (n := 1) (by kernel_rfl) a
theorem sz3 : (Tryd.prog.info? 3).map (·.size) = some 1 := by kernel_rfl
theorem sz5 : (Tryd.prog.info? 5).map (·.size) = some 1 := by kernel_rfl
theorem sz9 : (Tryd.prog.info? 9).map (·.size) = some 1 := by kernel_rfl
theorem sz23 : (Tryd.prog.info? 23).map (·.size) = some 1 := by kernel_rfl
theorem sz28 : (Tryd.prog.info? 28).map (·.size) = some 1 := by kernel_rfl
theorem sz30 : (Tryd.prog.info? 30).map (·.size) = some 2 := by kernel_rfl
theorem sz47 : (Tryd.prog.info? 47).map (·.size) = some 2 := by kernel_rfl
theorem sz49 : (Tryd.prog.info? 49).map (·.size) = some 1 := by kernel_rfl
theorem sz50 : (Tryd.prog.info? 50).map (·.size) = some 1 := by kernel_rfl
theorem sz73 : (Tryd.prog.info? 73).map (·.size) = some 20 := by kernel_rfl
theorem sz80 : (Tryd.prog.info? 80).map (·.size) = some 32 := by kernel_rfl
theorem sz81 : (Tryd.prog.info? 81).map (·.size) = some 64 := by kernel_rfl
theorem fa25_0 {A : View} {K : Value → View → Prop} (a : Addr) : afaddr Tryd.prog 25 (.pointer (some a)) 0 A K = K (.pointer (some (a.add 0))) A := afaddr_at (by kernel_rfl) a
theorem fa25_1 {A : View} {K : Value → View → Prop} (a : Addr) : afaddr Tryd.prog 25 (.pointer (some a)) 1 A K = K (.pointer (some (a.add 1))) A := afaddr_at (by kernel_rfl) a
theorem fa30_0 {A : View} {K : Value → View → Prop} (a : Addr) : afaddr Tryd.prog 30 (.pointer (some a)) 0 A K = K (.pointer (some (a.add 0))) A := afaddr_at (by kernel_rfl) a
theorem fa30_1 {A : View} {K : Value → View → Prop} (a : Addr) : afaddr Tryd.prog 30 (.pointer (some a)) 1 A K = K (.pointer (some (a.add 1))) A := afaddr_at (by kernel_rfl) a
theorem fa46_0 {A : View} {K : Value → View → Prop} (a : Addr) : afaddr Tryd.prog 46 (.pointer (some a)) 0 A K = K (.pointer (some (a.add 0))) A := afaddr_at (by kernel_rfl) a
theorem fa46_1 {A : View} {K : Value → View → Prop} (a : Addr) : afaddr Tryd.prog 46 (.pointer (some a)) 1 A K = K (.pointer (some (a.add 1))) A := afaddr_at (by kernel_rfl) a
theorem fa47_0 {A : View} {K : Value → View → Prop} (a : Addr) : afaddr Tryd.prog 47 (.pointer (some a)) 0 A K = K (.pointer (some (a.add 0))) A := afaddr_at (by kernel_rfl) a
theorem fa47_1 {A : View} {K : Value → View → Prop} (a : Addr) : afaddr Tryd.prog 47 (.pointer (some a)) 1 A K = K (.pointer (some (a.add 1))) A := afaddr_at (by kernel_rfl) a
theorem fa52_0 {A : View} {K : Value → View → Prop} (a : Addr) : afaddr Tryd.prog 52 (.pointer (some a)) 0 A K = K (.pointer (some (a.add 0))) A := afaddr_at (by kernel_rfl) a
theorem fa52_1 {A : View} {K : Value → View → Prop} (a : Addr) : afaddr Tryd.prog 52 (.pointer (some a)) 1 A K = K (.pointer (some (a.add 1))) A := afaddr_at (by kernel_rfl) a
theorem ia22 {A : View} {K : Value → View → Prop} {a : Addr} {n c : Nat} {k : IntKind} {i : Int} (h0 : 0 ≤ i) (h1 : i < n) : aiaddr Tryd.prog 22 (.slice (some a) n c) (.int k i) A K = K (.pointer (some (a.add (i.toNat * 2)))) A := aiaddr_at (by kernel_rfl) h0 h1
theorem ia23 {A : View} {K : Value → View → Prop} {a : Addr} {n c : Nat} {k : IntKind} {i : Int} (h0 : 0 ≤ i) (h1 : i < n) : aiaddr Tryd.prog 23 (.slice (some a) n c) (.int k i) A K = K (.pointer (some (a.add (i.toNat * 1)))) A := aiaddr_at (by kernel_rfl) h0 h1
theorem ia28 {A : View} {K : Value → View → Prop} {a : Addr} {n c : Nat} {k : IntKind} {i : Int} (h0 : 0 ≤ i) (h1 : i < n) : aiaddr Tryd.prog 28 (.slice (some a) n c) (.int k i) A K = K (.pointer (some (a.add (i.toNat * 2)))) A := aiaddr_at (by kernel_rfl) h0 h1
theorem ia50 {A : View} {K : Value → View → Prop} {a : Addr} {n c : Nat} {k : IntKind} {i : Int} (h0 : 0 ≤ i) (h1 : i < n) : aiaddr Tryd.prog 50 (.slice (some a) n c) (.int k i) A K = K (.pointer (some (a.add (i.toNat * 1)))) A := aiaddr_at (by kernel_rfl) h0 h1
theorem sl9lo {A : View} {K : Value → View → Prop} {s : ByteArray} {kl : IntKind} {lo : Int} (h0 : 0 ≤ lo) (h1 : lo ≤ s.size) : aslice Tryd.prog 9 (.string s) (some (.int kl lo)) none none A K = K (.string (s.extract lo.toNat s.size)) A := aslice_strlo (by kernel_rfl) h0 h1
theorem sl9hi {A : View} {K : Value → View → Prop} {s : ByteArray} {kh : IntKind} {hi : Int} (h0 : 0 ≤ hi) (h1 : hi ≤ s.size) : aslice Tryd.prog 9 (.string s) none (some (.int kh hi)) none A K = K (.string (s.extract 0 hi.toNat)) A := aslice_strhi (by kernel_rfl) h0 h1
theorem sl9 {A : View} {K : Value → View → Prop} {s : ByteArray} {kl kh : IntKind} {lo hi : Int} (h0 : 0 ≤ lo) (h1 : lo ≤ hi) (h2 : hi ≤ s.size) : aslice Tryd.prog 9 (.string s) (some (.int kl lo)) (some (.int kh hi)) none A K = K (.string (s.extract lo.toNat hi.toNat)) A := aslice_str (by kernel_rfl) h0 h1 h2
theorem sl23lo {A : View} {K : Value → View → Prop} {a : Option Addr} {n c : Nat} {kl : IntKind} {lo : Int} (h0 : 0 ≤ lo) (h1 : lo ≤ n) : aslice Tryd.prog 23 (.slice a n c) (some (.int kl lo)) none none A K = K (.slice (cutAddr a lo.toNat c 1) (n - lo.toNat) (c - lo.toNat)) A := aslice_lo (by kernel_rfl) h0 h1
theorem sl23hi {A : View} {K : Value → View → Prop} {a : Option Addr} {n c : Nat} {kh : IntKind} {hi : Int} (h0 : 0 ≤ hi) (h1 : hi ≤ c) : aslice Tryd.prog 23 (.slice a n c) none (some (.int kh hi)) none A K = K (.slice (cutAddr a 0 c 1) hi.toNat c) A := aslice_hi (by kernel_rfl) h0 h1
theorem sl23 {A : View} {K : Value → View → Prop} {a : Option Addr} {n c : Nat} {kl kh : IntKind} {lo hi : Int} (h0 : 0 ≤ lo) (h1 : lo ≤ hi) (h2 : hi ≤ c) : aslice Tryd.prog 23 (.slice a n c) (some (.int kl lo)) (some (.int kh hi)) none A K = K (.slice (cutAddr a lo.toNat c 1) (hi.toNat - lo.toNat) (c - lo.toNat)) A := aslice_both (by kernel_rfl) h0 h1 h2
theorem sl23hm {A : View} {K : Value → View → Prop} {a : Option Addr} {n c : Nat} {kh km : IntKind} {hi mx : Int} (h0 : 0 ≤ hi) (h1 : hi ≤ mx) (h2 : mx ≤ c) : aslice Tryd.prog 23 (.slice a n c) none (some (.int kh hi)) (some (.int km mx)) A K = K (.slice (cutAddr a 0 mx.toNat 1) hi.toNat mx.toNat) A := aslice_hm (by kernel_rfl) h0 h1 h2
theorem sl23lhm {A : View} {K : Value → View → Prop} {a : Option Addr} {n c : Nat} {kl kh km : IntKind} {lo hi mx : Int} (h0 : 0 ≤ lo) (h1 : lo ≤ hi) (h2 : hi ≤ mx) (h3 : mx ≤ c) : aslice Tryd.prog 23 (.slice a n c) (some (.int kl lo)) (some (.int kh hi)) (some (.int km mx)) A K = K (.slice (cutAddr a lo.toNat mx.toNat 1) (hi.toNat - lo.toNat) (mx.toNat - lo.toNat)) A := aslice_lhm (by kernel_rfl) h0 h1 h2 h3
theorem sl50lo {A : View} {K : Value → View → Prop} {a : Option Addr} {n c : Nat} {kl : IntKind} {lo : Int} (h0 : 0 ≤ lo) (h1 : lo ≤ n) : aslice Tryd.prog 50 (.slice a n c) (some (.int kl lo)) none none A K = K (.slice (cutAddr a lo.toNat c 1) (n - lo.toNat) (c - lo.toNat)) A := aslice_lo (by kernel_rfl) h0 h1
theorem sl50hi {A : View} {K : Value → View → Prop} {a : Option Addr} {n c : Nat} {kh : IntKind} {hi : Int} (h0 : 0 ≤ hi) (h1 : hi ≤ c) : aslice Tryd.prog 50 (.slice a n c) none (some (.int kh hi)) none A K = K (.slice (cutAddr a 0 c 1) hi.toNat c) A := aslice_hi (by kernel_rfl) h0 h1
theorem sl50 {A : View} {K : Value → View → Prop} {a : Option Addr} {n c : Nat} {kl kh : IntKind} {lo hi : Int} (h0 : 0 ≤ lo) (h1 : lo ≤ hi) (h2 : hi ≤ c) : aslice Tryd.prog 50 (.slice a n c) (some (.int kl lo)) (some (.int kh hi)) none A K = K (.slice (cutAddr a lo.toNat c 1) (hi.toNat - lo.toNat) (c - lo.toNat)) A := aslice_both (by kernel_rfl) h0 h1 h2
theorem sl50hm {A : View} {K : Value → View → Prop} {a : Option Addr} {n c : Nat} {kh km : IntKind} {hi mx : Int} (h0 : 0 ≤ hi) (h1 : hi ≤ mx) (h2 : mx ≤ c) : aslice Tryd.prog 50 (.slice a n c) none (some (.int kh hi)) (some (.int km mx)) A K = K (.slice (cutAddr a 0 mx.toNat 1) hi.toNat mx.toNat) A := aslice_hm (by kernel_rfl) h0 h1 h2
theorem sl50lhm {A : View} {K : Value → View → Prop} {a : Option Addr} {n c : Nat} {kl kh km : IntKind} {lo hi mx : Int} (h0 : 0 ≤ lo) (h1 : lo ≤ hi) (h2 : hi ≤ mx) (h3 : mx ≤ c) : aslice Tryd.prog 50 (.slice a n c) (some (.int kl lo)) (some (.int kh hi)) (some (.int km mx)) A K = K (.slice (cutAddr a lo.toNat mx.toNat 1) (hi.toNat - lo.toNat) (mx.toNat - lo.toNat)) A := aslice_lhm (by kernel_rfl) h0 h1 h2 h3
theorem ix9 {A : View} {K : Value → View → Prop} {s : ByteArray} {k : IntKind} {i : Int} (h0 : 0 ≤ i) (h1 : i < s.size) : aindex Tryd.prog 9 (.string s) (.int k i) A K = K (.int .u8 (sbyte s i.toNat)) A := aindex_at (by kernel_rfl) h0 h1
theorem al30 {A : View} {K : Value → View → Prop} : aalloc Tryd.prog 30 A K = ∀ b, A b = none → K (.pointer (some ⟨b, 0, none⟩)) (A.set b ⟨30, [(.slice none 0 0), (.slice none 0 0)], 2, true⟩) := aalloc_at (by kernel_rfl)
theorem zc30 : zeroCells? Tryd.prog 30 = some [(.slice none 0 0), (.slice none 0 0)] := by kernel_rfl
theorem al47 {A : View} {K : Value → View → Prop} : aalloc Tryd.prog 47 A K = ∀ b, A b = none → K (.pointer (some ⟨b, 0, none⟩)) (A.set b ⟨47, [(.string ⟨#[]⟩), (.int .i64 0)], 2, true⟩) := aalloc_at (by kernel_rfl)
theorem zc47 : zeroCells? Tryd.prog 47 = some [(.string ⟨#[]⟩), (.int .i64 0)] := by kernel_rfl
theorem al52 {A : View} {K : Value → View → Prop} : aalloc Tryd.prog 52 A K = ∀ b, A b = none → K (.pointer (some ⟨b, 0, none⟩)) (A.set b ⟨52, [(.pointer none), (.slice none 0 0)], 2, true⟩) := aalloc_at (by kernel_rfl)
theorem zc52 : zeroCells? Tryd.prog 52 = some [(.pointer none), (.slice none 0 0)] := by kernel_rfl
theorem ln9 {A : View} {K : Value → View → Prop} (ty : TypeId) (cs : Array Bool) (s : ByteArray) : abuiltin Tryd.prog .len #[9] ty cs #[.string s] A K = K (.int .i64 s.size) A := alen_string (by kernel_rfl) ty cs s
theorem ln22 {A : View} {K : Value → View → Prop} (ty : TypeId) (cs : Array Bool) (a : Option Addr) (n c : Nat) : abuiltin Tryd.prog .len #[22] ty cs #[.slice a n c] A K = K (.int .i64 n) A := alen_slice (by kernel_rfl) ty cs a n c
theorem ln23 {A : View} {K : Value → View → Prop} (ty : TypeId) (cs : Array Bool) (a : Option Addr) (n c : Nat) : abuiltin Tryd.prog .len #[23] ty cs #[.slice a n c] A K = K (.int .i64 n) A := alen_slice (by kernel_rfl) ty cs a n c
theorem ln28 {A : View} {K : Value → View → Prop} (ty : TypeId) (cs : Array Bool) (a : Option Addr) (n c : Nat) : abuiltin Tryd.prog .len #[28] ty cs #[.slice a n c] A K = K (.int .i64 n) A := alen_slice (by kernel_rfl) ty cs a n c
theorem ln50 {A : View} {K : Value → View → Prop} (ty : TypeId) (cs : Array Bool) (a : Option Addr) (n c : Nat) : abuiltin Tryd.prog .len #[50] ty cs #[.slice a n c] A K = K (.int .i64 n) A := alen_slice (by kernel_rfl) ty cs a n c
theorem ap23_23 : appT Tryd.prog 23 23 = some (9, 1, 16) := by kernel_rfl
theorem ap50_9 : appT Tryd.prog 50 9 = some (5, 1, 1) := by kernel_rfl
theorem ap50_50 : appT Tryd.prog 50 50 = some (5, 1, 1) := by kernel_rfl
theorem li23 : litT Tryd.prog 23 = some (9, 1) := by kernel_rfl
theorem mk23 : makeT Tryd.prog 23 = some (9, 16, [(.string ⟨#[]⟩)]) := by kernel_rfl
theorem mk28 : makeT Tryd.prog 28 = some (47, 24, [(.string ⟨#[]⟩), (.int .i64 0)]) := by kernel_rfl
theorem ca4 {A : View} {K : Value → View → Prop} (first cap vs : Array Value) : acall Tryd.prog (.func (.func 4) first cap) vs A K = ACalls Tryd.prog 4 (first ++ vs ++ cap) A K := acall_at (by kernel_rfl) first cap vs
theorem ca5 {A : View} {K : Value → View → Prop} (first cap vs : Array Value) : acall Tryd.prog (.func (.func 5) first cap) vs A K = ACalls Tryd.prog 5 (first ++ vs ++ cap) A K := acall_at (by kernel_rfl) first cap vs
theorem ca6 {A : View} {K : Value → View → Prop} (first cap vs : Array Value) : acall Tryd.prog (.func (.func 6) first cap) vs A K = ACalls Tryd.prog 6 (first ++ vs ++ cap) A K := acall_at (by kernel_rfl) first cap vs
theorem ca7 {A : View} {K : Value → View → Prop} (first cap vs : Array Value) : acall Tryd.prog (.func (.func 7) first cap) vs A K = ACalls Tryd.prog 7 (first ++ vs ++ cap) A K := acall_at (by kernel_rfl) first cap vs
theorem ca8 {A : View} {K : Value → View → Prop} (first cap vs : Array Value) : acall Tryd.prog (.func (.func 8) first cap) vs A K = ACalls Tryd.prog 8 (first ++ vs ++ cap) A K := acall_at (by kernel_rfl) first cap vs
theorem ca9 {A : View} {K : Value → View → Prop} (first cap vs : Array Value) : acall Tryd.prog (.func (.func 9) first cap) vs A K = ACalls Tryd.prog 9 (first ++ vs ++ cap) A K := acall_at (by kernel_rfl) first cap vs
theorem ca10 {A : View} {K : Value → View → Prop} (first cap vs : Array Value) : acall Tryd.prog (.func (.func 10) first cap) vs A K = ACalls Tryd.prog 10 (first ++ vs ++ cap) A K := acall_at (by kernel_rfl) first cap vs
theorem ca11 {A : View} {K : Value → View → Prop} (first cap vs : Array Value) : acall Tryd.prog (.func (.func 11) first cap) vs A K = ACalls Tryd.prog 11 (first ++ vs ++ cap) A K := acall_at (by kernel_rfl) first cap vs
theorem ca12 {A : View} {K : Value → View → Prop} (first cap vs : Array Value) : acall Tryd.prog (.func (.func 12) first cap) vs A K = ACalls Tryd.prog 12 (first ++ vs ++ cap) A K := acall_at (by kernel_rfl) first cap vs
theorem ca13 {A : View} {K : Value → View → Prop} (first cap vs : Array Value) : acall Tryd.prog (.func (.func 13) first cap) vs A K = ACalls Tryd.prog 13 (first ++ vs ++ cap) A K := acall_at (by kernel_rfl) first cap vs
theorem ca14 {A : View} {K : Value → View → Prop} (first cap vs : Array Value) : acall Tryd.prog (.func (.func 14) first cap) vs A K = ACalls Tryd.prog 14 (first ++ vs ++ cap) A K := acall_at (by kernel_rfl) first cap vs
theorem ca15 {A : View} {K : Value → View → Prop} (first cap vs : Array Value) : acall Tryd.prog (.func (.func 15) first cap) vs A K = ACalls Tryd.prog 15 (first ++ vs ++ cap) A K := acall_at (by kernel_rfl) first cap vs
theorem ca16 {A : View} {K : Value → View → Prop} (first cap vs : Array Value) : acall Tryd.prog (.func (.func 16) first cap) vs A K = ACalls Tryd.prog 16 (first ++ vs ++ cap) A K := acall_at (by kernel_rfl) first cap vs
theorem ca17 {A : View} {K : Value → View → Prop} (first cap vs : Array Value) : acall Tryd.prog (.func (.func 17) first cap) vs A K = ACalls Tryd.prog 17 (first ++ vs ++ cap) A K := acall_at (by kernel_rfl) first cap vs
theorem ca18 {A : View} {K : Value → View → Prop} (first cap vs : Array Value) : acall Tryd.prog (.func (.func 18) first cap) vs A K = ACalls Tryd.prog 18 (first ++ vs ++ cap) A K := acall_at (by kernel_rfl) first cap vs
theorem ca19 {A : View} {K : Value → View → Prop} (first cap vs : Array Value) : acall Tryd.prog (.func (.func 19) first cap) vs A K = ACalls Tryd.prog 19 (first ++ vs ++ cap) A K := acall_at (by kernel_rfl) first cap vs
theorem ca20 {A : View} {K : Value → View → Prop} (first cap vs : Array Value) : acall Tryd.prog (.func (.func 20) first cap) vs A K = ACalls Tryd.prog 20 (first ++ vs ++ cap) A K := acall_at (by kernel_rfl) first cap vs
theorem ca21 {A : View} {K : Value → View → Prop} (first cap vs : Array Value) : acall Tryd.prog (.func (.func 21) first cap) vs A K = ACalls Tryd.prog 21 (first ++ vs ++ cap) A K := acall_at (by kernel_rfl) first cap vs
theorem ca22 {A : View} {K : Value → View → Prop} (first cap vs : Array Value) : acall Tryd.prog (.func (.func 22) first cap) vs A K = ACalls Tryd.prog 22 (first ++ vs ++ cap) A K := acall_at (by kernel_rfl) first cap vs
theorem ca23 {A : View} {K : Value → View → Prop} (first cap vs : Array Value) : acall Tryd.prog (.func (.func 23) first cap) vs A K = ACalls Tryd.prog 23 (first ++ vs ++ cap) A K := acall_at (by kernel_rfl) first cap vs
theorem ca24 {A : View} {K : Value → View → Prop} (first cap vs : Array Value) : acall Tryd.prog (.func (.func 24) first cap) vs A K = ACalls Tryd.prog 24 (first ++ vs ++ cap) A K := acall_at (by kernel_rfl) first cap vs
theorem ca25 {A : View} {K : Value → View → Prop} (first cap vs : Array Value) : acall Tryd.prog (.func (.func 25) first cap) vs A K = ACalls Tryd.prog 25 (first ++ vs ++ cap) A K := acall_at (by kernel_rfl) first cap vs
theorem ca26 {A : View} {K : Value → View → Prop} (first cap vs : Array Value) : acall Tryd.prog (.func (.func 26) first cap) vs A K = ACalls Tryd.prog 26 (first ++ vs ++ cap) A K := acall_at (by kernel_rfl) first cap vs
theorem ca27 {A : View} {K : Value → View → Prop} (first cap vs : Array Value) : acall Tryd.prog (.func (.func 27) first cap) vs A K = ACalls Tryd.prog 27 (first ++ vs ++ cap) A K := acall_at (by kernel_rfl) first cap vs
theorem ca28 {A : View} {K : Value → View → Prop} (first cap vs : Array Value) : acall Tryd.prog (.func (.func 28) first cap) vs A K = ACalls Tryd.prog 28 (first ++ vs ++ cap) A K := acall_at (by kernel_rfl) first cap vs
theorem ca29 {A : View} {K : Value → View → Prop} (first cap vs : Array Value) : acall Tryd.prog (.func (.func 29) first cap) vs A K = ACalls Tryd.prog 29 (first ++ vs ++ cap) A K := acall_at (by kernel_rfl) first cap vs
theorem ca30 {A : View} {K : Value → View → Prop} (first cap vs : Array Value) : acall Tryd.prog (.func (.func 30) first cap) vs A K = ACalls Tryd.prog 30 (first ++ vs ++ cap) A K := acall_at (by kernel_rfl) first cap vs
theorem ca31 {A : View} {K : Value → View → Prop} (first cap vs : Array Value) : acall Tryd.prog (.func (.func 31) first cap) vs A K = ACalls Tryd.prog 31 (first ++ vs ++ cap) A K := acall_at (by kernel_rfl) first cap vs
theorem ca32 {A : View} {K : Value → View → Prop} (first cap vs : Array Value) : acall Tryd.prog (.func (.func 32) first cap) vs A K = ACalls Tryd.prog 32 (first ++ vs ++ cap) A K := acall_at (by kernel_rfl) first cap vs
theorem ca33 {A : View} {K : Value → View → Prop} (first cap vs : Array Value) : acall Tryd.prog (.func (.func 33) first cap) vs A K = ACalls Tryd.prog 33 (first ++ vs ++ cap) A K := acall_at (by kernel_rfl) first cap vs
theorem ca34 {A : View} {K : Value → View → Prop} (first cap vs : Array Value) : acall Tryd.prog (.func (.func 34) first cap) vs A K = ACalls Tryd.prog 34 (first ++ vs ++ cap) A K := acall_at (by kernel_rfl) first cap vs
theorem ca35 {A : View} {K : Value → View → Prop} (first cap vs : Array Value) : acall Tryd.prog (.func (.func 35) first cap) vs A K = ACalls Tryd.prog 35 (first ++ vs ++ cap) A K := acall_at (by kernel_rfl) first cap vs
theorem ca36 {A : View} {K : Value → View → Prop} (first cap vs : Array Value) : acall Tryd.prog (.func (.func 36) first cap) vs A K = ACalls Tryd.prog 36 (first ++ vs ++ cap) A K := acall_at (by kernel_rfl) first cap vs
theorem ca39 {A : View} {K : Value → View → Prop} (first cap vs : Array Value) : acall Tryd.prog (.func (.func 39) first cap) vs A K = ACalls Tryd.prog 39 (first ++ vs ++ cap) A K := acall_at (by kernel_rfl) first cap vs
theorem ca40 {A : View} {K : Value → View → Prop} (first cap vs : Array Value) : acall Tryd.prog (.func (.func 40) first cap) vs A K = ACalls Tryd.prog 40 (first ++ vs ++ cap) A K := acall_at (by kernel_rfl) first cap vs
theorem ca41 {A : View} {K : Value → View → Prop} (first cap vs : Array Value) : acall Tryd.prog (.func (.func 41) first cap) vs A K = ACalls Tryd.prog 41 (first ++ vs ++ cap) A K := acall_at (by kernel_rfl) first cap vs
theorem ca42 {A : View} {K : Value → View → Prop} (first cap vs : Array Value) : acall Tryd.prog (.func (.func 42) first cap) vs A K = ACalls Tryd.prog 42 (first ++ vs ++ cap) A K := acall_at (by kernel_rfl) first cap vs
theorem ca43 {A : View} {K : Value → View → Prop} (first cap vs : Array Value) : acall Tryd.prog (.func (.func 43) first cap) vs A K = ACalls Tryd.prog 43 (first ++ vs ++ cap) A K := acall_at (by kernel_rfl) first cap vs
theorem ca44 {A : View} {K : Value → View → Prop} (first cap vs : Array Value) : acall Tryd.prog (.func (.func 44) first cap) vs A K = ACalls Tryd.prog 44 (first ++ vs ++ cap) A K := acall_at (by kernel_rfl) first cap vs
theorem ca45 {A : View} {K : Value → View → Prop} (first cap vs : Array Value) : acall Tryd.prog (.func (.func 45) first cap) vs A K = ACalls Tryd.prog 45 (first ++ vs ++ cap) A K := acall_at (by kernel_rfl) first cap vs
theorem rs3 : Tryd.f3.results.toList = [.tmp 2] := by kernel_rfl
theorem rs4 : Tryd.f4.results.toList = [.tmp 4] := by kernel_rfl
theorem rs5 : Tryd.f5.results.toList = [.tmp 2] := by kernel_rfl
theorem rs6 : Tryd.f6.results.toList = [.cell 2 30] := by kernel_rfl
theorem rs7 : Tryd.f7.results.toList = [.tmp 2] := by kernel_rfl
theorem rs8 : Tryd.f8.results.toList = [.tmp 4] := by kernel_rfl
theorem rs9 : Tryd.f9.results.toList = [.tmp 4] := by kernel_rfl
theorem rs10 : Tryd.f10.results.toList = [.tmp 4] := by kernel_rfl
theorem rs11 : Tryd.f11.results.toList = [.tmp 4] := by kernel_rfl
theorem rs12 : Tryd.f12.results.toList = [.tmp 2] := by kernel_rfl
theorem rs13 : Tryd.f13.results.toList = [.tmp 0] := by kernel_rfl
theorem rs14 : Tryd.f14.results.toList = [.tmp 4] := by kernel_rfl
theorem rs15 : Tryd.f15.results.toList = [.tmp 2] := by kernel_rfl
theorem rs16 : Tryd.f16.results.toList = [.tmp 2] := by kernel_rfl
theorem rs17 : Tryd.f17.results.toList = [.tmp 0] := by kernel_rfl
theorem rs18 : Tryd.f18.results.toList = [.tmp 4] := by kernel_rfl
theorem rs19 : Tryd.f19.results.toList = [.tmp 2] := by kernel_rfl
theorem rs20 : Tryd.f20.results.toList = [.tmp 4] := by kernel_rfl
theorem rs21 : Tryd.f21.results.toList = [.tmp 4] := by kernel_rfl
theorem rs22 : Tryd.f22.results.toList = [.tmp 4] := by kernel_rfl
theorem rs23 : Tryd.f23.results.toList = [.tmp 4] := by kernel_rfl
theorem rs24 : Tryd.f24.results.toList = [.cell 2 47] := by kernel_rfl
theorem rs25 : Tryd.f25.results.toList = [.tmp 2] := by kernel_rfl
theorem rs26 : Tryd.f26.results.toList = [] := by kernel_rfl
theorem rs27 : Tryd.f27.results.toList = [.tmp 4, .tmp 5] := by kernel_rfl
theorem rs28 : Tryd.f28.results.toList = [.tmp 2] := by kernel_rfl
theorem rs29 : Tryd.f29.results.toList = [.tmp 4] := by kernel_rfl
theorem rs30 : Tryd.f30.results.toList = [.tmp 4] := by kernel_rfl
theorem rs31 : Tryd.f31.results.toList = [] := by kernel_rfl
theorem rs32 : Tryd.f32.results.toList = [] := by kernel_rfl
theorem rs33 : Tryd.f33.results.toList = [.tmp 2] := by kernel_rfl
theorem rs34 : Tryd.f34.results.toList = [.tmp 2] := by kernel_rfl
theorem rs35 : Tryd.f35.results.toList = [] := by kernel_rfl
theorem rs36 : Tryd.f36.results.toList = [.tmp 10, .tmp 11] := by kernel_rfl
theorem rs39 : Tryd.f39.results.toList = [.tmp 2] := by kernel_rfl
theorem rs40 : Tryd.f40.results.toList = [.tmp 2] := by kernel_rfl
theorem rs41 : Tryd.f41.results.toList = [.tmp 2] := by kernel_rfl
theorem rs42 : Tryd.f42.results.toList = [.tmp 2] := by kernel_rfl
theorem rs43 : Tryd.f43.results.toList = [.tmp 2] := by kernel_rfl
theorem rs44 : Tryd.f44.results.toList = [.tmp 2] := by kernel_rfl
theorem rs45 : Tryd.f45.results.toList = [.tmp 2] := by kernel_rfl
theorem rs68 : Tryd.f68.results.toList = [] := by kernel_rfl

/-- All of them, for simp. -/
theorem inf : type_of% (And.intro @ld3 ( And.intro @ld5 ( And.intro @ld9 ( And.intro @ld22 ( And.intro @ld23 ( And.intro @ld25 ( And.intro @ld28 ( And.intro @ld30 ( And.intro @ld46 ( And.intro @ld47 ( And.intro @ld49 ( And.intro @ld50 ( And.intro @ld63 ( And.intro @sz3 ( And.intro @sz5 ( And.intro @sz9 ( And.intro @sz23 ( And.intro @sz28 ( And.intro @sz30 ( And.intro @sz47 ( And.intro @sz49 ( And.intro @sz50 ( And.intro @sz73 ( And.intro @sz80 ( And.intro @sz81 ( And.intro @fa25_0 ( And.intro @fa25_1 ( And.intro @fa30_0 ( And.intro @fa30_1 ( And.intro @fa46_0 ( And.intro @fa46_1 ( And.intro @fa47_0 ( And.intro @fa47_1 ( And.intro @fa52_0 ( And.intro @fa52_1 ( And.intro @ia22 ( And.intro @ia23 ( And.intro @ia28 ( And.intro @ia50 ( And.intro @sl9lo ( And.intro @sl9hi ( And.intro @sl9 ( And.intro @sl23lo ( And.intro @sl23hi ( And.intro @sl23 ( And.intro @sl23hm ( And.intro @sl23lhm ( And.intro @sl50lo ( And.intro @sl50hi ( And.intro @sl50 ( And.intro @sl50hm ( And.intro @sl50lhm ( And.intro @ix9 ( And.intro @ln9 ( And.intro @ln22 ( And.intro @ln23 ( And.intro @ln28 ( And.intro @ln50 ( And.intro @ca4 ( And.intro @ca5 ( And.intro @ca6 ( And.intro @ca7 ( And.intro @ca8 ( And.intro @ca9 ( And.intro @ca10 ( And.intro @ca11 ( And.intro @ca12 ( And.intro @ca13 ( And.intro @ca14 ( And.intro @ca15 ( And.intro @ca16 ( And.intro @ca17 ( And.intro @ca18 ( And.intro @ca19 ( And.intro @ca20 ( And.intro @ca21 ( And.intro @ca22 ( And.intro @ca23 ( And.intro @ca24 ( And.intro @ca25 ( And.intro @ca26 ( And.intro @ca27 ( And.intro @ca28 ( And.intro @ca29 ( And.intro @ca30 ( And.intro @ca31 ( And.intro @ca32 ( And.intro @ca33 ( And.intro @ca34 ( And.intro @ca35 ( And.intro @ca36 ( And.intro @ca39 ( And.intro @ca40 ( And.intro @ca41 ( And.intro @ca42 ( And.intro @ca43 ( And.intro @ca44 ( And.intro @ca45 ( And.intro @rs3 ( And.intro @rs4 ( And.intro @rs5 ( And.intro @rs6 ( And.intro @rs7 ( And.intro @rs8 ( And.intro @rs9 ( And.intro @rs10 ( And.intro @rs11 ( And.intro @rs12 ( And.intro @rs13 ( And.intro @rs14 ( And.intro @rs15 ( And.intro @rs16 ( And.intro @rs17 ( And.intro @rs18 ( And.intro @rs19 ( And.intro @rs20 ( And.intro @rs21 ( And.intro @rs22 ( And.intro @rs23 ( And.intro @rs24 ( And.intro @rs25 ( And.intro @rs26 ( And.intro @rs27 ( And.intro @rs28 ( And.intro @rs29 ( And.intro @rs30 ( And.intro @rs31 ( And.intro @rs32 ( And.intro @rs33 ( And.intro @rs34 ( And.intro @rs35 ( And.intro @rs36 ( And.intro @rs39 ( And.intro @rs40 ( And.intro @rs41 ( And.intro @rs42 ( And.intro @rs43 ( And.intro @rs44 ( And.intro @rs45 (@rs68)))))))))))))))))))))))))))))))))))))))))))))))))))))))))))))))))))))))))))))))))))))))))))))))))))))))))))))))))))))))))))))))))))))))))))) := And.intro @ld3 ( And.intro @ld5 ( And.intro @ld9 ( And.intro @ld22 ( And.intro @ld23 ( And.intro @ld25 ( And.intro @ld28 ( And.intro @ld30 ( And.intro @ld46 ( And.intro @ld47 ( And.intro @ld49 ( And.intro @ld50 ( And.intro @ld63 ( And.intro @sz3 ( And.intro @sz5 ( And.intro @sz9 ( And.intro @sz23 ( And.intro @sz28 ( And.intro @sz30 ( And.intro @sz47 ( And.intro @sz49 ( And.intro @sz50 ( And.intro @sz73 ( And.intro @sz80 ( And.intro @sz81 ( And.intro @fa25_0 ( And.intro @fa25_1 ( And.intro @fa30_0 ( And.intro @fa30_1 ( And.intro @fa46_0 ( And.intro @fa46_1 ( And.intro @fa47_0 ( And.intro @fa47_1 ( And.intro @fa52_0 ( And.intro @fa52_1 ( And.intro @ia22 ( And.intro @ia23 ( And.intro @ia28 ( And.intro @ia50 ( And.intro @sl9lo ( And.intro @sl9hi ( And.intro @sl9 ( And.intro @sl23lo ( And.intro @sl23hi ( And.intro @sl23 ( And.intro @sl23hm ( And.intro @sl23lhm ( And.intro @sl50lo ( And.intro @sl50hi ( And.intro @sl50 ( And.intro @sl50hm ( And.intro @sl50lhm ( And.intro @ix9 ( And.intro @ln9 ( And.intro @ln22 ( And.intro @ln23 ( And.intro @ln28 ( And.intro @ln50 ( And.intro @ca4 ( And.intro @ca5 ( And.intro @ca6 ( And.intro @ca7 ( And.intro @ca8 ( And.intro @ca9 ( And.intro @ca10 ( And.intro @ca11 ( And.intro @ca12 ( And.intro @ca13 ( And.intro @ca14 ( And.intro @ca15 ( And.intro @ca16 ( And.intro @ca17 ( And.intro @ca18 ( And.intro @ca19 ( And.intro @ca20 ( And.intro @ca21 ( And.intro @ca22 ( And.intro @ca23 ( And.intro @ca24 ( And.intro @ca25 ( And.intro @ca26 ( And.intro @ca27 ( And.intro @ca28 ( And.intro @ca29 ( And.intro @ca30 ( And.intro @ca31 ( And.intro @ca32 ( And.intro @ca33 ( And.intro @ca34 ( And.intro @ca35 ( And.intro @ca36 ( And.intro @ca39 ( And.intro @ca40 ( And.intro @ca41 ( And.intro @ca42 ( And.intro @ca43 ( And.intro @ca44 ( And.intro @ca45 ( And.intro @rs3 ( And.intro @rs4 ( And.intro @rs5 ( And.intro @rs6 ( And.intro @rs7 ( And.intro @rs8 ( And.intro @rs9 ( And.intro @rs10 ( And.intro @rs11 ( And.intro @rs12 ( And.intro @rs13 ( And.intro @rs14 ( And.intro @rs15 ( And.intro @rs16 ( And.intro @rs17 ( And.intro @rs18 ( And.intro @rs19 ( And.intro @rs20 ( And.intro @rs21 ( And.intro @rs22 ( And.intro @rs23 ( And.intro @rs24 ( And.intro @rs25 ( And.intro @rs26 ( And.intro @rs27 ( And.intro @rs28 ( And.intro @rs29 ( And.intro @rs30 ( And.intro @rs31 ( And.intro @rs32 ( And.intro @rs33 ( And.intro @rs34 ( And.intro @rs35 ( And.intro @rs36 ( And.intro @rs39 ( And.intro @rs40 ( And.intro @rs41 ( And.intro @rs42 ( And.intro @rs43 ( And.intro @rs44 ( And.intro @rs45 (@rs68)))))))))))))))))))))))))))))))))))))))))))))))))))))))))))))))))))))))))))))))))))))))))))))))))))))))))))))))))))))))))))))))))))))))))))

end Go.Proofs.YtggklaimbklefaaDoor
