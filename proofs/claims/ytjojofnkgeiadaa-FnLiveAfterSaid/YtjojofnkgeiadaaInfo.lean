/- Closed facts of this seat: layouts of types, and which functions have bodies. -/
import Derived.Test.YtjojofnkgeiadaaProg
import Derived.Test.YtjojofnkgeiadaaFw6
import Derived.KernelRfl
set_option maxRecDepth 100000
namespace Go.Proofs.Ytjojofnkgeiadaa

theorem ld3 {A : View} (a : Addr) : A.loadv Try.prog 3 a = A.cell a := loadv_cell (n := 1) (by kernel_rfl) a
theorem ld4 {A : View} (a : Addr) : A.loadv Try.prog 4 a = A.cell a := loadv_cell (n := 1) (by kernel_rfl) a
theorem ld5 {A : View} (a : Addr) : A.loadv Try.prog 5 a = A.cell a := loadv_cell (n := 1) (by kernel_rfl) a
theorem ld9 {A : View} (a : Addr) : A.loadv Try.prog 9 a = A.cell a := loadv_cell (n := 1) (by kernel_rfl) a
theorem ld22 {A : View} (a : Addr) : A.loadv Try.prog 22 a = A.cell a := loadv_cell (n := 1) (by kernel_rfl) a
theorem ld23 {A : View} (a : Addr) : A.loadv Try.prog 23 a = A.cell a := loadv_cell (n := 1) (by kernel_rfl) a
theorem ld24 {A : View} (a : Addr) : A.loadv Try.prog 24 a = A.cell a := loadv_cell (n := 1) (by kernel_rfl) a
theorem ld26 {A : View} (a : Addr) : A.loadv Try.prog 26 a = (A.part a 2).map fun cs => .agg cs.toArray := loadv_agg (by kernel_rfl) a
theorem ld31 {A : View} (a : Addr) : A.loadv Try.prog 31 a = A.cell a := loadv_cell (n := 1) (by kernel_rfl) a
theorem ld33 {A : View} (a : Addr) : A.loadv Try.prog 33 a = (A.part a 4).map fun cs => .agg cs.toArray := loadv_agg (by kernel_rfl) a
theorem ld35 {A : View} (a : Addr) : A.loadv Try.prog 35 a = (A.part a 3).map fun cs => .agg cs.toArray := loadv_agg (by kernel_rfl) a
theorem ld38 {A : View} (a : Addr) : A.loadv Try.prog 38 a = (A.part a 4).map fun cs => .agg cs.toArray := loadv_agg (by kernel_rfl) a
theorem ld55 {A : View} (a : Addr) : A.loadv Try.prog 55 a = (A.part a 2).map fun cs => .agg cs.toArray := loadv_agg (by kernel_rfl) a
theorem ld63 {A : View} (a : Addr) : A.loadv Try.prog 63 a = A.cell a := loadv_cell (n := 1) (by kernel_rfl) a
theorem ld64 {A : View} (a : Addr) : A.loadv Try.prog 64 a = A.cell a := loadv_cell (n := 1) (by kernel_rfl) a
theorem ld66 {A : View} (a : Addr) : A.loadv Try.prog 66 a = (A.part a 2).map fun cs => .agg cs.toArray := loadv_agg (by kernel_rfl) a
theorem ld90 {A : View} (a : Addr) : A.loadv Try.prog 90 a = A.cell a := loadv_cell (n := 1) (by kernel_rfl) a
theorem ld134 {A : View} (a : Addr) : A.loadv Try.prog 134 a = (A.part a 4).map fun cs => .agg cs.toArray := loadv_agg (by kernel_rfl) a
theorem ld136 {A : View} (a : Addr) : A.loadv Try.prog 136 a = (A.part a 4).map fun cs => .agg cs.toArray := loadv_agg (by kernel_rfl) a
theorem sz3 : (Try.prog.info? 3).map (·.size) = some 1 := by kernel_rfl
theorem sz4 : (Try.prog.info? 4).map (·.size) = some 1 := by kernel_rfl
theorem sz9 : (Try.prog.info? 9).map (·.size) = some 1 := by kernel_rfl
theorem sz22 : (Try.prog.info? 22).map (·.size) = some 1 := by kernel_rfl
theorem sz23 : (Try.prog.info? 23).map (·.size) = some 1 := by kernel_rfl
theorem sz24 : (Try.prog.info? 24).map (·.size) = some 1 := by kernel_rfl
theorem sz26 : (Try.prog.info? 26).map (·.size) = some 2 := by kernel_rfl
theorem sz31 : (Try.prog.info? 31).map (·.size) = some 1 := by kernel_rfl
theorem sz33 : (Try.prog.info? 33).map (·.size) = some 4 := by kernel_rfl
theorem sz38 : (Try.prog.info? 38).map (·.size) = some 4 := by kernel_rfl
theorem sz55 : (Try.prog.info? 55).map (·.size) = some 2 := by kernel_rfl
theorem sz90 : (Try.prog.info? 90).map (·.size) = some 1 := by kernel_rfl
theorem fa26_0 {A : View} {K : Value → View → Prop} (a : Addr) : afaddr Try.prog 26 (.pointer (some a)) 0 A K = K (.pointer (some (a.add 0))) A := afaddr_at (by kernel_rfl) a
theorem fa26_1 {A : View} {K : Value → View → Prop} (a : Addr) : afaddr Try.prog 26 (.pointer (some a)) 1 A K = K (.pointer (some (a.add 1))) A := afaddr_at (by kernel_rfl) a
theorem fa33_0 {A : View} {K : Value → View → Prop} (a : Addr) : afaddr Try.prog 33 (.pointer (some a)) 0 A K = K (.pointer (some (a.add 0))) A := afaddr_at (by kernel_rfl) a
theorem fa33_1 {A : View} {K : Value → View → Prop} (a : Addr) : afaddr Try.prog 33 (.pointer (some a)) 1 A K = K (.pointer (some (a.add 1))) A := afaddr_at (by kernel_rfl) a
theorem fa33_2 {A : View} {K : Value → View → Prop} (a : Addr) : afaddr Try.prog 33 (.pointer (some a)) 2 A K = K (.pointer (some (a.add 2))) A := afaddr_at (by kernel_rfl) a
theorem fa33_3 {A : View} {K : Value → View → Prop} (a : Addr) : afaddr Try.prog 33 (.pointer (some a)) 3 A K = K (.pointer (some (a.add 3))) A := afaddr_at (by kernel_rfl) a
theorem fa35_0 {A : View} {K : Value → View → Prop} (a : Addr) : afaddr Try.prog 35 (.pointer (some a)) 0 A K = K (.pointer (some (a.add 0))) A := afaddr_at (by kernel_rfl) a
theorem fa35_1 {A : View} {K : Value → View → Prop} (a : Addr) : afaddr Try.prog 35 (.pointer (some a)) 1 A K = K (.pointer (some (a.add 1))) A := afaddr_at (by kernel_rfl) a
theorem fa38_0 {A : View} {K : Value → View → Prop} (a : Addr) : afaddr Try.prog 38 (.pointer (some a)) 0 A K = K (.pointer (some (a.add 0))) A := afaddr_at (by kernel_rfl) a
theorem fa38_1 {A : View} {K : Value → View → Prop} (a : Addr) : afaddr Try.prog 38 (.pointer (some a)) 1 A K = K (.pointer (some (a.add 1))) A := afaddr_at (by kernel_rfl) a
theorem fa38_2 {A : View} {K : Value → View → Prop} (a : Addr) : afaddr Try.prog 38 (.pointer (some a)) 2 A K = K (.pointer (some (a.add 2))) A := afaddr_at (by kernel_rfl) a
theorem fa38_3 {A : View} {K : Value → View → Prop} (a : Addr) : afaddr Try.prog 38 (.pointer (some a)) 3 A K = K (.pointer (some (a.add 3))) A := afaddr_at (by kernel_rfl) a
theorem fa55_0 {A : View} {K : Value → View → Prop} (a : Addr) : afaddr Try.prog 55 (.pointer (some a)) 0 A K = K (.pointer (some (a.add 0))) A := afaddr_at (by kernel_rfl) a
theorem fa55_1 {A : View} {K : Value → View → Prop} (a : Addr) : afaddr Try.prog 55 (.pointer (some a)) 1 A K = K (.pointer (some (a.add 1))) A := afaddr_at (by kernel_rfl) a
theorem fa66_0 {A : View} {K : Value → View → Prop} (a : Addr) : afaddr Try.prog 66 (.pointer (some a)) 0 A K = K (.pointer (some (a.add 0))) A := afaddr_at (by kernel_rfl) a
theorem fa66_1 {A : View} {K : Value → View → Prop} (a : Addr) : afaddr Try.prog 66 (.pointer (some a)) 1 A K = K (.pointer (some (a.add 1))) A := afaddr_at (by kernel_rfl) a
theorem fa92_0 {A : View} {K : Value → View → Prop} (a : Addr) : afaddr Try.prog 92 (.pointer (some a)) 0 A K = K (.pointer (some (a.add 0))) A := afaddr_at (by kernel_rfl) a
theorem fa92_1 {A : View} {K : Value → View → Prop} (a : Addr) : afaddr Try.prog 92 (.pointer (some a)) 1 A K = K (.pointer (some (a.add 1))) A := afaddr_at (by kernel_rfl) a
theorem fa114_0 {A : View} {K : Value → View → Prop} (a : Addr) : afaddr Try.prog 114 (.pointer (some a)) 0 A K = K (.pointer (some (a.add 0))) A := afaddr_at (by kernel_rfl) a
theorem fa114_1 {A : View} {K : Value → View → Prop} (a : Addr) : afaddr Try.prog 114 (.pointer (some a)) 1 A K = K (.pointer (some (a.add 1))) A := afaddr_at (by kernel_rfl) a
theorem fa134_0 {A : View} {K : Value → View → Prop} (a : Addr) : afaddr Try.prog 134 (.pointer (some a)) 0 A K = K (.pointer (some (a.add 0))) A := afaddr_at (by kernel_rfl) a
theorem fa134_1 {A : View} {K : Value → View → Prop} (a : Addr) : afaddr Try.prog 134 (.pointer (some a)) 1 A K = K (.pointer (some (a.add 1))) A := afaddr_at (by kernel_rfl) a
theorem fa134_2 {A : View} {K : Value → View → Prop} (a : Addr) : afaddr Try.prog 134 (.pointer (some a)) 2 A K = K (.pointer (some (a.add 2))) A := afaddr_at (by kernel_rfl) a
theorem fa134_3 {A : View} {K : Value → View → Prop} (a : Addr) : afaddr Try.prog 134 (.pointer (some a)) 3 A K = K (.pointer (some (a.add 3))) A := afaddr_at (by kernel_rfl) a
theorem fa136_0 {A : View} {K : Value → View → Prop} (a : Addr) : afaddr Try.prog 136 (.pointer (some a)) 0 A K = K (.pointer (some (a.add 0))) A := afaddr_at (by kernel_rfl) a
theorem fa136_1 {A : View} {K : Value → View → Prop} (a : Addr) : afaddr Try.prog 136 (.pointer (some a)) 1 A K = K (.pointer (some (a.add 1))) A := afaddr_at (by kernel_rfl) a
theorem fa136_2 {A : View} {K : Value → View → Prop} (a : Addr) : afaddr Try.prog 136 (.pointer (some a)) 2 A K = K (.pointer (some (a.add 2))) A := afaddr_at (by kernel_rfl) a
theorem fa136_3 {A : View} {K : Value → View → Prop} (a : Addr) : afaddr Try.prog 136 (.pointer (some a)) 3 A K = K (.pointer (some (a.add 3))) A := afaddr_at (by kernel_rfl) a
theorem ia22 {A : View} {K : Value → View → Prop} {a : Addr} {n c : Nat} {k : IntKind} {i : Int} (h0 : 0 ≤ i) (h1 : i < n) : aiaddr Try.prog 22 (.slice (some a) n c) (.int k i) A K = K (.pointer (some (a.add (i.toNat * 1)))) A := aiaddr_at (by kernel_rfl) h0 h1
theorem ia23 {A : View} {K : Value → View → Prop} {a : Addr} {n c : Nat} {k : IntKind} {i : Int} (h0 : 0 ≤ i) (h1 : i < n) : aiaddr Try.prog 23 (.slice (some a) n c) (.int k i) A K = K (.pointer (some (a.add (i.toNat * 4)))) A := aiaddr_at (by kernel_rfl) h0 h1
theorem ia24 {A : View} {K : Value → View → Prop} {a : Addr} {n c : Nat} {k : IntKind} {i : Int} (h0 : 0 ≤ i) (h1 : i < n) : aiaddr Try.prog 24 (.slice (some a) n c) (.int k i) A K = K (.pointer (some (a.add (i.toNat * 4)))) A := aiaddr_at (by kernel_rfl) h0 h1
theorem ia28 {A : View} {K : Value → View → Prop} {a : Addr} {n c : Nat} {k : IntKind} {i : Int} (h0 : 0 ≤ i) (h1 : i < n) : aiaddr Try.prog 28 (.slice (some a) n c) (.int k i) A K = K (.pointer (some (a.add (i.toNat * 3)))) A := aiaddr_at (by kernel_rfl) h0 h1
theorem ia31 {A : View} {K : Value → View → Prop} {a : Addr} {n c : Nat} {k : IntKind} {i : Int} (h0 : 0 ≤ i) (h1 : i < n) : aiaddr Try.prog 31 (.slice (some a) n c) (.int k i) A K = K (.pointer (some (a.add (i.toNat * 1)))) A := aiaddr_at (by kernel_rfl) h0 h1
theorem ia48 {A : View} {K : Value → View → Prop} {a : Addr} {n c : Nat} {k : IntKind} {i : Int} (h0 : 0 ≤ i) (h1 : i < n) : aiaddr Try.prog 48 (.slice (some a) n c) (.int k i) A K = K (.pointer (some (a.add (i.toNat * 2)))) A := aiaddr_at (by kernel_rfl) h0 h1
theorem ia63 {A : View} {K : Value → View → Prop} {a : Addr} {n c : Nat} {k : IntKind} {i : Int} (h0 : 0 ≤ i) (h1 : i < n) : aiaddr Try.prog 63 (.slice (some a) n c) (.int k i) A K = K (.pointer (some (a.add (i.toNat * 4)))) A := aiaddr_at (by kernel_rfl) h0 h1
theorem ia64 {A : View} {K : Value → View → Prop} {a : Addr} {n c : Nat} {k : IntKind} {i : Int} (h0 : 0 ≤ i) (h1 : i < n) : aiaddr Try.prog 64 (.slice (some a) n c) (.int k i) A K = K (.pointer (some (a.add (i.toNat * 4)))) A := aiaddr_at (by kernel_rfl) h0 h1
theorem ia88 {A : View} {K : Value → View → Prop} {a : Addr} {n c : Nat} {k : IntKind} {i : Int} (h0 : 0 ≤ i) (h1 : i < n) : aiaddr Try.prog 88 (.slice (some a) n c) (.int k i) A K = K (.pointer (some (a.add (i.toNat * 1)))) A := aiaddr_at (by kernel_rfl) h0 h1
theorem sl9lo {A : View} {K : Value → View → Prop} {s : ByteArray} {kl : IntKind} {lo : Int} (h0 : 0 ≤ lo) (h1 : lo ≤ s.size) : aslice Try.prog 9 (.string s) (some (.int kl lo)) none none A K = K (.string (s.extract lo.toNat s.size)) A := aslice_strlo (by kernel_rfl) h0 h1
theorem sl9hi {A : View} {K : Value → View → Prop} {s : ByteArray} {kh : IntKind} {hi : Int} (h0 : 0 ≤ hi) (h1 : hi ≤ s.size) : aslice Try.prog 9 (.string s) none (some (.int kh hi)) none A K = K (.string (s.extract 0 hi.toNat)) A := aslice_strhi (by kernel_rfl) h0 h1
theorem sl9 {A : View} {K : Value → View → Prop} {s : ByteArray} {kl kh : IntKind} {lo hi : Int} (h0 : 0 ≤ lo) (h1 : lo ≤ hi) (h2 : hi ≤ s.size) : aslice Try.prog 9 (.string s) (some (.int kl lo)) (some (.int kh hi)) none A K = K (.string (s.extract lo.toNat hi.toNat)) A := aslice_str (by kernel_rfl) h0 h1 h2
theorem sl22lo {A : View} {K : Value → View → Prop} {a : Option Addr} {n c : Nat} {kl : IntKind} {lo : Int} (h0 : 0 ≤ lo) (h1 : lo ≤ n) : aslice Try.prog 22 (.slice a n c) (some (.int kl lo)) none none A K = K (.slice (cutAddr a lo.toNat c 1) (n - lo.toNat) (c - lo.toNat)) A := aslice_lo (by kernel_rfl) h0 h1
theorem sl22hi {A : View} {K : Value → View → Prop} {a : Option Addr} {n c : Nat} {kh : IntKind} {hi : Int} (h0 : 0 ≤ hi) (h1 : hi ≤ c) : aslice Try.prog 22 (.slice a n c) none (some (.int kh hi)) none A K = K (.slice (cutAddr a 0 c 1) hi.toNat c) A := aslice_hi (by kernel_rfl) h0 h1
theorem sl22 {A : View} {K : Value → View → Prop} {a : Option Addr} {n c : Nat} {kl kh : IntKind} {lo hi : Int} (h0 : 0 ≤ lo) (h1 : lo ≤ hi) (h2 : hi ≤ c) : aslice Try.prog 22 (.slice a n c) (some (.int kl lo)) (some (.int kh hi)) none A K = K (.slice (cutAddr a lo.toNat c 1) (hi.toNat - lo.toNat) (c - lo.toNat)) A := aslice_both (by kernel_rfl) h0 h1 h2
theorem sl22hm {A : View} {K : Value → View → Prop} {a : Option Addr} {n c : Nat} {kh km : IntKind} {hi mx : Int} (h0 : 0 ≤ hi) (h1 : hi ≤ mx) (h2 : mx ≤ c) : aslice Try.prog 22 (.slice a n c) none (some (.int kh hi)) (some (.int km mx)) A K = K (.slice (cutAddr a 0 mx.toNat 1) hi.toNat mx.toNat) A := aslice_hm (by kernel_rfl) h0 h1 h2
theorem sl22lhm {A : View} {K : Value → View → Prop} {a : Option Addr} {n c : Nat} {kl kh km : IntKind} {lo hi mx : Int} (h0 : 0 ≤ lo) (h1 : lo ≤ hi) (h2 : hi ≤ mx) (h3 : mx ≤ c) : aslice Try.prog 22 (.slice a n c) (some (.int kl lo)) (some (.int kh hi)) (some (.int km mx)) A K = K (.slice (cutAddr a lo.toNat mx.toNat 1) (hi.toNat - lo.toNat) (mx.toNat - lo.toNat)) A := aslice_lhm (by kernel_rfl) h0 h1 h2 h3
theorem sl23lo {A : View} {K : Value → View → Prop} {a : Option Addr} {n c : Nat} {kl : IntKind} {lo : Int} (h0 : 0 ≤ lo) (h1 : lo ≤ n) : aslice Try.prog 23 (.slice a n c) (some (.int kl lo)) none none A K = K (.slice (cutAddr a lo.toNat c 4) (n - lo.toNat) (c - lo.toNat)) A := aslice_lo (by kernel_rfl) h0 h1
theorem sl23hi {A : View} {K : Value → View → Prop} {a : Option Addr} {n c : Nat} {kh : IntKind} {hi : Int} (h0 : 0 ≤ hi) (h1 : hi ≤ c) : aslice Try.prog 23 (.slice a n c) none (some (.int kh hi)) none A K = K (.slice (cutAddr a 0 c 4) hi.toNat c) A := aslice_hi (by kernel_rfl) h0 h1
theorem sl23 {A : View} {K : Value → View → Prop} {a : Option Addr} {n c : Nat} {kl kh : IntKind} {lo hi : Int} (h0 : 0 ≤ lo) (h1 : lo ≤ hi) (h2 : hi ≤ c) : aslice Try.prog 23 (.slice a n c) (some (.int kl lo)) (some (.int kh hi)) none A K = K (.slice (cutAddr a lo.toNat c 4) (hi.toNat - lo.toNat) (c - lo.toNat)) A := aslice_both (by kernel_rfl) h0 h1 h2
theorem sl23hm {A : View} {K : Value → View → Prop} {a : Option Addr} {n c : Nat} {kh km : IntKind} {hi mx : Int} (h0 : 0 ≤ hi) (h1 : hi ≤ mx) (h2 : mx ≤ c) : aslice Try.prog 23 (.slice a n c) none (some (.int kh hi)) (some (.int km mx)) A K = K (.slice (cutAddr a 0 mx.toNat 4) hi.toNat mx.toNat) A := aslice_hm (by kernel_rfl) h0 h1 h2
theorem sl23lhm {A : View} {K : Value → View → Prop} {a : Option Addr} {n c : Nat} {kl kh km : IntKind} {lo hi mx : Int} (h0 : 0 ≤ lo) (h1 : lo ≤ hi) (h2 : hi ≤ mx) (h3 : mx ≤ c) : aslice Try.prog 23 (.slice a n c) (some (.int kl lo)) (some (.int kh hi)) (some (.int km mx)) A K = K (.slice (cutAddr a lo.toNat mx.toNat 4) (hi.toNat - lo.toNat) (mx.toNat - lo.toNat)) A := aslice_lhm (by kernel_rfl) h0 h1 h2 h3
theorem sl24lo {A : View} {K : Value → View → Prop} {a : Option Addr} {n c : Nat} {kl : IntKind} {lo : Int} (h0 : 0 ≤ lo) (h1 : lo ≤ n) : aslice Try.prog 24 (.slice a n c) (some (.int kl lo)) none none A K = K (.slice (cutAddr a lo.toNat c 4) (n - lo.toNat) (c - lo.toNat)) A := aslice_lo (by kernel_rfl) h0 h1
theorem sl24hi {A : View} {K : Value → View → Prop} {a : Option Addr} {n c : Nat} {kh : IntKind} {hi : Int} (h0 : 0 ≤ hi) (h1 : hi ≤ c) : aslice Try.prog 24 (.slice a n c) none (some (.int kh hi)) none A K = K (.slice (cutAddr a 0 c 4) hi.toNat c) A := aslice_hi (by kernel_rfl) h0 h1
theorem sl24 {A : View} {K : Value → View → Prop} {a : Option Addr} {n c : Nat} {kl kh : IntKind} {lo hi : Int} (h0 : 0 ≤ lo) (h1 : lo ≤ hi) (h2 : hi ≤ c) : aslice Try.prog 24 (.slice a n c) (some (.int kl lo)) (some (.int kh hi)) none A K = K (.slice (cutAddr a lo.toNat c 4) (hi.toNat - lo.toNat) (c - lo.toNat)) A := aslice_both (by kernel_rfl) h0 h1 h2
theorem sl24hm {A : View} {K : Value → View → Prop} {a : Option Addr} {n c : Nat} {kh km : IntKind} {hi mx : Int} (h0 : 0 ≤ hi) (h1 : hi ≤ mx) (h2 : mx ≤ c) : aslice Try.prog 24 (.slice a n c) none (some (.int kh hi)) (some (.int km mx)) A K = K (.slice (cutAddr a 0 mx.toNat 4) hi.toNat mx.toNat) A := aslice_hm (by kernel_rfl) h0 h1 h2
theorem sl24lhm {A : View} {K : Value → View → Prop} {a : Option Addr} {n c : Nat} {kl kh km : IntKind} {lo hi mx : Int} (h0 : 0 ≤ lo) (h1 : lo ≤ hi) (h2 : hi ≤ mx) (h3 : mx ≤ c) : aslice Try.prog 24 (.slice a n c) (some (.int kl lo)) (some (.int kh hi)) (some (.int km mx)) A K = K (.slice (cutAddr a lo.toNat mx.toNat 4) (hi.toNat - lo.toNat) (mx.toNat - lo.toNat)) A := aslice_lhm (by kernel_rfl) h0 h1 h2 h3
theorem sl31lo {A : View} {K : Value → View → Prop} {a : Option Addr} {n c : Nat} {kl : IntKind} {lo : Int} (h0 : 0 ≤ lo) (h1 : lo ≤ n) : aslice Try.prog 31 (.slice a n c) (some (.int kl lo)) none none A K = K (.slice (cutAddr a lo.toNat c 1) (n - lo.toNat) (c - lo.toNat)) A := aslice_lo (by kernel_rfl) h0 h1
theorem sl31hi {A : View} {K : Value → View → Prop} {a : Option Addr} {n c : Nat} {kh : IntKind} {hi : Int} (h0 : 0 ≤ hi) (h1 : hi ≤ c) : aslice Try.prog 31 (.slice a n c) none (some (.int kh hi)) none A K = K (.slice (cutAddr a 0 c 1) hi.toNat c) A := aslice_hi (by kernel_rfl) h0 h1
theorem sl31 {A : View} {K : Value → View → Prop} {a : Option Addr} {n c : Nat} {kl kh : IntKind} {lo hi : Int} (h0 : 0 ≤ lo) (h1 : lo ≤ hi) (h2 : hi ≤ c) : aslice Try.prog 31 (.slice a n c) (some (.int kl lo)) (some (.int kh hi)) none A K = K (.slice (cutAddr a lo.toNat c 1) (hi.toNat - lo.toNat) (c - lo.toNat)) A := aslice_both (by kernel_rfl) h0 h1 h2
theorem sl31hm {A : View} {K : Value → View → Prop} {a : Option Addr} {n c : Nat} {kh km : IntKind} {hi mx : Int} (h0 : 0 ≤ hi) (h1 : hi ≤ mx) (h2 : mx ≤ c) : aslice Try.prog 31 (.slice a n c) none (some (.int kh hi)) (some (.int km mx)) A K = K (.slice (cutAddr a 0 mx.toNat 1) hi.toNat mx.toNat) A := aslice_hm (by kernel_rfl) h0 h1 h2
theorem sl31lhm {A : View} {K : Value → View → Prop} {a : Option Addr} {n c : Nat} {kl kh km : IntKind} {lo hi mx : Int} (h0 : 0 ≤ lo) (h1 : lo ≤ hi) (h2 : hi ≤ mx) (h3 : mx ≤ c) : aslice Try.prog 31 (.slice a n c) (some (.int kl lo)) (some (.int kh hi)) (some (.int km mx)) A K = K (.slice (cutAddr a lo.toNat mx.toNat 1) (hi.toNat - lo.toNat) (mx.toNat - lo.toNat)) A := aslice_lhm (by kernel_rfl) h0 h1 h2 h3
theorem sl48lo {A : View} {K : Value → View → Prop} {a : Option Addr} {n c : Nat} {kl : IntKind} {lo : Int} (h0 : 0 ≤ lo) (h1 : lo ≤ n) : aslice Try.prog 48 (.slice a n c) (some (.int kl lo)) none none A K = K (.slice (cutAddr a lo.toNat c 2) (n - lo.toNat) (c - lo.toNat)) A := aslice_lo (by kernel_rfl) h0 h1
theorem sl48hi {A : View} {K : Value → View → Prop} {a : Option Addr} {n c : Nat} {kh : IntKind} {hi : Int} (h0 : 0 ≤ hi) (h1 : hi ≤ c) : aslice Try.prog 48 (.slice a n c) none (some (.int kh hi)) none A K = K (.slice (cutAddr a 0 c 2) hi.toNat c) A := aslice_hi (by kernel_rfl) h0 h1
theorem sl48 {A : View} {K : Value → View → Prop} {a : Option Addr} {n c : Nat} {kl kh : IntKind} {lo hi : Int} (h0 : 0 ≤ lo) (h1 : lo ≤ hi) (h2 : hi ≤ c) : aslice Try.prog 48 (.slice a n c) (some (.int kl lo)) (some (.int kh hi)) none A K = K (.slice (cutAddr a lo.toNat c 2) (hi.toNat - lo.toNat) (c - lo.toNat)) A := aslice_both (by kernel_rfl) h0 h1 h2
theorem sl48hm {A : View} {K : Value → View → Prop} {a : Option Addr} {n c : Nat} {kh km : IntKind} {hi mx : Int} (h0 : 0 ≤ hi) (h1 : hi ≤ mx) (h2 : mx ≤ c) : aslice Try.prog 48 (.slice a n c) none (some (.int kh hi)) (some (.int km mx)) A K = K (.slice (cutAddr a 0 mx.toNat 2) hi.toNat mx.toNat) A := aslice_hm (by kernel_rfl) h0 h1 h2
theorem sl48lhm {A : View} {K : Value → View → Prop} {a : Option Addr} {n c : Nat} {kl kh km : IntKind} {lo hi mx : Int} (h0 : 0 ≤ lo) (h1 : lo ≤ hi) (h2 : hi ≤ mx) (h3 : mx ≤ c) : aslice Try.prog 48 (.slice a n c) (some (.int kl lo)) (some (.int kh hi)) (some (.int km mx)) A K = K (.slice (cutAddr a lo.toNat mx.toNat 2) (hi.toNat - lo.toNat) (mx.toNat - lo.toNat)) A := aslice_lhm (by kernel_rfl) h0 h1 h2 h3
theorem ix9 {A : View} {K : Value → View → Prop} {s : ByteArray} {k : IntKind} {i : Int} (h0 : 0 ≤ i) (h1 : i < s.size) : aindex Try.prog 9 (.string s) (.int k i) A K = K (.int .u8 (sbyte s i.toNat)) A := aindex_at (by kernel_rfl) h0 h1
theorem al26 {A : View} {K : Value → View → Prop} : aalloc Try.prog 26 A K = ∀ b, A b = none → K (.pointer (some ⟨b, 0, none⟩)) (A.set b ⟨26, [(.slice none 0 0), (.slice none 0 0)], 2, true⟩) := aalloc_at (by kernel_rfl)
theorem zc26 : zeroCells? Try.prog 26 = some [(.slice none 0 0), (.slice none 0 0)] := by kernel_rfl
theorem al31 {A : View} {K : Value → View → Prop} : aalloc Try.prog 31 A K = ∀ b, A b = none → K (.pointer (some ⟨b, 0, none⟩)) (A.set b ⟨31, [(.slice none 0 0)], 1, true⟩) := aalloc_at (by kernel_rfl)
theorem zc31 : zeroCells? Try.prog 31 = some [(.slice none 0 0)] := by kernel_rfl
theorem al33 {A : View} {K : Value → View → Prop} : aalloc Try.prog 33 A K = ∀ b, A b = none → K (.pointer (some ⟨b, 0, none⟩)) (A.set b ⟨33, [(.string ⟨#[]⟩), (.int .i64 0), (.slice none 0 0), (.bool false)], 4, true⟩) := aalloc_at (by kernel_rfl)
theorem zc33 : zeroCells? Try.prog 33 = some [(.string ⟨#[]⟩), (.int .i64 0), (.slice none 0 0), (.bool false)] := by kernel_rfl
theorem al38 {A : View} {K : Value → View → Prop} : aalloc Try.prog 38 A K = ∀ b, A b = none → K (.pointer (some ⟨b, 0, none⟩)) (A.set b ⟨38, [(.string ⟨#[]⟩), (.string ⟨#[]⟩), (.slice none 0 0), (.slice none 0 0)], 4, true⟩) := aalloc_at (by kernel_rfl)
theorem zc38 : zeroCells? Try.prog 38 = some [(.string ⟨#[]⟩), (.string ⟨#[]⟩), (.slice none 0 0), (.slice none 0 0)] := by kernel_rfl
theorem al55 {A : View} {K : Value → View → Prop} : aalloc Try.prog 55 A K = ∀ b, A b = none → K (.pointer (some ⟨b, 0, none⟩)) (A.set b ⟨55, [(.int .i64 0), (.string ⟨#[]⟩)], 2, true⟩) := aalloc_at (by kernel_rfl)
theorem zc55 : zeroCells? Try.prog 55 = some [(.int .i64 0), (.string ⟨#[]⟩)] := by kernel_rfl
theorem al92 {A : View} {K : Value → View → Prop} : aalloc Try.prog 92 A K = ∀ b, A b = none → K (.pointer (some ⟨b, 0, none⟩)) (A.set b ⟨92, [(.pointer none), (.slice none 0 0)], 2, true⟩) := aalloc_at (by kernel_rfl)
theorem zc92 : zeroCells? Try.prog 92 = some [(.pointer none), (.slice none 0 0)] := by kernel_rfl
theorem ln9 {A : View} {K : Value → View → Prop} (ty : TypeId) (cs : Array Bool) (s : ByteArray) : abuiltin Try.prog .len #[9] ty cs #[.string s] A K = K (.int .i64 s.size) A := alen_string (by kernel_rfl) ty cs s
theorem ln22 {A : View} {K : Value → View → Prop} (ty : TypeId) (cs : Array Bool) (a : Option Addr) (n c : Nat) : abuiltin Try.prog .len #[22] ty cs #[.slice a n c] A K = K (.int .i64 n) A := alen_slice (by kernel_rfl) ty cs a n c
theorem ln23 {A : View} {K : Value → View → Prop} (ty : TypeId) (cs : Array Bool) (a : Option Addr) (n c : Nat) : abuiltin Try.prog .len #[23] ty cs #[.slice a n c] A K = K (.int .i64 n) A := alen_slice (by kernel_rfl) ty cs a n c
theorem ln24 {A : View} {K : Value → View → Prop} (ty : TypeId) (cs : Array Bool) (a : Option Addr) (n c : Nat) : abuiltin Try.prog .len #[24] ty cs #[.slice a n c] A K = K (.int .i64 n) A := alen_slice (by kernel_rfl) ty cs a n c
theorem ln28 {A : View} {K : Value → View → Prop} (ty : TypeId) (cs : Array Bool) (a : Option Addr) (n c : Nat) : abuiltin Try.prog .len #[28] ty cs #[.slice a n c] A K = K (.int .i64 n) A := alen_slice (by kernel_rfl) ty cs a n c
theorem ln31 {A : View} {K : Value → View → Prop} (ty : TypeId) (cs : Array Bool) (a : Option Addr) (n c : Nat) : abuiltin Try.prog .len #[31] ty cs #[.slice a n c] A K = K (.int .i64 n) A := alen_slice (by kernel_rfl) ty cs a n c
theorem ln48 {A : View} {K : Value → View → Prop} (ty : TypeId) (cs : Array Bool) (a : Option Addr) (n c : Nat) : abuiltin Try.prog .len #[48] ty cs #[.slice a n c] A K = K (.int .i64 n) A := alen_slice (by kernel_rfl) ty cs a n c
theorem ln63 {A : View} {K : Value → View → Prop} (ty : TypeId) (cs : Array Bool) (a : Option Addr) (n c : Nat) : abuiltin Try.prog .len #[63] ty cs #[.slice a n c] A K = K (.int .i64 n) A := alen_slice (by kernel_rfl) ty cs a n c
theorem ln64 {A : View} {K : Value → View → Prop} (ty : TypeId) (cs : Array Bool) (a : Option Addr) (n c : Nat) : abuiltin Try.prog .len #[64] ty cs #[.slice a n c] A K = K (.int .i64 n) A := alen_slice (by kernel_rfl) ty cs a n c
theorem ln88 {A : View} {K : Value → View → Prop} (ty : TypeId) (cs : Array Bool) (a : Option Addr) (n c : Nat) : abuiltin Try.prog .len #[88] ty cs #[.slice a n c] A K = K (.int .i64 n) A := alen_slice (by kernel_rfl) ty cs a n c
theorem eq4 {A : View} {K : Value → View → Prop} (x y : Operand) (a b : Bool) : abin Try.prog .eql 4 x y (.bool a) (.bool b) A K = K (.bool (a == b)) A := abin_eqb (by kernel_rfl) x y a b
theorem ne4 {A : View} {K : Value → View → Prop} (x y : Operand) (a b : Bool) : abin Try.prog .neq 4 x y (.bool a) (.bool b) A K = K (.bool (!(a == b))) A := abin_neb (by kernel_rfl) x y a b
theorem eqn31 {A : View} {K : Value → View → Prop} (x y : Operand) (n c : Nat) : abin Try.prog .eql 31 x y (.slice none n c) (.slice none 0 0) A K = K (.bool (true)) A := (abin_slice_nil (by kernel_rfl) x y none none n c 0 0 (.inl rfl)).1
theorem eqs31 {A : View} {K : Value → View → Prop} (x y : Operand) (a : Addr) (n c : Nat) : abin Try.prog .eql 31 x y (.slice (some a) n c) (.slice none 0 0) A K = K (.bool (false)) A := (abin_slice_nil (by kernel_rfl) x y (some a) none n c 0 0 (.inr rfl)).1
theorem nen31 {A : View} {K : Value → View → Prop} (x y : Operand) (n c : Nat) : abin Try.prog .neq 31 x y (.slice none n c) (.slice none 0 0) A K = K (.bool (!true)) A := (abin_slice_nil (by kernel_rfl) x y none none n c 0 0 (.inl rfl)).2
theorem nes31 {A : View} {K : Value → View → Prop} (x y : Operand) (a : Addr) (n c : Nat) : abin Try.prog .neq 31 x y (.slice (some a) n c) (.slice none 0 0) A K = K (.bool (!false)) A := (abin_slice_nil (by kernel_rfl) x y (some a) none n c 0 0 (.inr rfl)).2
theorem bt26 (ps : List (Nat × Value)) : Try.prog.built 26 ps = Instr.fill ((#[(0, 1), (1, 1)] : Array (Nat × Nat))[·]?) #[(.slice none 0 0), (.slice none 0 0)] ps := by kernel_rfl
theorem bt33 (ps : List (Nat × Value)) : Try.prog.built 33 ps = Instr.fill ((#[(0, 1), (1, 1), (2, 1), (3, 1)] : Array (Nat × Nat))[·]?) #[(.string ⟨#[]⟩), (.int .i64 0), (.slice none 0 0), (.bool false)] ps := by kernel_rfl
theorem bt35 (ps : List (Nat × Value)) : Try.prog.built 35 ps = Instr.fill ((#[(0, 1), (1, 1), (2, 1)] : Array (Nat × Nat))[·]?) #[(.int .i64 0), (.string ⟨#[]⟩), (.string ⟨#[]⟩)] ps := by kernel_rfl
theorem bt38 (ps : List (Nat × Value)) : Try.prog.built 38 ps = Instr.fill ((#[(0, 1), (1, 1), (2, 1), (3, 1)] : Array (Nat × Nat))[·]?) #[(.string ⟨#[]⟩), (.string ⟨#[]⟩), (.slice none 0 0), (.slice none 0 0)] ps := by kernel_rfl
theorem bt55 (ps : List (Nat × Value)) : Try.prog.built 55 ps = Instr.fill ((#[(0, 1), (1, 1)] : Array (Nat × Nat))[·]?) #[(.int .i64 0), (.string ⟨#[]⟩)] ps := by kernel_rfl
theorem bt114 (ps : List (Nat × Value)) : Try.prog.built 114 ps = Instr.fill ((#[(0, 1), (1, 1)] : Array (Nat × Nat))[·]?) #[(.slice none 0 0), (.int .i64 0)] ps := by kernel_rfl
theorem bu33_0_1_2_3 (s0 : ByteArray) (n1 : Int) (a2 : Option Addr) (m2 c2 : Nat) (b3 : Bool) : Try.prog.built 33 [(0, .string s0), (1, .int .i64 n1), (2, .slice a2 m2 c2), (3, .bool b3)] = some #[.string s0, .int .i64 n1, .slice a2 m2 c2, .bool b3] := by rw [bt33]; rfl
theorem bu35_0_1_2 (n0 : Int) (s1 : ByteArray) (s2 : ByteArray) : Try.prog.built 35 [(0, .int .i64 n0), (1, .string s1), (2, .string s2)] = some #[.int .i64 n0, .string s1, .string s2] := by rw [bt35]; rfl
theorem bu38_0_1_2_3 (s0 : ByteArray) (s1 : ByteArray) (a2 : Option Addr) (m2 c2 : Nat) (a3 : Option Addr) (m3 c3 : Nat) : Try.prog.built 38 [(0, .string s0), (1, .string s1), (2, .slice a2 m2 c2), (3, .slice a3 m3 c3)] = some #[.string s0, .string s1, .slice a2 m2 c2, .slice a3 m3 c3] := by rw [bt38]; rfl
theorem bu55_0_1 (n0 : Int) (s1 : ByteArray) : Try.prog.built 55 [(0, .int .i64 n0), (1, .string s1)] = some #[.int .i64 n0, .string s1] := by rw [bt55]; rfl
theorem bu114_0 (a0 : Option Addr) (m0 c0 : Nat) : Try.prog.built 114 [(0, .slice a0 m0 c0)] = some #[.slice a0 m0 c0, (.int .i64 0)] := by rw [bt114]; rfl
theorem ap22_9 : appT Try.prog 22 9 = some (5, 1, 1) := by kernel_rfl
theorem ap23_23 : appT Try.prog 23 23 = some (33, 4, 56) := by kernel_rfl
theorem ap24_24 : appT Try.prog 24 24 = some (38, 4, 80) := by kernel_rfl
theorem ap28_28 : appT Try.prog 28 28 = some (35, 3, 40) := by kernel_rfl
theorem ap31_31 : appT Try.prog 31 31 = some (9, 1, 16) := by kernel_rfl
theorem ap48_48 : appT Try.prog 48 48 = some (55, 2, 24) := by kernel_rfl
theorem li23 : litT Try.prog 23 = some (33, 4) := by kernel_rfl
theorem li24 : litT Try.prog 24 = some (38, 4) := by kernel_rfl
theorem li28 : litT Try.prog 28 = some (35, 3) := by kernel_rfl
theorem li31 : litT Try.prog 31 = some (9, 1) := by kernel_rfl
theorem li48 : litT Try.prog 48 = some (55, 2) := by kernel_rfl
theorem li88 : litT Try.prog 88 = some (3, 1) := by kernel_rfl
theorem mk23 : makeT Try.prog 23 = some (33, 56, [(.string ⟨#[]⟩), (.int .i64 0), (.slice none 0 0), (.bool false)]) := by kernel_rfl
theorem mk24 : makeT Try.prog 24 = some (38, 80, [(.string ⟨#[]⟩), (.string ⟨#[]⟩), (.slice none 0 0), (.slice none 0 0)]) := by kernel_rfl
theorem mk31 : makeT Try.prog 31 = some (9, 16, [(.string ⟨#[]⟩)]) := by kernel_rfl
theorem ca11 {A : View} {K : Value → View → Prop} (first cap vs : Array Value) : acall Try.prog (.func (.func 11) first cap) vs A K = ACalls Try.prog 11 (first ++ vs ++ cap) A K := acall_at (by kernel_rfl) first cap vs
theorem ca12 {A : View} {K : Value → View → Prop} (first cap vs : Array Value) : acall Try.prog (.func (.func 12) first cap) vs A K = ACalls Try.prog 12 (first ++ vs ++ cap) A K := acall_at (by kernel_rfl) first cap vs
theorem ca13 {A : View} {K : Value → View → Prop} (first cap vs : Array Value) : acall Try.prog (.func (.func 13) first cap) vs A K = ACalls Try.prog 13 (first ++ vs ++ cap) A K := acall_at (by kernel_rfl) first cap vs
theorem ca14 {A : View} {K : Value → View → Prop} (first cap vs : Array Value) : acall Try.prog (.func (.func 14) first cap) vs A K = ACalls Try.prog 14 (first ++ vs ++ cap) A K := acall_at (by kernel_rfl) first cap vs
theorem ca15 {A : View} {K : Value → View → Prop} (first cap vs : Array Value) : acall Try.prog (.func (.func 15) first cap) vs A K = ACalls Try.prog 15 (first ++ vs ++ cap) A K := acall_at (by kernel_rfl) first cap vs
theorem ca16 {A : View} {K : Value → View → Prop} (first cap vs : Array Value) : acall Try.prog (.func (.func 16) first cap) vs A K = ACalls Try.prog 16 (first ++ vs ++ cap) A K := acall_at (by kernel_rfl) first cap vs
theorem ca17 {A : View} {K : Value → View → Prop} (first cap vs : Array Value) : acall Try.prog (.func (.func 17) first cap) vs A K = ACalls Try.prog 17 (first ++ vs ++ cap) A K := acall_at (by kernel_rfl) first cap vs
theorem ca18 {A : View} {K : Value → View → Prop} (first cap vs : Array Value) : acall Try.prog (.func (.func 18) first cap) vs A K = ACalls Try.prog 18 (first ++ vs ++ cap) A K := acall_at (by kernel_rfl) first cap vs
theorem ca19 {A : View} {K : Value → View → Prop} (first cap vs : Array Value) : acall Try.prog (.func (.func 19) first cap) vs A K = ACalls Try.prog 19 (first ++ vs ++ cap) A K := acall_at (by kernel_rfl) first cap vs
theorem ca20 {A : View} {K : Value → View → Prop} (first cap vs : Array Value) : acall Try.prog (.func (.func 20) first cap) vs A K = ACalls Try.prog 20 (first ++ vs ++ cap) A K := acall_at (by kernel_rfl) first cap vs
theorem ca21 {A : View} {K : Value → View → Prop} (first cap vs : Array Value) : acall Try.prog (.func (.func 21) first cap) vs A K = ACalls Try.prog 21 (first ++ vs ++ cap) A K := acall_at (by kernel_rfl) first cap vs
theorem ca22 {A : View} {K : Value → View → Prop} (first cap vs : Array Value) : acall Try.prog (.func (.func 22) first cap) vs A K = ACalls Try.prog 22 (first ++ vs ++ cap) A K := acall_at (by kernel_rfl) first cap vs
theorem ca23 {A : View} {K : Value → View → Prop} (first cap vs : Array Value) : acall Try.prog (.func (.func 23) first cap) vs A K = ACalls Try.prog 23 (first ++ vs ++ cap) A K := acall_at (by kernel_rfl) first cap vs
theorem ca24 {A : View} {K : Value → View → Prop} (first cap vs : Array Value) : acall Try.prog (.func (.func 24) first cap) vs A K = ACalls Try.prog 24 (first ++ vs ++ cap) A K := acall_at (by kernel_rfl) first cap vs
theorem ca25 {A : View} {K : Value → View → Prop} (first cap vs : Array Value) : acall Try.prog (.func (.func 25) first cap) vs A K = ACalls Try.prog 25 (first ++ vs ++ cap) A K := acall_at (by kernel_rfl) first cap vs
theorem ca26 {A : View} {K : Value → View → Prop} (first cap vs : Array Value) : acall Try.prog (.func (.func 26) first cap) vs A K = ACalls Try.prog 26 (first ++ vs ++ cap) A K := acall_at (by kernel_rfl) first cap vs
theorem ca27 {A : View} {K : Value → View → Prop} (first cap vs : Array Value) : acall Try.prog (.func (.func 27) first cap) vs A K = ACalls Try.prog 27 (first ++ vs ++ cap) A K := acall_at (by kernel_rfl) first cap vs
theorem ca28 {A : View} {K : Value → View → Prop} (first cap vs : Array Value) : acall Try.prog (.func (.func 28) first cap) vs A K = ACalls Try.prog 28 (first ++ vs ++ cap) A K := acall_at (by kernel_rfl) first cap vs
theorem ca29 {A : View} {K : Value → View → Prop} (first cap vs : Array Value) : acall Try.prog (.func (.func 29) first cap) vs A K = ACalls Try.prog 29 (first ++ vs ++ cap) A K := acall_at (by kernel_rfl) first cap vs
theorem ca30 {A : View} {K : Value → View → Prop} (first cap vs : Array Value) : acall Try.prog (.func (.func 30) first cap) vs A K = ACalls Try.prog 30 (first ++ vs ++ cap) A K := acall_at (by kernel_rfl) first cap vs
theorem ca31 {A : View} {K : Value → View → Prop} (first cap vs : Array Value) : acall Try.prog (.func (.func 31) first cap) vs A K = ACalls Try.prog 31 (first ++ vs ++ cap) A K := acall_at (by kernel_rfl) first cap vs
theorem ca32 {A : View} {K : Value → View → Prop} (first cap vs : Array Value) : acall Try.prog (.func (.func 32) first cap) vs A K = ACalls Try.prog 32 (first ++ vs ++ cap) A K := acall_at (by kernel_rfl) first cap vs
theorem ca33 {A : View} {K : Value → View → Prop} (first cap vs : Array Value) : acall Try.prog (.func (.func 33) first cap) vs A K = ACalls Try.prog 33 (first ++ vs ++ cap) A K := acall_at (by kernel_rfl) first cap vs
theorem ca34 {A : View} {K : Value → View → Prop} (first cap vs : Array Value) : acall Try.prog (.func (.func 34) first cap) vs A K = ACalls Try.prog 34 (first ++ vs ++ cap) A K := acall_at (by kernel_rfl) first cap vs
theorem ca35 {A : View} {K : Value → View → Prop} (first cap vs : Array Value) : acall Try.prog (.func (.func 35) first cap) vs A K = ACalls Try.prog 35 (first ++ vs ++ cap) A K := acall_at (by kernel_rfl) first cap vs
theorem ca36 {A : View} {K : Value → View → Prop} (first cap vs : Array Value) : acall Try.prog (.func (.func 36) first cap) vs A K = ACalls Try.prog 36 (first ++ vs ++ cap) A K := acall_at (by kernel_rfl) first cap vs
theorem ca37 {A : View} {K : Value → View → Prop} (first cap vs : Array Value) : acall Try.prog (.func (.func 37) first cap) vs A K = ACalls Try.prog 37 (first ++ vs ++ cap) A K := acall_at (by kernel_rfl) first cap vs
theorem ca38 {A : View} {K : Value → View → Prop} (first cap vs : Array Value) : acall Try.prog (.func (.func 38) first cap) vs A K = ACalls Try.prog 38 (first ++ vs ++ cap) A K := acall_at (by kernel_rfl) first cap vs
theorem ca39 {A : View} {K : Value → View → Prop} (first cap vs : Array Value) : acall Try.prog (.func (.func 39) first cap) vs A K = ACalls Try.prog 39 (first ++ vs ++ cap) A K := acall_at (by kernel_rfl) first cap vs
theorem ca40 {A : View} {K : Value → View → Prop} (first cap vs : Array Value) : acall Try.prog (.func (.func 40) first cap) vs A K = ACalls Try.prog 40 (first ++ vs ++ cap) A K := acall_at (by kernel_rfl) first cap vs
theorem ca41 {A : View} {K : Value → View → Prop} (first cap vs : Array Value) : acall Try.prog (.func (.func 41) first cap) vs A K = ACalls Try.prog 41 (first ++ vs ++ cap) A K := acall_at (by kernel_rfl) first cap vs
theorem ca42 {A : View} {K : Value → View → Prop} (first cap vs : Array Value) : acall Try.prog (.func (.func 42) first cap) vs A K = ACalls Try.prog 42 (first ++ vs ++ cap) A K := acall_at (by kernel_rfl) first cap vs
theorem ca43 {A : View} {K : Value → View → Prop} (first cap vs : Array Value) : acall Try.prog (.func (.func 43) first cap) vs A K = ACalls Try.prog 43 (first ++ vs ++ cap) A K := acall_at (by kernel_rfl) first cap vs
theorem ca44 {A : View} {K : Value → View → Prop} (first cap vs : Array Value) : acall Try.prog (.func (.func 44) first cap) vs A K = ACalls Try.prog 44 (first ++ vs ++ cap) A K := acall_at (by kernel_rfl) first cap vs
theorem ca45 {A : View} {K : Value → View → Prop} (first cap vs : Array Value) : acall Try.prog (.func (.func 45) first cap) vs A K = ACalls Try.prog 45 (first ++ vs ++ cap) A K := acall_at (by kernel_rfl) first cap vs
theorem ca46 {A : View} {K : Value → View → Prop} (first cap vs : Array Value) : acall Try.prog (.func (.func 46) first cap) vs A K = ACalls Try.prog 46 (first ++ vs ++ cap) A K := acall_at (by kernel_rfl) first cap vs
theorem ca47 {A : View} {K : Value → View → Prop} (first cap vs : Array Value) : acall Try.prog (.func (.func 47) first cap) vs A K = ACalls Try.prog 47 (first ++ vs ++ cap) A K := acall_at (by kernel_rfl) first cap vs
theorem ca48 {A : View} {K : Value → View → Prop} (first cap vs : Array Value) : acall Try.prog (.func (.func 48) first cap) vs A K = ACalls Try.prog 48 (first ++ vs ++ cap) A K := acall_at (by kernel_rfl) first cap vs
theorem ca49 {A : View} {K : Value → View → Prop} (first cap vs : Array Value) : acall Try.prog (.func (.func 49) first cap) vs A K = ACalls Try.prog 49 (first ++ vs ++ cap) A K := acall_at (by kernel_rfl) first cap vs
theorem ca50 {A : View} {K : Value → View → Prop} (first cap vs : Array Value) : acall Try.prog (.func (.func 50) first cap) vs A K = ACalls Try.prog 50 (first ++ vs ++ cap) A K := acall_at (by kernel_rfl) first cap vs
theorem ca51 {A : View} {K : Value → View → Prop} (first cap vs : Array Value) : acall Try.prog (.func (.func 51) first cap) vs A K = ACalls Try.prog 51 (first ++ vs ++ cap) A K := acall_at (by kernel_rfl) first cap vs
theorem ca52 {A : View} {K : Value → View → Prop} (first cap vs : Array Value) : acall Try.prog (.func (.func 52) first cap) vs A K = ACalls Try.prog 52 (first ++ vs ++ cap) A K := acall_at (by kernel_rfl) first cap vs
theorem ca53 {A : View} {K : Value → View → Prop} (first cap vs : Array Value) : acall Try.prog (.func (.func 53) first cap) vs A K = ACalls Try.prog 53 (first ++ vs ++ cap) A K := acall_at (by kernel_rfl) first cap vs
theorem ca54 {A : View} {K : Value → View → Prop} (first cap vs : Array Value) : acall Try.prog (.func (.func 54) first cap) vs A K = ACalls Try.prog 54 (first ++ vs ++ cap) A K := acall_at (by kernel_rfl) first cap vs
theorem ca55 {A : View} {K : Value → View → Prop} (first cap vs : Array Value) : acall Try.prog (.func (.func 55) first cap) vs A K = ACalls Try.prog 55 (first ++ vs ++ cap) A K := acall_at (by kernel_rfl) first cap vs
theorem ca56 {A : View} {K : Value → View → Prop} (first cap vs : Array Value) : acall Try.prog (.func (.func 56) first cap) vs A K = ACalls Try.prog 56 (first ++ vs ++ cap) A K := acall_at (by kernel_rfl) first cap vs
theorem ca57 {A : View} {K : Value → View → Prop} (first cap vs : Array Value) : acall Try.prog (.func (.func 57) first cap) vs A K = ACalls Try.prog 57 (first ++ vs ++ cap) A K := acall_at (by kernel_rfl) first cap vs
theorem ca58 {A : View} {K : Value → View → Prop} (first cap vs : Array Value) : acall Try.prog (.func (.func 58) first cap) vs A K = ACalls Try.prog 58 (first ++ vs ++ cap) A K := acall_at (by kernel_rfl) first cap vs
theorem ca59 {A : View} {K : Value → View → Prop} (first cap vs : Array Value) : acall Try.prog (.func (.func 59) first cap) vs A K = ACalls Try.prog 59 (first ++ vs ++ cap) A K := acall_at (by kernel_rfl) first cap vs
theorem ca60 {A : View} {K : Value → View → Prop} (first cap vs : Array Value) : acall Try.prog (.func (.func 60) first cap) vs A K = ACalls Try.prog 60 (first ++ vs ++ cap) A K := acall_at (by kernel_rfl) first cap vs
theorem ca61 {A : View} {K : Value → View → Prop} (first cap vs : Array Value) : acall Try.prog (.func (.func 61) first cap) vs A K = ACalls Try.prog 61 (first ++ vs ++ cap) A K := acall_at (by kernel_rfl) first cap vs
theorem ca62 {A : View} {K : Value → View → Prop} (first cap vs : Array Value) : acall Try.prog (.func (.func 62) first cap) vs A K = ACalls Try.prog 62 (first ++ vs ++ cap) A K := acall_at (by kernel_rfl) first cap vs
theorem ca63 {A : View} {K : Value → View → Prop} (first cap vs : Array Value) : acall Try.prog (.func (.func 63) first cap) vs A K = ACalls Try.prog 63 (first ++ vs ++ cap) A K := acall_at (by kernel_rfl) first cap vs
theorem ca64 {A : View} {K : Value → View → Prop} (first cap vs : Array Value) : acall Try.prog (.func (.func 64) first cap) vs A K = ACalls Try.prog 64 (first ++ vs ++ cap) A K := acall_at (by kernel_rfl) first cap vs
theorem ca65 {A : View} {K : Value → View → Prop} (first cap vs : Array Value) : acall Try.prog (.func (.func 65) first cap) vs A K = ACalls Try.prog 65 (first ++ vs ++ cap) A K := acall_at (by kernel_rfl) first cap vs
theorem ca66 {A : View} {K : Value → View → Prop} (first cap vs : Array Value) : acall Try.prog (.func (.func 66) first cap) vs A K = ACalls Try.prog 66 (first ++ vs ++ cap) A K := acall_at (by kernel_rfl) first cap vs
theorem ca67 {A : View} {K : Value → View → Prop} (first cap vs : Array Value) : acall Try.prog (.func (.func 67) first cap) vs A K = ACalls Try.prog 67 (first ++ vs ++ cap) A K := acall_at (by kernel_rfl) first cap vs
theorem ca68 {A : View} {K : Value → View → Prop} (first cap vs : Array Value) : acall Try.prog (.func (.func 68) first cap) vs A K = ACalls Try.prog 68 (first ++ vs ++ cap) A K := acall_at (by kernel_rfl) first cap vs
theorem ca69 {A : View} {K : Value → View → Prop} (first cap vs : Array Value) : acall Try.prog (.func (.func 69) first cap) vs A K = ACalls Try.prog 69 (first ++ vs ++ cap) A K := acall_at (by kernel_rfl) first cap vs
theorem ca70 {A : View} {K : Value → View → Prop} (first cap vs : Array Value) : acall Try.prog (.func (.func 70) first cap) vs A K = ACalls Try.prog 70 (first ++ vs ++ cap) A K := acall_at (by kernel_rfl) first cap vs
theorem ca71 {A : View} {K : Value → View → Prop} (first cap vs : Array Value) : acall Try.prog (.func (.func 71) first cap) vs A K = ACalls Try.prog 71 (first ++ vs ++ cap) A K := acall_at (by kernel_rfl) first cap vs
theorem ca72 {A : View} {K : Value → View → Prop} (first cap vs : Array Value) : acall Try.prog (.func (.func 72) first cap) vs A K = ACalls Try.prog 72 (first ++ vs ++ cap) A K := acall_at (by kernel_rfl) first cap vs
theorem ca73 {A : View} {K : Value → View → Prop} (first cap vs : Array Value) : acall Try.prog (.func (.func 73) first cap) vs A K = ACalls Try.prog 73 (first ++ vs ++ cap) A K := acall_at (by kernel_rfl) first cap vs
theorem ca74 {A : View} {K : Value → View → Prop} (first cap vs : Array Value) : acall Try.prog (.func (.func 74) first cap) vs A K = ACalls Try.prog 74 (first ++ vs ++ cap) A K := acall_at (by kernel_rfl) first cap vs
theorem ca75 {A : View} {K : Value → View → Prop} (first cap vs : Array Value) : acall Try.prog (.func (.func 75) first cap) vs A K = ACalls Try.prog 75 (first ++ vs ++ cap) A K := acall_at (by kernel_rfl) first cap vs
theorem ca76 {A : View} {K : Value → View → Prop} (first cap vs : Array Value) : acall Try.prog (.func (.func 76) first cap) vs A K = ACalls Try.prog 76 (first ++ vs ++ cap) A K := acall_at (by kernel_rfl) first cap vs
theorem ca77 {A : View} {K : Value → View → Prop} (first cap vs : Array Value) : acall Try.prog (.func (.func 77) first cap) vs A K = ACalls Try.prog 77 (first ++ vs ++ cap) A K := acall_at (by kernel_rfl) first cap vs
theorem ca78 {A : View} {K : Value → View → Prop} (first cap vs : Array Value) : acall Try.prog (.func (.func 78) first cap) vs A K = ACalls Try.prog 78 (first ++ vs ++ cap) A K := acall_at (by kernel_rfl) first cap vs
theorem ca79 {A : View} {K : Value → View → Prop} (first cap vs : Array Value) : acall Try.prog (.func (.func 79) first cap) vs A K = ACalls Try.prog 79 (first ++ vs ++ cap) A K := acall_at (by kernel_rfl) first cap vs
theorem ca80 {A : View} {K : Value → View → Prop} (first cap vs : Array Value) : acall Try.prog (.func (.func 80) first cap) vs A K = ACalls Try.prog 80 (first ++ vs ++ cap) A K := acall_at (by kernel_rfl) first cap vs
theorem ca81 {A : View} {K : Value → View → Prop} (first cap vs : Array Value) : acall Try.prog (.func (.func 81) first cap) vs A K = ACalls Try.prog 81 (first ++ vs ++ cap) A K := acall_at (by kernel_rfl) first cap vs
theorem ca82 {A : View} {K : Value → View → Prop} (first cap vs : Array Value) : acall Try.prog (.func (.func 82) first cap) vs A K = ACalls Try.prog 82 (first ++ vs ++ cap) A K := acall_at (by kernel_rfl) first cap vs
theorem ca83 {A : View} {K : Value → View → Prop} (first cap vs : Array Value) : acall Try.prog (.func (.func 83) first cap) vs A K = ACalls Try.prog 83 (first ++ vs ++ cap) A K := acall_at (by kernel_rfl) first cap vs
theorem ca84 {A : View} {K : Value → View → Prop} (first cap vs : Array Value) : acall Try.prog (.func (.func 84) first cap) vs A K = ACalls Try.prog 84 (first ++ vs ++ cap) A K := acall_at (by kernel_rfl) first cap vs
theorem ca85 {A : View} {K : Value → View → Prop} (first cap vs : Array Value) : acall Try.prog (.func (.func 85) first cap) vs A K = ACalls Try.prog 85 (first ++ vs ++ cap) A K := acall_at (by kernel_rfl) first cap vs
theorem ca86 {A : View} {K : Value → View → Prop} (first cap vs : Array Value) : acall Try.prog (.func (.func 86) first cap) vs A K = ACalls Try.prog 86 (first ++ vs ++ cap) A K := acall_at (by kernel_rfl) first cap vs
theorem ca87 {A : View} {K : Value → View → Prop} (first cap vs : Array Value) : acall Try.prog (.func (.func 87) first cap) vs A K = ACalls Try.prog 87 (first ++ vs ++ cap) A K := acall_at (by kernel_rfl) first cap vs
theorem ca88 {A : View} {K : Value → View → Prop} (first cap vs : Array Value) : acall Try.prog (.func (.func 88) first cap) vs A K = ACalls Try.prog 88 (first ++ vs ++ cap) A K := acall_at (by kernel_rfl) first cap vs
theorem ca89 {A : View} {K : Value → View → Prop} (first cap vs : Array Value) : acall Try.prog (.func (.func 89) first cap) vs A K = ACalls Try.prog 89 (first ++ vs ++ cap) A K := acall_at (by kernel_rfl) first cap vs
theorem ca90 {A : View} {K : Value → View → Prop} (first cap vs : Array Value) : acall Try.prog (.func (.func 90) first cap) vs A K = ACalls Try.prog 90 (first ++ vs ++ cap) A K := acall_at (by kernel_rfl) first cap vs
theorem ca91 {A : View} {K : Value → View → Prop} (first cap vs : Array Value) : acall Try.prog (.func (.func 91) first cap) vs A K = ACalls Try.prog 91 (first ++ vs ++ cap) A K := acall_at (by kernel_rfl) first cap vs
theorem ca92 {A : View} {K : Value → View → Prop} (first cap vs : Array Value) : acall Try.prog (.func (.func 92) first cap) vs A K = ACalls Try.prog 92 (first ++ vs ++ cap) A K := acall_at (by kernel_rfl) first cap vs
theorem ca93 {A : View} {K : Value → View → Prop} (first cap vs : Array Value) : acall Try.prog (.func (.func 93) first cap) vs A K = ACalls Try.prog 93 (first ++ vs ++ cap) A K := acall_at (by kernel_rfl) first cap vs
theorem ca94 {A : View} {K : Value → View → Prop} (first cap vs : Array Value) : acall Try.prog (.func (.func 94) first cap) vs A K = ACalls Try.prog 94 (first ++ vs ++ cap) A K := acall_at (by kernel_rfl) first cap vs
theorem ca95 {A : View} {K : Value → View → Prop} (first cap vs : Array Value) : acall Try.prog (.func (.func 95) first cap) vs A K = ACalls Try.prog 95 (first ++ vs ++ cap) A K := acall_at (by kernel_rfl) first cap vs
theorem ca96 {A : View} {K : Value → View → Prop} (first cap vs : Array Value) : acall Try.prog (.func (.func 96) first cap) vs A K = ACalls Try.prog 96 (first ++ vs ++ cap) A K := acall_at (by kernel_rfl) first cap vs
theorem ca97 {A : View} {K : Value → View → Prop} (first cap vs : Array Value) : acall Try.prog (.func (.func 97) first cap) vs A K = ACalls Try.prog 97 (first ++ vs ++ cap) A K := acall_at (by kernel_rfl) first cap vs
theorem ca98 {A : View} {K : Value → View → Prop} (first cap vs : Array Value) : acall Try.prog (.func (.func 98) first cap) vs A K = ACalls Try.prog 98 (first ++ vs ++ cap) A K := acall_at (by kernel_rfl) first cap vs
theorem ca99 {A : View} {K : Value → View → Prop} (first cap vs : Array Value) : acall Try.prog (.func (.func 99) first cap) vs A K = ACalls Try.prog 99 (first ++ vs ++ cap) A K := acall_at (by kernel_rfl) first cap vs
theorem ca100 {A : View} {K : Value → View → Prop} (first cap vs : Array Value) : acall Try.prog (.func (.func 100) first cap) vs A K = ACalls Try.prog 100 (first ++ vs ++ cap) A K := acall_at (by kernel_rfl) first cap vs
theorem ca101 {A : View} {K : Value → View → Prop} (first cap vs : Array Value) : acall Try.prog (.func (.func 101) first cap) vs A K = ACalls Try.prog 101 (first ++ vs ++ cap) A K := acall_at (by kernel_rfl) first cap vs
theorem ca102 {A : View} {K : Value → View → Prop} (first cap vs : Array Value) : acall Try.prog (.func (.func 102) first cap) vs A K = ACalls Try.prog 102 (first ++ vs ++ cap) A K := acall_at (by kernel_rfl) first cap vs
theorem ca103 {A : View} {K : Value → View → Prop} (first cap vs : Array Value) : acall Try.prog (.func (.func 103) first cap) vs A K = ACalls Try.prog 103 (first ++ vs ++ cap) A K := acall_at (by kernel_rfl) first cap vs
theorem ca104 {A : View} {K : Value → View → Prop} (first cap vs : Array Value) : acall Try.prog (.func (.func 104) first cap) vs A K = ACalls Try.prog 104 (first ++ vs ++ cap) A K := acall_at (by kernel_rfl) first cap vs
theorem ca105 {A : View} {K : Value → View → Prop} (first cap vs : Array Value) : acall Try.prog (.func (.func 105) first cap) vs A K = ACalls Try.prog 105 (first ++ vs ++ cap) A K := acall_at (by kernel_rfl) first cap vs
theorem ca106 {A : View} {K : Value → View → Prop} (first cap vs : Array Value) : acall Try.prog (.func (.func 106) first cap) vs A K = ACalls Try.prog 106 (first ++ vs ++ cap) A K := acall_at (by kernel_rfl) first cap vs
theorem ca107 {A : View} {K : Value → View → Prop} (first cap vs : Array Value) : acall Try.prog (.func (.func 107) first cap) vs A K = ACalls Try.prog 107 (first ++ vs ++ cap) A K := acall_at (by kernel_rfl) first cap vs
theorem ca108 {A : View} {K : Value → View → Prop} (first cap vs : Array Value) : acall Try.prog (.func (.func 108) first cap) vs A K = ACalls Try.prog 108 (first ++ vs ++ cap) A K := acall_at (by kernel_rfl) first cap vs
theorem ca109 {A : View} {K : Value → View → Prop} (first cap vs : Array Value) : acall Try.prog (.func (.func 109) first cap) vs A K = ACalls Try.prog 109 (first ++ vs ++ cap) A K := acall_at (by kernel_rfl) first cap vs
theorem ca110 {A : View} {K : Value → View → Prop} (first cap vs : Array Value) : acall Try.prog (.func (.func 110) first cap) vs A K = ACalls Try.prog 110 (first ++ vs ++ cap) A K := acall_at (by kernel_rfl) first cap vs
theorem ca111 {A : View} {K : Value → View → Prop} (first cap vs : Array Value) : acall Try.prog (.func (.func 111) first cap) vs A K = ACalls Try.prog 111 (first ++ vs ++ cap) A K := acall_at (by kernel_rfl) first cap vs
theorem ca112 {A : View} {K : Value → View → Prop} (first cap vs : Array Value) : acall Try.prog (.func (.func 112) first cap) vs A K = ACalls Try.prog 112 (first ++ vs ++ cap) A K := acall_at (by kernel_rfl) first cap vs
theorem ca113 {A : View} {K : Value → View → Prop} (first cap vs : Array Value) : acall Try.prog (.func (.func 113) first cap) vs A K = ACalls Try.prog 113 (first ++ vs ++ cap) A K := acall_at (by kernel_rfl) first cap vs
theorem ca114 {A : View} {K : Value → View → Prop} (first cap vs : Array Value) : acall Try.prog (.func (.func 114) first cap) vs A K = ACalls Try.prog 114 (first ++ vs ++ cap) A K := acall_at (by kernel_rfl) first cap vs
theorem ca115 {A : View} {K : Value → View → Prop} (first cap vs : Array Value) : acall Try.prog (.func (.func 115) first cap) vs A K = ACalls Try.prog 115 (first ++ vs ++ cap) A K := acall_at (by kernel_rfl) first cap vs
theorem ca116 {A : View} {K : Value → View → Prop} (first cap vs : Array Value) : acall Try.prog (.func (.func 116) first cap) vs A K = ACalls Try.prog 116 (first ++ vs ++ cap) A K := acall_at (by kernel_rfl) first cap vs
theorem ca117 {A : View} {K : Value → View → Prop} (first cap vs : Array Value) : acall Try.prog (.func (.func 117) first cap) vs A K = ACalls Try.prog 117 (first ++ vs ++ cap) A K := acall_at (by kernel_rfl) first cap vs
theorem ca118 {A : View} {K : Value → View → Prop} (first cap vs : Array Value) : acall Try.prog (.func (.func 118) first cap) vs A K = ACalls Try.prog 118 (first ++ vs ++ cap) A K := acall_at (by kernel_rfl) first cap vs
theorem ca119 {A : View} {K : Value → View → Prop} (first cap vs : Array Value) : acall Try.prog (.func (.func 119) first cap) vs A K = ACalls Try.prog 119 (first ++ vs ++ cap) A K := acall_at (by kernel_rfl) first cap vs
theorem ca120 {A : View} {K : Value → View → Prop} (first cap vs : Array Value) : acall Try.prog (.func (.func 120) first cap) vs A K = ACalls Try.prog 120 (first ++ vs ++ cap) A K := acall_at (by kernel_rfl) first cap vs
theorem ca121 {A : View} {K : Value → View → Prop} (first cap vs : Array Value) : acall Try.prog (.func (.func 121) first cap) vs A K = ACalls Try.prog 121 (first ++ vs ++ cap) A K := acall_at (by kernel_rfl) first cap vs
theorem ca122 {A : View} {K : Value → View → Prop} (first cap vs : Array Value) : acall Try.prog (.func (.func 122) first cap) vs A K = ACalls Try.prog 122 (first ++ vs ++ cap) A K := acall_at (by kernel_rfl) first cap vs
theorem ca123 {A : View} {K : Value → View → Prop} (first cap vs : Array Value) : acall Try.prog (.func (.func 123) first cap) vs A K = ACalls Try.prog 123 (first ++ vs ++ cap) A K := acall_at (by kernel_rfl) first cap vs
theorem ca124 {A : View} {K : Value → View → Prop} (first cap vs : Array Value) : acall Try.prog (.func (.func 124) first cap) vs A K = ACalls Try.prog 124 (first ++ vs ++ cap) A K := acall_at (by kernel_rfl) first cap vs
theorem ca125 {A : View} {K : Value → View → Prop} (first cap vs : Array Value) : acall Try.prog (.func (.func 125) first cap) vs A K = ACalls Try.prog 125 (first ++ vs ++ cap) A K := acall_at (by kernel_rfl) first cap vs
theorem ca126 {A : View} {K : Value → View → Prop} (first cap vs : Array Value) : acall Try.prog (.func (.func 126) first cap) vs A K = ACalls Try.prog 126 (first ++ vs ++ cap) A K := acall_at (by kernel_rfl) first cap vs
theorem ca127 {A : View} {K : Value → View → Prop} (first cap vs : Array Value) : acall Try.prog (.func (.func 127) first cap) vs A K = ACalls Try.prog 127 (first ++ vs ++ cap) A K := acall_at (by kernel_rfl) first cap vs
theorem ca128 {A : View} {K : Value → View → Prop} (first cap vs : Array Value) : acall Try.prog (.func (.func 128) first cap) vs A K = ACalls Try.prog 128 (first ++ vs ++ cap) A K := acall_at (by kernel_rfl) first cap vs
theorem ca129 {A : View} {K : Value → View → Prop} (first cap vs : Array Value) : acall Try.prog (.func (.func 129) first cap) vs A K = ACalls Try.prog 129 (first ++ vs ++ cap) A K := acall_at (by kernel_rfl) first cap vs
theorem ca130 {A : View} {K : Value → View → Prop} (first cap vs : Array Value) : acall Try.prog (.func (.func 130) first cap) vs A K = ACalls Try.prog 130 (first ++ vs ++ cap) A K := acall_at (by kernel_rfl) first cap vs
theorem ca131 {A : View} {K : Value → View → Prop} (first cap vs : Array Value) : acall Try.prog (.func (.func 131) first cap) vs A K = ACalls Try.prog 131 (first ++ vs ++ cap) A K := acall_at (by kernel_rfl) first cap vs
theorem ca132 {A : View} {K : Value → View → Prop} (first cap vs : Array Value) : acall Try.prog (.func (.func 132) first cap) vs A K = ACalls Try.prog 132 (first ++ vs ++ cap) A K := acall_at (by kernel_rfl) first cap vs
theorem ca133 {A : View} {K : Value → View → Prop} (first cap vs : Array Value) : acall Try.prog (.func (.func 133) first cap) vs A K = ACalls Try.prog 133 (first ++ vs ++ cap) A K := acall_at (by kernel_rfl) first cap vs
theorem ca134 {A : View} {K : Value → View → Prop} (first cap vs : Array Value) : acall Try.prog (.func (.func 134) first cap) vs A K = ACalls Try.prog 134 (first ++ vs ++ cap) A K := acall_at (by kernel_rfl) first cap vs
theorem ca136 {A : View} {K : Value → View → Prop} (first cap vs : Array Value) : acall Try.prog (.func (.func 136) first cap) vs A K = ACalls Try.prog 136 (first ++ vs ++ cap) A K := acall_at (by kernel_rfl) first cap vs
theorem ca137 {A : View} {K : Value → View → Prop} (first cap vs : Array Value) : acall Try.prog (.func (.func 137) first cap) vs A K = ACalls Try.prog 137 (first ++ vs ++ cap) A K := acall_at (by kernel_rfl) first cap vs
theorem ca138 {A : View} {K : Value → View → Prop} (first cap vs : Array Value) : acall Try.prog (.func (.func 138) first cap) vs A K = ACalls Try.prog 138 (first ++ vs ++ cap) A K := acall_at (by kernel_rfl) first cap vs
theorem ca139 {A : View} {K : Value → View → Prop} (first cap vs : Array Value) : acall Try.prog (.func (.func 139) first cap) vs A K = ACalls Try.prog 139 (first ++ vs ++ cap) A K := acall_at (by kernel_rfl) first cap vs
theorem ca140 {A : View} {K : Value → View → Prop} (first cap vs : Array Value) : acall Try.prog (.func (.func 140) first cap) vs A K = ACalls Try.prog 140 (first ++ vs ++ cap) A K := acall_at (by kernel_rfl) first cap vs
theorem ca141 {A : View} {K : Value → View → Prop} (first cap vs : Array Value) : acall Try.prog (.func (.func 141) first cap) vs A K = ACalls Try.prog 141 (first ++ vs ++ cap) A K := acall_at (by kernel_rfl) first cap vs
theorem ca142 {A : View} {K : Value → View → Prop} (first cap vs : Array Value) : acall Try.prog (.func (.func 142) first cap) vs A K = ACalls Try.prog 142 (first ++ vs ++ cap) A K := acall_at (by kernel_rfl) first cap vs
theorem ca143 {A : View} {K : Value → View → Prop} (first cap vs : Array Value) : acall Try.prog (.func (.func 143) first cap) vs A K = ACalls Try.prog 143 (first ++ vs ++ cap) A K := acall_at (by kernel_rfl) first cap vs
theorem ca144 {A : View} {K : Value → View → Prop} (first cap vs : Array Value) : acall Try.prog (.func (.func 144) first cap) vs A K = ACalls Try.prog 144 (first ++ vs ++ cap) A K := acall_at (by kernel_rfl) first cap vs
theorem ca145 {A : View} {K : Value → View → Prop} (first cap vs : Array Value) : acall Try.prog (.func (.func 145) first cap) vs A K = ACalls Try.prog 145 (first ++ vs ++ cap) A K := acall_at (by kernel_rfl) first cap vs
theorem ca146 {A : View} {K : Value → View → Prop} (first cap vs : Array Value) : acall Try.prog (.func (.func 146) first cap) vs A K = ACalls Try.prog 146 (first ++ vs ++ cap) A K := acall_at (by kernel_rfl) first cap vs
theorem ca147 {A : View} {K : Value → View → Prop} (first cap vs : Array Value) : acall Try.prog (.func (.func 147) first cap) vs A K = ACalls Try.prog 147 (first ++ vs ++ cap) A K := acall_at (by kernel_rfl) first cap vs
theorem ca148 {A : View} {K : Value → View → Prop} (first cap vs : Array Value) : acall Try.prog (.func (.func 148) first cap) vs A K = ACalls Try.prog 148 (first ++ vs ++ cap) A K := acall_at (by kernel_rfl) first cap vs
theorem ca150 {A : View} {K : Value → View → Prop} (first cap vs : Array Value) : acall Try.prog (.func (.func 150) first cap) vs A K = ACalls Try.prog 150 (first ++ vs ++ cap) A K := acall_at (by kernel_rfl) first cap vs
theorem ca151 {A : View} {K : Value → View → Prop} (first cap vs : Array Value) : acall Try.prog (.func (.func 151) first cap) vs A K = ACalls Try.prog 151 (first ++ vs ++ cap) A K := acall_at (by kernel_rfl) first cap vs
theorem ca152 {A : View} {K : Value → View → Prop} (first cap vs : Array Value) : acall Try.prog (.func (.func 152) first cap) vs A K = ACalls Try.prog 152 (first ++ vs ++ cap) A K := acall_at (by kernel_rfl) first cap vs
theorem ca153 {A : View} {K : Value → View → Prop} (first cap vs : Array Value) : acall Try.prog (.func (.func 153) first cap) vs A K = ACalls Try.prog 153 (first ++ vs ++ cap) A K := acall_at (by kernel_rfl) first cap vs
theorem ca154 {A : View} {K : Value → View → Prop} (first cap vs : Array Value) : acall Try.prog (.func (.func 154) first cap) vs A K = ACalls Try.prog 154 (first ++ vs ++ cap) A K := acall_at (by kernel_rfl) first cap vs
theorem ca156 {A : View} {K : Value → View → Prop} (first cap vs : Array Value) : acall Try.prog (.func (.func 156) first cap) vs A K = ACalls Try.prog 156 (first ++ vs ++ cap) A K := acall_at (by kernel_rfl) first cap vs
theorem ca158 {A : View} {K : Value → View → Prop} (first cap vs : Array Value) : acall Try.prog (.func (.func 158) first cap) vs A K = ACalls Try.prog 158 (first ++ vs ++ cap) A K := acall_at (by kernel_rfl) first cap vs
theorem rs3 : Try.f3.results.toList = [.tmp 2] := by kernel_rfl
theorem rs4 : Try.f4.results.toList = [.tmp 2] := by kernel_rfl
theorem rs5 : Try.f5.results.toList = [.tmp 2] := by kernel_rfl
theorem rs6 : Try.f6.results.toList = [.tmp 2] := by kernel_rfl
theorem rs7 : Try.f7.results.toList = [.tmp 2] := by kernel_rfl
theorem rs8 : Try.f8.results.toList = [.tmp 2] := by kernel_rfl
theorem rs9 : Try.f9.results.toList = [.tmp 2] := by kernel_rfl
theorem rs10 : Try.f10.results.toList = [.tmp 2] := by kernel_rfl
theorem rs11 : Try.f11.results.toList = [.cell 2 26] := by kernel_rfl
theorem rs12 : Try.f12.results.toList = [.tmp 2] := by kernel_rfl
theorem rs13 : Try.f13.results.toList = [.tmp 4] := by kernel_rfl
theorem rs14 : Try.f14.results.toList = [.tmp 2] := by kernel_rfl
theorem rs15 : Try.f15.results.toList = [.tmp 2] := by kernel_rfl
theorem rs16 : Try.f16.results.toList = [.tmp 2] := by kernel_rfl
theorem rs17 : Try.f17.results.toList = [.cell 2 26, .tmp 3] := by kernel_rfl
theorem rs18 : Try.f18.results.toList = [.tmp 4] := by kernel_rfl
theorem rs19 : Try.f19.results.toList = [.tmp 4] := by kernel_rfl
theorem rs20 : Try.f20.results.toList = [.tmp 4] := by kernel_rfl
theorem rs21 : Try.f21.results.toList = [.tmp 4] := by kernel_rfl
theorem rs22 : Try.f22.results.toList = [.tmp 4] := by kernel_rfl
theorem rs23 : Try.f23.results.toList = [.tmp 4] := by kernel_rfl
theorem rs24 : Try.f24.results.toList = [.tmp 2] := by kernel_rfl
theorem rs25 : Try.f25.results.toList = [.tmp 4] := by kernel_rfl
theorem rs26 : Try.f26.results.toList = [.tmp 2] := by kernel_rfl
theorem rs27 : Try.f27.results.toList = [.tmp 2] := by kernel_rfl
theorem rs28 : Try.f28.results.toList = [.tmp 2] := by kernel_rfl
theorem rs29 : Try.f29.results.toList = [.tmp 4] := by kernel_rfl
theorem rs30 : Try.f30.results.toList = [.tmp 2, .tmp 3] := by kernel_rfl
theorem rs31 : Try.f31.results.toList = [.tmp 4] := by kernel_rfl
theorem rs32 : Try.f32.results.toList = [.tmp 4] := by kernel_rfl
theorem rs33 : Try.f33.results.toList = [.tmp 2] := by kernel_rfl
theorem rs34 : Try.f34.results.toList = [.tmp 2] := by kernel_rfl
theorem rs35 : Try.f35.results.toList = [.tmp 2] := by kernel_rfl
theorem rs36 : Try.f36.results.toList = [.tmp 2, .tmp 3] := by kernel_rfl
theorem rs37 : Try.f37.results.toList = [.tmp 4] := by kernel_rfl
theorem rs38 : Try.f38.results.toList = [.tmp 2] := by kernel_rfl
theorem rs39 : Try.f39.results.toList = [.tmp 2] := by kernel_rfl
theorem rs40 : Try.f40.results.toList = [.tmp 2, .tmp 3] := by kernel_rfl
theorem rs41 : Try.f41.results.toList = [.tmp 4] := by kernel_rfl
theorem rs42 : Try.f42.results.toList = [.tmp 2] := by kernel_rfl
theorem rs43 : Try.f43.results.toList = [.cell 2 26] := by kernel_rfl
theorem rs44 : Try.f44.results.toList = [.tmp 2] := by kernel_rfl
theorem rs45 : Try.f45.results.toList = [.tmp 4] := by kernel_rfl
theorem rs46 : Try.f46.results.toList = [.tmp 2] := by kernel_rfl
theorem rs47 : Try.f47.results.toList = [.cell 2 26] := by kernel_rfl
theorem rs48 : Try.f48.results.toList = [.tmp 4] := by kernel_rfl
theorem rs49 : Try.f49.results.toList = [.tmp 4] := by kernel_rfl
theorem rs50 : Try.f50.results.toList = [.tmp 2] := by kernel_rfl
theorem rs51 : Try.f51.results.toList = [.tmp 2] := by kernel_rfl
theorem rs52 : Try.f52.results.toList = [.tmp 2] := by kernel_rfl
theorem rs53 : Try.f53.results.toList = [.tmp 2] := by kernel_rfl
theorem rs54 : Try.f54.results.toList = [.tmp 2] := by kernel_rfl
theorem rs55 : Try.f55.results.toList = [.tmp 2] := by kernel_rfl
theorem rs56 : Try.f56.results.toList = [.cell 2 26, .tmp 3] := by kernel_rfl
theorem rs57 : Try.f57.results.toList = [.tmp 4] := by kernel_rfl
theorem rs58 : Try.f58.results.toList = [.tmp 4] := by kernel_rfl
theorem rs59 : Try.f59.results.toList = [.tmp 2] := by kernel_rfl
theorem rs60 : Try.f60.results.toList = [.tmp 4] := by kernel_rfl
theorem rs61 : Try.f61.results.toList = [.tmp 2] := by kernel_rfl
theorem rs62 : Try.f62.results.toList = [.tmp 4] := by kernel_rfl
theorem rs63 : Try.f63.results.toList = [.tmp 3] := by kernel_rfl
theorem rs64 : Try.f64.results.toList = [.tmp 4] := by kernel_rfl
theorem rs65 : Try.f65.results.toList = [.tmp 6] := by kernel_rfl
theorem rs66 : Try.f66.results.toList = [.tmp 2] := by kernel_rfl
theorem rs67 : Try.f67.results.toList = [.tmp 2] := by kernel_rfl
theorem rs68 : Try.f68.results.toList = [.tmp 4] := by kernel_rfl
theorem rs69 : Try.f69.results.toList = [.cell 2 26, .tmp 3] := by kernel_rfl
theorem rs70 : Try.f70.results.toList = [.tmp 4] := by kernel_rfl
theorem rs71 : Try.f71.results.toList = [.tmp 6] := by kernel_rfl
theorem rs72 : Try.f72.results.toList = [.tmp 2] := by kernel_rfl
theorem rs73 : Try.f73.results.toList = [.tmp 4, .tmp 5] := by kernel_rfl
theorem rs74 : Try.f74.results.toList = [.tmp 2] := by kernel_rfl
theorem rs75 : Try.f75.results.toList = [.tmp 2] := by kernel_rfl
theorem rs76 : Try.f76.results.toList = [.tmp 2] := by kernel_rfl
theorem rs77 : Try.f77.results.toList = [.tmp 0] := by kernel_rfl
theorem rs78 : Try.f78.results.toList = [.tmp 4, .tmp 5, .tmp 6] := by kernel_rfl
theorem rs79 : Try.f79.results.toList = [.tmp 4] := by kernel_rfl
theorem rs80 : Try.f80.results.toList = [.tmp 2] := by kernel_rfl
theorem rs81 : Try.f81.results.toList = [.cell 2 26] := by kernel_rfl
theorem rs82 : Try.f82.results.toList = [.tmp 4] := by kernel_rfl
theorem rs83 : Try.f83.results.toList = [.tmp 4] := by kernel_rfl
theorem rs84 : Try.f84.results.toList = [.tmp 4] := by kernel_rfl
theorem rs85 : Try.f85.results.toList = [.tmp 4] := by kernel_rfl
theorem rs86 : Try.f86.results.toList = [.tmp 4] := by kernel_rfl
theorem rs87 : Try.f87.results.toList = [.tmp 2] := by kernel_rfl
theorem rs88 : Try.f88.results.toList = [.tmp 2] := by kernel_rfl
theorem rs89 : Try.f89.results.toList = [.tmp 2] := by kernel_rfl
theorem rs90 : Try.f90.results.toList = [.tmp 0] := by kernel_rfl
theorem rs91 : Try.f91.results.toList = [.tmp 2] := by kernel_rfl
theorem rs92 : Try.f92.results.toList = [.tmp 4] := by kernel_rfl
theorem rs93 : Try.f93.results.toList = [.tmp 4] := by kernel_rfl
theorem rs94 : Try.f94.results.toList = [.tmp 4] := by kernel_rfl
theorem rs95 : Try.f95.results.toList = [.tmp 2] := by kernel_rfl
theorem rs96 : Try.f96.results.toList = [.tmp 4] := by kernel_rfl
theorem rs97 : Try.f97.results.toList = [.tmp 2] := by kernel_rfl
theorem rs98 : Try.f98.results.toList = [.tmp 4] := by kernel_rfl
theorem rs99 : Try.f99.results.toList = [.tmp 4] := by kernel_rfl
theorem rs100 : Try.f100.results.toList = [.tmp 2] := by kernel_rfl
theorem rs101 : Try.f101.results.toList = [.tmp 4] := by kernel_rfl
theorem rs102 : Try.f102.results.toList = [.tmp 2] := by kernel_rfl
theorem rs103 : Try.f103.results.toList = [.tmp 2] := by kernel_rfl
theorem rs104 : Try.f104.results.toList = [.tmp 2] := by kernel_rfl
theorem rs105 : Try.f105.results.toList = [] := by kernel_rfl
theorem rs106 : Try.f106.results.toList = [] := by kernel_rfl
theorem rs107 : Try.f107.results.toList = [.tmp 5] := by kernel_rfl
theorem rs108 : Try.f108.results.toList = [.tmp 8] := by kernel_rfl
theorem rs109 : Try.f109.results.toList = [.tmp 4] := by kernel_rfl
theorem rs110 : Try.f110.results.toList = [.tmp 3] := by kernel_rfl
theorem rs111 : Try.f111.results.toList = [.tmp 4] := by kernel_rfl
theorem rs112 : Try.f112.results.toList = [.tmp 4] := by kernel_rfl
theorem rs113 : Try.f113.results.toList = [] := by kernel_rfl
theorem rs114 : Try.f114.results.toList = [.tmp 2] := by kernel_rfl
theorem rs115 : Try.f115.results.toList = [.tmp 4, .tmp 5, .tmp 6] := by kernel_rfl
theorem rs116 : Try.f116.results.toList = [.tmp 6] := by kernel_rfl
theorem rs117 : Try.f117.results.toList = [.tmp 2] := by kernel_rfl
theorem rs118 : Try.f118.results.toList = [.tmp 4] := by kernel_rfl
theorem rs119 : Try.f119.results.toList = [.tmp 4] := by kernel_rfl
theorem rs120 : Try.f120.results.toList = [.tmp 4] := by kernel_rfl
theorem rs121 : Try.f121.results.toList = [.tmp 4] := by kernel_rfl
theorem rs122 : Try.f122.results.toList = [.tmp 4] := by kernel_rfl
theorem rs123 : Try.f123.results.toList = [.tmp 0] := by kernel_rfl
theorem rs124 : Try.f124.results.toList = [.tmp 2] := by kernel_rfl
theorem rs125 : Try.f125.results.toList = [.cell 2 33] := by kernel_rfl
theorem rs126 : Try.f126.results.toList = [.cell 2 38] := by kernel_rfl
theorem rs127 : Try.f127.results.toList = [.tmp 4] := by kernel_rfl
theorem rs128 : Try.f128.results.toList = [.tmp 4] := by kernel_rfl
theorem rs129 : Try.f129.results.toList = [.tmp 4] := by kernel_rfl
theorem rs130 : Try.f130.results.toList = [.tmp 2] := by kernel_rfl
theorem rs131 : Try.f131.results.toList = [.tmp 4] := by kernel_rfl
theorem rs132 : Try.f132.results.toList = [.tmp 4] := by kernel_rfl
theorem rs133 : Try.f133.results.toList = [.tmp 2] := by kernel_rfl
theorem rs134 : Try.f134.results.toList = [] := by kernel_rfl
theorem rs136 : Try.f136.results.toList = [.tmp 4] := by kernel_rfl
theorem rs137 : Try.f137.results.toList = [.tmp 4] := by kernel_rfl
theorem rs138 : Try.f138.results.toList = [.tmp 2] := by kernel_rfl
theorem rs139 : Try.f139.results.toList = [.tmp 4] := by kernel_rfl
theorem rs140 : Try.f140.results.toList = [.tmp 4] := by kernel_rfl
theorem rs141 : Try.f141.results.toList = [.tmp 2] := by kernel_rfl
theorem rs142 : Try.f142.results.toList = [] := by kernel_rfl
theorem rs143 : Try.f143.results.toList = [.tmp 4] := by kernel_rfl
theorem rs144 : Try.f144.results.toList = [.tmp 2] := by kernel_rfl
theorem rs145 : Try.f145.results.toList = [.tmp 2] := by kernel_rfl
theorem rs146 : Try.f146.results.toList = [] := by kernel_rfl
theorem rs147 : Try.f147.results.toList = [] := by kernel_rfl
theorem rs148 : Try.f148.results.toList = [.tmp 4] := by kernel_rfl
theorem rs150 : Try.f150.results.toList = [.tmp 2] := by kernel_rfl
theorem rs151 : Try.f151.results.toList = [.tmp 4] := by kernel_rfl
theorem rs152 : Try.f152.results.toList = [.tmp 2] := by kernel_rfl
theorem rs153 : Try.f153.results.toList = [] := by kernel_rfl
theorem rs154 : Try.f154.results.toList = [] := by kernel_rfl
theorem rs156 : Try.f156.results.toList = [.tmp 2, .tmp 3] := by kernel_rfl
theorem rs158 : Try.f158.results.toList = [] := by kernel_rfl

/-- All of them, for simp. -/
theorem inf : type_of% (And.intro @ld3 ( And.intro @ld4 ( And.intro @ld5 ( And.intro @ld9 ( And.intro @ld22 ( And.intro @ld23 ( And.intro @ld24 ( And.intro @ld26 ( And.intro @ld31 ( And.intro @ld33 ( And.intro @ld35 ( And.intro @ld38 ( And.intro @ld55 ( And.intro @ld63 ( And.intro @ld64 ( And.intro @ld66 ( And.intro @ld90 ( And.intro @ld134 ( And.intro @ld136 ( And.intro @sz3 ( And.intro @sz4 ( And.intro @sz9 ( And.intro @sz22 ( And.intro @sz23 ( And.intro @sz24 ( And.intro @sz26 ( And.intro @sz31 ( And.intro @sz33 ( And.intro @sz38 ( And.intro @sz55 ( And.intro @sz90 ( And.intro @fa26_0 ( And.intro @fa26_1 ( And.intro @fa33_0 ( And.intro @fa33_1 ( And.intro @fa33_2 ( And.intro @fa33_3 ( And.intro @fa35_0 ( And.intro @fa35_1 ( And.intro @fa38_0 ( And.intro @fa38_1 ( And.intro @fa38_2 ( And.intro @fa38_3 ( And.intro @fa55_0 ( And.intro @fa55_1 ( And.intro @fa66_0 ( And.intro @fa66_1 ( And.intro @fa92_0 ( And.intro @fa92_1 ( And.intro @fa114_0 ( And.intro @fa114_1 ( And.intro @fa134_0 ( And.intro @fa134_1 ( And.intro @fa134_2 ( And.intro @fa134_3 ( And.intro @fa136_0 ( And.intro @fa136_1 ( And.intro @fa136_2 ( And.intro @fa136_3 ( And.intro @ia22 ( And.intro @ia23 ( And.intro @ia24 ( And.intro @ia28 ( And.intro @ia31 ( And.intro @ia48 ( And.intro @ia63 ( And.intro @ia64 ( And.intro @ia88 ( And.intro @sl9lo ( And.intro @sl9hi ( And.intro @sl9 ( And.intro @sl22lo ( And.intro @sl22hi ( And.intro @sl22 ( And.intro @sl22hm ( And.intro @sl22lhm ( And.intro @sl23lo ( And.intro @sl23hi ( And.intro @sl23 ( And.intro @sl23hm ( And.intro @sl23lhm ( And.intro @sl24lo ( And.intro @sl24hi ( And.intro @sl24 ( And.intro @sl24hm ( And.intro @sl24lhm ( And.intro @sl31lo ( And.intro @sl31hi ( And.intro @sl31 ( And.intro @sl31hm ( And.intro @sl31lhm ( And.intro @sl48lo ( And.intro @sl48hi ( And.intro @sl48 ( And.intro @sl48hm ( And.intro @sl48lhm ( And.intro @ix9 ( And.intro @ln9 ( And.intro @ln22 ( And.intro @ln23 ( And.intro @ln24 ( And.intro @ln28 ( And.intro @ln31 ( And.intro @ln48 ( And.intro @ln63 ( And.intro @ln64 ( And.intro @ln88 ( And.intro @eq4 ( And.intro @ne4 ( And.intro @eqn31 ( And.intro @eqs31 ( And.intro @nen31 ( And.intro @nes31 ( And.intro @bu33_0_1_2_3 ( And.intro @bu35_0_1_2 ( And.intro @bu38_0_1_2_3 ( And.intro @bu55_0_1 ( And.intro @bu114_0 ( And.intro @ca11 ( And.intro @ca12 ( And.intro @ca13 ( And.intro @ca14 ( And.intro @ca15 ( And.intro @ca16 ( And.intro @ca17 ( And.intro @ca18 ( And.intro @ca19 ( And.intro @ca20 ( And.intro @ca21 ( And.intro @ca22 ( And.intro @ca23 ( And.intro @ca24 ( And.intro @ca25 ( And.intro @ca26 ( And.intro @ca27 ( And.intro @ca28 ( And.intro @ca29 ( And.intro @ca30 ( And.intro @ca31 ( And.intro @ca32 ( And.intro @ca33 ( And.intro @ca34 ( And.intro @ca35 ( And.intro @ca36 ( And.intro @ca37 ( And.intro @ca38 ( And.intro @ca39 ( And.intro @ca40 ( And.intro @ca41 ( And.intro @ca42 ( And.intro @ca43 ( And.intro @ca44 ( And.intro @ca45 ( And.intro @ca46 ( And.intro @ca47 ( And.intro @ca48 ( And.intro @ca49 ( And.intro @ca50 ( And.intro @ca51 ( And.intro @ca52 ( And.intro @ca53 ( And.intro @ca54 ( And.intro @ca55 ( And.intro @ca56 ( And.intro @ca57 ( And.intro @ca58 ( And.intro @ca59 ( And.intro @ca60 ( And.intro @ca61 ( And.intro @ca62 ( And.intro @ca63 ( And.intro @ca64 ( And.intro @ca65 ( And.intro @ca66 ( And.intro @ca67 ( And.intro @ca68 ( And.intro @ca69 ( And.intro @ca70 ( And.intro @ca71 ( And.intro @ca72 ( And.intro @ca73 ( And.intro @ca74 ( And.intro @ca75 ( And.intro @ca76 ( And.intro @ca77 ( And.intro @ca78 ( And.intro @ca79 ( And.intro @ca80 ( And.intro @ca81 ( And.intro @ca82 ( And.intro @ca83 ( And.intro @ca84 ( And.intro @ca85 ( And.intro @ca86 ( And.intro @ca87 ( And.intro @ca88 ( And.intro @ca89 ( And.intro @ca90 ( And.intro @ca91 ( And.intro @ca92 ( And.intro @ca93 ( And.intro @ca94 ( And.intro @ca95 ( And.intro @ca96 ( And.intro @ca97 ( And.intro @ca98 ( And.intro @ca99 ( And.intro @ca100 ( And.intro @ca101 ( And.intro @ca102 ( And.intro @ca103 ( And.intro @ca104 ( And.intro @ca105 ( And.intro @ca106 ( And.intro @ca107 ( And.intro @ca108 ( And.intro @ca109 ( And.intro @ca110 ( And.intro @ca111 ( And.intro @ca112 ( And.intro @ca113 ( And.intro @ca114 ( And.intro @ca115 ( And.intro @ca116 ( And.intro @ca117 ( And.intro @ca118 ( And.intro @ca119 ( And.intro @ca120 ( And.intro @ca121 ( And.intro @ca122 ( And.intro @ca123 ( And.intro @ca124 ( And.intro @ca125 ( And.intro @ca126 ( And.intro @ca127 ( And.intro @ca128 ( And.intro @ca129 ( And.intro @ca130 ( And.intro @ca131 ( And.intro @ca132 ( And.intro @ca133 ( And.intro @ca134 ( And.intro @ca136 ( And.intro @ca137 ( And.intro @ca138 ( And.intro @ca139 ( And.intro @ca140 ( And.intro @ca141 ( And.intro @ca142 ( And.intro @ca143 ( And.intro @ca144 ( And.intro @ca145 ( And.intro @ca146 ( And.intro @ca147 ( And.intro @ca148 ( And.intro @ca150 ( And.intro @ca151 ( And.intro @ca152 ( And.intro @ca153 ( And.intro @ca154 ( And.intro @ca156 ( And.intro @ca158 ( And.intro @rs3 ( And.intro @rs4 ( And.intro @rs5 ( And.intro @rs6 ( And.intro @rs7 ( And.intro @rs8 ( And.intro @rs9 ( And.intro @rs10 ( And.intro @rs11 ( And.intro @rs12 ( And.intro @rs13 ( And.intro @rs14 ( And.intro @rs15 ( And.intro @rs16 ( And.intro @rs17 ( And.intro @rs18 ( And.intro @rs19 ( And.intro @rs20 ( And.intro @rs21 ( And.intro @rs22 ( And.intro @rs23 ( And.intro @rs24 ( And.intro @rs25 ( And.intro @rs26 ( And.intro @rs27 ( And.intro @rs28 ( And.intro @rs29 ( And.intro @rs30 ( And.intro @rs31 ( And.intro @rs32 ( And.intro @rs33 ( And.intro @rs34 ( And.intro @rs35 ( And.intro @rs36 ( And.intro @rs37 ( And.intro @rs38 ( And.intro @rs39 ( And.intro @rs40 ( And.intro @rs41 ( And.intro @rs42 ( And.intro @rs43 ( And.intro @rs44 ( And.intro @rs45 ( And.intro @rs46 ( And.intro @rs47 ( And.intro @rs48 ( And.intro @rs49 ( And.intro @rs50 ( And.intro @rs51 ( And.intro @rs52 ( And.intro @rs53 ( And.intro @rs54 ( And.intro @rs55 ( And.intro @rs56 ( And.intro @rs57 ( And.intro @rs58 ( And.intro @rs59 ( And.intro @rs60 ( And.intro @rs61 ( And.intro @rs62 ( And.intro @rs63 ( And.intro @rs64 ( And.intro @rs65 ( And.intro @rs66 ( And.intro @rs67 ( And.intro @rs68 ( And.intro @rs69 ( And.intro @rs70 ( And.intro @rs71 ( And.intro @rs72 ( And.intro @rs73 ( And.intro @rs74 ( And.intro @rs75 ( And.intro @rs76 ( And.intro @rs77 ( And.intro @rs78 ( And.intro @rs79 ( And.intro @rs80 ( And.intro @rs81 ( And.intro @rs82 ( And.intro @rs83 ( And.intro @rs84 ( And.intro @rs85 ( And.intro @rs86 ( And.intro @rs87 ( And.intro @rs88 ( And.intro @rs89 ( And.intro @rs90 ( And.intro @rs91 ( And.intro @rs92 ( And.intro @rs93 ( And.intro @rs94 ( And.intro @rs95 ( And.intro @rs96 ( And.intro @rs97 ( And.intro @rs98 ( And.intro @rs99 ( And.intro @rs100 ( And.intro @rs101 ( And.intro @rs102 ( And.intro @rs103 ( And.intro @rs104 ( And.intro @rs105 ( And.intro @rs106 ( And.intro @rs107 ( And.intro @rs108 ( And.intro @rs109 ( And.intro @rs110 ( And.intro @rs111 ( And.intro @rs112 ( And.intro @rs113 ( And.intro @rs114 ( And.intro @rs115 ( And.intro @rs116 ( And.intro @rs117 ( And.intro @rs118 ( And.intro @rs119 ( And.intro @rs120 ( And.intro @rs121 ( And.intro @rs122 ( And.intro @rs123 ( And.intro @rs124 ( And.intro @rs125 ( And.intro @rs126 ( And.intro @rs127 ( And.intro @rs128 ( And.intro @rs129 ( And.intro @rs130 ( And.intro @rs131 ( And.intro @rs132 ( And.intro @rs133 ( And.intro @rs134 ( And.intro @rs136 ( And.intro @rs137 ( And.intro @rs138 ( And.intro @rs139 ( And.intro @rs140 ( And.intro @rs141 ( And.intro @rs142 ( And.intro @rs143 ( And.intro @rs144 ( And.intro @rs145 ( And.intro @rs146 ( And.intro @rs147 ( And.intro @rs148 ( And.intro @rs150 ( And.intro @rs151 ( And.intro @rs152 ( And.intro @rs153 ( And.intro @rs154 ( And.intro @rs156 (@rs158)))))))))))))))))))))))))))))))))))))))))))))))))))))))))))))))))))))))))))))))))))))))))))))))))))))))))))))))))))))))))))))))))))))))))))))))))))))))))))))))))))))))))))))))))))))))))))))))))))))))))))))))))))))))))))))))))))))))))))))))))))))))))))))))))))))))))))))))))))))))))))))))))))))))))))))))))))))))))))))))))))))))))))))))))))))))))))))))))))))))))))))))))))))))))))))))))))))))))))))))))))))))))))))) := And.intro @ld3 ( And.intro @ld4 ( And.intro @ld5 ( And.intro @ld9 ( And.intro @ld22 ( And.intro @ld23 ( And.intro @ld24 ( And.intro @ld26 ( And.intro @ld31 ( And.intro @ld33 ( And.intro @ld35 ( And.intro @ld38 ( And.intro @ld55 ( And.intro @ld63 ( And.intro @ld64 ( And.intro @ld66 ( And.intro @ld90 ( And.intro @ld134 ( And.intro @ld136 ( And.intro @sz3 ( And.intro @sz4 ( And.intro @sz9 ( And.intro @sz22 ( And.intro @sz23 ( And.intro @sz24 ( And.intro @sz26 ( And.intro @sz31 ( And.intro @sz33 ( And.intro @sz38 ( And.intro @sz55 ( And.intro @sz90 ( And.intro @fa26_0 ( And.intro @fa26_1 ( And.intro @fa33_0 ( And.intro @fa33_1 ( And.intro @fa33_2 ( And.intro @fa33_3 ( And.intro @fa35_0 ( And.intro @fa35_1 ( And.intro @fa38_0 ( And.intro @fa38_1 ( And.intro @fa38_2 ( And.intro @fa38_3 ( And.intro @fa55_0 ( And.intro @fa55_1 ( And.intro @fa66_0 ( And.intro @fa66_1 ( And.intro @fa92_0 ( And.intro @fa92_1 ( And.intro @fa114_0 ( And.intro @fa114_1 ( And.intro @fa134_0 ( And.intro @fa134_1 ( And.intro @fa134_2 ( And.intro @fa134_3 ( And.intro @fa136_0 ( And.intro @fa136_1 ( And.intro @fa136_2 ( And.intro @fa136_3 ( And.intro @ia22 ( And.intro @ia23 ( And.intro @ia24 ( And.intro @ia28 ( And.intro @ia31 ( And.intro @ia48 ( And.intro @ia63 ( And.intro @ia64 ( And.intro @ia88 ( And.intro @sl9lo ( And.intro @sl9hi ( And.intro @sl9 ( And.intro @sl22lo ( And.intro @sl22hi ( And.intro @sl22 ( And.intro @sl22hm ( And.intro @sl22lhm ( And.intro @sl23lo ( And.intro @sl23hi ( And.intro @sl23 ( And.intro @sl23hm ( And.intro @sl23lhm ( And.intro @sl24lo ( And.intro @sl24hi ( And.intro @sl24 ( And.intro @sl24hm ( And.intro @sl24lhm ( And.intro @sl31lo ( And.intro @sl31hi ( And.intro @sl31 ( And.intro @sl31hm ( And.intro @sl31lhm ( And.intro @sl48lo ( And.intro @sl48hi ( And.intro @sl48 ( And.intro @sl48hm ( And.intro @sl48lhm ( And.intro @ix9 ( And.intro @ln9 ( And.intro @ln22 ( And.intro @ln23 ( And.intro @ln24 ( And.intro @ln28 ( And.intro @ln31 ( And.intro @ln48 ( And.intro @ln63 ( And.intro @ln64 ( And.intro @ln88 ( And.intro @eq4 ( And.intro @ne4 ( And.intro @eqn31 ( And.intro @eqs31 ( And.intro @nen31 ( And.intro @nes31 ( And.intro @bu33_0_1_2_3 ( And.intro @bu35_0_1_2 ( And.intro @bu38_0_1_2_3 ( And.intro @bu55_0_1 ( And.intro @bu114_0 ( And.intro @ca11 ( And.intro @ca12 ( And.intro @ca13 ( And.intro @ca14 ( And.intro @ca15 ( And.intro @ca16 ( And.intro @ca17 ( And.intro @ca18 ( And.intro @ca19 ( And.intro @ca20 ( And.intro @ca21 ( And.intro @ca22 ( And.intro @ca23 ( And.intro @ca24 ( And.intro @ca25 ( And.intro @ca26 ( And.intro @ca27 ( And.intro @ca28 ( And.intro @ca29 ( And.intro @ca30 ( And.intro @ca31 ( And.intro @ca32 ( And.intro @ca33 ( And.intro @ca34 ( And.intro @ca35 ( And.intro @ca36 ( And.intro @ca37 ( And.intro @ca38 ( And.intro @ca39 ( And.intro @ca40 ( And.intro @ca41 ( And.intro @ca42 ( And.intro @ca43 ( And.intro @ca44 ( And.intro @ca45 ( And.intro @ca46 ( And.intro @ca47 ( And.intro @ca48 ( And.intro @ca49 ( And.intro @ca50 ( And.intro @ca51 ( And.intro @ca52 ( And.intro @ca53 ( And.intro @ca54 ( And.intro @ca55 ( And.intro @ca56 ( And.intro @ca57 ( And.intro @ca58 ( And.intro @ca59 ( And.intro @ca60 ( And.intro @ca61 ( And.intro @ca62 ( And.intro @ca63 ( And.intro @ca64 ( And.intro @ca65 ( And.intro @ca66 ( And.intro @ca67 ( And.intro @ca68 ( And.intro @ca69 ( And.intro @ca70 ( And.intro @ca71 ( And.intro @ca72 ( And.intro @ca73 ( And.intro @ca74 ( And.intro @ca75 ( And.intro @ca76 ( And.intro @ca77 ( And.intro @ca78 ( And.intro @ca79 ( And.intro @ca80 ( And.intro @ca81 ( And.intro @ca82 ( And.intro @ca83 ( And.intro @ca84 ( And.intro @ca85 ( And.intro @ca86 ( And.intro @ca87 ( And.intro @ca88 ( And.intro @ca89 ( And.intro @ca90 ( And.intro @ca91 ( And.intro @ca92 ( And.intro @ca93 ( And.intro @ca94 ( And.intro @ca95 ( And.intro @ca96 ( And.intro @ca97 ( And.intro @ca98 ( And.intro @ca99 ( And.intro @ca100 ( And.intro @ca101 ( And.intro @ca102 ( And.intro @ca103 ( And.intro @ca104 ( And.intro @ca105 ( And.intro @ca106 ( And.intro @ca107 ( And.intro @ca108 ( And.intro @ca109 ( And.intro @ca110 ( And.intro @ca111 ( And.intro @ca112 ( And.intro @ca113 ( And.intro @ca114 ( And.intro @ca115 ( And.intro @ca116 ( And.intro @ca117 ( And.intro @ca118 ( And.intro @ca119 ( And.intro @ca120 ( And.intro @ca121 ( And.intro @ca122 ( And.intro @ca123 ( And.intro @ca124 ( And.intro @ca125 ( And.intro @ca126 ( And.intro @ca127 ( And.intro @ca128 ( And.intro @ca129 ( And.intro @ca130 ( And.intro @ca131 ( And.intro @ca132 ( And.intro @ca133 ( And.intro @ca134 ( And.intro @ca136 ( And.intro @ca137 ( And.intro @ca138 ( And.intro @ca139 ( And.intro @ca140 ( And.intro @ca141 ( And.intro @ca142 ( And.intro @ca143 ( And.intro @ca144 ( And.intro @ca145 ( And.intro @ca146 ( And.intro @ca147 ( And.intro @ca148 ( And.intro @ca150 ( And.intro @ca151 ( And.intro @ca152 ( And.intro @ca153 ( And.intro @ca154 ( And.intro @ca156 ( And.intro @ca158 ( And.intro @rs3 ( And.intro @rs4 ( And.intro @rs5 ( And.intro @rs6 ( And.intro @rs7 ( And.intro @rs8 ( And.intro @rs9 ( And.intro @rs10 ( And.intro @rs11 ( And.intro @rs12 ( And.intro @rs13 ( And.intro @rs14 ( And.intro @rs15 ( And.intro @rs16 ( And.intro @rs17 ( And.intro @rs18 ( And.intro @rs19 ( And.intro @rs20 ( And.intro @rs21 ( And.intro @rs22 ( And.intro @rs23 ( And.intro @rs24 ( And.intro @rs25 ( And.intro @rs26 ( And.intro @rs27 ( And.intro @rs28 ( And.intro @rs29 ( And.intro @rs30 ( And.intro @rs31 ( And.intro @rs32 ( And.intro @rs33 ( And.intro @rs34 ( And.intro @rs35 ( And.intro @rs36 ( And.intro @rs37 ( And.intro @rs38 ( And.intro @rs39 ( And.intro @rs40 ( And.intro @rs41 ( And.intro @rs42 ( And.intro @rs43 ( And.intro @rs44 ( And.intro @rs45 ( And.intro @rs46 ( And.intro @rs47 ( And.intro @rs48 ( And.intro @rs49 ( And.intro @rs50 ( And.intro @rs51 ( And.intro @rs52 ( And.intro @rs53 ( And.intro @rs54 ( And.intro @rs55 ( And.intro @rs56 ( And.intro @rs57 ( And.intro @rs58 ( And.intro @rs59 ( And.intro @rs60 ( And.intro @rs61 ( And.intro @rs62 ( And.intro @rs63 ( And.intro @rs64 ( And.intro @rs65 ( And.intro @rs66 ( And.intro @rs67 ( And.intro @rs68 ( And.intro @rs69 ( And.intro @rs70 ( And.intro @rs71 ( And.intro @rs72 ( And.intro @rs73 ( And.intro @rs74 ( And.intro @rs75 ( And.intro @rs76 ( And.intro @rs77 ( And.intro @rs78 ( And.intro @rs79 ( And.intro @rs80 ( And.intro @rs81 ( And.intro @rs82 ( And.intro @rs83 ( And.intro @rs84 ( And.intro @rs85 ( And.intro @rs86 ( And.intro @rs87 ( And.intro @rs88 ( And.intro @rs89 ( And.intro @rs90 ( And.intro @rs91 ( And.intro @rs92 ( And.intro @rs93 ( And.intro @rs94 ( And.intro @rs95 ( And.intro @rs96 ( And.intro @rs97 ( And.intro @rs98 ( And.intro @rs99 ( And.intro @rs100 ( And.intro @rs101 ( And.intro @rs102 ( And.intro @rs103 ( And.intro @rs104 ( And.intro @rs105 ( And.intro @rs106 ( And.intro @rs107 ( And.intro @rs108 ( And.intro @rs109 ( And.intro @rs110 ( And.intro @rs111 ( And.intro @rs112 ( And.intro @rs113 ( And.intro @rs114 ( And.intro @rs115 ( And.intro @rs116 ( And.intro @rs117 ( And.intro @rs118 ( And.intro @rs119 ( And.intro @rs120 ( And.intro @rs121 ( And.intro @rs122 ( And.intro @rs123 ( And.intro @rs124 ( And.intro @rs125 ( And.intro @rs126 ( And.intro @rs127 ( And.intro @rs128 ( And.intro @rs129 ( And.intro @rs130 ( And.intro @rs131 ( And.intro @rs132 ( And.intro @rs133 ( And.intro @rs134 ( And.intro @rs136 ( And.intro @rs137 ( And.intro @rs138 ( And.intro @rs139 ( And.intro @rs140 ( And.intro @rs141 ( And.intro @rs142 ( And.intro @rs143 ( And.intro @rs144 ( And.intro @rs145 ( And.intro @rs146 ( And.intro @rs147 ( And.intro @rs148 ( And.intro @rs150 ( And.intro @rs151 ( And.intro @rs152 ( And.intro @rs153 ( And.intro @rs154 ( And.intro @rs156 (@rs158)))))))))))))))))))))))))))))))))))))))))))))))))))))))))))))))))))))))))))))))))))))))))))))))))))))))))))))))))))))))))))))))))))))))))))))))))))))))))))))))))))))))))))))))))))))))))))))))))))))))))))))))))))))))))))))))))))))))))))))))))))))))))))))))))))))))))))))))))))))))))))))))))))))))))))))))))))))))))))))))))))))))))))))))))))))))))))))))))))))))))))))))))))))))))))))))))))))))))))))))))))))))))))))

end Go.Proofs.Ytjojofnkgeiadaa
