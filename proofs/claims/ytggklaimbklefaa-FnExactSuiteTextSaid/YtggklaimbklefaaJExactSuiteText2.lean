/- Part 2 of the proof: its texts, one behind the other. -/
import Derived.Test.YtggklaimbklefaaProg
import Derived.Test.YtggklaimbklefaaJExactSuiteText1
import Derived.KernelRfl
import Derived.Test.YtggklaimbklefaaRows
import Derived.HandedShaped

/- Closed facts of this seat: layouts of types, and which functions have bodies. -/
set_option maxRecDepth 100000
namespace Go.Proofs.Ytggklaimbklefaa

theorem ld3 {A : View} (a : Addr) : A.loadv Try.prog 3 a = A.cell a := loadv_cell (n := 1) (by kernel_rfl) a
theorem ld4 {A : View} (a : Addr) : A.loadv Try.prog 4 a = A.cell a := loadv_cell (n := 1) (by kernel_rfl) a
theorem ld5 {A : View} (a : Addr) : A.loadv Try.prog 5 a = A.cell a := loadv_cell (n := 1) (by kernel_rfl) a
theorem ld9 {A : View} (a : Addr) : A.loadv Try.prog 9 a = A.cell a := loadv_cell (n := 1) (by kernel_rfl) a
theorem ld22 {A : View} (a : Addr) : A.loadv Try.prog 22 a = A.cell a := loadv_cell (n := 1) (by kernel_rfl) a
theorem ld32 {A : View} (a : Addr) : A.loadv Try.prog 32 a = A.cell a := loadv_cell (n := 1) (by kernel_rfl) a
theorem ld33 {A : View} (a : Addr) : A.loadv Try.prog 33 a = A.cell a := loadv_cell (n := 1) (by kernel_rfl) a
theorem ld35 {A : View} (a : Addr) : A.loadv Try.prog 35 a = (A.part a 2).map fun cs => .agg cs.toArray := loadv_agg (by kernel_rfl) a
theorem ld38 {A : View} (a : Addr) : A.loadv Try.prog 38 a = A.cell a := loadv_cell (n := 1) (by kernel_rfl) a
theorem ld39 {A : View} (a : Addr) : A.loadv Try.prog 39 a = A.cell a := loadv_cell (n := 1) (by kernel_rfl) a
theorem ld41 {A : View} (a : Addr) : A.loadv Try.prog 41 a = (A.part a 2).map fun cs => .agg cs.toArray := loadv_agg (by kernel_rfl) a
theorem ld54 {A : View} (a : Addr) : A.loadv Try.prog 54 a = A.cell a := loadv_cell (n := 1) (by kernel_rfl) a
theorem ld56 {A : View} (a : Addr) : A.loadv Try.prog 56 a = (A.part a 2).map fun cs => .agg cs.toArray := loadv_agg (by kernel_rfl) a
theorem ld60 {A : View} (a : Addr) : A.loadv Try.prog 60 a = A.cell a := loadv_cell (n := 1) (by kernel_rfl) a
theorem ld75 {A : View} (a : Addr) : A.loadv Try.prog 75 a = (A.part a 4).map fun cs => .agg cs.toArray := loadv_agg (by kernel_rfl) a
theorem ld78 {A : View} (a : Addr) : A.loadv Try.prog 78 a = (A.part a 4).map fun cs => .agg cs.toArray := loadv_agg (by kernel_rfl) a
theorem ld98 {A : View} (a : Addr) : A.loadv Try.prog 98 a = (A.part a 4).map fun cs => .agg cs.toArray := loadv_agg (by kernel_rfl) a
theorem ld100 {A : View} (a : Addr) : A.loadv Try.prog 100 a = (A.part a 4).map fun cs => .agg cs.toArray := loadv_agg (by kernel_rfl) a
theorem sz3 : (Try.prog.info? 3).map (·.size) = some 1 := by kernel_rfl
theorem sz4 : (Try.prog.info? 4).map (·.size) = some 1 := by kernel_rfl
theorem sz9 : (Try.prog.info? 9).map (·.size) = some 1 := by kernel_rfl
theorem sz22 : (Try.prog.info? 22).map (·.size) = some 1 := by kernel_rfl
theorem sz38 : (Try.prog.info? 38).map (·.size) = some 1 := by kernel_rfl
theorem sz39 : (Try.prog.info? 39).map (·.size) = some 1 := by kernel_rfl
theorem sz41 : (Try.prog.info? 41).map (·.size) = some 2 := by kernel_rfl
theorem sz54 : (Try.prog.info? 54).map (·.size) = some 1 := by kernel_rfl
theorem sz56 : (Try.prog.info? 56).map (·.size) = some 2 := by kernel_rfl
theorem sz60 : (Try.prog.info? 60).map (·.size) = some 1 := by kernel_rfl
theorem sz75 : (Try.prog.info? 75).map (·.size) = some 4 := by kernel_rfl
theorem sz78 : (Try.prog.info? 78).map (·.size) = some 4 := by kernel_rfl
theorem fa35_0 {A : View} {K : Value → View → Prop} (a : Addr) : afaddr Try.prog 35 (.pointer (some a)) 0 A K = K (.pointer (some (a.add 0))) A := afaddr_at (by kernel_rfl) a
theorem fa35_1 {A : View} {K : Value → View → Prop} (a : Addr) : afaddr Try.prog 35 (.pointer (some a)) 1 A K = K (.pointer (some (a.add 1))) A := afaddr_at (by kernel_rfl) a
theorem fa41_0 {A : View} {K : Value → View → Prop} (a : Addr) : afaddr Try.prog 41 (.pointer (some a)) 0 A K = K (.pointer (some (a.add 0))) A := afaddr_at (by kernel_rfl) a
theorem fa41_1 {A : View} {K : Value → View → Prop} (a : Addr) : afaddr Try.prog 41 (.pointer (some a)) 1 A K = K (.pointer (some (a.add 1))) A := afaddr_at (by kernel_rfl) a
theorem fa56_0 {A : View} {K : Value → View → Prop} (a : Addr) : afaddr Try.prog 56 (.pointer (some a)) 0 A K = K (.pointer (some (a.add 0))) A := afaddr_at (by kernel_rfl) a
theorem fa56_1 {A : View} {K : Value → View → Prop} (a : Addr) : afaddr Try.prog 56 (.pointer (some a)) 1 A K = K (.pointer (some (a.add 1))) A := afaddr_at (by kernel_rfl) a
theorem fa62_0 {A : View} {K : Value → View → Prop} (a : Addr) : afaddr Try.prog 62 (.pointer (some a)) 0 A K = K (.pointer (some (a.add 0))) A := afaddr_at (by kernel_rfl) a
theorem fa62_1 {A : View} {K : Value → View → Prop} (a : Addr) : afaddr Try.prog 62 (.pointer (some a)) 1 A K = K (.pointer (some (a.add 1))) A := afaddr_at (by kernel_rfl) a
theorem fa75_0 {A : View} {K : Value → View → Prop} (a : Addr) : afaddr Try.prog 75 (.pointer (some a)) 0 A K = K (.pointer (some (a.add 0))) A := afaddr_at (by kernel_rfl) a
theorem fa75_1 {A : View} {K : Value → View → Prop} (a : Addr) : afaddr Try.prog 75 (.pointer (some a)) 1 A K = K (.pointer (some (a.add 1))) A := afaddr_at (by kernel_rfl) a
theorem fa75_2 {A : View} {K : Value → View → Prop} (a : Addr) : afaddr Try.prog 75 (.pointer (some a)) 2 A K = K (.pointer (some (a.add 2))) A := afaddr_at (by kernel_rfl) a
theorem fa75_3 {A : View} {K : Value → View → Prop} (a : Addr) : afaddr Try.prog 75 (.pointer (some a)) 3 A K = K (.pointer (some (a.add 3))) A := afaddr_at (by kernel_rfl) a
theorem fa78_0 {A : View} {K : Value → View → Prop} (a : Addr) : afaddr Try.prog 78 (.pointer (some a)) 0 A K = K (.pointer (some (a.add 0))) A := afaddr_at (by kernel_rfl) a
theorem fa78_1 {A : View} {K : Value → View → Prop} (a : Addr) : afaddr Try.prog 78 (.pointer (some a)) 1 A K = K (.pointer (some (a.add 1))) A := afaddr_at (by kernel_rfl) a
theorem fa78_2 {A : View} {K : Value → View → Prop} (a : Addr) : afaddr Try.prog 78 (.pointer (some a)) 2 A K = K (.pointer (some (a.add 2))) A := afaddr_at (by kernel_rfl) a
theorem fa78_3 {A : View} {K : Value → View → Prop} (a : Addr) : afaddr Try.prog 78 (.pointer (some a)) 3 A K = K (.pointer (some (a.add 3))) A := afaddr_at (by kernel_rfl) a
theorem fa83_0 {A : View} {K : Value → View → Prop} (a : Addr) : afaddr Try.prog 83 (.pointer (some a)) 0 A K = K (.pointer (some (a.add 0))) A := afaddr_at (by kernel_rfl) a
theorem fa83_1 {A : View} {K : Value → View → Prop} (a : Addr) : afaddr Try.prog 83 (.pointer (some a)) 1 A K = K (.pointer (some (a.add 1))) A := afaddr_at (by kernel_rfl) a
theorem fa98_0 {A : View} {K : Value → View → Prop} (a : Addr) : afaddr Try.prog 98 (.pointer (some a)) 0 A K = K (.pointer (some (a.add 0))) A := afaddr_at (by kernel_rfl) a
theorem fa98_1 {A : View} {K : Value → View → Prop} (a : Addr) : afaddr Try.prog 98 (.pointer (some a)) 1 A K = K (.pointer (some (a.add 1))) A := afaddr_at (by kernel_rfl) a
theorem fa98_2 {A : View} {K : Value → View → Prop} (a : Addr) : afaddr Try.prog 98 (.pointer (some a)) 2 A K = K (.pointer (some (a.add 2))) A := afaddr_at (by kernel_rfl) a
theorem fa98_3 {A : View} {K : Value → View → Prop} (a : Addr) : afaddr Try.prog 98 (.pointer (some a)) 3 A K = K (.pointer (some (a.add 3))) A := afaddr_at (by kernel_rfl) a
theorem fa100_0 {A : View} {K : Value → View → Prop} (a : Addr) : afaddr Try.prog 100 (.pointer (some a)) 0 A K = K (.pointer (some (a.add 0))) A := afaddr_at (by kernel_rfl) a
theorem fa100_1 {A : View} {K : Value → View → Prop} (a : Addr) : afaddr Try.prog 100 (.pointer (some a)) 1 A K = K (.pointer (some (a.add 1))) A := afaddr_at (by kernel_rfl) a
theorem fa100_2 {A : View} {K : Value → View → Prop} (a : Addr) : afaddr Try.prog 100 (.pointer (some a)) 2 A K = K (.pointer (some (a.add 2))) A := afaddr_at (by kernel_rfl) a
theorem fa100_3 {A : View} {K : Value → View → Prop} (a : Addr) : afaddr Try.prog 100 (.pointer (some a)) 3 A K = K (.pointer (some (a.add 3))) A := afaddr_at (by kernel_rfl) a
theorem ia22 {A : View} {K : Value → View → Prop} {a : Addr} {n c : Nat} {k : IntKind} {i : Int} (h0 : 0 ≤ i) (h1 : i < n) : aiaddr Try.prog 22 (.slice (some a) n c) (.int k i) A K = K (.pointer (some (a.add (i.toNat * 1)))) A := aiaddr_at (by kernel_rfl) h0 h1
theorem ia24 {A : View} {K : Value → View → Prop} {a : Addr} {n c : Nat} {k : IntKind} {i : Int} (h0 : 0 ≤ i) (h1 : i < n) : aiaddr Try.prog 24 (.slice (some a) n c) (.int k i) A K = K (.pointer (some (a.add (i.toNat * 2)))) A := aiaddr_at (by kernel_rfl) h0 h1
theorem ia32 {A : View} {K : Value → View → Prop} {a : Addr} {n c : Nat} {k : IntKind} {i : Int} (h0 : 0 ≤ i) (h1 : i < n) : aiaddr Try.prog 32 (.slice (some a) n c) (.int k i) A K = K (.pointer (some (a.add (i.toNat * 4)))) A := aiaddr_at (by kernel_rfl) h0 h1
theorem ia33 {A : View} {K : Value → View → Prop} {a : Addr} {n c : Nat} {k : IntKind} {i : Int} (h0 : 0 ≤ i) (h1 : i < n) : aiaddr Try.prog 33 (.slice (some a) n c) (.int k i) A K = K (.pointer (some (a.add (i.toNat * 4)))) A := aiaddr_at (by kernel_rfl) h0 h1
theorem ia38 {A : View} {K : Value → View → Prop} {a : Addr} {n c : Nat} {k : IntKind} {i : Int} (h0 : 0 ≤ i) (h1 : i < n) : aiaddr Try.prog 38 (.slice (some a) n c) (.int k i) A K = K (.pointer (some (a.add (i.toNat * 4)))) A := aiaddr_at (by kernel_rfl) h0 h1
theorem ia39 {A : View} {K : Value → View → Prop} {a : Addr} {n c : Nat} {k : IntKind} {i : Int} (h0 : 0 ≤ i) (h1 : i < n) : aiaddr Try.prog 39 (.slice (some a) n c) (.int k i) A K = K (.pointer (some (a.add (i.toNat * 4)))) A := aiaddr_at (by kernel_rfl) h0 h1
theorem ia54 {A : View} {K : Value → View → Prop} {a : Addr} {n c : Nat} {k : IntKind} {i : Int} (h0 : 0 ≤ i) (h1 : i < n) : aiaddr Try.prog 54 (.slice (some a) n c) (.int k i) A K = K (.pointer (some (a.add (i.toNat * 1)))) A := aiaddr_at (by kernel_rfl) h0 h1
theorem ia90 {A : View} {K : Value → View → Prop} {a : Addr} {n c : Nat} {k : IntKind} {i : Int} (h0 : 0 ≤ i) (h1 : i < n) : aiaddr Try.prog 90 (.slice (some a) n c) (.int k i) A K = K (.pointer (some (a.add (i.toNat * 1)))) A := aiaddr_at (by kernel_rfl) h0 h1
theorem sl9lo {A : View} {K : Value → View → Prop} {s : ByteArray} {kl : IntKind} {lo : Int} (h0 : 0 ≤ lo) (h1 : lo ≤ s.size) : aslice Try.prog 9 (.string s) (some (.int kl lo)) none none A K = K (.string (s.extract lo.toNat s.size)) A := aslice_strlo (by kernel_rfl) h0 h1
theorem sl9hi {A : View} {K : Value → View → Prop} {s : ByteArray} {kh : IntKind} {hi : Int} (h0 : 0 ≤ hi) (h1 : hi ≤ s.size) : aslice Try.prog 9 (.string s) none (some (.int kh hi)) none A K = K (.string (s.extract 0 hi.toNat)) A := aslice_strhi (by kernel_rfl) h0 h1
theorem sl9 {A : View} {K : Value → View → Prop} {s : ByteArray} {kl kh : IntKind} {lo hi : Int} (h0 : 0 ≤ lo) (h1 : lo ≤ hi) (h2 : hi ≤ s.size) : aslice Try.prog 9 (.string s) (some (.int kl lo)) (some (.int kh hi)) none A K = K (.string (s.extract lo.toNat hi.toNat)) A := aslice_str (by kernel_rfl) h0 h1 h2
theorem sl22lo {A : View} {K : Value → View → Prop} {a : Option Addr} {n c : Nat} {kl : IntKind} {lo : Int} (h0 : 0 ≤ lo) (h1 : lo ≤ n) : aslice Try.prog 22 (.slice a n c) (some (.int kl lo)) none none A K = K (.slice (cutAddr a lo.toNat c 1) (n - lo.toNat) (c - lo.toNat)) A := aslice_lo (by kernel_rfl) h0 h1
theorem sl22hi {A : View} {K : Value → View → Prop} {a : Option Addr} {n c : Nat} {kh : IntKind} {hi : Int} (h0 : 0 ≤ hi) (h1 : hi ≤ c) : aslice Try.prog 22 (.slice a n c) none (some (.int kh hi)) none A K = K (.slice (cutAddr a 0 c 1) hi.toNat c) A := aslice_hi (by kernel_rfl) h0 h1
theorem sl22 {A : View} {K : Value → View → Prop} {a : Option Addr} {n c : Nat} {kl kh : IntKind} {lo hi : Int} (h0 : 0 ≤ lo) (h1 : lo ≤ hi) (h2 : hi ≤ c) : aslice Try.prog 22 (.slice a n c) (some (.int kl lo)) (some (.int kh hi)) none A K = K (.slice (cutAddr a lo.toNat c 1) (hi.toNat - lo.toNat) (c - lo.toNat)) A := aslice_both (by kernel_rfl) h0 h1 h2
theorem sl22hm {A : View} {K : Value → View → Prop} {a : Option Addr} {n c : Nat} {kh km : IntKind} {hi mx : Int} (h0 : 0 ≤ hi) (h1 : hi ≤ mx) (h2 : mx ≤ c) : aslice Try.prog 22 (.slice a n c) none (some (.int kh hi)) (some (.int km mx)) A K = K (.slice (cutAddr a 0 mx.toNat 1) hi.toNat mx.toNat) A := aslice_hm (by kernel_rfl) h0 h1 h2
theorem sl22lhm {A : View} {K : Value → View → Prop} {a : Option Addr} {n c : Nat} {kl kh km : IntKind} {lo hi mx : Int} (h0 : 0 ≤ lo) (h1 : lo ≤ hi) (h2 : hi ≤ mx) (h3 : mx ≤ c) : aslice Try.prog 22 (.slice a n c) (some (.int kl lo)) (some (.int kh hi)) (some (.int km mx)) A K = K (.slice (cutAddr a lo.toNat mx.toNat 1) (hi.toNat - lo.toNat) (mx.toNat - lo.toNat)) A := aslice_lhm (by kernel_rfl) h0 h1 h2 h3
theorem sl24lo {A : View} {K : Value → View → Prop} {a : Option Addr} {n c : Nat} {kl : IntKind} {lo : Int} (h0 : 0 ≤ lo) (h1 : lo ≤ n) : aslice Try.prog 24 (.slice a n c) (some (.int kl lo)) none none A K = K (.slice (cutAddr a lo.toNat c 2) (n - lo.toNat) (c - lo.toNat)) A := aslice_lo (by kernel_rfl) h0 h1
theorem sl24hi {A : View} {K : Value → View → Prop} {a : Option Addr} {n c : Nat} {kh : IntKind} {hi : Int} (h0 : 0 ≤ hi) (h1 : hi ≤ c) : aslice Try.prog 24 (.slice a n c) none (some (.int kh hi)) none A K = K (.slice (cutAddr a 0 c 2) hi.toNat c) A := aslice_hi (by kernel_rfl) h0 h1
theorem sl24 {A : View} {K : Value → View → Prop} {a : Option Addr} {n c : Nat} {kl kh : IntKind} {lo hi : Int} (h0 : 0 ≤ lo) (h1 : lo ≤ hi) (h2 : hi ≤ c) : aslice Try.prog 24 (.slice a n c) (some (.int kl lo)) (some (.int kh hi)) none A K = K (.slice (cutAddr a lo.toNat c 2) (hi.toNat - lo.toNat) (c - lo.toNat)) A := aslice_both (by kernel_rfl) h0 h1 h2
theorem sl24hm {A : View} {K : Value → View → Prop} {a : Option Addr} {n c : Nat} {kh km : IntKind} {hi mx : Int} (h0 : 0 ≤ hi) (h1 : hi ≤ mx) (h2 : mx ≤ c) : aslice Try.prog 24 (.slice a n c) none (some (.int kh hi)) (some (.int km mx)) A K = K (.slice (cutAddr a 0 mx.toNat 2) hi.toNat mx.toNat) A := aslice_hm (by kernel_rfl) h0 h1 h2
theorem sl24lhm {A : View} {K : Value → View → Prop} {a : Option Addr} {n c : Nat} {kl kh km : IntKind} {lo hi mx : Int} (h0 : 0 ≤ lo) (h1 : lo ≤ hi) (h2 : hi ≤ mx) (h3 : mx ≤ c) : aslice Try.prog 24 (.slice a n c) (some (.int kl lo)) (some (.int kh hi)) (some (.int km mx)) A K = K (.slice (cutAddr a lo.toNat mx.toNat 2) (hi.toNat - lo.toNat) (mx.toNat - lo.toNat)) A := aslice_lhm (by kernel_rfl) h0 h1 h2 h3
theorem sl38lo {A : View} {K : Value → View → Prop} {a : Option Addr} {n c : Nat} {kl : IntKind} {lo : Int} (h0 : 0 ≤ lo) (h1 : lo ≤ n) : aslice Try.prog 38 (.slice a n c) (some (.int kl lo)) none none A K = K (.slice (cutAddr a lo.toNat c 4) (n - lo.toNat) (c - lo.toNat)) A := aslice_lo (by kernel_rfl) h0 h1
theorem sl38hi {A : View} {K : Value → View → Prop} {a : Option Addr} {n c : Nat} {kh : IntKind} {hi : Int} (h0 : 0 ≤ hi) (h1 : hi ≤ c) : aslice Try.prog 38 (.slice a n c) none (some (.int kh hi)) none A K = K (.slice (cutAddr a 0 c 4) hi.toNat c) A := aslice_hi (by kernel_rfl) h0 h1
theorem sl38 {A : View} {K : Value → View → Prop} {a : Option Addr} {n c : Nat} {kl kh : IntKind} {lo hi : Int} (h0 : 0 ≤ lo) (h1 : lo ≤ hi) (h2 : hi ≤ c) : aslice Try.prog 38 (.slice a n c) (some (.int kl lo)) (some (.int kh hi)) none A K = K (.slice (cutAddr a lo.toNat c 4) (hi.toNat - lo.toNat) (c - lo.toNat)) A := aslice_both (by kernel_rfl) h0 h1 h2
theorem sl38hm {A : View} {K : Value → View → Prop} {a : Option Addr} {n c : Nat} {kh km : IntKind} {hi mx : Int} (h0 : 0 ≤ hi) (h1 : hi ≤ mx) (h2 : mx ≤ c) : aslice Try.prog 38 (.slice a n c) none (some (.int kh hi)) (some (.int km mx)) A K = K (.slice (cutAddr a 0 mx.toNat 4) hi.toNat mx.toNat) A := aslice_hm (by kernel_rfl) h0 h1 h2
theorem sl38lhm {A : View} {K : Value → View → Prop} {a : Option Addr} {n c : Nat} {kl kh km : IntKind} {lo hi mx : Int} (h0 : 0 ≤ lo) (h1 : lo ≤ hi) (h2 : hi ≤ mx) (h3 : mx ≤ c) : aslice Try.prog 38 (.slice a n c) (some (.int kl lo)) (some (.int kh hi)) (some (.int km mx)) A K = K (.slice (cutAddr a lo.toNat mx.toNat 4) (hi.toNat - lo.toNat) (mx.toNat - lo.toNat)) A := aslice_lhm (by kernel_rfl) h0 h1 h2 h3
theorem sl39lo {A : View} {K : Value → View → Prop} {a : Option Addr} {n c : Nat} {kl : IntKind} {lo : Int} (h0 : 0 ≤ lo) (h1 : lo ≤ n) : aslice Try.prog 39 (.slice a n c) (some (.int kl lo)) none none A K = K (.slice (cutAddr a lo.toNat c 4) (n - lo.toNat) (c - lo.toNat)) A := aslice_lo (by kernel_rfl) h0 h1
theorem sl39hi {A : View} {K : Value → View → Prop} {a : Option Addr} {n c : Nat} {kh : IntKind} {hi : Int} (h0 : 0 ≤ hi) (h1 : hi ≤ c) : aslice Try.prog 39 (.slice a n c) none (some (.int kh hi)) none A K = K (.slice (cutAddr a 0 c 4) hi.toNat c) A := aslice_hi (by kernel_rfl) h0 h1
theorem sl39 {A : View} {K : Value → View → Prop} {a : Option Addr} {n c : Nat} {kl kh : IntKind} {lo hi : Int} (h0 : 0 ≤ lo) (h1 : lo ≤ hi) (h2 : hi ≤ c) : aslice Try.prog 39 (.slice a n c) (some (.int kl lo)) (some (.int kh hi)) none A K = K (.slice (cutAddr a lo.toNat c 4) (hi.toNat - lo.toNat) (c - lo.toNat)) A := aslice_both (by kernel_rfl) h0 h1 h2
theorem sl39hm {A : View} {K : Value → View → Prop} {a : Option Addr} {n c : Nat} {kh km : IntKind} {hi mx : Int} (h0 : 0 ≤ hi) (h1 : hi ≤ mx) (h2 : mx ≤ c) : aslice Try.prog 39 (.slice a n c) none (some (.int kh hi)) (some (.int km mx)) A K = K (.slice (cutAddr a 0 mx.toNat 4) hi.toNat mx.toNat) A := aslice_hm (by kernel_rfl) h0 h1 h2
theorem sl39lhm {A : View} {K : Value → View → Prop} {a : Option Addr} {n c : Nat} {kl kh km : IntKind} {lo hi mx : Int} (h0 : 0 ≤ lo) (h1 : lo ≤ hi) (h2 : hi ≤ mx) (h3 : mx ≤ c) : aslice Try.prog 39 (.slice a n c) (some (.int kl lo)) (some (.int kh hi)) (some (.int km mx)) A K = K (.slice (cutAddr a lo.toNat mx.toNat 4) (hi.toNat - lo.toNat) (mx.toNat - lo.toNat)) A := aslice_lhm (by kernel_rfl) h0 h1 h2 h3
theorem sl54lo {A : View} {K : Value → View → Prop} {a : Option Addr} {n c : Nat} {kl : IntKind} {lo : Int} (h0 : 0 ≤ lo) (h1 : lo ≤ n) : aslice Try.prog 54 (.slice a n c) (some (.int kl lo)) none none A K = K (.slice (cutAddr a lo.toNat c 1) (n - lo.toNat) (c - lo.toNat)) A := aslice_lo (by kernel_rfl) h0 h1
theorem sl54hi {A : View} {K : Value → View → Prop} {a : Option Addr} {n c : Nat} {kh : IntKind} {hi : Int} (h0 : 0 ≤ hi) (h1 : hi ≤ c) : aslice Try.prog 54 (.slice a n c) none (some (.int kh hi)) none A K = K (.slice (cutAddr a 0 c 1) hi.toNat c) A := aslice_hi (by kernel_rfl) h0 h1
theorem sl54 {A : View} {K : Value → View → Prop} {a : Option Addr} {n c : Nat} {kl kh : IntKind} {lo hi : Int} (h0 : 0 ≤ lo) (h1 : lo ≤ hi) (h2 : hi ≤ c) : aslice Try.prog 54 (.slice a n c) (some (.int kl lo)) (some (.int kh hi)) none A K = K (.slice (cutAddr a lo.toNat c 1) (hi.toNat - lo.toNat) (c - lo.toNat)) A := aslice_both (by kernel_rfl) h0 h1 h2
theorem sl54hm {A : View} {K : Value → View → Prop} {a : Option Addr} {n c : Nat} {kh km : IntKind} {hi mx : Int} (h0 : 0 ≤ hi) (h1 : hi ≤ mx) (h2 : mx ≤ c) : aslice Try.prog 54 (.slice a n c) none (some (.int kh hi)) (some (.int km mx)) A K = K (.slice (cutAddr a 0 mx.toNat 1) hi.toNat mx.toNat) A := aslice_hm (by kernel_rfl) h0 h1 h2
theorem sl54lhm {A : View} {K : Value → View → Prop} {a : Option Addr} {n c : Nat} {kl kh km : IntKind} {lo hi mx : Int} (h0 : 0 ≤ lo) (h1 : lo ≤ hi) (h2 : hi ≤ mx) (h3 : mx ≤ c) : aslice Try.prog 54 (.slice a n c) (some (.int kl lo)) (some (.int kh hi)) (some (.int km mx)) A K = K (.slice (cutAddr a lo.toNat mx.toNat 1) (hi.toNat - lo.toNat) (mx.toNat - lo.toNat)) A := aslice_lhm (by kernel_rfl) h0 h1 h2 h3
theorem ix9 {A : View} {K : Value → View → Prop} {s : ByteArray} {k : IntKind} {i : Int} (h0 : 0 ≤ i) (h1 : i < s.size) : aindex Try.prog 9 (.string s) (.int k i) A K = K (.int .u8 (sbyte s i.toNat)) A := aindex_at (by kernel_rfl) h0 h1
theorem al41 {A : View} {K : Value → View → Prop} : aalloc Try.prog 41 A K = ∀ b, A b = none → K (.pointer (some ⟨b, 0, none⟩)) (A.set b ⟨41, [(.slice none 0 0), (.slice none 0 0)], 2, true⟩) := aalloc_at (by kernel_rfl)
theorem zc41 : zeroCells? Try.prog 41 = some [(.slice none 0 0), (.slice none 0 0)] := by kernel_rfl
theorem al56 {A : View} {K : Value → View → Prop} : aalloc Try.prog 56 A K = ∀ b, A b = none → K (.pointer (some ⟨b, 0, none⟩)) (A.set b ⟨56, [(.int .i64 0), (.string ⟨#[]⟩)], 2, true⟩) := aalloc_at (by kernel_rfl)
theorem zc56 : zeroCells? Try.prog 56 = some [(.int .i64 0), (.string ⟨#[]⟩)] := by kernel_rfl
theorem al62 {A : View} {K : Value → View → Prop} : aalloc Try.prog 62 A K = ∀ b, A b = none → K (.pointer (some ⟨b, 0, none⟩)) (A.set b ⟨62, [(.pointer none), (.slice none 0 0)], 2, true⟩) := aalloc_at (by kernel_rfl)
theorem zc62 : zeroCells? Try.prog 62 = some [(.pointer none), (.slice none 0 0)] := by kernel_rfl
theorem al75 {A : View} {K : Value → View → Prop} : aalloc Try.prog 75 A K = ∀ b, A b = none → K (.pointer (some ⟨b, 0, none⟩)) (A.set b ⟨75, [(.string ⟨#[]⟩), (.int .i64 0), (.slice none 0 0), (.bool false)], 4, true⟩) := aalloc_at (by kernel_rfl)
theorem zc75 : zeroCells? Try.prog 75 = some [(.string ⟨#[]⟩), (.int .i64 0), (.slice none 0 0), (.bool false)] := by kernel_rfl
theorem al78 {A : View} {K : Value → View → Prop} : aalloc Try.prog 78 A K = ∀ b, A b = none → K (.pointer (some ⟨b, 0, none⟩)) (A.set b ⟨78, [(.string ⟨#[]⟩), (.string ⟨#[]⟩), (.slice none 0 0), (.slice none 0 0)], 4, true⟩) := aalloc_at (by kernel_rfl)
theorem zc78 : zeroCells? Try.prog 78 = some [(.string ⟨#[]⟩), (.string ⟨#[]⟩), (.slice none 0 0), (.slice none 0 0)] := by kernel_rfl
theorem ln9 {A : View} {K : Value → View → Prop} (ty : TypeId) (cs : Array Bool) (s : ByteArray) : abuiltin Try.prog .len #[9] ty cs #[.string s] A K = K (.int .i64 s.size) A := alen_string (by kernel_rfl) ty cs s
theorem ln22 {A : View} {K : Value → View → Prop} (ty : TypeId) (cs : Array Bool) (a : Option Addr) (n c : Nat) : abuiltin Try.prog .len #[22] ty cs #[.slice a n c] A K = K (.int .i64 n) A := alen_slice (by kernel_rfl) ty cs a n c
theorem ln24 {A : View} {K : Value → View → Prop} (ty : TypeId) (cs : Array Bool) (a : Option Addr) (n c : Nat) : abuiltin Try.prog .len #[24] ty cs #[.slice a n c] A K = K (.int .i64 n) A := alen_slice (by kernel_rfl) ty cs a n c
theorem ln32 {A : View} {K : Value → View → Prop} (ty : TypeId) (cs : Array Bool) (a : Option Addr) (n c : Nat) : abuiltin Try.prog .len #[32] ty cs #[.slice a n c] A K = K (.int .i64 n) A := alen_slice (by kernel_rfl) ty cs a n c
theorem ln33 {A : View} {K : Value → View → Prop} (ty : TypeId) (cs : Array Bool) (a : Option Addr) (n c : Nat) : abuiltin Try.prog .len #[33] ty cs #[.slice a n c] A K = K (.int .i64 n) A := alen_slice (by kernel_rfl) ty cs a n c
theorem ln38 {A : View} {K : Value → View → Prop} (ty : TypeId) (cs : Array Bool) (a : Option Addr) (n c : Nat) : abuiltin Try.prog .len #[38] ty cs #[.slice a n c] A K = K (.int .i64 n) A := alen_slice (by kernel_rfl) ty cs a n c
theorem ln39 {A : View} {K : Value → View → Prop} (ty : TypeId) (cs : Array Bool) (a : Option Addr) (n c : Nat) : abuiltin Try.prog .len #[39] ty cs #[.slice a n c] A K = K (.int .i64 n) A := alen_slice (by kernel_rfl) ty cs a n c
theorem ln54 {A : View} {K : Value → View → Prop} (ty : TypeId) (cs : Array Bool) (a : Option Addr) (n c : Nat) : abuiltin Try.prog .len #[54] ty cs #[.slice a n c] A K = K (.int .i64 n) A := alen_slice (by kernel_rfl) ty cs a n c
theorem ln90 {A : View} {K : Value → View → Prop} (ty : TypeId) (cs : Array Bool) (a : Option Addr) (n c : Nat) : abuiltin Try.prog .len #[90] ty cs #[.slice a n c] A K = K (.int .i64 n) A := alen_slice (by kernel_rfl) ty cs a n c
theorem ln101 {A : View} {K : Value → View → Prop} (ty : TypeId) (cs : Array Bool) (a : Option Addr) (n c : Nat) : abuiltin Try.prog .len #[101] ty cs #[.slice a n c] A K = K (.int .i64 n) A := alen_slice (by kernel_rfl) ty cs a n c
theorem eq4 {A : View} {K : Value → View → Prop} (x y : Operand) (a b : Bool) : abin Try.prog .eql 4 x y (.bool a) (.bool b) A K = K (.bool (a == b)) A := abin_eqb (by kernel_rfl) x y a b
theorem ne4 {A : View} {K : Value → View → Prop} (x y : Operand) (a b : Bool) : abin Try.prog .neq 4 x y (.bool a) (.bool b) A K = K (.bool (!(a == b))) A := abin_neb (by kernel_rfl) x y a b
theorem eqn54 {A : View} {K : Value → View → Prop} (x y : Operand) (n c : Nat) : abin Try.prog .eql 54 x y (.slice none n c) (.slice none 0 0) A K = K (.bool (true)) A := (abin_slice_nil (by kernel_rfl) x y none none n c 0 0 (.inl rfl)).1
theorem eqs54 {A : View} {K : Value → View → Prop} (x y : Operand) (a : Addr) (n c : Nat) : abin Try.prog .eql 54 x y (.slice (some a) n c) (.slice none 0 0) A K = K (.bool (false)) A := (abin_slice_nil (by kernel_rfl) x y (some a) none n c 0 0 (.inr rfl)).1
theorem nen54 {A : View} {K : Value → View → Prop} (x y : Operand) (n c : Nat) : abin Try.prog .neq 54 x y (.slice none n c) (.slice none 0 0) A K = K (.bool (!true)) A := (abin_slice_nil (by kernel_rfl) x y none none n c 0 0 (.inl rfl)).2
theorem nes54 {A : View} {K : Value → View → Prop} (x y : Operand) (a : Addr) (n c : Nat) : abin Try.prog .neq 54 x y (.slice (some a) n c) (.slice none 0 0) A K = K (.bool (!false)) A := (abin_slice_nil (by kernel_rfl) x y (some a) none n c 0 0 (.inr rfl)).2
theorem bt41 (ps : List (Nat × Value)) : Try.prog.built 41 ps = Instr.fill ((#[(0, 1), (1, 1)] : Array (Nat × Nat))[·]?) #[(.slice none 0 0), (.slice none 0 0)] ps := by kernel_rfl
theorem bt56 (ps : List (Nat × Value)) : Try.prog.built 56 ps = Instr.fill ((#[(0, 1), (1, 1)] : Array (Nat × Nat))[·]?) #[(.int .i64 0), (.string ⟨#[]⟩)] ps := by kernel_rfl
theorem bt75 (ps : List (Nat × Value)) : Try.prog.built 75 ps = Instr.fill ((#[(0, 1), (1, 1), (2, 1), (3, 1)] : Array (Nat × Nat))[·]?) #[(.string ⟨#[]⟩), (.int .i64 0), (.slice none 0 0), (.bool false)] ps := by kernel_rfl
theorem bt78 (ps : List (Nat × Value)) : Try.prog.built 78 ps = Instr.fill ((#[(0, 1), (1, 1), (2, 1), (3, 1)] : Array (Nat × Nat))[·]?) #[(.string ⟨#[]⟩), (.string ⟨#[]⟩), (.slice none 0 0), (.slice none 0 0)] ps := by kernel_rfl
theorem bt83 (ps : List (Nat × Value)) : Try.prog.built 83 ps = Instr.fill ((#[(0, 1), (1, 1)] : Array (Nat × Nat))[·]?) #[(.slice none 0 0), (.int .i64 0)] ps := by kernel_rfl
theorem bt121 (ps : List (Nat × Value)) : Try.prog.built 121 ps = Instr.fill ((#[(0, 1), (1, 1), (2, 1)] : Array (Nat × Nat))[·]?) #[(.int .i64 0), (.string ⟨#[]⟩), (.string ⟨#[]⟩)] ps := by kernel_rfl
theorem bu56_0_1 (n0 : Int) (s1 : ByteArray) : Try.prog.built 56 [(0, .int .i64 n0), (1, .string s1)] = some #[.int .i64 n0, .string s1] := by rw [bt56]; rfl
theorem bu75_0_1_2_3 (s0 : ByteArray) (n1 : Int) (a2 : Option Addr) (m2 c2 : Nat) (b3 : Bool) : Try.prog.built 75 [(0, .string s0), (1, .int .i64 n1), (2, .slice a2 m2 c2), (3, .bool b3)] = some #[.string s0, .int .i64 n1, .slice a2 m2 c2, .bool b3] := by rw [bt75]; rfl
theorem bu78_0_1_2_3 (s0 : ByteArray) (s1 : ByteArray) (a2 : Option Addr) (m2 c2 : Nat) (a3 : Option Addr) (m3 c3 : Nat) : Try.prog.built 78 [(0, .string s0), (1, .string s1), (2, .slice a2 m2 c2), (3, .slice a3 m3 c3)] = some #[.string s0, .string s1, .slice a2 m2 c2, .slice a3 m3 c3] := by rw [bt78]; rfl
theorem bu83_0 (a0 : Option Addr) (m0 c0 : Nat) : Try.prog.built 83 [(0, .slice a0 m0 c0)] = some #[.slice a0 m0 c0, (.int .i64 0)] := by rw [bt83]; rfl
theorem bu121_0_1_2 (n0 : Int) (s1 : ByteArray) (s2 : ByteArray) : Try.prog.built 121 [(0, .int .i64 n0), (1, .string s1), (2, .string s2)] = some #[.int .i64 n0, .string s1, .string s2] := by rw [bt121]; rfl
theorem ap22_9 : appT Try.prog 22 9 = some (5, 1, 1) := by kernel_rfl
theorem ap24_24 : appT Try.prog 24 24 = some (56, 2, 24) := by kernel_rfl
theorem ap38_38 : appT Try.prog 38 38 = some (75, 4, 56) := by kernel_rfl
theorem ap39_39 : appT Try.prog 39 39 = some (78, 4, 80) := by kernel_rfl
theorem ap54_54 : appT Try.prog 54 54 = some (9, 1, 16) := by kernel_rfl
theorem ap101_101 : appT Try.prog 101 101 = some (121, 3, 40) := by kernel_rfl
theorem li24 : litT Try.prog 24 = some (56, 2) := by kernel_rfl
theorem li38 : litT Try.prog 38 = some (75, 4) := by kernel_rfl
theorem li39 : litT Try.prog 39 = some (78, 4) := by kernel_rfl
theorem li54 : litT Try.prog 54 = some (9, 1) := by kernel_rfl
theorem li90 : litT Try.prog 90 = some (3, 1) := by kernel_rfl
theorem li101 : litT Try.prog 101 = some (121, 3) := by kernel_rfl
theorem mk38 : makeT Try.prog 38 = some (75, 56, [(.string ⟨#[]⟩), (.int .i64 0), (.slice none 0 0), (.bool false)]) := by kernel_rfl
theorem mk39 : makeT Try.prog 39 = some (78, 80, [(.string ⟨#[]⟩), (.string ⟨#[]⟩), (.slice none 0 0), (.slice none 0 0)]) := by kernel_rfl
theorem mk54 : makeT Try.prog 54 = some (9, 16, [(.string ⟨#[]⟩)]) := by kernel_rfl
theorem ca6 {A : View} {K : Value → View → Prop} (first cap vs : Array Value) : acall Try.prog (.func (.func 6) first cap) vs A K = ACalls Try.prog 6 (first ++ vs ++ cap) A K := acall_at (by kernel_rfl) first cap vs
theorem ca7 {A : View} {K : Value → View → Prop} (first cap vs : Array Value) : acall Try.prog (.func (.func 7) first cap) vs A K = ACalls Try.prog 7 (first ++ vs ++ cap) A K := acall_at (by kernel_rfl) first cap vs
theorem ca8 {A : View} {K : Value → View → Prop} (first cap vs : Array Value) : acall Try.prog (.func (.func 8) first cap) vs A K = ACalls Try.prog 8 (first ++ vs ++ cap) A K := acall_at (by kernel_rfl) first cap vs
theorem ca9 {A : View} {K : Value → View → Prop} (first cap vs : Array Value) : acall Try.prog (.func (.func 9) first cap) vs A K = ACalls Try.prog 9 (first ++ vs ++ cap) A K := acall_at (by kernel_rfl) first cap vs
theorem ca10 {A : View} {K : Value → View → Prop} (first cap vs : Array Value) : acall Try.prog (.func (.func 10) first cap) vs A K = ACalls Try.prog 10 (first ++ vs ++ cap) A K := acall_at (by kernel_rfl) first cap vs
theorem ca11 {A : View} {K : Value → View → Prop} (first cap vs : Array Value) : acall Try.prog (.func (.func 11) first cap) vs A K = ACalls Try.prog 11 (first ++ vs ++ cap) A K := acall_at (by kernel_rfl) first cap vs
theorem ca12 {A : View} {K : Value → View → Prop} (first cap vs : Array Value) : acall Try.prog (.func (.func 12) first cap) vs A K = ACalls Try.prog 12 (first ++ vs ++ cap) A K := acall_at (by kernel_rfl) first cap vs
theorem ca13 {A : View} {K : Value → View → Prop} (first cap vs : Array Value) : acall Try.prog (.func (.func 13) first cap) vs A K = ACalls Try.prog 13 (first ++ vs ++ cap) A K := acall_at (by kernel_rfl) first cap vs
theorem ca14 {A : View} {K : Value → View → Prop} (first cap vs : Array Value) : acall Try.prog (.func (.func 14) first cap) vs A K = ACalls Try.prog 14 (first ++ vs ++ cap) A K := acall_at (by kernel_rfl) first cap vs
theorem ca15 {A : View} {K : Value → View → Prop} (first cap vs : Array Value) : acall Try.prog (.func (.func 15) first cap) vs A K = ACalls Try.prog 15 (first ++ vs ++ cap) A K := acall_at (by kernel_rfl) first cap vs
theorem ca16 {A : View} {K : Value → View → Prop} (first cap vs : Array Value) : acall Try.prog (.func (.func 16) first cap) vs A K = ACalls Try.prog 16 (first ++ vs ++ cap) A K := acall_at (by kernel_rfl) first cap vs
theorem ca17 {A : View} {K : Value → View → Prop} (first cap vs : Array Value) : acall Try.prog (.func (.func 17) first cap) vs A K = ACalls Try.prog 17 (first ++ vs ++ cap) A K := acall_at (by kernel_rfl) first cap vs
theorem ca18 {A : View} {K : Value → View → Prop} (first cap vs : Array Value) : acall Try.prog (.func (.func 18) first cap) vs A K = ACalls Try.prog 18 (first ++ vs ++ cap) A K := acall_at (by kernel_rfl) first cap vs
theorem ca19 {A : View} {K : Value → View → Prop} (first cap vs : Array Value) : acall Try.prog (.func (.func 19) first cap) vs A K = ACalls Try.prog 19 (first ++ vs ++ cap) A K := acall_at (by kernel_rfl) first cap vs
theorem ca20 {A : View} {K : Value → View → Prop} (first cap vs : Array Value) : acall Try.prog (.func (.func 20) first cap) vs A K = ACalls Try.prog 20 (first ++ vs ++ cap) A K := acall_at (by kernel_rfl) first cap vs
theorem ca21 {A : View} {K : Value → View → Prop} (first cap vs : Array Value) : acall Try.prog (.func (.func 21) first cap) vs A K = ACalls Try.prog 21 (first ++ vs ++ cap) A K := acall_at (by kernel_rfl) first cap vs
theorem ca22 {A : View} {K : Value → View → Prop} (first cap vs : Array Value) : acall Try.prog (.func (.func 22) first cap) vs A K = ACalls Try.prog 22 (first ++ vs ++ cap) A K := acall_at (by kernel_rfl) first cap vs
theorem ca23 {A : View} {K : Value → View → Prop} (first cap vs : Array Value) : acall Try.prog (.func (.func 23) first cap) vs A K = ACalls Try.prog 23 (first ++ vs ++ cap) A K := acall_at (by kernel_rfl) first cap vs
theorem ca24 {A : View} {K : Value → View → Prop} (first cap vs : Array Value) : acall Try.prog (.func (.func 24) first cap) vs A K = ACalls Try.prog 24 (first ++ vs ++ cap) A K := acall_at (by kernel_rfl) first cap vs
theorem ca25 {A : View} {K : Value → View → Prop} (first cap vs : Array Value) : acall Try.prog (.func (.func 25) first cap) vs A K = ACalls Try.prog 25 (first ++ vs ++ cap) A K := acall_at (by kernel_rfl) first cap vs
theorem ca26 {A : View} {K : Value → View → Prop} (first cap vs : Array Value) : acall Try.prog (.func (.func 26) first cap) vs A K = ACalls Try.prog 26 (first ++ vs ++ cap) A K := acall_at (by kernel_rfl) first cap vs
theorem ca27 {A : View} {K : Value → View → Prop} (first cap vs : Array Value) : acall Try.prog (.func (.func 27) first cap) vs A K = ACalls Try.prog 27 (first ++ vs ++ cap) A K := acall_at (by kernel_rfl) first cap vs
theorem ca28 {A : View} {K : Value → View → Prop} (first cap vs : Array Value) : acall Try.prog (.func (.func 28) first cap) vs A K = ACalls Try.prog 28 (first ++ vs ++ cap) A K := acall_at (by kernel_rfl) first cap vs
theorem ca29 {A : View} {K : Value → View → Prop} (first cap vs : Array Value) : acall Try.prog (.func (.func 29) first cap) vs A K = ACalls Try.prog 29 (first ++ vs ++ cap) A K := acall_at (by kernel_rfl) first cap vs
theorem ca30 {A : View} {K : Value → View → Prop} (first cap vs : Array Value) : acall Try.prog (.func (.func 30) first cap) vs A K = ACalls Try.prog 30 (first ++ vs ++ cap) A K := acall_at (by kernel_rfl) first cap vs
theorem ca31 {A : View} {K : Value → View → Prop} (first cap vs : Array Value) : acall Try.prog (.func (.func 31) first cap) vs A K = ACalls Try.prog 31 (first ++ vs ++ cap) A K := acall_at (by kernel_rfl) first cap vs
theorem ca32 {A : View} {K : Value → View → Prop} (first cap vs : Array Value) : acall Try.prog (.func (.func 32) first cap) vs A K = ACalls Try.prog 32 (first ++ vs ++ cap) A K := acall_at (by kernel_rfl) first cap vs
theorem ca33 {A : View} {K : Value → View → Prop} (first cap vs : Array Value) : acall Try.prog (.func (.func 33) first cap) vs A K = ACalls Try.prog 33 (first ++ vs ++ cap) A K := acall_at (by kernel_rfl) first cap vs
theorem ca34 {A : View} {K : Value → View → Prop} (first cap vs : Array Value) : acall Try.prog (.func (.func 34) first cap) vs A K = ACalls Try.prog 34 (first ++ vs ++ cap) A K := acall_at (by kernel_rfl) first cap vs
theorem ca35 {A : View} {K : Value → View → Prop} (first cap vs : Array Value) : acall Try.prog (.func (.func 35) first cap) vs A K = ACalls Try.prog 35 (first ++ vs ++ cap) A K := acall_at (by kernel_rfl) first cap vs
theorem ca36 {A : View} {K : Value → View → Prop} (first cap vs : Array Value) : acall Try.prog (.func (.func 36) first cap) vs A K = ACalls Try.prog 36 (first ++ vs ++ cap) A K := acall_at (by kernel_rfl) first cap vs
theorem ca37 {A : View} {K : Value → View → Prop} (first cap vs : Array Value) : acall Try.prog (.func (.func 37) first cap) vs A K = ACalls Try.prog 37 (first ++ vs ++ cap) A K := acall_at (by kernel_rfl) first cap vs
theorem ca38 {A : View} {K : Value → View → Prop} (first cap vs : Array Value) : acall Try.prog (.func (.func 38) first cap) vs A K = ACalls Try.prog 38 (first ++ vs ++ cap) A K := acall_at (by kernel_rfl) first cap vs
theorem ca39 {A : View} {K : Value → View → Prop} (first cap vs : Array Value) : acall Try.prog (.func (.func 39) first cap) vs A K = ACalls Try.prog 39 (first ++ vs ++ cap) A K := acall_at (by kernel_rfl) first cap vs
theorem ca40 {A : View} {K : Value → View → Prop} (first cap vs : Array Value) : acall Try.prog (.func (.func 40) first cap) vs A K = ACalls Try.prog 40 (first ++ vs ++ cap) A K := acall_at (by kernel_rfl) first cap vs
theorem ca41 {A : View} {K : Value → View → Prop} (first cap vs : Array Value) : acall Try.prog (.func (.func 41) first cap) vs A K = ACalls Try.prog 41 (first ++ vs ++ cap) A K := acall_at (by kernel_rfl) first cap vs
theorem ca42 {A : View} {K : Value → View → Prop} (first cap vs : Array Value) : acall Try.prog (.func (.func 42) first cap) vs A K = ACalls Try.prog 42 (first ++ vs ++ cap) A K := acall_at (by kernel_rfl) first cap vs
theorem ca43 {A : View} {K : Value → View → Prop} (first cap vs : Array Value) : acall Try.prog (.func (.func 43) first cap) vs A K = ACalls Try.prog 43 (first ++ vs ++ cap) A K := acall_at (by kernel_rfl) first cap vs
theorem ca44 {A : View} {K : Value → View → Prop} (first cap vs : Array Value) : acall Try.prog (.func (.func 44) first cap) vs A K = ACalls Try.prog 44 (first ++ vs ++ cap) A K := acall_at (by kernel_rfl) first cap vs
theorem ca45 {A : View} {K : Value → View → Prop} (first cap vs : Array Value) : acall Try.prog (.func (.func 45) first cap) vs A K = ACalls Try.prog 45 (first ++ vs ++ cap) A K := acall_at (by kernel_rfl) first cap vs
theorem ca46 {A : View} {K : Value → View → Prop} (first cap vs : Array Value) : acall Try.prog (.func (.func 46) first cap) vs A K = ACalls Try.prog 46 (first ++ vs ++ cap) A K := acall_at (by kernel_rfl) first cap vs
theorem ca47 {A : View} {K : Value → View → Prop} (first cap vs : Array Value) : acall Try.prog (.func (.func 47) first cap) vs A K = ACalls Try.prog 47 (first ++ vs ++ cap) A K := acall_at (by kernel_rfl) first cap vs
theorem ca48 {A : View} {K : Value → View → Prop} (first cap vs : Array Value) : acall Try.prog (.func (.func 48) first cap) vs A K = ACalls Try.prog 48 (first ++ vs ++ cap) A K := acall_at (by kernel_rfl) first cap vs
theorem ca49 {A : View} {K : Value → View → Prop} (first cap vs : Array Value) : acall Try.prog (.func (.func 49) first cap) vs A K = ACalls Try.prog 49 (first ++ vs ++ cap) A K := acall_at (by kernel_rfl) first cap vs
theorem ca50 {A : View} {K : Value → View → Prop} (first cap vs : Array Value) : acall Try.prog (.func (.func 50) first cap) vs A K = ACalls Try.prog 50 (first ++ vs ++ cap) A K := acall_at (by kernel_rfl) first cap vs
theorem ca51 {A : View} {K : Value → View → Prop} (first cap vs : Array Value) : acall Try.prog (.func (.func 51) first cap) vs A K = ACalls Try.prog 51 (first ++ vs ++ cap) A K := acall_at (by kernel_rfl) first cap vs
theorem ca52 {A : View} {K : Value → View → Prop} (first cap vs : Array Value) : acall Try.prog (.func (.func 52) first cap) vs A K = ACalls Try.prog 52 (first ++ vs ++ cap) A K := acall_at (by kernel_rfl) first cap vs
theorem ca53 {A : View} {K : Value → View → Prop} (first cap vs : Array Value) : acall Try.prog (.func (.func 53) first cap) vs A K = ACalls Try.prog 53 (first ++ vs ++ cap) A K := acall_at (by kernel_rfl) first cap vs
theorem ca54 {A : View} {K : Value → View → Prop} (first cap vs : Array Value) : acall Try.prog (.func (.func 54) first cap) vs A K = ACalls Try.prog 54 (first ++ vs ++ cap) A K := acall_at (by kernel_rfl) first cap vs
theorem ca55 {A : View} {K : Value → View → Prop} (first cap vs : Array Value) : acall Try.prog (.func (.func 55) first cap) vs A K = ACalls Try.prog 55 (first ++ vs ++ cap) A K := acall_at (by kernel_rfl) first cap vs
theorem ca56 {A : View} {K : Value → View → Prop} (first cap vs : Array Value) : acall Try.prog (.func (.func 56) first cap) vs A K = ACalls Try.prog 56 (first ++ vs ++ cap) A K := acall_at (by kernel_rfl) first cap vs
theorem ca57 {A : View} {K : Value → View → Prop} (first cap vs : Array Value) : acall Try.prog (.func (.func 57) first cap) vs A K = ACalls Try.prog 57 (first ++ vs ++ cap) A K := acall_at (by kernel_rfl) first cap vs
theorem ca58 {A : View} {K : Value → View → Prop} (first cap vs : Array Value) : acall Try.prog (.func (.func 58) first cap) vs A K = ACalls Try.prog 58 (first ++ vs ++ cap) A K := acall_at (by kernel_rfl) first cap vs
theorem ca59 {A : View} {K : Value → View → Prop} (first cap vs : Array Value) : acall Try.prog (.func (.func 59) first cap) vs A K = ACalls Try.prog 59 (first ++ vs ++ cap) A K := acall_at (by kernel_rfl) first cap vs
theorem ca60 {A : View} {K : Value → View → Prop} (first cap vs : Array Value) : acall Try.prog (.func (.func 60) first cap) vs A K = ACalls Try.prog 60 (first ++ vs ++ cap) A K := acall_at (by kernel_rfl) first cap vs
theorem ca61 {A : View} {K : Value → View → Prop} (first cap vs : Array Value) : acall Try.prog (.func (.func 61) first cap) vs A K = ACalls Try.prog 61 (first ++ vs ++ cap) A K := acall_at (by kernel_rfl) first cap vs
theorem ca62 {A : View} {K : Value → View → Prop} (first cap vs : Array Value) : acall Try.prog (.func (.func 62) first cap) vs A K = ACalls Try.prog 62 (first ++ vs ++ cap) A K := acall_at (by kernel_rfl) first cap vs
theorem ca63 {A : View} {K : Value → View → Prop} (first cap vs : Array Value) : acall Try.prog (.func (.func 63) first cap) vs A K = ACalls Try.prog 63 (first ++ vs ++ cap) A K := acall_at (by kernel_rfl) first cap vs
theorem ca64 {A : View} {K : Value → View → Prop} (first cap vs : Array Value) : acall Try.prog (.func (.func 64) first cap) vs A K = ACalls Try.prog 64 (first ++ vs ++ cap) A K := acall_at (by kernel_rfl) first cap vs
theorem ca65 {A : View} {K : Value → View → Prop} (first cap vs : Array Value) : acall Try.prog (.func (.func 65) first cap) vs A K = ACalls Try.prog 65 (first ++ vs ++ cap) A K := acall_at (by kernel_rfl) first cap vs
theorem ca66 {A : View} {K : Value → View → Prop} (first cap vs : Array Value) : acall Try.prog (.func (.func 66) first cap) vs A K = ACalls Try.prog 66 (first ++ vs ++ cap) A K := acall_at (by kernel_rfl) first cap vs
theorem ca67 {A : View} {K : Value → View → Prop} (first cap vs : Array Value) : acall Try.prog (.func (.func 67) first cap) vs A K = ACalls Try.prog 67 (first ++ vs ++ cap) A K := acall_at (by kernel_rfl) first cap vs
theorem ca68 {A : View} {K : Value → View → Prop} (first cap vs : Array Value) : acall Try.prog (.func (.func 68) first cap) vs A K = ACalls Try.prog 68 (first ++ vs ++ cap) A K := acall_at (by kernel_rfl) first cap vs
theorem ca69 {A : View} {K : Value → View → Prop} (first cap vs : Array Value) : acall Try.prog (.func (.func 69) first cap) vs A K = ACalls Try.prog 69 (first ++ vs ++ cap) A K := acall_at (by kernel_rfl) first cap vs
theorem ca70 {A : View} {K : Value → View → Prop} (first cap vs : Array Value) : acall Try.prog (.func (.func 70) first cap) vs A K = ACalls Try.prog 70 (first ++ vs ++ cap) A K := acall_at (by kernel_rfl) first cap vs
theorem ca71 {A : View} {K : Value → View → Prop} (first cap vs : Array Value) : acall Try.prog (.func (.func 71) first cap) vs A K = ACalls Try.prog 71 (first ++ vs ++ cap) A K := acall_at (by kernel_rfl) first cap vs
theorem ca72 {A : View} {K : Value → View → Prop} (first cap vs : Array Value) : acall Try.prog (.func (.func 72) first cap) vs A K = ACalls Try.prog 72 (first ++ vs ++ cap) A K := acall_at (by kernel_rfl) first cap vs
theorem ca73 {A : View} {K : Value → View → Prop} (first cap vs : Array Value) : acall Try.prog (.func (.func 73) first cap) vs A K = ACalls Try.prog 73 (first ++ vs ++ cap) A K := acall_at (by kernel_rfl) first cap vs
theorem ca74 {A : View} {K : Value → View → Prop} (first cap vs : Array Value) : acall Try.prog (.func (.func 74) first cap) vs A K = ACalls Try.prog 74 (first ++ vs ++ cap) A K := acall_at (by kernel_rfl) first cap vs
theorem ca75 {A : View} {K : Value → View → Prop} (first cap vs : Array Value) : acall Try.prog (.func (.func 75) first cap) vs A K = ACalls Try.prog 75 (first ++ vs ++ cap) A K := acall_at (by kernel_rfl) first cap vs
theorem ca76 {A : View} {K : Value → View → Prop} (first cap vs : Array Value) : acall Try.prog (.func (.func 76) first cap) vs A K = ACalls Try.prog 76 (first ++ vs ++ cap) A K := acall_at (by kernel_rfl) first cap vs
theorem ca77 {A : View} {K : Value → View → Prop} (first cap vs : Array Value) : acall Try.prog (.func (.func 77) first cap) vs A K = ACalls Try.prog 77 (first ++ vs ++ cap) A K := acall_at (by kernel_rfl) first cap vs
theorem ca78 {A : View} {K : Value → View → Prop} (first cap vs : Array Value) : acall Try.prog (.func (.func 78) first cap) vs A K = ACalls Try.prog 78 (first ++ vs ++ cap) A K := acall_at (by kernel_rfl) first cap vs
theorem ca79 {A : View} {K : Value → View → Prop} (first cap vs : Array Value) : acall Try.prog (.func (.func 79) first cap) vs A K = ACalls Try.prog 79 (first ++ vs ++ cap) A K := acall_at (by kernel_rfl) first cap vs
theorem ca80 {A : View} {K : Value → View → Prop} (first cap vs : Array Value) : acall Try.prog (.func (.func 80) first cap) vs A K = ACalls Try.prog 80 (first ++ vs ++ cap) A K := acall_at (by kernel_rfl) first cap vs
theorem ca81 {A : View} {K : Value → View → Prop} (first cap vs : Array Value) : acall Try.prog (.func (.func 81) first cap) vs A K = ACalls Try.prog 81 (first ++ vs ++ cap) A K := acall_at (by kernel_rfl) first cap vs
theorem ca82 {A : View} {K : Value → View → Prop} (first cap vs : Array Value) : acall Try.prog (.func (.func 82) first cap) vs A K = ACalls Try.prog 82 (first ++ vs ++ cap) A K := acall_at (by kernel_rfl) first cap vs
theorem ca84 {A : View} {K : Value → View → Prop} (first cap vs : Array Value) : acall Try.prog (.func (.func 84) first cap) vs A K = ACalls Try.prog 84 (first ++ vs ++ cap) A K := acall_at (by kernel_rfl) first cap vs
theorem ca85 {A : View} {K : Value → View → Prop} (first cap vs : Array Value) : acall Try.prog (.func (.func 85) first cap) vs A K = ACalls Try.prog 85 (first ++ vs ++ cap) A K := acall_at (by kernel_rfl) first cap vs
theorem ca86 {A : View} {K : Value → View → Prop} (first cap vs : Array Value) : acall Try.prog (.func (.func 86) first cap) vs A K = ACalls Try.prog 86 (first ++ vs ++ cap) A K := acall_at (by kernel_rfl) first cap vs
theorem ca87 {A : View} {K : Value → View → Prop} (first cap vs : Array Value) : acall Try.prog (.func (.func 87) first cap) vs A K = ACalls Try.prog 87 (first ++ vs ++ cap) A K := acall_at (by kernel_rfl) first cap vs
theorem ca88 {A : View} {K : Value → View → Prop} (first cap vs : Array Value) : acall Try.prog (.func (.func 88) first cap) vs A K = ACalls Try.prog 88 (first ++ vs ++ cap) A K := acall_at (by kernel_rfl) first cap vs
theorem ca89 {A : View} {K : Value → View → Prop} (first cap vs : Array Value) : acall Try.prog (.func (.func 89) first cap) vs A K = ACalls Try.prog 89 (first ++ vs ++ cap) A K := acall_at (by kernel_rfl) first cap vs
theorem ca90 {A : View} {K : Value → View → Prop} (first cap vs : Array Value) : acall Try.prog (.func (.func 90) first cap) vs A K = ACalls Try.prog 90 (first ++ vs ++ cap) A K := acall_at (by kernel_rfl) first cap vs
theorem ca91 {A : View} {K : Value → View → Prop} (first cap vs : Array Value) : acall Try.prog (.func (.func 91) first cap) vs A K = ACalls Try.prog 91 (first ++ vs ++ cap) A K := acall_at (by kernel_rfl) first cap vs
theorem ca92 {A : View} {K : Value → View → Prop} (first cap vs : Array Value) : acall Try.prog (.func (.func 92) first cap) vs A K = ACalls Try.prog 92 (first ++ vs ++ cap) A K := acall_at (by kernel_rfl) first cap vs
theorem ca93 {A : View} {K : Value → View → Prop} (first cap vs : Array Value) : acall Try.prog (.func (.func 93) first cap) vs A K = ACalls Try.prog 93 (first ++ vs ++ cap) A K := acall_at (by kernel_rfl) first cap vs
theorem ca94 {A : View} {K : Value → View → Prop} (first cap vs : Array Value) : acall Try.prog (.func (.func 94) first cap) vs A K = ACalls Try.prog 94 (first ++ vs ++ cap) A K := acall_at (by kernel_rfl) first cap vs
theorem ca95 {A : View} {K : Value → View → Prop} (first cap vs : Array Value) : acall Try.prog (.func (.func 95) first cap) vs A K = ACalls Try.prog 95 (first ++ vs ++ cap) A K := acall_at (by kernel_rfl) first cap vs
theorem ca96 {A : View} {K : Value → View → Prop} (first cap vs : Array Value) : acall Try.prog (.func (.func 96) first cap) vs A K = ACalls Try.prog 96 (first ++ vs ++ cap) A K := acall_at (by kernel_rfl) first cap vs
theorem ca97 {A : View} {K : Value → View → Prop} (first cap vs : Array Value) : acall Try.prog (.func (.func 97) first cap) vs A K = ACalls Try.prog 97 (first ++ vs ++ cap) A K := acall_at (by kernel_rfl) first cap vs
theorem ca98 {A : View} {K : Value → View → Prop} (first cap vs : Array Value) : acall Try.prog (.func (.func 98) first cap) vs A K = ACalls Try.prog 98 (first ++ vs ++ cap) A K := acall_at (by kernel_rfl) first cap vs
theorem ca99 {A : View} {K : Value → View → Prop} (first cap vs : Array Value) : acall Try.prog (.func (.func 99) first cap) vs A K = ACalls Try.prog 99 (first ++ vs ++ cap) A K := acall_at (by kernel_rfl) first cap vs
theorem ca101 {A : View} {K : Value → View → Prop} (first cap vs : Array Value) : acall Try.prog (.func (.func 101) first cap) vs A K = ACalls Try.prog 101 (first ++ vs ++ cap) A K := acall_at (by kernel_rfl) first cap vs
theorem ca102 {A : View} {K : Value → View → Prop} (first cap vs : Array Value) : acall Try.prog (.func (.func 102) first cap) vs A K = ACalls Try.prog 102 (first ++ vs ++ cap) A K := acall_at (by kernel_rfl) first cap vs
theorem ca103 {A : View} {K : Value → View → Prop} (first cap vs : Array Value) : acall Try.prog (.func (.func 103) first cap) vs A K = ACalls Try.prog 103 (first ++ vs ++ cap) A K := acall_at (by kernel_rfl) first cap vs
theorem ca104 {A : View} {K : Value → View → Prop} (first cap vs : Array Value) : acall Try.prog (.func (.func 104) first cap) vs A K = ACalls Try.prog 104 (first ++ vs ++ cap) A K := acall_at (by kernel_rfl) first cap vs
theorem ca105 {A : View} {K : Value → View → Prop} (first cap vs : Array Value) : acall Try.prog (.func (.func 105) first cap) vs A K = ACalls Try.prog 105 (first ++ vs ++ cap) A K := acall_at (by kernel_rfl) first cap vs
theorem ca106 {A : View} {K : Value → View → Prop} (first cap vs : Array Value) : acall Try.prog (.func (.func 106) first cap) vs A K = ACalls Try.prog 106 (first ++ vs ++ cap) A K := acall_at (by kernel_rfl) first cap vs
theorem ca107 {A : View} {K : Value → View → Prop} (first cap vs : Array Value) : acall Try.prog (.func (.func 107) first cap) vs A K = ACalls Try.prog 107 (first ++ vs ++ cap) A K := acall_at (by kernel_rfl) first cap vs
theorem ca108 {A : View} {K : Value → View → Prop} (first cap vs : Array Value) : acall Try.prog (.func (.func 108) first cap) vs A K = ACalls Try.prog 108 (first ++ vs ++ cap) A K := acall_at (by kernel_rfl) first cap vs
theorem ca110 {A : View} {K : Value → View → Prop} (first cap vs : Array Value) : acall Try.prog (.func (.func 110) first cap) vs A K = ACalls Try.prog 110 (first ++ vs ++ cap) A K := acall_at (by kernel_rfl) first cap vs
theorem ca111 {A : View} {K : Value → View → Prop} (first cap vs : Array Value) : acall Try.prog (.func (.func 111) first cap) vs A K = ACalls Try.prog 111 (first ++ vs ++ cap) A K := acall_at (by kernel_rfl) first cap vs
theorem ca112 {A : View} {K : Value → View → Prop} (first cap vs : Array Value) : acall Try.prog (.func (.func 112) first cap) vs A K = ACalls Try.prog 112 (first ++ vs ++ cap) A K := acall_at (by kernel_rfl) first cap vs
theorem ca114 {A : View} {K : Value → View → Prop} (first cap vs : Array Value) : acall Try.prog (.func (.func 114) first cap) vs A K = ACalls Try.prog 114 (first ++ vs ++ cap) A K := acall_at (by kernel_rfl) first cap vs
theorem ca115 {A : View} {K : Value → View → Prop} (first cap vs : Array Value) : acall Try.prog (.func (.func 115) first cap) vs A K = ACalls Try.prog 115 (first ++ vs ++ cap) A K := acall_at (by kernel_rfl) first cap vs
theorem rs3 : Try.f3.results.toList = [.tmp 2] := by kernel_rfl
theorem rs4 : Try.f4.results.toList = [.tmp 2] := by kernel_rfl
theorem rs5 : Try.f5.results.toList = [.tmp 2] := by kernel_rfl
theorem rs6 : Try.f6.results.toList = [.tmp 2] := by kernel_rfl
theorem rs7 : Try.f7.results.toList = [.tmp 2, .tmp 3] := by kernel_rfl
theorem rs8 : Try.f8.results.toList = [.tmp 2, .tmp 3] := by kernel_rfl
theorem rs9 : Try.f9.results.toList = [.tmp 4] := by kernel_rfl
theorem rs10 : Try.f10.results.toList = [.tmp 2] := by kernel_rfl
theorem rs11 : Try.f11.results.toList = [.tmp 2] := by kernel_rfl
theorem rs12 : Try.f12.results.toList = [.tmp 2] := by kernel_rfl
theorem rs13 : Try.f13.results.toList = [.tmp 2] := by kernel_rfl
theorem rs14 : Try.f14.results.toList = [.tmp 4] := by kernel_rfl
theorem rs15 : Try.f15.results.toList = [.tmp 2] := by kernel_rfl
theorem rs16 : Try.f16.results.toList = [.cell 2 41] := by kernel_rfl
theorem rs17 : Try.f17.results.toList = [.tmp 2] := by kernel_rfl
theorem rs18 : Try.f18.results.toList = [.tmp 4] := by kernel_rfl
theorem rs19 : Try.f19.results.toList = [.tmp 2] := by kernel_rfl
theorem rs20 : Try.f20.results.toList = [.tmp 2] := by kernel_rfl
theorem rs21 : Try.f21.results.toList = [.cell 2 41] := by kernel_rfl
theorem rs22 : Try.f22.results.toList = [.tmp 4] := by kernel_rfl
theorem rs23 : Try.f23.results.toList = [.tmp 4] := by kernel_rfl
theorem rs24 : Try.f24.results.toList = [.tmp 4, .tmp 5, .tmp 6] := by kernel_rfl
theorem rs25 : Try.f25.results.toList = [.tmp 4] := by kernel_rfl
theorem rs26 : Try.f26.results.toList = [.tmp 4] := by kernel_rfl
theorem rs27 : Try.f27.results.toList = [.tmp 4] := by kernel_rfl
theorem rs28 : Try.f28.results.toList = [.tmp 0] := by kernel_rfl
theorem rs29 : Try.f29.results.toList = [.tmp 2] := by kernel_rfl
theorem rs30 : Try.f30.results.toList = [.tmp 2] := by kernel_rfl
theorem rs31 : Try.f31.results.toList = [.tmp 4, .tmp 5] := by kernel_rfl
theorem rs32 : Try.f32.results.toList = [.tmp 2] := by kernel_rfl
theorem rs33 : Try.f33.results.toList = [.tmp 2] := by kernel_rfl
theorem rs34 : Try.f34.results.toList = [.tmp 2] := by kernel_rfl
theorem rs35 : Try.f35.results.toList = [.tmp 4] := by kernel_rfl
theorem rs36 : Try.f36.results.toList = [.tmp 4] := by kernel_rfl
theorem rs37 : Try.f37.results.toList = [.tmp 2] := by kernel_rfl
theorem rs38 : Try.f38.results.toList = [.tmp 2] := by kernel_rfl
theorem rs39 : Try.f39.results.toList = [.tmp 2] := by kernel_rfl
theorem rs40 : Try.f40.results.toList = [.tmp 2] := by kernel_rfl
theorem rs41 : Try.f41.results.toList = [.tmp 2] := by kernel_rfl
theorem rs42 : Try.f42.results.toList = [.tmp 0] := by kernel_rfl
theorem rs43 : Try.f43.results.toList = [.tmp 2] := by kernel_rfl
theorem rs44 : Try.f44.results.toList = [.tmp 2] := by kernel_rfl
theorem rs45 : Try.f45.results.toList = [.tmp 4] := by kernel_rfl
theorem rs46 : Try.f46.results.toList = [.tmp 4] := by kernel_rfl
theorem rs47 : Try.f47.results.toList = [.tmp 6] := by kernel_rfl
theorem rs48 : Try.f48.results.toList = [.tmp 2] := by kernel_rfl
theorem rs49 : Try.f49.results.toList = [.tmp 4] := by kernel_rfl
theorem rs50 : Try.f50.results.toList = [.tmp 4] := by kernel_rfl
theorem rs51 : Try.f51.results.toList = [.tmp 4] := by kernel_rfl
theorem rs52 : Try.f52.results.toList = [.tmp 2] := by kernel_rfl
theorem rs53 : Try.f53.results.toList = [.tmp 4] := by kernel_rfl
theorem rs54 : Try.f54.results.toList = [.tmp 4] := by kernel_rfl
theorem rs55 : Try.f55.results.toList = [.tmp 4] := by kernel_rfl
theorem rs56 : Try.f56.results.toList = [.tmp 4] := by kernel_rfl
theorem rs57 : Try.f57.results.toList = [.tmp 4] := by kernel_rfl
theorem rs58 : Try.f58.results.toList = [.tmp 4, .tmp 5, .tmp 6] := by kernel_rfl
theorem rs59 : Try.f59.results.toList = [.tmp 2] := by kernel_rfl
theorem rs60 : Try.f60.results.toList = [.tmp 2] := by kernel_rfl
theorem rs61 : Try.f61.results.toList = [] := by kernel_rfl
theorem rs62 : Try.f62.results.toList = [.cell 2 41, .tmp 3] := by kernel_rfl
theorem rs63 : Try.f63.results.toList = [.tmp 4] := by kernel_rfl
theorem rs64 : Try.f64.results.toList = [.tmp 4] := by kernel_rfl
theorem rs65 : Try.f65.results.toList = [.tmp 2] := by kernel_rfl
theorem rs66 : Try.f66.results.toList = [.tmp 2] := by kernel_rfl
theorem rs67 : Try.f67.results.toList = [.tmp 0] := by kernel_rfl
theorem rs68 : Try.f68.results.toList = [.tmp 2] := by kernel_rfl
theorem rs69 : Try.f69.results.toList = [.cell 2 75] := by kernel_rfl
theorem rs70 : Try.f70.results.toList = [.cell 2 78] := by kernel_rfl
theorem rs71 : Try.f71.results.toList = [.tmp 2] := by kernel_rfl
theorem rs72 : Try.f72.results.toList = [.tmp 2] := by kernel_rfl
theorem rs73 : Try.f73.results.toList = [.tmp 4] := by kernel_rfl
theorem rs74 : Try.f74.results.toList = [.tmp 4] := by kernel_rfl
theorem rs75 : Try.f75.results.toList = [.tmp 4] := by kernel_rfl
theorem rs76 : Try.f76.results.toList = [.tmp 8] := by kernel_rfl
theorem rs77 : Try.f77.results.toList = [.tmp 4] := by kernel_rfl
theorem rs78 : Try.f78.results.toList = [.tmp 2] := by kernel_rfl
theorem rs79 : Try.f79.results.toList = [.tmp 2] := by kernel_rfl
theorem rs80 : Try.f80.results.toList = [.tmp 4] := by kernel_rfl
theorem rs81 : Try.f81.results.toList = [.tmp 4] := by kernel_rfl
theorem rs82 : Try.f82.results.toList = [.tmp 6] := by kernel_rfl
theorem rs84 : Try.f84.results.toList = [.cell 2 41] := by kernel_rfl
theorem rs85 : Try.f85.results.toList = [.tmp 4] := by kernel_rfl
theorem rs86 : Try.f86.results.toList = [.tmp 4] := by kernel_rfl
theorem rs87 : Try.f87.results.toList = [.tmp 2] := by kernel_rfl
theorem rs88 : Try.f88.results.toList = [.tmp 4] := by kernel_rfl
theorem rs89 : Try.f89.results.toList = [.tmp 4] := by kernel_rfl
theorem rs90 : Try.f90.results.toList = [.tmp 2] := by kernel_rfl
theorem rs91 : Try.f91.results.toList = [.tmp 4] := by kernel_rfl
theorem rs92 : Try.f92.results.toList = [.tmp 2] := by kernel_rfl
theorem rs93 : Try.f93.results.toList = [.tmp 4] := by kernel_rfl
theorem rs94 : Try.f94.results.toList = [.tmp 2] := by kernel_rfl
theorem rs95 : Try.f95.results.toList = [.tmp 4] := by kernel_rfl
theorem rs96 : Try.f96.results.toList = [] := by kernel_rfl
theorem rs97 : Try.f97.results.toList = [.tmp 4] := by kernel_rfl
theorem rs98 : Try.f98.results.toList = [.tmp 2] := by kernel_rfl
theorem rs99 : Try.f99.results.toList = [.tmp 4] := by kernel_rfl
theorem rs101 : Try.f101.results.toList = [.tmp 2] := by kernel_rfl
theorem rs102 : Try.f102.results.toList = [.tmp 4] := by kernel_rfl
theorem rs103 : Try.f103.results.toList = [.tmp 2] := by kernel_rfl
theorem rs104 : Try.f104.results.toList = [.tmp 4] := by kernel_rfl
theorem rs105 : Try.f105.results.toList = [.tmp 2] := by kernel_rfl
theorem rs106 : Try.f106.results.toList = [.tmp 4] := by kernel_rfl
theorem rs107 : Try.f107.results.toList = [.tmp 3] := by kernel_rfl
theorem rs108 : Try.f108.results.toList = [] := by kernel_rfl
theorem rs110 : Try.f110.results.toList = [.tmp 2, .tmp 3] := by kernel_rfl
theorem rs111 : Try.f111.results.toList = [.tmp 2] := by kernel_rfl
theorem rs112 : Try.f112.results.toList = [.tmp 2] := by kernel_rfl
theorem rs114 : Try.f114.results.toList = [.tmp 4] := by kernel_rfl
theorem rs115 : Try.f115.results.toList = [.tmp 2] := by kernel_rfl

/-- All of them, for simp. -/
theorem inf : type_of% (And.intro @ld3 ( And.intro @ld4 ( And.intro @ld5 ( And.intro @ld9 ( And.intro @ld22 ( And.intro @ld32 ( And.intro @ld33 ( And.intro @ld35 ( And.intro @ld38 ( And.intro @ld39 ( And.intro @ld41 ( And.intro @ld54 ( And.intro @ld56 ( And.intro @ld60 ( And.intro @ld75 ( And.intro @ld78 ( And.intro @ld98 ( And.intro @ld100 ( And.intro @sz3 ( And.intro @sz4 ( And.intro @sz9 ( And.intro @sz22 ( And.intro @sz38 ( And.intro @sz39 ( And.intro @sz41 ( And.intro @sz54 ( And.intro @sz56 ( And.intro @sz60 ( And.intro @sz75 ( And.intro @sz78 ( And.intro @fa35_0 ( And.intro @fa35_1 ( And.intro @fa41_0 ( And.intro @fa41_1 ( And.intro @fa56_0 ( And.intro @fa56_1 ( And.intro @fa62_0 ( And.intro @fa62_1 ( And.intro @fa75_0 ( And.intro @fa75_1 ( And.intro @fa75_2 ( And.intro @fa75_3 ( And.intro @fa78_0 ( And.intro @fa78_1 ( And.intro @fa78_2 ( And.intro @fa78_3 ( And.intro @fa83_0 ( And.intro @fa83_1 ( And.intro @fa98_0 ( And.intro @fa98_1 ( And.intro @fa98_2 ( And.intro @fa98_3 ( And.intro @fa100_0 ( And.intro @fa100_1 ( And.intro @fa100_2 ( And.intro @fa100_3 ( And.intro @ia22 ( And.intro @ia24 ( And.intro @ia32 ( And.intro @ia33 ( And.intro @ia38 ( And.intro @ia39 ( And.intro @ia54 ( And.intro @ia90 ( And.intro @sl9lo ( And.intro @sl9hi ( And.intro @sl9 ( And.intro @sl22lo ( And.intro @sl22hi ( And.intro @sl22 ( And.intro @sl22hm ( And.intro @sl22lhm ( And.intro @sl24lo ( And.intro @sl24hi ( And.intro @sl24 ( And.intro @sl24hm ( And.intro @sl24lhm ( And.intro @sl38lo ( And.intro @sl38hi ( And.intro @sl38 ( And.intro @sl38hm ( And.intro @sl38lhm ( And.intro @sl39lo ( And.intro @sl39hi ( And.intro @sl39 ( And.intro @sl39hm ( And.intro @sl39lhm ( And.intro @sl54lo ( And.intro @sl54hi ( And.intro @sl54 ( And.intro @sl54hm ( And.intro @sl54lhm ( And.intro @ix9 ( And.intro @ln9 ( And.intro @ln22 ( And.intro @ln24 ( And.intro @ln32 ( And.intro @ln33 ( And.intro @ln38 ( And.intro @ln39 ( And.intro @ln54 ( And.intro @ln90 ( And.intro @ln101 ( And.intro @eq4 ( And.intro @ne4 ( And.intro @eqn54 ( And.intro @eqs54 ( And.intro @nen54 ( And.intro @nes54 ( And.intro @bu56_0_1 ( And.intro @bu75_0_1_2_3 ( And.intro @bu78_0_1_2_3 ( And.intro @bu83_0 ( And.intro @bu121_0_1_2 ( And.intro @ca6 ( And.intro @ca7 ( And.intro @ca8 ( And.intro @ca9 ( And.intro @ca10 ( And.intro @ca11 ( And.intro @ca12 ( And.intro @ca13 ( And.intro @ca14 ( And.intro @ca15 ( And.intro @ca16 ( And.intro @ca17 ( And.intro @ca18 ( And.intro @ca19 ( And.intro @ca20 ( And.intro @ca21 ( And.intro @ca22 ( And.intro @ca23 ( And.intro @ca24 ( And.intro @ca25 ( And.intro @ca26 ( And.intro @ca27 ( And.intro @ca28 ( And.intro @ca29 ( And.intro @ca30 ( And.intro @ca31 ( And.intro @ca32 ( And.intro @ca33 ( And.intro @ca34 ( And.intro @ca35 ( And.intro @ca36 ( And.intro @ca37 ( And.intro @ca38 ( And.intro @ca39 ( And.intro @ca40 ( And.intro @ca41 ( And.intro @ca42 ( And.intro @ca43 ( And.intro @ca44 ( And.intro @ca45 ( And.intro @ca46 ( And.intro @ca47 ( And.intro @ca48 ( And.intro @ca49 ( And.intro @ca50 ( And.intro @ca51 ( And.intro @ca52 ( And.intro @ca53 ( And.intro @ca54 ( And.intro @ca55 ( And.intro @ca56 ( And.intro @ca57 ( And.intro @ca58 ( And.intro @ca59 ( And.intro @ca60 ( And.intro @ca61 ( And.intro @ca62 ( And.intro @ca63 ( And.intro @ca64 ( And.intro @ca65 ( And.intro @ca66 ( And.intro @ca67 ( And.intro @ca68 ( And.intro @ca69 ( And.intro @ca70 ( And.intro @ca71 ( And.intro @ca72 ( And.intro @ca73 ( And.intro @ca74 ( And.intro @ca75 ( And.intro @ca76 ( And.intro @ca77 ( And.intro @ca78 ( And.intro @ca79 ( And.intro @ca80 ( And.intro @ca81 ( And.intro @ca82 ( And.intro @ca84 ( And.intro @ca85 ( And.intro @ca86 ( And.intro @ca87 ( And.intro @ca88 ( And.intro @ca89 ( And.intro @ca90 ( And.intro @ca91 ( And.intro @ca92 ( And.intro @ca93 ( And.intro @ca94 ( And.intro @ca95 ( And.intro @ca96 ( And.intro @ca97 ( And.intro @ca98 ( And.intro @ca99 ( And.intro @ca101 ( And.intro @ca102 ( And.intro @ca103 ( And.intro @ca104 ( And.intro @ca105 ( And.intro @ca106 ( And.intro @ca107 ( And.intro @ca108 ( And.intro @ca110 ( And.intro @ca111 ( And.intro @ca112 ( And.intro @ca114 ( And.intro @ca115 ( And.intro @rs3 ( And.intro @rs4 ( And.intro @rs5 ( And.intro @rs6 ( And.intro @rs7 ( And.intro @rs8 ( And.intro @rs9 ( And.intro @rs10 ( And.intro @rs11 ( And.intro @rs12 ( And.intro @rs13 ( And.intro @rs14 ( And.intro @rs15 ( And.intro @rs16 ( And.intro @rs17 ( And.intro @rs18 ( And.intro @rs19 ( And.intro @rs20 ( And.intro @rs21 ( And.intro @rs22 ( And.intro @rs23 ( And.intro @rs24 ( And.intro @rs25 ( And.intro @rs26 ( And.intro @rs27 ( And.intro @rs28 ( And.intro @rs29 ( And.intro @rs30 ( And.intro @rs31 ( And.intro @rs32 ( And.intro @rs33 ( And.intro @rs34 ( And.intro @rs35 ( And.intro @rs36 ( And.intro @rs37 ( And.intro @rs38 ( And.intro @rs39 ( And.intro @rs40 ( And.intro @rs41 ( And.intro @rs42 ( And.intro @rs43 ( And.intro @rs44 ( And.intro @rs45 ( And.intro @rs46 ( And.intro @rs47 ( And.intro @rs48 ( And.intro @rs49 ( And.intro @rs50 ( And.intro @rs51 ( And.intro @rs52 ( And.intro @rs53 ( And.intro @rs54 ( And.intro @rs55 ( And.intro @rs56 ( And.intro @rs57 ( And.intro @rs58 ( And.intro @rs59 ( And.intro @rs60 ( And.intro @rs61 ( And.intro @rs62 ( And.intro @rs63 ( And.intro @rs64 ( And.intro @rs65 ( And.intro @rs66 ( And.intro @rs67 ( And.intro @rs68 ( And.intro @rs69 ( And.intro @rs70 ( And.intro @rs71 ( And.intro @rs72 ( And.intro @rs73 ( And.intro @rs74 ( And.intro @rs75 ( And.intro @rs76 ( And.intro @rs77 ( And.intro @rs78 ( And.intro @rs79 ( And.intro @rs80 ( And.intro @rs81 ( And.intro @rs82 ( And.intro @rs84 ( And.intro @rs85 ( And.intro @rs86 ( And.intro @rs87 ( And.intro @rs88 ( And.intro @rs89 ( And.intro @rs90 ( And.intro @rs91 ( And.intro @rs92 ( And.intro @rs93 ( And.intro @rs94 ( And.intro @rs95 ( And.intro @rs96 ( And.intro @rs97 ( And.intro @rs98 ( And.intro @rs99 ( And.intro @rs101 ( And.intro @rs102 ( And.intro @rs103 ( And.intro @rs104 ( And.intro @rs105 ( And.intro @rs106 ( And.intro @rs107 ( And.intro @rs108 ( And.intro @rs110 ( And.intro @rs111 ( And.intro @rs112 ( And.intro @rs114 (@rs115))))))))))))))))))))))))))))))))))))))))))))))))))))))))))))))))))))))))))))))))))))))))))))))))))))))))))))))))))))))))))))))))))))))))))))))))))))))))))))))))))))))))))))))))))))))))))))))))))))))))))))))))))))))))))))))))))))))))))))))))))))))))))))))))))))))))))))))))))))))))))))))))))))))))))))))))))))))))))))))))))))))))) := And.intro @ld3 ( And.intro @ld4 ( And.intro @ld5 ( And.intro @ld9 ( And.intro @ld22 ( And.intro @ld32 ( And.intro @ld33 ( And.intro @ld35 ( And.intro @ld38 ( And.intro @ld39 ( And.intro @ld41 ( And.intro @ld54 ( And.intro @ld56 ( And.intro @ld60 ( And.intro @ld75 ( And.intro @ld78 ( And.intro @ld98 ( And.intro @ld100 ( And.intro @sz3 ( And.intro @sz4 ( And.intro @sz9 ( And.intro @sz22 ( And.intro @sz38 ( And.intro @sz39 ( And.intro @sz41 ( And.intro @sz54 ( And.intro @sz56 ( And.intro @sz60 ( And.intro @sz75 ( And.intro @sz78 ( And.intro @fa35_0 ( And.intro @fa35_1 ( And.intro @fa41_0 ( And.intro @fa41_1 ( And.intro @fa56_0 ( And.intro @fa56_1 ( And.intro @fa62_0 ( And.intro @fa62_1 ( And.intro @fa75_0 ( And.intro @fa75_1 ( And.intro @fa75_2 ( And.intro @fa75_3 ( And.intro @fa78_0 ( And.intro @fa78_1 ( And.intro @fa78_2 ( And.intro @fa78_3 ( And.intro @fa83_0 ( And.intro @fa83_1 ( And.intro @fa98_0 ( And.intro @fa98_1 ( And.intro @fa98_2 ( And.intro @fa98_3 ( And.intro @fa100_0 ( And.intro @fa100_1 ( And.intro @fa100_2 ( And.intro @fa100_3 ( And.intro @ia22 ( And.intro @ia24 ( And.intro @ia32 ( And.intro @ia33 ( And.intro @ia38 ( And.intro @ia39 ( And.intro @ia54 ( And.intro @ia90 ( And.intro @sl9lo ( And.intro @sl9hi ( And.intro @sl9 ( And.intro @sl22lo ( And.intro @sl22hi ( And.intro @sl22 ( And.intro @sl22hm ( And.intro @sl22lhm ( And.intro @sl24lo ( And.intro @sl24hi ( And.intro @sl24 ( And.intro @sl24hm ( And.intro @sl24lhm ( And.intro @sl38lo ( And.intro @sl38hi ( And.intro @sl38 ( And.intro @sl38hm ( And.intro @sl38lhm ( And.intro @sl39lo ( And.intro @sl39hi ( And.intro @sl39 ( And.intro @sl39hm ( And.intro @sl39lhm ( And.intro @sl54lo ( And.intro @sl54hi ( And.intro @sl54 ( And.intro @sl54hm ( And.intro @sl54lhm ( And.intro @ix9 ( And.intro @ln9 ( And.intro @ln22 ( And.intro @ln24 ( And.intro @ln32 ( And.intro @ln33 ( And.intro @ln38 ( And.intro @ln39 ( And.intro @ln54 ( And.intro @ln90 ( And.intro @ln101 ( And.intro @eq4 ( And.intro @ne4 ( And.intro @eqn54 ( And.intro @eqs54 ( And.intro @nen54 ( And.intro @nes54 ( And.intro @bu56_0_1 ( And.intro @bu75_0_1_2_3 ( And.intro @bu78_0_1_2_3 ( And.intro @bu83_0 ( And.intro @bu121_0_1_2 ( And.intro @ca6 ( And.intro @ca7 ( And.intro @ca8 ( And.intro @ca9 ( And.intro @ca10 ( And.intro @ca11 ( And.intro @ca12 ( And.intro @ca13 ( And.intro @ca14 ( And.intro @ca15 ( And.intro @ca16 ( And.intro @ca17 ( And.intro @ca18 ( And.intro @ca19 ( And.intro @ca20 ( And.intro @ca21 ( And.intro @ca22 ( And.intro @ca23 ( And.intro @ca24 ( And.intro @ca25 ( And.intro @ca26 ( And.intro @ca27 ( And.intro @ca28 ( And.intro @ca29 ( And.intro @ca30 ( And.intro @ca31 ( And.intro @ca32 ( And.intro @ca33 ( And.intro @ca34 ( And.intro @ca35 ( And.intro @ca36 ( And.intro @ca37 ( And.intro @ca38 ( And.intro @ca39 ( And.intro @ca40 ( And.intro @ca41 ( And.intro @ca42 ( And.intro @ca43 ( And.intro @ca44 ( And.intro @ca45 ( And.intro @ca46 ( And.intro @ca47 ( And.intro @ca48 ( And.intro @ca49 ( And.intro @ca50 ( And.intro @ca51 ( And.intro @ca52 ( And.intro @ca53 ( And.intro @ca54 ( And.intro @ca55 ( And.intro @ca56 ( And.intro @ca57 ( And.intro @ca58 ( And.intro @ca59 ( And.intro @ca60 ( And.intro @ca61 ( And.intro @ca62 ( And.intro @ca63 ( And.intro @ca64 ( And.intro @ca65 ( And.intro @ca66 ( And.intro @ca67 ( And.intro @ca68 ( And.intro @ca69 ( And.intro @ca70 ( And.intro @ca71 ( And.intro @ca72 ( And.intro @ca73 ( And.intro @ca74 ( And.intro @ca75 ( And.intro @ca76 ( And.intro @ca77 ( And.intro @ca78 ( And.intro @ca79 ( And.intro @ca80 ( And.intro @ca81 ( And.intro @ca82 ( And.intro @ca84 ( And.intro @ca85 ( And.intro @ca86 ( And.intro @ca87 ( And.intro @ca88 ( And.intro @ca89 ( And.intro @ca90 ( And.intro @ca91 ( And.intro @ca92 ( And.intro @ca93 ( And.intro @ca94 ( And.intro @ca95 ( And.intro @ca96 ( And.intro @ca97 ( And.intro @ca98 ( And.intro @ca99 ( And.intro @ca101 ( And.intro @ca102 ( And.intro @ca103 ( And.intro @ca104 ( And.intro @ca105 ( And.intro @ca106 ( And.intro @ca107 ( And.intro @ca108 ( And.intro @ca110 ( And.intro @ca111 ( And.intro @ca112 ( And.intro @ca114 ( And.intro @ca115 ( And.intro @rs3 ( And.intro @rs4 ( And.intro @rs5 ( And.intro @rs6 ( And.intro @rs7 ( And.intro @rs8 ( And.intro @rs9 ( And.intro @rs10 ( And.intro @rs11 ( And.intro @rs12 ( And.intro @rs13 ( And.intro @rs14 ( And.intro @rs15 ( And.intro @rs16 ( And.intro @rs17 ( And.intro @rs18 ( And.intro @rs19 ( And.intro @rs20 ( And.intro @rs21 ( And.intro @rs22 ( And.intro @rs23 ( And.intro @rs24 ( And.intro @rs25 ( And.intro @rs26 ( And.intro @rs27 ( And.intro @rs28 ( And.intro @rs29 ( And.intro @rs30 ( And.intro @rs31 ( And.intro @rs32 ( And.intro @rs33 ( And.intro @rs34 ( And.intro @rs35 ( And.intro @rs36 ( And.intro @rs37 ( And.intro @rs38 ( And.intro @rs39 ( And.intro @rs40 ( And.intro @rs41 ( And.intro @rs42 ( And.intro @rs43 ( And.intro @rs44 ( And.intro @rs45 ( And.intro @rs46 ( And.intro @rs47 ( And.intro @rs48 ( And.intro @rs49 ( And.intro @rs50 ( And.intro @rs51 ( And.intro @rs52 ( And.intro @rs53 ( And.intro @rs54 ( And.intro @rs55 ( And.intro @rs56 ( And.intro @rs57 ( And.intro @rs58 ( And.intro @rs59 ( And.intro @rs60 ( And.intro @rs61 ( And.intro @rs62 ( And.intro @rs63 ( And.intro @rs64 ( And.intro @rs65 ( And.intro @rs66 ( And.intro @rs67 ( And.intro @rs68 ( And.intro @rs69 ( And.intro @rs70 ( And.intro @rs71 ( And.intro @rs72 ( And.intro @rs73 ( And.intro @rs74 ( And.intro @rs75 ( And.intro @rs76 ( And.intro @rs77 ( And.intro @rs78 ( And.intro @rs79 ( And.intro @rs80 ( And.intro @rs81 ( And.intro @rs82 ( And.intro @rs84 ( And.intro @rs85 ( And.intro @rs86 ( And.intro @rs87 ( And.intro @rs88 ( And.intro @rs89 ( And.intro @rs90 ( And.intro @rs91 ( And.intro @rs92 ( And.intro @rs93 ( And.intro @rs94 ( And.intro @rs95 ( And.intro @rs96 ( And.intro @rs97 ( And.intro @rs98 ( And.intro @rs99 ( And.intro @rs101 ( And.intro @rs102 ( And.intro @rs103 ( And.intro @rs104 ( And.intro @rs105 ( And.intro @rs106 ( And.intro @rs107 ( And.intro @rs108 ( And.intro @rs110 ( And.intro @rs111 ( And.intro @rs112 ( And.intro @rs114 (@rs115))))))))))))))))))))))))))))))))))))))))))))))))))))))))))))))))))))))))))))))))))))))))))))))))))))))))))))))))))))))))))))))))))))))))))))))))))))))))))))))))))))))))))))))))))))))))))))))))))))))))))))))))))))))))))))))))))))))))))))))))))))))))))))))))))))))))))))))))))))))))))))))))))))))))))))))))))))))))))))))))))))))))

end Go.Proofs.Ytggklaimbklefaa

/- From a law's contract to its statement. -/
set_option maxHeartbeats 4000000
set_option synthInstance.maxHeartbeats 400000
set_option synthInstance.maxSize 4096
set_option linter.unusedSimpArgs false
set_option linter.unusedVariables false
namespace Go.Proofs.Ytggklaimbklefaa
open Go.ChangeShapes Go.WideShapes Go.ChangeAt Go.RowKit

section
variable {H : Type} {enc : TypeId × Value → H} {P : Program} {W W' : World}

theorem step_heap {A' : View} (h : Step (startV W) W A' W') : ∀ b, b < W.heap.size → W'.heap[b]? = W.heap[b]? :=
  fun b hb => h.kept b hb (fun k hk => startV_own W b k hk)

theorem step_keptBut {A' : View} (h : Step (startV W) W A' W') (may : MemPlace → Prop) : W.keptBut W' may := by
  refine ⟨h.os, h.output, fun i hi => ?_⟩
  rw [step_heap h i hi]
  split
  · rename_i h1 h2
    rw [h1] at h2
    injection h2 with h2
    injection h2 with e1 e2 e3
    subst e1; subst e2; subst e3
    exact ⟨rfl, rfl, rfl, fun _ _ => rfl⟩
  · rename_i h1 h2
    rw [h1] at h2
    injection h2 with h2
    injection h2 with e1 e2
    exact .inr ⟨e1.symm, e2.symm⟩
  · rfl

/-- As 'post_of_same', with what is frozen told of the places that were there alone. -/
theorem post_same {f : Func} {s : ChangeSpec} {apart fresh handsOn again : Bool} {args : Array Value} {v : Value} {ds gs : List (DataW H)} {before pa pv : List MemPlace}
    (hW : DataW.Whole enc P f.params.toList s.vars apart W args.toList ds gs before)
    (hres : ∀ (b : Nat) (sp : Nat → Bool) (hd : Bool), DataW.TrodAll enc P W' b sp hd f.resultTypes.toList (v.resultList f.resultTypes.size) (s.fn H (ds ++ gs)).results [])
    (hargs : ∀ sp : Nat → Bool, (∀ p ∈ before, sp p.block = true) → DataW.TrodAll enc P W' 0 sp true f.params.toList args.toList (s.fn H (ds ++ gs)).args pa)
    (hvars : ∀ sp : Nat → Bool, (∀ p ∈ before, sp p.block = true) → DataW.TrodVars enc P W' sp s.vars (s.fn H (ds ++ gs)).vars pv)
    (hps : before = pa ++ pv) (hk : W.keptBut W' (· ∈ before)) (hh : ∀ b, b < W.heap.size → W'.heap[b]? = W.heap[b]?)
    (hok : ∀ (j : Nat) (t : TypeId) (r : Value), f.resultTypes[j]? = some t → (v.resultList f.resultTypes.size)[j]? = some r → Value.okWide P W' .any 0 t r) :
    s.post enc P f apart fresh handsOn again W args v W' := by
  have hold : ∀ p ∈ before, p.block < W.heap.size := fun p hp => by simpa using hW.lt p hp
  have hold2 : ∀ p ∈ before, (fun b => decide (b < W.heap.size)) p.block = true := fun p hp => by simpa using hold p hp
  subst hps
  refine ⟨ds, gs, _, [], pa, pv, hW, hres _ _ _, hargs _ hold2, hvars _ hold2, World.keptBut_mono (fun p hp => ⟨hp, .inr (List.mem_append.1 hp)⟩) hk, fun _ => ?_⟩
  obtain ⟨_, _, _, _, _, hz, hn⟩ := hW
  refine ⟨hok, _, _, ([] ++ pa) ++ pv, ⟨[] ++ pa, pv, trodAll_append (hargs _ (fun _ _ => rfl)) (hres _ _ _), hvars _ (fun _ _ => rfl), rfl, fun b off hp => ?_, fun ha => by simpa using hn ha⟩, fun p hp _ => by simpa using hp⟩
  have e : ∀ a : Addr, a.block = b → W'.frozen? a = W.frozen? a := fun a ha => by
    unfold World.frozen?
    rw [ha, hh b (hold (.cell b off) (by simpa using hp))]
  rw [e _ rfl]
  exact hz b off (by simpa using hp)

theorem law_post {fn : Func} {s : ChangeSpec} {apart fresh handsOn again : Bool} {args : Array Value} {ds gs : List (DataW H)} {before : List MemPlace} {tb : TypeId} (hl : laidOutB P = true)
    (hb : P.underlying tb = some .bool) (hres : fn.resultTypes = #[tb]) (hvars : s.vars = []) (hfn : (s.fn H (ds ++ gs)).results = [.lit (.bool true)] ∧ (s.fn H (ds ++ gs)).args = ds ∧ (s.fn H (ds ++ gs)).vars = [])
    (hread : ∀ t ∈ fn.params.toList, P.readableRec t = true ∧ t < P.types.size)
    (hW : DataW.Whole enc P fn.params.toList s.vars apart W args.toList ds gs before) {A' : View} (hs : Step (startV W) W A' W') : s.post enc P fn apart fresh handsOn again W args (.bool true) W' := by
  have hlt : ∀ p ∈ before, p.block < W.heap.size := fun p hp => by simpa using hW.lt p hp
  have hW0 := hW
  obtain ⟨p, q, hA, hV, rfl, _, _⟩ := hW0
  rw [hvars] at hV
  obtain ⟨rfl, rfl⟩ := trodVars_none hV
  refine post_same (pa := p) (pv := []) hW ?_ ?_ ?_ (by simp) (step_keptBut hs _) (step_heap hs) ?_
  · intro b sp hd
    rw [hres, hfn.1]
    exact trodAll_cons_mk (shut_bool hb _) trodAll_mk0
  · intro sp hsp
    rw [hfn.2.1]
    exact args_stay hl (step_heap hs) _ _ _ _ hread (fun x hx => hlt x (List.mem_append_left _ hx)) (fun x hx => hsp x (List.mem_append_left _ hx)) hA
  · intro sp _
    rw [hvars, hfn.2.2]
    rfl
  · exact ok_one hres rfl (okWide_bool_mk hb _)

theorem law_calls {f : FuncId} {fn : Func} {s : ChangeSpec} {apart fresh handsOn again : Bool} {args : Array Value} {ds gs : List (DataW H)} {before : List MemPlace} {tb : TypeId} (hl : laidOutB P = true)
    (hb : P.underlying tb = some .bool) (hres : fn.resultTypes = #[tb]) (hvars : s.vars = []) (hfn : (s.fn H (ds ++ gs)).results = [.lit (.bool true)] ∧ (s.fn H (ds ++ gs)).args = ds ∧ (s.fn H (ds ++ gs)).vars = [])
    (hread : ∀ t ∈ fn.params.toList, P.readableRec t = true ∧ t < P.types.size)
    (hW : DataW.Whole enc P fn.params.toList s.vars apart W args.toList ds gs before) (hc : ACalls P f args (startV W) fun r _ => r = .bool true) :
    Calls P f args W fun e W' => ∃ v, e = .returned v ∧ s.post enc P fn apart fresh handsOn again W args v W' :=
  (hc W (startV_rel W)).mono fun _ _ ⟨v, A', he, hv, _, hs⟩ => ⟨v, he, by subst hv; exact law_post hl hb hres hvars hfn hread hW hs⟩

/-- What an argument holds. -/
theorem arg_of {α : Type} {S : Shape α} {t : TypeId} {v : Value} {d : DataW H} {p : List MemPlace} (hS : Reads enc P W S t) (h : DataW.Trod enc P W 0 (fun _ => true) true t v d p)
    (hw : ∀ n ∈ d.weights P t, n ≤ reachBytes) : ∃ a, S.rel (startV W) a v.cells.toList := by
  obtain ⟨fuel, hf⟩ := h
  exact hS.op _ _ _ hf hw
end

theorem okWide_structB {P : Program} {W : World} {within : Reach} {base : Nat} {t : TypeId} {v : Value} (h : (match P.underlying t with | some (.struct _) => true | _ => false) = true) (hv : Value.okWide P W within base t v) : ∃ cs, v = .agg cs := by
  match hu : P.underlying t, h with
  | some (.struct fs), _ =>
    obtain ⟨cs, rfl, _⟩ := okWide_struct hu hv
    exact ⟨cs, rfl⟩

end Go.Proofs.Ytggklaimbklefaa

/- Data of one's own: each slice in a block of its own; which blocks these are. -/
set_option maxHeartbeats 4000000
set_option synthInstance.maxHeartbeats 400000
set_option synthInstance.maxSize 4096
set_option linter.unusedSimpArgs false
set_option linter.unusedVariables false
namespace Go.Proofs.Ytggklaimbklefaa

/-- Data that is one's own: 'rel A fp x cs': the cells 'cs' hold 'x', whose slices lie in the blocks 'fp'. -/
structure OwnS (α : Type) where
  S : Shape α
  rel : View → List Nat → α → List Value → Prop
  toS : ∀ {A fp x cs}, rel A fp x cs → S.rel A x cs
  stay : ∀ {A B fp x cs}, rel A fp x cs → (∀ b k, b ∈ fp → A b = some k → B b = some k) → rel B fp x cs
  has : ∀ {A fp x cs}, rel A fp x cs → ∀ b, b ∈ fp → ∃ k, A b = some k

def scalO {α : Type} (S : Shape α) (hS : ∀ {A B x cs}, S.rel A x cs → S.rel B x cs) : OwnS α := ⟨S, fun A fp x cs => fp = [] ∧ S.rel A x cs, fun h => h.2, fun h _ => ⟨h.1, hS h.2⟩, fun h b hb => by rw [h.1] at hb; cases hb⟩
def strO : OwnS ByteArray := scalO strS fun h => h
def intO : OwnS Int := scalO intS fun h => h
def boolO : OwnS Bool := scalO boolS fun h => h
def byteO : OwnS UInt8 := scalO byteS fun h => h
def unitO : OwnS Unit := scalO unitS fun h => h
def consO {α β : Type} (O : OwnS α) (Q : OwnS β) : OwnS (α × β) where
  S := consS O.S Q.S
  rel A fp x cs := ∃ f g c d, fp = f ++ g ∧ cs = c ++ d ∧ O.rel A f x.1 c ∧ Q.rel A g x.2 d
  toS := fun ⟨_, _, c, d, _, h, h1, h2⟩ => ⟨c, d, h, O.toS h1, Q.toS h2⟩
  stay := fun ⟨f, g, c, d, hf, h, h1, h2⟩ he => ⟨f, g, c, d, hf, h, O.stay h1 (fun b k hb => he b k (by rw [hf]; exact List.mem_append_left _ hb)), Q.stay h2 (fun b k hb => he b k (by rw [hf]; exact List.mem_append_right _ hb))⟩
  has := fun ⟨f, g, c, d, hf, h, h1, h2⟩ b hb => by
    rw [hf] at hb
    exact (List.mem_append.1 hb).elim (O.has h1 b) (Q.has h2 b)

section
variable {α : Type} {O : OwnS α} {A B : View} {fp fq : List Nat} {xs ys : List α} {cs ds : List Value}

inductive OElems (O : OwnS α) (A : View) : List Nat → List α → List Value → Prop where
  | nil : OElems O A [] [] []
  | cons {f fp : List Nat} {x : α} {xs : List α} {c cs : List Value} : O.rel A f x c → OElems O A fp xs cs → OElems O A (f ++ fp) (x :: xs) (c ++ cs)

theorem OElems.toS (h : OElems O A fp xs cs) : Elems O.S A xs cs := by
  induction h with
  | nil => exact .nil
  | cons h1 _ ih => exact .cons (O.toS h1) ih
theorem OElems.stay (h : OElems O A fp xs cs) : (∀ b k, b ∈ fp → A b = some k → B b = some k) → OElems O B fp xs cs := by
  induction h with
  | nil => exact fun _ => .nil
  | cons h1 _ ih => exact fun he => .cons (O.stay h1 (fun b k hb => he b k (List.mem_append_left _ hb))) (ih (fun b k hb => he b k (List.mem_append_right _ hb)))
theorem OElems.has (h : OElems O A fp xs cs) : ∀ b, b ∈ fp → ∃ k, A b = some k := by
  induction h with
  | nil => intro b hb; cases hb
  | cons h1 _ ih => exact fun b hb => (List.mem_append.1 hb).elim (O.has h1 b) (ih b)
theorem OElems.append (h : OElems O A fp xs cs) (h' : OElems O A fq ys ds) : OElems O A (fp ++ fq) (xs ++ ys) (cs ++ ds) := by
  induction h with
  | nil => exact h'
  | cons h1 _ ih => rw [List.append_assoc, List.append_assoc]; exact .cons h1 ih
theorem OElems.single {x : α} {c : List Value} (h : O.rel A fp x c) : OElems O A fp [x] c := by
  have := OElems.cons h (.nil (O := O) (A := A))
  rwa [List.append_nil, List.append_nil] at this
theorem OElems.len (h : OElems O A fp xs cs) : cs.length = xs.length * O.S.size := h.toS.len
theorem OElems.split : ∀ {xs : List α} {fp : List Nat} {ys : List α} {cs : List Value}, OElems O A fp (xs ++ ys) cs → ∃ f g c d, fp = f ++ g ∧ cs = c ++ d ∧ OElems O A f xs c ∧ OElems O A g ys d
  | [], fp, ys, cs, h => ⟨[], fp, [], cs, rfl, rfl, .nil, h⟩
  | x :: xs, _, ys, _, .cons (f := f) (fp := fp) (c := c) (cs := cs) h1 h2 => by
    obtain ⟨f', g, c', d, rfl, rfl, h3, h4⟩ := OElems.split h2
    exact ⟨f ++ f', g, c ++ c', d, by rw [List.append_assoc], by rw [List.append_assoc], .cons h1 h3, h4⟩
theorem OElems.at (h : OElems O A fp xs cs) {i : Nat} (hi : i < xs.length) : ∃ f1 f2 f3 c1 c2 c3, fp = f1 ++ (f2 ++ f3) ∧ cs = c1 ++ (c2 ++ c3) ∧ c1.length = i * O.S.size ∧ OElems O A f1 (xs.take i) c1 ∧ O.rel A f2 xs[i] c2 ∧ OElems O A f3 (xs.drop (i + 1)) c3 := by
  have e : xs = xs.take i ++ (xs[i] :: xs.drop (i + 1)) := by rw [List.getElem_cons_drop, List.take_append_drop]
  rw [e] at h
  obtain ⟨f, g, c, d, rfl, rfl, h1, h2⟩ := h.split
  cases h2 with
  | cons h3 h4 => exact ⟨_, _, _, _, _, _, rfl, rfl, by rw [h1.len, List.length_take, Nat.min_eq_left (by omega)], h1, h3, h4⟩

/-- A slice of one's own in a block of its own. -/
def OSl (e : TypeId) (O : OwnS α) (A : View) (fp : List Nat) (v : Value) (xs : List α) : Prop :=
  xs.length ≤ 140737488355328 ∧ ((v = .slice none 0 0 ∧ xs = [] ∧ fp = []) ∨
    ∃ b c cells f, v = .slice (some ⟨b, 0, none⟩) xs.length c ∧ xs.length ≤ c ∧ fp = b :: f ∧ A b = some ⟨e, cells, c * O.S.size, true⟩ ∧ OElems O A f xs cells)

theorem OSl.toS {e : TypeId} {v : Value} (h : OSl e O A fp v xs) : Sl O.S A v xs := by
  obtain ⟨hl, ⟨rfl, rfl, rfl⟩ | ⟨b, c, cells, f, rfl, hc, rfl, hb, he⟩⟩ := h
  · exact Sl.nil _ _
  · refine ⟨hl, _, c, rfl, hc, fun _ => ⟨_, cells, rfl, ?_, he.toS⟩⟩
    rw [part_at hb (by simp [he.len]) (fun v hv => he.toS.one v (List.mem_of_mem_drop (List.mem_of_mem_take hv)))]
    simp [List.take_of_length_le, he.len]
theorem OSl.stay {e : TypeId} {v : Value} (h : OSl e O A fp v xs) (hx : ∀ b k, b ∈ fp → A b = some k → B b = some k) : OSl e O B fp v xs := by
  obtain ⟨hl, ⟨rfl, rfl, rfl⟩ | ⟨b, c, cells, f, rfl, hc, rfl, hb, he⟩⟩ := h
  · exact ⟨hl, .inl ⟨rfl, rfl, rfl⟩⟩
  · exact ⟨hl, .inr ⟨b, c, cells, f, rfl, hc, rfl, hx b _ (List.mem_cons_self ..) hb, he.stay fun x k hx' => hx x k (List.mem_cons_of_mem _ hx')⟩⟩
theorem OSl.has {e : TypeId} {v : Value} (h : OSl e O A fp v xs) : ∀ b, b ∈ fp → ∃ k, A b = some k := by
  obtain ⟨hl, ⟨rfl, rfl, rfl⟩ | ⟨b, c, cells, f, rfl, hc, rfl, hb, he⟩⟩ := h
  · intro b hb; cases hb
  · intro x hx
    rcases List.mem_cons.1 hx with rfl | hx
    · exact ⟨_, hb⟩
    · exact he.has x hx
end

/-- A slice of one's own as one cell. -/
def slO {α : Type} (e : TypeId) (O : OwnS α) : OwnS (List α) where
  S := slS O.S
  rel A fp xs cs := ∃ v, cs = [v] ∧ OSl e O A fp v xs
  toS := fun ⟨v, h, hs⟩ => ⟨v, h, hs.toS⟩
  stay := fun ⟨v, h, hs⟩ hx => ⟨v, h, hs.stay hx⟩
  has := fun ⟨v, h, hs⟩ => hs.has

/-- Outside of some blocks all that was known is still known. -/
def Only (fp : List Nat) (A B : View) : Prop := ∀ b k, b ∉ fp → A b = some k → B b = some k
theorem Only.refl (fp : List Nat) (A : View) : Only fp A A := fun _ _ _ h => h
theorem Only.ext {A B : View} (h : Ext A B) (fp : List Nat) : Only fp A B := fun b k _ hb => h b k hb
theorem Only.trans {fp : List Nat} {A B C : View} (h : Only fp A B) (h' : Only fp B C) : Only fp A C := fun b k hb hk => h' b k hb (h b k hb hk)
theorem Only.more {fp fq : List Nat} {A B : View} (h : Only fp A B) (hs : ∀ b, b ∈ fp → b ∈ fq) : Only fq A B := fun b k hb hk => h b k (fun hm => hb (hs b hm)) hk

theorem Ext.setOld {A B : View} {b : Nat} (h : Ext A B) (hb : A b = Option.none) (k : Blk) : Ext A (B.set b k) := fun x kx hx => by
  rw [View.set_ne _ _ (fun e => by rw [e, hb] at hx; cases hx)]
  exact h x kx hx
theorem OSl.set {α : Type} {O : OwnS α} {A : View} {fp : List Nat} {xs : List α} {e : TypeId} {v : Value} (h : OSl e O A fp v xs) {b : Nat} (hb : b ∉ fp) (k : Blk) : OSl e O (A.set b k) fp v xs := h.stay fun x kx hx hk => by
  rw [View.set_ne _ _ (fun e => hb (by rw [← e]; exact hx))]; exact hk

/-- An element written in a block of one's own. -/
theorem storev_at {P : Program} {A : View} {t e : TypeId} {n b : Nat} (h : (P.info? t).map (·.size) = some n) {v : Value} {c1 c2 c3 : List Value} {room : Nat} (hk : A b = some ⟨e, c1 ++ (c2 ++ c3), room, true⟩)
    (hn : v.cells.size = n) (hc : c2.length = n) (h1 : v.cells.toList.all (·.oneCell') = true) {o : Nat} (ho : o = c1.length) :
    A.storev P t ⟨b, o, none⟩ v = some (A.set b ⟨e, c1 ++ (v.cells.toList ++ c3), room, true⟩) := by
  subst ho
  rw [storev_set h (k := ⟨e, c1 ++ (c2 ++ c3), room, true⟩) hk rfl rfl hn (by simp; omega) h1]
  simp only [List.take_left', List.append_assoc]
  rw [← List.append_assoc c1 c2 c3, List.drop_left' (by simp [hc])]

theorem View.set_set (A : View) (b : Nat) (k k' : Blk) : (A.set b k).set b k' = A.set b k' := by
  funext x
  unfold View.set
  split <;> rfl
theorem View.kill_set (A : View) {b : Nat} (k : Blk) (h : A b = none) : (A.set b k).kill b = A := by
  funext x
  by_cases hx : x = b
  · subst hx; rw [View.kill_same, h]
  · rw [View.kill_ne _ hx, View.set_ne _ _ hx]
theorem Only.set {A : View} {b : Nat} {fp : List Nat} (k : Blk) (h : b ∈ fp) : Only fp A (A.set b k) := fun x kx hx hk => by
  rw [View.set_ne _ _ (fun e => hx (by rw [e]; exact h))]; exact hk

end Go.Proofs.Ytggklaimbklefaa

/- Ledgers: what is one's own, side by side; and kinds of data with their marks. -/
set_option maxHeartbeats 4000000
set_option synthInstance.maxHeartbeats 400000
set_option synthInstance.maxSize 4096
set_option linter.unusedSimpArgs false
set_option linter.unusedVariables false
namespace Go.Proofs.Ytggklaimbklefaa

/-- Something known of some blocks. -/
structure It where
  fp : List Nat
  φ : View → Prop
  stay : ∀ {V W : View}, φ V → (∀ b k, b ∈ fp → V b = some k → W b = some k) → φ W
  has : ∀ {V : View}, φ V → ∀ b, b ∈ fp → ∃ k, V b = some k

/-- A block. -/
def bx (b : Nat) (k : Blk) : It := ⟨[b], fun V => V b = some k, fun h hs => hs b k (List.mem_singleton.2 rfl) h, fun h x hx => by rw [List.mem_singleton] at hx; subst hx; exact ⟨k, h⟩⟩
/-- A slice of one's own. -/
def osl {α : Type} (e : TypeId) (O : OwnS α) (fp : List Nat) (v : Value) (xs : List α) : It := ⟨fp, fun V => OSl e O V fp v xs, fun h hs => h.stay hs, fun h => h.has⟩
/-- Cells of one's own. -/
def oc {α : Type} (O : OwnS α) (fp : List Nat) (x : α) (cs : List Value) : It := ⟨fp, fun V => O.rel V fp x cs, fun h hs => O.stay h hs, fun h => O.has h⟩
/-- Elements of one's own. -/
def oel {α : Type} (O : OwnS α) (fp : List Nat) (xs : List α) (cs : List Value) : It := ⟨fp, fun V => OElems O V fp xs cs, fun h hs => h.stay hs, fun h => h.has⟩

def fps (L : List It) : List Nat := L.flatMap It.fp

/-- What has come since the view 'A': all that was known then is still so, and each thing of the list holds in blocks of its own. -/
structure Led (A : View) (L : List It) (V : View) : Prop where
  ext : Ext A V
  all : ∀ it, it ∈ L → it.φ V
  new : ∀ b, b ∈ fps L → A b = none
  nd : (fps L).Nodup

section
variable {A B V W : View} {L : List It}

theorem Led.nil (A : View) : Led A [] A := ⟨Ext.refl A, fun _ h => (by cases h), fun _ h => (by cases h), List.nodup_nil⟩

theorem Only.empty {V W : View} (h : Ext V W) : Only [] V W := fun b k _ hb => h b k hb
theorem Only.toExt {V W : View} (h : Only [] V W) : Ext V W := fun b k hb => h b k (by simp) hb

theorem mem_fps {it : It} (h : it ∈ L) {b : Nat} (hb : b ∈ it.fp) : b ∈ fps L := List.mem_flatMap.2 ⟨it, h, hb⟩

theorem Led.has (h : Led A L V) {b : Nat} (hb : b ∈ fps L) : ∃ k, V b = some k := by
  obtain ⟨it, hit, hb⟩ := List.mem_flatMap.1 hb
  exact it.has (h.all it hit) b hb

theorem Led.step (h : Led A L V) (he : Ext V W) : Led A L W := ⟨h.ext.trans he, fun it hit => it.stay (h.all it hit) (fun b k _ hb => he b k hb), h.new, h.nd⟩

theorem Led.cons (h : Led A L V) (he : Ext V W) (it : It) (hφ : it.φ W) (hfr : ∀ b, b ∈ it.fp → V b = none) (hnd : it.fp.Nodup) : Led A (it :: L) W := by
  refine ⟨h.ext.trans he, fun x hx => ?_, fun b hb => ?_, ?_⟩
  · rcases List.mem_cons.1 hx with rfl | hx
    · exact hφ
    · exact (h.step he).all x hx
  · rw [fps, List.flatMap_cons] at hb
    rcases List.mem_append.1 hb with hb | hb
    · exact h.ext.none (hfr b hb)
    · exact h.new b hb
  · rw [fps, List.flatMap_cons, List.nodup_append]
    refine ⟨hnd, h.nd, fun x hx y hy e => ?_⟩
    obtain ⟨k, hk⟩ := h.has hy
    rw [← e, hfr x hx] at hk; cases hk

theorem Led.at (h : Led A L V) {i : Nat} {it : It} (hi : L[i]? = some it) : it.φ V := h.all it (List.mem_of_getElem? hi)
theorem Led.fresh (h : Led A L V) {i : Nat} {it : It} (hi : L[i]? = some it) : ∀ b, b ∈ it.fp → A b = none := fun b hb => h.new b (mem_fps (List.mem_of_getElem? hi) hb)

theorem fps_split (L : List It) (i : Nat) (it : It) (hi : L[i]? = some it) : fps L = fps (L.take i) ++ (it.fp ++ fps (L.drop (i + 1))) := by
  have hlt := (List.getElem?_eq_some_iff.1 hi).1
  have e : L = L.take i ++ (it :: L.drop (i + 1)) := by
    have h2 := (List.getElem?_eq_some_iff.1 hi).2
    rw [← h2, List.getElem_cons_drop, List.take_append_drop]
  conv => lhs; rw [e]
  simp only [fps, List.flatMap_append, List.flatMap_cons]

theorem Led.nodup1 (h : Led A L V) {i : Nat} {it : It} (hi : L[i]? = some it) : it.fp.Nodup := by
  have := h.nd
  rw [fps_split L i it hi, List.nodup_append] at this
  exact (List.nodup_append.1 this.2.1).1

theorem fps_dis {L : List It} (hn : (fps L).Nodup) {i j : Nat} {it jt : It} (hi : L[i]? = some it) (hj : L[j]? = some jt) (hij : i ≠ j) : ∀ b, b ∈ it.fp → b ∉ jt.fp := by
  have key : ∀ {L : List It}, (fps L).Nodup → ∀ {i j : Nat} {it jt : It}, L[i]? = some it → L[j]? = some jt → i < j → ∀ b, b ∈ it.fp → b ∉ jt.fp := by
    intro L hn i j it jt hi hj hlt b hb hb2
    rw [fps_split L i it hi, List.nodup_append] at hn
    have h2 := List.nodup_append.1 hn.2.1
    have hm : jt ∈ L.drop (i + 1) := by
      refine List.mem_of_getElem? (i := j - (i + 1)) ?_
      rw [List.getElem?_drop, show i + 1 + (j - (i + 1)) = j by omega]
      exact hj
    exact h2.2.2 b hb b (mem_fps hm hb2) rfl
  intro b hb hb2
  rcases Nat.lt_or_ge i j with h1 | h1
  · exact key hn hi hj h1 b hb hb2
  · exact key hn hj hi (by omega) b hb2 hb

theorem Led.dis (h : Led A L V) {i j : Nat} {it jt : It} (hi : L[i]? = some it) (hj : L[j]? = some jt) (hij : i ≠ j) : ∀ b, b ∈ it.fp → b ∉ jt.fp := fps_dis h.nd hi hj hij

theorem fps_set {L : List It} {i : Nat} {it jt : It} (hi : L[i]? = some it) (hfp : jt.fp = it.fp) : fps (L.set i jt) = fps L := by
  have hlt := (List.getElem?_eq_some_iff.1 hi).1
  have hs : (L.set i jt)[i]? = some jt := by rw [List.getElem?_set_self hlt]
  rw [fps_split L i it hi, fps_split (L.set i jt) i jt hs, hfp, List.take_set_of_le (Nat.le_refl _), List.drop_set_of_lt (by omega)]

/-- One thing is changed, within its blocks. -/
theorem Led.upd (h : Led A L V) {i : Nat} {it jt : It} (hi : L[i]? = some it) (hfp : jt.fp = it.fp) (ho : Only it.fp V W) (hφ : jt.φ W) : Led A (L.set i jt) W := by
  have hfr := h.fresh hi
  refine ⟨fun b k hb => ?_, fun x hx => ?_, fun b hb => ?_, ?_⟩
  · refine ho b k (fun hm => ?_) (h.ext b k hb)
    rw [hfr b hm] at hb; cases hb
  · obtain ⟨j, hj⟩ := List.mem_iff_getElem?.1 hx
    by_cases hij : i = j
    · subst hij
      have hlt := (List.getElem?_eq_some_iff.1 hi).1
      rw [List.getElem?_set_self hlt] at hj
      obtain rfl := Option.some.inj hj
      exact hφ
    · rw [List.getElem?_set_ne hij] at hj
      exact x.stay (h.at hj) fun b k hb hk => ho b k (h.dis hj hi (fun e => hij e.symm) b hb) hk
  · rw [fps_set hi hfp] at hb; exact h.new b hb
  · rw [fps_set hi hfp]; exact h.nd

/-- Things are forgotten, or stand in another order. -/
theorem Led.pick (h : Led A L V) (M : List It) (hs : ∀ it, it ∈ M → it ∈ L) (hn : (fps M).Nodup) : Led A M V :=
  ⟨h.ext, fun it hit => h.all it (hs it hit), fun b hb => by
    obtain ⟨it, hit, hb⟩ := List.mem_flatMap.1 hb
    exact h.new b (mem_fps (hs it hit) hb), hn⟩
theorem fps_sublist {M : List It} (hs : M.Sublist L) : (fps M).Sublist (fps L) := by
  induction hs with
  | slnil => exact List.Sublist.refl _
  | cons a _ ih => exact ih.trans (by simp [fps])
  | cons_cons a _ ih => simp only [fps, List.flatMap_cons]; exact List.Sublist.append (List.Sublist.refl _) ih
theorem Led.sub (h : Led A L V) {M : List It} (hs : M.Sublist L) : Led A M V := h.pick M (fun _ hm => hs.subset hm) ((fps_sublist hs).nodup h.nd)
theorem Led.tail (h : Led A L V) : Led A L.tail V := h.sub (List.tail_sublist L)
theorem Led.unk (h : Led A L V) {b : Nat} (hb : V b = none) : A b = none := h.ext.none hb

/-- What is one's own since a later view is so since an earlier one. -/
theorem Led.base (h : Led B L V) (he : Ext A B) : Led A L V := ⟨he.trans h.ext, h.all, fun b hb => he.none (h.new b hb), h.nd⟩
/-- Side by side. -/
theorem Led.append {M : List It} (h : Led A L B) (h' : Led B M V) : Led A (M ++ L) V := by
  refine ⟨h.ext.trans h'.ext, fun it hit => ?_, fun b hb => ?_, ?_⟩
  · rcases List.mem_append.1 hit with hit | hit
    · exact h'.all it hit
    · exact (h.step h'.ext).all it hit
  · rw [fps, List.flatMap_append] at hb
    rcases List.mem_append.1 hb with hb | hb
    · exact h.ext.none (h'.new b hb)
    · exact h.new b hb
  · rw [fps, List.flatMap_append, List.nodup_append]
    refine ⟨h'.nd, h.nd, fun x hx y hy e => ?_⟩
    obtain ⟨k, hk⟩ := h.has hy
    rw [← e, h'.new x hx] at hk; cases hk

theorem Led.cell (h : Led A L V) {i b : Nat} {k : Blk} (hi : L[i]? = some (bx b k)) {o : Nat} {v : Value} (hc : k.cells[o]? = some v) (h1 : v.oneCell' = true) : V.cell ⟨b, 0 + o, none⟩ = some v := by
  rw [Nat.zero_add]
  exact cell_at (h.at hi) hc h1
theorem Led.part (h : Led A L V) {i b : Nat} {k : Blk} (hi : L[i]? = some (bx b k)) (h1 : k.cells.all (·.oneCell') = true) : V.part ⟨b, 0, none⟩ k.cells.length = some k.cells := by
  have hb : V b = some k := h.at hi
  have := part_at (A := V) (off := 0) (n := k.cells.length) hb (by omega) (fun v hv => List.all_eq_true.1 h1 v (List.mem_of_mem_drop (List.mem_of_mem_take hv)))
  simpa using this

/-! ### operations -/
variable {P : Program} {K : Value → View → Prop}
theorem led_box {t : TypeId} {cs : List Value} (h : Led A L V) (h1 : cs.all (·.oneCell') = true) (hk : ∀ b W, Ext V W → Led A (bx b ⟨t, cs, cs.length, true⟩ :: L) W → K (.pointer (some ⟨b, 0, none⟩)) W) : abox P t (.agg cs.toArray) V K := by
  rw [abox_agg t cs h1]
  exact fun b hb => hk b _ (Ext.new hb _) (h.cons (Ext.new hb _) (bx b _) (View.set_same ..) (fun x hx => by rw [List.mem_singleton.1 hx]; exact hb) (by simp [bx]))
/-- One value in a block of its own. -/
theorem led_box1 {t : TypeId} {v : Value} (h : Led A L V) (h0 : v.cells = #[v]) (h1 : v.oneCell' = true) (hk : ∀ b W, Ext V W → Led A (bx b ⟨t, [v], 1, true⟩ :: L) W → K (.pointer (some ⟨b, 0, none⟩)) W) : abox P t v V K := by
  rw [abox_at (by rw [h0]; simpa using h1)]
  intro b hb
  rw [h0]
  exact hk b _ (Ext.new hb _) (h.cons (Ext.new hb _) (bx b _) (View.set_same ..) (fun x hx => by rw [List.mem_singleton.1 hx]; exact hb) (by simp [bx]))
theorem led_alloc {t : TypeId} {cs : List Value} (hz : zeroCells? P t = some cs) (h : Led A L V) (hk : ∀ b W, Ext V W → Led A (bx b ⟨t, cs, cs.length, true⟩ :: L) W → K (.pointer (some ⟨b, 0, none⟩)) W) : aalloc P t V K := by
  rw [aalloc_at hz]
  exact fun b hb => hk b _ (Ext.new hb _) (h.cons (Ext.new hb _) (bx b _) (View.set_same ..) (fun x hx => by rw [List.mem_singleton.1 hx]; exact hb) (by simp [bx]))
theorem led_set (h : Led A L V) {i b : Nat} {k k' : Blk} (hi : L[i]? = some (bx b k)) : Led A (L.set i (bx b k')) (V.set b k') :=
  h.upd hi rfl (Only.set _ (List.mem_singleton.2 rfl)) (View.set_same ..)
theorem led_store {t e : TypeId} {n b o room : Nat} {v : Value} {cells : List Value} (h : Led A L V) (i : Nat) (hi : L[i]? = some (bx b ⟨e, cells, room, true⟩)) (hs : (P.info? t).map (·.size) = some n) (hn : v.cells.size = n)
    (hl : decide (o + n ≤ cells.length) = true) (h1 : v.cells.toList.all (·.oneCell') = true) (hk : ∀ W, Led A (L.set i (bx b ⟨e, cells.take o ++ v.cells.toList ++ cells.drop (o + n), room, true⟩)) W → K undef W) : astore P t (.pointer (some ⟨b, o, none⟩)) v V K := by
  have hb : V b = some ⟨e, cells, room, true⟩ := h.at hi
  rw [astore_at, storev_set hs (k := ⟨e, cells, room, true⟩) hb rfl rfl hn (of_decide_eq_true hl) h1]
  exact hk _ (led_set h hi)
/-- A whole variable is read. -/
theorem Led.partn (h : Led A L V) {i b n room : Nat} {e : TypeId} {cells : List Value} (hi : L[i]? = some (bx b ⟨e, cells, room, true⟩)) (hn : cells.length = n) (h1 : ∀ v ∈ cells, v.oneCell' = true) : V.part ⟨b, 0, none⟩ n = some cells := by
  subst hn
  exact h.part hi (List.all_eq_true.2 h1)
/-- A whole variable is written. -/
theorem led_storeAll {t e : TypeId} {n b room : Nat} {cells d : List Value} (h : Led A L V) (i : Nat) (hi : L[i]? = some (bx b ⟨e, cells, room, true⟩)) (hs : (P.info? t).map (·.size) = some n) (hn : d.length = n) (hl : cells.length = n)
    (h1 : ∀ v ∈ d, v.oneCell' = true) (hk : ∀ W, Led A (L.set i (bx b ⟨e, d, room, true⟩)) W → K undef W) : astore P t (.pointer (some ⟨b, 0, none⟩)) (.agg d.toArray) V K := by
  have hb : V b = some ⟨e, cells, room, true⟩ := h.at hi
  have hc : (Value.agg d.toArray).cells.toList = d := rfl
  rw [astore_at, storev_set hs (k := ⟨e, cells, room, true⟩) hb rfl rfl (by show d.toArray.size = n; simpa using hn) (by simp; omega) (by rw [hc]; exact List.all_eq_true.2 h1)]
  show K undef _
  have e1 : cells.take 0 ++ (Value.agg d.toArray).cells.toList ++ cells.drop (0 + n) = d := by
    rw [hc, List.take_zero, List.nil_append, List.drop_of_length_le (by omega), List.append_nil]
  simp only [e1]
  exact hk _ (led_set h hi)
theorem led0 (h : ∀ it, it ∈ L → it.φ V) (hn : (fps L).Nodup) : Led (fun _ => none) L V := ⟨(fun b k hb => nomatch hb), h, fun _ _ => rfl, hn⟩
theorem led_mid {t e : TypeId} {b o room : Nat} {v : Value} {c1 c3 d : List Value} (h : Led A L V) (i : Nat) (hi : L[i]? = some (bx b ⟨e, c1 ++ (d ++ c3), room, true⟩)) (hs : (P.info? t).map (·.size) = some 1) {j : Nat} {d' : List Value} (ho : o = c1.length + j)
    (hv : v.cells = #[v] ∧ v.oneCell' = true) (hd : j < d.length ∧ d.set j v = d') (hk : ∀ W, Only [b] V W → Led A (L.set i (bx b ⟨e, c1 ++ (d' ++ c3), room, true⟩)) W → K undef W) : astore P t (.pointer (some ⟨b, o, none⟩)) v V K := by
  subst ho
  obtain ⟨hj, rfl⟩ := hd
  have hb : V b = some ⟨e, c1 ++ (d ++ c3), room, true⟩ := h.at hi
  have hc : v.cells.toList = [v] := by rw [hv.1]
  rw [astore_at, storev_set hs (k := ⟨e, c1 ++ (d ++ c3), room, true⟩) hb rfl rfl (by rw [hv.1]; rfl) (by simp; omega) (by rw [hc]; simpa using hv.2)]
  have e1 : (c1 ++ (d ++ c3)).take (c1.length + j) ++ v.cells.toList ++ (c1 ++ (d ++ c3)).drop (c1.length + j + 1) = c1 ++ (d.set j v ++ c3) := by
    rw [hc, List.take_append, List.take_of_length_le (by omega), Nat.add_sub_cancel_left, List.take_append_of_le_length (by omega), Nat.add_assoc, ← List.drop_drop, List.drop_left' rfl, List.drop_append_of_le_length (by omega), List.set_eq_take_append_cons_drop, if_pos hj]
    simp only [List.append_assoc, List.cons_append, List.nil_append]
  show K undef _
  simp only [e1]
  exact hk _ (Only.set _ (List.mem_singleton.2 rfl)) (led_set h hi)
theorem led_midcell {e : TypeId} {b o room : Nat} {c1 c3 d : List Value} (h : Led A L V) {i : Nat} (hi : L[i]? = some (bx b ⟨e, c1 ++ (d ++ c3), room, true⟩)) {j : Nat} {v : Value} (ho : o = c1.length + j) (hd : d[j]? = some v) (h1 : v.oneCell' = true) : V.cell ⟨b, o, none⟩ = some v := by
  subst ho
  refine cell_at (h.at hi) ?_ h1
  show (c1 ++ (d ++ c3))[c1.length + j]? = _
  rw [List.getElem?_append_right (by omega), Nat.add_sub_cancel_left, List.getElem?_append_left (List.getElem?_eq_some_iff.1 hd).1, hd]
end
theorem OElems.uncons {α : Type} {O : OwnS α} {A : View} {fp : List Nat} {x : α} {xs : List α} {cs : List Value} (h : OElems O A fp (x :: xs) cs) : ∃ f g c d, fp = f ++ g ∧ cs = c ++ d ∧ O.rel A f x c ∧ OElems O A g xs d := by
  cases h with
  | cons h1 h2 => exact ⟨_, _, _, _, rfl, rfl, h1, h2⟩
theorem OElems.nil_inv {α : Type} {O : OwnS α} {A : View} {fp : List Nat} {cs : List Value} (h : OElems O A fp [] cs) : fp = [] ∧ cs = [] := by
  cases h
  exact ⟨rfl, rfl⟩

/-! ### kinds of data -/
/-- A kind of data: its shape, what is its own, how many marks it takes and what it is with them, and its weight. -/
structure GT (α : Type) where mkGT ::
  O : OwnS α
  cnt : α → Nat
  mk : Nat → α → α
  w : α → Nat

def mkBool (k : Nat) : Bool := decide (k % 3 = 0)
section
variable {α β : Type}
def cntL (T : GT α) : List α → Nat
  | [] => 0
  | x :: xs => T.cnt x + cntL T xs
def mkL (T : GT α) : Nat → List α → List α
  | _, [] => []
  | k, x :: xs => T.mk k x :: mkL T (k + T.cnt x) xs
def wL (T : GT α) : List α → Nat
  | [] => 0
  | x :: xs => T.w x + wL T xs
theorem cntL_append (T : GT α) (xs ys : List α) : cntL T (xs ++ ys) = cntL T xs + cntL T ys := by
  induction xs with
  | nil => simp [cntL]
  | cons x xs ih => simp only [List.cons_append, cntL, ih, Nat.add_assoc]
theorem wL_append (T : GT α) (xs ys : List α) : wL T (xs ++ ys) = wL T xs + wL T ys := by
  induction xs with
  | nil => simp [wL]
  | cons x xs ih => simp only [List.cons_append, wL, ih, Nat.add_assoc]
theorem mkL_append (T : GT α) : ∀ (k : Nat) (xs ys : List α), mkL T k (xs ++ ys) = mkL T k xs ++ mkL T (k + cntL T xs) ys
  | k, [], ys => by simp [mkL, cntL]
  | k, x :: xs, ys => by simp only [List.cons_append, mkL, cntL, mkL_append T _ xs ys, Nat.add_assoc]
theorem mkL_len (T : GT α) : ∀ (k : Nat) (xs : List α), (mkL T k xs).length = xs.length
  | _, [] => rfl
  | k, x :: xs => by simp only [mkL, List.length_cons, mkL_len T _ xs]
theorem cntL_take (T : GT α) (xs : List α) {i : Nat} (h : i < xs.length) : cntL T (xs.take (i + 1)) = cntL T (xs.take i) + T.cnt xs[i] := by
  rw [List.take_succ_eq_append_getElem h, cntL_append]; simp [cntL]
theorem mkL_take (T : GT α) (k : Nat) (xs : List α) {i : Nat} (h : i < xs.length) : mkL T k (xs.take (i + 1)) = mkL T k (xs.take i) ++ [T.mk (k + cntL T (xs.take i)) xs[i]] := by
  rw [List.take_succ_eq_append_getElem h, mkL_append]; simp [mkL]
theorem cntL_le (T : GT α) (xs : List α) (i : Nat) : cntL T (xs.take i) ≤ cntL T xs := by
  conv => rhs; rw [← List.take_append_drop i xs, cntL_append]
  omega
theorem cntL_split (T : GT α) (xs : List α) {i : Nat} (h : i < xs.length) : cntL T xs = cntL T (xs.take i) + T.cnt xs[i] + cntL T (xs.drop (i + 1)) := by
  have e1 : xs = xs.take i ++ (xs[i] :: xs.drop (i + 1)) := by rw [List.getElem_cons_drop, List.take_append_drop]
  have e2 := congrArg (cntL T) e1
  rw [cntL_append] at e2
  simp only [cntL] at e2
  omega
theorem mkL_get (T : GT α) : ∀ (k : Nat) (xs : List α) (i : Nat) (h : i < xs.length), (mkL T k xs)[i]'(by rw [mkL_len]; exact h) = T.mk (k + cntL T (xs.take i)) xs[i]
  | k, x :: xs, 0, _ => by simp [mkL, cntL]
  | k, x :: xs, i + 1, h => by
    simp only [mkL, List.getElem_cons_succ, List.take_succ_cons, cntL]
    rw [mkL_get T _ xs i (by simpa using h)]
    simp only [Nat.add_assoc]
theorem wL_mem (T : GT α) {xs : List α} {x : α} (h : x ∈ xs) : T.w x ≤ wL T xs := by
  induction xs with
  | nil => cases h
  | cons y ys ih =>
    simp only [wL]
    rcases List.mem_cons.1 h with rfl | h
    · omega
    · have := ih h; omega
theorem wL_take (T : GT α) (xs : List α) {i : Nat} (h : i < xs.length) : wL T (xs.take (i + 1)) = wL T (xs.take i) + T.w xs[i] := by
  rw [List.take_succ_eq_append_getElem h, wL_append]; simp [wL]

def intT : GT Int := ⟨intO, fun _ => 1, fun k _ => (k : Int), fun _ => 0⟩
def boolT : GT Bool := ⟨boolO, fun _ => 1, fun k _ => mkBool k, fun _ => 0⟩
def unitT : GT Unit := ⟨unitO, fun _ => 0, fun _ x => x, fun _ => 0⟩
def consT (T : GT α) (U : GT β) : GT (α × β) := ⟨consO T.O U.O, fun x => T.cnt x.1 + U.cnt x.2, fun k x => (T.mk k x.1, U.mk (k + T.cnt x.1) x.2), fun x => T.w x.1 + U.w x.2⟩
def slT (e : TypeId) (T : GT α) : GT (List α) := ⟨slO e T.O, cntL T, mkL T, fun xs => xs.length + wL T xs⟩
end

theorem tmod_mk {m : Int} {n : Nat} (h : m = (n : Int)) : decide (m.tmod 3 = 0) = mkBool n := by
  subst h
  unfold mkBool
  rw [show ((n : Int).tmod 3) = ((n % 3 : Nat) : Int) from (Int.ofNat_tmod n 3).symm]
  congr 1
  simp only [eq_iff_iff]
  omega
theorem wL_int (xs : List Int) : wL intT xs = 0 := by
  induction xs with
  | nil => rfl
  | cons x xs ih => simp [wL, intT] at ih ⊢; exact ih
theorem cntL_int (xs : List Int) : cntL intT xs = xs.length := by
  induction xs with
  | nil => rfl
  | cons x xs ih =>
    simp only [cntL, ih, List.length_cons]
    show 1 + _ = _
    omega
theorem cntL_int_le (xs : List Int) : cntL intT xs ≤ 4 * (xs.length + wL intT xs) := by rw [cntL_int]; omega

end Go.Proofs.Ytggklaimbklefaa

/- Names, ids, texts in lists. -/
set_option maxHeartbeats 4000000
set_option synthInstance.maxHeartbeats 400000
set_option synthInstance.maxSize 4096
set_option linter.unusedSimpArgs false
set_option linter.unusedVariables false
namespace Go.Proofs.Ytggklaimbklefaa

set_option maxRecDepth 100000

/-- A byte that is a small letter. -/
def lettr (b : UInt8) : Bool := decide (97 ≤ b.toNat) && decide (b.toNat ≤ 122)

/-- What a name is. -/
def nmOk (s : ByteArray) : Bool := s.data.toList.all lettr && (decide (1 ≤ s.size) && decide (s.size ≤ 6) && (!decide (s = ⟨#[97, 110, 100]⟩)) && (!decide (s = ⟨#[111, 114]⟩)) && (!decide (s = ⟨#[110, 111, 116]⟩)))

theorem spec_inRange_c (A : View) (n lo hi : Int) : ACalls Try.prog 82 #[.int .i64 n, .int .i64 lo, .int .i64 hi] A fun r A' => r = .bool (decide (lo ≤ n) && decide (n ≤ hi)) ∧ A' = A := by
  refine acalls Try.func82 rfl (by kernel_rfl) ?_
  simp (disch := omega) only [↓stp, vls, inf, frs, mark_eq, ↓reduceIte, Nat.reduceEqDiff, ite_tt, ite_ff, eq_self, and_true, true_and, and_self, implies_true, Bool.true_eq_false, Bool.false_eq_true, decide_true, decide_false, decide_eq_true_eq, decide_eq_false_iff_not, ne_eq, not_true_eq_false, not_false_eq_true, Bool.not_eq_true', Bool.not_eq_false', beq_self_eq_true, Bool.not_true, Bool.not_false, List.getElem?_toArray, List.getElem?_cons_zero, List.getElem?_cons_succ]
  refine ⟨fun e => ?_, fun e => ?_⟩
  · simp (disch := omega) only [↓stp, vls, inf, frs, mark_eq, ↓reduceIte, Nat.reduceEqDiff, ite_tt, ite_ff, eq_self, and_true, true_and, and_self, implies_true, Bool.true_eq_false, Bool.false_eq_true, decide_true, decide_false, decide_eq_true_eq, decide_eq_false_iff_not, ne_eq, not_true_eq_false, not_false_eq_true, Bool.not_eq_true', Bool.not_eq_false', beq_self_eq_true, Bool.not_true, Bool.not_false, List.getElem?_toArray, List.getElem?_cons_zero, List.getElem?_cons_succ, e, Bool.true_and]
  · simp (disch := omega) only [↓stp, vls, inf, frs, mark_eq, ↓reduceIte, Nat.reduceEqDiff, ite_tt, ite_ff, eq_self, and_true, true_and, and_self, implies_true, Bool.true_eq_false, Bool.false_eq_true, decide_true, decide_false, decide_eq_true_eq, decide_eq_false_iff_not, ne_eq, not_true_eq_false, not_false_eq_true, Bool.not_eq_true', Bool.not_eq_false', beq_self_eq_true, Bool.not_true, Bool.not_false, List.getElem?_toArray, List.getElem?_cons_zero, List.getElem?_cons_succ, e, Bool.false_and]

theorem sbyte_at {s : ByteArray} {i : Nat} (hi : i < s.size) : ∃ b, s.data.toList[i]? = some b ∧ sbyte s i = b.toNat := by
  have hd : i < s.data.size := hi
  refine ⟨s.data[i], by simp [hd], ?_⟩
  unfold sbyte
  rw [Array.getElem?_eq_getElem hd]
  rfl

theorem nm_no {s : ByteArray} {i : Nat} (hi : i < s.size) (h : sbyte s i < 97 ∨ 122 < sbyte s i) : nmOk s = false := by
  obtain ⟨b, hb, he⟩ := sbyte_at hi
  have hm : b ∈ s.data.toList := List.mem_of_getElem? hb
  have : lettr b = false := by unfold lettr; rw [he] at h; simp; omega
  have h2 : s.data.toList.all lettr = false := by rw [List.all_eq_false]; exact ⟨b, hm, by simp [this]⟩
  unfold nmOk
  rw [h2, Bool.false_and]

theorem nm_go {s : ByteArray} {i : Nat} (hi : i < s.size) (hn : (s.data.toList.take i).all lettr = true) (h1 : ¬ sbyte s i < 97) (h2 : ¬ 122 < sbyte s i) : (s.data.toList.take (i + 1)).all lettr = true := by
  obtain ⟨b, hb, he⟩ := sbyte_at hi
  rw [List.take_add_one, List.all_append, hn, hb, Bool.true_and]
  have : lettr b = true := by unfold lettr; rw [Bool.and_eq_true, decide_eq_true_eq, decide_eq_true_eq]; omega
  simp only [Option.toList, List.all_cons, this, List.all_nil, Bool.and_self]

theorem nm_end {s : ByteArray} (hn : (s.data.toList.take s.size).all lettr = true) : nmOk s = (decide (1 ≤ s.size) && decide (s.size ≤ 6) && (!decide (s = ⟨#[97, 110, 100]⟩)) && (!decide (s = ⟨#[111, 114]⟩)) && (!decide (s = ⟨#[110, 111, 116]⟩))) := by
  rw [List.take_of_length_le (by rw [Array.length_toList]; exact Nat.le_refl _)] at hn
  unfold nmOk
  rw [hn, Bool.true_and]

theorem impl_nameOk_c (A : View) (s : ByteArray) (hs : s.size ≤ 140737488355328) : ACalls Try.prog 30 #[.string s] A fun r A' => r = .bool (nmOk s) ∧ A' = A := by
  refine acalls Try.func30 rfl (by kernel_rfl) ?_
  simp (disch := omega) only [↓stp, vls, inf, frs, mark_eq, ↓reduceIte, Nat.reduceEqDiff, ite_tt, ite_ff, eq_self, and_true, true_and, and_self, implies_true, Bool.true_eq_false, Bool.false_eq_true, decide_true, decide_false, decide_eq_true_eq, decide_eq_false_iff_not, ne_eq, not_true_eq_false, not_false_eq_true, Bool.not_eq_true', Bool.not_eq_false', beq_self_eq_true, Bool.not_true, Bool.not_false, List.getElem?_toArray, List.getElem?_cons_zero, List.getElem?_cons_succ]
  refine aloop (fun d fr A' => ∃ i : Nat, i ≤ s.size ∧ d = s.size - i ∧ A' = A ∧ fr 0 = .string s ∧ fr 5 = .int .i64 s.size ∧ fr 6 = .int .i64 i ∧ (s.data.toList.take i).all lettr) s.size ⟨0, by omega, by omega, rfl, rfl, by rfl, by rfl, by simp⟩ ?_
  rintro d fr A ⟨i, hi, rfl, rfl, h0, h5, h6, hn⟩
  simp (disch := omega) only [↓stp, vls, inf, frs, mark_eq, ↓reduceIte, Nat.reduceEqDiff, ite_tt, ite_ff, eq_self, and_true, true_and, and_self, implies_true, Bool.true_eq_false, Bool.false_eq_true, decide_true, decide_false, decide_eq_true_eq, decide_eq_false_iff_not, ne_eq, not_true_eq_false, not_false_eq_true, Bool.not_eq_true', Bool.not_eq_false', beq_self_eq_true, Bool.not_true, Bool.not_false, List.getElem?_toArray, List.getElem?_cons_zero, List.getElem?_cons_succ, h0, h5, h6]
  refine ⟨fun e => ?_, fun e => ?_⟩
  · simp (disch := omega) only [↓stp, vls, inf, frs, mark_eq, ↓reduceIte, Nat.reduceEqDiff, ite_tt, ite_ff, eq_self, and_true, true_and, and_self, implies_true, Bool.true_eq_false, Bool.false_eq_true, decide_true, decide_false, decide_eq_true_eq, decide_eq_false_iff_not, ne_eq, not_true_eq_false, not_false_eq_true, Bool.not_eq_true', Bool.not_eq_false', beq_self_eq_true, Bool.not_true, Bool.not_false, List.getElem?_toArray, List.getElem?_cons_zero, List.getElem?_cons_succ, h0, h5, h6]
    refine ⟨fun e1 => ?_, fun e1 => ?_⟩
    · simp (disch := omega) only [↓stp, vls, inf, frs, mark_eq, ↓reduceIte, Nat.reduceEqDiff, ite_tt, ite_ff, eq_self, and_true, true_and, and_self, implies_true, Bool.true_eq_false, Bool.false_eq_true, decide_true, decide_false, decide_eq_true_eq, decide_eq_false_iff_not, ne_eq, not_true_eq_false, not_false_eq_true, Bool.not_eq_true', Bool.not_eq_false', beq_self_eq_true, Bool.not_true, Bool.not_false, List.getElem?_toArray, List.getElem?_cons_zero, List.getElem?_cons_succ, h0, h5, h6, e1]
      refine ⟨fun e2 => ?_, fun e2 => ?_⟩
      · simp (disch := omega) only [↓stp, vls, inf, frs, mark_eq, ↓reduceIte, Nat.reduceEqDiff, ite_tt, ite_ff, eq_self, and_true, true_and, and_self, implies_true, Bool.true_eq_false, Bool.false_eq_true, decide_true, decide_false, decide_eq_true_eq, decide_eq_false_iff_not, ne_eq, not_true_eq_false, not_false_eq_true, Bool.not_eq_true', Bool.not_eq_false', beq_self_eq_true, Bool.not_true, Bool.not_false, List.getElem?_toArray, List.getElem?_cons_zero, List.getElem?_cons_succ, h0, h5, h6]
        rw [nm_no (i := i) (by omega) (.inr (by omega))]
      · simp (disch := omega) only [↓stp, vls, inf, frs, mark_eq, ↓reduceIte, Nat.reduceEqDiff, ite_tt, ite_ff, eq_self, and_true, true_and, and_self, implies_true, Bool.true_eq_false, Bool.false_eq_true, decide_true, decide_false, decide_eq_true_eq, decide_eq_false_iff_not, ne_eq, not_true_eq_false, not_false_eq_true, Bool.not_eq_true', Bool.not_eq_false', beq_self_eq_true, Bool.not_true, Bool.not_false, List.getElem?_toArray, List.getElem?_cons_zero, List.getElem?_cons_succ, h0, h5, h6]
        exact ⟨_, by omega, i + 1, by omega, rfl, rfl, nm_go (by omega) hn (by omega) (by omega)⟩
    · simp (disch := omega) only [↓stp, vls, inf, frs, mark_eq, ↓reduceIte, Nat.reduceEqDiff, ite_tt, ite_ff, eq_self, and_true, true_and, and_self, implies_true, Bool.true_eq_false, Bool.false_eq_true, decide_true, decide_false, decide_eq_true_eq, decide_eq_false_iff_not, ne_eq, not_true_eq_false, not_false_eq_true, Bool.not_eq_true', Bool.not_eq_false', beq_self_eq_true, Bool.not_true, Bool.not_false, List.getElem?_toArray, List.getElem?_cons_zero, List.getElem?_cons_succ, h0, h5, h6, e1]
      rw [nm_no (i := i) (by omega) (.inl (by omega))]
  · simp (disch := omega) only [↓stp, vls, inf, frs, mark_eq, ↓reduceIte, Nat.reduceEqDiff, ite_tt, ite_ff, eq_self, and_true, true_and, and_self, implies_true, Bool.true_eq_false, Bool.false_eq_true, decide_true, decide_false, decide_eq_true_eq, decide_eq_false_iff_not, ne_eq, not_true_eq_false, not_false_eq_true, Bool.not_eq_true', Bool.not_eq_false', beq_self_eq_true, Bool.not_true, Bool.not_false, List.getElem?_toArray, List.getElem?_cons_zero, List.getElem?_cons_succ, h0, h5, h6]
    have : i = s.size := by omega
    subst this
    have he := nm_end hn
    refine ⟨fun e1 => ?_, fun e1 => ?_⟩ <;> simp (disch := omega) only [↓stp, vls, inf, frs, mark_eq, ↓reduceIte, Nat.reduceEqDiff, ite_tt, ite_ff, eq_self, and_true, true_and, and_self, implies_true, Bool.true_eq_false, Bool.false_eq_true, decide_true, decide_false, decide_eq_true_eq, decide_eq_false_iff_not, ne_eq, not_true_eq_false, not_false_eq_true, Bool.not_eq_true', Bool.not_eq_false', beq_self_eq_true, Bool.not_true, Bool.not_false, List.getElem?_toArray, List.getElem?_cons_zero, List.getElem?_cons_succ, h0, h5, h6, e1]
    · refine ⟨fun e2 => ?_, fun e2 => ?_⟩ <;> simp (disch := omega) only [↓stp, vls, inf, frs, mark_eq, ↓reduceIte, Nat.reduceEqDiff, ite_tt, ite_ff, eq_self, and_true, true_and, and_self, implies_true, Bool.true_eq_false, Bool.false_eq_true, decide_true, decide_false, decide_eq_true_eq, decide_eq_false_iff_not, ne_eq, not_true_eq_false, not_false_eq_true, Bool.not_eq_true', Bool.not_eq_false', beq_self_eq_true, Bool.not_true, Bool.not_false, List.getElem?_toArray, List.getElem?_cons_zero, List.getElem?_cons_succ, h0, h5, h6, e1, e2]
      · refine ⟨fun e3 => ?_, fun e3 => ?_⟩ <;> simp (disch := omega) only [↓stp, vls, inf, frs, mark_eq, ↓reduceIte, Nat.reduceEqDiff, ite_tt, ite_ff, eq_self, and_true, true_and, and_self, implies_true, Bool.true_eq_false, Bool.false_eq_true, decide_true, decide_false, decide_eq_true_eq, decide_eq_false_iff_not, ne_eq, not_true_eq_false, not_false_eq_true, Bool.not_eq_true', Bool.not_eq_false', beq_self_eq_true, Bool.not_true, Bool.not_false, List.getElem?_toArray, List.getElem?_cons_zero, List.getElem?_cons_succ, h0, h5, h6, e1, e2, e3]
        · refine ⟨fun e4 => ?_, fun e4 => ?_⟩ <;> simp (disch := omega) only [↓stp, vls, inf, frs, mark_eq, ↓reduceIte, Nat.reduceEqDiff, ite_tt, ite_ff, eq_self, and_true, true_and, and_self, implies_true, Bool.true_eq_false, Bool.false_eq_true, decide_true, decide_false, decide_eq_true_eq, decide_eq_false_iff_not, ne_eq, not_true_eq_false, not_false_eq_true, Bool.not_eq_true', Bool.not_eq_false', beq_self_eq_true, Bool.not_true, Bool.not_false, List.getElem?_toArray, List.getElem?_cons_zero, List.getElem?_cons_succ, h0, h5, h6, e1, e2, e3, e4]
          · rw [he]
            have h1 : 1 ≤ s.size := by omega
            have h2 : s.size ≤ 6 := by omega
            simp [h1, h2, e3, e4]
          · rw [he]; simp [e4]
        · rw [he]; simp [e3]
      · rw [he]; simp; omega
    · rw [he]; simp; omega

theorem spec_validName_c (A : View) (s : ByteArray) (hs : s.size ≤ 140737488355328) : ACalls Try.prog 59 #[.string s] A fun r A' => r = .bool (nmOk s) ∧ A' = A := by
  refine acalls Try.func59 rfl (by kernel_rfl) ?_
  simp (disch := omega) only [↓stp, vls, inf, frs, mark_eq, ↓reduceIte, Nat.reduceEqDiff, ite_tt, ite_ff, eq_self, and_true, true_and, and_self, implies_true, Bool.true_eq_false, Bool.false_eq_true, decide_true, decide_false, decide_eq_true_eq, decide_eq_false_iff_not, ne_eq, not_true_eq_false, not_false_eq_true, Bool.not_eq_true', Bool.not_eq_false', beq_self_eq_true, Bool.not_true, Bool.not_false, List.getElem?_toArray, List.getElem?_cons_zero, List.getElem?_cons_succ]
  refine aloop (fun d fr A' => ∃ i : Nat, i ≤ s.size ∧ d = s.size - i ∧ A' = A ∧ fr 0 = .string s ∧ fr 3 = .int .i64 i ∧ (s.data.toList.take i).all lettr) s.size ⟨0, by omega, by omega, rfl, rfl, by rfl, by simp⟩ ?_
  rintro d fr A ⟨i, hi, rfl, rfl, h0, h3, hn⟩
  simp (disch := omega) only [↓stp, vls, inf, frs, mark_eq, ↓reduceIte, Nat.reduceEqDiff, ite_tt, ite_ff, eq_self, and_true, true_and, and_self, implies_true, Bool.true_eq_false, Bool.false_eq_true, decide_true, decide_false, decide_eq_true_eq, decide_eq_false_iff_not, ne_eq, not_true_eq_false, not_false_eq_true, Bool.not_eq_true', Bool.not_eq_false', beq_self_eq_true, Bool.not_true, Bool.not_false, List.getElem?_toArray, List.getElem?_cons_zero, List.getElem?_cons_succ, h0, h3]
  refine ⟨fun e => ?_, fun e => ?_⟩
  · simp (disch := omega) only [↓stp, vls, inf, frs, mark_eq, ↓reduceIte, Nat.reduceEqDiff, ite_tt, ite_ff, eq_self, and_true, true_and, and_self, implies_true, Bool.true_eq_false, Bool.false_eq_true, decide_true, decide_false, decide_eq_true_eq, decide_eq_false_iff_not, ne_eq, not_true_eq_false, not_false_eq_true, Bool.not_eq_true', Bool.not_eq_false', beq_self_eq_true, Bool.not_true, Bool.not_false, List.getElem?_toArray, List.getElem?_cons_zero, List.getElem?_cons_succ, h0, h3]
    refine ⟨fun e1 => ?_, fun e1 => ?_⟩
    · simp (disch := omega) only [↓stp, vls, inf, frs, mark_eq, ↓reduceIte, Nat.reduceEqDiff, ite_tt, ite_ff, eq_self, and_true, true_and, and_self, implies_true, Bool.true_eq_false, Bool.false_eq_true, decide_true, decide_false, decide_eq_true_eq, decide_eq_false_iff_not, ne_eq, not_true_eq_false, not_false_eq_true, Bool.not_eq_true', Bool.not_eq_false', beq_self_eq_true, Bool.not_true, Bool.not_false, List.getElem?_toArray, List.getElem?_cons_zero, List.getElem?_cons_succ, h0, h3, e1]
      refine ⟨fun e2 => ?_, fun e2 => ?_⟩
      · simp (disch := omega) only [↓stp, vls, inf, frs, mark_eq, ↓reduceIte, Nat.reduceEqDiff, ite_tt, ite_ff, eq_self, and_true, true_and, and_self, implies_true, Bool.true_eq_false, Bool.false_eq_true, decide_true, decide_false, decide_eq_true_eq, decide_eq_false_iff_not, ne_eq, not_true_eq_false, not_false_eq_true, Bool.not_eq_true', Bool.not_eq_false', beq_self_eq_true, Bool.not_true, Bool.not_false, List.getElem?_toArray, List.getElem?_cons_zero, List.getElem?_cons_succ, h0, h3]
        rw [nm_no (i := i) (by omega) (.inr (by omega))]
      · simp (disch := omega) only [↓stp, vls, inf, frs, mark_eq, ↓reduceIte, Nat.reduceEqDiff, ite_tt, ite_ff, eq_self, and_true, true_and, and_self, implies_true, Bool.true_eq_false, Bool.false_eq_true, decide_true, decide_false, decide_eq_true_eq, decide_eq_false_iff_not, ne_eq, not_true_eq_false, not_false_eq_true, Bool.not_eq_true', Bool.not_eq_false', beq_self_eq_true, Bool.not_true, Bool.not_false, List.getElem?_toArray, List.getElem?_cons_zero, List.getElem?_cons_succ, h0, h3]
        exact ⟨_, by omega, i + 1, by omega, rfl, rfl, nm_go (by omega) hn (by omega) (by omega)⟩
    · simp (disch := omega) only [↓stp, vls, inf, frs, mark_eq, ↓reduceIte, Nat.reduceEqDiff, ite_tt, ite_ff, eq_self, and_true, true_and, and_self, implies_true, Bool.true_eq_false, Bool.false_eq_true, decide_true, decide_false, decide_eq_true_eq, decide_eq_false_iff_not, ne_eq, not_true_eq_false, not_false_eq_true, Bool.not_eq_true', Bool.not_eq_false', beq_self_eq_true, Bool.not_true, Bool.not_false, List.getElem?_toArray, List.getElem?_cons_zero, List.getElem?_cons_succ, h0, h3, e1]
      rw [nm_no (i := i) (by omega) (.inl (by omega))]
  · simp (disch := omega) only [↓stp, vls, inf, frs, mark_eq, ↓reduceIte, Nat.reduceEqDiff, ite_tt, ite_ff, eq_self, and_true, true_and, and_self, implies_true, Bool.true_eq_false, Bool.false_eq_true, decide_true, decide_false, decide_eq_true_eq, decide_eq_false_iff_not, ne_eq, not_true_eq_false, not_false_eq_true, Bool.not_eq_true', Bool.not_eq_false', beq_self_eq_true, Bool.not_true, Bool.not_false, List.getElem?_toArray, List.getElem?_cons_zero, List.getElem?_cons_succ, h0, h3]
    have : i = s.size := by omega
    subst this
    have he := nm_end hn
    refine (spec_inRange_c A _ _ _).mono ?_
    rintro _ _ ⟨rfl, rfl⟩
    simp (disch := omega) only [↓stp, vls, inf, frs, mark_eq, ↓reduceIte, Nat.reduceEqDiff, ite_tt, ite_ff, eq_self, and_true, true_and, and_self, implies_true, Bool.true_eq_false, Bool.false_eq_true, decide_true, decide_false, decide_eq_true_eq, decide_eq_false_iff_not, ne_eq, not_true_eq_false, not_false_eq_true, Bool.not_eq_true', Bool.not_eq_false', beq_self_eq_true, Bool.not_true, Bool.not_false, List.getElem?_toArray, List.getElem?_cons_zero, List.getElem?_cons_succ, h0, h3]
    refine ⟨fun e2 => ?_, fun e2 => ?_⟩ <;> simp (disch := omega) only [↓stp, vls, inf, frs, mark_eq, ↓reduceIte, Nat.reduceEqDiff, ite_tt, ite_ff, eq_self, and_true, true_and, and_self, implies_true, Bool.true_eq_false, Bool.false_eq_true, decide_true, decide_false, decide_eq_true_eq, decide_eq_false_iff_not, ne_eq, not_true_eq_false, not_false_eq_true, Bool.not_eq_true', Bool.not_eq_false', beq_self_eq_true, Bool.not_true, Bool.not_false, List.getElem?_toArray, List.getElem?_cons_zero, List.getElem?_cons_succ, h0, h3, e2]
    · rw [Bool.and_eq_true, decide_eq_true_eq, decide_eq_true_eq] at e2
      refine ⟨fun e3 => ?_, fun e3 => ?_⟩ <;> simp (disch := omega) only [↓stp, vls, inf, frs, mark_eq, ↓reduceIte, Nat.reduceEqDiff, ite_tt, ite_ff, eq_self, and_true, true_and, and_self, implies_true, Bool.true_eq_false, Bool.false_eq_true, decide_true, decide_false, decide_eq_true_eq, decide_eq_false_iff_not, ne_eq, not_true_eq_false, not_false_eq_true, Bool.not_eq_true', Bool.not_eq_false', beq_self_eq_true, Bool.not_true, Bool.not_false, List.getElem?_toArray, List.getElem?_cons_zero, List.getElem?_cons_succ, h0, h3, e3]
      · refine ⟨fun e4 => ?_, fun e4 => ?_⟩ <;> simp (disch := omega) only [↓stp, vls, inf, frs, mark_eq, ↓reduceIte, Nat.reduceEqDiff, ite_tt, ite_ff, eq_self, and_true, true_and, and_self, implies_true, Bool.true_eq_false, Bool.false_eq_true, decide_true, decide_false, decide_eq_true_eq, decide_eq_false_iff_not, ne_eq, not_true_eq_false, not_false_eq_true, Bool.not_eq_true', Bool.not_eq_false', beq_self_eq_true, Bool.not_true, Bool.not_false, List.getElem?_toArray, List.getElem?_cons_zero, List.getElem?_cons_succ, h0, h3, e3, e4]
        · rw [he]
          have h1 : 1 ≤ s.size := by omega
          have h2 : s.size ≤ 6 := by omega
          simp [h1, h2, e3, e4]
        · rw [he]; simp [e4]
      · rw [he]; simp [e3]
    · rw [he]; simp at e2 ⊢; omega

/-- Where a byte stands first. -/
def ixb (s : ByteArray) (c : UInt8) : Int := Go.Lib.indexByte s.data.toList c

theorem indexByte_lt (l : List UInt8) (c : UInt8) : Go.Lib.indexByte l c < l.length ∨ Go.Lib.indexByte l c = -1 := by
  induction l with
  | nil => exact .inr rfl
  | cons b l ih =>
    unfold Go.Lib.indexByte
    split
    · left; simp
    · split
      · exact .inr rfl
      · rename_i h
        have : Go.Lib.indexByte l c ≠ -1 := by simpa using h
        left; simp; omega

theorem ixb_lt {s : ByteArray} {c : UInt8} (h : 0 ≤ ixb s c) : ixb s c < s.size := by
  have := indexByte_lt s.data.toList c
  unfold ixb at *
  rw [Array.length_toList] at this
  rcases this with h1 | h1
  · exact h1
  · omega

theorem ixb_range (s : ByteArray) (c : UInt8) : -1 ≤ ixb s c := Go.Lib.indexByte_ge _ _

theorem extern_indexByte {A : View} {K : Value → View → Prop} (s : ByteArray) (c : Int) : acall Try.prog (.func (.func 109) #[] #[]) #[.string s, .int .u8 c] A K = K (.int .i64 (ixb s c.toNat.toUInt8)) A :=
  acall_indexByte Try.func109 rfl rfl (by kernel_rfl) (by kernel_rfl) s c

theorem lib_indexByte_c (A : View) (s : ByteArray) (c : UInt8) : ACalls Try.prog 99 #[.string s, .int .u8 c.toNat] A fun r A' => r = .int .i64 (ixb s c) ∧ A' = A := by
  refine acalls Try.func99 rfl (by kernel_rfl) ?_
  simp (disch := omega) only [↓stp, vls, inf, frs, mark_eq, ↓reduceIte, Nat.reduceEqDiff, ite_tt, ite_ff, eq_self, and_true, true_and, and_self, implies_true, Bool.true_eq_false, Bool.false_eq_true, decide_true, decide_false, decide_eq_true_eq, decide_eq_false_iff_not, ne_eq, not_true_eq_false, not_false_eq_true, Bool.not_eq_true', Bool.not_eq_false', beq_self_eq_true, Bool.not_true, Bool.not_false, List.getElem?_toArray, List.getElem?_cons_zero, List.getElem?_cons_succ, extern_indexByte, UInt8.ofNat_toNat]

theorem lib_index_c (A : View) (s : ByteArray) (c : UInt8) (hs : s.size ≤ 140737488355328) : ACalls Try.prog 81 #[.string s, .string ⟨#[c]⟩] A fun r A' => r = .int .i64 (ixb s c) ∧ A' = A := by
  refine acalls Try.func81 rfl (by kernel_rfl) ?_
  have h1 : (⟨#[c]⟩ : ByteArray).size = 1 := rfl
  have h2 : ((1 : Nat) : Int) = 1 := rfl
  have h3 : ¬ (1 : Int) = 0 := by omega
  simp (disch := omega) only [↓stp, vls, inf, frs, mark_eq, ↓reduceIte, Nat.reduceEqDiff, ite_tt, ite_ff, eq_self, and_true, true_and, and_self, implies_true, Bool.true_eq_false, Bool.false_eq_true, decide_true, decide_false, decide_eq_true_eq, decide_eq_false_iff_not, ne_eq, not_true_eq_false, not_false_eq_true, Bool.not_eq_true', Bool.not_eq_false', beq_self_eq_true, Bool.not_true, Bool.not_false, List.getElem?_toArray, List.getElem?_cons_zero, List.getElem?_cons_succ, h1, h2, h3]
  refine ⟨fun e => ?_, fun e => ?_⟩ <;> simp (disch := omega) only [↓stp, vls, inf, frs, mark_eq, ↓reduceIte, Nat.reduceEqDiff, ite_tt, ite_ff, eq_self, and_true, true_and, and_self, implies_true, Bool.true_eq_false, Bool.false_eq_true, decide_true, decide_false, decide_eq_true_eq, decide_eq_false_iff_not, ne_eq, not_true_eq_false, not_false_eq_true, Bool.not_eq_true', Bool.not_eq_false', beq_self_eq_true, Bool.not_true, Bool.not_false, List.getElem?_toArray, List.getElem?_cons_zero, List.getElem?_cons_succ, h1, h2, h3, e]
  · subst e
    have : ixb ⟨#[c]⟩ c = 0 := by simp [ixb, Go.Lib.indexByte]
    rw [this]
  · have h4 : sbyte ⟨#[c]⟩ (Int.toNat 0) = c.toNat := rfl
    simp (disch := omega) only [↓stp, vls, inf, frs, mark_eq, ↓reduceIte, Nat.reduceEqDiff, ite_tt, ite_ff, eq_self, and_true, true_and, and_self, implies_true, Bool.true_eq_false, Bool.false_eq_true, decide_true, decide_false, decide_eq_true_eq, decide_eq_false_iff_not, ne_eq, not_true_eq_false, not_false_eq_true, Bool.not_eq_true', Bool.not_eq_false', beq_self_eq_true, Bool.not_true, Bool.not_false, List.getElem?_toArray, List.getElem?_cons_zero, List.getElem?_cons_succ, h4]
    refine (lib_indexByte_c A s c).mono ?_
    rintro _ _ ⟨rfl, rfl⟩
    simp (disch := omega) only [↓stp, vls, inf, frs, mark_eq, ↓reduceIte, Nat.reduceEqDiff, ite_tt, ite_ff, eq_self, and_true, true_and, and_self, implies_true, Bool.true_eq_false, Bool.false_eq_true, decide_true, decide_false, decide_eq_true_eq, decide_eq_false_iff_not, ne_eq, not_true_eq_false, not_false_eq_true, Bool.not_eq_true', Bool.not_eq_false', beq_self_eq_true, Bool.not_true, Bool.not_false, List.getElem?_toArray, List.getElem?_cons_zero, List.getElem?_cons_succ]

theorem lib_cut_c (A : View) (s : ByteArray) (c : UInt8) (hs : s.size ≤ 140737488355328) : ACalls Try.prog 58 #[.string s, .string ⟨#[c]⟩] A fun r A' =>
    r = (if 0 ≤ ixb s c then .tuple #[.string (s.extract 0 (ixb s c).toNat), .string (s.extract ((ixb s c).toNat + 1) s.size), .bool true] else .tuple #[.string s, .string ⟨#[]⟩, .bool false]) ∧ A' = A := by
  refine acalls Try.func58 rfl (by kernel_rfl) ?_
  simp (disch := omega) only [↓stp, vls, inf, frs, mark_eq, ↓reduceIte, Nat.reduceEqDiff, ite_tt, ite_ff, eq_self, and_true, true_and, and_self, implies_true, Bool.true_eq_false, Bool.false_eq_true, decide_true, decide_false, decide_eq_true_eq, decide_eq_false_iff_not, ne_eq, not_true_eq_false, not_false_eq_true, Bool.not_eq_true', Bool.not_eq_false', beq_self_eq_true, Bool.not_true, Bool.not_false, List.getElem?_toArray, List.getElem?_cons_zero, List.getElem?_cons_succ]
  refine (lib_index_c A s c hs).mono ?_
  rintro _ A ⟨rfl, rfl⟩
  simp (disch := omega) only [↓stp, vls, inf, frs, mark_eq, ↓reduceIte, Nat.reduceEqDiff, ite_tt, ite_ff, eq_self, and_true, true_and, and_self, implies_true, Bool.true_eq_false, Bool.false_eq_true, decide_true, decide_false, decide_eq_true_eq, decide_eq_false_iff_not, ne_eq, not_true_eq_false, not_false_eq_true, Bool.not_eq_true', Bool.not_eq_false', beq_self_eq_true, Bool.not_true, Bool.not_false, List.getElem?_toArray, List.getElem?_cons_zero, List.getElem?_cons_succ]
  refine ⟨fun e => ?_, fun e => ?_⟩
  · have hlt := ixb_lt e
    have h1 : (⟨#[c]⟩ : ByteArray).size = 1 := rfl
    have h2 : ((1 : Nat) : Int) = 1 := rfl
    simp (disch := omega) only [↓stp, vls, inf, frs, mark_eq, ↓reduceIte, Nat.reduceEqDiff, ite_tt, ite_ff, eq_self, and_true, true_and, and_self, implies_true, Bool.true_eq_false, Bool.false_eq_true, decide_true, decide_false, decide_eq_true_eq, decide_eq_false_iff_not, ne_eq, not_true_eq_false, not_false_eq_true, Bool.not_eq_true', Bool.not_eq_false', beq_self_eq_true, Bool.not_true, Bool.not_false, List.getElem?_toArray, List.getElem?_cons_zero, List.getElem?_cons_succ]
    refine adraw_items [.q 0, .q 1, .q 2, .q 3, .q 4, .q 5, .q 6, .q 7, .q 8, .q 9, .q 10, .q 11] (by kernel_rfl) (by kernel_rfl) ?_
    simp (disch := omega) only [↓stp, ↓pln, plv, nilOk, Nat.reduceBEq, Bool.or_false, Bool.or_true, Bool.false_or, Bool.true_or, vls, inf, frs, mark_eq, ↓reduceIte, Nat.reduceEqDiff, ite_tt, ite_ff, eq_self, and_true, true_and, and_self, implies_true, Bool.true_eq_false, Bool.false_eq_true, decide_true, decide_false, decide_eq_true_eq, decide_eq_false_iff_not, ne_eq, not_true_eq_false, not_false_eq_true, Bool.not_eq_true', Bool.not_eq_false', beq_self_eq_true, Bool.not_true, Bool.not_false, List.getElem?_toArray, List.getElem?_cons_zero, List.getElem?_cons_succ, h1, h2, e]
    rw [show (ixb s c + 1).toNat = (ixb s c).toNat + 1 by omega]
  · simp (disch := omega) only [↓stp, vls, inf, frs, mark_eq, ↓reduceIte, Nat.reduceEqDiff, ite_tt, ite_ff, eq_self, and_true, true_and, and_self, implies_true, Bool.true_eq_false, Bool.false_eq_true, decide_true, decide_false, decide_eq_true_eq, decide_eq_false_iff_not, ne_eq, not_true_eq_false, not_false_eq_true, Bool.not_eq_true', Bool.not_eq_false', beq_self_eq_true, Bool.not_true, Bool.not_false, List.getElem?_toArray, List.getElem?_cons_zero, List.getElem?_cons_succ, e]

theorem lib_strCut_c (A : View) (s : ByteArray) (c : UInt8) (hs : s.size ≤ 140737488355328) : ACalls Try.prog 24 #[.string s, .string ⟨#[c]⟩] A fun r A' =>
    r = (if 0 ≤ ixb s c then .tuple #[.string (s.extract 0 (ixb s c).toNat), .string (s.extract ((ixb s c).toNat + 1) s.size), .bool true] else .tuple #[.string s, .string ⟨#[]⟩, .bool false]) ∧ A' = A := by
  refine acalls Try.func24 rfl (by kernel_rfl) ?_
  simp (disch := omega) only [↓stp, vls, inf, frs, mark_eq, ↓reduceIte, Nat.reduceEqDiff, ite_tt, ite_ff, eq_self, and_true, true_and, and_self, implies_true, Bool.true_eq_false, Bool.false_eq_true, decide_true, decide_false, decide_eq_true_eq, decide_eq_false_iff_not, ne_eq, not_true_eq_false, not_false_eq_true, Bool.not_eq_true', Bool.not_eq_false', beq_self_eq_true, Bool.not_true, Bool.not_false, List.getElem?_toArray, List.getElem?_cons_zero, List.getElem?_cons_succ]
  refine (lib_cut_c A s c hs).mono ?_
  rintro _ A ⟨rfl, rfl⟩
  split
  · simp (disch := omega) only [↓stp, vls, inf, frs, mark_eq, ↓reduceIte, Nat.reduceEqDiff, ite_tt, ite_ff, eq_self, and_true, true_and, and_self, implies_true, Bool.true_eq_false, Bool.false_eq_true, decide_true, decide_false, decide_eq_true_eq, decide_eq_false_iff_not, ne_eq, not_true_eq_false, not_false_eq_true, Bool.not_eq_true', Bool.not_eq_false', beq_self_eq_true, Bool.not_true, Bool.not_false, List.getElem?_toArray, List.getElem?_cons_zero, List.getElem?_cons_succ]
  · simp (disch := omega) only [↓stp, vls, inf, frs, mark_eq, ↓reduceIte, Nat.reduceEqDiff, ite_tt, ite_ff, eq_self, and_true, true_and, and_self, implies_true, Bool.true_eq_false, Bool.false_eq_true, decide_true, decide_false, decide_eq_true_eq, decide_eq_false_iff_not, ne_eq, not_true_eq_false, not_false_eq_true, Bool.not_eq_true', Bool.not_eq_false', beq_self_eq_true, Bool.not_true, Bool.not_false, List.getElem?_toArray, List.getElem?_cons_zero, List.getElem?_cons_succ]

/-- What an id is: two names with a point between them. -/
def idB (s : ByteArray) : Bool := decide (0 ≤ ixb s 46) && nmOk (s.extract 0 (ixb s 46).toNat) && nmOk (s.extract ((ixb s 46).toNat + 1) s.size)

theorem impl_idOk_c (A : View) (s : ByteArray) (hs : s.size ≤ 140737488355328) : ACalls Try.prog 32 #[.string s] A fun r A' => r = .bool (idB s) ∧ A' = A := by
  refine acalls Try.func32 rfl (by kernel_rfl) ?_
  simp (disch := omega) only [↓stp, vls, inf, frs, mark_eq, ↓reduceIte, Nat.reduceEqDiff, ite_tt, ite_ff, eq_self, and_true, true_and, and_self, implies_true, Bool.true_eq_false, Bool.false_eq_true, decide_true, decide_false, decide_eq_true_eq, decide_eq_false_iff_not, ne_eq, not_true_eq_false, not_false_eq_true, Bool.not_eq_true', Bool.not_eq_false', beq_self_eq_true, Bool.not_true, Bool.not_false, List.getElem?_toArray, List.getElem?_cons_zero, List.getElem?_cons_succ]
  refine (lib_strCut_c A s 46 hs).mono ?_
  rintro _ A ⟨rfl, rfl⟩
  by_cases h : 0 ≤ ixb s 46
  · have hlt := ixb_lt h
    have hd : idB s = (nmOk (s.extract 0 (ixb s 46).toNat) && nmOk (s.extract ((ixb s 46).toNat + 1) s.size)) := by unfold idB; simp [h]
    simp (disch := omega) only [↓stp, vls, inf, frs, mark_eq, ↓reduceIte, Nat.reduceEqDiff, ite_tt, ite_ff, eq_self, and_true, true_and, and_self, implies_true, Bool.true_eq_false, Bool.false_eq_true, decide_true, decide_false, decide_eq_true_eq, decide_eq_false_iff_not, ne_eq, not_true_eq_false, not_false_eq_true, Bool.not_eq_true', Bool.not_eq_false', beq_self_eq_true, Bool.not_true, Bool.not_false, List.getElem?_toArray, List.getElem?_cons_zero, List.getElem?_cons_succ, h]
    refine (impl_nameOk_c A _ (by simp; omega)).mono ?_
    rintro _ A ⟨rfl, rfl⟩
    simp (disch := omega) only [↓stp, vls, inf, frs, mark_eq, ↓reduceIte, Nat.reduceEqDiff, ite_tt, ite_ff, eq_self, and_true, true_and, and_self, implies_true, Bool.true_eq_false, Bool.false_eq_true, decide_true, decide_false, decide_eq_true_eq, decide_eq_false_iff_not, ne_eq, not_true_eq_false, not_false_eq_true, Bool.not_eq_true', Bool.not_eq_false', beq_self_eq_true, Bool.not_true, Bool.not_false, List.getElem?_toArray, List.getElem?_cons_zero, List.getElem?_cons_succ]
    refine ⟨fun e => ?_, fun e => ?_⟩ <;> simp (disch := omega) only [↓stp, vls, inf, frs, mark_eq, ↓reduceIte, Nat.reduceEqDiff, ite_tt, ite_ff, eq_self, and_true, true_and, and_self, implies_true, Bool.true_eq_false, Bool.false_eq_true, decide_true, decide_false, decide_eq_true_eq, decide_eq_false_iff_not, ne_eq, not_true_eq_false, not_false_eq_true, Bool.not_eq_true', Bool.not_eq_false', beq_self_eq_true, Bool.not_true, Bool.not_false, List.getElem?_toArray, List.getElem?_cons_zero, List.getElem?_cons_succ, e]
    · refine (impl_nameOk_c A _ (by simp; omega)).mono ?_
      rintro _ A ⟨rfl, rfl⟩
      simp (disch := omega) only [↓stp, vls, inf, frs, mark_eq, ↓reduceIte, Nat.reduceEqDiff, ite_tt, ite_ff, eq_self, and_true, true_and, and_self, implies_true, Bool.true_eq_false, Bool.false_eq_true, decide_true, decide_false, decide_eq_true_eq, decide_eq_false_iff_not, ne_eq, not_true_eq_false, not_false_eq_true, Bool.not_eq_true', Bool.not_eq_false', beq_self_eq_true, Bool.not_true, Bool.not_false, List.getElem?_toArray, List.getElem?_cons_zero, List.getElem?_cons_succ, e]
      rw [hd, e, Bool.true_and]
    · rw [hd, e, Bool.false_and]
  · have hd : idB s = false := by unfold idB; simp [h]
    simp (disch := omega) only [↓stp, vls, inf, frs, mark_eq, ↓reduceIte, Nat.reduceEqDiff, ite_tt, ite_ff, eq_self, and_true, true_and, and_self, implies_true, Bool.true_eq_false, Bool.false_eq_true, decide_true, decide_false, decide_eq_true_eq, decide_eq_false_iff_not, ne_eq, not_true_eq_false, not_false_eq_true, Bool.not_eq_true', Bool.not_eq_false', beq_self_eq_true, Bool.not_true, Bool.not_false, List.getElem?_toArray, List.getElem?_cons_zero, List.getElem?_cons_succ, h, hd]

theorem indexByte_before : ∀ (l : List UInt8) (c : UInt8) (i : Nat), (∀ j, j < i → ∀ b, l[j]? = some b → b ≠ c) → l[i]? = some c → Go.Lib.indexByte l c = i
  | [], _, _, _, h => by simp at h
  | b :: l, c, 0, _, h => by simp at h; simp [Go.Lib.indexByte, h]
  | b :: l, c, i + 1, hn, h => by
    have hb : b ≠ c := hn 0 (by omega) b (by simp)
    have := indexByte_before l c i (fun j hj b' hb' => hn (j + 1) (by omega) b' (by simpa using hb')) (by simpa using h)
    unfold Go.Lib.indexByte
    rw [this, if_neg (by simpa using hb), if_neg (by simp)]
    simp

theorem indexByte_none : ∀ (l : List UInt8) (c : UInt8), (∀ b ∈ l, b ≠ c) → Go.Lib.indexByte l c = -1
  | [], _, _ => rfl
  | b :: l, c, hn => by
    unfold Go.Lib.indexByte
    rw [indexByte_none l c (fun b hb => hn b (List.mem_cons_of_mem _ hb)), if_neg (by simpa using hn b (List.mem_cons_self ..))]
    simp

theorem idx_before {s : ByteArray} {i : Nat} (hi : i < s.size) (hn : ∀ j, j < i → sbyte s j ≠ 46) (h : sbyte s i = 46) : ixb s 46 = i := by
  refine indexByte_before _ _ _ (fun j hj b hb e => ?_) ?_
  · obtain ⟨b', hb', he⟩ := sbyte_at (s := s) (i := j) (by omega)
    rw [hb] at hb'
    injection hb' with hb'
    subst hb'; subst e
    exact hn j hj he
  · obtain ⟨b', hb', he⟩ := sbyte_at hi
    rw [hb', h] at *
    have : b' = 46 := UInt8.toNat_inj.1 (by rw [← he]; rfl)
    rw [this]

theorem idx_none {s : ByteArray} (hn : ∀ j, j < s.size → sbyte s j ≠ 46) : ixb s 46 = -1 := by
  refine indexByte_none _ _ fun b hb e => ?_
  obtain ⟨j, hj, he⟩ := List.getElem_of_mem hb
  have hjs : j < s.size := by rw [Array.length_toList] at hj; exact hj
  obtain ⟨b', hb', he'⟩ := sbyte_at hjs
  rw [List.getElem?_eq_getElem hj, he, e] at hb'
  injection hb' with hb'
  subst hb'
  exact hn j hjs he'

theorem spec_validId_c (A : View) (s : ByteArray) (hs : s.size ≤ 140737488355328) : ACalls Try.prog 60 #[.string s] A fun r A' => r = .bool (idB s) ∧ A' = A := by
  refine acalls Try.func60 rfl (by kernel_rfl) ?_
  simp (disch := omega) only [↓stp, vls, inf, frs, mark_eq, ↓reduceIte, Nat.reduceEqDiff, ite_tt, ite_ff, eq_self, and_true, true_and, and_self, implies_true, Bool.true_eq_false, Bool.false_eq_true, decide_true, decide_false, decide_eq_true_eq, decide_eq_false_iff_not, ne_eq, not_true_eq_false, not_false_eq_true, Bool.not_eq_true', Bool.not_eq_false', beq_self_eq_true, Bool.not_true, Bool.not_false, List.getElem?_toArray, List.getElem?_cons_zero, List.getElem?_cons_succ]
  refine aloop (fun d fr A' => ∃ i : Nat, i ≤ s.size ∧ d = s.size - i ∧ A' = A ∧ fr 0 = .string s ∧ fr 3 = .int .i64 i ∧ (∀ j, j < i → sbyte s j ≠ 46)) s.size ⟨0, by omega, by omega, rfl, rfl, by rfl, by omega⟩ ?_
  rintro d fr A ⟨i, hi, rfl, rfl, h0, h3, hn⟩
  simp (disch := omega) only [↓stp, vls, inf, frs, mark_eq, ↓reduceIte, Nat.reduceEqDiff, ite_tt, ite_ff, eq_self, and_true, true_and, and_self, implies_true, Bool.true_eq_false, Bool.false_eq_true, decide_true, decide_false, decide_eq_true_eq, decide_eq_false_iff_not, ne_eq, not_true_eq_false, not_false_eq_true, Bool.not_eq_true', Bool.not_eq_false', beq_self_eq_true, Bool.not_true, Bool.not_false, List.getElem?_toArray, List.getElem?_cons_zero, List.getElem?_cons_succ, h0, h3]
  refine ⟨fun e => ?_, fun e => ?_⟩
  · simp (disch := omega) only [↓stp, vls, inf, frs, mark_eq, ↓reduceIte, Nat.reduceEqDiff, ite_tt, ite_ff, eq_self, and_true, true_and, and_self, implies_true, Bool.true_eq_false, Bool.false_eq_true, decide_true, decide_false, decide_eq_true_eq, decide_eq_false_iff_not, ne_eq, not_true_eq_false, not_false_eq_true, Bool.not_eq_true', Bool.not_eq_false', beq_self_eq_true, Bool.not_true, Bool.not_false, List.getElem?_toArray, List.getElem?_cons_zero, List.getElem?_cons_succ, h0, h3]
    refine ⟨fun e1 => ?_, fun e1 => ?_⟩
    · have hx := idx_before (by omega) hn (by omega)
      have hd : idB s = (nmOk (s.extract 0 i) && nmOk (s.extract (i + 1) s.size)) := by unfold idB; rw [hx]; simp
      simp (disch := omega) only [↓stp, vls, inf, frs, mark_eq, ↓reduceIte, Nat.reduceEqDiff, ite_tt, ite_ff, eq_self, and_true, true_and, and_self, implies_true, Bool.true_eq_false, Bool.false_eq_true, decide_true, decide_false, decide_eq_true_eq, decide_eq_false_iff_not, ne_eq, not_true_eq_false, not_false_eq_true, Bool.not_eq_true', Bool.not_eq_false', beq_self_eq_true, Bool.not_true, Bool.not_false, List.getElem?_toArray, List.getElem?_cons_zero, List.getElem?_cons_succ, h0, h3]
      refine (spec_validName_c A _ (by simp; omega)).mono ?_
      rintro _ A ⟨rfl, rfl⟩
      simp (disch := omega) only [↓stp, vls, inf, frs, mark_eq, ↓reduceIte, Nat.reduceEqDiff, ite_tt, ite_ff, eq_self, and_true, true_and, and_self, implies_true, Bool.true_eq_false, Bool.false_eq_true, decide_true, decide_false, decide_eq_true_eq, decide_eq_false_iff_not, ne_eq, not_true_eq_false, not_false_eq_true, Bool.not_eq_true', Bool.not_eq_false', beq_self_eq_true, Bool.not_true, Bool.not_false, List.getElem?_toArray, List.getElem?_cons_zero, List.getElem?_cons_succ, h0, h3]
      refine ⟨fun e => ?_, fun e => ?_⟩ <;> simp (disch := omega) only [↓stp, vls, inf, frs, mark_eq, ↓reduceIte, Nat.reduceEqDiff, ite_tt, ite_ff, eq_self, and_true, true_and, and_self, implies_true, Bool.true_eq_false, Bool.false_eq_true, decide_true, decide_false, decide_eq_true_eq, decide_eq_false_iff_not, ne_eq, not_true_eq_false, not_false_eq_true, Bool.not_eq_true', Bool.not_eq_false', beq_self_eq_true, Bool.not_true, Bool.not_false, List.getElem?_toArray, List.getElem?_cons_zero, List.getElem?_cons_succ, h0, h3, e]
      · refine (spec_validName_c A _ (by simp; omega)).mono ?_
        rintro _ A ⟨rfl, rfl⟩
        simp (disch := omega) only [↓stp, vls, inf, frs, mark_eq, ↓reduceIte, Nat.reduceEqDiff, ite_tt, ite_ff, eq_self, and_true, true_and, and_self, implies_true, Bool.true_eq_false, Bool.false_eq_true, decide_true, decide_false, decide_eq_true_eq, decide_eq_false_iff_not, ne_eq, not_true_eq_false, not_false_eq_true, Bool.not_eq_true', Bool.not_eq_false', beq_self_eq_true, Bool.not_true, Bool.not_false, List.getElem?_toArray, List.getElem?_cons_zero, List.getElem?_cons_succ, e]
        rw [hd, e, Bool.true_and, show ((i : Int) + 1).toNat = i + 1 by omega]
      · rw [hd, e, Bool.false_and]
    · simp (disch := omega) only [↓stp, vls, inf, frs, mark_eq, ↓reduceIte, Nat.reduceEqDiff, ite_tt, ite_ff, eq_self, and_true, true_and, and_self, implies_true, Bool.true_eq_false, Bool.false_eq_true, decide_true, decide_false, decide_eq_true_eq, decide_eq_false_iff_not, ne_eq, not_true_eq_false, not_false_eq_true, Bool.not_eq_true', Bool.not_eq_false', beq_self_eq_true, Bool.not_true, Bool.not_false, List.getElem?_toArray, List.getElem?_cons_zero, List.getElem?_cons_succ, h0, h3]
      refine ⟨_, by omega, i + 1, by omega, rfl, rfl, fun j hj => ?_⟩
      by_cases hji : j = i
      · subst hji; omega
      · exact hn j (by omega)
  · simp (disch := omega) only [↓stp, vls, inf, frs, mark_eq, ↓reduceIte, Nat.reduceEqDiff, ite_tt, ite_ff, eq_self, and_true, true_and, and_self, implies_true, Bool.true_eq_false, Bool.false_eq_true, decide_true, decide_false, decide_eq_true_eq, decide_eq_false_iff_not, ne_eq, not_true_eq_false, not_false_eq_true, Bool.not_eq_true', Bool.not_eq_false', beq_self_eq_true, Bool.not_true, Bool.not_false, List.getElem?_toArray, List.getElem?_cons_zero, List.getElem?_cons_succ, h0, h3]
    have hx := idx_none (s := s) (fun j hj => hn j (by omega))
    have hd : idB s = false := by unfold idB; rw [hx]; simp
    rw [hd]

end Go.Proofs.Ytggklaimbklefaa

/- Texts and numbers in lists; lists of ids. -/
set_option maxHeartbeats 4000000
set_option synthInstance.maxHeartbeats 400000
set_option synthInstance.maxSize 4096
set_option linter.unusedSimpArgs false
set_option linter.unusedVariables false
namespace Go.Proofs.Ytggklaimbklefaa

set_option maxRecDepth 100000

theorem Sl.str {A : View} {a : Option Addr} {n c : Nat} {xs : List ByteArray} (h : Sl strS A (.slice a n c) xs) {i : Nat} (hi : i < xs.length) : ∃ ad, a = some ad ∧ A.cell (ad.add i) = some (.string xs[i]) ∧ xs[i].size ≤ 140737488355328 := by
  obtain ⟨ad, d, h1, h2, h3, h4⟩ := h.at hi
  have := h4 0 (.string xs[i]) (by rw [h2.1]; rfl)
  refine ⟨ad, h1, ?_, h2.2⟩
  rw [addr_add_add] at this
  simpa [strS] using this

theorem Sl.int {A : View} {a : Option Addr} {n c : Nat} {xs : List Int} (h : Sl intS A (.slice a n c) xs) {i : Nat} (hi : i < xs.length) : ∃ ad, a = some ad ∧ A.cell (ad.add i) = some (.int .i64 xs[i]) ∧ -9223372036854775808 ≤ xs[i] ∧ xs[i] < 9223372036854775808 := by
  obtain ⟨ad, d, h1, h2, h3, h4⟩ := h.at hi
  have := h4 0 (.int .i64 xs[i]) (by rw [h2.1]; rfl)
  refine ⟨ad, h1, ?_, h2.2⟩
  rw [addr_add_add] at this
  simpa [intS] using this

/-- The first place at which something holds, or -1. -/
def idxI {α : Type} (p : α → Bool) (xs : List α) : Int := if xs.any p then (xs.findIdx p : Nat) else -1

theorem idxI_found {α : Type} {p : α → Bool} {xs : List α} {i : Nat} (hi : i < xs.length) (hn : ∀ j (hj : j < i), p (xs[j]) = false) (h : p xs[i] = true) : idxI p xs = i := by
  unfold idxI
  rw [if_pos (List.any_eq_true.2 ⟨_, List.getElem_mem hi, h⟩)]
  congr 1
  exact (List.findIdx_eq hi).2 ⟨h, fun j hj => hn j hj⟩

theorem idxI_none {α : Type} {p : α → Bool} {xs : List α} (hn : ∀ j (hj : j < xs.length), p (xs[j]) = false) : idxI p xs = -1 := by
  unfold idxI
  rw [if_neg]
  rw [List.any_eq_true]
  rintro ⟨x, hx, h⟩
  obtain ⟨j, hj, rfl⟩ := List.getElem_of_mem hx
  rw [hn j hj] at h
  cases h

theorem idxI_ge {α : Type} (p : α → Bool) (xs : List α) : (0 ≤ idxI p xs) = (xs.any p = true) := by
  unfold idxI
  split
  · rename_i h; simp [h]
  · rename_i h; simp [h]

theorem idxI_range {α : Type} (p : α → Bool) (xs : List α) : -1 ≤ idxI p xs ∧ (xs.any p = true → idxI p xs < xs.length) := by
  unfold idxI
  split
  · rename_i h
    refine ⟨by omega, fun _ => ?_⟩
    have := List.findIdx_lt_length.2 (List.any_eq_true.1 h)
    omega
  · exact ⟨by omega, fun h => by simp_all⟩

theorem index_str_c (A : View) (v : Value) (xs : List ByteArray) (s : ByteArray) (h : Sl strS A v xs) : ACalls Try.prog 25 #[v, .string s] A fun r A' => r = .int .i64 (idxI (s == ·) xs) ∧ A' = A := by
  obtain ⟨a, c, rfl, hc, hl⟩ := h.slice
  refine acalls Try.func25 rfl (by kernel_rfl) ?_
  simp (disch := omega) only [↓stp, vls, inf, frs, mark_eq, ↓reduceIte, Nat.reduceEqDiff, ite_tt, ite_ff, eq_self, and_true, true_and, and_self, implies_true, Bool.true_eq_false, Bool.false_eq_true, decide_true, decide_false, decide_eq_true_eq, decide_eq_false_iff_not, ne_eq, not_true_eq_false, not_false_eq_true, Bool.not_eq_true', Bool.not_eq_false', beq_self_eq_true, Bool.not_true, Bool.not_false, List.getElem?_toArray, List.getElem?_cons_zero, List.getElem?_cons_succ]
  refine aloop (fun d fr A' => ∃ i : Nat, i ≤ xs.length ∧ d = xs.length - i ∧ A' = A ∧ fr 0 = .slice a xs.length c ∧ fr 1 = .string s ∧ fr 7 = .int .i64 xs.length ∧ fr 8 = .int .i64 i ∧ (∀ j (hj : j < i) (hl : j < xs.length), (s == xs[j]) = false)) xs.length ⟨0, by omega, by omega, rfl, rfl, by rfl, by rfl, by rfl, by omega⟩ ?_
  rintro d fr A ⟨i, hi, rfl, rfl, h0, h1, h7, h8, hn⟩
  simp (disch := omega) only [↓stp, vls, inf, frs, mark_eq, ↓reduceIte, Nat.reduceEqDiff, ite_tt, ite_ff, eq_self, and_true, true_and, and_self, implies_true, Bool.true_eq_false, Bool.false_eq_true, decide_true, decide_false, decide_eq_true_eq, decide_eq_false_iff_not, ne_eq, not_true_eq_false, not_false_eq_true, Bool.not_eq_true', Bool.not_eq_false', beq_self_eq_true, Bool.not_true, Bool.not_false, List.getElem?_toArray, List.getElem?_cons_zero, List.getElem?_cons_succ, h0, h1, h7, h8]
  refine ⟨fun e => ?_, fun e => ?_⟩
  · obtain ⟨ad, rfl, hcl, hsz⟩ := h.str (i := i) (by omega)
    simp (disch := omega) only [↓stp, vls, inf, frs, mark_eq, ↓reduceIte, Nat.reduceEqDiff, ite_tt, ite_ff, eq_self, and_true, true_and, and_self, implies_true, Bool.true_eq_false, Bool.false_eq_true, decide_true, decide_false, decide_eq_true_eq, decide_eq_false_iff_not, ne_eq, not_true_eq_false, not_false_eq_true, Bool.not_eq_true', Bool.not_eq_false', beq_self_eq_true, Bool.not_true, Bool.not_false, List.getElem?_toArray, List.getElem?_cons_zero, List.getElem?_cons_succ, h0, h1, h7, h8, hcl]
    refine ⟨fun e1 => ?_, fun e1 => ?_⟩ <;> simp (disch := omega) only [↓stp, vls, inf, frs, mark_eq, ↓reduceIte, Nat.reduceEqDiff, ite_tt, ite_ff, eq_self, and_true, true_and, and_self, implies_true, Bool.true_eq_false, Bool.false_eq_true, decide_true, decide_false, decide_eq_true_eq, decide_eq_false_iff_not, ne_eq, not_true_eq_false, not_false_eq_true, Bool.not_eq_true', Bool.not_eq_false', beq_self_eq_true, Bool.not_true, Bool.not_false, List.getElem?_toArray, List.getElem?_cons_zero, List.getElem?_cons_succ, h0, h1, h7, h8]
    · rw [idxI_found (by omega) (fun j hj => hn j hj (by omega)) (by simp [e1])]
    · refine ⟨_, by omega, i + 1, by omega, rfl, rfl, fun j hj hl => ?_⟩
      by_cases hji : j = i
      · subst hji; simpa using e1
      · exact hn j (by omega) hl
  · simp (disch := omega) only [↓stp, vls, inf, frs, mark_eq, ↓reduceIte, Nat.reduceEqDiff, ite_tt, ite_ff, eq_self, and_true, true_and, and_self, implies_true, Bool.true_eq_false, Bool.false_eq_true, decide_true, decide_false, decide_eq_true_eq, decide_eq_false_iff_not, ne_eq, not_true_eq_false, not_false_eq_true, Bool.not_eq_true', Bool.not_eq_false', beq_self_eq_true, Bool.not_true, Bool.not_false, List.getElem?_toArray, List.getElem?_cons_zero, List.getElem?_cons_succ, h0, h1, h7, h8]
    rw [idxI_none (fun j hj => hn j (by omega) hj)]

theorem contains_str_c (A : View) (v : Value) (xs : List ByteArray) (s : ByteArray) (h : Sl strS A v xs) : ACalls Try.prog 95 #[v, .string s] A fun r A' => r = .bool (decide (s ∈ xs)) ∧ A' = A := by
  refine acalls Try.func95 rfl (by kernel_rfl) ?_
  simp (disch := omega) only [↓stp, vls, inf, frs, mark_eq, ↓reduceIte, Nat.reduceEqDiff, ite_tt, ite_ff, eq_self, and_true, true_and, and_self, implies_true, Bool.true_eq_false, Bool.false_eq_true, decide_true, decide_false, decide_eq_true_eq, decide_eq_false_iff_not, ne_eq, not_true_eq_false, not_false_eq_true, Bool.not_eq_true', Bool.not_eq_false', beq_self_eq_true, Bool.not_true, Bool.not_false, List.getElem?_toArray, List.getElem?_cons_zero, List.getElem?_cons_succ]
  refine (index_str_c A v xs s h).mono ?_
  rintro _ A ⟨rfl, rfl⟩
  simp (disch := omega) only [↓stp, vls, inf, frs, mark_eq, ↓reduceIte, Nat.reduceEqDiff, ite_tt, ite_ff, eq_self, and_true, true_and, and_self, implies_true, Bool.true_eq_false, Bool.false_eq_true, decide_true, decide_false, decide_eq_true_eq, decide_eq_false_iff_not, ne_eq, not_true_eq_false, not_false_eq_true, Bool.not_eq_true', Bool.not_eq_false', beq_self_eq_true, Bool.not_true, Bool.not_false, List.getElem?_toArray, List.getElem?_cons_zero, List.getElem?_cons_succ, idxI_ge]
  simp

theorem notin_take {α : Type} {s : α} {xs : List α} {i : Nat} (hi : i < xs.length) (h1 : s ∉ xs.take i) (h2 : ¬ xs[i] = s) : s ∉ xs.take (i + 1) := by
  rw [List.take_succ_eq_append_getElem hi, List.mem_append, List.mem_singleton]
  rintro (h | h)
  · exact h1 h
  · exact h2 h.symm

theorem all_take {α : Type} {p : α → Bool} {xs : List α} {i : Nat} (hi : i < xs.length) (h1 : (xs.take i).all p = true) (h2 : p xs[i] = true) : (xs.take (i + 1)).all p = true := by
  rw [List.take_succ_eq_append_getElem hi, List.all_append, h1, Bool.true_and]
  simp [h2]

theorem all_no {α : Type} {p : α → Bool} {xs : List α} {i : Nat} (hi : i < xs.length) (h2 : p xs[i] = false) : xs.all p = false :=
  List.all_eq_false.2 ⟨_, List.getElem_mem hi, by simp [h2]⟩

theorem spec_hasText_c (A : View) (v : Value) (xs : List ByteArray) (s : ByteArray) (h : Sl strS A v xs) : ACalls Try.prog 51 #[v, .string s] A fun r A' => r = .bool (decide (s ∈ xs)) ∧ A' = A := by
  obtain ⟨a, c, rfl, hc, hl⟩ := h.slice
  refine acalls Try.func51 rfl (by kernel_rfl) ?_
  simp (disch := omega) only [↓stp, vls, inf, frs, mark_eq, ↓reduceIte, Nat.reduceEqDiff, ite_tt, ite_ff, eq_self, and_true, true_and, and_self, implies_true, Bool.true_eq_false, Bool.false_eq_true, decide_true, decide_false, decide_eq_true_eq, decide_eq_false_iff_not, ne_eq, not_true_eq_false, not_false_eq_true, Bool.not_eq_true', Bool.not_eq_false', beq_self_eq_true, Bool.not_true, Bool.not_false, List.getElem?_toArray, List.getElem?_cons_zero, List.getElem?_cons_succ]
  refine aloop (fun d fr A' => ∃ i : Nat, i ≤ xs.length ∧ d = xs.length - i ∧ A' = A ∧ fr 0 = .slice a xs.length c ∧ fr 1 = .string s ∧ fr 5 = .int .i64 i ∧ s ∉ xs.take i) xs.length ⟨0, by omega, by omega, rfl, rfl, by rfl, by rfl, by simp⟩ ?_
  rintro d fr A ⟨i, hi, rfl, rfl, h0, h1, h5, hn⟩
  simp (disch := omega) only [↓stp, vls, inf, frs, mark_eq, ↓reduceIte, Nat.reduceEqDiff, ite_tt, ite_ff, eq_self, and_true, true_and, and_self, implies_true, Bool.true_eq_false, Bool.false_eq_true, decide_true, decide_false, decide_eq_true_eq, decide_eq_false_iff_not, ne_eq, not_true_eq_false, not_false_eq_true, Bool.not_eq_true', Bool.not_eq_false', beq_self_eq_true, Bool.not_true, Bool.not_false, List.getElem?_toArray, List.getElem?_cons_zero, List.getElem?_cons_succ, h0, h1, h5]
  refine ⟨fun e => ?_, fun e => ?_⟩
  · obtain ⟨ad, rfl, hcl, hsz⟩ := h.str (i := i) (by omega)
    simp (disch := omega) only [↓stp, vls, inf, frs, mark_eq, ↓reduceIte, Nat.reduceEqDiff, ite_tt, ite_ff, eq_self, and_true, true_and, and_self, implies_true, Bool.true_eq_false, Bool.false_eq_true, decide_true, decide_false, decide_eq_true_eq, decide_eq_false_iff_not, ne_eq, not_true_eq_false, not_false_eq_true, Bool.not_eq_true', Bool.not_eq_false', beq_self_eq_true, Bool.not_true, Bool.not_false, List.getElem?_toArray, List.getElem?_cons_zero, List.getElem?_cons_succ, h0, h1, h5, hcl]
    refine ⟨fun e1 => ?_, fun e1 => ?_⟩ <;> simp (disch := omega) only [↓stp, vls, inf, frs, mark_eq, ↓reduceIte, Nat.reduceEqDiff, ite_tt, ite_ff, eq_self, and_true, true_and, and_self, implies_true, Bool.true_eq_false, Bool.false_eq_true, decide_true, decide_false, decide_eq_true_eq, decide_eq_false_iff_not, ne_eq, not_true_eq_false, not_false_eq_true, Bool.not_eq_true', Bool.not_eq_false', beq_self_eq_true, Bool.not_true, Bool.not_false, List.getElem?_toArray, List.getElem?_cons_zero, List.getElem?_cons_succ, h0, h1, h5]
    · simp [← e1]
    · refine ⟨_, by omega, i + 1, by omega, rfl, rfl, ?_⟩
      exact notin_take (by omega) hn e1
  · simp (disch := omega) only [↓stp, vls, inf, frs, mark_eq, ↓reduceIte, Nat.reduceEqDiff, ite_tt, ite_ff, eq_self, and_true, true_and, and_self, implies_true, Bool.true_eq_false, Bool.false_eq_true, decide_true, decide_false, decide_eq_true_eq, decide_eq_false_iff_not, ne_eq, not_true_eq_false, not_false_eq_true, Bool.not_eq_true', Bool.not_eq_false', beq_self_eq_true, Bool.not_true, Bool.not_false, List.getElem?_toArray, List.getElem?_cons_zero, List.getElem?_cons_succ, h0, h1, h5]
    rw [List.take_of_length_le (by omega)] at hn
    simp [hn]

/-- Different ids, at most ten. -/
def idsB (xs : List ByteArray) : Bool := xs.all idB && decide xs.Nodup && decide (xs.length ≤ 10)

theorem nodup_take_succ {α : Type} [DecidableEq α] {xs : List α} {i : Nat} (hi : i < xs.length) : (xs.take (i + 1)).Nodup ↔ (xs.take i).Nodup ∧ xs[i] ∉ xs.take i := by
  rw [List.take_succ_eq_append_getElem hi, List.nodup_append]
  constructor
  · rintro ⟨h1, _, h3⟩
    exact ⟨h1, fun hm => h3 _ hm _ (List.mem_singleton.2 rfl) rfl⟩
  · rintro ⟨h1, h2⟩
    refine ⟨h1, List.nodup_cons.2 ⟨by simp, List.nodup_nil⟩, fun a ha b hb e => ?_⟩
    rw [List.mem_singleton] at hb
    subst e; subst hb
    exact h2 ha

theorem nodup_no {α : Type} [DecidableEq α] {xs : List α} {i : Nat} (hi : i < xs.length) (h : xs[i] ∈ xs.take i) : ¬ xs.Nodup := fun hn =>
  ((nodup_take_succ hi).1 (List.Sublist.nodup (List.take_sublist _ _) hn)).2 h

end Go.Proofs.Ytggklaimbklefaa

/- The helpers of the laws for numbers and texts: copied, compared, counted, marked. -/
set_option maxHeartbeats 4000000
set_option synthInstance.maxHeartbeats 400000
set_option synthInstance.maxSize 4096
set_option linter.unusedSimpArgs false
set_option linter.unusedVariables false
namespace Go.Proofs.Ytggklaimbklefaa

set_option maxRecDepth 100000

theorem Elems.map {α : Type} {S : Shape α} {A : View} {g : α → Value} (hg : ∀ A x cs, S.rel A x cs → cs = [g x]) {xs : List α} {cs : List Value} (h : Elems S A xs cs) : cs = xs.map g := by
  induction h with
  | nil => rfl
  | cons h1 _ ih => rw [hg _ _ _ h1, ih]; rfl

theorem Sl.elems {α : Type} {S : Shape α} {A : View} {g : α → Value} (hg : ∀ A x cs, S.rel A x cs → cs = [g x]) {v : Value} {xs : List α} (h : Sl S A v xs) : Elems S A xs (xs.map g) := by
  obtain ⟨_, a, c, _, _, h3⟩ := h
  cases xs with
  | nil => exact .nil
  | cons x xs =>
    obtain ⟨ad, cs, _, _, he⟩ := h3 (by simp)
    have := he.map hg
    subst this
    exact he

theorem OElems.scal {α : Type} {S : Shape α} {hS : ∀ {A B x cs}, S.rel A x cs → S.rel B x cs} {A B : View} {xs : List α} {cs : List Value} (h : Elems S A xs cs) : OElems (scalO S hS) B [] xs cs := by
  induction h with
  | nil => exact .nil
  | cons h1 _ ih =>
    have := OElems.cons (O := scalO S hS) (A := B) (f := []) (fp := []) ⟨rfl, hS h1⟩ ih
    exact this

theorem int_map (A : View) (x : Int) (cs : List Value) (h : intS.rel A x cs) : cs = [.int .i64 x] := h.1
theorem str_map (A : View) (x : ByteArray) (cs : List Value) (h : strS.rel A x cs) : cs = [.string x] := h.1

/-- The digits of a mark are in E2; texts weigh their bytes. -/
def wStr : List ByteArray → Nat
  | [] => 0
  | x :: xs => x.size + wStr xs

theorem wStr_append (xs ys : List ByteArray) : wStr (xs ++ ys) = wStr xs + wStr ys := by
  induction xs with
  | nil => simp [wStr]
  | cons x xs ih => simp only [List.cons_append, wStr, ih, Nat.add_assoc]

theorem wStr_take (xs : List ByteArray) {i : Nat} (h : i < xs.length) : wStr (xs.take (i + 1)) = wStr (xs.take i) + (xs[i]).size := by
  rw [List.take_succ_eq_append_getElem h, wStr_append]; simp [wStr]

theorem szStringS_c0 (A : View) (v : Value) (xs : List ByteArray) (k : Int) (h : Sl strS A v xs) (hk : 0 ≤ k ∧ k ≤ 1048576) : ACalls Try.prog 85 #[v, .int .i64 k] A fun r A' => (∃ j : Int, r = .int .i64 j ∧ (j = -1 ∨ (0 ≤ j ∧ j + (xs.length + wStr xs : Nat) = k))) ∧ Ext A A' := by
  obtain ⟨a, c, rfl, hc, hl⟩ := h.slice
  refine acalls Try.func85 rfl (by kernel_rfl) ?_
  simp (disch := omega) only [↓stp, vls, inf, frs, mark_eq, ↓reduceIte, Nat.reduceEqDiff, ite_tt, ite_ff, eq_self, and_true, true_and, and_self, implies_true, Bool.true_eq_false, Bool.false_eq_true, decide_true, decide_false, decide_eq_true_eq, decide_eq_false_iff_not, ne_eq, not_true_eq_false, not_false_eq_true, Bool.not_eq_true', Bool.not_eq_false', beq_self_eq_true, Bool.not_true, Bool.not_false, List.getElem?_toArray, List.getElem?_cons_zero, List.getElem?_cons_succ]
  refine ⟨fun e => ?_, fun e => ?_⟩
  · simp (disch := omega) only [↓stp, vls, inf, frs, mark_eq, ↓reduceIte, Nat.reduceEqDiff, ite_tt, ite_ff, eq_self, and_true, true_and, and_self, implies_true, Bool.true_eq_false, Bool.false_eq_true, decide_true, decide_false, decide_eq_true_eq, decide_eq_false_iff_not, ne_eq, not_true_eq_false, not_false_eq_true, Bool.not_eq_true', Bool.not_eq_false', beq_self_eq_true, Bool.not_true, Bool.not_false, List.getElem?_toArray, List.getElem?_cons_zero, List.getElem?_cons_succ, e]
    exact ⟨⟨_, rfl, .inl rfl⟩, Ext.refl _⟩
  · simp (disch := omega) only [↓stp, vls, inf, frs, mark_eq, ↓reduceIte, Nat.reduceEqDiff, ite_tt, ite_ff, eq_self, and_true, true_and, and_self, implies_true, Bool.true_eq_false, Bool.false_eq_true, decide_true, decide_false, decide_eq_true_eq, decide_eq_false_iff_not, ne_eq, not_true_eq_false, not_false_eq_true, Bool.not_eq_true', Bool.not_eq_false', beq_self_eq_true, Bool.not_true, Bool.not_false, List.getElem?_toArray, List.getElem?_cons_zero, List.getElem?_cons_succ]
    refine aloop (fun d fr A' => ∃ (i : Nat) (kk : Int), i ≤ xs.length ∧ d = xs.length - i ∧ A' = A ∧ fr 0 = .slice a xs.length c ∧ fr 1 = .int .i64 kk ∧ fr 5 = .int .i64 i ∧ 0 ≤ kk ∧ kk + (xs.length + wStr (xs.take i) : Nat) = k) xs.length ⟨0, k - xs.length, by omega, by omega, rfl, rfl, by rfl, by rfl, by omega, by simp [wStr]⟩ ?_
    rintro d fr A ⟨i, kk, hi, rfl, rfl, h0, h1, h5, hk1, hk2⟩
    simp (disch := omega) only [↓stp, vls, inf, frs, mark_eq, ↓reduceIte, Nat.reduceEqDiff, ite_tt, ite_ff, eq_self, and_true, true_and, and_self, implies_true, Bool.true_eq_false, Bool.false_eq_true, decide_true, decide_false, decide_eq_true_eq, decide_eq_false_iff_not, ne_eq, not_true_eq_false, not_false_eq_true, Bool.not_eq_true', Bool.not_eq_false', beq_self_eq_true, Bool.not_true, Bool.not_false, List.getElem?_toArray, List.getElem?_cons_zero, List.getElem?_cons_succ, h0, h1, h5]
    refine ⟨fun e => ?_, fun e => ?_⟩
    · have hlt : i < xs.length := by omega
      obtain ⟨ad, rfl, hcl, hsz⟩ := h.str hlt
      simp (disch := omega) only [↓stp, vls, inf, frs, mark_eq, ↓reduceIte, Nat.reduceEqDiff, ite_tt, ite_ff, eq_self, and_true, true_and, and_self, implies_true, Bool.true_eq_false, Bool.false_eq_true, decide_true, decide_false, decide_eq_true_eq, decide_eq_false_iff_not, ne_eq, not_true_eq_false, not_false_eq_true, Bool.not_eq_true', Bool.not_eq_false', beq_self_eq_true, Bool.not_true, Bool.not_false, List.getElem?_toArray, List.getElem?_cons_zero, List.getElem?_cons_succ, h0, h1, h5, hcl]
      have hw := wStr_take xs hlt
      refine ⟨fun e1 => ?_, fun e1 => ?_⟩ <;> simp (disch := omega) only [↓stp, vls, inf, frs, mark_eq, ↓reduceIte, Nat.reduceEqDiff, ite_tt, ite_ff, eq_self, and_true, true_and, and_self, implies_true, Bool.true_eq_false, Bool.false_eq_true, decide_true, decide_false, decide_eq_true_eq, decide_eq_false_iff_not, ne_eq, not_true_eq_false, not_false_eq_true, Bool.not_eq_true', Bool.not_eq_false', beq_self_eq_true, Bool.not_true, Bool.not_false, List.getElem?_toArray, List.getElem?_cons_zero, List.getElem?_cons_succ, h0, h1, h5]
      · exact ⟨⟨_, rfl, .inl rfl⟩, Ext.refl _⟩
      · exact ⟨_, by omega, i + 1, _, by omega, rfl, rfl, rfl, by omega, by omega⟩
    · simp (disch := omega) only [↓stp, vls, inf, frs, mark_eq, ↓reduceIte, Nat.reduceEqDiff, ite_tt, ite_ff, eq_self, and_true, true_and, and_self, implies_true, Bool.true_eq_false, Bool.false_eq_true, decide_true, decide_false, decide_eq_true_eq, decide_eq_false_iff_not, ne_eq, not_true_eq_false, not_false_eq_true, Bool.not_eq_true', Bool.not_eq_false', beq_self_eq_true, Bool.not_true, Bool.not_false, List.getElem?_toArray, List.getElem?_cons_zero, List.getElem?_cons_succ, h0, h1, h5]
      rw [List.take_of_length_le (by omega)] at hk2
      exact ⟨⟨_, rfl, .inr ⟨hk1, hk2⟩⟩, Ext.refl _⟩

theorem eqStringS_c0 (A : View) (v u : Value) (xs ys : List ByteArray) (h : Sl strS A v xs) (h' : Sl strS A u ys) : ACalls Try.prog 97 #[v, u] A fun r A' => r = .bool (decide (xs = ys)) ∧ A' = A := by
  obtain ⟨a, c, rfl, hc, hl⟩ := h.slice
  obtain ⟨a', c', rfl, hc', hl'⟩ := h'.slice
  refine acalls Try.func97 rfl (by kernel_rfl) ?_
  simp (disch := omega) only [↓stp, vls, inf, frs, mark_eq, ↓reduceIte, Nat.reduceEqDiff, ite_tt, ite_ff, eq_self, and_true, true_and, and_self, implies_true, Bool.true_eq_false, Bool.false_eq_true, decide_true, decide_false, decide_eq_true_eq, decide_eq_false_iff_not, ne_eq, not_true_eq_false, not_false_eq_true, Bool.not_eq_true', Bool.not_eq_false', beq_self_eq_true, Bool.not_true, Bool.not_false, List.getElem?_toArray, List.getElem?_cons_zero, List.getElem?_cons_succ]
  refine ⟨fun e => ?_, fun e => ?_⟩
  · simp (disch := omega) only [↓stp, vls, inf, frs, mark_eq, ↓reduceIte, Nat.reduceEqDiff, ite_tt, ite_ff, eq_self, and_true, true_and, and_self, implies_true, Bool.true_eq_false, Bool.false_eq_true, decide_true, decide_false, decide_eq_true_eq, decide_eq_false_iff_not, ne_eq, not_true_eq_false, not_false_eq_true, Bool.not_eq_true', Bool.not_eq_false', beq_self_eq_true, Bool.not_true, Bool.not_false, List.getElem?_toArray, List.getElem?_cons_zero, List.getElem?_cons_succ]
    have : xs ≠ ys := fun he => e (by rw [he])
    simp [this]
  · have hlen : xs.length = ys.length := by omega
    simp (disch := omega) only [↓stp, vls, inf, frs, mark_eq, ↓reduceIte, Nat.reduceEqDiff, ite_tt, ite_ff, eq_self, and_true, true_and, and_self, implies_true, Bool.true_eq_false, Bool.false_eq_true, decide_true, decide_false, decide_eq_true_eq, decide_eq_false_iff_not, ne_eq, not_true_eq_false, not_false_eq_true, Bool.not_eq_true', Bool.not_eq_false', beq_self_eq_true, Bool.not_true, Bool.not_false, List.getElem?_toArray, List.getElem?_cons_zero, List.getElem?_cons_succ]
    refine aloop (fun d fr A' => ∃ i : Nat, i ≤ xs.length ∧ d = xs.length - i ∧ A' = A ∧ fr 0 = .slice a xs.length c ∧ fr 1 = .slice a' ys.length c' ∧ fr 5 = .int .i64 i ∧ xs.take i = ys.take i) xs.length ⟨0, by omega, by omega, rfl, rfl, by rfl, by rfl, by simp⟩ ?_
    rintro d fr A ⟨i, hi, rfl, rfl, h0, h1, h5, hn⟩
    simp (disch := omega) only [↓stp, vls, inf, frs, mark_eq, ↓reduceIte, Nat.reduceEqDiff, ite_tt, ite_ff, eq_self, and_true, true_and, and_self, implies_true, Bool.true_eq_false, Bool.false_eq_true, decide_true, decide_false, decide_eq_true_eq, decide_eq_false_iff_not, ne_eq, not_true_eq_false, not_false_eq_true, Bool.not_eq_true', Bool.not_eq_false', beq_self_eq_true, Bool.not_true, Bool.not_false, List.getElem?_toArray, List.getElem?_cons_zero, List.getElem?_cons_succ, h0, h1, h5]
    refine ⟨fun e => ?_, fun e => ?_⟩
    · obtain ⟨ad, rfl, hcl, _⟩ := h.str (i := i) (by omega)
      obtain ⟨ad', rfl, hcl', _⟩ := h'.str (i := i) (by omega)
      simp (disch := omega) only [↓stp, vls, inf, frs, mark_eq, ↓reduceIte, Nat.reduceEqDiff, ite_tt, ite_ff, eq_self, and_true, true_and, and_self, implies_true, Bool.true_eq_false, Bool.false_eq_true, decide_true, decide_false, decide_eq_true_eq, decide_eq_false_iff_not, ne_eq, not_true_eq_false, not_false_eq_true, Bool.not_eq_true', Bool.not_eq_false', beq_self_eq_true, Bool.not_true, Bool.not_false, List.getElem?_toArray, List.getElem?_cons_zero, List.getElem?_cons_succ, h0, h1, h5]
      refine adraw_items [.q 0, .q 1, .q 2, .l 3 false, .q 4, .q 5, .q 6, .l 7 false, .q 8] (by kernel_rfl) (by kernel_rfl) ?_
      simp (disch := omega) only [↓stp, ↓pln, plv, nilOk, Nat.reduceBEq, Bool.or_false, Bool.or_true, Bool.false_or, Bool.true_or, vls, inf, frs, mark_eq, ↓reduceIte, Nat.reduceEqDiff, ite_tt, ite_ff, eq_self, and_true, true_and, and_self, implies_true, Bool.true_eq_false, Bool.false_eq_true, decide_true, decide_false, decide_eq_true_eq, decide_eq_false_iff_not, ne_eq, not_true_eq_false, not_false_eq_true, Bool.not_eq_true', Bool.not_eq_false', beq_self_eq_true, Bool.not_true, Bool.not_false, List.getElem?_toArray, List.getElem?_cons_zero, List.getElem?_cons_succ, h0, h1, h5, hcl, hcl']
      refine ⟨fun e1 => ?_, fun e1 => ?_⟩ <;> simp (disch := omega) only [↓stp, vls, inf, frs, mark_eq, ↓reduceIte, Nat.reduceEqDiff, ite_tt, ite_ff, eq_self, and_true, true_and, and_self, implies_true, Bool.true_eq_false, Bool.false_eq_true, decide_true, decide_false, decide_eq_true_eq, decide_eq_false_iff_not, ne_eq, not_true_eq_false, not_false_eq_true, Bool.not_eq_true', Bool.not_eq_false', beq_self_eq_true, Bool.not_true, Bool.not_false, List.getElem?_toArray, List.getElem?_cons_zero, List.getElem?_cons_succ, h0, h1, h5]
      · have : xs ≠ ys := fun he => e1 (by simp only [he])
        simp [this]
      · refine ⟨_, by omega, i + 1, by omega, rfl, rfl, ?_⟩
        rw [List.take_succ_eq_append_getElem (by omega), List.take_succ_eq_append_getElem (by omega), hn]
        have : xs[i] = ys[i] := by simpa using e1
        rw [this]
    · rw [List.take_of_length_le (by omega), List.take_of_length_le (by omega)] at hn
      simp (disch := omega) only [↓stp, vls, inf, frs, mark_eq, ↓reduceIte, Nat.reduceEqDiff, ite_tt, ite_ff, eq_self, and_true, true_and, and_self, implies_true, Bool.true_eq_false, Bool.false_eq_true, decide_true, decide_false, decide_eq_true_eq, decide_eq_false_iff_not, ne_eq, not_true_eq_false, not_false_eq_true, Bool.not_eq_true', Bool.not_eq_false', beq_self_eq_true, Bool.not_true, Bool.not_false, List.getElem?_toArray, List.getElem?_cons_zero, List.getElem?_cons_succ, h0, h1, h5, hn]

theorem eqStringS_c (A : View) (v u : Value) (xs ys : List ByteArray) (h : Sl strS A v xs) (h' : Sl strS A u ys) : ACalls Try.prog 97 #[v, u] A fun r A' => r = .bool (decide (xs = ys)) ∧ Ext A A' :=
  (eqStringS_c0 A v u xs ys h h').mono fun _ _ ⟨h1, h2⟩ => ⟨h1, by rw [h2]; exact Ext.refl _⟩

theorem toStringS_c (A : View) (v : Value) (xs : List ByteArray) (h : Sl strS A v xs) (hb : xs.length ≤ 16777216) : ACalls Try.prog 90 #[v] A fun r A' => ∃ fp, OSl 9 strO A' fp r xs ∧ Ext A A' ∧ (∀ b, b ∈ fp → A b = none) ∧ fp.Nodup := by
  obtain ⟨a, c, rfl, hc, hl⟩ := h.slice
  refine acalls Try.func90 rfl (by kernel_rfl) ?_
  simp (disch := omega) only [↓stp, vls, inf, frs, mark_eq, ↓reduceIte, Nat.reduceEqDiff, ite_tt, ite_ff, eq_self, and_true, true_and, and_self, implies_true, Bool.true_eq_false, Bool.false_eq_true, decide_true, decide_false, decide_eq_true_eq, decide_eq_false_iff_not, ne_eq, not_true_eq_false, not_false_eq_true, Bool.not_eq_true', Bool.not_eq_false', beq_self_eq_true, Bool.not_true, Bool.not_false, List.getElem?_toArray, List.getElem?_cons_zero, List.getElem?_cons_succ]
  refine amake_at mk54 (by omega) (by omega) fun b hb => ?_
  simp (disch := omega) only [↓stp, vls, inf, frs, mark_eq, ↓reduceIte, Nat.reduceEqDiff, ite_tt, ite_ff, eq_self, and_true, true_and, and_self, implies_true, Bool.true_eq_false, Bool.false_eq_true, decide_true, decide_false, decide_eq_true_eq, decide_eq_false_iff_not, ne_eq, not_true_eq_false, not_false_eq_true, Bool.not_eq_true', Bool.not_eq_false', beq_self_eq_true, Bool.not_true, Bool.not_false, List.getElem?_toArray, List.getElem?_cons_zero, List.getElem?_cons_succ]
  refine aloop (fun d fr A' => ∃ i : Nat, i ≤ xs.length ∧ d = xs.length - i ∧ A' = A.set b ⟨9, (xs.take i).map (.string) ++ List.replicate (xs.length - i) (.string ⟨#[]⟩), xs.length, true⟩ ∧ fr 0 = .slice a xs.length c ∧ fr 3 = .slice (some ⟨b, 0, none⟩) xs.length xs.length ∧ fr 4 = .int .i64 i) xs.length ⟨0, by omega, by omega, by simp, rfl, by rfl, by rfl⟩ ?_
  rintro d fr _ ⟨i, hi, rfl, rfl, h0, h3, h4⟩
  simp (disch := omega) only [↓stp, vls, inf, frs, mark_eq, ↓reduceIte, Nat.reduceEqDiff, ite_tt, ite_ff, eq_self, and_true, true_and, and_self, implies_true, Bool.true_eq_false, Bool.false_eq_true, decide_true, decide_false, decide_eq_true_eq, decide_eq_false_iff_not, ne_eq, not_true_eq_false, not_false_eq_true, Bool.not_eq_true', Bool.not_eq_false', beq_self_eq_true, Bool.not_true, Bool.not_false, List.getElem?_toArray, List.getElem?_cons_zero, List.getElem?_cons_succ, h0, h3, h4]
  refine ⟨fun e => ?_, fun e => ?_⟩
  · have hlt : i < xs.length := by omega
    have he : Ext A (A.set b ⟨9, (xs.take i).map (.string) ++ List.replicate (xs.length - i) (.string ⟨#[]⟩), xs.length, true⟩) := Ext.new hb _
    obtain ⟨ad, rfl, hcl, _⟩ := h.str hlt
    have hcl := he.cell hcl
    have hz : List.replicate (xs.length - i) (Value.string ⟨#[]⟩) = [.string ⟨#[]⟩] ++ List.replicate (xs.length - (i + 1)) (.string ⟨#[]⟩) := by
      rw [show xs.length - i = (xs.length - (i + 1)) + 1 by omega, List.replicate_succ]; rfl
    have hst := storev_at (A := A.set b ⟨9, (xs.take i).map (.string) ++ List.replicate (xs.length - i) (.string ⟨#[]⟩), xs.length, true⟩) (b := b) (P := Try.prog) (v := .string xs[i]) sz9 (by rw [View.set_same, hz]) rfl rfl rfl (o := 0 + i) (by simp; omega)
    rw [View.set_set] at hst
    simp (disch := omega) only [↓stp, vls, inf, frs, mark_eq, ↓reduceIte, Nat.reduceEqDiff, ite_tt, ite_ff, eq_self, and_true, true_and, and_self, implies_true, Bool.true_eq_false, Bool.false_eq_true, decide_true, decide_false, decide_eq_true_eq, decide_eq_false_iff_not, ne_eq, not_true_eq_false, not_false_eq_true, Bool.not_eq_true', Bool.not_eq_false', beq_self_eq_true, Bool.not_true, Bool.not_false, List.getElem?_toArray, List.getElem?_cons_zero, List.getElem?_cons_succ, astore_at, h0, h3, h4, hcl, add_at, hst]
    refine ⟨_, by omega, i + 1, by omega, rfl, ?_, rfl⟩
    rw [List.take_succ_eq_append_getElem hlt, List.map_append, List.append_assoc]
    rfl
  · simp (disch := omega) only [↓stp, vls, inf, frs, mark_eq, ↓reduceIte, Nat.reduceEqDiff, ite_tt, ite_ff, eq_self, and_true, true_and, and_self, implies_true, Bool.true_eq_false, Bool.false_eq_true, decide_true, decide_false, decide_eq_true_eq, decide_eq_false_iff_not, ne_eq, not_true_eq_false, not_false_eq_true, Bool.not_eq_true', Bool.not_eq_false', beq_self_eq_true, Bool.not_true, Bool.not_false, List.getElem?_toArray, List.getElem?_cons_zero, List.getElem?_cons_succ, h0, h3, h4]
    have hi' : i = xs.length := by omega
    subst hi'
    simp only [List.take_length, Nat.sub_self, List.replicate_zero, List.append_nil]
    refine ⟨[b], ⟨by omega, .inr ⟨b, _, xs.map (.string), [], rfl, Nat.le_refl _, rfl, by rw [View.set_same]; simp [strO, scalO, strS], OElems.scal (h.elems str_map)⟩⟩, Ext.new hb _, by simpa using hb, by simp⟩

end Go.Proofs.Ytggklaimbklefaa

/- Marks. -/
set_option maxHeartbeats 4000000
set_option synthInstance.maxHeartbeats 400000
set_option synthInstance.maxSize 4096
set_option linter.unusedSimpArgs false
set_option linter.unusedVariables false
namespace Go.Proofs.Ytggklaimbklefaa

set_option maxRecDepth 100000

/-- One digit. -/
def dgt (k : Int) : ByteArray := [IntKind.u8.wrap (IntKind.i64.wrap (48 + k.tmod 10))].foldl (fun r n => r.push (UInt8.ofNat n.toNat)) ByteArray.empty
theorem dgt_size (k : Int) : (dgt k).size = 1 := rfl

/-- The digits of a number ahead of a text. -/
def mdig (k : Nat) (out : ByteArray) : ByteArray := if h : k = 0 then out else mdig (k / 10) (dgt k ++ out)
termination_by k
decreasing_by omega

/-- The text of a mark. -/
def mtext (k : Nat) : ByteArray := ⟨#[109]⟩ ++ mdig k ⟨#[]⟩

theorem cvII {A : View} {K : Value → View → Prop} (q : IntKind) (n : Int) : aconv Try.prog 3 5 (.int q n) A K = K (.int .u8 (IntKind.u8.wrap n)) A := aconv_int (s := .i64) (by kernel_rfl) (by kernel_rfl) q n

/-- Marks, one behind the other. -/
def marksI (k n : Nat) : List Int := (List.range' k n).map Int.ofNat
def marksT (k n : Nat) : List ByteArray := (List.range' k n).map mtext

theorem range'_snoc (k i : Nat) : List.range' k (i + 1) = List.range' k i ++ [k + i] := by
  rw [List.range'_concat]; simp

theorem marksI_len (k n : Nat) : (marksI k n).length = n := by simp [marksI]
theorem marksT_len (k n : Nat) : (marksT k n).length = n := by simp [marksT]

theorem elems_int {A : View} : ∀ (xs : List Int), (∀ x ∈ xs, -9223372036854775808 ≤ x ∧ x < 9223372036854775808) → Elems intS A xs (xs.map (.int .i64))
  | [], _ => .nil
  | x :: xs, h => .cons (S := intS) (c := [.int .i64 x]) ⟨rfl, h x (List.mem_cons_self ..)⟩ (elems_int xs fun y hy => h y (List.mem_cons_of_mem _ hy))

theorem elems_str {A : View} : ∀ (xs : List ByteArray), (∀ x ∈ xs, x.size ≤ 140737488355328) → Elems strS A xs (xs.map .string)
  | [], _ => .nil
  | x :: xs, h => .cons (S := strS) (c := [.string x]) ⟨rfl, h x (List.mem_cons_self ..)⟩ (elems_str xs fun y hy => h y (List.mem_cons_of_mem _ hy))

theorem marksI_elems {A : View} (k n : Nat) (hk : k + n ≤ 4398046511104) : Elems intS A (marksI k n) ((marksI k n).map (.int .i64)) := elems_int _ fun x hx => by
  simp [marksI] at hx
  obtain ⟨a, ha, rfl⟩ := hx
  omega

theorem OElems.scal_nil {α : Type} {S : Shape α} {hS : ∀ {A B x cs}, S.rel A x cs → S.rel B x cs} {A : View} {fp : List Nat} {xs : List α} {cs : List Value} (h : OElems (scalO S hS) A fp xs cs) : fp = [] := by
  induction h with
  | nil => rfl
  | cons h1 _ ih => rw [h1.1, ih]; rfl

theorem mtext_size {k : Nat} (hk : 0 < k) (hk2 : k ≤ 1099511627776) : (mtext k).size ≤ 2199023255552 := by
  have key : ∀ (m j : Nat) (out : ByteArray), m * 2 ^ j ≤ k → out.size = j → j ≤ 1099511627777 → (mdig m out).size ≤ 1099511627778 := by
    intro m
    induction m using Nat.strongRecOn with
    | ind m ih =>
      intro j out hj hs hj2
      unfold mdig
      split
      · omega
      · rename_i hm
        have hjs : j < 1099511627776 := by
          have h1 : 2 ^ j ≤ m * 2 ^ j := Nat.le_mul_of_pos_left _ (by omega)
          have h2 : j < 2 ^ j := Nat.lt_two_pow_self
          omega
        refine ih (m / 10) (by omega) (j + 1) _ ?_ ?_ (by omega)
        · have : m / 10 * 2 ^ (j + 1) ≤ m * 2 ^ j := by
            rw [Nat.pow_succ, Nat.mul_comm (2 ^ j) 2, ← Nat.mul_assoc]
            exact Nat.mul_le_mul_right _ (by omega)
          omega
        · rw [ByteArray.size_append, dgt_size, hs]; omega
  have h1 := key k 0 ⟨#[]⟩ (by omega) rfl (by omega)
  have h2 : (⟨#[109]⟩ : ByteArray).size = 1 := rfl
  unfold mtext
  rw [ByteArray.size_append, h2]
  omega

theorem marksT_elems {A : View} (k n : Nat) (hk0 : 0 < k) (hk : k + n ≤ 1099511627776) : Elems strS A (marksT k n) ((marksT k n).map .string) := elems_str _ fun x hx => by
  simp [marksT] at hx
  obtain ⟨a, ha, rfl⟩ := hx
  have := mtext_size (k := a) (by omega) (by omega)
  omega

theorem marksT_get {k n i : Nat} (h : i < n) : (marksT k n)[i]'(by rw [marksT_len]; exact h) = mtext (k + i) := by simp [marksT]

/-- Texts, with marks. -/
def strT : GT ByteArray := ⟨strO, fun _ => 1, fun k _ => mtext k, fun s => s.size⟩

theorem cntL_str (xs : List ByteArray) : cntL strT xs = xs.length := by
  induction xs with
  | nil => rfl
  | cons x xs ih =>
    simp only [cntL, ih, List.length_cons]
    show 1 + _ = _
    omega

theorem cntL_str_le (xs : List ByteArray) : cntL strT xs ≤ 4 * (xs.length + wL strT xs) := by rw [cntL_str]; omega

theorem wL_str (xs : List ByteArray) : wL strT xs = wStr xs := by
  induction xs with
  | nil => rfl
  | cons x xs ih => simp only [wL, ih, wStr]; rfl

theorem mkL_str : ∀ (xs : List ByteArray) (k : Nat), mkL strT k xs = marksT k xs.length
  | [], k => rfl
  | x :: xs, k => by
    have h1 := mkL_str xs (k + 1)
    simp only [mkL, marksT, List.length_cons, List.range'_succ, List.map_cons]
    have h2 : mkL strT (k + strT.cnt x) xs = marksT (k + 1) xs.length := h1
    rw [h2]; rfl

theorem mkL_int : ∀ (xs : List Int) (k : Nat), mkL intT k xs = marksI k xs.length
  | [], k => rfl
  | x :: xs, k => by
    have h1 := mkL_int xs (k + 1)
    simp only [mkL, marksI, List.length_cons, List.range'_succ, List.map_cons]
    have h2 : mkL intT (k + intT.cnt x) xs = marksI (k + 1) xs.length := h1
    rw [h2]; rfl

theorem szStringS_c (A : View) (v : Value) (xs : List ByteArray) (k : Int) (h : Sl strS A v xs) (hk : 0 ≤ k ∧ k ≤ 1048576) : ACalls Try.prog 85 #[v, .int .i64 k] A fun r A' => (∃ j : Int, r = .int .i64 j ∧ (j = -1 ∨ (0 ≤ j ∧ j + (xs.length + wL strT xs : Nat) = k))) ∧ Ext A A' := by
  rw [wL_str]; exact szStringS_c0 A v xs k h hk

end Go.Proofs.Ytggklaimbklefaa

/- The helpers of the laws for Test: counted, copied, compared, marked. -/
set_option maxHeartbeats 4000000
set_option synthInstance.maxHeartbeats 400000
set_option synthInstance.maxSize 4096
set_option linter.unusedSimpArgs false
set_option linter.unusedVariables false
namespace Go.Proofs.Ytggklaimbklefaa

set_option maxRecDepth 100000

abbrev TestD := ByteArray × ByteArray × List ByteArray × List ByteArray × Unit

def testS : Shape TestD := consS strS (consS strS (consS (slS strS) (consS (slS strS) unitS)))

def testO : OwnS TestD := consO strO (consO strO (consO (slO 9 strO) (consO (slO 9 strO) unitO)))

def testT : GT TestD := consT strT (consT strT (consT (slT 9 strT) (consT (slT 9 strT) unitT)))

theorem testS_open {A : View} {x : TestD} {d : List Value} (h : testS.rel A x d) : ∃ uu2 uu3 : Value, d = [.string x.1, .string x.2.1, uu2, uu3] ∧ x.1.size ≤ 140737488355328 ∧ x.2.1.size ≤ 140737488355328 ∧ Sl strS A uu2 x.2.2.1 ∧ Sl strS A uu3 x.2.2.2.1 := by
  obtain ⟨_, _, rfl, ⟨rfl, hh0⟩, ⟨_, _, rfl, ⟨rfl, hh1⟩, ⟨_, _, rfl, ⟨uu2, rfl, hh2⟩, ⟨_, _, rfl, ⟨uu3, rfl, hh3⟩, rfl⟩⟩⟩⟩ := h
  exact ⟨uu2, uu3, rfl, hh0, hh1, hh2, hh3⟩

theorem testS_mk {A : View} {x : TestD} {uu2 uu3 : Value} (hh0 : x.1.size ≤ 140737488355328) (hh1 : x.2.1.size ≤ 140737488355328) (hh2 : Sl strS A uu2 x.2.2.1) (hh3 : Sl strS A uu3 x.2.2.2.1) : testS.rel A x [.string x.1, .string x.2.1, uu2, uu3] := ⟨_, _, rfl, ⟨rfl, hh0⟩, ⟨_, _, rfl, ⟨rfl, hh1⟩, ⟨_, _, rfl, ⟨_, rfl, hh2⟩, ⟨_, _, rfl, ⟨_, rfl, hh3⟩, rfl⟩⟩⟩⟩

theorem testO_open {A : View} {fp : List Nat} {x : TestD} {d : List Value} (h : testO.rel A fp x d) : ∃ (ff2 : List Nat) (uu2 : Value) (ff3 : List Nat) (uu3 : Value), ff2 ++ (ff3) = fp ∧ d = [.string x.1, .string x.2.1, uu2, uu3] ∧ x.1.size ≤ 140737488355328 ∧ x.2.1.size ≤ 140737488355328 ∧ OSl 9 strO A ff2 uu2 x.2.2.1 ∧ OSl 9 strO A ff3 uu3 x.2.2.2.1 := by
  obtain ⟨_, _, _, _, rfl, rfl, ⟨rfl, rfl, hh0⟩, ⟨_, _, _, _, rfl, rfl, ⟨rfl, rfl, hh1⟩, ⟨_, _, _, _, rfl, rfl, ⟨uu2, rfl, hh2⟩, ⟨_, _, _, _, rfl, rfl, ⟨uu3, rfl, hh3⟩, ⟨rfl, rfl⟩⟩⟩⟩⟩ := h
  exact ⟨_, uu2, _, uu3, by simp, rfl, hh0, hh1, hh2, hh3⟩

theorem testO_mk {A : View} {x : TestD} {ff2 ff3 : List Nat} {uu2 uu3 : Value} (hh0 : x.1.size ≤ 140737488355328) (hh1 : x.2.1.size ≤ 140737488355328) (hh2 : OSl 9 strO A ff2 uu2 x.2.2.1) (hh3 : OSl 9 strO A ff3 uu3 x.2.2.2.1) : testO.rel A (ff2 ++ (ff3)) x [.string x.1, .string x.2.1, uu2, uu3] := ⟨[], ff2 ++ ff3, [.string x.1], _, by simp, rfl, ⟨rfl, rfl, hh0⟩, ⟨[], ff2 ++ ff3, [.string x.2.1], _, by simp, rfl, ⟨rfl, rfl, hh1⟩, ⟨ff2, ff3, [uu2], _, by simp, rfl, ⟨_, rfl, hh2⟩, ⟨ff3, [], [uu3], _, by simp, rfl, ⟨_, rfl, hh3⟩, ⟨rfl, rfl⟩⟩⟩⟩⟩

theorem testO_S {A : View} {fp : List Nat} {x : TestD} {d : List Value} (h : testO.rel A fp x d) : testS.rel A x d := testO.toS h

theorem testT_w (x : TestD) : testT.w x = x.1.size + (x.2.1.size + ((x.2.2.1.length + wL strT x.2.2.1) + ((x.2.2.2.1.length + wL strT x.2.2.2.1) + 0))) := rfl

theorem testT_cnt (x : TestD) : testT.cnt x = 1 + (1 + (cntL strT x.2.2.1 + (cntL strT x.2.2.2.1 + 0))) := rfl

theorem testT_le (x : TestD) : testT.cnt x ≤ 4 + 4 * testT.w x := by
  rw [testT_cnt, testT_w]
  have e2 := cntL_str_le x.2.2.1
  have e3 := cntL_str_le x.2.2.2.1
  omega

theorem testL_le : ∀ (xs : List TestD), cntL testT xs ≤ 4 * (xs.length + wL testT xs)
  | [] => by simp [cntL]
  | x :: xs => by
    have := testT_le x
    have := testL_le xs
    simp only [cntL, wL, List.length_cons]
    omega

theorem Sl.test {A : View} {a : Option Addr} {n c : Nat} {xs : List TestD} (h : Sl testS A (.slice a n c) xs) {i : Nat} (hi : i < xs.length) : ∃ (ad : Addr) (uu2 uu3 : Value), a = some ad ∧ A.part (ad.add (i * 4)) 4 = some [.string (xs[i]).1, .string (xs[i]).2.1, uu2, uu3] ∧ (xs[i]).1.size ≤ 140737488355328 ∧ (xs[i]).2.1.size ≤ 140737488355328 ∧ Sl strS A uu2 (xs[i]).2.2.1 ∧ Sl strS A uu3 (xs[i]).2.2.2.1 := by
  obtain ⟨ad, d, h1, h2, h3, _⟩ := h.at hi
  obtain ⟨uu2, uu3, rfl, hh0, hh1, hh2, hh3⟩ := testS_open h2
  exact ⟨ad, uu2, uu3, h1, h3, hh0, hh1, hh2, hh3⟩

theorem szTest_c (A : View) (d : List Value) (x : TestD) (k : Int) (h : testS.rel A x d) (hk : 0 ≤ k ∧ k ≤ 1048576) : ACalls Try.prog 64 #[.agg d.toArray, .int .i64 k] A fun r A' => (∃ j : Int, r = .int .i64 j ∧ (j = -1 ∨ (0 ≤ j ∧ j + testT.w x = k))) ∧ Ext A A' := by
  obtain ⟨uu2, uu3, rfl, hh0, hh1, hh2, hh3⟩ := testS_open h
  obtain ⟨aa2, cc2, rfl, hc2, hl2⟩ := hh2.slice
  obtain ⟨aa3, cc3, rfl, hc3, hl3⟩ := hh3.slice
  have hw := testT_w x
  refine acalls Try.func64 rfl (by kernel_rfl) ?_
  simp (disch := omega) only [↓stp, vls, inf, frs, mark_eq, ↓reduceIte, Nat.reduceEqDiff, ite_tt, ite_ff, eq_self, and_true, true_and, and_self, implies_true, Bool.true_eq_false, Bool.false_eq_true, decide_true, decide_false, decide_eq_true_eq, decide_eq_false_iff_not, ne_eq, not_true_eq_false, not_false_eq_true, Bool.not_eq_true', Bool.not_eq_false', beq_self_eq_true, Bool.not_true, Bool.not_false, List.getElem?_toArray, List.getElem?_cons_zero, List.getElem?_cons_succ]
  refine led_box (Led.nil A) rfl fun b V _ l => ?_
  have b0 := l.cell (i := 0) rfl (o := 0) rfl rfl
  have b1 := l.cell (i := 0) rfl (o := 1) rfl rfl
  have b2 := l.cell (i := 0) rfl (o := 2) rfl rfl
  have b3 := l.cell (i := 0) rfl (o := 3) rfl rfl
  simp (disch := omega) only [↓stp, vls, inf, frs, mark_eq, ↓reduceIte, Nat.reduceEqDiff, ite_tt, ite_ff, eq_self, and_true, true_and, and_self, implies_true, Bool.true_eq_false, Bool.false_eq_true, decide_true, decide_false, decide_eq_true_eq, decide_eq_false_iff_not, ne_eq, not_true_eq_false, not_false_eq_true, Bool.not_eq_true', Bool.not_eq_false', beq_self_eq_true, Bool.not_true, Bool.not_false, List.getElem?_toArray, List.getElem?_cons_zero, List.getElem?_cons_succ, add_at, b0, b1, b2, b3]
  refine ⟨fun e => ?_, fun e => ?_⟩
  · simp (disch := omega) only [↓stp, vls, inf, frs, mark_eq, ↓reduceIte, Nat.reduceEqDiff, ite_tt, ite_ff, eq_self, and_true, true_and, and_self, implies_true, Bool.true_eq_false, Bool.false_eq_true, decide_true, decide_false, decide_eq_true_eq, decide_eq_false_iff_not, ne_eq, not_true_eq_false, not_false_eq_true, Bool.not_eq_true', Bool.not_eq_false', beq_self_eq_true, Bool.not_true, Bool.not_false, List.getElem?_toArray, List.getElem?_cons_zero, List.getElem?_cons_succ, add_at, b0, b1, b2, b3]
    exact ⟨⟨_, rfl, .inl rfl⟩, l.ext⟩
  simp (disch := omega) only [↓stp, vls, inf, frs, mark_eq, ↓reduceIte, Nat.reduceEqDiff, ite_tt, ite_ff, eq_self, and_true, true_and, and_self, implies_true, Bool.true_eq_false, Bool.false_eq_true, decide_true, decide_false, decide_eq_true_eq, decide_eq_false_iff_not, ne_eq, not_true_eq_false, not_false_eq_true, Bool.not_eq_true', Bool.not_eq_false', beq_self_eq_true, Bool.not_true, Bool.not_false, List.getElem?_toArray, List.getElem?_cons_zero, List.getElem?_cons_succ, add_at, b0, b1, b2, b3]
  refine ⟨fun e => ?_, fun e => ?_⟩
  · simp (disch := omega) only [↓stp, vls, inf, frs, mark_eq, ↓reduceIte, Nat.reduceEqDiff, ite_tt, ite_ff, eq_self, and_true, true_and, and_self, implies_true, Bool.true_eq_false, Bool.false_eq_true, decide_true, decide_false, decide_eq_true_eq, decide_eq_false_iff_not, ne_eq, not_true_eq_false, not_false_eq_true, Bool.not_eq_true', Bool.not_eq_false', beq_self_eq_true, Bool.not_true, Bool.not_false, List.getElem?_toArray, List.getElem?_cons_zero, List.getElem?_cons_succ, add_at, b0, b1, b2, b3]
    exact ⟨⟨_, rfl, .inl rfl⟩, l.ext⟩
  simp (disch := omega) only [↓stp, vls, inf, frs, mark_eq, ↓reduceIte, Nat.reduceEqDiff, ite_tt, ite_ff, eq_self, and_true, true_and, and_self, implies_true, Bool.true_eq_false, Bool.false_eq_true, decide_true, decide_false, decide_eq_true_eq, decide_eq_false_iff_not, ne_eq, not_true_eq_false, not_false_eq_true, Bool.not_eq_true', Bool.not_eq_false', beq_self_eq_true, Bool.not_true, Bool.not_false, List.getElem?_toArray, List.getElem?_cons_zero, List.getElem?_cons_succ, add_at, b0, b1, b2, b3]
  refine (szStringS_c V _ _ _ (hh2.mono l.ext) (by omega)).mono ?_
  rintro _ V ⟨⟨j2, rfl, hj2⟩, he⟩
  replace l := l.step he
  have b0 := l.cell (i := 0) rfl (o := 0) rfl rfl
  have b1 := l.cell (i := 0) rfl (o := 1) rfl rfl
  have b2 := l.cell (i := 0) rfl (o := 2) rfl rfl
  have b3 := l.cell (i := 0) rfl (o := 3) rfl rfl
  simp (disch := omega) only [↓stp, vls, inf, frs, mark_eq, ↓reduceIte, Nat.reduceEqDiff, ite_tt, ite_ff, eq_self, and_true, true_and, and_self, implies_true, Bool.true_eq_false, Bool.false_eq_true, decide_true, decide_false, decide_eq_true_eq, decide_eq_false_iff_not, ne_eq, not_true_eq_false, not_false_eq_true, Bool.not_eq_true', Bool.not_eq_false', beq_self_eq_true, Bool.not_true, Bool.not_false, List.getElem?_toArray, List.getElem?_cons_zero, List.getElem?_cons_succ, add_at, b0, b1, b2, b3]
  refine ⟨fun e => ?_, fun e => ?_⟩
  · simp (disch := omega) only [↓stp, vls, inf, frs, mark_eq, ↓reduceIte, Nat.reduceEqDiff, ite_tt, ite_ff, eq_self, and_true, true_and, and_self, implies_true, Bool.true_eq_false, Bool.false_eq_true, decide_true, decide_false, decide_eq_true_eq, decide_eq_false_iff_not, ne_eq, not_true_eq_false, not_false_eq_true, Bool.not_eq_true', Bool.not_eq_false', beq_self_eq_true, Bool.not_true, Bool.not_false, List.getElem?_toArray, List.getElem?_cons_zero, List.getElem?_cons_succ, add_at, b0, b1, b2, b3]
    exact ⟨⟨_, rfl, .inl rfl⟩, l.ext⟩
  replace hj2 := hj2.resolve_left (by omega)
  simp (disch := omega) only [↓stp, vls, inf, frs, mark_eq, ↓reduceIte, Nat.reduceEqDiff, ite_tt, ite_ff, eq_self, and_true, true_and, and_self, implies_true, Bool.true_eq_false, Bool.false_eq_true, decide_true, decide_false, decide_eq_true_eq, decide_eq_false_iff_not, ne_eq, not_true_eq_false, not_false_eq_true, Bool.not_eq_true', Bool.not_eq_false', beq_self_eq_true, Bool.not_true, Bool.not_false, List.getElem?_toArray, List.getElem?_cons_zero, List.getElem?_cons_succ, add_at, b0, b1, b2, b3]
  refine (szStringS_c V _ _ _ (hh3.mono l.ext) (by omega)).mono ?_
  rintro _ V ⟨⟨j3, rfl, hj3⟩, he⟩
  replace l := l.step he
  have b0 := l.cell (i := 0) rfl (o := 0) rfl rfl
  have b1 := l.cell (i := 0) rfl (o := 1) rfl rfl
  have b2 := l.cell (i := 0) rfl (o := 2) rfl rfl
  have b3 := l.cell (i := 0) rfl (o := 3) rfl rfl
  simp (disch := omega) only [↓stp, vls, inf, frs, mark_eq, ↓reduceIte, Nat.reduceEqDiff, ite_tt, ite_ff, eq_self, and_true, true_and, and_self, implies_true, Bool.true_eq_false, Bool.false_eq_true, decide_true, decide_false, decide_eq_true_eq, decide_eq_false_iff_not, ne_eq, not_true_eq_false, not_false_eq_true, Bool.not_eq_true', Bool.not_eq_false', beq_self_eq_true, Bool.not_true, Bool.not_false, List.getElem?_toArray, List.getElem?_cons_zero, List.getElem?_cons_succ, add_at, b0, b1, b2, b3]
  refine ⟨fun e => ?_, fun e => ?_⟩
  · simp (disch := omega) only [↓stp, vls, inf, frs, mark_eq, ↓reduceIte, Nat.reduceEqDiff, ite_tt, ite_ff, eq_self, and_true, true_and, and_self, implies_true, Bool.true_eq_false, Bool.false_eq_true, decide_true, decide_false, decide_eq_true_eq, decide_eq_false_iff_not, ne_eq, not_true_eq_false, not_false_eq_true, Bool.not_eq_true', Bool.not_eq_false', beq_self_eq_true, Bool.not_true, Bool.not_false, List.getElem?_toArray, List.getElem?_cons_zero, List.getElem?_cons_succ, add_at, b0, b1, b2, b3]
    exact ⟨⟨_, rfl, .inl rfl⟩, l.ext⟩
  replace hj3 := hj3.resolve_left (by omega)
  simp (disch := omega) only [↓stp, vls, inf, frs, mark_eq, ↓reduceIte, Nat.reduceEqDiff, ite_tt, ite_ff, eq_self, and_true, true_and, and_self, implies_true, Bool.true_eq_false, Bool.false_eq_true, decide_true, decide_false, decide_eq_true_eq, decide_eq_false_iff_not, ne_eq, not_true_eq_false, not_false_eq_true, Bool.not_eq_true', Bool.not_eq_false', beq_self_eq_true, Bool.not_true, Bool.not_false, List.getElem?_toArray, List.getElem?_cons_zero, List.getElem?_cons_succ, add_at, b0, b1, b2, b3]
  exact ⟨⟨_, rfl, .inr ⟨by omega, by omega⟩⟩, l.ext⟩

theorem toTest_c (A : View) (d : List Value) (x : TestD) (h : testS.rel A x d) (hw : testT.w x ≤ 1048576) : ACalls Try.prog 70 #[.agg d.toArray] A fun r A' => ∃ fp d', r = .agg d'.toArray ∧ testO.rel A' fp x d' ∧ Ext A A' ∧ (∀ b, b ∈ fp → A b = none) ∧ fp.Nodup := by
  obtain ⟨uu2, uu3, rfl, hh0, hh1, hh2, hh3⟩ := testS_open h
  obtain ⟨aa2, cc2, rfl, hc2, hl2⟩ := hh2.slice
  obtain ⟨aa3, cc3, rfl, hc3, hl3⟩ := hh3.slice
  rw [testT_w] at hw
  refine acalls Try.func70 rfl (by kernel_rfl) ?_
  simp (disch := omega) only [↓stp, vls, inf, frs, mark_eq, ↓reduceIte, Nat.reduceEqDiff, ite_tt, ite_ff, eq_self, and_true, true_and, and_self, implies_true, Bool.true_eq_false, Bool.false_eq_true, decide_true, decide_false, decide_eq_true_eq, decide_eq_false_iff_not, ne_eq, not_true_eq_false, not_false_eq_true, Bool.not_eq_true', Bool.not_eq_false', beq_self_eq_true, Bool.not_true, Bool.not_false, List.getElem?_toArray, List.getElem?_cons_zero, List.getElem?_cons_succ]
  refine led_box (Led.nil A) rfl fun q0 V _ l => ?_
  simp (disch := omega) only [↓stp, vls, inf, frs, mark_eq, ↓reduceIte, Nat.reduceEqDiff, ite_tt, ite_ff, eq_self, and_true, true_and, and_self, implies_true, Bool.true_eq_false, Bool.false_eq_true, decide_true, decide_false, decide_eq_true_eq, decide_eq_false_iff_not, ne_eq, not_true_eq_false, not_false_eq_true, Bool.not_eq_true', Bool.not_eq_false', beq_self_eq_true, Bool.not_true, Bool.not_false, List.getElem?_toArray, List.getElem?_cons_zero, List.getElem?_cons_succ]
  refine led_alloc zc78 l fun q1 V _ l => ?_
  simp (disch := omega) only [↓stp, vls, inf, frs, mark_eq, ↓reduceIte, Nat.reduceEqDiff, ite_tt, ite_ff, eq_self, and_true, true_and, and_self, implies_true, Bool.true_eq_false, Bool.false_eq_true, decide_true, decide_false, decide_eq_true_eq, decide_eq_false_iff_not, ne_eq, not_true_eq_false, not_false_eq_true, Bool.not_eq_true', Bool.not_eq_false', beq_self_eq_true, Bool.not_true, Bool.not_false, List.getElem?_toArray, List.getElem?_cons_zero, List.getElem?_cons_succ]
  refine led_alloc zc78 l fun q2 V _ l => ?_
  have b0 := l.cell (i := 2) rfl (o := 0) rfl rfl
  have b1 := l.cell (i := 2) rfl (o := 1) rfl rfl
  have b2 := l.cell (i := 2) rfl (o := 2) rfl rfl
  have b3 := l.cell (i := 2) rfl (o := 3) rfl rfl
  simp (disch := omega) only [↓stp, vls, inf, frs, mark_eq, ↓reduceIte, Nat.reduceEqDiff, ite_tt, ite_ff, eq_self, and_true, true_and, and_self, implies_true, Bool.true_eq_false, Bool.false_eq_true, decide_true, decide_false, decide_eq_true_eq, decide_eq_false_iff_not, ne_eq, not_true_eq_false, not_false_eq_true, Bool.not_eq_true', Bool.not_eq_false', beq_self_eq_true, Bool.not_true, Bool.not_false, List.getElem?_toArray, List.getElem?_cons_zero, List.getElem?_cons_succ, add_at, b0, b1, b2, b3]
  refine led_store l 0 rfl sz9 (by rfl) (by rfl) (by rfl) fun V l => ?_
  have b0 := l.cell (i := 2) rfl (o := 0) rfl rfl
  have b1 := l.cell (i := 2) rfl (o := 1) rfl rfl
  have b2 := l.cell (i := 2) rfl (o := 2) rfl rfl
  have b3 := l.cell (i := 2) rfl (o := 3) rfl rfl
  simp (disch := omega) only [↓stp, vls, inf, frs, mark_eq, ↓reduceIte, Nat.reduceEqDiff, ite_tt, ite_ff, eq_self, and_true, true_and, and_self, implies_true, Bool.true_eq_false, Bool.false_eq_true, decide_true, decide_false, decide_eq_true_eq, decide_eq_false_iff_not, ne_eq, not_true_eq_false, not_false_eq_true, Bool.not_eq_true', Bool.not_eq_false', beq_self_eq_true, Bool.not_true, Bool.not_false, List.getElem?_toArray, List.getElem?_cons_zero, List.getElem?_cons_succ, add_at, b0, b1, b2, b3]
  refine led_store l 0 rfl sz9 (by rfl) (by rfl) (by rfl) fun V l => ?_
  have b0 := l.cell (i := 2) rfl (o := 0) rfl rfl
  have b1 := l.cell (i := 2) rfl (o := 1) rfl rfl
  have b2 := l.cell (i := 2) rfl (o := 2) rfl rfl
  have b3 := l.cell (i := 2) rfl (o := 3) rfl rfl
  simp (disch := omega) only [↓stp, vls, inf, frs, mark_eq, ↓reduceIte, Nat.reduceEqDiff, ite_tt, ite_ff, eq_self, and_true, true_and, and_self, implies_true, Bool.true_eq_false, Bool.false_eq_true, decide_true, decide_false, decide_eq_true_eq, decide_eq_false_iff_not, ne_eq, not_true_eq_false, not_false_eq_true, Bool.not_eq_true', Bool.not_eq_false', beq_self_eq_true, Bool.not_true, Bool.not_false, List.getElem?_toArray, List.getElem?_cons_zero, List.getElem?_cons_succ, add_at, b0, b1, b2, b3]
  refine (toStringS_c V _ _ (hh2.mono l.ext) (by omega)).mono ?_
  rintro w2 V ⟨ff2, o2, he, hfr, hnd⟩
  obtain ⟨p2, r2, rfl, _, _⟩ := o2.toS.slice
  replace l := l.cons he (osl 9 strO ff2 _ _) o2 hfr hnd
  have b0 := l.cell (i := 3) rfl (o := 0) rfl rfl
  have b1 := l.cell (i := 3) rfl (o := 1) rfl rfl
  have b2 := l.cell (i := 3) rfl (o := 2) rfl rfl
  have b3 := l.cell (i := 3) rfl (o := 3) rfl rfl
  simp (disch := omega) only [↓stp, vls, inf, frs, mark_eq, ↓reduceIte, Nat.reduceEqDiff, ite_tt, ite_ff, eq_self, and_true, true_and, and_self, implies_true, Bool.true_eq_false, Bool.false_eq_true, decide_true, decide_false, decide_eq_true_eq, decide_eq_false_iff_not, ne_eq, not_true_eq_false, not_false_eq_true, Bool.not_eq_true', Bool.not_eq_false', beq_self_eq_true, Bool.not_true, Bool.not_false, List.getElem?_toArray, List.getElem?_cons_zero, List.getElem?_cons_succ, add_at, b0, b1, b2, b3]
  refine led_store l 1 rfl sz54 (by rfl) (by rfl) (by rfl) fun V l => ?_
  have b0 := l.cell (i := 3) rfl (o := 0) rfl rfl
  have b1 := l.cell (i := 3) rfl (o := 1) rfl rfl
  have b2 := l.cell (i := 3) rfl (o := 2) rfl rfl
  have b3 := l.cell (i := 3) rfl (o := 3) rfl rfl
  simp (disch := omega) only [↓stp, vls, inf, frs, mark_eq, ↓reduceIte, Nat.reduceEqDiff, ite_tt, ite_ff, eq_self, and_true, true_and, and_self, implies_true, Bool.true_eq_false, Bool.false_eq_true, decide_true, decide_false, decide_eq_true_eq, decide_eq_false_iff_not, ne_eq, not_true_eq_false, not_false_eq_true, Bool.not_eq_true', Bool.not_eq_false', beq_self_eq_true, Bool.not_true, Bool.not_false, List.getElem?_toArray, List.getElem?_cons_zero, List.getElem?_cons_succ, add_at, b0, b1, b2, b3]
  refine (toStringS_c V _ _ (hh3.mono l.ext) (by omega)).mono ?_
  rintro w3 V ⟨ff3, o3, he, hfr, hnd⟩
  obtain ⟨p3, r3, rfl, _, _⟩ := o3.toS.slice
  replace l := l.cons he (osl 9 strO ff3 _ _) o3 hfr hnd
  have b0 := l.cell (i := 4) rfl (o := 0) rfl rfl
  have b1 := l.cell (i := 4) rfl (o := 1) rfl rfl
  have b2 := l.cell (i := 4) rfl (o := 2) rfl rfl
  have b3 := l.cell (i := 4) rfl (o := 3) rfl rfl
  simp (disch := omega) only [↓stp, vls, inf, frs, mark_eq, ↓reduceIte, Nat.reduceEqDiff, ite_tt, ite_ff, eq_self, and_true, true_and, and_self, implies_true, Bool.true_eq_false, Bool.false_eq_true, decide_true, decide_false, decide_eq_true_eq, decide_eq_false_iff_not, ne_eq, not_true_eq_false, not_false_eq_true, Bool.not_eq_true', Bool.not_eq_false', beq_self_eq_true, Bool.not_true, Bool.not_false, List.getElem?_toArray, List.getElem?_cons_zero, List.getElem?_cons_succ, add_at, b0, b1, b2, b3]
  refine led_store l 2 rfl sz54 (by rfl) (by rfl) (by rfl) fun V l => ?_
  have hp : V.part ⟨q2, 0, none⟩ 4 = some [.string x.1, .string x.2.1, .slice p2 _ r2, .slice p3 _ r3] := l.part (i := 2) rfl rfl
  simp (disch := omega) only [↓stp, vls, inf, frs, mark_eq, ↓reduceIte, Nat.reduceEqDiff, ite_tt, ite_ff, eq_self, and_true, true_and, and_self, implies_true, Bool.true_eq_false, Bool.false_eq_true, decide_true, decide_false, decide_eq_true_eq, decide_eq_false_iff_not, ne_eq, not_true_eq_false, not_false_eq_true, Bool.not_eq_true', Bool.not_eq_false', beq_self_eq_true, Bool.not_true, Bool.not_false, List.getElem?_toArray, List.getElem?_cons_zero, List.getElem?_cons_succ, hp]
  refine led_store l 3 rfl sz78 (by rfl) (by rfl) (by rfl) fun V l => ?_
  have hp : V.part ⟨q1, 0, none⟩ 4 = some [.string x.1, .string x.2.1, .slice p2 _ r2, .slice p3 _ r3] := l.part (i := 3) rfl rfl
  simp (disch := omega) only [↓stp, vls, inf, frs, mark_eq, ↓reduceIte, Nat.reduceEqDiff, ite_tt, ite_ff, eq_self, and_true, true_and, and_self, implies_true, Bool.true_eq_false, Bool.false_eq_true, decide_true, decide_false, decide_eq_true_eq, decide_eq_false_iff_not, ne_eq, not_true_eq_false, not_false_eq_true, Bool.not_eq_true', Bool.not_eq_false', beq_self_eq_true, Bool.not_true, Bool.not_false, List.getElem?_toArray, List.getElem?_cons_zero, List.getElem?_cons_succ, hp]
  refine ⟨ff2 ++ (ff3), _, rfl, testO_mk hh0 hh1 (l.at (i := 1) rfl) (l.at (i := 0) rfl), l.ext, fun b hb => ?_, ?_⟩
  · simp only [List.mem_append] at hb
    rcases hb with hb | hb
    · exact l.fresh (i := 1) rfl b hb
    · exact l.fresh (i := 0) rfl b hb
  · refine List.nodup_append.2 ⟨l.nodup1 (i := 1) rfl, ?_, fun a ha b hb e => ?_⟩
    · exact l.nodup1 (i := 0) rfl
    · subst e
      exact l.dis (i := 1) (j := 0) rfl rfl (by decide) _ ha hb

theorem eqTest_c (A : View) (d d' : List Value) (x y : TestD) (h : testS.rel A x d) (h' : testS.rel A y d') : ACalls Try.prog 75 #[.agg d.toArray, .agg d'.toArray] A fun r A' => r = .bool (decide (x = y)) ∧ Ext A A' := by
  obtain ⟨uu2, uu3, rfl, hh0, hh1, hh2, hh3⟩ := testS_open h
  obtain ⟨aa2, cc2, rfl, hc2, hl2⟩ := hh2.slice
  obtain ⟨aa3, cc3, rfl, hc3, hl3⟩ := hh3.slice
  obtain ⟨v2, v3, rfl, g0, g1, g2, g3⟩ := testS_open h'
  obtain ⟨aa2q, cc2q, rfl, hc2q, hl2q⟩ := g2.slice
  obtain ⟨aa3q, cc3q, rfl, hc3q, hl3q⟩ := g3.slice
  refine acalls Try.func75 rfl (by kernel_rfl) ?_
  simp (disch := omega) only [↓stp, vls, inf, frs, mark_eq, ↓reduceIte, Nat.reduceEqDiff, ite_tt, ite_ff, eq_self, and_true, true_and, and_self, implies_true, Bool.true_eq_false, Bool.false_eq_true, decide_true, decide_false, decide_eq_true_eq, decide_eq_false_iff_not, ne_eq, not_true_eq_false, not_false_eq_true, Bool.not_eq_true', Bool.not_eq_false', beq_self_eq_true, Bool.not_true, Bool.not_false, List.getElem?_toArray, List.getElem?_cons_zero, List.getElem?_cons_succ]
  refine led_box (Led.nil A) rfl fun q0 V _ l => ?_
  simp (disch := omega) only [↓stp, vls, inf, frs, mark_eq, ↓reduceIte, Nat.reduceEqDiff, ite_tt, ite_ff, eq_self, and_true, true_and, and_self, implies_true, Bool.true_eq_false, Bool.false_eq_true, decide_true, decide_false, decide_eq_true_eq, decide_eq_false_iff_not, ne_eq, not_true_eq_false, not_false_eq_true, Bool.not_eq_true', Bool.not_eq_false', beq_self_eq_true, Bool.not_true, Bool.not_false, List.getElem?_toArray, List.getElem?_cons_zero, List.getElem?_cons_succ]
  refine led_box l rfl fun q1 V _ l => ?_
  have b0 := l.cell (i := 1) rfl (o := 0) rfl rfl
  have b1 := l.cell (i := 1) rfl (o := 1) rfl rfl
  have b2 := l.cell (i := 1) rfl (o := 2) rfl rfl
  have b3 := l.cell (i := 1) rfl (o := 3) rfl rfl
  have d0 := l.cell (i := 0) rfl (o := 0) rfl rfl
  have d1 := l.cell (i := 0) rfl (o := 1) rfl rfl
  have d2 := l.cell (i := 0) rfl (o := 2) rfl rfl
  have d3 := l.cell (i := 0) rfl (o := 3) rfl rfl
  simp (disch := omega) only [↓stp, vls, inf, frs, mark_eq, ↓reduceIte, Nat.reduceEqDiff, ite_tt, ite_ff, eq_self, and_true, true_and, and_self, implies_true, Bool.true_eq_false, Bool.false_eq_true, decide_true, decide_false, decide_eq_true_eq, decide_eq_false_iff_not, ne_eq, not_true_eq_false, not_false_eq_true, Bool.not_eq_true', Bool.not_eq_false', beq_self_eq_true, Bool.not_true, Bool.not_false, List.getElem?_toArray, List.getElem?_cons_zero, List.getElem?_cons_succ, add_at, b0, b1, b2, b3, d0, d1, d2, d3]
  refine ⟨fun e => ?_, fun e => ?_⟩
  · have hne : ¬ x = y := fun he => by rw [he] at e; simp at e
    simp (disch := omega) only [↓stp, vls, inf, frs, mark_eq, ↓reduceIte, Nat.reduceEqDiff, ite_tt, ite_ff, eq_self, and_true, true_and, and_self, implies_true, Bool.true_eq_false, Bool.false_eq_true, decide_true, decide_false, decide_eq_true_eq, decide_eq_false_iff_not, ne_eq, not_true_eq_false, not_false_eq_true, Bool.not_eq_true', Bool.not_eq_false', beq_self_eq_true, Bool.not_true, Bool.not_false, List.getElem?_toArray, List.getElem?_cons_zero, List.getElem?_cons_succ, hne]
    exact l.ext
  have e0 : x.1 = y.1 := by simpa using e
  simp (disch := omega) only [↓stp, vls, inf, frs, mark_eq, ↓reduceIte, Nat.reduceEqDiff, ite_tt, ite_ff, eq_self, and_true, true_and, and_self, implies_true, Bool.true_eq_false, Bool.false_eq_true, decide_true, decide_false, decide_eq_true_eq, decide_eq_false_iff_not, ne_eq, not_true_eq_false, not_false_eq_true, Bool.not_eq_true', Bool.not_eq_false', beq_self_eq_true, Bool.not_true, Bool.not_false, List.getElem?_toArray, List.getElem?_cons_zero, List.getElem?_cons_succ, add_at, b0, b1, b2, b3, d0, d1, d2, d3]
  refine ⟨fun e => ?_, fun e => ?_⟩
  · have hne : ¬ x = y := fun he => by rw [he] at e; simp at e
    simp (disch := omega) only [↓stp, vls, inf, frs, mark_eq, ↓reduceIte, Nat.reduceEqDiff, ite_tt, ite_ff, eq_self, and_true, true_and, and_self, implies_true, Bool.true_eq_false, Bool.false_eq_true, decide_true, decide_false, decide_eq_true_eq, decide_eq_false_iff_not, ne_eq, not_true_eq_false, not_false_eq_true, Bool.not_eq_true', Bool.not_eq_false', beq_self_eq_true, Bool.not_true, Bool.not_false, List.getElem?_toArray, List.getElem?_cons_zero, List.getElem?_cons_succ, hne]
    exact l.ext
  have e1 : x.2.1 = y.2.1 := by simpa using e
  simp (disch := omega) only [↓stp, vls, inf, frs, mark_eq, ↓reduceIte, Nat.reduceEqDiff, ite_tt, ite_ff, eq_self, and_true, true_and, and_self, implies_true, Bool.true_eq_false, Bool.false_eq_true, decide_true, decide_false, decide_eq_true_eq, decide_eq_false_iff_not, ne_eq, not_true_eq_false, not_false_eq_true, Bool.not_eq_true', Bool.not_eq_false', beq_self_eq_true, Bool.not_true, Bool.not_false, List.getElem?_toArray, List.getElem?_cons_zero, List.getElem?_cons_succ, add_at, b0, b1, b2, b3, d0, d1, d2, d3]
  refine (eqStringS_c V _ _ _ _ (hh2.mono l.ext) (g2.mono l.ext)).mono ?_
  rintro _ V ⟨rfl, he⟩
  replace l := l.step he
  have b0 := l.cell (i := 1) rfl (o := 0) rfl rfl
  have b1 := l.cell (i := 1) rfl (o := 1) rfl rfl
  have b2 := l.cell (i := 1) rfl (o := 2) rfl rfl
  have b3 := l.cell (i := 1) rfl (o := 3) rfl rfl
  have d0 := l.cell (i := 0) rfl (o := 0) rfl rfl
  have d1 := l.cell (i := 0) rfl (o := 1) rfl rfl
  have d2 := l.cell (i := 0) rfl (o := 2) rfl rfl
  have d3 := l.cell (i := 0) rfl (o := 3) rfl rfl
  simp (disch := omega) only [↓stp, vls, inf, frs, mark_eq, ↓reduceIte, Nat.reduceEqDiff, ite_tt, ite_ff, eq_self, and_true, true_and, and_self, implies_true, Bool.true_eq_false, Bool.false_eq_true, decide_true, decide_false, decide_eq_true_eq, decide_eq_false_iff_not, ne_eq, not_true_eq_false, not_false_eq_true, Bool.not_eq_true', Bool.not_eq_false', beq_self_eq_true, Bool.not_true, Bool.not_false, List.getElem?_toArray, List.getElem?_cons_zero, List.getElem?_cons_succ, add_at, b0, b1, b2, b3, d0, d1, d2, d3]
  refine ⟨fun e => ?_, fun e => ?_⟩
  · have hne : ¬ x = y := fun he => by rw [he] at e; simp at e
    simp (disch := omega) only [↓stp, vls, inf, frs, mark_eq, ↓reduceIte, Nat.reduceEqDiff, ite_tt, ite_ff, eq_self, and_true, true_and, and_self, implies_true, Bool.true_eq_false, Bool.false_eq_true, decide_true, decide_false, decide_eq_true_eq, decide_eq_false_iff_not, ne_eq, not_true_eq_false, not_false_eq_true, Bool.not_eq_true', Bool.not_eq_false', beq_self_eq_true, Bool.not_true, Bool.not_false, List.getElem?_toArray, List.getElem?_cons_zero, List.getElem?_cons_succ, hne]
    exact l.ext
  have e2 : x.2.2.1 = y.2.2.1 := by simpa using e
  simp (disch := omega) only [↓stp, vls, inf, frs, mark_eq, ↓reduceIte, Nat.reduceEqDiff, ite_tt, ite_ff, eq_self, and_true, true_and, and_self, implies_true, Bool.true_eq_false, Bool.false_eq_true, decide_true, decide_false, decide_eq_true_eq, decide_eq_false_iff_not, ne_eq, not_true_eq_false, not_false_eq_true, Bool.not_eq_true', Bool.not_eq_false', beq_self_eq_true, Bool.not_true, Bool.not_false, List.getElem?_toArray, List.getElem?_cons_zero, List.getElem?_cons_succ, add_at, b0, b1, b2, b3, d0, d1, d2, d3]
  refine (eqStringS_c V _ _ _ _ (hh3.mono l.ext) (g3.mono l.ext)).mono ?_
  rintro _ V ⟨rfl, he⟩
  replace l := l.step he
  have b0 := l.cell (i := 1) rfl (o := 0) rfl rfl
  have b1 := l.cell (i := 1) rfl (o := 1) rfl rfl
  have b2 := l.cell (i := 1) rfl (o := 2) rfl rfl
  have b3 := l.cell (i := 1) rfl (o := 3) rfl rfl
  have d0 := l.cell (i := 0) rfl (o := 0) rfl rfl
  have d1 := l.cell (i := 0) rfl (o := 1) rfl rfl
  have d2 := l.cell (i := 0) rfl (o := 2) rfl rfl
  have d3 := l.cell (i := 0) rfl (o := 3) rfl rfl
  simp (disch := omega) only [↓stp, vls, inf, frs, mark_eq, ↓reduceIte, Nat.reduceEqDiff, ite_tt, ite_ff, eq_self, and_true, true_and, and_self, implies_true, Bool.true_eq_false, Bool.false_eq_true, decide_true, decide_false, decide_eq_true_eq, decide_eq_false_iff_not, ne_eq, not_true_eq_false, not_false_eq_true, Bool.not_eq_true', Bool.not_eq_false', beq_self_eq_true, Bool.not_true, Bool.not_false, List.getElem?_toArray, List.getElem?_cons_zero, List.getElem?_cons_succ, add_at, b0, b1, b2, b3, d0, d1, d2, d3]
  refine ⟨fun e => ?_, fun e => ?_⟩
  · have hne : ¬ x = y := fun he => by rw [he] at e; simp at e
    simp (disch := omega) only [↓stp, vls, inf, frs, mark_eq, ↓reduceIte, Nat.reduceEqDiff, ite_tt, ite_ff, eq_self, and_true, true_and, and_self, implies_true, Bool.true_eq_false, Bool.false_eq_true, decide_true, decide_false, decide_eq_true_eq, decide_eq_false_iff_not, ne_eq, not_true_eq_false, not_false_eq_true, Bool.not_eq_true', Bool.not_eq_false', beq_self_eq_true, Bool.not_true, Bool.not_false, List.getElem?_toArray, List.getElem?_cons_zero, List.getElem?_cons_succ, hne]
    exact l.ext
  have e3 : x.2.2.2.1 = y.2.2.2.1 := by simpa using e
  have he : x = y := Prod.ext e0 (Prod.ext e1 (Prod.ext e2 (Prod.ext e3 (rfl))))
  simp (disch := omega) only [↓stp, vls, inf, frs, mark_eq, ↓reduceIte, Nat.reduceEqDiff, ite_tt, ite_ff, eq_self, and_true, true_and, and_self, implies_true, Bool.true_eq_false, Bool.false_eq_true, decide_true, decide_false, decide_eq_true_eq, decide_eq_false_iff_not, ne_eq, not_true_eq_false, not_false_eq_true, Bool.not_eq_true', Bool.not_eq_false', beq_self_eq_true, Bool.not_true, Bool.not_false, List.getElem?_toArray, List.getElem?_cons_zero, List.getElem?_cons_succ, he]
  exact l.ext

theorem szTestS_c (A : View) (v : Value) (xs : List TestD) (k : Int) (h : Sl testS A v xs) (hk : 0 ≤ k ∧ k ≤ 1048576) : ACalls Try.prog 36 #[v, .int .i64 k] A fun r A' => (∃ j : Int, r = .int .i64 j ∧ (j = -1 ∨ (0 ≤ j ∧ j + (xs.length + wL testT xs : Nat) = k))) ∧ Ext A A' := by
  obtain ⟨a, c, rfl, hc, hl⟩ := h.slice
  refine acalls Try.func36 rfl (by kernel_rfl) ?_
  simp (disch := omega) only [↓stp, vls, inf, frs, mark_eq, ↓reduceIte, Nat.reduceEqDiff, ite_tt, ite_ff, eq_self, and_true, true_and, and_self, implies_true, Bool.true_eq_false, Bool.false_eq_true, decide_true, decide_false, decide_eq_true_eq, decide_eq_false_iff_not, ne_eq, not_true_eq_false, not_false_eq_true, Bool.not_eq_true', Bool.not_eq_false', beq_self_eq_true, Bool.not_true, Bool.not_false, List.getElem?_toArray, List.getElem?_cons_zero, List.getElem?_cons_succ]
  refine ⟨fun e => ?_, fun e => ?_⟩
  · simp (disch := omega) only [↓stp, vls, inf, frs, mark_eq, ↓reduceIte, Nat.reduceEqDiff, ite_tt, ite_ff, eq_self, and_true, true_and, and_self, implies_true, Bool.true_eq_false, Bool.false_eq_true, decide_true, decide_false, decide_eq_true_eq, decide_eq_false_iff_not, ne_eq, not_true_eq_false, not_false_eq_true, Bool.not_eq_true', Bool.not_eq_false', beq_self_eq_true, Bool.not_true, Bool.not_false, List.getElem?_toArray, List.getElem?_cons_zero, List.getElem?_cons_succ, e]
    exact ⟨⟨_, rfl, .inl rfl⟩, Ext.refl _⟩
  · simp (disch := omega) only [↓stp, vls, inf, frs, mark_eq, ↓reduceIte, Nat.reduceEqDiff, ite_tt, ite_ff, eq_self, and_true, true_and, and_self, implies_true, Bool.true_eq_false, Bool.false_eq_true, decide_true, decide_false, decide_eq_true_eq, decide_eq_false_iff_not, ne_eq, not_true_eq_false, not_false_eq_true, Bool.not_eq_true', Bool.not_eq_false', beq_self_eq_true, Bool.not_true, Bool.not_false, List.getElem?_toArray, List.getElem?_cons_zero, List.getElem?_cons_succ]
    refine aloop (fun d fr A' => ∃ (i : Nat) (kk : Int), i ≤ xs.length ∧ d = xs.length - i ∧ Ext A A' ∧ fr 0 = .slice a xs.length c ∧ fr 1 = .int .i64 kk ∧ fr 5 = .int .i64 i ∧ 0 ≤ kk ∧ kk + (xs.length + wL testT (xs.take i) : Nat) = k) xs.length ⟨0, k - xs.length, by omega, by omega, Ext.refl _, rfl, by rfl, by rfl, by omega, by simp [wL]⟩ ?_
    rintro d fr A' ⟨i, kk, hi, rfl, he, h0, h1, h5, hk1, hk2⟩
    simp (disch := omega) only [↓stp, vls, inf, frs, mark_eq, ↓reduceIte, Nat.reduceEqDiff, ite_tt, ite_ff, eq_self, and_true, true_and, and_self, implies_true, Bool.true_eq_false, Bool.false_eq_true, decide_true, decide_false, decide_eq_true_eq, decide_eq_false_iff_not, ne_eq, not_true_eq_false, not_false_eq_true, Bool.not_eq_true', Bool.not_eq_false', beq_self_eq_true, Bool.not_true, Bool.not_false, List.getElem?_toArray, List.getElem?_cons_zero, List.getElem?_cons_succ, h0, h1, h5]
    refine ⟨fun e => ?_, fun e => ?_⟩
    · have hlt : i < xs.length := by omega
      obtain ⟨ad, d, rfl, hd, hp, _⟩ := (h.mono he).at hlt
      have hp : A'.part (ad.add (i * 4)) 4 = some d := hp
      simp (disch := omega) only [↓stp, vls, inf, frs, mark_eq, ↓reduceIte, Nat.reduceEqDiff, ite_tt, ite_ff, eq_self, and_true, true_and, and_self, implies_true, Bool.true_eq_false, Bool.false_eq_true, decide_true, decide_false, decide_eq_true_eq, decide_eq_false_iff_not, ne_eq, not_true_eq_false, not_false_eq_true, Bool.not_eq_true', Bool.not_eq_false', beq_self_eq_true, Bool.not_true, Bool.not_false, List.getElem?_toArray, List.getElem?_cons_zero, List.getElem?_cons_succ, h0, h1, h5, hp]
      refine (szTest_c A' d xs[i] kk hd (by omega)).mono ?_
      rintro _ A1 ⟨⟨j, rfl, hj⟩, he1⟩
      simp (disch := omega) only [↓stp, vls, inf, frs, mark_eq, ↓reduceIte, Nat.reduceEqDiff, ite_tt, ite_ff, eq_self, and_true, true_and, and_self, implies_true, Bool.true_eq_false, Bool.false_eq_true, decide_true, decide_false, decide_eq_true_eq, decide_eq_false_iff_not, ne_eq, not_true_eq_false, not_false_eq_true, Bool.not_eq_true', Bool.not_eq_false', beq_self_eq_true, Bool.not_true, Bool.not_false, List.getElem?_toArray, List.getElem?_cons_zero, List.getElem?_cons_succ, h0, h1, h5]
      refine ⟨fun e1 => ?_, fun e1 => ?_⟩ <;> simp (disch := omega) only [↓stp, vls, inf, frs, mark_eq, ↓reduceIte, Nat.reduceEqDiff, ite_tt, ite_ff, eq_self, and_true, true_and, and_self, implies_true, Bool.true_eq_false, Bool.false_eq_true, decide_true, decide_false, decide_eq_true_eq, decide_eq_false_iff_not, ne_eq, not_true_eq_false, not_false_eq_true, Bool.not_eq_true', Bool.not_eq_false', beq_self_eq_true, Bool.not_true, Bool.not_false, List.getElem?_toArray, List.getElem?_cons_zero, List.getElem?_cons_succ, h0, h1, h5]
      · exact ⟨⟨_, rfl, .inl rfl⟩, he.trans he1⟩
      · have hj := hj.resolve_left (by omega)
        have hw := wL_take testT xs hlt
        exact ⟨_, by omega, i + 1, _, by omega, rfl, he.trans he1, rfl, rfl, by omega, by omega⟩
    · simp (disch := omega) only [↓stp, vls, inf, frs, mark_eq, ↓reduceIte, Nat.reduceEqDiff, ite_tt, ite_ff, eq_self, and_true, true_and, and_self, implies_true, Bool.true_eq_false, Bool.false_eq_true, decide_true, decide_false, decide_eq_true_eq, decide_eq_false_iff_not, ne_eq, not_true_eq_false, not_false_eq_true, Bool.not_eq_true', Bool.not_eq_false', beq_self_eq_true, Bool.not_true, Bool.not_false, List.getElem?_toArray, List.getElem?_cons_zero, List.getElem?_cons_succ, h0, h1, h5]
      rw [List.take_of_length_le (by omega)] at hk2
      exact ⟨⟨_, rfl, .inr ⟨hk1, hk2⟩⟩, he⟩

theorem toTestS_c (A : View) (v : Value) (xs : List TestD) (h : Sl testS A v xs) (hw : xs.length + wL testT xs ≤ 1048576) : ACalls Try.prog 40 #[v] A fun r A' => ∃ fp, OSl 78 testO A' fp r xs ∧ Ext A A' ∧ (∀ b, b ∈ fp → A b = none) ∧ fp.Nodup := by
  obtain ⟨a, c, rfl, hc, hl⟩ := h.slice
  refine acalls Try.func40 rfl (by kernel_rfl) ?_
  simp (disch := omega) only [↓stp, vls, inf, frs, mark_eq, ↓reduceIte, Nat.reduceEqDiff, ite_tt, ite_ff, eq_self, and_true, true_and, and_self, implies_true, Bool.true_eq_false, Bool.false_eq_true, decide_true, decide_false, decide_eq_true_eq, decide_eq_false_iff_not, ne_eq, not_true_eq_false, not_false_eq_true, Bool.not_eq_true', Bool.not_eq_false', beq_self_eq_true, Bool.not_true, Bool.not_false, List.getElem?_toArray, List.getElem?_cons_zero, List.getElem?_cons_succ]
  refine amake_at mk39 (by omega) (by omega) fun b hb => ?_
  simp (disch := omega) only [↓stp, vls, inf, frs, mark_eq, ↓reduceIte, Nat.reduceEqDiff, ite_tt, ite_ff, eq_self, and_true, true_and, and_self, implies_true, Bool.true_eq_false, Bool.false_eq_true, decide_true, decide_false, decide_eq_true_eq, decide_eq_false_iff_not, ne_eq, not_true_eq_false, not_false_eq_true, Bool.not_eq_true', Bool.not_eq_false', beq_self_eq_true, Bool.not_true, Bool.not_false, List.getElem?_toArray, List.getElem?_cons_zero, List.getElem?_cons_succ]
  refine aloop (fun d fr A' => ∃ (i : Nat) (fp : List Nat) (done : List Value), i ≤ xs.length ∧ d = xs.length - i ∧ A' b = some ⟨78, done ++ (List.replicate (xs.length - i) [.string ⟨#[]⟩, .string ⟨#[]⟩, .slice none 0 0, .slice none 0 0]).flatten, xs.length * 4, true⟩ ∧ OElems testO A' fp (xs.take i) done ∧ Ext A A' ∧ (∀ x, x ∈ fp → A x = none ∧ x ≠ b) ∧ fp.Nodup ∧ fr 0 = .slice a xs.length c ∧ fr 3 = .slice (some ⟨b, 0, none⟩) xs.length xs.length ∧ fr 4 = .int .i64 i) xs.length ⟨0, [], [], by omega, by omega, by rw [View.set_same]; rfl, .nil, Ext.new hb _, by simp, List.nodup_nil, rfl, by rfl, by rfl⟩ ?_
  rintro d fr A' ⟨i, fp, done, hi, rfl, hA, hd, he, hfr, hnd, h0, h3, h4⟩
  simp (disch := omega) only [↓stp, vls, inf, frs, mark_eq, ↓reduceIte, Nat.reduceEqDiff, ite_tt, ite_ff, eq_self, and_true, true_and, and_self, implies_true, Bool.true_eq_false, Bool.false_eq_true, decide_true, decide_false, decide_eq_true_eq, decide_eq_false_iff_not, ne_eq, not_true_eq_false, not_false_eq_true, Bool.not_eq_true', Bool.not_eq_false', beq_self_eq_true, Bool.not_true, Bool.not_false, List.getElem?_toArray, List.getElem?_cons_zero, List.getElem?_cons_succ, h0, h3, h4]
  refine ⟨fun e => ?_, fun e => ?_⟩
  · have hlt : i < xs.length := by omega
    obtain ⟨ad, d, rfl, hdd, hp, _⟩ := (h.mono he).at hlt
    have hp : A'.part (ad.add (i * 4)) 4 = some d := hp
    simp (disch := omega) only [↓stp, vls, inf, frs, mark_eq, ↓reduceIte, Nat.reduceEqDiff, ite_tt, ite_ff, eq_self, and_true, true_and, and_self, implies_true, Bool.true_eq_false, Bool.false_eq_true, decide_true, decide_false, decide_eq_true_eq, decide_eq_false_iff_not, ne_eq, not_true_eq_false, not_false_eq_true, Bool.not_eq_true', Bool.not_eq_false', beq_self_eq_true, Bool.not_true, Bool.not_false, List.getElem?_toArray, List.getElem?_cons_zero, List.getElem?_cons_succ, h0, h3, h4, hp]
    refine (toTest_c A' d xs[i] hdd (by have := wL_mem testT (List.getElem_mem hlt); omega)).mono ?_
    rintro _ A1 ⟨fq, d', rfl, hw', he1, hfq, hndq⟩
    have hdl : done.length = i * 4 := by
      have := hd.len
      rw [List.length_take, Nat.min_eq_left hi] at this
      exact this
    have hz : (List.replicate (xs.length - i) ([.string ⟨#[]⟩, .string ⟨#[]⟩, .slice none 0 0, .slice none 0 0] : List Value)).flatten = [.string ⟨#[]⟩, .string ⟨#[]⟩, .slice none 0 0, .slice none 0 0] ++ (List.replicate (xs.length - (i + 1)) [.string ⟨#[]⟩, .string ⟨#[]⟩, .slice none 0 0, .slice none 0 0]).flatten := by
      rw [show xs.length - i = (xs.length - (i + 1)) + 1 by omega, List.replicate_succ]; rfl
    have hA1 := he1 _ _ hA
    have hbq : b ∉ fq := fun hm => by rw [hfq _ hm] at hA; cases hA
    have hsz : d'.toArray.size = 4 := by rw [List.size_toArray]; exact testS.len (testO_S hw')
    have hone : (Value.agg d'.toArray).cells.toList.all (·.oneCell') = true := List.all_eq_true.2 (testS.one (testO_S hw'))
    have hst := storev_at (P := Try.prog) (v := .agg d'.toArray) sz78 (hA1.trans (by rw [hz])) hsz rfl hone (o := 0 + i * 4) (by omega)
    simp (disch := omega) only [↓stp, vls, inf, frs, mark_eq, ↓reduceIte, Nat.reduceEqDiff, ite_tt, ite_ff, eq_self, and_true, true_and, and_self, implies_true, Bool.true_eq_false, Bool.false_eq_true, decide_true, decide_false, decide_eq_true_eq, decide_eq_false_iff_not, ne_eq, not_true_eq_false, not_false_eq_true, Bool.not_eq_true', Bool.not_eq_false', beq_self_eq_true, Bool.not_true, Bool.not_false, List.getElem?_toArray, List.getElem?_cons_zero, List.getElem?_cons_succ, astore_at, h0, h3, h4, add_at, hst]
    have hqfp : ∀ x, x ∈ fp → x ∉ fq := fun x hx hm => by
      obtain ⟨k, hk⟩ := hd.has x hx
      rw [hfq x hm] at hk; cases hk
    refine ⟨_, by omega, i + 1, fp ++ fq, done ++ d', by omega, rfl, ?_, ?_, (he.trans he1).setOld hb _, ?_, ?_, rfl⟩
    · rw [View.set_same, List.append_assoc]; rfl
    · rw [List.take_succ_eq_append_getElem hlt]
      refine OElems.append (hd.stay fun x k hx hk => ?_) (OElems.single (testO.stay hw' fun x k hx hk => ?_))
      · rw [View.set_ne _ _ (hfr x hx).2]
        exact he1 _ _ hk
      · rw [View.set_ne _ _ (fun e => hbq (by rw [← e]; exact hx))]
        exact hk
    · intro x hx
      rcases List.mem_append.1 hx with hx | hx
      · exact hfr x hx
      · exact ⟨he.none (hfq x hx), fun e => hbq (by rw [← e]; exact hx)⟩
    · exact List.nodup_append.2 ⟨hnd, hndq, fun x hx y hy e => hqfp x hx (by rw [e]; exact hy)⟩
  · simp (disch := omega) only [↓stp, vls, inf, frs, mark_eq, ↓reduceIte, Nat.reduceEqDiff, ite_tt, ite_ff, eq_self, and_true, true_and, and_self, implies_true, Bool.true_eq_false, Bool.false_eq_true, decide_true, decide_false, decide_eq_true_eq, decide_eq_false_iff_not, ne_eq, not_true_eq_false, not_false_eq_true, Bool.not_eq_true', Bool.not_eq_false', beq_self_eq_true, Bool.not_true, Bool.not_false, List.getElem?_toArray, List.getElem?_cons_zero, List.getElem?_cons_succ, h0, h3, h4]
    have hi' : i = xs.length := by omega
    subst hi'
    rw [List.take_length] at hd
    simp only [Nat.sub_self, List.replicate_zero, List.flatten_nil, List.append_nil] at hA
    refine ⟨b :: fp, ⟨by omega, .inr ⟨b, _, done, fp, rfl, Nat.le_refl _, rfl, hA, hd⟩⟩, he, ?_, List.nodup_cons.2 ⟨fun hm => (hfr b hm).2 rfl, hnd⟩⟩
    intro x hx
    rcases List.mem_cons.1 hx with rfl | hx
    · exact hb
    · exact (hfr x hx).1

theorem eqTestS_c (A : View) (v u : Value) (xs ys : List TestD) (h : Sl testS A v xs) (h' : Sl testS A u ys) : ACalls Try.prog 46 #[v, u] A fun r A' => r = .bool (decide (xs = ys)) ∧ Ext A A' := by
  obtain ⟨a, c, rfl, hc, hl⟩ := h.slice
  obtain ⟨a', c', rfl, hc', hl'⟩ := h'.slice
  refine acalls Try.func46 rfl (by kernel_rfl) ?_
  simp (disch := omega) only [↓stp, vls, inf, frs, mark_eq, ↓reduceIte, Nat.reduceEqDiff, ite_tt, ite_ff, eq_self, and_true, true_and, and_self, implies_true, Bool.true_eq_false, Bool.false_eq_true, decide_true, decide_false, decide_eq_true_eq, decide_eq_false_iff_not, ne_eq, not_true_eq_false, not_false_eq_true, Bool.not_eq_true', Bool.not_eq_false', beq_self_eq_true, Bool.not_true, Bool.not_false, List.getElem?_toArray, List.getElem?_cons_zero, List.getElem?_cons_succ]
  refine ⟨fun e => ?_, fun e => ?_⟩
  · simp (disch := omega) only [↓stp, vls, inf, frs, mark_eq, ↓reduceIte, Nat.reduceEqDiff, ite_tt, ite_ff, eq_self, and_true, true_and, and_self, implies_true, Bool.true_eq_false, Bool.false_eq_true, decide_true, decide_false, decide_eq_true_eq, decide_eq_false_iff_not, ne_eq, not_true_eq_false, not_false_eq_true, Bool.not_eq_true', Bool.not_eq_false', beq_self_eq_true, Bool.not_true, Bool.not_false, List.getElem?_toArray, List.getElem?_cons_zero, List.getElem?_cons_succ]
    have : xs ≠ ys := fun he => e (by rw [he])
    exact ⟨by simp [this], Ext.refl _⟩
  · have hlen : xs.length = ys.length := by omega
    simp (disch := omega) only [↓stp, vls, inf, frs, mark_eq, ↓reduceIte, Nat.reduceEqDiff, ite_tt, ite_ff, eq_self, and_true, true_and, and_self, implies_true, Bool.true_eq_false, Bool.false_eq_true, decide_true, decide_false, decide_eq_true_eq, decide_eq_false_iff_not, ne_eq, not_true_eq_false, not_false_eq_true, Bool.not_eq_true', Bool.not_eq_false', beq_self_eq_true, Bool.not_true, Bool.not_false, List.getElem?_toArray, List.getElem?_cons_zero, List.getElem?_cons_succ]
    refine aloop (fun d fr A' => ∃ i : Nat, i ≤ xs.length ∧ d = xs.length - i ∧ Ext A A' ∧ fr 0 = .slice a xs.length c ∧ fr 1 = .slice a' ys.length c' ∧ fr 5 = .int .i64 i ∧ xs.take i = ys.take i) xs.length ⟨0, by omega, by omega, Ext.refl _, rfl, by rfl, by rfl, by simp⟩ ?_
    rintro d fr A' ⟨i, hi, rfl, he, h0, h1, h5, hn⟩
    simp (disch := omega) only [↓stp, vls, inf, frs, mark_eq, ↓reduceIte, Nat.reduceEqDiff, ite_tt, ite_ff, eq_self, and_true, true_and, and_self, implies_true, Bool.true_eq_false, Bool.false_eq_true, decide_true, decide_false, decide_eq_true_eq, decide_eq_false_iff_not, ne_eq, not_true_eq_false, not_false_eq_true, Bool.not_eq_true', Bool.not_eq_false', beq_self_eq_true, Bool.not_true, Bool.not_false, List.getElem?_toArray, List.getElem?_cons_zero, List.getElem?_cons_succ, h0, h1, h5]
    refine ⟨fun e => ?_, fun e => ?_⟩
    · obtain ⟨ad, d, rfl, hd, hp, _⟩ := (h.mono he).at (i := i) (by omega)
      obtain ⟨ad', d', rfl, hd', hp', _⟩ := (h'.mono he).at (i := i) (by omega)
      have hp : A'.part (ad.add (i * 4)) 4 = some d := hp
      have hp' : A'.part (ad'.add (i * 4)) 4 = some d' := hp'
      simp (disch := omega) only [↓stp, vls, inf, frs, mark_eq, ↓reduceIte, Nat.reduceEqDiff, ite_tt, ite_ff, eq_self, and_true, true_and, and_self, implies_true, Bool.true_eq_false, Bool.false_eq_true, decide_true, decide_false, decide_eq_true_eq, decide_eq_false_iff_not, ne_eq, not_true_eq_false, not_false_eq_true, Bool.not_eq_true', Bool.not_eq_false', beq_self_eq_true, Bool.not_true, Bool.not_false, List.getElem?_toArray, List.getElem?_cons_zero, List.getElem?_cons_succ, h0, h1, h5]
      refine adraw_items [.q 0, .q 1, .q 2, .l 3 false, .q 4, .q 5, .q 6, .l 7 false, .c 8 [], .q 9] (by kernel_rfl) (by kernel_rfl) ?_
      simp (disch := omega) only [↓stp, ↓pln, plv, nilOk, Nat.reduceBEq, Bool.or_false, Bool.or_true, Bool.false_or, Bool.true_or, vls, inf, frs, mark_eq, ↓reduceIte, Nat.reduceEqDiff, ite_tt, ite_ff, eq_self, and_true, true_and, and_self, implies_true, Bool.true_eq_false, Bool.false_eq_true, decide_true, decide_false, decide_eq_true_eq, decide_eq_false_iff_not, ne_eq, not_true_eq_false, not_false_eq_true, Bool.not_eq_true', Bool.not_eq_false', beq_self_eq_true, Bool.not_true, Bool.not_false, List.getElem?_toArray, List.getElem?_cons_zero, List.getElem?_cons_succ, h0, h1, h5, hp, hp']
      refine (eqTest_c A' d d' xs[i] ys[i] hd hd').mono ?_
      rintro _ A1 ⟨rfl, he1⟩
      simp (disch := omega) only [↓stp, ↓pln, plv, nilOk, Nat.reduceBEq, Bool.or_false, Bool.or_true, Bool.false_or, Bool.true_or, vls, inf, frs, mark_eq, ↓reduceIte, Nat.reduceEqDiff, ite_tt, ite_ff, eq_self, and_true, true_and, and_self, implies_true, Bool.true_eq_false, Bool.false_eq_true, decide_true, decide_false, decide_eq_true_eq, decide_eq_false_iff_not, ne_eq, not_true_eq_false, not_false_eq_true, Bool.not_eq_true', Bool.not_eq_false', beq_self_eq_true, Bool.not_true, Bool.not_false, List.getElem?_toArray, List.getElem?_cons_zero, List.getElem?_cons_succ, h0, h1, h5]
      refine ⟨fun e1 => ?_, fun e1 => ?_⟩ <;> simp (disch := omega) only [↓stp, vls, inf, frs, mark_eq, ↓reduceIte, Nat.reduceEqDiff, ite_tt, ite_ff, eq_self, and_true, true_and, and_self, implies_true, Bool.true_eq_false, Bool.false_eq_true, decide_true, decide_false, decide_eq_true_eq, decide_eq_false_iff_not, ne_eq, not_true_eq_false, not_false_eq_true, Bool.not_eq_true', Bool.not_eq_false', beq_self_eq_true, Bool.not_true, Bool.not_false, List.getElem?_toArray, List.getElem?_cons_zero, List.getElem?_cons_succ, h0, h1, h5]
      · have : xs ≠ ys := fun he => e1 (by simp only [he])
        exact ⟨by simp [this], he.trans he1⟩
      · refine ⟨_, by omega, i + 1, by omega, rfl, he.trans he1, rfl, ?_⟩
        rw [List.take_succ_eq_append_getElem (by omega), List.take_succ_eq_append_getElem (by omega), hn]
        have : xs[i] = ys[i] := by simpa using e1
        rw [this]
    · rw [List.take_of_length_le (by omega), List.take_of_length_le (by omega)] at hn
      simp (disch := omega) only [↓stp, vls, inf, frs, mark_eq, ↓reduceIte, Nat.reduceEqDiff, ite_tt, ite_ff, eq_self, and_true, true_and, and_self, implies_true, Bool.true_eq_false, Bool.false_eq_true, decide_true, decide_false, decide_eq_true_eq, decide_eq_false_iff_not, ne_eq, not_true_eq_false, not_false_eq_true, Bool.not_eq_true', Bool.not_eq_false', beq_self_eq_true, Bool.not_true, Bool.not_false, List.getElem?_toArray, List.getElem?_cons_zero, List.getElem?_cons_succ, h0, h1, h5, hn]
      exact he

end Go.Proofs.Ytggklaimbklefaa
