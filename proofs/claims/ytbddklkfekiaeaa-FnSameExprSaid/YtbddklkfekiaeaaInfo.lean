/- Closed facts of this seat: layouts of types, and which functions have bodies. -/
import Derived.Test.YtbddklkfekiaeaaProg
import Derived.Test.YtbddklkfekiaeaaFw6
import Derived.KernelRfl
set_option maxRecDepth 100000
namespace Go.Proofs.Ytbddklkfekiaeaa

theorem ld3 {A : View} (a : Addr) : A.loadv Try.prog 3 a = A.cell a := loadv_cell (n := 1) (by kernel_rfl) a
theorem ld4 {A : View} (a : Addr) : A.loadv Try.prog 4 a = A.cell a := loadv_cell (n := 1) (by kernel_rfl) a
theorem ld5 {A : View} (a : Addr) : A.loadv Try.prog 5 a = A.cell a := loadv_cell (n := 1) (by kernel_rfl) a
theorem ld9 {A : View} (a : Addr) : A.loadv Try.prog 9 a = A.cell a := loadv_cell (n := 1) (by kernel_rfl) a
theorem ld22 {A : View} (a : Addr) : A.loadv Try.prog 22 a = A.cell a := loadv_cell (n := 1) (by kernel_rfl) a
theorem ld25 {A : View} (a : Addr) : A.loadv Try.prog 25 a = A.cell a := loadv_cell (n := 1) (by kernel_rfl) a
theorem ld34 {A : View} (a : Addr) : A.loadv Try.prog 34 a = (A.part a 4).map fun cs => .agg cs.toArray := loadv_agg (by kernel_rfl) a
theorem ld62 {A : View} (a : Addr) : A.loadv Try.prog 62 a = A.cell a := loadv_cell (n := 1) (by kernel_rfl) a
theorem ld64 {A : View} (a : Addr) : A.loadv Try.prog 64 a = (A.part a 2).map fun cs => .agg cs.toArray := loadv_agg (by kernel_rfl) a
theorem ld75 {A : View} (a : Addr) : A.loadv Try.prog 75 a = (A.part a 4).map fun cs => .agg cs.toArray := loadv_agg (by kernel_rfl) a
theorem sz3 : (Try.prog.info? 3).map (·.size) = some 1 := by kernel_rfl
theorem sz4 : (Try.prog.info? 4).map (·.size) = some 1 := by kernel_rfl
theorem sz9 : (Try.prog.info? 9).map (·.size) = some 1 := by kernel_rfl
theorem sz25 : (Try.prog.info? 25).map (·.size) = some 1 := by kernel_rfl
theorem sz34 : (Try.prog.info? 34).map (·.size) = some 4 := by kernel_rfl
theorem sz64 : (Try.prog.info? 64).map (·.size) = some 2 := by kernel_rfl
theorem fa34_0 {A : View} {K : Value → View → Prop} (a : Addr) : afaddr Try.prog 34 (.pointer (some a)) 0 A K = K (.pointer (some (a.add 0))) A := afaddr_at (by kernel_rfl) a
theorem fa34_1 {A : View} {K : Value → View → Prop} (a : Addr) : afaddr Try.prog 34 (.pointer (some a)) 1 A K = K (.pointer (some (a.add 1))) A := afaddr_at (by kernel_rfl) a
theorem fa34_2 {A : View} {K : Value → View → Prop} (a : Addr) : afaddr Try.prog 34 (.pointer (some a)) 2 A K = K (.pointer (some (a.add 2))) A := afaddr_at (by kernel_rfl) a
theorem fa34_3 {A : View} {K : Value → View → Prop} (a : Addr) : afaddr Try.prog 34 (.pointer (some a)) 3 A K = K (.pointer (some (a.add 3))) A := afaddr_at (by kernel_rfl) a
theorem fa64_0 {A : View} {K : Value → View → Prop} (a : Addr) : afaddr Try.prog 64 (.pointer (some a)) 0 A K = K (.pointer (some (a.add 0))) A := afaddr_at (by kernel_rfl) a
theorem fa64_1 {A : View} {K : Value → View → Prop} (a : Addr) : afaddr Try.prog 64 (.pointer (some a)) 1 A K = K (.pointer (some (a.add 1))) A := afaddr_at (by kernel_rfl) a
theorem fa75_0 {A : View} {K : Value → View → Prop} (a : Addr) : afaddr Try.prog 75 (.pointer (some a)) 0 A K = K (.pointer (some (a.add 0))) A := afaddr_at (by kernel_rfl) a
theorem fa75_1 {A : View} {K : Value → View → Prop} (a : Addr) : afaddr Try.prog 75 (.pointer (some a)) 1 A K = K (.pointer (some (a.add 1))) A := afaddr_at (by kernel_rfl) a
theorem fa75_2 {A : View} {K : Value → View → Prop} (a : Addr) : afaddr Try.prog 75 (.pointer (some a)) 2 A K = K (.pointer (some (a.add 2))) A := afaddr_at (by kernel_rfl) a
theorem fa75_3 {A : View} {K : Value → View → Prop} (a : Addr) : afaddr Try.prog 75 (.pointer (some a)) 3 A K = K (.pointer (some (a.add 3))) A := afaddr_at (by kernel_rfl) a
theorem fa86_0 {A : View} {K : Value → View → Prop} (a : Addr) : afaddr Try.prog 86 (.pointer (some a)) 0 A K = K (.pointer (some (a.add 0))) A := afaddr_at (by kernel_rfl) a
theorem fa86_1 {A : View} {K : Value → View → Prop} (a : Addr) : afaddr Try.prog 86 (.pointer (some a)) 1 A K = K (.pointer (some (a.add 1))) A := afaddr_at (by kernel_rfl) a
theorem fa97_0 {A : View} {K : Value → View → Prop} (a : Addr) : afaddr Try.prog 97 (.pointer (some a)) 0 A K = K (.pointer (some (a.add 0))) A := afaddr_at (by kernel_rfl) a
theorem fa97_1 {A : View} {K : Value → View → Prop} (a : Addr) : afaddr Try.prog 97 (.pointer (some a)) 1 A K = K (.pointer (some (a.add 1))) A := afaddr_at (by kernel_rfl) a
theorem fa97_2 {A : View} {K : Value → View → Prop} (a : Addr) : afaddr Try.prog 97 (.pointer (some a)) 2 A K = K (.pointer (some (a.add 2))) A := afaddr_at (by kernel_rfl) a
theorem fa97_3 {A : View} {K : Value → View → Prop} (a : Addr) : afaddr Try.prog 97 (.pointer (some a)) 3 A K = K (.pointer (some (a.add 6))) A := afaddr_at (by kernel_rfl) a
theorem ia22 {A : View} {K : Value → View → Prop} {a : Addr} {n c : Nat} {k : IntKind} {i : Int} (h0 : 0 ≤ i) (h1 : i < n) : aiaddr Try.prog 22 (.slice (some a) n c) (.int k i) A K = K (.pointer (some (a.add (i.toNat * 1)))) A := aiaddr_at (by kernel_rfl) h0 h1
theorem ia23 {A : View} {K : Value → View → Prop} {a : Addr} {n c : Nat} {k : IntKind} {i : Int} (h0 : 0 ≤ i) (h1 : i < n) : aiaddr Try.prog 23 (.slice (some a) n c) (.int k i) A K = K (.pointer (some (a.add (i.toNat * 4)))) A := aiaddr_at (by kernel_rfl) h0 h1
theorem ia25 {A : View} {K : Value → View → Prop} {a : Addr} {n c : Nat} {k : IntKind} {i : Int} (h0 : 0 ≤ i) (h1 : i < n) : aiaddr Try.prog 25 (.slice (some a) n c) (.int k i) A K = K (.pointer (some (a.add (i.toNat * 1)))) A := aiaddr_at (by kernel_rfl) h0 h1
theorem ia43 {A : View} {K : Value → View → Prop} {a : Addr} {n c : Nat} {k : IntKind} {i : Int} (h0 : 0 ≤ i) (h1 : i < n) : aiaddr Try.prog 43 (.slice (some a) n c) (.int k i) A K = K (.pointer (some (a.add (i.toNat * 4)))) A := aiaddr_at (by kernel_rfl) h0 h1
theorem ia62 {A : View} {K : Value → View → Prop} {a : Addr} {n c : Nat} {k : IntKind} {i : Int} (h0 : 0 ≤ i) (h1 : i < n) : aiaddr Try.prog 62 (.slice (some a) n c) (.int k i) A K = K (.pointer (some (a.add (i.toNat * 2)))) A := aiaddr_at (by kernel_rfl) h0 h1
theorem ia101 {A : View} {K : Value → View → Prop} {a : Addr} {n c : Nat} {k : IntKind} {i : Int} (h0 : 0 ≤ i) (h1 : i < n) : aiaddr Try.prog 101 (.slice (some a) n c) (.int k i) A K = K (.pointer (some (a.add (i.toNat * 1)))) A := aiaddr_at (by kernel_rfl) h0 h1
theorem sl9lo {A : View} {K : Value → View → Prop} {s : ByteArray} {kl : IntKind} {lo : Int} (h0 : 0 ≤ lo) (h1 : lo ≤ s.size) : aslice Try.prog 9 (.string s) (some (.int kl lo)) none none A K = K (.string (s.extract lo.toNat s.size)) A := aslice_strlo (by kernel_rfl) h0 h1
theorem sl9hi {A : View} {K : Value → View → Prop} {s : ByteArray} {kh : IntKind} {hi : Int} (h0 : 0 ≤ hi) (h1 : hi ≤ s.size) : aslice Try.prog 9 (.string s) none (some (.int kh hi)) none A K = K (.string (s.extract 0 hi.toNat)) A := aslice_strhi (by kernel_rfl) h0 h1
theorem sl9 {A : View} {K : Value → View → Prop} {s : ByteArray} {kl kh : IntKind} {lo hi : Int} (h0 : 0 ≤ lo) (h1 : lo ≤ hi) (h2 : hi ≤ s.size) : aslice Try.prog 9 (.string s) (some (.int kl lo)) (some (.int kh hi)) none A K = K (.string (s.extract lo.toNat hi.toNat)) A := aslice_str (by kernel_rfl) h0 h1 h2
theorem sl22lo {A : View} {K : Value → View → Prop} {a : Option Addr} {n c : Nat} {kl : IntKind} {lo : Int} (h0 : 0 ≤ lo) (h1 : lo ≤ n) : aslice Try.prog 22 (.slice a n c) (some (.int kl lo)) none none A K = K (.slice (cutAddr a lo.toNat c 1) (n - lo.toNat) (c - lo.toNat)) A := aslice_lo (by kernel_rfl) h0 h1
theorem sl22hi {A : View} {K : Value → View → Prop} {a : Option Addr} {n c : Nat} {kh : IntKind} {hi : Int} (h0 : 0 ≤ hi) (h1 : hi ≤ c) : aslice Try.prog 22 (.slice a n c) none (some (.int kh hi)) none A K = K (.slice (cutAddr a 0 c 1) hi.toNat c) A := aslice_hi (by kernel_rfl) h0 h1
theorem sl22 {A : View} {K : Value → View → Prop} {a : Option Addr} {n c : Nat} {kl kh : IntKind} {lo hi : Int} (h0 : 0 ≤ lo) (h1 : lo ≤ hi) (h2 : hi ≤ c) : aslice Try.prog 22 (.slice a n c) (some (.int kl lo)) (some (.int kh hi)) none A K = K (.slice (cutAddr a lo.toNat c 1) (hi.toNat - lo.toNat) (c - lo.toNat)) A := aslice_both (by kernel_rfl) h0 h1 h2
theorem sl22hm {A : View} {K : Value → View → Prop} {a : Option Addr} {n c : Nat} {kh km : IntKind} {hi mx : Int} (h0 : 0 ≤ hi) (h1 : hi ≤ mx) (h2 : mx ≤ c) : aslice Try.prog 22 (.slice a n c) none (some (.int kh hi)) (some (.int km mx)) A K = K (.slice (cutAddr a 0 mx.toNat 1) hi.toNat mx.toNat) A := aslice_hm (by kernel_rfl) h0 h1 h2
theorem sl22lhm {A : View} {K : Value → View → Prop} {a : Option Addr} {n c : Nat} {kl kh km : IntKind} {lo hi mx : Int} (h0 : 0 ≤ lo) (h1 : lo ≤ hi) (h2 : hi ≤ mx) (h3 : mx ≤ c) : aslice Try.prog 22 (.slice a n c) (some (.int kl lo)) (some (.int kh hi)) (some (.int km mx)) A K = K (.slice (cutAddr a lo.toNat mx.toNat 1) (hi.toNat - lo.toNat) (mx.toNat - lo.toNat)) A := aslice_lhm (by kernel_rfl) h0 h1 h2 h3
theorem sl23lo {A : View} {K : Value → View → Prop} {a : Option Addr} {n c : Nat} {kl : IntKind} {lo : Int} (h0 : 0 ≤ lo) (h1 : lo ≤ n) : aslice Try.prog 23 (.slice a n c) (some (.int kl lo)) none none A K = K (.slice (cutAddr a lo.toNat c 4) (n - lo.toNat) (c - lo.toNat)) A := aslice_lo (by kernel_rfl) h0 h1
theorem sl23hi {A : View} {K : Value → View → Prop} {a : Option Addr} {n c : Nat} {kh : IntKind} {hi : Int} (h0 : 0 ≤ hi) (h1 : hi ≤ c) : aslice Try.prog 23 (.slice a n c) none (some (.int kh hi)) none A K = K (.slice (cutAddr a 0 c 4) hi.toNat c) A := aslice_hi (by kernel_rfl) h0 h1
theorem sl23 {A : View} {K : Value → View → Prop} {a : Option Addr} {n c : Nat} {kl kh : IntKind} {lo hi : Int} (h0 : 0 ≤ lo) (h1 : lo ≤ hi) (h2 : hi ≤ c) : aslice Try.prog 23 (.slice a n c) (some (.int kl lo)) (some (.int kh hi)) none A K = K (.slice (cutAddr a lo.toNat c 4) (hi.toNat - lo.toNat) (c - lo.toNat)) A := aslice_both (by kernel_rfl) h0 h1 h2
theorem sl23hm {A : View} {K : Value → View → Prop} {a : Option Addr} {n c : Nat} {kh km : IntKind} {hi mx : Int} (h0 : 0 ≤ hi) (h1 : hi ≤ mx) (h2 : mx ≤ c) : aslice Try.prog 23 (.slice a n c) none (some (.int kh hi)) (some (.int km mx)) A K = K (.slice (cutAddr a 0 mx.toNat 4) hi.toNat mx.toNat) A := aslice_hm (by kernel_rfl) h0 h1 h2
theorem sl23lhm {A : View} {K : Value → View → Prop} {a : Option Addr} {n c : Nat} {kl kh km : IntKind} {lo hi mx : Int} (h0 : 0 ≤ lo) (h1 : lo ≤ hi) (h2 : hi ≤ mx) (h3 : mx ≤ c) : aslice Try.prog 23 (.slice a n c) (some (.int kl lo)) (some (.int kh hi)) (some (.int km mx)) A K = K (.slice (cutAddr a lo.toNat mx.toNat 4) (hi.toNat - lo.toNat) (mx.toNat - lo.toNat)) A := aslice_lhm (by kernel_rfl) h0 h1 h2 h3
theorem sl25lo {A : View} {K : Value → View → Prop} {a : Option Addr} {n c : Nat} {kl : IntKind} {lo : Int} (h0 : 0 ≤ lo) (h1 : lo ≤ n) : aslice Try.prog 25 (.slice a n c) (some (.int kl lo)) none none A K = K (.slice (cutAddr a lo.toNat c 1) (n - lo.toNat) (c - lo.toNat)) A := aslice_lo (by kernel_rfl) h0 h1
theorem sl25hi {A : View} {K : Value → View → Prop} {a : Option Addr} {n c : Nat} {kh : IntKind} {hi : Int} (h0 : 0 ≤ hi) (h1 : hi ≤ c) : aslice Try.prog 25 (.slice a n c) none (some (.int kh hi)) none A K = K (.slice (cutAddr a 0 c 1) hi.toNat c) A := aslice_hi (by kernel_rfl) h0 h1
theorem sl25 {A : View} {K : Value → View → Prop} {a : Option Addr} {n c : Nat} {kl kh : IntKind} {lo hi : Int} (h0 : 0 ≤ lo) (h1 : lo ≤ hi) (h2 : hi ≤ c) : aslice Try.prog 25 (.slice a n c) (some (.int kl lo)) (some (.int kh hi)) none A K = K (.slice (cutAddr a lo.toNat c 1) (hi.toNat - lo.toNat) (c - lo.toNat)) A := aslice_both (by kernel_rfl) h0 h1 h2
theorem sl25hm {A : View} {K : Value → View → Prop} {a : Option Addr} {n c : Nat} {kh km : IntKind} {hi mx : Int} (h0 : 0 ≤ hi) (h1 : hi ≤ mx) (h2 : mx ≤ c) : aslice Try.prog 25 (.slice a n c) none (some (.int kh hi)) (some (.int km mx)) A K = K (.slice (cutAddr a 0 mx.toNat 1) hi.toNat mx.toNat) A := aslice_hm (by kernel_rfl) h0 h1 h2
theorem sl25lhm {A : View} {K : Value → View → Prop} {a : Option Addr} {n c : Nat} {kl kh km : IntKind} {lo hi mx : Int} (h0 : 0 ≤ lo) (h1 : lo ≤ hi) (h2 : hi ≤ mx) (h3 : mx ≤ c) : aslice Try.prog 25 (.slice a n c) (some (.int kl lo)) (some (.int kh hi)) (some (.int km mx)) A K = K (.slice (cutAddr a lo.toNat mx.toNat 1) (hi.toNat - lo.toNat) (mx.toNat - lo.toNat)) A := aslice_lhm (by kernel_rfl) h0 h1 h2 h3
theorem ix9 {A : View} {K : Value → View → Prop} {s : ByteArray} {k : IntKind} {i : Int} (h0 : 0 ≤ i) (h1 : i < s.size) : aindex Try.prog 9 (.string s) (.int k i) A K = K (.int .u8 (sbyte s i.toNat)) A := aindex_at (by kernel_rfl) h0 h1
theorem al34 {A : View} {K : Value → View → Prop} : aalloc Try.prog 34 A K = ∀ b, A b = none → K (.pointer (some ⟨b, 0, none⟩)) (A.set b ⟨34, [(.string ⟨#[]⟩), (.string ⟨#[]⟩), (.slice none 0 0), (.slice none 0 0)], 4, true⟩) := aalloc_at (by kernel_rfl)
theorem zc34 : zeroCells? Try.prog 34 = some [(.string ⟨#[]⟩), (.string ⟨#[]⟩), (.slice none 0 0), (.slice none 0 0)] := by kernel_rfl
theorem al64 {A : View} {K : Value → View → Prop} : aalloc Try.prog 64 A K = ∀ b, A b = none → K (.pointer (some ⟨b, 0, none⟩)) (A.set b ⟨64, [(.string ⟨#[]⟩), (.slice none 0 0)], 2, true⟩) := aalloc_at (by kernel_rfl)
theorem zc64 : zeroCells? Try.prog 64 = some [(.string ⟨#[]⟩), (.slice none 0 0)] := by kernel_rfl
theorem ln9 {A : View} {K : Value → View → Prop} (ty : TypeId) (cs : Array Bool) (s : ByteArray) : abuiltin Try.prog .len #[9] ty cs #[.string s] A K = K (.int .i64 s.size) A := alen_string (by kernel_rfl) ty cs s
theorem ln22 {A : View} {K : Value → View → Prop} (ty : TypeId) (cs : Array Bool) (a : Option Addr) (n c : Nat) : abuiltin Try.prog .len #[22] ty cs #[.slice a n c] A K = K (.int .i64 n) A := alen_slice (by kernel_rfl) ty cs a n c
theorem ln23 {A : View} {K : Value → View → Prop} (ty : TypeId) (cs : Array Bool) (a : Option Addr) (n c : Nat) : abuiltin Try.prog .len #[23] ty cs #[.slice a n c] A K = K (.int .i64 n) A := alen_slice (by kernel_rfl) ty cs a n c
theorem ln25 {A : View} {K : Value → View → Prop} (ty : TypeId) (cs : Array Bool) (a : Option Addr) (n c : Nat) : abuiltin Try.prog .len #[25] ty cs #[.slice a n c] A K = K (.int .i64 n) A := alen_slice (by kernel_rfl) ty cs a n c
theorem ln43 {A : View} {K : Value → View → Prop} (ty : TypeId) (cs : Array Bool) (a : Option Addr) (n c : Nat) : abuiltin Try.prog .len #[43] ty cs #[.slice a n c] A K = K (.int .i64 n) A := alen_slice (by kernel_rfl) ty cs a n c
theorem ln62 {A : View} {K : Value → View → Prop} (ty : TypeId) (cs : Array Bool) (a : Option Addr) (n c : Nat) : abuiltin Try.prog .len #[62] ty cs #[.slice a n c] A K = K (.int .i64 n) A := alen_slice (by kernel_rfl) ty cs a n c
theorem ln101 {A : View} {K : Value → View → Prop} (ty : TypeId) (cs : Array Bool) (a : Option Addr) (n c : Nat) : abuiltin Try.prog .len #[101] ty cs #[.slice a n c] A K = K (.int .i64 n) A := alen_slice (by kernel_rfl) ty cs a n c
theorem eq4 {A : View} {K : Value → View → Prop} (x y : Operand) (a b : Bool) : abin Try.prog .eql 4 x y (.bool a) (.bool b) A K = K (.bool (a == b)) A := abin_eqb (by kernel_rfl) x y a b
theorem ne4 {A : View} {K : Value → View → Prop} (x y : Operand) (a b : Bool) : abin Try.prog .neq 4 x y (.bool a) (.bool b) A K = K (.bool (!(a == b))) A := abin_neb (by kernel_rfl) x y a b
theorem eqn25 {A : View} {K : Value → View → Prop} (x y : Operand) (n c : Nat) : abin Try.prog .eql 25 x y (.slice none n c) (.slice none 0 0) A K = K (.bool (true)) A := (abin_slice_nil (by kernel_rfl) x y none none n c 0 0 (.inl rfl)).1
theorem eqs25 {A : View} {K : Value → View → Prop} (x y : Operand) (a : Addr) (n c : Nat) : abin Try.prog .eql 25 x y (.slice (some a) n c) (.slice none 0 0) A K = K (.bool (false)) A := (abin_slice_nil (by kernel_rfl) x y (some a) none n c 0 0 (.inr rfl)).1
theorem nen25 {A : View} {K : Value → View → Prop} (x y : Operand) (n c : Nat) : abin Try.prog .neq 25 x y (.slice none n c) (.slice none 0 0) A K = K (.bool (!true)) A := (abin_slice_nil (by kernel_rfl) x y none none n c 0 0 (.inl rfl)).2
theorem nes25 {A : View} {K : Value → View → Prop} (x y : Operand) (a : Addr) (n c : Nat) : abin Try.prog .neq 25 x y (.slice (some a) n c) (.slice none 0 0) A K = K (.bool (!false)) A := (abin_slice_nil (by kernel_rfl) x y (some a) none n c 0 0 (.inr rfl)).2
theorem bt34 (ps : List (Nat × Value)) : Try.prog.built 34 ps = Instr.fill ((#[(0, 1), (1, 1), (2, 1), (3, 1)] : Array (Nat × Nat))[·]?) #[(.string ⟨#[]⟩), (.string ⟨#[]⟩), (.slice none 0 0), (.slice none 0 0)] ps := by kernel_rfl
theorem bt64 (ps : List (Nat × Value)) : Try.prog.built 64 ps = Instr.fill ((#[(0, 1), (1, 1)] : Array (Nat × Nat))[·]?) #[(.string ⟨#[]⟩), (.slice none 0 0)] ps := by kernel_rfl
theorem bt86 (ps : List (Nat × Value)) : Try.prog.built 86 ps = Instr.fill ((#[(0, 1), (1, 1)] : Array (Nat × Nat))[·]?) #[(.slice none 0 0), (.int .i64 0)] ps := by kernel_rfl
theorem bt97 (ps : List (Nat × Value)) : Try.prog.built 97 ps = Instr.fill ((#[(0, 1), (1, 1), (2, 4), (6, 1)] : Array (Nat × Nat))[·]?) #[(.string ⟨#[]⟩), (.int .i64 0), (.string ⟨#[]⟩), (.string ⟨#[]⟩), (.slice none 0 0), (.slice none 0 0), (.bool false)] ps := by kernel_rfl
theorem bu34_0 (s0 : ByteArray) : Try.prog.built 34 [(0, .string s0)] = some #[.string s0, (.string ⟨#[]⟩), (.slice none 0 0), (.slice none 0 0)] := by rw [bt34]; rfl
theorem bu34_0_1 (s0 : ByteArray) (s1 : ByteArray) : Try.prog.built 34 [(0, .string s0), (1, .string s1)] = some #[.string s0, .string s1, (.slice none 0 0), (.slice none 0 0)] := by rw [bt34]; rfl
theorem bu34_0_1_2 (s0 : ByteArray) (s1 : ByteArray) (a2 : Option Addr) (m2 c2 : Nat) : Try.prog.built 34 [(0, .string s0), (1, .string s1), (2, .slice a2 m2 c2)] = some #[.string s0, .string s1, .slice a2 m2 c2, (.slice none 0 0)] := by rw [bt34]; rfl
theorem bu34_0_1_2_3 (s0 : ByteArray) (s1 : ByteArray) (a2 : Option Addr) (m2 c2 : Nat) (a3 : Option Addr) (m3 c3 : Nat) : Try.prog.built 34 [(0, .string s0), (1, .string s1), (2, .slice a2 m2 c2), (3, .slice a3 m3 c3)] = some #[.string s0, .string s1, .slice a2 m2 c2, .slice a3 m3 c3] := by rw [bt34]; rfl
theorem bu34_0_2 (s0 : ByteArray) (a2 : Option Addr) (m2 c2 : Nat) : Try.prog.built 34 [(0, .string s0), (2, .slice a2 m2 c2)] = some #[.string s0, (.string ⟨#[]⟩), .slice a2 m2 c2, (.slice none 0 0)] := by rw [bt34]; rfl
theorem bu64_0 (s0 : ByteArray) : Try.prog.built 64 [(0, .string s0)] = some #[.string s0, (.slice none 0 0)] := by rw [bt64]; rfl
theorem bu64_0_1 (s0 : ByteArray) (a1 : Option Addr) (m1 c1 : Nat) : Try.prog.built 64 [(0, .string s0), (1, .slice a1 m1 c1)] = some #[.string s0, .slice a1 m1 c1] := by rw [bt64]; rfl
theorem bu86_0 (a0 : Option Addr) (m0 c0 : Nat) : Try.prog.built 86 [(0, .slice a0 m0 c0)] = some #[.slice a0 m0 c0, (.int .i64 0)] := by rw [bt86]; rfl
theorem ap23_23 : appT Try.prog 23 23 = some (34, 4, 80) := by kernel_rfl
theorem ap25_25 : appT Try.prog 25 25 = some (9, 1, 16) := by kernel_rfl
theorem li22 : litT Try.prog 22 = some (5, 1) := by kernel_rfl
theorem li23 : litT Try.prog 23 = some (34, 4) := by kernel_rfl
theorem li25 : litT Try.prog 25 = some (9, 1) := by kernel_rfl
theorem li62 : litT Try.prog 62 = some (64, 2) := by kernel_rfl
theorem li101 : litT Try.prog 101 = some (3, 1) := by kernel_rfl
theorem mk23 : makeT Try.prog 23 = some (34, 80, [(.string ⟨#[]⟩), (.string ⟨#[]⟩), (.slice none 0 0), (.slice none 0 0)]) := by kernel_rfl
theorem mk25 : makeT Try.prog 25 = some (9, 16, [(.string ⟨#[]⟩)]) := by kernel_rfl
theorem ca13 {A : View} {K : Value → View → Prop} (first cap vs : Array Value) : acall Try.prog (.func (.func 13) first cap) vs A K = ACalls Try.prog 13 (first ++ vs ++ cap) A K := acall_at (by kernel_rfl) first cap vs
theorem ca14 {A : View} {K : Value → View → Prop} (first cap vs : Array Value) : acall Try.prog (.func (.func 14) first cap) vs A K = ACalls Try.prog 14 (first ++ vs ++ cap) A K := acall_at (by kernel_rfl) first cap vs
theorem ca15 {A : View} {K : Value → View → Prop} (first cap vs : Array Value) : acall Try.prog (.func (.func 15) first cap) vs A K = ACalls Try.prog 15 (first ++ vs ++ cap) A K := acall_at (by kernel_rfl) first cap vs
theorem ca16 {A : View} {K : Value → View → Prop} (first cap vs : Array Value) : acall Try.prog (.func (.func 16) first cap) vs A K = ACalls Try.prog 16 (first ++ vs ++ cap) A K := acall_at (by kernel_rfl) first cap vs
theorem ca17 {A : View} {K : Value → View → Prop} (first cap vs : Array Value) : acall Try.prog (.func (.func 17) first cap) vs A K = ACalls Try.prog 17 (first ++ vs ++ cap) A K := acall_at (by kernel_rfl) first cap vs
theorem ca18 {A : View} {K : Value → View → Prop} (first cap vs : Array Value) : acall Try.prog (.func (.func 18) first cap) vs A K = ACalls Try.prog 18 (first ++ vs ++ cap) A K := acall_at (by kernel_rfl) first cap vs
theorem ca19 {A : View} {K : Value → View → Prop} (first cap vs : Array Value) : acall Try.prog (.func (.func 19) first cap) vs A K = ACalls Try.prog 19 (first ++ vs ++ cap) A K := acall_at (by kernel_rfl) first cap vs
theorem ca20 {A : View} {K : Value → View → Prop} (first cap vs : Array Value) : acall Try.prog (.func (.func 20) first cap) vs A K = ACalls Try.prog 20 (first ++ vs ++ cap) A K := acall_at (by kernel_rfl) first cap vs
theorem ca21 {A : View} {K : Value → View → Prop} (first cap vs : Array Value) : acall Try.prog (.func (.func 21) first cap) vs A K = ACalls Try.prog 21 (first ++ vs ++ cap) A K := acall_at (by kernel_rfl) first cap vs
theorem ca22 {A : View} {K : Value → View → Prop} (first cap vs : Array Value) : acall Try.prog (.func (.func 22) first cap) vs A K = ACalls Try.prog 22 (first ++ vs ++ cap) A K := acall_at (by kernel_rfl) first cap vs
theorem ca23 {A : View} {K : Value → View → Prop} (first cap vs : Array Value) : acall Try.prog (.func (.func 23) first cap) vs A K = ACalls Try.prog 23 (first ++ vs ++ cap) A K := acall_at (by kernel_rfl) first cap vs
theorem ca24 {A : View} {K : Value → View → Prop} (first cap vs : Array Value) : acall Try.prog (.func (.func 24) first cap) vs A K = ACalls Try.prog 24 (first ++ vs ++ cap) A K := acall_at (by kernel_rfl) first cap vs
theorem ca25 {A : View} {K : Value → View → Prop} (first cap vs : Array Value) : acall Try.prog (.func (.func 25) first cap) vs A K = ACalls Try.prog 25 (first ++ vs ++ cap) A K := acall_at (by kernel_rfl) first cap vs
theorem ca26 {A : View} {K : Value → View → Prop} (first cap vs : Array Value) : acall Try.prog (.func (.func 26) first cap) vs A K = ACalls Try.prog 26 (first ++ vs ++ cap) A K := acall_at (by kernel_rfl) first cap vs
theorem ca27 {A : View} {K : Value → View → Prop} (first cap vs : Array Value) : acall Try.prog (.func (.func 27) first cap) vs A K = ACalls Try.prog 27 (first ++ vs ++ cap) A K := acall_at (by kernel_rfl) first cap vs
theorem ca28 {A : View} {K : Value → View → Prop} (first cap vs : Array Value) : acall Try.prog (.func (.func 28) first cap) vs A K = ACalls Try.prog 28 (first ++ vs ++ cap) A K := acall_at (by kernel_rfl) first cap vs
theorem ca29 {A : View} {K : Value → View → Prop} (first cap vs : Array Value) : acall Try.prog (.func (.func 29) first cap) vs A K = ACalls Try.prog 29 (first ++ vs ++ cap) A K := acall_at (by kernel_rfl) first cap vs
theorem ca30 {A : View} {K : Value → View → Prop} (first cap vs : Array Value) : acall Try.prog (.func (.func 30) first cap) vs A K = ACalls Try.prog 30 (first ++ vs ++ cap) A K := acall_at (by kernel_rfl) first cap vs
theorem ca31 {A : View} {K : Value → View → Prop} (first cap vs : Array Value) : acall Try.prog (.func (.func 31) first cap) vs A K = ACalls Try.prog 31 (first ++ vs ++ cap) A K := acall_at (by kernel_rfl) first cap vs
theorem ca32 {A : View} {K : Value → View → Prop} (first cap vs : Array Value) : acall Try.prog (.func (.func 32) first cap) vs A K = ACalls Try.prog 32 (first ++ vs ++ cap) A K := acall_at (by kernel_rfl) first cap vs
theorem ca33 {A : View} {K : Value → View → Prop} (first cap vs : Array Value) : acall Try.prog (.func (.func 33) first cap) vs A K = ACalls Try.prog 33 (first ++ vs ++ cap) A K := acall_at (by kernel_rfl) first cap vs
theorem ca34 {A : View} {K : Value → View → Prop} (first cap vs : Array Value) : acall Try.prog (.func (.func 34) first cap) vs A K = ACalls Try.prog 34 (first ++ vs ++ cap) A K := acall_at (by kernel_rfl) first cap vs
theorem ca35 {A : View} {K : Value → View → Prop} (first cap vs : Array Value) : acall Try.prog (.func (.func 35) first cap) vs A K = ACalls Try.prog 35 (first ++ vs ++ cap) A K := acall_at (by kernel_rfl) first cap vs
theorem ca36 {A : View} {K : Value → View → Prop} (first cap vs : Array Value) : acall Try.prog (.func (.func 36) first cap) vs A K = ACalls Try.prog 36 (first ++ vs ++ cap) A K := acall_at (by kernel_rfl) first cap vs
theorem ca37 {A : View} {K : Value → View → Prop} (first cap vs : Array Value) : acall Try.prog (.func (.func 37) first cap) vs A K = ACalls Try.prog 37 (first ++ vs ++ cap) A K := acall_at (by kernel_rfl) first cap vs
theorem ca38 {A : View} {K : Value → View → Prop} (first cap vs : Array Value) : acall Try.prog (.func (.func 38) first cap) vs A K = ACalls Try.prog 38 (first ++ vs ++ cap) A K := acall_at (by kernel_rfl) first cap vs
theorem ca39 {A : View} {K : Value → View → Prop} (first cap vs : Array Value) : acall Try.prog (.func (.func 39) first cap) vs A K = ACalls Try.prog 39 (first ++ vs ++ cap) A K := acall_at (by kernel_rfl) first cap vs
theorem ca40 {A : View} {K : Value → View → Prop} (first cap vs : Array Value) : acall Try.prog (.func (.func 40) first cap) vs A K = ACalls Try.prog 40 (first ++ vs ++ cap) A K := acall_at (by kernel_rfl) first cap vs
theorem ca41 {A : View} {K : Value → View → Prop} (first cap vs : Array Value) : acall Try.prog (.func (.func 41) first cap) vs A K = ACalls Try.prog 41 (first ++ vs ++ cap) A K := acall_at (by kernel_rfl) first cap vs
theorem ca42 {A : View} {K : Value → View → Prop} (first cap vs : Array Value) : acall Try.prog (.func (.func 42) first cap) vs A K = ACalls Try.prog 42 (first ++ vs ++ cap) A K := acall_at (by kernel_rfl) first cap vs
theorem ca43 {A : View} {K : Value → View → Prop} (first cap vs : Array Value) : acall Try.prog (.func (.func 43) first cap) vs A K = ACalls Try.prog 43 (first ++ vs ++ cap) A K := acall_at (by kernel_rfl) first cap vs
theorem ca44 {A : View} {K : Value → View → Prop} (first cap vs : Array Value) : acall Try.prog (.func (.func 44) first cap) vs A K = ACalls Try.prog 44 (first ++ vs ++ cap) A K := acall_at (by kernel_rfl) first cap vs
theorem ca45 {A : View} {K : Value → View → Prop} (first cap vs : Array Value) : acall Try.prog (.func (.func 45) first cap) vs A K = ACalls Try.prog 45 (first ++ vs ++ cap) A K := acall_at (by kernel_rfl) first cap vs
theorem ca46 {A : View} {K : Value → View → Prop} (first cap vs : Array Value) : acall Try.prog (.func (.func 46) first cap) vs A K = ACalls Try.prog 46 (first ++ vs ++ cap) A K := acall_at (by kernel_rfl) first cap vs
theorem ca47 {A : View} {K : Value → View → Prop} (first cap vs : Array Value) : acall Try.prog (.func (.func 47) first cap) vs A K = ACalls Try.prog 47 (first ++ vs ++ cap) A K := acall_at (by kernel_rfl) first cap vs
theorem ca48 {A : View} {K : Value → View → Prop} (first cap vs : Array Value) : acall Try.prog (.func (.func 48) first cap) vs A K = ACalls Try.prog 48 (first ++ vs ++ cap) A K := acall_at (by kernel_rfl) first cap vs
theorem ca49 {A : View} {K : Value → View → Prop} (first cap vs : Array Value) : acall Try.prog (.func (.func 49) first cap) vs A K = ACalls Try.prog 49 (first ++ vs ++ cap) A K := acall_at (by kernel_rfl) first cap vs
theorem ca50 {A : View} {K : Value → View → Prop} (first cap vs : Array Value) : acall Try.prog (.func (.func 50) first cap) vs A K = ACalls Try.prog 50 (first ++ vs ++ cap) A K := acall_at (by kernel_rfl) first cap vs
theorem ca51 {A : View} {K : Value → View → Prop} (first cap vs : Array Value) : acall Try.prog (.func (.func 51) first cap) vs A K = ACalls Try.prog 51 (first ++ vs ++ cap) A K := acall_at (by kernel_rfl) first cap vs
theorem ca52 {A : View} {K : Value → View → Prop} (first cap vs : Array Value) : acall Try.prog (.func (.func 52) first cap) vs A K = ACalls Try.prog 52 (first ++ vs ++ cap) A K := acall_at (by kernel_rfl) first cap vs
theorem ca53 {A : View} {K : Value → View → Prop} (first cap vs : Array Value) : acall Try.prog (.func (.func 53) first cap) vs A K = ACalls Try.prog 53 (first ++ vs ++ cap) A K := acall_at (by kernel_rfl) first cap vs
theorem ca54 {A : View} {K : Value → View → Prop} (first cap vs : Array Value) : acall Try.prog (.func (.func 54) first cap) vs A K = ACalls Try.prog 54 (first ++ vs ++ cap) A K := acall_at (by kernel_rfl) first cap vs
theorem ca55 {A : View} {K : Value → View → Prop} (first cap vs : Array Value) : acall Try.prog (.func (.func 55) first cap) vs A K = ACalls Try.prog 55 (first ++ vs ++ cap) A K := acall_at (by kernel_rfl) first cap vs
theorem ca56 {A : View} {K : Value → View → Prop} (first cap vs : Array Value) : acall Try.prog (.func (.func 56) first cap) vs A K = ACalls Try.prog 56 (first ++ vs ++ cap) A K := acall_at (by kernel_rfl) first cap vs
theorem ca57 {A : View} {K : Value → View → Prop} (first cap vs : Array Value) : acall Try.prog (.func (.func 57) first cap) vs A K = ACalls Try.prog 57 (first ++ vs ++ cap) A K := acall_at (by kernel_rfl) first cap vs
theorem ca58 {A : View} {K : Value → View → Prop} (first cap vs : Array Value) : acall Try.prog (.func (.func 58) first cap) vs A K = ACalls Try.prog 58 (first ++ vs ++ cap) A K := acall_at (by kernel_rfl) first cap vs
theorem ca59 {A : View} {K : Value → View → Prop} (first cap vs : Array Value) : acall Try.prog (.func (.func 59) first cap) vs A K = ACalls Try.prog 59 (first ++ vs ++ cap) A K := acall_at (by kernel_rfl) first cap vs
theorem ca60 {A : View} {K : Value → View → Prop} (first cap vs : Array Value) : acall Try.prog (.func (.func 60) first cap) vs A K = ACalls Try.prog 60 (first ++ vs ++ cap) A K := acall_at (by kernel_rfl) first cap vs
theorem ca61 {A : View} {K : Value → View → Prop} (first cap vs : Array Value) : acall Try.prog (.func (.func 61) first cap) vs A K = ACalls Try.prog 61 (first ++ vs ++ cap) A K := acall_at (by kernel_rfl) first cap vs
theorem ca62 {A : View} {K : Value → View → Prop} (first cap vs : Array Value) : acall Try.prog (.func (.func 62) first cap) vs A K = ACalls Try.prog 62 (first ++ vs ++ cap) A K := acall_at (by kernel_rfl) first cap vs
theorem ca63 {A : View} {K : Value → View → Prop} (first cap vs : Array Value) : acall Try.prog (.func (.func 63) first cap) vs A K = ACalls Try.prog 63 (first ++ vs ++ cap) A K := acall_at (by kernel_rfl) first cap vs
theorem ca64 {A : View} {K : Value → View → Prop} (first cap vs : Array Value) : acall Try.prog (.func (.func 64) first cap) vs A K = ACalls Try.prog 64 (first ++ vs ++ cap) A K := acall_at (by kernel_rfl) first cap vs
theorem ca65 {A : View} {K : Value → View → Prop} (first cap vs : Array Value) : acall Try.prog (.func (.func 65) first cap) vs A K = ACalls Try.prog 65 (first ++ vs ++ cap) A K := acall_at (by kernel_rfl) first cap vs
theorem ca66 {A : View} {K : Value → View → Prop} (first cap vs : Array Value) : acall Try.prog (.func (.func 66) first cap) vs A K = ACalls Try.prog 66 (first ++ vs ++ cap) A K := acall_at (by kernel_rfl) first cap vs
theorem ca67 {A : View} {K : Value → View → Prop} (first cap vs : Array Value) : acall Try.prog (.func (.func 67) first cap) vs A K = ACalls Try.prog 67 (first ++ vs ++ cap) A K := acall_at (by kernel_rfl) first cap vs
theorem ca68 {A : View} {K : Value → View → Prop} (first cap vs : Array Value) : acall Try.prog (.func (.func 68) first cap) vs A K = ACalls Try.prog 68 (first ++ vs ++ cap) A K := acall_at (by kernel_rfl) first cap vs
theorem ca69 {A : View} {K : Value → View → Prop} (first cap vs : Array Value) : acall Try.prog (.func (.func 69) first cap) vs A K = ACalls Try.prog 69 (first ++ vs ++ cap) A K := acall_at (by kernel_rfl) first cap vs
theorem ca70 {A : View} {K : Value → View → Prop} (first cap vs : Array Value) : acall Try.prog (.func (.func 70) first cap) vs A K = ACalls Try.prog 70 (first ++ vs ++ cap) A K := acall_at (by kernel_rfl) first cap vs
theorem ca71 {A : View} {K : Value → View → Prop} (first cap vs : Array Value) : acall Try.prog (.func (.func 71) first cap) vs A K = ACalls Try.prog 71 (first ++ vs ++ cap) A K := acall_at (by kernel_rfl) first cap vs
theorem ca72 {A : View} {K : Value → View → Prop} (first cap vs : Array Value) : acall Try.prog (.func (.func 72) first cap) vs A K = ACalls Try.prog 72 (first ++ vs ++ cap) A K := acall_at (by kernel_rfl) first cap vs
theorem ca73 {A : View} {K : Value → View → Prop} (first cap vs : Array Value) : acall Try.prog (.func (.func 73) first cap) vs A K = ACalls Try.prog 73 (first ++ vs ++ cap) A K := acall_at (by kernel_rfl) first cap vs
theorem ca74 {A : View} {K : Value → View → Prop} (first cap vs : Array Value) : acall Try.prog (.func (.func 74) first cap) vs A K = ACalls Try.prog 74 (first ++ vs ++ cap) A K := acall_at (by kernel_rfl) first cap vs
theorem ca75 {A : View} {K : Value → View → Prop} (first cap vs : Array Value) : acall Try.prog (.func (.func 75) first cap) vs A K = ACalls Try.prog 75 (first ++ vs ++ cap) A K := acall_at (by kernel_rfl) first cap vs
theorem ca76 {A : View} {K : Value → View → Prop} (first cap vs : Array Value) : acall Try.prog (.func (.func 76) first cap) vs A K = ACalls Try.prog 76 (first ++ vs ++ cap) A K := acall_at (by kernel_rfl) first cap vs
theorem ca77 {A : View} {K : Value → View → Prop} (first cap vs : Array Value) : acall Try.prog (.func (.func 77) first cap) vs A K = ACalls Try.prog 77 (first ++ vs ++ cap) A K := acall_at (by kernel_rfl) first cap vs
theorem ca78 {A : View} {K : Value → View → Prop} (first cap vs : Array Value) : acall Try.prog (.func (.func 78) first cap) vs A K = ACalls Try.prog 78 (first ++ vs ++ cap) A K := acall_at (by kernel_rfl) first cap vs
theorem ca79 {A : View} {K : Value → View → Prop} (first cap vs : Array Value) : acall Try.prog (.func (.func 79) first cap) vs A K = ACalls Try.prog 79 (first ++ vs ++ cap) A K := acall_at (by kernel_rfl) first cap vs
theorem ca80 {A : View} {K : Value → View → Prop} (first cap vs : Array Value) : acall Try.prog (.func (.func 80) first cap) vs A K = ACalls Try.prog 80 (first ++ vs ++ cap) A K := acall_at (by kernel_rfl) first cap vs
theorem ca81 {A : View} {K : Value → View → Prop} (first cap vs : Array Value) : acall Try.prog (.func (.func 81) first cap) vs A K = ACalls Try.prog 81 (first ++ vs ++ cap) A K := acall_at (by kernel_rfl) first cap vs
theorem ca82 {A : View} {K : Value → View → Prop} (first cap vs : Array Value) : acall Try.prog (.func (.func 82) first cap) vs A K = ACalls Try.prog 82 (first ++ vs ++ cap) A K := acall_at (by kernel_rfl) first cap vs
theorem ca83 {A : View} {K : Value → View → Prop} (first cap vs : Array Value) : acall Try.prog (.func (.func 83) first cap) vs A K = ACalls Try.prog 83 (first ++ vs ++ cap) A K := acall_at (by kernel_rfl) first cap vs
theorem ca84 {A : View} {K : Value → View → Prop} (first cap vs : Array Value) : acall Try.prog (.func (.func 84) first cap) vs A K = ACalls Try.prog 84 (first ++ vs ++ cap) A K := acall_at (by kernel_rfl) first cap vs
theorem ca85 {A : View} {K : Value → View → Prop} (first cap vs : Array Value) : acall Try.prog (.func (.func 85) first cap) vs A K = ACalls Try.prog 85 (first ++ vs ++ cap) A K := acall_at (by kernel_rfl) first cap vs
theorem ca86 {A : View} {K : Value → View → Prop} (first cap vs : Array Value) : acall Try.prog (.func (.func 86) first cap) vs A K = ACalls Try.prog 86 (first ++ vs ++ cap) A K := acall_at (by kernel_rfl) first cap vs
theorem ca87 {A : View} {K : Value → View → Prop} (first cap vs : Array Value) : acall Try.prog (.func (.func 87) first cap) vs A K = ACalls Try.prog 87 (first ++ vs ++ cap) A K := acall_at (by kernel_rfl) first cap vs
theorem ca88 {A : View} {K : Value → View → Prop} (first cap vs : Array Value) : acall Try.prog (.func (.func 88) first cap) vs A K = ACalls Try.prog 88 (first ++ vs ++ cap) A K := acall_at (by kernel_rfl) first cap vs
theorem ca89 {A : View} {K : Value → View → Prop} (first cap vs : Array Value) : acall Try.prog (.func (.func 89) first cap) vs A K = ACalls Try.prog 89 (first ++ vs ++ cap) A K := acall_at (by kernel_rfl) first cap vs
theorem ca90 {A : View} {K : Value → View → Prop} (first cap vs : Array Value) : acall Try.prog (.func (.func 90) first cap) vs A K = ACalls Try.prog 90 (first ++ vs ++ cap) A K := acall_at (by kernel_rfl) first cap vs
theorem ca91 {A : View} {K : Value → View → Prop} (first cap vs : Array Value) : acall Try.prog (.func (.func 91) first cap) vs A K = ACalls Try.prog 91 (first ++ vs ++ cap) A K := acall_at (by kernel_rfl) first cap vs
theorem ca92 {A : View} {K : Value → View → Prop} (first cap vs : Array Value) : acall Try.prog (.func (.func 92) first cap) vs A K = ACalls Try.prog 92 (first ++ vs ++ cap) A K := acall_at (by kernel_rfl) first cap vs
theorem ca93 {A : View} {K : Value → View → Prop} (first cap vs : Array Value) : acall Try.prog (.func (.func 93) first cap) vs A K = ACalls Try.prog 93 (first ++ vs ++ cap) A K := acall_at (by kernel_rfl) first cap vs
theorem ca94 {A : View} {K : Value → View → Prop} (first cap vs : Array Value) : acall Try.prog (.func (.func 94) first cap) vs A K = ACalls Try.prog 94 (first ++ vs ++ cap) A K := acall_at (by kernel_rfl) first cap vs
theorem ca95 {A : View} {K : Value → View → Prop} (first cap vs : Array Value) : acall Try.prog (.func (.func 95) first cap) vs A K = ACalls Try.prog 95 (first ++ vs ++ cap) A K := acall_at (by kernel_rfl) first cap vs
theorem ca96 {A : View} {K : Value → View → Prop} (first cap vs : Array Value) : acall Try.prog (.func (.func 96) first cap) vs A K = ACalls Try.prog 96 (first ++ vs ++ cap) A K := acall_at (by kernel_rfl) first cap vs
theorem ca97 {A : View} {K : Value → View → Prop} (first cap vs : Array Value) : acall Try.prog (.func (.func 97) first cap) vs A K = ACalls Try.prog 97 (first ++ vs ++ cap) A K := acall_at (by kernel_rfl) first cap vs
theorem ca98 {A : View} {K : Value → View → Prop} (first cap vs : Array Value) : acall Try.prog (.func (.func 98) first cap) vs A K = ACalls Try.prog 98 (first ++ vs ++ cap) A K := acall_at (by kernel_rfl) first cap vs
theorem ca99 {A : View} {K : Value → View → Prop} (first cap vs : Array Value) : acall Try.prog (.func (.func 99) first cap) vs A K = ACalls Try.prog 99 (first ++ vs ++ cap) A K := acall_at (by kernel_rfl) first cap vs
theorem ca100 {A : View} {K : Value → View → Prop} (first cap vs : Array Value) : acall Try.prog (.func (.func 100) first cap) vs A K = ACalls Try.prog 100 (first ++ vs ++ cap) A K := acall_at (by kernel_rfl) first cap vs
theorem ca101 {A : View} {K : Value → View → Prop} (first cap vs : Array Value) : acall Try.prog (.func (.func 101) first cap) vs A K = ACalls Try.prog 101 (first ++ vs ++ cap) A K := acall_at (by kernel_rfl) first cap vs
theorem ca102 {A : View} {K : Value → View → Prop} (first cap vs : Array Value) : acall Try.prog (.func (.func 102) first cap) vs A K = ACalls Try.prog 102 (first ++ vs ++ cap) A K := acall_at (by kernel_rfl) first cap vs
theorem ca103 {A : View} {K : Value → View → Prop} (first cap vs : Array Value) : acall Try.prog (.func (.func 103) first cap) vs A K = ACalls Try.prog 103 (first ++ vs ++ cap) A K := acall_at (by kernel_rfl) first cap vs
theorem ca104 {A : View} {K : Value → View → Prop} (first cap vs : Array Value) : acall Try.prog (.func (.func 104) first cap) vs A K = ACalls Try.prog 104 (first ++ vs ++ cap) A K := acall_at (by kernel_rfl) first cap vs
theorem ca105 {A : View} {K : Value → View → Prop} (first cap vs : Array Value) : acall Try.prog (.func (.func 105) first cap) vs A K = ACalls Try.prog 105 (first ++ vs ++ cap) A K := acall_at (by kernel_rfl) first cap vs
theorem ca106 {A : View} {K : Value → View → Prop} (first cap vs : Array Value) : acall Try.prog (.func (.func 106) first cap) vs A K = ACalls Try.prog 106 (first ++ vs ++ cap) A K := acall_at (by kernel_rfl) first cap vs
theorem ca107 {A : View} {K : Value → View → Prop} (first cap vs : Array Value) : acall Try.prog (.func (.func 107) first cap) vs A K = ACalls Try.prog 107 (first ++ vs ++ cap) A K := acall_at (by kernel_rfl) first cap vs
theorem ca108 {A : View} {K : Value → View → Prop} (first cap vs : Array Value) : acall Try.prog (.func (.func 108) first cap) vs A K = ACalls Try.prog 108 (first ++ vs ++ cap) A K := acall_at (by kernel_rfl) first cap vs
theorem ca109 {A : View} {K : Value → View → Prop} (first cap vs : Array Value) : acall Try.prog (.func (.func 109) first cap) vs A K = ACalls Try.prog 109 (first ++ vs ++ cap) A K := acall_at (by kernel_rfl) first cap vs
theorem ca110 {A : View} {K : Value → View → Prop} (first cap vs : Array Value) : acall Try.prog (.func (.func 110) first cap) vs A K = ACalls Try.prog 110 (first ++ vs ++ cap) A K := acall_at (by kernel_rfl) first cap vs
theorem ca111 {A : View} {K : Value → View → Prop} (first cap vs : Array Value) : acall Try.prog (.func (.func 111) first cap) vs A K = ACalls Try.prog 111 (first ++ vs ++ cap) A K := acall_at (by kernel_rfl) first cap vs
theorem ca112 {A : View} {K : Value → View → Prop} (first cap vs : Array Value) : acall Try.prog (.func (.func 112) first cap) vs A K = ACalls Try.prog 112 (first ++ vs ++ cap) A K := acall_at (by kernel_rfl) first cap vs
theorem ca113 {A : View} {K : Value → View → Prop} (first cap vs : Array Value) : acall Try.prog (.func (.func 113) first cap) vs A K = ACalls Try.prog 113 (first ++ vs ++ cap) A K := acall_at (by kernel_rfl) first cap vs
theorem ca114 {A : View} {K : Value → View → Prop} (first cap vs : Array Value) : acall Try.prog (.func (.func 114) first cap) vs A K = ACalls Try.prog 114 (first ++ vs ++ cap) A K := acall_at (by kernel_rfl) first cap vs
theorem ca115 {A : View} {K : Value → View → Prop} (first cap vs : Array Value) : acall Try.prog (.func (.func 115) first cap) vs A K = ACalls Try.prog 115 (first ++ vs ++ cap) A K := acall_at (by kernel_rfl) first cap vs
theorem ca116 {A : View} {K : Value → View → Prop} (first cap vs : Array Value) : acall Try.prog (.func (.func 116) first cap) vs A K = ACalls Try.prog 116 (first ++ vs ++ cap) A K := acall_at (by kernel_rfl) first cap vs
theorem ca117 {A : View} {K : Value → View → Prop} (first cap vs : Array Value) : acall Try.prog (.func (.func 117) first cap) vs A K = ACalls Try.prog 117 (first ++ vs ++ cap) A K := acall_at (by kernel_rfl) first cap vs
theorem ca118 {A : View} {K : Value → View → Prop} (first cap vs : Array Value) : acall Try.prog (.func (.func 118) first cap) vs A K = ACalls Try.prog 118 (first ++ vs ++ cap) A K := acall_at (by kernel_rfl) first cap vs
theorem ca119 {A : View} {K : Value → View → Prop} (first cap vs : Array Value) : acall Try.prog (.func (.func 119) first cap) vs A K = ACalls Try.prog 119 (first ++ vs ++ cap) A K := acall_at (by kernel_rfl) first cap vs
theorem ca121 {A : View} {K : Value → View → Prop} (first cap vs : Array Value) : acall Try.prog (.func (.func 121) first cap) vs A K = ACalls Try.prog 121 (first ++ vs ++ cap) A K := acall_at (by kernel_rfl) first cap vs
theorem ca122 {A : View} {K : Value → View → Prop} (first cap vs : Array Value) : acall Try.prog (.func (.func 122) first cap) vs A K = ACalls Try.prog 122 (first ++ vs ++ cap) A K := acall_at (by kernel_rfl) first cap vs
theorem ca123 {A : View} {K : Value → View → Prop} (first cap vs : Array Value) : acall Try.prog (.func (.func 123) first cap) vs A K = ACalls Try.prog 123 (first ++ vs ++ cap) A K := acall_at (by kernel_rfl) first cap vs
theorem ca124 {A : View} {K : Value → View → Prop} (first cap vs : Array Value) : acall Try.prog (.func (.func 124) first cap) vs A K = ACalls Try.prog 124 (first ++ vs ++ cap) A K := acall_at (by kernel_rfl) first cap vs
theorem ca125 {A : View} {K : Value → View → Prop} (first cap vs : Array Value) : acall Try.prog (.func (.func 125) first cap) vs A K = ACalls Try.prog 125 (first ++ vs ++ cap) A K := acall_at (by kernel_rfl) first cap vs
theorem ca126 {A : View} {K : Value → View → Prop} (first cap vs : Array Value) : acall Try.prog (.func (.func 126) first cap) vs A K = ACalls Try.prog 126 (first ++ vs ++ cap) A K := acall_at (by kernel_rfl) first cap vs
theorem ca127 {A : View} {K : Value → View → Prop} (first cap vs : Array Value) : acall Try.prog (.func (.func 127) first cap) vs A K = ACalls Try.prog 127 (first ++ vs ++ cap) A K := acall_at (by kernel_rfl) first cap vs
theorem ca128 {A : View} {K : Value → View → Prop} (first cap vs : Array Value) : acall Try.prog (.func (.func 128) first cap) vs A K = ACalls Try.prog 128 (first ++ vs ++ cap) A K := acall_at (by kernel_rfl) first cap vs
theorem rs3 : Try.f3.results.toList = [.tmp 2] := by kernel_rfl
theorem rs4 : Try.f4.results.toList = [.tmp 2] := by kernel_rfl
theorem rs5 : Try.f5.results.toList = [.tmp 2] := by kernel_rfl
theorem rs6 : Try.f6.results.toList = [.tmp 2] := by kernel_rfl
theorem rs7 : Try.f7.results.toList = [.tmp 4] := by kernel_rfl
theorem rs8 : Try.f8.results.toList = [.tmp 4] := by kernel_rfl
theorem rs9 : Try.f9.results.toList = [.tmp 2] := by kernel_rfl
theorem rs10 : Try.f10.results.toList = [.tmp 2] := by kernel_rfl
theorem rs11 : Try.f11.results.toList = [.tmp 2] := by kernel_rfl
theorem rs12 : Try.f12.results.toList = [.tmp 2] := by kernel_rfl
theorem rs13 : Try.f13.results.toList = [.tmp 2] := by kernel_rfl
theorem rs14 : Try.f14.results.toList = [.tmp 2] := by kernel_rfl
theorem rs15 : Try.f15.results.toList = [.tmp 4] := by kernel_rfl
theorem rs16 : Try.f16.results.toList = [.tmp 2] := by kernel_rfl
theorem rs17 : Try.f17.results.toList = [.tmp 2] := by kernel_rfl
theorem rs18 : Try.f18.results.toList = [.tmp 4] := by kernel_rfl
theorem rs19 : Try.f19.results.toList = [.tmp 2] := by kernel_rfl
theorem rs20 : Try.f20.results.toList = [.tmp 4] := by kernel_rfl
theorem rs21 : Try.f21.results.toList = [.tmp 4] := by kernel_rfl
theorem rs22 : Try.f22.results.toList = [.tmp 2] := by kernel_rfl
theorem rs23 : Try.f23.results.toList = [.tmp 4] := by kernel_rfl
theorem rs24 : Try.f24.results.toList = [.tmp 2] := by kernel_rfl
theorem rs25 : Try.f25.results.toList = [.tmp 2] := by kernel_rfl
theorem rs26 : Try.f26.results.toList = [.tmp 2, .cell 3 34] := by kernel_rfl
theorem rs27 : Try.f27.results.toList = [.tmp 4] := by kernel_rfl
theorem rs28 : Try.f28.results.toList = [.tmp 4] := by kernel_rfl
theorem rs29 : Try.f29.results.toList = [.tmp 2] := by kernel_rfl
theorem rs30 : Try.f30.results.toList = [.tmp 2, .tmp 3] := by kernel_rfl
theorem rs31 : Try.f31.results.toList = [.tmp 4] := by kernel_rfl
theorem rs32 : Try.f32.results.toList = [.tmp 4] := by kernel_rfl
theorem rs33 : Try.f33.results.toList = [.tmp 2] := by kernel_rfl
theorem rs34 : Try.f34.results.toList = [.tmp 4] := by kernel_rfl
theorem rs35 : Try.f35.results.toList = [.tmp 4] := by kernel_rfl
theorem rs36 : Try.f36.results.toList = [.tmp 2] := by kernel_rfl
theorem rs37 : Try.f37.results.toList = [.tmp 4] := by kernel_rfl
theorem rs38 : Try.f38.results.toList = [.tmp 4] := by kernel_rfl
theorem rs39 : Try.f39.results.toList = [.tmp 4] := by kernel_rfl
theorem rs40 : Try.f40.results.toList = [.tmp 4] := by kernel_rfl
theorem rs41 : Try.f41.results.toList = [.tmp 4] := by kernel_rfl
theorem rs42 : Try.f42.results.toList = [.tmp 2] := by kernel_rfl
theorem rs43 : Try.f43.results.toList = [.tmp 2] := by kernel_rfl
theorem rs44 : Try.f44.results.toList = [.tmp 2, .tmp 3] := by kernel_rfl
theorem rs45 : Try.f45.results.toList = [.tmp 4] := by kernel_rfl
theorem rs46 : Try.f46.results.toList = [.tmp 2] := by kernel_rfl
theorem rs47 : Try.f47.results.toList = [.tmp 2, .tmp 3] := by kernel_rfl
theorem rs48 : Try.f48.results.toList = [.tmp 2] := by kernel_rfl
theorem rs49 : Try.f49.results.toList = [.tmp 2] := by kernel_rfl
theorem rs50 : Try.f50.results.toList = [.tmp 2] := by kernel_rfl
theorem rs51 : Try.f51.results.toList = [.tmp 2] := by kernel_rfl
theorem rs52 : Try.f52.results.toList = [.tmp 2] := by kernel_rfl
theorem rs53 : Try.f53.results.toList = [.tmp 2] := by kernel_rfl
theorem rs54 : Try.f54.results.toList = [.tmp 2] := by kernel_rfl
theorem rs55 : Try.f55.results.toList = [.tmp 4] := by kernel_rfl
theorem rs56 : Try.f56.results.toList = [.tmp 2] := by kernel_rfl
theorem rs57 : Try.f57.results.toList = [.tmp 2] := by kernel_rfl
theorem rs58 : Try.f58.results.toList = [.tmp 4] := by kernel_rfl
theorem rs59 : Try.f59.results.toList = [.tmp 6] := by kernel_rfl
theorem rs60 : Try.f60.results.toList = [.tmp 2] := by kernel_rfl
theorem rs61 : Try.f61.results.toList = [.tmp 2] := by kernel_rfl
theorem rs62 : Try.f62.results.toList = [.cell 2 34] := by kernel_rfl
theorem rs63 : Try.f63.results.toList = [.cell 2 64, .tmp 3] := by kernel_rfl
theorem rs64 : Try.f64.results.toList = [.tmp 6] := by kernel_rfl
theorem rs65 : Try.f65.results.toList = [.tmp 4, .tmp 5] := by kernel_rfl
theorem rs66 : Try.f66.results.toList = [.tmp 2] := by kernel_rfl
theorem rs67 : Try.f67.results.toList = [.tmp 4] := by kernel_rfl
theorem rs68 : Try.f68.results.toList = [.tmp 4] := by kernel_rfl
theorem rs69 : Try.f69.results.toList = [.tmp 2] := by kernel_rfl
theorem rs70 : Try.f70.results.toList = [.tmp 2] := by kernel_rfl
theorem rs71 : Try.f71.results.toList = [.tmp 4] := by kernel_rfl
theorem rs72 : Try.f72.results.toList = [.tmp 2] := by kernel_rfl
theorem rs73 : Try.f73.results.toList = [.tmp 4] := by kernel_rfl
theorem rs74 : Try.f74.results.toList = [.tmp 6] := by kernel_rfl
theorem rs75 : Try.f75.results.toList = [.cell 2 34] := by kernel_rfl
theorem rs76 : Try.f76.results.toList = [.tmp 4] := by kernel_rfl
theorem rs77 : Try.f77.results.toList = [.tmp 2] := by kernel_rfl
theorem rs78 : Try.f78.results.toList = [.tmp 4] := by kernel_rfl
theorem rs79 : Try.f79.results.toList = [.tmp 4] := by kernel_rfl
theorem rs80 : Try.f80.results.toList = [.cell 2 34] := by kernel_rfl
theorem rs81 : Try.f81.results.toList = [] := by kernel_rfl
theorem rs82 : Try.f82.results.toList = [.tmp 4] := by kernel_rfl
theorem rs83 : Try.f83.results.toList = [.tmp 4] := by kernel_rfl
theorem rs84 : Try.f84.results.toList = [.tmp 2] := by kernel_rfl
theorem rs85 : Try.f85.results.toList = [.tmp 4] := by kernel_rfl
theorem rs86 : Try.f86.results.toList = [.tmp 4] := by kernel_rfl
theorem rs87 : Try.f87.results.toList = [.tmp 4] := by kernel_rfl
theorem rs88 : Try.f88.results.toList = [.tmp 2] := by kernel_rfl
theorem rs89 : Try.f89.results.toList = [.tmp 4] := by kernel_rfl
theorem rs90 : Try.f90.results.toList = [.tmp 2] := by kernel_rfl
theorem rs91 : Try.f91.results.toList = [.tmp 4] := by kernel_rfl
theorem rs92 : Try.f92.results.toList = [.tmp 2] := by kernel_rfl
theorem rs93 : Try.f93.results.toList = [.tmp 2] := by kernel_rfl
theorem rs94 : Try.f94.results.toList = [.tmp 4] := by kernel_rfl
theorem rs95 : Try.f95.results.toList = [.tmp 4] := by kernel_rfl
theorem rs96 : Try.f96.results.toList = [.cell 4 64, .tmp 5, .tmp 6] := by kernel_rfl
theorem rs97 : Try.f97.results.toList = [.tmp 2] := by kernel_rfl
theorem rs98 : Try.f98.results.toList = [.tmp 2] := by kernel_rfl
theorem rs99 : Try.f99.results.toList = [.tmp 4] := by kernel_rfl
theorem rs100 : Try.f100.results.toList = [.tmp 2] := by kernel_rfl
theorem rs101 : Try.f101.results.toList = [.tmp 4] := by kernel_rfl
theorem rs102 : Try.f102.results.toList = [.tmp 4] := by kernel_rfl
theorem rs103 : Try.f103.results.toList = [.tmp 2] := by kernel_rfl
theorem rs104 : Try.f104.results.toList = [.tmp 4] := by kernel_rfl
theorem rs105 : Try.f105.results.toList = [] := by kernel_rfl
theorem rs106 : Try.f106.results.toList = [.tmp 4] := by kernel_rfl
theorem rs107 : Try.f107.results.toList = [.tmp 4] := by kernel_rfl
theorem rs108 : Try.f108.results.toList = [.tmp 2] := by kernel_rfl
theorem rs109 : Try.f109.results.toList = [.tmp 2] := by kernel_rfl
theorem rs110 : Try.f110.results.toList = [.tmp 4] := by kernel_rfl
theorem rs111 : Try.f111.results.toList = [.tmp 4] := by kernel_rfl
theorem rs112 : Try.f112.results.toList = [.cell 2 64, .tmp 3, .tmp 4] := by kernel_rfl
theorem rs113 : Try.f113.results.toList = [.cell 2 64, .tmp 3, .tmp 4] := by kernel_rfl
theorem rs114 : Try.f114.results.toList = [.tmp 4, .tmp 5] := by kernel_rfl
theorem rs115 : Try.f115.results.toList = [.tmp 2] := by kernel_rfl
theorem rs116 : Try.f116.results.toList = [.tmp 4] := by kernel_rfl
theorem rs117 : Try.f117.results.toList = [.tmp 6] := by kernel_rfl
theorem rs118 : Try.f118.results.toList = [] := by kernel_rfl
theorem rs119 : Try.f119.results.toList = [] := by kernel_rfl
theorem rs121 : Try.f121.results.toList = [.tmp 2] := by kernel_rfl
theorem rs122 : Try.f122.results.toList = [.tmp 2] := by kernel_rfl
theorem rs123 : Try.f123.results.toList = [.tmp 4, .tmp 5] := by kernel_rfl
theorem rs124 : Try.f124.results.toList = [.tmp 2] := by kernel_rfl
theorem rs125 : Try.f125.results.toList = [] := by kernel_rfl
theorem rs126 : Try.f126.results.toList = [.tmp 4] := by kernel_rfl
theorem rs127 : Try.f127.results.toList = [.tmp 2] := by kernel_rfl
theorem rs128 : Try.f128.results.toList = [] := by kernel_rfl

/-- All of them, for simp. -/
theorem inf : type_of% (And.intro @ld3 ( And.intro @ld4 ( And.intro @ld5 ( And.intro @ld9 ( And.intro @ld22 ( And.intro @ld25 ( And.intro @ld34 ( And.intro @ld62 ( And.intro @ld64 ( And.intro @ld75 ( And.intro @sz3 ( And.intro @sz4 ( And.intro @sz9 ( And.intro @sz25 ( And.intro @sz34 ( And.intro @sz64 ( And.intro @fa34_0 ( And.intro @fa34_1 ( And.intro @fa34_2 ( And.intro @fa34_3 ( And.intro @fa64_0 ( And.intro @fa64_1 ( And.intro @fa75_0 ( And.intro @fa75_1 ( And.intro @fa75_2 ( And.intro @fa75_3 ( And.intro @fa86_0 ( And.intro @fa86_1 ( And.intro @fa97_0 ( And.intro @fa97_1 ( And.intro @fa97_2 ( And.intro @fa97_3 ( And.intro @ia22 ( And.intro @ia23 ( And.intro @ia25 ( And.intro @ia43 ( And.intro @ia62 ( And.intro @ia101 ( And.intro @sl9lo ( And.intro @sl9hi ( And.intro @sl9 ( And.intro @sl22lo ( And.intro @sl22hi ( And.intro @sl22 ( And.intro @sl22hm ( And.intro @sl22lhm ( And.intro @sl23lo ( And.intro @sl23hi ( And.intro @sl23 ( And.intro @sl23hm ( And.intro @sl23lhm ( And.intro @sl25lo ( And.intro @sl25hi ( And.intro @sl25 ( And.intro @sl25hm ( And.intro @sl25lhm ( And.intro @ix9 ( And.intro @ln9 ( And.intro @ln22 ( And.intro @ln23 ( And.intro @ln25 ( And.intro @ln43 ( And.intro @ln62 ( And.intro @ln101 ( And.intro @eq4 ( And.intro @ne4 ( And.intro @eqn25 ( And.intro @eqs25 ( And.intro @nen25 ( And.intro @nes25 ( And.intro @bu34_0 ( And.intro @bu34_0_1 ( And.intro @bu34_0_1_2 ( And.intro @bu34_0_1_2_3 ( And.intro @bu34_0_2 ( And.intro @bu64_0 ( And.intro @bu64_0_1 ( And.intro @bu86_0 ( And.intro @ca13 ( And.intro @ca14 ( And.intro @ca15 ( And.intro @ca16 ( And.intro @ca17 ( And.intro @ca18 ( And.intro @ca19 ( And.intro @ca20 ( And.intro @ca21 ( And.intro @ca22 ( And.intro @ca23 ( And.intro @ca24 ( And.intro @ca25 ( And.intro @ca26 ( And.intro @ca27 ( And.intro @ca28 ( And.intro @ca29 ( And.intro @ca30 ( And.intro @ca31 ( And.intro @ca32 ( And.intro @ca33 ( And.intro @ca34 ( And.intro @ca35 ( And.intro @ca36 ( And.intro @ca37 ( And.intro @ca38 ( And.intro @ca39 ( And.intro @ca40 ( And.intro @ca41 ( And.intro @ca42 ( And.intro @ca43 ( And.intro @ca44 ( And.intro @ca45 ( And.intro @ca46 ( And.intro @ca47 ( And.intro @ca48 ( And.intro @ca49 ( And.intro @ca50 ( And.intro @ca51 ( And.intro @ca52 ( And.intro @ca53 ( And.intro @ca54 ( And.intro @ca55 ( And.intro @ca56 ( And.intro @ca57 ( And.intro @ca58 ( And.intro @ca59 ( And.intro @ca60 ( And.intro @ca61 ( And.intro @ca62 ( And.intro @ca63 ( And.intro @ca64 ( And.intro @ca65 ( And.intro @ca66 ( And.intro @ca67 ( And.intro @ca68 ( And.intro @ca69 ( And.intro @ca70 ( And.intro @ca71 ( And.intro @ca72 ( And.intro @ca73 ( And.intro @ca74 ( And.intro @ca75 ( And.intro @ca76 ( And.intro @ca77 ( And.intro @ca78 ( And.intro @ca79 ( And.intro @ca80 ( And.intro @ca81 ( And.intro @ca82 ( And.intro @ca83 ( And.intro @ca84 ( And.intro @ca85 ( And.intro @ca86 ( And.intro @ca87 ( And.intro @ca88 ( And.intro @ca89 ( And.intro @ca90 ( And.intro @ca91 ( And.intro @ca92 ( And.intro @ca93 ( And.intro @ca94 ( And.intro @ca95 ( And.intro @ca96 ( And.intro @ca97 ( And.intro @ca98 ( And.intro @ca99 ( And.intro @ca100 ( And.intro @ca101 ( And.intro @ca102 ( And.intro @ca103 ( And.intro @ca104 ( And.intro @ca105 ( And.intro @ca106 ( And.intro @ca107 ( And.intro @ca108 ( And.intro @ca109 ( And.intro @ca110 ( And.intro @ca111 ( And.intro @ca112 ( And.intro @ca113 ( And.intro @ca114 ( And.intro @ca115 ( And.intro @ca116 ( And.intro @ca117 ( And.intro @ca118 ( And.intro @ca119 ( And.intro @ca121 ( And.intro @ca122 ( And.intro @ca123 ( And.intro @ca124 ( And.intro @ca125 ( And.intro @ca126 ( And.intro @ca127 ( And.intro @ca128 ( And.intro @rs3 ( And.intro @rs4 ( And.intro @rs5 ( And.intro @rs6 ( And.intro @rs7 ( And.intro @rs8 ( And.intro @rs9 ( And.intro @rs10 ( And.intro @rs11 ( And.intro @rs12 ( And.intro @rs13 ( And.intro @rs14 ( And.intro @rs15 ( And.intro @rs16 ( And.intro @rs17 ( And.intro @rs18 ( And.intro @rs19 ( And.intro @rs20 ( And.intro @rs21 ( And.intro @rs22 ( And.intro @rs23 ( And.intro @rs24 ( And.intro @rs25 ( And.intro @rs26 ( And.intro @rs27 ( And.intro @rs28 ( And.intro @rs29 ( And.intro @rs30 ( And.intro @rs31 ( And.intro @rs32 ( And.intro @rs33 ( And.intro @rs34 ( And.intro @rs35 ( And.intro @rs36 ( And.intro @rs37 ( And.intro @rs38 ( And.intro @rs39 ( And.intro @rs40 ( And.intro @rs41 ( And.intro @rs42 ( And.intro @rs43 ( And.intro @rs44 ( And.intro @rs45 ( And.intro @rs46 ( And.intro @rs47 ( And.intro @rs48 ( And.intro @rs49 ( And.intro @rs50 ( And.intro @rs51 ( And.intro @rs52 ( And.intro @rs53 ( And.intro @rs54 ( And.intro @rs55 ( And.intro @rs56 ( And.intro @rs57 ( And.intro @rs58 ( And.intro @rs59 ( And.intro @rs60 ( And.intro @rs61 ( And.intro @rs62 ( And.intro @rs63 ( And.intro @rs64 ( And.intro @rs65 ( And.intro @rs66 ( And.intro @rs67 ( And.intro @rs68 ( And.intro @rs69 ( And.intro @rs70 ( And.intro @rs71 ( And.intro @rs72 ( And.intro @rs73 ( And.intro @rs74 ( And.intro @rs75 ( And.intro @rs76 ( And.intro @rs77 ( And.intro @rs78 ( And.intro @rs79 ( And.intro @rs80 ( And.intro @rs81 ( And.intro @rs82 ( And.intro @rs83 ( And.intro @rs84 ( And.intro @rs85 ( And.intro @rs86 ( And.intro @rs87 ( And.intro @rs88 ( And.intro @rs89 ( And.intro @rs90 ( And.intro @rs91 ( And.intro @rs92 ( And.intro @rs93 ( And.intro @rs94 ( And.intro @rs95 ( And.intro @rs96 ( And.intro @rs97 ( And.intro @rs98 ( And.intro @rs99 ( And.intro @rs100 ( And.intro @rs101 ( And.intro @rs102 ( And.intro @rs103 ( And.intro @rs104 ( And.intro @rs105 ( And.intro @rs106 ( And.intro @rs107 ( And.intro @rs108 ( And.intro @rs109 ( And.intro @rs110 ( And.intro @rs111 ( And.intro @rs112 ( And.intro @rs113 ( And.intro @rs114 ( And.intro @rs115 ( And.intro @rs116 ( And.intro @rs117 ( And.intro @rs118 ( And.intro @rs119 ( And.intro @rs121 ( And.intro @rs122 ( And.intro @rs123 ( And.intro @rs124 ( And.intro @rs125 ( And.intro @rs126 ( And.intro @rs127 (@rs128)))))))))))))))))))))))))))))))))))))))))))))))))))))))))))))))))))))))))))))))))))))))))))))))))))))))))))))))))))))))))))))))))))))))))))))))))))))))))))))))))))))))))))))))))))))))))))))))))))))))))))))))))))))))))))))))))))))))))))))))))))))))))))))))))))))))))))))))))))))))))))))))))))))))))))))))))))))))))))))) := And.intro @ld3 ( And.intro @ld4 ( And.intro @ld5 ( And.intro @ld9 ( And.intro @ld22 ( And.intro @ld25 ( And.intro @ld34 ( And.intro @ld62 ( And.intro @ld64 ( And.intro @ld75 ( And.intro @sz3 ( And.intro @sz4 ( And.intro @sz9 ( And.intro @sz25 ( And.intro @sz34 ( And.intro @sz64 ( And.intro @fa34_0 ( And.intro @fa34_1 ( And.intro @fa34_2 ( And.intro @fa34_3 ( And.intro @fa64_0 ( And.intro @fa64_1 ( And.intro @fa75_0 ( And.intro @fa75_1 ( And.intro @fa75_2 ( And.intro @fa75_3 ( And.intro @fa86_0 ( And.intro @fa86_1 ( And.intro @fa97_0 ( And.intro @fa97_1 ( And.intro @fa97_2 ( And.intro @fa97_3 ( And.intro @ia22 ( And.intro @ia23 ( And.intro @ia25 ( And.intro @ia43 ( And.intro @ia62 ( And.intro @ia101 ( And.intro @sl9lo ( And.intro @sl9hi ( And.intro @sl9 ( And.intro @sl22lo ( And.intro @sl22hi ( And.intro @sl22 ( And.intro @sl22hm ( And.intro @sl22lhm ( And.intro @sl23lo ( And.intro @sl23hi ( And.intro @sl23 ( And.intro @sl23hm ( And.intro @sl23lhm ( And.intro @sl25lo ( And.intro @sl25hi ( And.intro @sl25 ( And.intro @sl25hm ( And.intro @sl25lhm ( And.intro @ix9 ( And.intro @ln9 ( And.intro @ln22 ( And.intro @ln23 ( And.intro @ln25 ( And.intro @ln43 ( And.intro @ln62 ( And.intro @ln101 ( And.intro @eq4 ( And.intro @ne4 ( And.intro @eqn25 ( And.intro @eqs25 ( And.intro @nen25 ( And.intro @nes25 ( And.intro @bu34_0 ( And.intro @bu34_0_1 ( And.intro @bu34_0_1_2 ( And.intro @bu34_0_1_2_3 ( And.intro @bu34_0_2 ( And.intro @bu64_0 ( And.intro @bu64_0_1 ( And.intro @bu86_0 ( And.intro @ca13 ( And.intro @ca14 ( And.intro @ca15 ( And.intro @ca16 ( And.intro @ca17 ( And.intro @ca18 ( And.intro @ca19 ( And.intro @ca20 ( And.intro @ca21 ( And.intro @ca22 ( And.intro @ca23 ( And.intro @ca24 ( And.intro @ca25 ( And.intro @ca26 ( And.intro @ca27 ( And.intro @ca28 ( And.intro @ca29 ( And.intro @ca30 ( And.intro @ca31 ( And.intro @ca32 ( And.intro @ca33 ( And.intro @ca34 ( And.intro @ca35 ( And.intro @ca36 ( And.intro @ca37 ( And.intro @ca38 ( And.intro @ca39 ( And.intro @ca40 ( And.intro @ca41 ( And.intro @ca42 ( And.intro @ca43 ( And.intro @ca44 ( And.intro @ca45 ( And.intro @ca46 ( And.intro @ca47 ( And.intro @ca48 ( And.intro @ca49 ( And.intro @ca50 ( And.intro @ca51 ( And.intro @ca52 ( And.intro @ca53 ( And.intro @ca54 ( And.intro @ca55 ( And.intro @ca56 ( And.intro @ca57 ( And.intro @ca58 ( And.intro @ca59 ( And.intro @ca60 ( And.intro @ca61 ( And.intro @ca62 ( And.intro @ca63 ( And.intro @ca64 ( And.intro @ca65 ( And.intro @ca66 ( And.intro @ca67 ( And.intro @ca68 ( And.intro @ca69 ( And.intro @ca70 ( And.intro @ca71 ( And.intro @ca72 ( And.intro @ca73 ( And.intro @ca74 ( And.intro @ca75 ( And.intro @ca76 ( And.intro @ca77 ( And.intro @ca78 ( And.intro @ca79 ( And.intro @ca80 ( And.intro @ca81 ( And.intro @ca82 ( And.intro @ca83 ( And.intro @ca84 ( And.intro @ca85 ( And.intro @ca86 ( And.intro @ca87 ( And.intro @ca88 ( And.intro @ca89 ( And.intro @ca90 ( And.intro @ca91 ( And.intro @ca92 ( And.intro @ca93 ( And.intro @ca94 ( And.intro @ca95 ( And.intro @ca96 ( And.intro @ca97 ( And.intro @ca98 ( And.intro @ca99 ( And.intro @ca100 ( And.intro @ca101 ( And.intro @ca102 ( And.intro @ca103 ( And.intro @ca104 ( And.intro @ca105 ( And.intro @ca106 ( And.intro @ca107 ( And.intro @ca108 ( And.intro @ca109 ( And.intro @ca110 ( And.intro @ca111 ( And.intro @ca112 ( And.intro @ca113 ( And.intro @ca114 ( And.intro @ca115 ( And.intro @ca116 ( And.intro @ca117 ( And.intro @ca118 ( And.intro @ca119 ( And.intro @ca121 ( And.intro @ca122 ( And.intro @ca123 ( And.intro @ca124 ( And.intro @ca125 ( And.intro @ca126 ( And.intro @ca127 ( And.intro @ca128 ( And.intro @rs3 ( And.intro @rs4 ( And.intro @rs5 ( And.intro @rs6 ( And.intro @rs7 ( And.intro @rs8 ( And.intro @rs9 ( And.intro @rs10 ( And.intro @rs11 ( And.intro @rs12 ( And.intro @rs13 ( And.intro @rs14 ( And.intro @rs15 ( And.intro @rs16 ( And.intro @rs17 ( And.intro @rs18 ( And.intro @rs19 ( And.intro @rs20 ( And.intro @rs21 ( And.intro @rs22 ( And.intro @rs23 ( And.intro @rs24 ( And.intro @rs25 ( And.intro @rs26 ( And.intro @rs27 ( And.intro @rs28 ( And.intro @rs29 ( And.intro @rs30 ( And.intro @rs31 ( And.intro @rs32 ( And.intro @rs33 ( And.intro @rs34 ( And.intro @rs35 ( And.intro @rs36 ( And.intro @rs37 ( And.intro @rs38 ( And.intro @rs39 ( And.intro @rs40 ( And.intro @rs41 ( And.intro @rs42 ( And.intro @rs43 ( And.intro @rs44 ( And.intro @rs45 ( And.intro @rs46 ( And.intro @rs47 ( And.intro @rs48 ( And.intro @rs49 ( And.intro @rs50 ( And.intro @rs51 ( And.intro @rs52 ( And.intro @rs53 ( And.intro @rs54 ( And.intro @rs55 ( And.intro @rs56 ( And.intro @rs57 ( And.intro @rs58 ( And.intro @rs59 ( And.intro @rs60 ( And.intro @rs61 ( And.intro @rs62 ( And.intro @rs63 ( And.intro @rs64 ( And.intro @rs65 ( And.intro @rs66 ( And.intro @rs67 ( And.intro @rs68 ( And.intro @rs69 ( And.intro @rs70 ( And.intro @rs71 ( And.intro @rs72 ( And.intro @rs73 ( And.intro @rs74 ( And.intro @rs75 ( And.intro @rs76 ( And.intro @rs77 ( And.intro @rs78 ( And.intro @rs79 ( And.intro @rs80 ( And.intro @rs81 ( And.intro @rs82 ( And.intro @rs83 ( And.intro @rs84 ( And.intro @rs85 ( And.intro @rs86 ( And.intro @rs87 ( And.intro @rs88 ( And.intro @rs89 ( And.intro @rs90 ( And.intro @rs91 ( And.intro @rs92 ( And.intro @rs93 ( And.intro @rs94 ( And.intro @rs95 ( And.intro @rs96 ( And.intro @rs97 ( And.intro @rs98 ( And.intro @rs99 ( And.intro @rs100 ( And.intro @rs101 ( And.intro @rs102 ( And.intro @rs103 ( And.intro @rs104 ( And.intro @rs105 ( And.intro @rs106 ( And.intro @rs107 ( And.intro @rs108 ( And.intro @rs109 ( And.intro @rs110 ( And.intro @rs111 ( And.intro @rs112 ( And.intro @rs113 ( And.intro @rs114 ( And.intro @rs115 ( And.intro @rs116 ( And.intro @rs117 ( And.intro @rs118 ( And.intro @rs119 ( And.intro @rs121 ( And.intro @rs122 ( And.intro @rs123 ( And.intro @rs124 ( And.intro @rs125 ( And.intro @rs126 ( And.intro @rs127 (@rs128)))))))))))))))))))))))))))))))))))))))))))))))))))))))))))))))))))))))))))))))))))))))))))))))))))))))))))))))))))))))))))))))))))))))))))))))))))))))))))))))))))))))))))))))))))))))))))))))))))))))))))))))))))))))))))))))))))))))))))))))))))))))))))))))))))))))))))))))))))))))))))))))))))))))))))))))))))))))))))))

end Go.Proofs.Ytbddklkfekiaeaa
