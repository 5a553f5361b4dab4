/- Structs held against each other. -/
import Derived.Test.YtjojofnkgeiadaaFw10
import Derived.Test.YtjojofnkgeiadaaInfo
import Derived.Laws.StructEq
set_option maxHeartbeats 4000000
set_option synthInstance.maxHeartbeats 400000
set_option synthInstance.maxSize 4096
set_option linter.unusedSimpArgs false
set_option linter.unusedVariables false
namespace Go.Proofs.Ytjojofnkgeiadaa

section
variable {P : Program} {A : View}

theorem sawp_bind' {α β : Type} (s : Sem α) (f : α → Sem β) (K : β → View → Prop) : sawp P (s >>= f) K A = sawp P s (fun a A => sawp P (f a) K A) A := sawp_bind ..
theorem sawp_pure' {α : Type} (a : α) (K : α → View → Prop) : sawp P (pure a : Sem α) K A = K a A := rfl

theorem sawp_struct {d : Nat} {t : TypeId} {xs ys : Array Value} {K : Bool → View → Prop} (ht : P.underlying t = some (.struct (P.fieldsOf t))) (hp : P.stoodInHeld t = false) : sawp P (Op.equalIn (d + 1) t (.agg xs) (.agg ys)) K A = sawp P (Op.eqFields d xs ys (P.fieldsOf t).toList) K A := by
  unfold Op.equalIn
  rw [sawp_underlying ht]
  dsimp only
  rw [sawp_bind']
  show sawp P (if P.stoodInHeld t = true then _ else _) K A = _
  rw [hp, if_neg (by decide), sawp_bind', ← Array.forIn_toList]
  generalize (P.fieldsOf t).toList = fs
  clear ht hp
  induction fs generalizing A with
  | nil => rfl
  | cons f fs ih =>
    rw [List.forIn_cons, sawp_bind']
    unfold Op.eqFields
    split
    · rw [sawp_bind', sawp_bind']
      congr 1
      funext a A
      rw [sawp_bind', sawp_bind']
      congr 1
      funext b A
      rw [sawp_bind', sawp_bind']
      congr 1
      funext c A
      cases c with
      | false => rfl
      | true => exact ih
    · exact ih

theorem sawp_scal {d : Nat} {t : TypeId} {K : Bool → View → Prop} :
    (∀ k k' a b, P.underlying t = some (.int k') → sawp P (Op.equalIn (d + 1) t (.int k a) (.int k b)) K A = K (decide (a = b)) A) ∧
    (∀ a b : ByteArray, P.underlying t = some .string → sawp P (Op.equalIn (d + 1) t (.string a) (.string b)) K A = K (decide (a = b)) A) := by
  constructor
  · intro k k' a b h
    unfold Op.equalIn
    rw [sawp_underlying h]
    dsimp only
    rw [if_pos rfl, sawp_pure']
    rfl
  · intro a b h
    unfold Op.equalIn
    rw [sawp_underlying h]
    dsimp only
    rw [sawp_pure']
    congr 1
    rw [Bool.eq_iff_iff, beq_iff_eq, decide_eq_true_eq]

theorem sawp_isAgg {t : TypeId} {d : TypeDesc} {K : Bool → View → Prop} (h : P.underlying t = some d) (hd : isAggD d = false) : sawp P (isAgg t) K A = K false A := by
  unfold isAgg
  rw [sawp_underlying h]
  cases d <;> first | rfl | cases hd
theorem sawp_part {t : TypeId} {d : TypeDesc} {cs : Array Value} {off : Nat} {v : Value} {K : Value → View → Prop} (h : P.underlying t = some d) (hd : isAggD d = false) (hv : cs[off]? = some v) : sawp P (part t cs off) K A = K v A := by
  unfold part
  rw [sawp_bind', sawp_isAgg h hd, if_neg (by decide), hv]
  rfl

/-- Two structs of numbers and texts, field by field. -/
def eqL (P : Program) (xs ys : Array Value) : List Field → Option Bool
  | [] => some true
  | f :: fs => if f.name = "_" then none else match P.underlying f.type, xs[f.offset]?, ys[f.offset]? with
    | some (.int _), some (.int k a), some (.int k' b) => if k = k' then (eqL P xs ys fs).map (decide (a = b) && ·) else none
    | some .string, some (.string a), some (.string b) => (eqL P xs ys fs).map (decide (a = b) && ·)
    | _, _, _ => none
theorem sawp_eqL {d : Nat} {xs ys : Array Value} {K : Bool → View → Prop} : ∀ (fs : List Field) (r : Bool), eqL P xs ys fs = some r → sawp P (Op.eqFields (d + 1) xs ys fs) K A = K r A
  | [], r, h => by
    injection h with h
    subst h
    rfl
  | f :: fs, r, h => by
    unfold eqL at h
    unfold Op.eqFields
    split at h
    · cases h
    · rename_i hn
      rw [if_pos hn]
      split at h
      · rename_i ki k a k' b h1 h2 h3
        split at h
        · rename_i hk
          subst hk
          cases hq : eqL P xs ys fs with
          | none => rw [hq] at h; cases h
          | some r' =>
            rw [hq] at h
            injection h with h
            rw [sawp_bind', sawp_part h1 rfl h2, sawp_bind', sawp_part h1 rfl h3, sawp_bind', (sawp_scal (d := d)).1 k ki a b h1, ← h]
            cases decide (a = b) with
            | false => rfl
            | true => exact sawp_eqL fs r' hq
        · cases h
      · rename_i a b h1 h2 h3
        cases hq : eqL P xs ys fs with
        | none => rw [hq] at h; cases h
        | some r' =>
          rw [hq] at h
          injection h with h
          rw [sawp_bind', sawp_part h1 rfl h2, sawp_bind', sawp_part h1 rfl h3, sawp_bind', (sawp_scal (d := d)).2 a b h1, ← h]
          cases decide (a = b) with
          | false => rfl
          | true => exact sawp_eqL fs r' hq
      · cases h

/-- Structs of numbers and texts, held against each other. -/
theorem abin_neStruct {t : TypeId} {xs ys : Array Value} {K : Value → View → Prop} (ht : P.underlying t = some (.struct (P.fieldsOf t))) (hp : P.stoodInHeld t = false) (hg : P.eqGuardType P.depth t = false) {r : Bool} (hr : eqL P xs ys (P.fieldsOf t).toList = some r) (x y : Operand) :
    abin P .neq t x y (.agg xs) (.agg ys) A K = K (.bool (!r)) A ∧ abin P .eql t x y (.agg xs) (.agg ys) A K = K (.bool r) A := by
  constructor
  all_goals
    unfold abin
    rw [sawp_bind']
    unfold eqGuard
    dsimp only
    rw [if_neg (by decide), sawp_bind']
    show sawp P (if (!P.eqGuardType P.depth t) = true then _ else _) _ A = _
    rw [hg, if_pos (show (!false) = true from rfl), sawp_pure']
    show sawp P (Op.equalIn (9999 + 1) t (.agg xs) (.agg ys) >>= _) K A = _
    rw [sawp_bind', sawp_struct ht hp, sawp_eqL _ r hr]
    rfl

end

theorem nePb (a a' : Int) (b b' c c' : ByteArray) {A : View} {K : Value → View → Prop} (x y : Operand) : abin Try.prog .neq 35 x y (.agg #[.int .i64 a, .string b, .string c]) (.agg #[.int .i64 a', .string b', .string c']) A K = K (.bool (!(decide (a = a') && (decide (b = b') && (decide (c = c') && true))))) A :=
  (abin_neStruct (by kernel_rfl) (by kernel_rfl) (by kernel_rfl) (by kernel_rfl) x y).1

theorem neEv (a a' : Int) (b b' : ByteArray) {A : View} {K : Value → View → Prop} (x y : Operand) : abin Try.prog .neq 55 x y (.agg #[.int .i64 a, .string b]) (.agg #[.int .i64 a', .string b']) A K = K (.bool (!(decide (a = a') && (decide (b = b') && true)))) A :=
  (abin_neStruct (by kernel_rfl) (by kernel_rfl) (by kernel_rfl) (by kernel_rfl) x y).1

end Go.Proofs.Ytjojofnkgeiadaa

