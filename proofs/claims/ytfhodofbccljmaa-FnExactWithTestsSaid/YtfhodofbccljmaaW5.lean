/- An element of a slice of structs of one's own is deleted. -/
import Derived.Test.YtfhodofbccljmaaW4
set_option maxHeartbeats 4000000
set_option synthInstance.maxHeartbeats 400000
set_option synthInstance.maxSize 4096
set_option linter.unusedSimpArgs false
set_option linter.unusedVariables false
namespace Go.Proofs.Ytfhodofbccljmaa

set_option maxRecDepth 100000

theorem deleteTest_blk (A : View) (b n c : Nat) (cells : List Value) (i j : Nat) (hb : A b = some ⟨76, cells, c * 4, true⟩) (hlen : cells.length = n * 4) (hone : ∀ v ∈ cells, v.oneCell' = true) (hc : n ≤ c) (hij : i < j) (hj : j ≤ n) (hsm : n ≤ 16777216) : ACalls Try.prog 61 #[.slice (some ⟨b, 0, none⟩) n c, .int .i64 i, .int .i64 j] A fun r A' => r = .slice (some ⟨b, 0, none⟩) (n - (j - i)) c ∧ A' = A.set b ⟨76, cells.take (i * 4) ++ cells.drop (j * 4), c * 4, true⟩ := by
  have hne : ¬ (i : Int) = (j : Int) := by omega
  have hc0 : ¬ c = 0 := by omega
  refine ACalls.weaken (R := fun r A' => ∃ zs, r = .slice (some ⟨b, 0, none⟩) (n - (j - i)) c ∧ A' = A.set b ⟨76, (cells.take (i * 4) ++ cells.drop (j * 4)) ++ zs, c * 4, true⟩ ∧ (cells.take (i * 4) ++ cells.drop (j * 4)).length + zs.length = n * 4) ?_ ?_
  · refine acalls Try.func61 rfl (by kernel_rfl) ?_
    simp (disch := omega) only [↓stp, vls, inf, frs, mark_eq, ↓reduceIte, Nat.reduceEqDiff, ite_tt, ite_ff, eq_self, and_true, true_and, and_self, implies_true, Bool.true_eq_false, Bool.false_eq_true, decide_true, decide_false, decide_eq_true_eq, decide_eq_false_iff_not, ne_eq, not_true_eq_false, not_false_eq_true, Bool.not_eq_true', Bool.not_eq_false', beq_self_eq_true, Bool.not_true, Bool.not_false, List.getElem?_toArray, List.getElem?_cons_zero, List.getElem?_cons_succ]
    simp (disch := omega) only [↓stp, vls, inf, frs, mark_eq, ↓reduceIte, Nat.reduceEqDiff, ite_tt, ite_ff, eq_self, and_true, true_and, and_self, implies_true, Bool.true_eq_false, Bool.false_eq_true, decide_true, decide_false, decide_eq_true_eq, decide_eq_false_iff_not, ne_eq, not_true_eq_false, not_false_eq_true, Bool.not_eq_true', Bool.not_eq_false', beq_self_eq_true, Bool.not_true, Bool.not_false, List.getElem?_toArray, List.getElem?_cons_zero, List.getElem?_cons_succ, hne]
    refine adraw_items [.q 0, .q 1, .q 2, .q 3, .q 4, .q 5, .c 6 [], .q 7] (by kernel_rfl) (by kernel_rfl) ?_
    simp (disch := omega) only [↓stp, ↓pln, plv, nilOk, Nat.reduceBEq, Bool.or_false, Bool.or_true, Bool.false_or, Bool.true_or, vls, inf, frs, mark_eq, ↓reduceIte, Nat.reduceEqDiff, ite_tt, ite_ff, eq_self, and_true, true_and, and_self, implies_true, Bool.true_eq_false, Bool.false_eq_true, decide_true, decide_false, decide_eq_true_eq, decide_eq_false_iff_not, ne_eq, not_true_eq_false, not_false_eq_true, Bool.not_eq_true', Bool.not_eq_false', beq_self_eq_true, Bool.not_true, Bool.not_false, List.getElem?_toArray, List.getElem?_cons_zero, List.getElem?_cons_succ]
    have hcut0 : cutAddr (some (⟨b, 0, none⟩ : Addr)) 0 c 4 = some ⟨b, 0, none⟩ := by unfold cutAddr; rw [if_neg hc0]; simp [Addr.add]
    have hpart := part_at (A := A) (off := j * 4) (n := cells.length - j * 4) hb (by simp; omega) (fun u hu => hone u (List.mem_of_mem_drop (List.mem_of_mem_take hu)))
    rw [List.take_of_length_le (by simp)] at hpart
    have hsrc : asrc A 4 (.slice (cutAddr (some ⟨b, 0, none⟩) j c 4) (n - j) (c - j)) = some (n - j, cells.drop (j * 4)) := by
      by_cases hjl : n - j = 0
      · have : cells.drop (j * 4) = [] := List.drop_of_length_le (by omega)
        rw [this, hjl]
        cases cutAddr (some (⟨b, 0, none⟩ : Addr)) j c 4 <;> simp [asrc]
      · have hcj : ¬ c = j := by omega
        have e1 : cutAddr (some (⟨b, 0, none⟩ : Addr)) j c 4 = some ⟨b, j * 4, none⟩ := by unfold cutAddr; rw [if_neg hcj]; simp [add_at]
        rw [e1]
        unfold asrc
        simp only [hjl, if_false]
        rw [show (n - j) * 4 = cells.length - j * 4 by omega, hpart]
        rfl
    rw [hcut0]
    refine aappend_room (size := 4) (n := i) (m := n - j) (c := c) ap28_28 hb rfl hsrc (by omega) (by simp; omega) ?_
    simp (disch := omega) only [↓stp, ↓pln, plv, nilOk, Nat.reduceBEq, Bool.or_false, Bool.or_true, Bool.false_or, Bool.true_or, vls, inf, frs, mark_eq, ↓reduceIte, Nat.reduceEqDiff, ite_tt, ite_ff, eq_self, and_true, true_and, and_self, implies_true, Bool.true_eq_false, Bool.false_eq_true, decide_true, decide_false, decide_eq_true_eq, decide_eq_false_iff_not, ne_eq, not_true_eq_false, not_false_eq_true, Bool.not_eq_true', Bool.not_eq_false', beq_self_eq_true, Bool.not_true, Bool.not_false, List.getElem?_toArray, List.getElem?_cons_zero, List.getElem?_cons_succ]
    have hq : (i + (n - j) : Nat) = n - (j - i) := by omega
    rw [hq]
    generalize hV : A.set b _ = V
    have hVb : V b = some ⟨76, (cells.take (i * 4) ++ cells.drop (j * 4)) ++ cells.drop ((n - (j - i)) * 4), c * 4, true⟩ := by rw [← hV, View.set_same]
    have hcm : ¬ c = n - (j - i) := by omega
    simp (disch := omega) only [↓stp, vls, inf, frs, mark_eq, ↓reduceIte, Nat.reduceEqDiff, ite_tt, ite_ff, eq_self, and_true, true_and, and_self, implies_true, Bool.true_eq_false, Bool.false_eq_true, decide_true, decide_false, decide_eq_true_eq, decide_eq_false_iff_not, ne_eq, not_true_eq_false, not_false_eq_true, Bool.not_eq_true', Bool.not_eq_false', beq_self_eq_true, Bool.not_true, Bool.not_false, List.getElem?_toArray, List.getElem?_cons_zero, List.getElem?_cons_succ]
    have e3 : cutAddr (some (⟨b, 0, none⟩ : Addr)) (n - (j - i)) c 4 = some ⟨b, (n - (j - i)) * 4, none⟩ := by unfold cutAddr; rw [if_neg hcm]; simp [add_at]
    rw [e3]
    have htl : (cells.take (i * 4) ++ cells.drop (j * 4)).length = (n - (j - i)) * 4 := by simp; omega
    refine aclear_at (z := [.string ⟨#[]⟩, .string ⟨#[]⟩, .slice none 0 0, .slice none 0 0]) (o := (n - (j - i)) * 4) (n := n - (n - (j - i))) mk28 hVb rfl (by omega) (by simp; omega) fun zs hzs => ?_
    simp (disch := omega) only [↓stp, vls, inf, frs, mark_eq, ↓reduceIte, Nat.reduceEqDiff, ite_tt, ite_ff, eq_self, and_true, true_and, and_self, implies_true, Bool.true_eq_false, Bool.false_eq_true, decide_true, decide_false, decide_eq_true_eq, decide_eq_false_iff_not, ne_eq, not_true_eq_false, not_false_eq_true, Bool.not_eq_true', Bool.not_eq_false', beq_self_eq_true, Bool.not_true, Bool.not_false, List.getElem?_toArray, List.getElem?_cons_zero, List.getElem?_cons_succ]
    refine ⟨zs, ?_, ?_⟩
    · rw [← hV, View.set_set]
      have e4 : ∀ T : List Value, T.length = (n - (n - (j - i))) * 4 → List.take ((n - (j - i)) * 4) ((cells.take (i * 4) ++ cells.drop (j * 4)) ++ T) ++ zs ++ List.drop ((n - (j - i)) * 4 + (n - (n - (j - i))) * ([.string ⟨#[]⟩, .string ⟨#[]⟩, .slice none 0 0, .slice none 0 0] : List Value).length) ((cells.take (i * 4) ++ cells.drop (j * 4)) ++ T) = (cells.take (i * 4) ++ cells.drop (j * 4)) ++ zs := fun T hT => by
        have hd : ∀ (q : Nat) (X : List Value), X.length ≤ q → List.drop q X = [] := fun q X h => List.drop_of_length_le h
        rw [List.take_left' htl, hd _ ((cells.take (i * 4) ++ cells.drop (j * 4)) ++ T) (by rw [List.length_append, htl, hT]; simp), List.append_nil]
      exact congrArg (fun q => A.set b ⟨76, q, c * 4, true⟩) (e4 (cells.drop ((n - (j - i)) * 4)) (by simp; omega))
    · rw [htl, hzs]
      simp
      omega
  · rintro r A' ⟨zs, rfl, rfl, hz⟩
    have hw := Weaker.set (A := A.set b ⟨76, (cells.take (i * 4) ++ cells.drop (j * 4)) ++ zs, c * 4, true⟩) (b := b) (k2 := ⟨76, cells.take (i * 4) ++ cells.drop (j * 4), c * 4, true⟩) (View.set_same ..) rfl ⟨rfl, Nat.le_refl _, by simp; omega, zs, rfl⟩
    rw [View.set_set] at hw
    exact ⟨_, hw, rfl, rfl⟩

theorem led_deleteTest {A V : View} {L : List It} {m k : Nat} {fp : List Nat} {v : Value} {xs : List TestD} (h : Led A L V) (hi : L[m]? = some (osl 76 testO fp v xs)) (hk : k < xs.length) (hsm : xs.length ≤ 16777215) :
    ACalls Try.prog 61 #[v, .int .i64 k, .int .i64 (k + 1 : Nat)] V fun r W => ∃ fq, Led A (L.set m (osl 76 testO fq r (xs.take k ++ xs.drop (k + 1)))) W := by
  obtain ⟨hl, ⟨rfl, rfl, rfl⟩ | ⟨b, c, cells, f, rfl, hc, rfl, hb, he⟩⟩ := (show OSl 76 testO V fp v xs from h.at hi)
  · cases hk
  · have hlen : cells.length = xs.length * 4 := he.len
    obtain ⟨f1, f2, f3, c1, c2, c3, rfl, rfl, hc1, h1, h2, h3⟩ := he.at hk
    have hc1' : c1.length = k * 4 := hc1
    have hc2' : c2.length = 4 := testS.len (testO.toS h2)
    have hnd := h.nodup1 hi
    refine (deleteTest_blk V b xs.length c _ k (k + 1) hb hlen he.toS.one hc (by omega) (by omega) (by omega)).mono ?_
    rintro _ W ⟨rfl, rfl⟩
    have e1 : (c1 ++ (c2 ++ c3)).take (k * 4) ++ (c1 ++ (c2 ++ c3)).drop ((k + 1) * 4) = c1 ++ c3 := by
      rw [List.take_left' hc1', ← List.append_assoc, List.drop_left' (by rw [List.length_append]; omega)]
    rw [e1]
    have hbn := (List.nodup_cons.1 hnd).1
    have hfn := (List.nodup_cons.1 hnd).2
    have h1n := List.nodup_append.1 hfn
    have h2n := List.nodup_append.1 h1n.2.1
    refine ⟨b :: (f1 ++ f3), h.swap hi (Only.set _ (List.mem_cons_self ..)) ?_ (fun x hx => ?_) (List.nodup_cons.2 ⟨fun hm => hbn ?_, List.nodup_append.2 ⟨h1n.1, h2n.2.1, fun x hx y hy => h1n.2.2 x hx y (List.mem_append_right _ hy)⟩⟩)⟩
    · have hx : ∀ {g : List Nat}, (∀ x, x ∈ g → x ∈ f1 ++ (f2 ++ f3)) → ∀ x kx, x ∈ g → V x = some kx → (V.set b ⟨76, c1 ++ c3, c * 4, true⟩) x = some kx := fun hs x kx hx hq => by
        rw [View.set_ne _ _ (fun e => hbn (by rw [← e]; exact hs x hx))]; exact hq
      refine (show OSl 76 testO _ _ _ _ from ⟨by rw [List.length_append, List.length_take, List.length_drop]; omega, .inr ⟨b, c, c1 ++ c3, f1 ++ f3, ?_, by rw [List.length_append, List.length_take, List.length_drop]; omega, rfl, View.set_same .., (h1.stay (hx fun x hx => List.mem_append_left _ hx)).append (h3.stay (hx fun x hx => List.mem_append_right _ (List.mem_append_right _ hx)))⟩⟩)
      congr 1
      rw [List.length_append, List.length_take, List.length_drop]
      omega
    · refine .inl ?_
      rcases List.mem_cons.1 hx with rfl | hx
      · exact List.mem_cons_self ..
      · refine List.mem_cons_of_mem _ ?_
        rcases List.mem_append.1 hx with hx | hx
        · exact List.mem_append_left _ hx
        · exact List.mem_append_right _ (List.mem_append_right _ hx)
    · rcases List.mem_append.1 hm with hx | hx
      · exact List.mem_append_left _ hx
      · exact List.mem_append_right _ (List.mem_append_right _ hx)

theorem deleteFixture_blk (A : View) (b n c : Nat) (cells : List Value) (i j : Nat) (hb : A b = some ⟨83, cells, c * 4, true⟩) (hlen : cells.length = n * 4) (hone : ∀ v ∈ cells, v.oneCell' = true) (hc : n ≤ c) (hij : i < j) (hj : j ≤ n) (hsm : n ≤ 16777216) : ACalls Try.prog 70 #[.slice (some ⟨b, 0, none⟩) n c, .int .i64 i, .int .i64 j] A fun r A' => r = .slice (some ⟨b, 0, none⟩) (n - (j - i)) c ∧ A' = A.set b ⟨83, cells.take (i * 4) ++ cells.drop (j * 4), c * 4, true⟩ := by
  have hne : ¬ (i : Int) = (j : Int) := by omega
  have hc0 : ¬ c = 0 := by omega
  refine ACalls.weaken (R := fun r A' => ∃ zs, r = .slice (some ⟨b, 0, none⟩) (n - (j - i)) c ∧ A' = A.set b ⟨83, (cells.take (i * 4) ++ cells.drop (j * 4)) ++ zs, c * 4, true⟩ ∧ (cells.take (i * 4) ++ cells.drop (j * 4)).length + zs.length = n * 4) ?_ ?_
  · refine acalls Try.func70 rfl (by kernel_rfl) ?_
    simp (disch := omega) only [↓stp, vls, inf, frs, mark_eq, ↓reduceIte, Nat.reduceEqDiff, ite_tt, ite_ff, eq_self, and_true, true_and, and_self, implies_true, Bool.true_eq_false, Bool.false_eq_true, decide_true, decide_false, decide_eq_true_eq, decide_eq_false_iff_not, ne_eq, not_true_eq_false, not_false_eq_true, Bool.not_eq_true', Bool.not_eq_false', beq_self_eq_true, Bool.not_true, Bool.not_false, List.getElem?_toArray, List.getElem?_cons_zero, List.getElem?_cons_succ]
    simp (disch := omega) only [↓stp, vls, inf, frs, mark_eq, ↓reduceIte, Nat.reduceEqDiff, ite_tt, ite_ff, eq_self, and_true, true_and, and_self, implies_true, Bool.true_eq_false, Bool.false_eq_true, decide_true, decide_false, decide_eq_true_eq, decide_eq_false_iff_not, ne_eq, not_true_eq_false, not_false_eq_true, Bool.not_eq_true', Bool.not_eq_false', beq_self_eq_true, Bool.not_true, Bool.not_false, List.getElem?_toArray, List.getElem?_cons_zero, List.getElem?_cons_succ, hne]
    refine adraw_items [.q 0, .q 1, .q 2, .q 3, .q 4, .q 5, .c 6 [], .q 7] (by kernel_rfl) (by kernel_rfl) ?_
    simp (disch := omega) only [↓stp, ↓pln, plv, nilOk, Nat.reduceBEq, Bool.or_false, Bool.or_true, Bool.false_or, Bool.true_or, vls, inf, frs, mark_eq, ↓reduceIte, Nat.reduceEqDiff, ite_tt, ite_ff, eq_self, and_true, true_and, and_self, implies_true, Bool.true_eq_false, Bool.false_eq_true, decide_true, decide_false, decide_eq_true_eq, decide_eq_false_iff_not, ne_eq, not_true_eq_false, not_false_eq_true, Bool.not_eq_true', Bool.not_eq_false', beq_self_eq_true, Bool.not_true, Bool.not_false, List.getElem?_toArray, List.getElem?_cons_zero, List.getElem?_cons_succ]
    have hcut0 : cutAddr (some (⟨b, 0, none⟩ : Addr)) 0 c 4 = some ⟨b, 0, none⟩ := by unfold cutAddr; rw [if_neg hc0]; simp [Addr.add]
    have hpart := part_at (A := A) (off := j * 4) (n := cells.length - j * 4) hb (by simp; omega) (fun u hu => hone u (List.mem_of_mem_drop (List.mem_of_mem_take hu)))
    rw [List.take_of_length_le (by simp)] at hpart
    have hsrc : asrc A 4 (.slice (cutAddr (some ⟨b, 0, none⟩) j c 4) (n - j) (c - j)) = some (n - j, cells.drop (j * 4)) := by
      by_cases hjl : n - j = 0
      · have : cells.drop (j * 4) = [] := List.drop_of_length_le (by omega)
        rw [this, hjl]
        cases cutAddr (some (⟨b, 0, none⟩ : Addr)) j c 4 <;> simp [asrc]
      · have hcj : ¬ c = j := by omega
        have e1 : cutAddr (some (⟨b, 0, none⟩ : Addr)) j c 4 = some ⟨b, j * 4, none⟩ := by unfold cutAddr; rw [if_neg hcj]; simp [add_at]
        rw [e1]
        unfold asrc
        simp only [hjl, if_false]
        rw [show (n - j) * 4 = cells.length - j * 4 by omega, hpart]
        rfl
    rw [hcut0]
    refine aappend_room (size := 4) (n := i) (m := n - j) (c := c) ap27_27 hb rfl hsrc (by omega) (by simp; omega) ?_
    simp (disch := omega) only [↓stp, ↓pln, plv, nilOk, Nat.reduceBEq, Bool.or_false, Bool.or_true, Bool.false_or, Bool.true_or, vls, inf, frs, mark_eq, ↓reduceIte, Nat.reduceEqDiff, ite_tt, ite_ff, eq_self, and_true, true_and, and_self, implies_true, Bool.true_eq_false, Bool.false_eq_true, decide_true, decide_false, decide_eq_true_eq, decide_eq_false_iff_not, ne_eq, not_true_eq_false, not_false_eq_true, Bool.not_eq_true', Bool.not_eq_false', beq_self_eq_true, Bool.not_true, Bool.not_false, List.getElem?_toArray, List.getElem?_cons_zero, List.getElem?_cons_succ]
    have hq : (i + (n - j) : Nat) = n - (j - i) := by omega
    rw [hq]
    generalize hV : A.set b _ = V
    have hVb : V b = some ⟨83, (cells.take (i * 4) ++ cells.drop (j * 4)) ++ cells.drop ((n - (j - i)) * 4), c * 4, true⟩ := by rw [← hV, View.set_same]
    have hcm : ¬ c = n - (j - i) := by omega
    simp (disch := omega) only [↓stp, vls, inf, frs, mark_eq, ↓reduceIte, Nat.reduceEqDiff, ite_tt, ite_ff, eq_self, and_true, true_and, and_self, implies_true, Bool.true_eq_false, Bool.false_eq_true, decide_true, decide_false, decide_eq_true_eq, decide_eq_false_iff_not, ne_eq, not_true_eq_false, not_false_eq_true, Bool.not_eq_true', Bool.not_eq_false', beq_self_eq_true, Bool.not_true, Bool.not_false, List.getElem?_toArray, List.getElem?_cons_zero, List.getElem?_cons_succ]
    have e3 : cutAddr (some (⟨b, 0, none⟩ : Addr)) (n - (j - i)) c 4 = some ⟨b, (n - (j - i)) * 4, none⟩ := by unfold cutAddr; rw [if_neg hcm]; simp [add_at]
    rw [e3]
    have htl : (cells.take (i * 4) ++ cells.drop (j * 4)).length = (n - (j - i)) * 4 := by simp; omega
    refine aclear_at (z := [.string ⟨#[]⟩, .int .i64 0, .slice none 0 0, .bool false]) (o := (n - (j - i)) * 4) (n := n - (n - (j - i))) mk27 hVb rfl (by omega) (by simp; omega) fun zs hzs => ?_
    simp (disch := omega) only [↓stp, vls, inf, frs, mark_eq, ↓reduceIte, Nat.reduceEqDiff, ite_tt, ite_ff, eq_self, and_true, true_and, and_self, implies_true, Bool.true_eq_false, Bool.false_eq_true, decide_true, decide_false, decide_eq_true_eq, decide_eq_false_iff_not, ne_eq, not_true_eq_false, not_false_eq_true, Bool.not_eq_true', Bool.not_eq_false', beq_self_eq_true, Bool.not_true, Bool.not_false, List.getElem?_toArray, List.getElem?_cons_zero, List.getElem?_cons_succ]
    refine ⟨zs, ?_, ?_⟩
    · rw [← hV, View.set_set]
      have e4 : ∀ T : List Value, T.length = (n - (n - (j - i))) * 4 → List.take ((n - (j - i)) * 4) ((cells.take (i * 4) ++ cells.drop (j * 4)) ++ T) ++ zs ++ List.drop ((n - (j - i)) * 4 + (n - (n - (j - i))) * ([.string ⟨#[]⟩, .int .i64 0, .slice none 0 0, .bool false] : List Value).length) ((cells.take (i * 4) ++ cells.drop (j * 4)) ++ T) = (cells.take (i * 4) ++ cells.drop (j * 4)) ++ zs := fun T hT => by
        have hd : ∀ (q : Nat) (X : List Value), X.length ≤ q → List.drop q X = [] := fun q X h => List.drop_of_length_le h
        rw [List.take_left' htl, hd _ ((cells.take (i * 4) ++ cells.drop (j * 4)) ++ T) (by rw [List.length_append, htl, hT]; simp), List.append_nil]
      exact congrArg (fun q => A.set b ⟨83, q, c * 4, true⟩) (e4 (cells.drop ((n - (j - i)) * 4)) (by simp; omega))
    · rw [htl, hzs]
      simp
      omega
  · rintro r A' ⟨zs, rfl, rfl, hz⟩
    have hw := Weaker.set (A := A.set b ⟨83, (cells.take (i * 4) ++ cells.drop (j * 4)) ++ zs, c * 4, true⟩) (b := b) (k2 := ⟨83, cells.take (i * 4) ++ cells.drop (j * 4), c * 4, true⟩) (View.set_same ..) rfl ⟨rfl, Nat.le_refl _, by simp; omega, zs, rfl⟩
    rw [View.set_set] at hw
    exact ⟨_, hw, rfl, rfl⟩

theorem led_deleteFixture {A V : View} {L : List It} {m k : Nat} {fp : List Nat} {v : Value} {xs : List FixtureD} (h : Led A L V) (hi : L[m]? = some (osl 83 fixtureO fp v xs)) (hk : k < xs.length) (hsm : xs.length ≤ 16777215) :
    ACalls Try.prog 70 #[v, .int .i64 k, .int .i64 (k + 1 : Nat)] V fun r W => ∃ fq, Led A (L.set m (osl 83 fixtureO fq r (xs.take k ++ xs.drop (k + 1)))) W := by
  obtain ⟨hl, ⟨rfl, rfl, rfl⟩ | ⟨b, c, cells, f, rfl, hc, rfl, hb, he⟩⟩ := (show OSl 83 fixtureO V fp v xs from h.at hi)
  · cases hk
  · have hlen : cells.length = xs.length * 4 := he.len
    obtain ⟨f1, f2, f3, c1, c2, c3, rfl, rfl, hc1, h1, h2, h3⟩ := he.at hk
    have hc1' : c1.length = k * 4 := hc1
    have hc2' : c2.length = 4 := fixtureS.len (fixtureO.toS h2)
    have hnd := h.nodup1 hi
    refine (deleteFixture_blk V b xs.length c _ k (k + 1) hb hlen he.toS.one hc (by omega) (by omega) (by omega)).mono ?_
    rintro _ W ⟨rfl, rfl⟩
    have e1 : (c1 ++ (c2 ++ c3)).take (k * 4) ++ (c1 ++ (c2 ++ c3)).drop ((k + 1) * 4) = c1 ++ c3 := by
      rw [List.take_left' hc1', ← List.append_assoc, List.drop_left' (by rw [List.length_append]; omega)]
    rw [e1]
    have hbn := (List.nodup_cons.1 hnd).1
    have hfn := (List.nodup_cons.1 hnd).2
    have h1n := List.nodup_append.1 hfn
    have h2n := List.nodup_append.1 h1n.2.1
    refine ⟨b :: (f1 ++ f3), h.swap hi (Only.set _ (List.mem_cons_self ..)) ?_ (fun x hx => ?_) (List.nodup_cons.2 ⟨fun hm => hbn ?_, List.nodup_append.2 ⟨h1n.1, h2n.2.1, fun x hx y hy => h1n.2.2 x hx y (List.mem_append_right _ hy)⟩⟩)⟩
    · have hx : ∀ {g : List Nat}, (∀ x, x ∈ g → x ∈ f1 ++ (f2 ++ f3)) → ∀ x kx, x ∈ g → V x = some kx → (V.set b ⟨83, c1 ++ c3, c * 4, true⟩) x = some kx := fun hs x kx hx hq => by
        rw [View.set_ne _ _ (fun e => hbn (by rw [← e]; exact hs x hx))]; exact hq
      refine (show OSl 83 fixtureO _ _ _ _ from ⟨by rw [List.length_append, List.length_take, List.length_drop]; omega, .inr ⟨b, c, c1 ++ c3, f1 ++ f3, ?_, by rw [List.length_append, List.length_take, List.length_drop]; omega, rfl, View.set_same .., (h1.stay (hx fun x hx => List.mem_append_left _ hx)).append (h3.stay (hx fun x hx => List.mem_append_right _ (List.mem_append_right _ hx)))⟩⟩)
      congr 1
      rw [List.length_append, List.length_take, List.length_drop]
      omega
    · refine .inl ?_
      rcases List.mem_cons.1 hx with rfl | hx
      · exact List.mem_cons_self ..
      · refine List.mem_cons_of_mem _ ?_
        rcases List.mem_append.1 hx with hx | hx
        · exact List.mem_append_left _ hx
        · exact List.mem_append_right _ (List.mem_append_right _ hx)
    · rcases List.mem_append.1 hm with hx | hx
      · exact List.mem_append_left _ hx
      · exact List.mem_append_right _ (List.mem_append_right _ hx)

end Go.Proofs.Ytfhodofbccljmaa

