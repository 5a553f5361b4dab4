/- Slices copied, cut, clipped. -/
import Derived.Test.YtbddklkfekiaeaaC3
set_option maxHeartbeats 4000000
set_option synthInstance.maxHeartbeats 400000
set_option synthInstance.maxSize 4096
set_option linter.unusedSimpArgs false
set_option linter.unusedVariables false
namespace Go.Proofs.Ytbddklkfekiaeaa

set_option maxRecDepth 100000

/-- A slice of one's own, read: its elements as they are known beside its block. -/
theorem OSl.toR {α : Type} {e : TypeId} {O : OwnS α} {A : View} {fp : List Nat} {v : Value} {xs : List α} (h : OSl e O A fp v xs) (hnd : fp.Nodup) : ∃ fq B, (∀ b, b ∈ fq → b ∈ fp) ∧ RSl e O.S B A fq v xs ∧ (∀ V, Only fq A V → Ext B V) := by
  obtain ⟨hl, ⟨rfl, rfl, rfl⟩ | ⟨b, c, cells, f, rfl, hc, rfl, hb, he⟩⟩ := h
  · exact ⟨[], A, fun _ h => h, ⟨hl, .inl ⟨rfl, rfl, rfl⟩⟩, fun V h => Only.toExt h⟩
  · refine ⟨[b], A.kill b, fun x hx => by rw [List.mem_singleton.1 hx]; exact List.mem_cons_self .., ⟨hl, .inr ⟨b, c, cells, rfl, hc, rfl, hb, (he.stay fun x k hx hk => ?_).toS⟩⟩, fun V h x k hk => ?_⟩
    · rw [View.kill_ne _ (fun e => (List.nodup_cons.1 hnd).1 (by rw [← e]; exact hx))]; exact hk
    · by_cases hxb : x = b
      · subst hxb; rw [View.kill_same] at hk; cases hk
      · rw [View.kill_ne _ hxb] at hk
        exact h x k (by simpa using hxb) hk
theorem RSl.toO {α : Type} {e : TypeId} {O : OwnS α} [Flat O] {A B : View} {fp : List Nat} {v : Value} {xs : List α} (h : RSl e O.S B A fp v xs) : OSl e O A fp v xs := by
  obtain ⟨hl, ⟨rfl, rfl, rfl⟩ | ⟨b, c, cells, rfl, hc, rfl, hb, he⟩⟩ := h
  · exact ⟨hl, .inl ⟨rfl, rfl, rfl⟩⟩
  · exact ⟨hl, .inr ⟨b, c, cells, [], rfl, hc, rfl, hb, OElems.flatE he⟩⟩
theorem OSl.toRflat {α : Type} {e : TypeId} {O : OwnS α} [Flat O] {A : View} {fp : List Nat} {v : Value} {xs : List α} (h : OSl e O A fp v xs) : ∃ B, RSl e O.S B A fp v xs := by
  obtain ⟨hl, ⟨rfl, rfl, rfl⟩ | ⟨b, c, cells, f, rfl, hc, rfl, hb, he⟩⟩ := h
  · exact ⟨A, hl, .inl ⟨rfl, rfl, rfl⟩⟩
  · obtain rfl := he.flatN
    exact ⟨A, hl, .inr ⟨b, c, cells, rfl, hc, rfl, hb, he.toS⟩⟩

theorem cloneString_c (A : View) (v : Value) (xs : List ByteArray) (h : Sl strS A v xs) (hsm : xs.length ≤ 16777216) : ACalls Try.prog 92 #[v] A fun r A' => NewSl 9 strO A r A' xs := by
  obtain ⟨a, c, rfl, hc, hl⟩ := h.slice
  cases a with
  | none =>
    have hx : xs = [] := by
      obtain ⟨_, a, c, h1, _, h3⟩ := h
      cases xs with
      | nil => rfl
      | cons x xs =>
        injection h1 with h1
        obtain ⟨ad, _, h4, _⟩ := h3 (by simp)
        rw [h4] at h1; cases h1
    subst hx
    refine acalls Try.func92 rfl (by kernel_rfl) ?_
    simp (disch := omega) only [↓stp, vls, inf, frs, mark_eq, ↓reduceIte, Nat.reduceEqDiff, ite_tt, ite_ff, eq_self, and_true, true_and, and_self, implies_true, Bool.true_eq_false, Bool.false_eq_true, decide_true, decide_false, decide_eq_true_eq, decide_eq_false_iff_not, ne_eq, not_true_eq_false, not_false_eq_true, Bool.not_eq_true', Bool.not_eq_false', beq_self_eq_true, Bool.not_true, Bool.not_false, List.getElem?_toArray, List.getElem?_cons_zero, List.getElem?_cons_succ]
    exact NewSl.nil (Ext.refl _)
  | some ad =>
    refine acalls Try.func92 rfl (by kernel_rfl) ?_
    simp (disch := omega) only [↓stp, vls, inf, frs, mark_eq, ↓reduceIte, Nat.reduceEqDiff, ite_tt, ite_ff, eq_self, and_true, true_and, and_self, implies_true, Bool.true_eq_false, Bool.false_eq_true, decide_true, decide_false, decide_eq_true_eq, decide_eq_false_iff_not, ne_eq, not_true_eq_false, not_false_eq_true, Bool.not_eq_true', Bool.not_eq_false', beq_self_eq_true, Bool.not_true, Bool.not_false, List.getElem?_toArray, List.getElem?_cons_zero, List.getElem?_cons_succ]
    refine led_lit0 (O := strO) li25 (Led.nil A) fun b V he l => ?_
    simp (disch := omega) only [↓stp, vls, inf, frs, mark_eq, ↓reduceIte, Nat.reduceEqDiff, ite_tt, ite_ff, eq_self, and_true, true_and, and_self, implies_true, Bool.true_eq_false, Bool.false_eq_true, decide_true, decide_false, decide_eq_true_eq, decide_eq_false_iff_not, ne_eq, not_true_eq_false, not_false_eq_true, Bool.not_eq_true', Bool.not_eq_false', beq_self_eq_true, Bool.not_true, Bool.not_false, List.getElem?_toArray, List.getElem?_cons_zero, List.getElem?_cons_succ]
    refine led_app (O := strO) ap25_25 (by decide) l (i := 0) rfl (Sl.srcOf (h.mono he)) (by simpa using hsm) fun fp' w' W _ l => ?_
    simp (disch := omega) only [↓stp, vls, inf, frs, mark_eq, ↓reduceIte, Nat.reduceEqDiff, ite_tt, ite_ff, eq_self, and_true, true_and, and_self, implies_true, Bool.true_eq_false, Bool.false_eq_true, decide_true, decide_false, decide_eq_true_eq, decide_eq_false_iff_not, ne_eq, not_true_eq_false, not_false_eq_true, Bool.not_eq_true', Bool.not_eq_false', beq_self_eq_true, Bool.not_true, Bool.not_false, List.getElem?_toArray, List.getElem?_cons_zero, List.getElem?_cons_succ]
    exact NewSl.of (i := 0) l rfl

theorem Led.regroup {A V : View} {L M : List It} (h : Led A L V) (hp : (fps M).Perm (fps L)) (hφ : ∀ it, it ∈ M → it.φ V) : Led A M V :=
  ⟨h.ext, hφ, fun b hb => h.new b (hp.mem_iff.1 hb), hp.nodup_iff.2 h.nd⟩
/-- Two things as one. -/
theorem Led.join2 {A V : View} {it1 it2 jt : It} {L : List It} (h : Led A (it1 :: it2 :: L) V) (hfp : jt.fp = it2.fp ++ it1.fp) (hφ : jt.φ V) : Led A (jt :: L) V := by
  refine h.regroup ?_ fun it hit => ?_
  · simp only [fps, List.flatMap_cons, hfp]
    rw [← List.append_assoc]
    exact List.Perm.append_right _ List.perm_append_comm
  · rcases List.mem_cons.1 hit with rfl | hit
    · exact hφ
    · exact h.all it (List.mem_cons_of_mem _ (List.mem_cons_of_mem _ hit))
/-- One thing as two. -/
theorem Led.split2 {A V : View} {it1 it2 jt : It} {L : List It} (h : Led A (jt :: L) V) (hfp : jt.fp = it1.fp ++ it2.fp) (h1 : it1.φ V) (h2 : it2.φ V) : Led A (it1 :: it2 :: L) V := by
  refine h.regroup ?_ fun it hit => ?_
  · simp only [fps, List.flatMap_cons, hfp, List.append_assoc]
    exact List.Perm.refl _
  · rcases List.mem_cons.1 hit with rfl | hit
    · exact h1
    · rcases List.mem_cons.1 hit with rfl | hit
      · exact h2
      · exact h.all it (List.mem_cons_of_mem _ hit)

/-- A struct of one's own that came of a call. -/
def NewOc {α : Type} (O : OwnS α) (A : View) (r : Value) (A' : View) (x : α) : Prop := ∃ fp cells, r = .agg cells.toArray ∧ Led A [oc O fp x cells] A'
theorem NewOc.base {α : Type} {O : OwnS α} {A B A' : View} {r : Value} {x : α} (h : NewOc O B r A' x) (he : Ext A B) : NewOc O A r A' x := let ⟨fp, c, e, h⟩ := h; ⟨fp, c, e, h.base he⟩

theorem Led.openAt {α : Type} {O : OwnS α} {e : TypeId} {A V : View} {L : List It} {fp : List Nat} {v : Value} {xs : List α} {k : Nat} (h : Led A (osl e O fp v xs :: L) V) (hk : k < xs.length) :
    ∃ b c c1 c2 c3 f1 f2 f3, v = .slice (some ⟨b, 0, none⟩) xs.length c ∧ xs.length ≤ c ∧ c1.length = k * O.S.size ∧ Led A (bx b ⟨e, c1 ++ (c2 ++ c3), c * O.S.size, true⟩ :: oc O f2 xs[k] c2 :: oel O f1 (xs.take k) c1 :: oel O f3 (xs.drop (k + 1)) c3 :: L) V := by
  obtain ⟨hl, ⟨rfl, rfl, rfl⟩ | ⟨b, c, cells, f, rfl, hc, rfl, hb, he⟩⟩ := (show OSl e O V fp v xs from h.at (i := 0) rfl)
  · cases hk
  · obtain ⟨f1, f2, f3, c1, c2, c3, rfl, rfl, hc1, h1, h2, h3⟩ := he.at hk
    refine ⟨b, c, c1, c2, c3, f1, f2, f3, rfl, hc, hc1, h.regroup ?_ fun it hit => ?_⟩
    · simp only [fps, List.flatMap_cons, bx, oc, oel, osl, List.cons_append, List.nil_append, List.append_assoc]
      exact (List.perm_append_comm_assoc ..).cons _
    · simp only [List.mem_cons] at hit
      rcases hit with rfl | rfl | rfl | rfl | hit
      · exact hb
      · exact h2
      · exact h1
      · exact h3
      · exact h.all it (List.mem_cons_of_mem _ hit)
theorem Led.closeAt {α : Type} {O : OwnS α} {e : TypeId} {A V : View} {L : List It} {xs : List α} {k b c : Nat} {x' : α} {c1 c2 c3 : List Value} {f1 f2 f3 : List Nat} (h : Led A (bx b ⟨e, c1 ++ (c2 ++ c3), c * O.S.size, true⟩ :: oc O f2 x' c2 :: oel O f1 (xs.take k) c1 :: oel O f3 (xs.drop (k + 1)) c3 :: L) V) (hk : k < xs.length) (hc : xs.length ≤ c) (hl : xs.length ≤ 140737488355328) :
    Led A (osl e O (b :: (f1 ++ (f2 ++ f3))) (.slice (some ⟨b, 0, none⟩) xs.length c) (xs.set k x') :: L) V := by
  refine h.regroup ?_ fun it hit => ?_
  · simp only [fps, List.flatMap_cons, bx, oc, oel, osl, List.cons_append, List.nil_append, List.append_assoc]
    exact (List.perm_append_comm_assoc ..).cons _
  · rcases List.mem_cons.1 hit with rfl | hit
    · have h1 : OElems O V f1 (xs.take k) c1 := h.at (i := 2) rfl
      have h2 : O.rel V f2 x' c2 := h.at (i := 1) rfl
      have h3 : OElems O V f3 (xs.drop (k + 1)) c3 := h.at (i := 3) rfl
      have hb : V b = some ⟨e, c1 ++ (c2 ++ c3), c * O.S.size, true⟩ := h.at (i := 0) rfl
      have hs : xs.set k x' = xs.take k ++ (x' :: xs.drop (k + 1)) := by rw [List.set_eq_take_append_cons_drop, if_pos hk]
      show OSl e O V _ _ _
      rw [hs]
      have hlen : (xs.take k ++ (x' :: xs.drop (k + 1))).length = xs.length := by rw [← hs, List.length_set]
      exact ⟨by omega, .inr ⟨b, c, _, _, by rw [hlen], by omega, rfl, hb, h1.append (.cons h2 h3)⟩⟩
    · exact h.all it (List.mem_cons_of_mem _ (List.mem_cons_of_mem _ (List.mem_cons_of_mem _ (List.mem_cons_of_mem _ hit))))

/-- One thing to the front. -/
theorem front_perm {α : Type} : ∀ (L : List α) (i : Nat) (hi : i < L.length), (L[i] :: L.eraseIdx i).Perm L
  | [], _, hi => absurd hi (Nat.not_lt_zero _)
  | _ :: _, 0, _ => List.Perm.refl _
  | x :: L, i + 1, hi => (List.Perm.swap ..).trans ((front_perm L i (Nat.lt_of_succ_lt_succ hi)).cons x)
theorem Led.front {A V : View} {L : List It} (h : Led A L V) (i : Nat) (hi : i < L.length) : Led A (L[i] :: L.eraseIdx i) V := h.perm (front_perm L i hi)
theorem asrc_ext {A V : View} (he : Ext A V) {size : Nat} {x : Value} {r : Nat × List Value} (h : asrc A size x = some r) : asrc V size x = some r := by
  unfold asrc at h ⊢
  split at h
  · exact h
  · split at h
    · rename_i h0; rw [if_pos h0]; exact h
    · rename_i h0
      rw [if_neg h0]
      rw [Option.map_eq_some_iff] at h ⊢
      obtain ⟨cs, hp, hq⟩ := h
      exact ⟨cs, he.part hp, hq⟩
  · exact h
  · cases h
/-- Elements that are read, appended: from a slice that is read. -/
theorem led_appS {α : Type} {S : Shape α} {P : Program} {K : Value → View → Prop} {A B V : View} {L : List It} {t tx ty e : TypeId} {bytes i : Nat} {fp : List Nat} {v u : Value} {xs ys : List α} (hT : appT P t tx = some (e, S.size, bytes)) (hby : bytes ≤ 1024) (h : Led A L V) (hi : L[i]? = some (rsl e S B fp v xs))
    (hs : Sl S B u ys) (he : Ext B V) (hsm : xs.length + ys.length ≤ 16777216) (hk : ∀ fp' v' W, Only fp V W → Led A (L.set i (rsl e S B fp' v' (xs ++ ys))) W → K v' W) : aappend P #[t, tx] ty #[v, u] V K := by
  obtain ⟨cells, h1, h2⟩ := hs.srcOf
  exact led_appR hT hby h hi (asrc_ext he h1) h2 hsm hk

end Go.Proofs.Ytbddklkfekiaeaa

