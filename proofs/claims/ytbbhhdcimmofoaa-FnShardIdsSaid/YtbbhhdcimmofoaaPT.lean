/- A slice of slices of one's own, part by part. -/
import Derived.Test.YtbbhhdcimmofoaaFw12
set_option maxHeartbeats 4000000
set_option synthInstance.maxHeartbeats 400000
set_option synthInstance.maxSize 4096
set_option linter.unusedSimpArgs false
set_option linter.unusedVariables false
namespace Go.Proofs.Ytbbhhdcimmofoaa

section
variable {P : Program} {A B V W : View} {K : Value → View → Prop} {L M : List It} {α : Type} {O : OwnS α} {t e : TypeId} {b c k : Nat}

/-- A part: its blocks, its value, what it holds. -/
abbrev Prt (α : Type) := List Nat × Value × List α
def prtI (e : TypeId) (O : OwnS α) (p : Prt α) : It := osl e O p.1 p.2.1 p.2.2
def prts (b : Nat) (t e : TypeId) (O : OwnS α) (c : Nat) (ps : List (Prt α)) : List It := bx b ⟨t, ps.map (·.2.1), c, true⟩ :: ps.map (prtI e O)

theorem prts_at {ps : List (Prt α)} (h : k < ps.length) : (prts b t e O c ps)[k + 1]? = some (osl e O ps[k].1 ps[k].2.1 ps[k].2.2) := by
  unfold prts
  rw [List.getElem?_cons_succ, List.getElem?_map, List.getElem?_eq_getElem h]; rfl
theorem prts_at0 {ps : List (Prt α)} : (prts b t e O c ps)[0]? = some (bx b ⟨t, ps.map (·.2.1), c, true⟩) := rfl
theorem prts_set {ps : List (Prt α)} (k : Nat) (fp : List Nat) (v : Value) (xs : List α) : ((prts b t e O c ps).set (k + 1) (osl e O fp v xs)).set 0 (bx b ⟨t, (ps.map (·.2.1)).set k v, c, true⟩) = prts b t e O c (ps.set k (fp, v, xs)) := by
  unfold prts
  rw [List.set_cons_succ, List.set_cons_zero, List.map_set, List.map_set]
  rfl
theorem prts_cell {ps : List (Prt α)} (h : Led A (M ++ prts b t e O c ps) V) (hk : k < ps.length) : V.cell ((⟨b, 0, none⟩ : Addr).add k) = some ps[k].2.1 ∧ OSl e O V ps[k].1 ps[k].2.1 ps[k].2.2 := by
  have ho : OSl e O V ps[k].1 ps[k].2.1 ps[k].2.2 := h.at (i := M.length + (k + 1)) (by rw [List.getElem?_append_right (by omega), Nat.add_sub_cancel_left]; exact prts_at hk)
  have h1 : ps[k].2.1.oneCell' = true := by
    obtain ⟨_, ⟨hq, _⟩ | ⟨_, _, _, _, hq, _⟩⟩ := ho <;> rw [hq] <;> rfl
  have := h.cell (i := M.length) (by rw [List.getElem?_append_right (by omega), Nat.sub_self]; exact prts_at0) (o := k) (v := ps[k].2.1) (by show (ps.map (·.2.1))[k]? = _; rw [List.getElem?_map, List.getElem?_eq_getElem hk]; rfl) h1
  exact ⟨by rw [add_at]; exact this, ho⟩

theorem led_make {n bytes : Nat} {z : List Value} {kl kc : IntKind} (hT : makeT P t = some (e, bytes, z)) (hb : bytes * n ≤ 140737488355328) (h63 : n ≤ 9223372036854775807) (h : Led A L V)
    (hk : ∀ b W, Ext V W → Led A (bx b ⟨e, (List.replicate n z).flatten, n * z.length, true⟩ :: L) W → K (.slice (some ⟨b, 0, none⟩) n n) W) : amake P t (.int kl n) (.int kc n) V K :=
  amake_at hT hb h63 fun b hn => hk b _ (Ext.new hn _) (h.cons (Ext.new hn _) (bx b _) (View.set_same ..) (fun x hx => by rw [List.mem_singleton.1 hx]; exact hn) (by simp [bx]))

/-- One cell of a block is written. -/
theorem led_storeC {te te' : TypeId} {room o : Nat} {v : Value} {cells : List Value} (h : Led A L V) (i : Nat) (hi : L[i]? = some (bx b ⟨te', cells, room, true⟩)) (hs : (P.info? te).map (·.size) = some 1) (hv : v.cells = #[v] ∧ v.oneCell' = true)
    (hl : o < cells.length) (hk : ∀ W, Led A (L.set i (bx b ⟨te', cells.set o v, room, true⟩)) W → K undef W) : astore P te (.pointer (some ⟨b, o, none⟩)) v V K := by
  refine led_store h i hi hs (by rw [hv.1]; rfl) (decide_eq_true hl) (by rw [hv.1]; simpa using hv.2) fun W l => hk W ?_
  rw [hv.1] at l
  have hq := List.set_eq_take_append_cons_drop (l := cells) (i := o) (a := v)
  rw [if_pos hl] at hq
  rw [hq]
  rw [show (#[v] : Array Value).toList = [v] from rfl, List.append_assoc] at l
  exact l

/-- A new thing is put in the place of an old one. -/
theorem Led.put {jt : It} {i : Nat} (h : Led A (jt :: L) V) (hi : i < L.length) : Led A (L.set i jt) V :=
  h.swap2 (List.getElem?_eq_getElem hi) (Only.refl _ _) (h.at (i := 0) rfl) (fun b hb => .inr (.inl hb)) (h.nodup1 (i := 0) rfl)

theorem prts_new {n : Nat} (h : Led A [bx b ⟨t, (List.replicate n [Value.slice none 0 0]).flatten, n * 1, true⟩] V) : Led A (prts b t e O n (List.replicate n ([], .slice none 0 0, []))) V := by
  have hc : (List.replicate n [Value.slice none 0 0]).flatten = (List.replicate n (([] : List Nat), Value.slice none 0 0, ([] : List α))).map (·.2.1) := by
    clear h
    induction n with
    | zero => rfl
    | succ n ih => rw [List.replicate_succ, List.flatten_cons, List.replicate_succ, List.map_cons, ← ih]; rfl
  have hm : ∀ it, it ∈ (List.replicate n (([] : List Nat), Value.slice none 0 0, ([] : List α))).map (prtI e O) → it = osl e O [] (.slice none 0 0) ([] : List α) := fun it hit => by
    obtain ⟨p, hp, rfl⟩ := List.mem_map.1 hit
    rw [List.eq_of_mem_replicate hp]; rfl
  have hf : fps (prts b t e O n (List.replicate n ([], .slice none 0 0, []))) = [b] := by
    show [b] ++ fps _ = [b]
    have : ∀ M : List It, (∀ it, it ∈ M → it = osl e O [] (.slice none 0 0) ([] : List α)) → fps M = [] := by
      intro M hM
      induction M with
      | nil => rfl
      | cons it M ih =>
        show it.fp ++ fps M = []
        rw [hM it (by simp), ih fun j hj => hM j (by simp [hj])]; rfl
    rw [this _ hm, List.append_nil]
  refine ⟨h.ext, fun it hit => ?_, by rw [hf]; exact h.new, by rw [hf]; simp⟩
  rcases List.mem_cons.1 hit with rfl | hit
  · have : V b = some _ := h.at (i := 0) rfl
    rw [hc, Nat.mul_one] at this
    exact this
  · rw [hm it hit]
    exact ⟨Nat.zero_le _, .inl ⟨rfl, rfl, rfl⟩⟩
theorem prts_data {ps : List (Prt α)} {D : List (List α)} (hD : ps.map (·.2.2) = D) {k : Nat} (hk : k < ps.length) : D[k]? = some ps[k].2.2 ∧ D.getD k [] = ps[k].2.2 ∧ ps[k].2.2 ∈ D := by
  have h1 : D[k]? = some ps[k].2.2 := by rw [← hD, List.getElem?_map, List.getElem?_eq_getElem hk]; rfl
  exact ⟨h1, by rw [List.getD_eq_getElem?_getD, h1]; rfl, List.mem_of_getElem? h1⟩

theorem prts_elems : ∀ {ps : List (Prt α)}, (∀ p, p ∈ ps → OSl e O V p.1 p.2.1 p.2.2) → OElems (slO e O) V (ps.flatMap (·.1)) (ps.map (·.2.2)) (ps.map (·.2.1))
  | [], _ => .nil
  | p :: ps, h => OElems.cons (c := [p.2.1]) ⟨_, rfl, h p (List.mem_cons_self ..)⟩ (prts_elems fun q hq => h q (List.mem_cons_of_mem _ hq))
theorem prts_osl {ps : List (Prt α)} (h : Led A (prts b t e O ps.length ps) V) (hl : ps.length ≤ 140737488355328) : Led A [osl t (slO e O) (b :: ps.flatMap (·.1)) (.slice (some ⟨b, 0, none⟩) ps.length ps.length) (ps.map (·.2.2))] V := by
  have hf : fps [osl t (slO e O) (b :: ps.flatMap (·.1)) (.slice (some ⟨b, 0, none⟩) ps.length ps.length) (ps.map (·.2.2))] = fps (prts b t e O ps.length ps) := by
    simp only [fps, prts, List.flatMap_cons, List.flatMap_nil, List.append_nil, List.flatMap_map]
    rfl
  refine ⟨h.ext, fun it hit => ?_, by rw [hf]; exact h.new, by rw [hf]; exact h.nd⟩
  rw [List.mem_singleton.1 hit]
  refine ⟨by rw [List.length_map]; exact hl, .inr ⟨b, ps.length, _, _, by rw [List.length_map], by rw [List.length_map]; exact Nat.le_refl _, rfl, ?_, prts_elems fun p hp => ?_⟩⟩
  · have : V b = some _ := h.at (i := 0) rfl
    rw [this]
    show some _ = some _
    rw [show (slO e O).S.size = 1 from rfl, Nat.mul_one]
  · exact h.all (prtI e O p) (List.mem_cons_of_mem _ (List.mem_map_of_mem hp))
end

end Go.Proofs.Ytbbhhdcimmofoaa

