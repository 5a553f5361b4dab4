/- append over views: a slice of one's own may grow in place or move; what is appended is a slice, nothing or a string. -/
import Derived.Test.YtggklaimbklefaaDoorFw3
import Derived.Deep.AppendSrc
set_option maxHeartbeats 4000000
set_option synthInstance.maxHeartbeats 400000
set_option synthInstance.maxSize 4096
set_option linter.unusedSimpArgs false
set_option linter.unusedVariables false
namespace Go.Proofs.YtggklaimbklefaaDoor

variable {P : Program} {A : View} {K : Value → View → Prop}

theorem setCells_row (b : Nat) (e : TypeId) : ∀ (vs : List Value) (o : Nat) (w : World) (c : Array Value), w.heap[b]? = some (.cells c e (0, 0)) → o + vs.length ≤ c.size →
    w.setCells b o vs = w.setRow b (c.toList.take o ++ vs ++ c.toList.drop (o + vs.length)).toArray
  | [], o, w, c, hb, _ => by
    simp only [World.setCells, List.append_nil, List.length_nil, Nat.add_zero, List.take_append_drop, Array.toArray_toList]
    exact (setRow_self w b c e (0, 0) hb).symm
  | v :: vs, o, w, c, hb, hl => by
    have hset := setCell_eq_setRow w b o c e (0, 0) v hb
    have ih := setCells_row b e vs (o + 1) (w.setRow b (c.setIfInBounds o v)) (c.setIfInBounds o v) (setRow_heap w b c _ e _ hb) (by simp at hl ⊢; omega)
    simp only [World.setCells, hset, ih, setRow_setRow]
    congr 2
    have e := list_seg_step c.toList o v vs (by simp at hl ⊢; omega)
    simpa [Array.toList_setIfInBounds, Nat.add_assoc] using e

def srcKind (P : Program) (tx : TypeId) : Bool := match P.underlying tx with
  | some (.slice _) => true
  | some .string => true
  | _ => false

/-- What an append's types say: the elements' type, its cells, its bytes. -/
def appT (P : Program) (t tx : TypeId) : Option (TypeId × Nat × Nat) :=
  match P.underlying t with
  | some (.slice e) => match P.info? e with
    | some i => match i.zero with
      | some z => if z.cells.size = i.size ∧ 0 < i.size ∧ srcKind P tx = true then some (e, i.size, i.bytes) else none
      | none => none
    | none => none
  | _ => none

theorem appT_spec {t tx e : TypeId} {size bytes : Nat} (h : appT P t tx = some (e, size, bytes)) :
    ∃ i z, P.underlying t = some (.slice e) ∧ P.info? e = some i ∧ i.zero = some z ∧ i.size = size ∧ i.bytes = bytes ∧ z.cells.size = size ∧ 0 < size ∧ srcKind P tx = true := by
  unfold appT at h
  split at h
  · rename_i e' ht
    split at h
    · rename_i i hi
      split at h
      · rename_i z hz
        split at h
        · rename_i hc
          simp at h
          obtain ⟨rfl, rfl, rfl⟩ := h
          exact ⟨i, z, ht, hi, hz, rfl, rfl, hc.1, hc.2.1, hc.2.2⟩
        · simp at h
      · simp at h
    · simp at h
  · simp at h

/-- What is appended, off the view. -/
def asrc (A : View) (size : Nat) (x : Value) : Option (Nat × List Value) :=
  match x with
  | .slice none n _ => if n = 0 then some (0, []) else none
  | .slice (some a) n _ => if n = 0 then some (0, []) else (A.part a (n * size)).map fun cs => (n, cs)
  | .string s => if size = 1 then some (s.size, byteCells s) else none
  | _ => none

theorem asrc_first {w : World} {size n : Nat} {x : Value} {cs : List Value} (h : asrc A size x = some (n, cs)) (hw : Rel A w) :
    (∀ w' : World, (Builtin.lenOf x).run P w' = .ok n w') ∧ (Builtin.firstCells size n x).run P w = .ok cs.toArray w ∧ (Builtin.firstCells size n x).run P w.drew = .ok cs.toArray w.drew ∧
      cs.length = n * size ∧ ∀ u ∈ cs, u.oneCell' = true := by
  unfold asrc at h
  split at h
  · rename_i m c
    split at h
    · rename_i hm
      subst hm
      simp at h
      obtain ⟨rfl, rfl⟩ := h
      exact ⟨fun _ => rfl, run_firstCells_none w size 0 0 c, run_firstCells_none w.drew size 0 0 c, by simp, fun _ h => by cases h⟩
    · simp at h
  · rename_i a m c
    split at h
    · rename_i hm
      subst hm
      simp at h
      obtain ⟨rfl, rfl⟩ := h
      exact ⟨fun _ => rfl, run_firstCells_some w size 0 a 0 c [] (by simp) (by simp), run_firstCells_some w.drew size 0 a 0 c [] (by simp) (by simp), by simp, fun _ h => by cases h⟩
    · cases hp : A.part a (m * size) with
      | none => simp [hp] at h
      | some cs' =>
        simp [hp] at h
        obtain ⟨rfl, rfl⟩ := h
        obtain ⟨hl, hc, h1⟩ := hw.part hp
        exact ⟨fun _ => rfl, run_firstCells_some w size m a m c cs' hl hc, run_firstCells_some w.drew size m a m c cs' hl (by simpa using hc), hl, h1⟩
  · rename_i s
    split at h
    · rename_i hs
      subst hs
      simp at h
      obtain ⟨rfl, rfl⟩ := h
      exact ⟨fun _ => rfl, firstCells_string s w, firstCells_string s w.drew, by rw [byteCells_length, Nat.mul_one], fun u hu => by
        obtain ⟨_, _, rfl⟩ := List.mem_map.1 hu
        rfl⟩
    · simp at h
  · simp at h

theorem asrc_src {w : World} {size n : Nat} {tx : TypeId} {x : Value} {cs : List Value} (hk : srcKind P tx = true) (h : asrc A size x = some (n, cs)) (hw : Rel A w) : Src P size tx x n cs w := by
  obtain ⟨h1, h2, h3, h4, h5⟩ := asrc_first (P := P) h hw
  refine ⟨?_, h1, h2, h3, h4, h5⟩
  unfold srcKind at hk
  split at hk
  · rename_i e he; exact .inl ⟨e, he⟩
  · rename_i he; exact .inr he
  · simp at hk

theorem zeroCells_one {P : Program} {i : TypeInfo} (z : Array Value) (n : Nat) (hz : z.all (·.oneCell') = true) : ∀ u ∈ (Builtin.zeroCells z n).toList, u.oneCell' = true := by
  intro u hu
  simp only [Builtin.zeroCells, Array.toList_map, List.mem_map] at hu
  obtain ⟨j, hj, rfl⟩ := hu
  have hj' : j < n * z.size := by simpa [Array.toList_range] using hj
  have hpos : 0 < z.size := by
    rcases Nat.eq_zero_or_pos z.size with h | h
    · rw [h] at hj'; omega
    · exact h
  have := Nat.mod_lt j hpos
  rw [getElem!_pos z (j % z.size) this]
  exact Array.all_eq_true.1 hz _ this

/-- A new array. -/
theorem aappend_fresh {t tx ty e : TypeId} {size bytes n m c : Nat} {base : Option Addr} {x : Value} {olds news : List Value} (hT : appT P t tx = some (e, size, bytes))
    (ho : asrc A size (.slice base n c) = some (n, olds)) (hs : asrc A size x = some (m, news)) (hg : c < n + m) (hb : (n + m) * bytes ≤ 140737488355328) (h63 : n + m ≤ 9223372036854775807)
    (h : ∀ b' c', A b' = none → n + m ≤ c' → K (.slice (some ⟨b', 0, none⟩) (n + m) c') (A.set b' ⟨e, olds ++ news, c' * size, true⟩)) : aappend P #[t, tx] ty #[.slice base n c, x] A K := by
  intro w hw
  obtain ⟨i, z, ht, hi, hz, rfl, rfl, hzs, hpos, hk⟩ := appT_spec hT
  obtain ⟨_, _, hof, holen, ho1⟩ := asrc_first (P := P) ho hw
  have hsrc := asrc_src (P := P) hk hs hw
  have hfit : Builtin.nextslicecap (n + m) c * i.bytes ≤ 281474976710656 := by
    have h1 := nextslicecap_le hg
    have h2 : Builtin.nextslicecap (n + m) c * i.bytes ≤ 2 * (n + m) * i.bytes := Nat.mul_le_mul_right _ h1
    have h3 : 2 * (n + m) * i.bytes = 2 * ((n + m) * i.bytes) := Nat.mul_assoc _ _ _
    omega
  have hr := run_append_grow_src (P := P) w t tx ty e i z ht hi hz base n c olds hof x m news hsrc hg (by omega) hfit
  have hge := grownCap_ge w (n + m) c e
  have hlen : (olds ++ news).length = (n + m) * i.size := by rw [List.length_append, holen, hsrc.newsLen, Nat.add_mul]
  have hrest : (olds ++ news).length + (Builtin.zeroCells z.cells (grownCap w (n + m) c e - (n + m))).toList.length = grownCap w (n + m) c e * i.size := by
    rw [hlen, Array.length_toList, size_zeroCells, hzs, ← Nat.add_mul]; congr 1; omega
  have hn := hw.drew.new e (olds ++ news) (fun u hu => (List.mem_append.1 hu).elim (ho1 u) (hsrc.one u)) (Builtin.zeroCells z.cells (grownCap w (n + m) c e - (n + m))).toList
  have harr : (olds ++ news ++ (Builtin.zeroCells z.cells (grownCap w (n + m) c e - (n + m))).toList).toArray = (olds ++ news).toArray ++ Builtin.zeroCells z.cells (grownCap w (n + m) c e - (n + m)) := by
    apply Array.ext'
    simp
  rw [hrest, harr] at hn
  exact ⟨_, _, _, hr, h w.heap.size _ hn.1 hge, hn.2.1, (Step.drew A w).trans hn.2.2⟩

/-- In place, over cells that are known. -/
theorem aappend_room {t tx ty e : TypeId} {size bytes b n m c : Nat} {k : Blk} {x : Value} {news : List Value} (hT : appT P t tx = some (e, size, bytes)) (hb : A b = some k) (hown : k.own = true)
    (hs : asrc A size x = some (m, news)) (hroom : n + m ≤ c) (hfit : (n + m) * size ≤ k.cells.length)
    (h : K (.slice (some ⟨b, 0, none⟩) (n + m) c) (A.set b ⟨k.ty, k.cells.take (n * size) ++ news ++ k.cells.drop ((n + m) * size), k.room, true⟩)) :
    aappend P #[t, tx] ty #[.slice (some ⟨b, 0, none⟩) n c, x] A K := by
  intro w hw
  obtain ⟨i, z, ht, hi, hz, rfl, rfl, hzs, hpos, hk⟩ := appT_spec hT
  have hsrc := asrc_src (P := P) hk hs hw
  obtain ⟨⟨cur, fz, hcell, hcs, hl, htk, hf⟩, hone⟩ := hw _ _ hb; have hone := hone hown
  obtain rfl := hf hown
  have hnl := hsrc.newsLen
  have hnm : (n + m) * i.size = n * i.size + m * i.size := Nat.add_mul _ _ _
  have hfit' : n * i.size + news.length ≤ cur.size := by omega
  have hr := run_append_room_src (P := P) w t tx ty e i ht hi b 0 n c x m news hsrc hroom
    (fun j hj => by simp only [Nat.zero_add, World.cell?, hcell]; simp; omega) (fun j hj => by simp [World.frozen?, hcell])
  rw [Nat.zero_add, setCells_row b k.ty news (n * i.size) w cur hcell hfit'] at hr
  have hget : ∀ j, j < k.cells.length → cur.toList[j]? = k.cells[j]? := fun j hj => by rw [← htk, List.getElem?_take, if_pos (by simpa using hj)]
  have hw1 := hw.write (c' := (cur.toList.take (n * i.size) ++ news ++ cur.toList.drop (n * i.size + news.length)).toArray)
    (cs := k.cells.take (n * i.size) ++ news ++ k.cells.drop ((n + m) * i.size)) hb hown (by simp; omega) (by simp; omega) (by
      apply List.ext_getElem?
      intro j
      simp only [List.getElem?_take, List.length_append, List.length_take, List.length_drop, List.getElem?_append, List.getElem?_drop, Array.length_toList]
      by_cases hj : j < k.cells.length
      · have h1 := hget j hj
        have h2 := fun (hh : ¬ j < n * i.size + news.length) => hget (n * i.size + news.length + (j - (n * i.size + news.length))) (by omega)
        rw [if_pos (by omega), Nat.min_eq_left (by omega), Nat.min_eq_left (by omega)]
        split
        · split
          · first | exact h1 | (rw [if_pos (by omega)]; exact h1)
          · rfl
        · rename_i hh
          rw [h2 hh, show (n + m) * i.size = n * i.size + news.length by omega]
      · rw [if_neg (by omega), if_neg (by omega), List.getElem?_eq_none (by omega)]) (fun u hu => by
      simp only [List.mem_append] at hu
      rcases hu with (h | h) | h
      · exact hone u (List.mem_of_mem_take h)
      · exact hsrc.one u h
      · exact hone u (List.mem_of_mem_drop h))
  exact ⟨_, _, _, hr, h, hw1.1, hw1.2⟩

/-- A slice of one's own: it may grow in place, or move. -/
theorem aappend_own {t tx ty e : TypeId} {size bytes b n m c : Nat} {x : Value} {xs news : List Value} (hT : appT P t tx = some (e, size, bytes)) (hb : A b = some ⟨e, xs, c * size, true⟩) (hx : xs.length = n * size)
    (hs : asrc A size x = some (m, news)) (hby : (n + m) * bytes ≤ 140737488355328) (h63 : n + m ≤ 9223372036854775807)
    (h : ∀ b' c', (A.kill b) b' = none → n + m ≤ c' → K (.slice (some ⟨b', 0, none⟩) (n + m) c') ((A.kill b).set b' ⟨e, xs ++ news, c' * size, true⟩)) :
    aappend P #[t, tx] ty #[.slice (some ⟨b, 0, none⟩) n c, x] A K := by
  have hkill : ∀ x k, (A.kill b) x = some k → A x = some k := fun x k hk => by
    by_cases hxb : x = b
    · subst hxb; rw [View.kill_same] at hk; cases hk
    · rwa [View.kill_ne _ hxb] at hk
  by_cases hroom : n + m ≤ c
  · intro w hw
    obtain ⟨i, z, ht, hi, hz, rfl, rfl, hzs, hpos, hk⟩ := appT_spec hT
    have hsrc := asrc_src (P := P) hk hs hw
    obtain ⟨⟨cur, fz, hcell, hcs, hl, htk, hf⟩, hone⟩ := hw _ _ hb; have hone := hone rfl
    obtain rfl := hf rfl
    simp only at hcell hcs hl htk hone
    have hnl := hsrc.newsLen
    have hmul : (n + m) * i.size ≤ c * i.size := Nat.mul_le_mul_right _ hroom
    have hnm : (n + m) * i.size = n * i.size + m * i.size := Nat.add_mul _ _ _
    have hfit' : n * i.size + news.length ≤ cur.size := by omega
    have hr := run_append_room_src (P := P) w t tx ty e i ht hi b 0 n c x m news hsrc hroom
      (fun j hj => by simp only [Nat.zero_add, World.cell?, hcell]; simp; omega) (fun j hj => by simp [World.frozen?, hcell])
    rw [Nat.zero_add, setCells_row b e news (n * i.size) w cur hcell hfit'] at hr
    have hw1 := hw.write (c' := (cur.toList.take (n * i.size) ++ news ++ cur.toList.drop (n * i.size + news.length)).toArray) (cs := xs ++ news) hb rfl
      (by simp; omega) (by simp; omega) (by
        rw [← hx, htk, List.length_append]
        exact List.take_left' (by simp)) (fun u hu => (List.mem_append.1 hu).elim (hone u) (hsrc.one u))
    refine ⟨_, _, _, hr, h b c (View.kill_same A b) hroom, ?_, ?_⟩
    · refine hw1.1.forget fun x k hk => ?_
      by_cases hxb : x = b
      · subst hxb; rw [View.set_same] at hk ⊢; exact hk
      · rw [View.set_ne _ _ hxb] at hk ⊢; exact hkill x k hk
    · refine hw1.2.trans (Step.forget _ fun x k hk => ?_)
      by_cases hxb : x = b
      · subst hxb; rw [View.set_same] at hk ⊢; exact hk
      · rw [View.set_ne _ _ hxb] at hk ⊢; exact hkill x k hk
  · refine fun w hw => ?_
    have ho : asrc A size (.slice (some ⟨b, 0, none⟩) n c) = some (n, xs) := by
      unfold asrc
      split
      · rename_i heq; cases heq
      · rename_i heq
        injection heq with h1 h2 h3
        obtain rfl := Option.some.inj h1
        subst h2
        split
        · rename_i hn; subst hn
          simp at hx; subst hx; rfl
        · have h1 : ∀ v ∈ xs, v.oneCell' = true := (hw _ _ hb).one rfl
          have := View.part_mk (A := A) (a := ⟨b, 0, none⟩) (n := n * size) rfl hb (by simp [hx]) (by simpa [← hx] using h1)
          rw [this]; simp [← hx]
      · rename_i heq; cases heq
      · rename_i h1 h2 h3; exact (h2 _ _ _ rfl).elim
    obtain ⟨v, w', A', hr, hK, hrel, hst⟩ := aappend_fresh (K := fun v A' => ∃ A2, K v A2 ∧ ∀ x k, A2 x = some k → A' x = some k) (ty := ty) hT ho hs (by omega) hby h63 (fun b' c' hb' hle => by
      refine ⟨_, h b' c' ?_ hle, fun x k hk => ?_⟩
      · by_cases hbb : b' = b
        · subst hbb; exact View.kill_same A b'
        · rw [View.kill_ne _ hbb]; exact hb'
      · by_cases hxb : x = b'
        · subst hxb; rw [View.set_same] at hk ⊢; exact hk
        · rw [View.set_ne _ _ hxb] at hk ⊢; exact hkill x k hk) w hw
    obtain ⟨A2, hK2, hf⟩ := hK
    exact ⟨v, w', A2, hr, hK2, hrel.forget hf, hst.trans (Step.forget _ hf)⟩

/-- Nothing appended to nil. -/
theorem aappend_nil0 {t tx ty e : TypeId} {size bytes : Nat} {x : Value} {news : List Value} (hT : appT P t tx = some (e, size, bytes)) (hs : asrc A size x = some (0, news)) (h : K (.slice none 0 0) A) :
    aappend P #[t, tx] ty #[.slice none 0 0, x] A K := by
  intro w hw
  obtain ⟨i, z, ht, hi, hz, rfl, rfl, hzs, hpos, hk⟩ := appT_spec hT
  have hsrc := asrc_src (P := P) hk hs hw
  refine ⟨_, w, A, ?_, h, hw, Step.refl A w⟩
  have hn : news = [] := List.eq_nil_of_length_eq_zero (by simpa using hsrc.newsLen)
  subst hn
  rcases hsrc.kind with ⟨e', hk⟩ | hk <;> simp [Builtin.append_, run_underlying ht, run_underlying hk, sizeOf, typeInfo, hi, hsrc.len, hsrc.cells]

end Go.Proofs.YtggklaimbklefaaDoor

