/- Maps keyed by int, as a function from keys to values: what an operation on the map does, over any program. -/
import Derived.WalkKit
import Derived.Maps.RangeRun
import Derived.Maps.Keyed
import Derived.Maps.RangeWalk
set_option linter.unusedVariables false
set_option linter.unusedSimpArgs false
namespace Go.Proofs.Ytcaalfpfkalalaa
open Go.RowKit Go.MapKept
open Go.ChangeMaps (setBlock)

/-- The value at a key. -/
def entAt (es : Array MapEntry) (k : Int) : Option Value := (es.toList.find? (fun e => match e.key with | .int .i64 n => n == k | _ => false)).map (·.val)

structure MapOk (es : Array MapEntry) (clock : Nat) : Prop where
  keys : ∀ e ∈ es.toList, ∃ n, e.key = .int .i64 n
  nodup : es.toList.Pairwise (fun a b => a.key ≠ b.key)
  born : ∀ e ∈ es.toList, e.born < clock
  bornNodup : (es.toList.map (·.born)).Nodup

/-- Block b is a map that holds f. -/
def MapIs (w : World) (b : Nat) (f : Int → Option Value) : Prop :=
  ∃ es clock, w.heap[b]? = some (.map es clock) ∧ MapOk es clock ∧ ∀ k, entAt es k = f k

theorem entAt_some {es : Array MapEntry} {clock : Nat} (h : MapOk es clock) {k : Int} {v : Value} (hv : entAt es k = some v) : ∃ e ∈ es.toList, e.key = .int .i64 k ∧ e.val = v := by
  unfold entAt at hv
  obtain ⟨e, he, rfl⟩ := Option.map_eq_some_iff.1 hv
  have hm := List.mem_of_find?_eq_some he
  have hp := List.find?_some he
  obtain ⟨n, hn⟩ := h.keys e hm
  simp only [hn, beq_iff_eq] at hp
  subst hp
  exact ⟨e, hm, hn, rfl⟩
theorem entAt_mem_aux : ∀ (l : List MapEntry), l.Pairwise (fun a b => a.key ≠ b.key) → ∀ e ∈ l, ∀ k, e.key = .int .i64 k →
    l.find? (fun e => match e.key with | .int .i64 n => n == k | _ => false) = some e
  | [], _, _, he, _, _ => by simp at he
  | a :: r, hp, e, he, k, hk => by
    obtain ⟨h1, h2⟩ := List.pairwise_cons.1 hp
    rcases List.mem_cons.1 he with rfl | he'
    · simp [List.find?_cons, hk]
    · have hne := h1 e he'
      rw [List.find?_cons]
      have hf : (match a.key with | .int .i64 n => n == k | _ => false) = false := by
        split
        · rename_i n hn
          rw [beq_eq_false_iff_ne]
          intro e0
          exact hne (by rw [hn, hk, e0])
        · rfl
      rw [hf]
      exact entAt_mem_aux r h2 e he' k hk
theorem entAt_mem {es : Array MapEntry} {clock : Nat} (h : MapOk es clock) {e : MapEntry} (he : e ∈ es.toList) {k : Int} (hk : e.key = .int .i64 k) : entAt es k = some e.val := by
  unfold entAt
  rw [entAt_mem_aux es.toList h.nodup e he k hk]
  rfl
theorem entAt_none {es : Array MapEntry} {k : Int} (h : ∀ e ∈ es.toList, e.key ≠ .int .i64 k) : entAt es k = none := by
  unfold entAt
  rw [Option.map_eq_none_iff, List.find?_eq_none]
  intro e he
  split
  · rename_i n hn
    intro e0
    rw [beq_iff_eq] at e0
    exact h e he (by rw [hn, e0])
  · simp
theorem entAt_iff {es : Array MapEntry} {clock : Nat} (h : MapOk es clock) (k : Int) (v : Value) : entAt es k = some v ↔ ∃ e ∈ es.toList, e.key = .int .i64 k ∧ e.val = v :=
  ⟨entAt_some h, fun ⟨_, he, hk, hv⟩ => by rw [entAt_mem h he hk, hv]⟩
theorem entAt_ext {es : Array MapEntry} {clock : Nat} (h : MapOk es clock) (k : Int) (o : Option Value)
    (h1 : ∀ v, o = some v → ∃ e ∈ es.toList, e.key = .int .i64 k ∧ e.val = v) (h2 : ∀ e ∈ es.toList, e.key = .int .i64 k → o = some e.val) : entAt es k = o := by
  cases ho : o with
  | none =>
    refine entAt_none fun e he hk => ?_
    have := h2 e he hk
    rw [ho] at this; cases this
  | some v =>
    exact (entAt_iff h k v).2 (h1 v ho)

section
variable {P : Program} {w : World} {T K E bm : Nat} {f : Int → Option Value}

theorem map_find (hK : P.underlying K = some (.int .i64)) {es : Array MapEntry} {clock : Nat} (h : MapOk es clock) (k : Int) :
    ((Instr.findKey K (.int .i64 k) es.toList).run P w = .ok none w ∧ entAt es k = none) ∨
    ∃ j e, (Instr.findKey K (.int .i64 k) es.toList).run P w = .ok (some (j, e.val)) w ∧ es[j]? = some e ∧ e.key = .int .i64 k ∧ entAt es k = some e.val := by
  rcases findNow_spec (d := .int .i64) (k := .int .i64 k) (by simp [IsKey]) es.toList 0 (fun x hx => by obtain ⟨n, hn⟩ := h.keys x hx; simp [IsKey, hn]) with ⟨h1, h2⟩ | ⟨j, e0, h1, h2, h3⟩
  · exact Or.inl ⟨run_findKey hK h1, entAt_none h2⟩
  · refine Or.inr ⟨j, e0, by simpa using run_findKey hK h1, by simpa using h2, h3, entAt_mem h (List.mem_of_getElem? h2) h3⟩

theorem map_lookup (hT : P.underlying T = some (.map K E)) (hK : P.underlying K = some (.int .i64)) {z : Value} (hz : (zeroValue E).run P w = .ok z w) (h : MapIs w bm f) (k : Int) :
    (Instr.lookup T (.map (some bm)) (.int .i64 k) false).run P w = .ok ((f k).getD z) w := by
  obtain ⟨es, clock, hb, hm, hf⟩ := h
  have hc := run_checkKey (w := w) hK (show IsKey (.int .i64) (.int .i64 k) by simp [IsKey]) es.isEmpty 9999
  rcases map_find (w := w) hK hm k with ⟨h1, h2⟩ | ⟨j, e, h1, h2, h3, h4⟩
  · simp [Instr.lookup, run_underlying hT, MapKept.run_getObj_map hb, hc, h1, hz, Result.andThen, ← hf k, h2]
  · simp [Instr.lookup, run_underlying hT, MapKept.run_getObj_map hb, hc, h1, Result.andThen, ← hf k, h4]

theorem map_lookup_ok (hT : P.underlying T = some (.map K E)) (hK : P.underlying K = some (.int .i64)) {z : Value} (hz : (zeroValue E).run P w = .ok z w) (h : MapIs w bm f) (k : Int) :
    (Instr.lookup T (.map (some bm)) (.int .i64 k) true).run P w = .ok (.tuple #[(f k).getD z, .bool (f k).isSome]) w := by
  obtain ⟨es, clock, hb, hm, hf⟩ := h
  have hc := run_checkKey (w := w) hK (show IsKey (.int .i64) (.int .i64 k) by simp [IsKey]) es.isEmpty 9999
  rcases map_find (w := w) hK hm k with ⟨h1, h2⟩ | ⟨j, e, h1, h2, h3, h4⟩
  · simp [Instr.lookup, run_underlying hT, MapKept.run_getObj_map hb, hc, h1, hz, Result.andThen, ← hf k, h2]
  · simp [Instr.lookup, run_underlying hT, MapKept.run_getObj_map hb, hc, h1, Result.andThen, ← hf k, h4]

theorem mapOk_push {es : Array MapEntry} {clock : Nat} (h : MapOk es clock) {k : Int} (hn : entAt es k = none) (v : Value) : MapOk (es.push { key := .int .i64 k, val := v, born := clock }) (clock + 1) := by
  have hne : ∀ e ∈ es.toList, e.key ≠ .int .i64 k := fun e he hk => by rw [entAt_mem h he hk] at hn; cases hn
  refine ⟨fun e he => ?_, ?_, fun e he => ?_, ?_⟩
  · simp only [Array.toList_push, List.mem_append, List.mem_singleton] at he
    rcases he with he | rfl
    · exact h.keys e he
    · exact ⟨k, rfl⟩
  · simp only [Array.toList_push, List.pairwise_append]
    exact ⟨h.nodup, by simp, fun a ha b hb => by simp at hb; subst hb; exact hne a ha⟩
  · simp only [Array.toList_push, List.mem_append, List.mem_singleton] at he
    rcases he with he | rfl
    · have := h.born e he; omega
    · exact Nat.lt_succ_self _
  · simp only [Array.toList_push, List.map_append, List.map_cons, List.map_nil, List.nodup_append]
    exact ⟨h.bornNodup, by simp, fun a ha b hb => by
      simp at hb; subst hb
      obtain ⟨e, he, rfl⟩ := List.mem_map.1 ha
      have := h.born e he; omega⟩

theorem map_update (hT : P.underlying T = some (.map K E)) (hK : P.underlying K = some (.int .i64)) (h : MapIs w bm f) (k : Int) (v : Value) :
    ∃ w', (Instr.mapUpdate T (.map (some bm)) (.int .i64 k) v).run P w = .ok () w' ∧ MapIs w' bm (fun x => if x = k then some v else f x) ∧ w.grownBy w' (some bm) ∧ w'.heap.size = w.heap.size := by
  obtain ⟨es, clock, hb, hm, hf⟩ := h
  have hlt : bm < w.heap.size := (Array.getElem?_eq_some_iff.1 hb).1
  have hc := run_checkKey (w := w) hK (show IsKey (.int .i64) (.int .i64 k) by simp [IsKey]) false 9999
  have hgrown : ∀ o : Obj, w.grownBy (setBlock w bm o) (some bm) := fun o => ⟨rfl, rfl, rfl, by simp [setBlock], fun i hi hne => by
    simp only [setBlock]; rw [Array.getElem?_setIfInBounds_ne (by intro e; exact hne (by rw [e]))]⟩
  have hnew : ∀ o : Obj, (setBlock w bm o).heap[bm]? = some o := fun o => by simp [setBlock, hlt]
  rcases map_find (w := w) hK hm k with ⟨h1, h2⟩ | ⟨j, e, h1, h2, h3, h4⟩
  · refine ⟨setBlock w bm (.map (es.push { key := .int .i64 k, val := v, born := clock }) (clock + 1)), ?_, ⟨_, _, hnew _, mapOk_push hm h2 v, fun x => ?_⟩, hgrown _, by simp [setBlock]⟩
    · simp [Instr.mapUpdate, run_underlying hT, MapKept.run_getObj_map hb, hc, h1, MapKept.run_setObj_map _ hb, Result.andThen, setBlock]
    · show entAt _ x = (if x = k then some v else f x)
      refine entAt_ext (mapOk_push hm h2 v) x _ (fun u hu => ?_) (fun e he hk => ?_)
      · split at hu
        · rename_i e0; subst e0; cases hu
          exact ⟨{ key := .int .i64 x, val := v, born := clock }, by simp, rfl, rfl⟩
        · rw [← hf x] at hu
          obtain ⟨e, he, hk, hv⟩ := entAt_some hm hu
          exact ⟨e, by simp only [Array.toList_push, List.mem_append]; exact Or.inl he, hk, hv⟩
      · simp only [Array.toList_push, List.mem_append, List.mem_singleton] at he
        rcases he with he | rfl
        · have hx : x ≠ k := fun e0 => by subst e0; rw [entAt_mem hm he hk] at h2; cases h2
          rw [if_neg hx, ← hf x, entAt_mem hm he hk]
        · have hx : x = k := by injection hk with _ h0; exact h0.symm
          rw [if_pos hx]
  · have hj : j < es.size := (Array.getElem?_eq_some_iff.1 h2).1
    have he : es[j] = e := (Array.getElem?_eq_some_iff.1 h2).2
    have hst := run_keyThatStays (P := P) (w := w) (d := .int .i64) (k := .int .i64 k) (by simp [IsKey])
    have hmod : es.modify j (fun x => { x with key := Value.int .i64 k, val := v }) = es.set j { e with key := .int .i64 k, val := v } := by
      apply Array.ext
      · simp
      · intro i hi1 hi2
        rw [Array.getElem_modify, Array.getElem_set]
        split
        · rename_i hij; subst hij; rw [he]
        · rfl
    have hl : (es.set j { e with key := .int .i64 k, val := v }).toList = es.toList.set j { e with key := .int .i64 k, val := v } := by simp
    have hjl : j < es.toList.length := by simpa using hj
    have hgl : es.toList[j] = e := by simpa using he
    have hmem : ∀ x ∈ es.toList.set j { e with key := .int .i64 k, val := v }, ∃ y ∈ es.toList, x.key = y.key ∧ x.born = y.born := fun x hx => by
      rcases List.mem_or_eq_of_mem_set hx with hx | rfl
      · exact ⟨x, hx, rfl, rfl⟩
      · exact ⟨e, hgl ▸ List.getElem_mem hjl, h3.symm, rfl⟩
    have hkeys : (es.toList.set j { e with key := .int .i64 k, val := v }).map (·.key) = es.toList.map (·.key) := by
      rw [List.map_set]
      apply List.ext_getElem
      · simp
      · intro i hi1 hi2
        rw [List.getElem_set]
        split
        · rename_i hij; subst hij; simp [he, h3]
        · rfl
    have hborn : (es.toList.set j { e with key := .int .i64 k, val := v }).map (·.born) = es.toList.map (·.born) := by
      rw [List.map_set]
      apply List.ext_getElem
      · simp
      · intro i hi1 hi2
        rw [List.getElem_set]
        split
        · rename_i hij; subst hij; simp [he]
        · rfl
    have hok : MapOk (es.set j { e with key := .int .i64 k, val := v }) clock := by
      refine ⟨fun x hx => ?_, ?_, fun x hx => ?_, ?_⟩
      · rw [hl] at hx
        obtain ⟨y, hy, h5, _⟩ := hmem x hx
        rw [h5]; exact hm.keys y hy
      · rw [hl]
        have := List.pairwise_map.2 hm.nodup
        rw [← hkeys] at this
        exact List.pairwise_map.1 this
      · rw [hl] at hx
        obtain ⟨y, hy, _, h5⟩ := hmem x hx
        rw [h5]; exact hm.born y hy
      · rw [hl, hborn]; exact hm.bornNodup
    refine ⟨setBlock w bm (.map (es.set j { e with key := .int .i64 k, val := v }) clock), ?_, ⟨_, _, hnew _, hok, fun x => ?_⟩, hgrown _, by simp [setBlock]⟩
    · simp [Instr.mapUpdate, run_underlying hT, MapKept.run_getObj_map hb, hc, h1, h2, h3, hst, MapKept.run_setObj_map _ hb, Result.andThen, setBlock, hmod]
    · show entAt _ x = (if x = k then some v else f x)
      refine entAt_ext hok x _ (fun u hu => ?_) (fun y hy hk => ?_)
      · rw [hl]
        split at hu
        · rename_i e0; subst e0; cases hu
          exact ⟨{ e with key := .int .i64 x, val := v }, List.mem_iff_getElem.2 ⟨j, by simpa using hj, by rw [List.getElem_set_self]⟩, rfl, rfl⟩
        · rename_i hxk
          rw [← hf x] at hu
          obtain ⟨y, hy, hk, hv⟩ := entAt_some hm hu
          obtain ⟨i, hi, rfl⟩ := List.getElem_of_mem hy
          have hij : j ≠ i := fun e0 => by subst e0; rw [hgl, h3] at hk; injection hk with _ h0; exact hxk h0.symm
          refine ⟨es.toList[i], ?_, hk, hv⟩
          rw [← List.getElem_set_ne hij (a := { e with key := .int .i64 k, val := v }) (by simpa using hi)]
          exact List.getElem_mem _
      · rw [hl] at hy
        obtain ⟨i, hi, rfl⟩ := List.getElem_of_mem hy
        by_cases hij : j = i
        · subst hij
          simp only [List.getElem_set_self] at hk ⊢
          have hx : x = k := by injection hk with _ h0; exact h0.symm
          rw [if_pos hx]
        · rw [List.getElem_set_ne hij] at hk ⊢
          have hi' : i < es.toList.length := by simpa using hi
          have hxk : x ≠ k := fun e0 => by
            subst e0
            have hp := List.pairwise_iff_getElem.1 hm.nodup
            rcases Nat.lt_or_gt_of_ne hij with h5 | h5
            · exact hp j i hjl hi' h5 (by rw [hgl, h3, hk])
            · exact hp i j hi' hjl h5 (by rw [hgl, h3, hk])
          rw [if_neg hxk, ← hf x, entAt_mem hm (List.getElem_mem hi') hk]

theorem mapOk_erase {es : Array MapEntry} {clock : Nat} (h : MapOk es clock) (j : Nat) : MapOk (es.eraseIdxIfInBounds j) clock ∧ (es.eraseIdxIfInBounds j).toList.Sublist es.toList := by
  have hs : (es.eraseIdxIfInBounds j).toList.Sublist es.toList := by
    unfold Array.eraseIdxIfInBounds
    split
    · simp only [Array.toList_eraseIdx]; exact List.eraseIdx_sublist _ _
    · exact List.Sublist.refl _
  exact ⟨⟨fun e he => h.keys e (hs.subset he), h.nodup.sublist hs, fun e he => h.born e (hs.subset he), h.bornNodup.sublist (hs.map _)⟩, hs⟩
theorem mem_erase_ne {l : List MapEntry} (hp : l.Pairwise (fun a b => a.key ≠ b.key)) {j : Nat} (hj : j < l.length) (e : MapEntry) : e ∈ l.eraseIdx j ↔ e ∈ l ∧ e.key ≠ l[j].key := by
  have hpw := List.pairwise_iff_getElem.1 hp
  constructor
  · intro he
    obtain ⟨i, hi, rfl⟩ := List.getElem_of_mem he
    rw [List.getElem_eraseIdx]
    have hl := List.length_eraseIdx_of_lt hj
    split
    · rename_i h1; exact ⟨List.getElem_mem _, hpw i j (by omega) hj h1⟩
    · rename_i h1; exact ⟨List.getElem_mem _, fun e0 => hpw j (i + 1) hj (by omega) (by omega) e0.symm⟩
  · rintro ⟨he, hk⟩
    obtain ⟨i, hi, rfl⟩ := List.getElem_of_mem he
    have hij : i ≠ j := fun e0 => by subst e0; exact hk rfl
    rw [List.mem_eraseIdx_iff_getElem]
    exact ⟨i, hi, hij, rfl⟩
/-- The entries behind a delete. -/
theorem map_delete_raw (hT : P.underlying T = some (.map K E)) (hK : P.underlying K = some (.int .i64)) {es : Array MapEntry} {clock : Nat} (hb : w.heap[bm]? = some (.map es clock)) (hm : MapOk es clock) (k : Int) (ty : TypeId) :
    ∃ es', (Builtin.delete_ #[T, K] ty #[.map (some bm), .int .i64 k]).run P w = .ok (.tuple #[]) (setBlock w bm (.map es' clock)) ∧ MapOk es' clock ∧ es'.toList.Sublist es.toList ∧ (∀ e, e ∈ es'.toList ↔ e ∈ es.toList ∧ e.key ≠ .int .i64 k) := by
  have hc := run_checkKey (w := w) hK (show IsKey (.int .i64) (.int .i64 k) by simp [IsKey]) es.isEmpty 9999
  rcases map_find (w := w) hK hm k with ⟨h1, h2⟩ | ⟨j, e, h1, h2, h3, h4⟩
  · refine ⟨es, ?_, hm, List.Sublist.refl _, fun e => ⟨fun he => ⟨he, fun hk => ?_⟩, fun he => he.1⟩⟩
    · simp [Builtin.delete_, run_underlying hT, MapKept.run_getObj_map hb, hc, h1, MapKept.run_setObj_map _ hb, Result.andThen, setBlock]
    · rw [entAt_mem hm he hk] at h2; cases h2
  · have hj : j < es.size := (Array.getElem?_eq_some_iff.1 h2).1
    have he : es[j] = e := (Array.getElem?_eq_some_iff.1 h2).2
    refine ⟨es.eraseIdxIfInBounds j, ?_, (mapOk_erase hm j).1, (mapOk_erase hm j).2, fun x => ?_⟩
    · simp [Builtin.delete_, run_underlying hT, MapKept.run_getObj_map hb, hc, h1, MapKept.run_setObj_map _ hb, Result.andThen, setBlock]
    · have e1 : (es.eraseIdxIfInBounds j).toList = es.toList.eraseIdx j := by
        unfold Array.eraseIdxIfInBounds
        rw [dif_pos hj, Array.toList_eraseIdx]
      rw [e1, mem_erase_ne hm.nodup (by simpa using hj)]
      have : es.toList[j]'(by simpa using hj) = e := by simpa using he
      rw [this, h3]
theorem setBlock_grown {b : Nat} (o : Obj) : w.grownBy (setBlock w b o) (some b) := ⟨rfl, rfl, rfl, by simp [setBlock], fun i hi hne => by
    simp only [setBlock]; rw [Array.getElem?_setIfInBounds_ne (by intro e; exact hne (by rw [e]))]⟩
theorem setBlock_new {b : Nat} {o : Obj} (h : w.heap[b]? = some o) (o' : Obj) : (setBlock w b o').heap[b]? = some o' := by
  have hlt : b < w.heap.size := (Array.getElem?_eq_some_iff.1 h).1
  simp [setBlock, hlt]
theorem entAt_del {es es' : Array MapEntry} {clock clock' : Nat} (hm : MapOk es clock) (hm' : MapOk es' clock') (k : Int) (h : ∀ e, e ∈ es'.toList ↔ e ∈ es.toList ∧ e.key ≠ .int .i64 k) (x : Int) :
    entAt es' x = if x = k then none else entAt es x := by
  refine entAt_ext hm' x _ (fun u hu => ?_) (fun e he hk => ?_)
  · split at hu
    · cases hu
    · rename_i hx
      obtain ⟨e, he, hk, hv⟩ := entAt_some hm hu
      exact ⟨e, (h e).2 ⟨he, fun e0 => hx (by rw [hk] at e0; injection e0)⟩, hk, hv⟩
  · obtain ⟨h1, h2⟩ := (h e).1 he
    have hx : x ≠ k := fun e0 => h2 (by rw [hk, e0])
    rw [if_neg hx, entAt_mem hm h1 hk]
theorem map_delete (hT : P.underlying T = some (.map K E)) (hK : P.underlying K = some (.int .i64)) (h : MapIs w bm f) (k : Int) (ty : TypeId) :
    ∃ w', (Builtin.delete_ #[T, K] ty #[.map (some bm), .int .i64 k]).run P w = .ok (.tuple #[]) w' ∧ MapIs w' bm (fun x => if x = k then none else f x) ∧ w.grownBy w' (some bm) ∧ w'.heap.size = w.heap.size := by
  obtain ⟨es, clock, hb, hm, hf⟩ := h
  obtain ⟨es', h1, h2, _, h4⟩ := map_delete_raw (P := P) hT hK hb hm k ty
  refine ⟨_, h1, ⟨es', clock, setBlock_new hb _, h2, fun x => ?_⟩, setBlock_grown _, by simp [setBlock]⟩
  show entAt es' x = (if x = k then none else f x)
  rw [entAt_del hm h2 k h4, hf]
theorem map_made (w : World) : MapIs (w.alloc (.map #[] 0)) w.heap.size (fun _ => none) :=
  ⟨#[], 0, (MapKept.heap_alloc w _).1, ⟨by simp, by simp, by simp, by simp⟩, fun k => by simp [entAt]⟩
theorem MapIs.kept {w' : World} {row : Option Nat} (h : MapIs w bm f) (hg : w.grownBy w' row) (hne : some bm ≠ row) : MapIs w' bm f := by
  obtain ⟨es, clock, hb, hm, hf⟩ := h
  exact ⟨es, clock, (hg.block bm (Array.getElem?_eq_some_iff.1 hb).1 hne).trans hb, hm, hf⟩
theorem MapIs.same {w' : World} (h : MapIs w bm f) (hg : w'.heap[bm]? = w.heap[bm]?) : MapIs w' bm f := by
  obtain ⟨es, clock, hb, hm, hf⟩ := h
  exact ⟨es, clock, hg.trans hb, hm, hf⟩
theorem MapIs.lt (h : MapIs w bm f) : bm < w.heap.size := by
  obtain ⟨es, clock, hb, _⟩ := h
  exact (Array.getElem?_eq_some_iff.1 hb).1
theorem MapIs.noCells (h : MapIs w bm f) {c : Array Value} {t : TypeId} {fr : Nat × Nat} : w.heap[bm]? ≠ some (.cells c t fr) := by
  obtain ⟨es, clock, hb, _⟩ := h
  rw [hb]; simp

/-- 'for k, v := range m' under way: block r is the iterator; left: the keys to come; cnt: how many. -/
def RangeIs (w : World) (bm r : Nat) (f : Int → Option Value) (left : Int → Bool) (cnt : Nat) : Prop :=
  ∃ es clock since seen c0, w.heap[bm]? = some (.map es clock) ∧ MapOk es clock ∧ (∀ k, entAt es k = f k) ∧ w.heap[r]? = some (.mapIter (some bm) since seen c0) ∧
    (∀ x ∈ es.toList, x.born < since) ∧ since ≤ c0 ∧ since ≤ clock ∧ (∀ x ∈ es.toList, ∀ k, x.key = .int .i64 k → left k = !seen.contains x.born) ∧ (∀ k, left k = true → (f k).isSome = true) ∧
    (leftOf es seen).size = cnt
theorem RangeIs.map {r cnt : Nat} {left : Int → Bool} (h : RangeIs w bm r f left cnt) : MapIs w bm f := by
  obtain ⟨es, clock, since, seen, c0, hb, hm, hf, _⟩ := h
  exact ⟨es, clock, hb, hm, hf⟩
theorem RangeIs.left_eq {r cnt : Nat} {left : Int → Bool} (h : RangeIs w bm r f left cnt) : w.rangeLeft bm r = cnt := by
  obtain ⟨es, clock, since, seen, c0, hb, hm, hf, hr, _, _, _, _, _, hc⟩ := h
  simp only [World.rangeLeft, hb, hr]
  exact hc
theorem RangeIs.lt {r cnt : Nat} {left : Int → Bool} (h : RangeIs w bm r f left cnt) : r < w.heap.size := by
  obtain ⟨es, clock, since, seen, c0, hb, hm, hf, hr, _⟩ := h
  exact (Array.getElem?_eq_some_iff.1 hr).1
theorem RangeIs.ne {r cnt : Nat} {left : Int → Bool} (h : RangeIs w bm r f left cnt) : r ≠ bm := by
  obtain ⟨es, clock, since, seen, c0, hb, hm, hf, hr, _⟩ := h
  intro e; rw [e, hb] at hr; cases hr
theorem RangeIs.same {w' : World} {r cnt : Nat} {left : Int → Bool} (h : RangeIs w bm r f left cnt) (h1 : w'.heap[bm]? = w.heap[bm]?) (h2 : w'.heap[r]? = w.heap[r]?) : RangeIs w' bm r f left cnt := by
  obtain ⟨es, clock, since, seen, c0, hb, hm, hf, hr, rest⟩ := h
  exact ⟨es, clock, since, seen, c0, h1.trans hb, hm, hf, h2.trans hr, rest⟩
theorem map_range (hT : P.underlying T = some (.map K E)) (h : MapIs w bm f) :
    ∃ w' cnt, (Instr.range T (.map (some bm))).run P w = .ok (.pointer (some ⟨w.heap.size, 0, none⟩)) w' ∧ RangeIs w' bm w.heap.size f (fun k => (f k).isSome) cnt ∧ w.grownBy w' none ∧ w'.heap.size = w.heap.size + 1 := by
  have hlt := h.lt
  obtain ⟨es, clock, hb, hm, hf⟩ := h
  refine ⟨_, _, run_range_map w T K E bm es clock hT hb, ⟨es, clock, clock, #[], clock, (MapKept.heap_alloc w _).2 _ hlt |>.trans hb, hm, hf, (MapKept.heap_alloc w _).1, hm.born, Nat.le_refl _, Nat.le_refl _, fun x hx k hk => ?_, fun k hk => hk, rfl⟩, World.grownBy_alloc w _ none, by simp⟩
  show (f k).isSome = _
  rw [← hf k, entAt_mem hm hx hk]; simp
theorem range_next {r cnt : Nat} {left : Int → Bool} (h : RangeIs w bm r f left cnt) (ty : TypeId) :
    ((∀ k, left k = false) ∧ (Instr.next (.pointer (some ⟨r, 0, none⟩)) false ty).run P w = .ok (.tuple #[.bool false]) w) ∨
    ∃ k v w' cnt', left k = true ∧ f k = some v ∧ (Instr.next (.pointer (some ⟨r, 0, none⟩)) false ty).run P w = .ok (.tuple #[.bool true, .int .i64 k, v]) w' ∧
      RangeIs w' bm r f (fun x => left x && x != k) cnt' ∧ cnt' < cnt ∧ w.grownBy w' (some r) ∧ w'.heap.size = w.heap.size ∧ (Instr.entry (.pointer (some ⟨r, 0, none⟩))).run P w' = .ok (.tuple #[.int .i64 k, v]) w' := by
  have hne := h.ne
  obtain ⟨es, clock, since, seen, c0, hb, hm, hf, hr, hold, hsc, hsk, hl1, hl2, rfl⟩ := h
  rcases run_next_at (P := P) w ty r bm since c0 seen es clock hr hb hold hsc with ⟨h0, hrun⟩ | ⟨e, he, w1, hal, hrun⟩
  · refine Or.inl ⟨fun k => ?_, hrun⟩
    cases hk : left k
    · rfl
    · have h2 := hl2 k hk
      obtain ⟨v, hv⟩ := Option.isSome_iff_exists.1 h2
      rw [← hf k] at hv
      obtain ⟨x, hx, hxk, _⟩ := entAt_some hm hv
      rw [hl1 x hx k hxk, all_seen es seen h0 x hx] at hk
      cases hk
  · obtain ⟨hem, hes⟩ := mem_left he
    obtain ⟨k, hk⟩ := hm.keys e hem
    have hr1 : w1.heap[r]? = some (.mapIter (some bm) since seen c0) := by rcases hal with rfl | rfl <;> exact hr
    have hb1 : w1.heap[bm]? = some (.map es clock) := by rcases hal with rfl | rfl <;> exact hb
    have hb' : (setBlock w1 r (.mapIter (some bm) since (seen.push e.born) clock)).heap[bm]? = some (.map es clock) :=
      ((setBlock_grown (w := w1) (b := r) _).block bm (Array.getElem?_eq_some_iff.1 hb1).1 (fun e1 => hne (by injection e1 with e1; exact e1.symm))).trans hb1
    have hr' := setBlock_new hr1 (.mapIter (some bm) since (seen.push e.born) clock)
    have hent := run_entry_at (P := P) _ r bm since seen es clock e hr' hb' hem hm.bornNodup
    rw [hk] at hrun hent
    refine Or.inr ⟨k, e.val, _, _, by rw [hl1 e hem k hk, hes]; rfl, by rw [← hf k, entAt_mem hm hem hk], hrun,
      ⟨es, clock, since, seen.push e.born, clock, hb', hm, hf, hr', hold, hsk, hsk, fun x hx k' hk' => ?_, fun k' hk' => hl2 k' (by simp at hk'; exact hk'.1), rfl⟩, left_shrinks es seen e he, ?_, ?_, hent⟩
    · show (left k' && k' != k) = _
      rw [hl1 x hx k' hk', contains_push]
      have hiff : (k' != k) = !(x.born == e.born) := by
        by_cases hxe : x.born = e.born
        · have hxe' : x = e := by
            exact born_inj hm.bornNodup hx hem hxe
          subst hxe'
          rw [hk] at hk'; injection hk' with _ h0; subst h0; simp
        · have : k' ≠ k := fun e0 => by
            subst e0
            have h7 := entAt_mem_aux es.toList hm.nodup x hx k' hk'
            have h8 := entAt_mem_aux es.toList hm.nodup e hem k' hk
            rw [h7] at h8; injection h8 with h8; exact hxe (by rw [h8])
          have h9 : (x.born == e.born) = false := by simp [hxe]
          rw [h9]; simp [this]
      rw [hiff]
      cases seen.contains x.born <;> cases (x.born == e.born) <;> rfl
    · rcases hal with rfl | rfl
      · exact setBlock_grown _
      · exact ⟨rfl, rfl, rfl, by simp [setBlock], fun i hi hne => by simp only [setBlock]; rw [Array.getElem?_setIfInBounds_ne (by intro e; exact hne (by rw [e]))]; rfl⟩
    · rcases hal with rfl | rfl <;> simp [setBlock]
theorem range_delete {r cnt : Nat} {left : Int → Bool} (hT : P.underlying T = some (.map K E)) (hK : P.underlying K = some (.int .i64)) (h : RangeIs w bm r f left cnt) (k : Int) (ty : TypeId) :
    ∃ w' cnt', (Builtin.delete_ #[T, K] ty #[.map (some bm), .int .i64 k]).run P w = .ok (.tuple #[]) w' ∧ RangeIs w' bm r (fun x => if x = k then none else f x) (fun x => left x && x != k) cnt' ∧ cnt' ≤ cnt ∧ w.grownBy w' (some bm) ∧ w'.heap.size = w.heap.size := by
  have hne := h.ne
  obtain ⟨es, clock, since, seen, c0, hb, hm, hf, hr, hold, hsc, hsk, hl1, hl2, rfl⟩ := h
  obtain ⟨es', h1, h2, h3, h4⟩ := map_delete_raw (P := P) hT hK hb hm k ty
  refine ⟨_, _, h1, ⟨es', clock, since, seen, c0, setBlock_new hb _, h2, fun x => ?_, ((setBlock_grown (w := w) (b := bm) _).block r (Array.getElem?_eq_some_iff.1 hr).1 (fun e1 => hne (by injection e1))).trans hr,
    fun x hx => hold x (h3.subset hx), hsc, hsk, fun x hx k' hk' => ?_, fun k' hk' => ?_, rfl⟩, ?_, setBlock_grown _, by simp [setBlock]⟩
  · show entAt es' x = (if x = k then none else f x)
    rw [entAt_del hm h2 k h4, hf]
  · obtain ⟨h5, h6⟩ := (h4 x).1 hx
    have : k' ≠ k := fun e0 => h6 (by rw [hk', e0])
    simp [hl1 x h5 k' hk', this]
  · simp at hk'
    simp [hk'.2, hl2 k' hk'.1]
  · unfold leftOf
    have hs : ∀ a : Array MapEntry, (a.filter (fun e => !seen.contains e.born)).size = (a.toList.filter (fun e => !seen.contains e.born)).length := fun a => by rw [← Array.toList_filter, Array.length_toList]
    rw [hs, hs]
    exact (h3.filter _).length_le
end
end Go.Proofs.Ytcaalfpfkalalaa
