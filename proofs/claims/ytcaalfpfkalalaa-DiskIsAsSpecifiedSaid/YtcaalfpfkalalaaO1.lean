/- What a call owns: a list of things, each with blocks of its own, all new since the call began. -/
import Derived.Test.YtcaalfpfkalalaaG2
set_option linter.unusedVariables false
set_option linter.unusedSimpArgs false
namespace Go.Proofs.Ytcaalfpfkalalaa
open Go.RowKit Qd
section
variable {P : Program} {ops : Array Oper} {rest : List Oper} {o : Oper} {a : Act} {Q : Exit → Act → World → Prop} {w w1 : World}
/-- An operation with a guard that lets it run. -/
theorem go_vg {v : Value} (hw : Region.wanted o (yielded ops a.tmps) = true) (hrun : (execOp a.eval o).run P w = .ok (.value v) w1) (h : wpList P ops Q rest (a.put o.dst v) w1) : wpList P ops Q (o :: rest) a w := by
  unfold wpList
  rw [if_pos hw]
  left
  unfold Oper.wp
  rw [hrun]
  exact h
end
structure Res where
  holds : World → (Nat → Prop) → Prop
  same : ∀ {w w' : World} {S : Nat → Prop}, holds w S → (∀ b, S b → w'.heap[b]? = w.heap[b]?) → holds w' S
def blkR (b : Nat) (cs : Array Value) (t : TypeId) : Res := ⟨fun w S => S b ∧ Blk w b cs t, fun h hk => ⟨h.1, (hk b h.1).trans h.2⟩⟩
def diskR (p : Nat) (d : Disk) : Res := ⟨fun w S => DiskIn w S p d, fun h hk => DiskIn.same h (fun b hb _ => hk b hb)⟩
/-- What is no longer wanted. -/
def noR : Res := ⟨fun _ _ => True, fun _ _ => trivial⟩
def Own (w0 w : World) (rs : List Res) : Prop := Nw w0 w ∧ ∃ F : Nat → Nat → Prop, (∀ (i : Nat) (r : Res), rs[i]? = some r → r.holds w (F i)) ∧ (∀ i b, F i b → w0.heap.size ≤ b ∧ b < w.heap.size) ∧ (∀ i j b, F i b → F j b → i = j)
section
variable {w0 w w' : World} {rs : List Res} {r r' : Res} {i : Nat}
theorem Own.start (w : World) : Own w w [] := ⟨Nw.refl w, fun _ _ => False, fun i r h => by simp at h, fun _ _ h => h.elim, fun _ _ _ h => h.elim⟩
theorem Own.nw0 (h : Own w0 w rs) : Nw w0 w := h.1
theorem Own.get (h : Own w0 w rs) (hi : rs[i]? = some r) : ∃ S, r.holds w S ∧ (∀ b, S b → w0.heap.size ≤ b ∧ b < w.heap.size) := by
  obtain ⟨hn, F, h1, h2, h3⟩ := h
  exact ⟨F i, h1 i r hi, h2 i⟩
theorem Own.nw (h : Own w0 w rs) (hn : Nw w w') : Own w0 w' rs := by
  obtain ⟨h0, F, h1, h2, h3⟩ := h
  exact ⟨h0.trans hn, F, fun i r hr => r.same (h1 i r hr) (fun b hb => hn.block b (h2 i b hb).2 (fun h => h)), fun i b hb => ⟨(h2 i b hb).1, Nat.lt_of_lt_of_le (h2 i b hb).2 hn.size⟩, h3⟩
/-- The thing at i turns. -/
theorem Own.upd (h : Own w0 w rs) (hi : rs[i]? = some r) : ∃ S, r.holds w S ∧ (∀ b, S b → w0.heap.size ≤ b ∧ b < w.heap.size) ∧
    ∀ w' S' r', Turn S w S' w' → (∀ b, S' b → b < w'.heap.size) → r'.holds w' S' → Own w0 w' (rs.set i r') := by
  obtain ⟨h0, F, h1, h2, h3⟩ := h
  refine ⟨F i, h1 i r hi, h2 i, fun w' S' r' ht htight hr' => ?_⟩
  have hil : i < rs.length := (List.getElem?_eq_some_iff.1 hi).1
  refine ⟨⟨ht.os.trans h0.os, ht.tape.trans h0.tape, ht.output.trans h0.output, Nat.le_trans h0.size ht.size, fun k hk _ => ?_, fun _ h => Or.inl h⟩, fun j b => if j = i then S' b else F j b, fun j q hq => ?_, fun j b hb => ?_, fun j k b hj hk => ?_⟩
  · refine (ht.block k (Nat.lt_of_lt_of_le hk h0.size) (fun e => ?_)).trans (h0.block k hk (fun h => h))
    have := (h2 i k e).1
    omega
  · by_cases hji : j = i
    · subst hji
      rw [List.getElem?_set_self hil] at hq
      injection hq with hq
      subst hq
      simp only [if_true]
      exact hr'
    · rw [List.getElem?_set_ne (by omega)] at hq
      simp only [hji, if_false]
      exact q.same (h1 j q hq) (fun b hb => ht.block b (h2 j b hb).2 (fun e => hji (h3 j i b hb e)))
  · by_cases hji : j = i
    · simp only [hji, if_true] at hb
      refine ⟨?_, htight b hb⟩
      rcases ht.sub b hb with e | e
      · exact (h2 i b e).1
      · exact Nat.le_trans h0.size e
    · simp only [hji, if_false] at hb
      exact ⟨(h2 j b hb).1, Nat.lt_of_lt_of_le (h2 j b hb).2 ht.size⟩
  · have key : ∀ x y, x = i → y ≠ i → S' b → F y b → False := fun x y _ hy hs hf => by
      rcases ht.sub b hs with e | e
      · exact hy (h3 y i b hf e)
      · have := (h2 y b hf).2; omega
    by_cases hji : j = i
    · by_cases hki : k = i
      · omega
      · simp only [hji, if_true] at hj
        simp only [hki, if_false] at hk
        exact (key j k hji hki hj hk).elim
    · by_cases hki : k = i
      · simp only [hji, if_false] at hj
        simp only [hki, if_true] at hk
        exact (key k j hki hji hk hj).elim
      · simp only [hji, if_false] at hj
        simp only [hki, if_false] at hk
        exact h3 j k b hj hk
/-- Something new. -/
theorem Own.push {S : Nat → Prop} (h : Own w0 w rs) (ht : Turn (fun _ => False) w S w') (htight : ∀ b, S b → b < w'.heap.size) (hr : r.holds w' S) : Own w0 w' (rs ++ [r]) := by
  obtain ⟨h0, F, h1, h2, h3⟩ := h
  have hsub : ∀ b, S b → w.heap.size ≤ b := fun b hb => (ht.sub b hb).elim (fun h => h.elim) id
  refine ⟨⟨ht.os.trans h0.os, ht.tape.trans h0.tape, ht.output.trans h0.output, Nat.le_trans h0.size ht.size, fun k hk _ => (ht.block k (Nat.lt_of_lt_of_le hk h0.size) (fun h => h)).trans (h0.block k hk (fun h => h)), fun _ h => Or.inl h⟩,
    fun j b => if j = rs.length then S b else j < rs.length ∧ F j b, fun j q hq => ?_, fun j b hb => ?_, fun j k b hj hk => ?_⟩
  · by_cases hj : j = rs.length
    · subst hj
      simp at hq
      subst hq
      simp only [if_true]
      exact hr
    · have hjl : j < rs.length := by
        have := (List.getElem?_eq_some_iff.1 hq).1
        simp at this; omega
      rw [List.getElem?_append_left hjl] at hq
      simp only [hj, if_false]
      have := q.same (h1 j q hq) (w' := w') (fun b hb => ht.block b (h2 j b hb).2 (fun h => h))
      have e : (fun b => j < rs.length ∧ F j b) = F j := by funext b; simp [hjl]
      rw [e]
      exact this
  · by_cases hj : j = rs.length
    · simp only [hj, if_true] at hb
      exact ⟨Nat.le_trans h0.size (hsub b hb), htight b hb⟩
    · simp only [hj, if_false] at hb
      exact ⟨(h2 j b hb.2).1, Nat.lt_of_lt_of_le (h2 j b hb.2).2 ht.size⟩
  · by_cases hj2 : j = rs.length
    · by_cases hk2 : k = rs.length
      · omega
      · simp only [hj2, if_true] at hj
        simp only [hk2, if_false] at hk
        have := hsub b hj
        have := (h2 k b hk.2).2
        omega
    · by_cases hk2 : k = rs.length
      · simp only [hj2, if_false] at hj
        simp only [hk2, if_true] at hk
        have := hsub b hk
        have := (h2 j b hj.2).2
        omega
      · simp only [hj2, if_false] at hj
        simp only [hk2, if_false] at hk
        exact h3 j k b hj.2 hk.2
theorem Own.alloc (h : Own w0 w rs) (cs : Array Value) (t : TypeId) : Own w0 (w.alloc (.cells cs t)) (rs ++ [blkR w.heap.size cs t]) := by
  refine h.push (S := fun b => b = w.heap.size) ?_ (fun b hb => by rw [hb, World.size_alloc]; omega) ⟨rfl, Blk.new w cs t⟩
  have := Turn.alloc (fun _ => False) w (.cells cs t)
  exact ⟨this.os, this.tape, this.output, this.size, this.block, fun b hb => Or.inr (by rw [hb]; exact Nat.le_refl _)⟩
theorem Own.blk {b : Nat} {cs : Array Value} {t : TypeId} (h : Own w0 w rs) (hi : rs[i]? = some (blkR b cs t)) : Blk w b cs t ∧ w0.heap.size ≤ b := by
  obtain ⟨S, ⟨hs, hb⟩, h2⟩ := h.get hi
  exact ⟨hb, (h2 b hs).1⟩
theorem Own.set {b : Nat} {cs cs' : Array Value} {t : TypeId} {o : Nat} {vs : List Value} (h : Own w0 w rs) (hi : rs[i]? = some (blkR b cs t)) (hl : o + vs.length ≤ cs.size) (hc : cs' = (cs.toList.take o ++ vs ++ cs.toList.drop (o + vs.length)).toArray) :
    Own w0 (w.setCells b o vs) (rs.set i (blkR b cs' t)) := by
  obtain ⟨S, ⟨hs, hb⟩, h2, hup⟩ := h.upd hi
  have ht := Turn.setCells hb vs hl hs
  refine hup _ S _ ht (fun b hb => Nat.lt_of_lt_of_le (h2 b hb).2 ht.size) ⟨hs, ?_⟩
  rw [hc]
  exact hb.setCells vs hl
theorem Own.disk {p : Nat} {d : Disk} (h : Own w0 w rs) (hi : rs[i]? = some (diskR p d)) : ∃ S, DiskIn w S p d ∧ (∀ b, S b → b < w.heap.size) := by
  obtain ⟨S, hd, h2⟩ := h.get hi
  exact ⟨S, hd, fun b hb => (h2 b hb).2⟩
/-- A disk turns, by a contract that leaves a disk. -/
theorem Own.diskUpd {p : Nat} {d : Disk} (h : Own w0 w rs) (hi : rs[i]? = some (diskR p d)) : ∃ S, DiskIn w S p d ∧ (∀ b, S b → b < w.heap.size) ∧
    ∀ w' S' d', Turn S w S' w' → DiskIn w' S' p d' → Own w0 w' (rs.set i (diskR p d')) := by
  obtain ⟨S, hd, h2, hup⟩ := h.upd hi
  refine ⟨S, hd, fun b hb => (h2 b hb).2, fun w' S' d' ht hd' => ?_⟩
  obtain ⟨S1, h3, h4, h5⟩ := hd'.tight
  exact hup w' S1 (diskR p d') (ht.less (fun k hk => Or.inl (h4 k hk))) h5 h3
theorem Own.diskNew {p : Nat} {d : Disk} {S : Nat → Prop} (h : Own w0 w rs) (ht : Turn (fun _ => False) w S w') (hd : DiskIn w' S p d) : Own w0 w' (rs ++ [diskR p d]) := by
  obtain ⟨S1, h3, h4, h5⟩ := hd.tight
  exact h.push (ht.less (fun k hk => Or.inl (h4 k hk))) h5 h3
end
end Go.Proofs.Ytcaalfpfkalalaa
