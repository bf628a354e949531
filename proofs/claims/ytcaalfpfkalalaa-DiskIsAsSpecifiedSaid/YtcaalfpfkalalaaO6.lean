/- Several things taken as one, and one taken apart. -/
import Derived.Test.YtcaalfpfkalalaaO5
import Derived.Test.YtcaalfpfkalalaaB10
set_option linter.unusedVariables false
set_option linter.unusedSimpArgs false
set_option maxRecDepth 10000
set_option maxHeartbeats 4000000
namespace Go.Proofs.Ytcaalfpfkalalaa
open Go.RowKit Qd
/-- A list of things as one thing. -/
def starR (l : List Res) : Res := ⟨fun w S => ∃ F : Nat → Nat → Prop, (∀ (i : Nat) (r : Res), l[i]? = some r → r.holds w (F i)) ∧ (∀ i b, i < l.length → F i b → S b) ∧ (∀ i j b, i < l.length → j < l.length → F i b → F j b → i = j),
  fun h hk => by
    obtain ⟨F, h1, h2, h3⟩ := h
    exact ⟨F, fun i r hr => r.same (h1 i r hr) (fun b hb => hk b (h2 i b (List.getElem?_eq_some_iff.1 hr).1 hb)), h2, h3⟩⟩
section
variable {w0 w : World} {a b l : List Res} {r r' : Res}
theorem Own.unstarG (h : Own w0 w (a ++ starR l :: b)) : Own w0 w (a ++ (l ++ b)) := by
  obtain ⟨h0, F, h1, h2, h3⟩ := h
  obtain ⟨G, g1, g2, g3⟩ := h1 a.length (starR l) (by rw [List.getElem?_append_right (Nat.le_refl _), Nat.sub_self]; rfl)
  have key : ∀ i c, (if i < a.length then F i c else if i < a.length + l.length then G (i - a.length) c else F (i + 1 - l.length) c) →
      F (if i < a.length then i else if i < a.length + l.length then a.length else i + 1 - l.length) c := fun i c hc => by
    by_cases e1 : i < a.length
    · simp only [e1, if_true] at hc ⊢; exact hc
    · by_cases e2 : i < a.length + l.length
      · simp only [e1, e2, if_true, if_false] at hc ⊢
        exact g2 _ _ (by omega) hc
      · simp only [e1, e2, if_false] at hc ⊢; exact hc
  refine ⟨h0, fun i c => if i < a.length then F i c else if i < a.length + l.length then G (i - a.length) c else F (i + 1 - l.length) c, fun i q hq => ?_, fun i c hc => h2 _ c (key i c hc), fun i j c hi hj => ?_⟩
  · by_cases e1 : i < a.length
    · rw [List.getElem?_append_left e1] at hq
      simp only [e1, if_true]
      exact h1 i q (by rw [List.getElem?_append_left e1]; exact hq)
    · rw [List.getElem?_append_right (by omega)] at hq
      by_cases e2 : i < a.length + l.length
      · rw [List.getElem?_append_left (by omega)] at hq
        simp only [e1, e2, if_true, if_false]
        exact g1 _ q hq
      · rw [List.getElem?_append_right (by omega)] at hq
        simp only [e1, e2, if_false]
        refine h1 _ q ?_
        rw [List.getElem?_append_right (by omega), show i + 1 - l.length - a.length = (i - a.length - l.length) + 1 by omega, List.getElem?_cons_succ]
        exact hq
  · have e := h3 _ _ c (key i c hi) (key j c hj)
    by_cases i1 : i < a.length
    · by_cases j1 : j < a.length
      · simp only [i1, j1, if_true] at e; exact e
      · by_cases j2 : j < a.length + l.length
        · simp only [i1, j1, j2, if_true, if_false] at e; omega
        · simp only [i1, j1, j2, if_true, if_false] at e; omega
    · by_cases i2 : i < a.length + l.length
      · by_cases j1 : j < a.length
        · simp only [i1, i2, j1, if_true, if_false] at e; omega
        · by_cases j2 : j < a.length + l.length
          · simp only [i1, i2, if_true, if_false] at hi
            simp only [j1, j2, if_true, if_false] at hj
            have := g3 _ _ c (by omega) (by omega) hi hj
            omega
          · simp only [i1, i2, j1, j2, if_true, if_false] at e; omega
      · by_cases j1 : j < a.length
        · simp only [i1, i2, j1, if_true, if_false] at e; omega
        · by_cases j2 : j < a.length + l.length
          · simp only [i1, i2, j1, j2, if_true, if_false] at e; omega
          · simp only [i1, i2, j1, j2, if_false] at e; omega
theorem Own.starG (h : Own w0 w (a ++ (l ++ b))) : Own w0 w (a ++ starR l :: b) := by
  obtain ⟨h0, H, h1, h2, h3⟩ := h
  have key : ∀ i c, (if i < a.length then H i c else if i = a.length then ∃ j, j < l.length ∧ H (a.length + j) c else H (i + l.length - 1) c) →
      ∃ x, H x c ∧ (i < a.length ∧ x = i ∨ i = a.length ∧ a.length ≤ x ∧ x < a.length + l.length ∨ a.length < i ∧ x = i + l.length - 1) := fun i c hc => by
    by_cases e1 : i < a.length
    · simp only [e1, if_true] at hc
      exact ⟨i, hc, Or.inl ⟨e1, rfl⟩⟩
    · by_cases e2 : i = a.length
      · simp only [e1, e2, if_true, if_false] at hc
        rw [if_neg (by omega)] at hc
        obtain ⟨j, hj, hc⟩ := hc
        exact ⟨_, hc, Or.inr (Or.inl ⟨e2, by omega, by omega⟩)⟩
      · simp only [e1, e2, if_false] at hc
        exact ⟨_, hc, Or.inr (Or.inr ⟨by omega, rfl⟩)⟩
  refine ⟨h0, fun i c => if i < a.length then H i c else if i = a.length then ∃ j, j < l.length ∧ H (a.length + j) c else H (i + l.length - 1) c, fun i q hq => ?_, fun i c hc => ?_, fun i j c hi hj => ?_⟩
  · by_cases e1 : i < a.length
    · rw [List.getElem?_append_left e1] at hq
      simp only [e1, if_true]
      exact h1 i q (by rw [List.getElem?_append_left e1]; exact hq)
    · rw [List.getElem?_append_right (by omega)] at hq
      by_cases e2 : i = a.length
      · subst e2
        rw [Nat.sub_self, List.getElem?_cons_zero] at hq
        injection hq with hq
        subst hq
        simp only [Nat.lt_irrefl, if_true, if_false]
        refine ⟨fun j c => H (a.length + j) c, fun j r hr => ?_, fun j c hj hc => ⟨j, hj, hc⟩, fun j k c _ _ hj hk => ?_⟩
        · have hjl := (List.getElem?_eq_some_iff.1 hr).1
          exact h1 _ r (by rw [List.getElem?_append_right (by omega), List.getElem?_append_left (by omega), show a.length + j - a.length = j by omega]; exact hr)
        · have := h3 _ _ c hj hk; omega
      · simp only [e1, e2, if_false]
        rw [show i - a.length = (i - a.length - 1) + 1 by omega, List.getElem?_cons_succ] at hq
        refine h1 _ q ?_
        rw [List.getElem?_append_right (by omega), List.getElem?_append_right (by omega), show i + l.length - 1 - a.length - l.length = i - a.length - 1 by omega]
        exact hq
  · obtain ⟨x, hx, _⟩ := key i c hc
    exact h2 x c hx
  · obtain ⟨x, hx, hx'⟩ := key i c hi
    obtain ⟨y, hy, hy'⟩ := key j c hj
    have := h3 x y c hx hy
    omega
theorem Own.unstar (h : Own w0 w (starR l :: b)) : Own w0 w (l ++ b) := Own.unstarG (a := []) h
theorem Own.star (h : Own w0 w (l ++ b)) : Own w0 w (starR l :: b) := Own.starG (a := []) h
theorem Own.starLast (h : Own w0 w (a ++ l)) : Own w0 w (a ++ [starR l]) := Own.starG (b := []) (by rw [List.append_nil]; exact h)
/-- One thing is another one. -/
theorem Own.turnTo (h : Own w0 w (a ++ r :: b)) (hr : ∀ w S, r.holds w S → r'.holds w S) : Own w0 w (a ++ r' :: b) := by
  obtain ⟨h0, F, h1, h2, h3⟩ := h
  refine ⟨h0, F, fun i q hq => ?_, h2, h3⟩
  by_cases e1 : i < a.length
  · rw [List.getElem?_append_left e1] at hq
    exact h1 i q (by rw [List.getElem?_append_left e1]; exact hq)
  · rw [List.getElem?_append_right (by omega)] at hq
    have h4 := h1 i
    rw [List.getElem?_append_right (by omega)] at h4
    cases hn : i - a.length with
    | zero =>
      rw [hn] at hq h4
      injection hq with hq
      subst hq
      exact hr _ _ (h4 r rfl)
    | succ m =>
      rw [hn] at hq h4
      exact h4 q hq
/-- One thing is, for some x, another one. -/
theorem Own.takeEx {α : Sort _} {R : α → Res} {P : α → Prop} (h : Own w0 w (a ++ r :: b)) (hr : ∀ w S, r.holds w S → ∃ x, P x ∧ (R x).holds w S) : ∃ x, P x ∧ Own w0 w (a ++ R x :: b) := by
  obtain ⟨h0, F, h1, h2, h3⟩ := h
  obtain ⟨x, hp, hx⟩ := hr _ _ (h1 a.length r (by rw [List.getElem?_append_right (Nat.le_refl _), Nat.sub_self]; rfl))
  refine ⟨x, hp, h0, F, fun i q hq => ?_, h2, h3⟩
  by_cases e1 : i < a.length
  · rw [List.getElem?_append_left e1] at hq
    exact h1 i q (by rw [List.getElem?_append_left e1]; exact hq)
  · rw [List.getElem?_append_right (by omega)] at hq
    by_cases e2 : i = a.length
    · subst e2
      rw [Nat.sub_self] at hq
      injection hq with hq
      subst hq
      exact hx
    · have h4 := h1 i
      rw [List.getElem?_append_right (by omega)] at h4
      rw [show i - a.length = (i - a.length - 1) + 1 by omega, List.getElem?_cons_succ] at hq h4
      exact h4 q hq
end
theorem exn_same {w : World} {o : Oper} {ρ : Operand → Value} {x y : Operand} {T : TypeId} (ho : o.op = .binOp .neq 29 x y T) {a : Sec} (ha : SecOk a) (hx : ρ x = .agg (secVals a).toArray) (hy : ρ y = .agg (secVals a).toArray) :
    (execOp ρ o).run Try.prog w = .ok (.value (.bool false)) w := by
  have := exn_sec (w := w) (ρ := ρ) ho ha ha hx hy
  simpa using this
theorem exn_diff {w : World} {o : Oper} {ρ : Operand → Value} {x y : Operand} {T : TypeId} {a b : Sec} (hne : a ≠ b) (ho : o.op = .binOp .neq 29 x y T) (ha : SecOk a) (hb : SecOk b) (hx : ρ x = .agg (secVals a).toArray) (hy : ρ y = .agg (secVals b).toArray) :
    (execOp ρ o).run Try.prog w = .ok (.value (.bool true)) w := by
  have := exn_sec (w := w) (ρ := ρ) ho ha hb hx hy
  simpa [hne] using this
theorem many_set : ∀ {l : List Sec} {s : Sec} {k : Nat}, (∀ s ∈ l, SecOk s) → SecOk s → k < l.length → (manyVals l).take (k * 64) ++ secVals s ++ (manyVals l).drop (k * 64 + 64) = manyVals (l.set k s)
  | [], _, _, _, _, h => absurd h (by simp)
  | a :: l, s, 0, hl, hs, _ => by
    have ha := sec64 (hl a (by simp))
    simp only [Nat.zero_mul, List.take_zero, List.nil_append, Nat.zero_add, List.set_cons_zero]
    show _ ++ (secVals a ++ manyVals l).drop 64 = secVals s ++ manyVals l
    rw [List.drop_left' ha]
  | a :: l, s, k + 1, hl, hs, h => by
    have ha := sec64 (hl a (by simp))
    have ih := many_set (l := l) (s := s) (k := k) (fun x hx => hl x (by simp [hx])) hs (by simpa using h)
    show (secVals a ++ manyVals l).take ((k + 1) * 64) ++ secVals s ++ (secVals a ++ manyVals l).drop ((k + 1) * 64 + 64) = secVals a ++ manyVals (l.set k s)
    rw [← ih, show (k + 1) * 64 = (secVals a).length + k * 64 by omega, List.take_length_add_append, Nat.add_assoc, List.drop_length_add_append]
    simp [List.append_assoc]
theorem many_len' {l : List Sec} (hl : ∀ s ∈ l, SecOk s) : (manyVals l).length = l.length * 64 := by
  unfold manyVals
  exact flatMap_len (g := secVals) (m := 64) (l := l) (fun s hs => sec64 (hl s hs))
theorem list_set_same {α : Type} {l : List α} {k : Nat} {x : α} (h : l[k]? = some x) : l.set k x = l := by
  apply List.ext_getElem?
  intro n
  rw [List.getElem?_set]
  split
  · rename_i e
    subst e
    split
    · exact h.symm
    · rename_i hl
      rw [List.getElem?_eq_none (by omega)] at h
      exact absurd h (by simp)
  · rfl
section
variable {w0 w : World} {rs : List Res} {k : Nat}
theorem exl_byte {o : Oper} {ρ : Operand → Value} {x : Operand} {b j : Nat} {u : Int} (ho : o.op = .load 5 x) (hx : ρ x = .pointer (some ⟨b, j, none⟩)) (hc : w.cell? ⟨b, j, none⟩ = some (.int .u8 u)) :
    (execOp ρ o).run Try.prog w = .ok (.value (.int .u8 u)) w := by
  unfold execOp
  simp only [ho, hx]
  go_simp
theorem Own.xlb {o : Oper} {ρ : Operand → Value} {x : Operand} {b j : Nat} {u : Int} {cs : Array Value} {t : TypeId} (h : Own w0 w rs) (hk : rs[k]? = some (blkR b cs t)) (ho : o.op = .load 5 x) (hx : ρ x = .pointer (some ⟨b, j, none⟩)) (hv : cs[j]? = some (.int .u8 u)) :
    (execOp ρ o).run Try.prog w = .ok (.value (.int .u8 u)) w := exl_byte ho hx (by rw [(h.blk hk).1.cell]; exact hv)
/-- One sector of a block of many: written, read. -/
theorem Own.xstoreN {o : Oper} {ρ : Operand → Value} {x y : Operand} {b j : Nat} {l l' : List Sec} {s : Sec} {t : TypeId} (h : Own w0 w rs) (ho : o.op = .store 29 x y) (hx : ρ x = .pointer (some ⟨b, j * 64, none⟩)) (hk : rs[k]? = some (blkR b (manyVals l).toArray t)) (hl : ∀ s ∈ l, SecOk s) (hj : j < l.length) (hs : SecOk s)
    (hy : ρ y = .agg (secVals s).toArray) (hl' : l.set j s = l') : ∃ w1, (execOp ρ o).run Try.prog w = .ok .skip w1 ∧ Own w0 w1 (rs.set k (blkR b (manyVals l').toArray t)) := by
  have hb := (h.blk hk).1
  have hlen := many_len' hl
  have h64 := sec64 hs
  have hle : j * 64 + 64 ≤ (manyVals l).toArray.size := by rw [List.size_toArray, hlen]; omega
  refine ⟨_, exs_sec ho hx hs hy (hb.there _ _ hle), h.set hk (by rw [h64]; exact hle) ?_⟩
  rw [h64, ← hl', ← many_set hl hs hj]
theorem Own.xloadN {o : Oper} {ρ : Operand → Value} {x : Operand} {b j : Nat} {l : List Sec} {s : Sec} {t : TypeId} (h : Own w0 w rs) (ho : o.op = .load 29 x) (hx : ρ x = .pointer (some ⟨b, j * 64, none⟩)) (hk : rs[k]? = some (blkR b (manyVals l).toArray t)) (hl : ∀ s ∈ l, SecOk s) (hj : j < l.length) (hs : l.getD j zeroSec = s) :
    (execOp ρ o).run Try.prog w = .ok (.value (.agg (secVals s).toArray)) w := by
  have hr : w.rangeAt b 0 (manyVals l) := (h.blk hk).1.range 0 _ (fun j _ => by rw [Nat.zero_add, List.getElem?_toArray])
  rw [← hs]
  exact exl_sec ho hx (getD_ok hl j) (many_sub hl hr hj)
end
section
variable {w0 w : World} {rs : List Res} {k : Nat} {o : Oper} {ρ : Operand → Value} {ty t : TypeId} {b : Nat}
/-- Whole rows, single cells: laid, boxed, loaded, stored. -/
theorem Own.xbox (n : Tmp) {x : Operand} {cs : List Value} (h : Own w0 w rs) (hd : o.dst = some n) (ho : o.op = .box ty x) (hx : ρ x = .agg cs.toArray) : ∃ v w1, (execOp ρ o).run Try.prog w = .ok (.value v) w1 ∧ ∃ b, v = .pointer (some ⟨b, 0, none⟩) ∧ Own w0 w1 (rs ++ [blkR b cs.toArray ty]) :=
  ⟨_, _, ex_box ho hx, _, rfl, h.alloc _ _⟩
theorem Own.xalloc1 (n : Tmp) {z : Value} (h : Own w0 w rs) (hd : o.dst = some n) (ho : o.op = .alloc ty) (hz : ∀ w, (zeroValue ty).run Try.prog w = .ok z w) : ∃ v w1, (execOp ρ o).run Try.prog w = .ok (.value v) w1 ∧ ∃ b, v = .pointer (some ⟨b, 0, none⟩) ∧ Own w0 w1 (rs ++ [blkR b z.cells ty]) := by
  refine ⟨_, _, ?_, _, rfl, h.alloc _ _⟩
  unfold execOp
  simp only [ho]
  simp [Instr.alloc, hz, newVar, newRow, newObj, Sem.run, Result.andThen]
theorem Own.xlrow {x : Operand} {cs : List Value} (h : Own w0 w rs) (hk : rs[k]? = some (blkR b cs.toArray t)) (ho : o.op = .load ty x) (hx : ρ x = .pointer (some ⟨b, 0, none⟩)) (hu : ∃ d, Try.prog.underlying ty = some d ∧ d.isRow = true) (hi : (Try.prog.info? ty).map (·.size) = some cs.length) :
    (execOp ρ o).run Try.prog w = .ok (.value (.agg cs.toArray)) w := by
  obtain ⟨d, h1, h2⟩ := hu
  exact ex_load ho hx ((h.blk hk).1.range 0 _ (fun j _ => by rw [Nat.zero_add]; simp)) h1 h2 hi
theorem row_of {ty : TypeId} (h : (Try.prog.underlying ty).map (·.isRow) = some true) : ∃ d, Try.prog.underlying ty = some d ∧ d.isRow = true := by
  obtain ⟨d, h1, h2⟩ := Option.map_eq_some_iff.1 h
  exact ⟨d, h1, h2⟩
end
def intsR (v : Value) (l : List Int) : Res := ⟨fun w S => w.ownsRow 0 3 1 v l.length (intVals l) ∧ ∀ k, v.ownBlock = some k → S k, fun h hk => by
  refine ⟨⟨h.1.1, ?_⟩, h.2⟩
  rcases h.1.2 with h1 | ⟨g, cap, cur, hv, h2, h3, h4⟩
  · exact Or.inl h1
  · exact Or.inr ⟨g, cap, cur, hv, h2, (hk g (h.2 g (by rw [hv]; rfl))).trans h3, h4⟩⟩
section
variable {w0 w : World} {rs : List Res} {k : Nat} {o : Oper} {ρ : Operand → Value}
/-- 'var lost []int'. -/
theorem Own.intsNil (h : Own w0 w rs) : Own w0 w (rs ++ [intsR (.slice none 0 0) []]) := by
  refine h.push (S := fun _ => False) (Turn.refl _ w) (fun b hb => hb.elim) ?_
  exact ⟨⟨rfl, Or.inl ⟨rfl, rfl⟩⟩, fun k hk => by simp [Value.ownBlock] at hk⟩
theorem Own.xints {b p m c : Nat} {s x : Operand} {v : Value} {l ks : List Int} (h : Own w0 w rs) (hk : rs[k]? = some (intsR v l)) (ho : o.op = .call { callee := .builtin .append, args := #[s, x], argTypes := #[33, 33] }) (hs : ρ s = v)
    (hx : ρ x = .slice (some ⟨b, p, none⟩) m c) (hm : ks.length = m) (hr : w.rangeAt b p (intVals ks)) (hn : l.length + m < 1099511627776) :
    ∃ v' w1, (execOp ρ o).run Try.prog w = .ok (.value v') w1 ∧ (∃ a c', v' = .slice a (l.length + m) c') ∧ Own w0 w1 (rs.set k (intsR v' (l ++ ks))) := by
  obtain ⟨S, ⟨hown, hsb⟩, hlt, hup⟩ := h.upd hk
  obtain ⟨v', w', hrun, h2, h3, h5⟩ := exp_ints (Nat.zero_le _) ho hs hown hx hm hr hn
  have hsz := h3.size
  have hl2 := h2.lt
  refine ⟨v', w', hrun, own_slice h2, hup w' (fun k => S k ∨ (w.heap.size ≤ k ∧ k < w'.heap.size)) _ ⟨h3.os, h3.tape, h3.output, hsz, fun k hk hs => h3.block k hk (fun e => hs (hsb k e.symm)), fun k hk => ?_⟩ (fun b hb => ?_) ⟨?_, fun k hk => ?_⟩⟩
  · rcases hk with hk | hk
    · exact Or.inl hk
    · exact Or.inr hk.1
  · rcases hb with hb | hb
    · have := (hlt b hb).2; omega
    · exact hb.2
  · rw [List.length_append, hm]
    exact h2
  · rcases h5 with h5 | h5
    · rw [h5] at hk; exact Or.inl (hsb k hk)
    · have := (hl2 k hk).2
      rw [h5] at hk
      injection hk with hk
      exact Or.inr ⟨by omega, this⟩
theorem Own.intsIs {v : Value} {l : List Int} (h : Own w0 w rs) (hk : rs[k]? = some (intsR v l)) : ∃ a c, v = .slice a l.length c := by
  obtain ⟨S, ⟨hown, _⟩, _⟩ := h.upd hk
  exact own_slice hown
theorem Own.intsKeep {v : Value} {l : List Int} (h : Own w0 w rs) (hk : rs[k]? = some (intsR v l)) : KeepIs w v l := by
  obtain ⟨S, ⟨hown, _⟩, _⟩ := h.upd hk
  exact keep_of_owns hown rfl
theorem Own.backApp {r' : Res} {ext : List Res} (hkl : k < rs.length) (h : Own w0 w (r' :: restR rs (· = k) :: ext)) : Own w0 w (rs.set k r' ++ ext) := by
  obtain ⟨h0, F, h1, h2, h3⟩ := h
  have ha := h1 0 r' rfl
  obtain ⟨G, g1, g2, g3⟩ := h1 1 _ rfl
  have key : ∀ i b, (if i = k then F 0 b else if i < rs.length then G i b else F (i - rs.length + 2) b) → F (if i = k then 0 else if i < rs.length then 1 else i - rs.length + 2) b := fun i b hb => by
    by_cases e : i = k
    · simp only [e, if_true] at hb ⊢; exact hb
    · by_cases e2 : i < rs.length
      · simp only [e, e2, if_true, if_false] at hb ⊢; exact g2 i b e hb
      · simp only [e, e2, if_false] at hb ⊢; exact hb
  refine ⟨h0, fun i b => if i = k then F 0 b else if i < rs.length then G i b else F (i - rs.length + 2) b, ?_, fun i b hb => h2 _ b (key i b hb), fun i j b hi hj => ?_⟩
  · intro i q hq
    by_cases hi : i = k
    · subst hi
      rw [List.getElem?_append_left (by simpa using hkl), List.getElem?_set_self hkl] at hq
      injection hq with hq
      subst hq
      simp only [if_true]
      exact ha
    · by_cases hil : i < rs.length
      · rw [List.getElem?_append_left (by simpa using hil), List.getElem?_set_ne (by omega)] at hq
        simp only [hi, hil, if_true, if_false]
        exact g1 i q hi hq
      · rw [List.getElem?_append_right (by simp; omega), List.length_set] at hq
        simp only [hi, hil, if_false]
        exact h1 (i - rs.length + 2) q (by simpa using hq)
  · have e := h3 _ _ b (key i b hi) (key j b hj)
    by_cases i1 : i = k
    · by_cases j1 : j = k
      · omega
      · by_cases j2 : j < rs.length
        · simp only [i1, j1, j2, if_true, if_false] at e; omega
        · simp only [i1, j1, j2, if_true, if_false] at e; omega
    · by_cases j1 : j = k
      · by_cases i2 : i < rs.length
        · simp only [i1, j1, i2, if_true, if_false] at e; omega
        · simp only [i1, j1, i2, if_true, if_false] at e; omega
      · by_cases i2 : i < rs.length
        · by_cases j2 : j < rs.length
          · simp only [i1, i2, if_true, if_false] at hi
            simp only [j1, j2, if_true, if_false] at hj
            exact g3 i j b i1 j1 hi hj
          · simp only [i1, j1, i2, j2, if_true, if_false] at e; omega
        · by_cases j2 : j < rs.length
          · simp only [i1, j1, i2, j2, if_true, if_false] at e; omega
          · simp only [i1, j1, i2, j2, if_false] at e; omega
end
end Go.Proofs.Ytcaalfpfkalalaa
