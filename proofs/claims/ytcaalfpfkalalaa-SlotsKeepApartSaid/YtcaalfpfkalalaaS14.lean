/- A row of numbers that the call itself makes, among what is owned. -/
import Derived.Test.YtcaalfpfkalalaaS13
set_option linter.unusedVariables false
set_option linter.unusedSimpArgs false
set_option maxRecDepth 10000
set_option maxHeartbeats 4000000
namespace Go.Proofs.Ytcaalfpfkalalaa
open Go.RowKit Qd
open Go.Proofs.YtcaalfpfkalalaaW.PrintLast
def intsR (v : Value) (l : List Int) : Res := ⟨fun w S => w.ownsRow 0 3 1 v l.length (intVals l) ∧ ∀ k, v.ownBlock = some k → S k, fun h hk => by
  refine ⟨⟨h.1.1, ?_⟩, h.2⟩
  rcases h.1.2 with h1 | ⟨g, cap, cur, hv, h2, h3, h4⟩
  · exact Or.inl h1
  · exact Or.inr ⟨g, cap, cur, hv, h2, (hk g (h.2 g (by rw [hv]; rfl))).trans h3, h4⟩⟩
section
variable {w0 w : World} {rs : List Res} {k : Nat} {o : Oper} {ρ : Operand → Value}
/-- 'var lost []int'. -/
theorem Own.intsNil (h : Own w0 w rs) : Own w0 w (rs ++ [intsR (.slice none 0 0) []]) := by
  refine h.push (S := fun _ => False) (Turn.refl _ w) (fun b hb => hb.elim) ?_
  exact ⟨⟨rfl, Or.inl ⟨rfl, rfl⟩⟩, fun k hk => by simp [Value.ownBlock] at hk⟩
theorem Own.xints {b p m c : Nat} {s x : Operand} {v : Value} {l ks : List Int} (h : Own w0 w rs) (hk : rs[k]? = some (intsR v l)) (ho : o.op = .call { callee := .builtin .append, args := #[s, x], argTypes := #[33, 33] }) (hs : ρ s = v)
    (hx : ρ x = .slice (some ⟨b, p, none⟩) m c) (hm : ks.length = m) (hr : w.rangeAt b p (intVals ks)) (hn : l.length + m < 1099511627776) :
    ∃ v' w1, (execOp ρ o).run Try.prog w = .ok (.value v') w1 ∧ (∃ a c', v' = .slice a (l.length + m) c') ∧ Own w0 w1 (rs.set k (intsR v' (l ++ ks))) := by
  obtain ⟨S, ⟨hown, hsb⟩, hlt, hup⟩ := h.upd hk
  obtain ⟨v', w', hrun, h2, h3, h5⟩ := exp_ints (Nat.zero_le _) ho hs hown hx hm hr hn
  have hsz := h3.size
  have hl2 := h2.lt
  refine ⟨v', w', hrun, own_slice h2, hup w' (fun k => S k ∨ (w.heap.size ≤ k ∧ k < w'.heap.size)) _ ⟨h3.os, h3.tape, h3.output, hsz, fun k hk hs => h3.block k hk (fun e => hs (hsb k e.symm)), fun k hk => ?_⟩ (fun b hb => ?_) ⟨?_, fun k hk => ?_⟩⟩
  · rcases hk with hk | hk
    · exact Or.inl hk
    · exact Or.inr hk.1
  · rcases hb with hb | hb
    · have := (hlt b hb).2; omega
    · exact hb.2
  · rw [List.length_append, hm]
    exact h2
  · rcases h5 with h5 | h5
    · rw [h5] at hk; exact Or.inl (hsb k hk)
    · have := (hl2 k hk).2
      rw [h5] at hk
      injection hk with hk
      exact Or.inr ⟨by omega, this⟩
theorem Own.intsIs {v : Value} {l : List Int} (h : Own w0 w rs) (hk : rs[k]? = some (intsR v l)) : ∃ a c, v = .slice a l.length c := by
  obtain ⟨S, ⟨hown, _⟩, _⟩ := h.upd hk
  exact own_slice hown
theorem Own.intsKeep {v : Value} {l : List Int} (h : Own w0 w rs) (hk : rs[k]? = some (intsR v l)) : KeepIs w v l := by
  obtain ⟨S, ⟨hown, _⟩, _⟩ := h.upd hk
  exact keep_of_owns hown rfl
theorem Own.backApp {r' : Res} {ext : List Res} (hkl : k < rs.length) (h : Own w0 w (r' :: restR rs (· = k) :: ext)) : Own w0 w (rs.set k r' ++ ext) := by
  obtain ⟨h0, F, h1, h2, h3⟩ := h
  have ha := h1 0 r' rfl
  obtain ⟨G, g1, g2, g3⟩ := h1 1 _ rfl
  have key : ∀ i b, (if i = k then F 0 b else if i < rs.length then G i b else F (i - rs.length + 2) b) → F (if i = k then 0 else if i < rs.length then 1 else i - rs.length + 2) b := fun i b hb => by
    by_cases e : i = k
    · simp only [e, if_true] at hb ⊢; exact hb
    · by_cases e2 : i < rs.length
      · simp only [e, e2, if_true, if_false] at hb ⊢; exact g2 i b e hb
      · simp only [e, e2, if_false] at hb ⊢; exact hb
  refine ⟨h0, fun i b => if i = k then F 0 b else if i < rs.length then G i b else F (i - rs.length + 2) b, ?_, fun i b hb => h2 _ b (key i b hb), fun i j b hi hj => ?_⟩
  · intro i q hq
    by_cases hi : i = k
    · subst hi
      rw [List.getElem?_append_left (by simpa using hkl), List.getElem?_set_self hkl] at hq
      injection hq with hq
      subst hq
      simp only [if_true]
      exact ha
    · by_cases hil : i < rs.length
      · rw [List.getElem?_append_left (by simpa using hil), List.getElem?_set_ne (by omega)] at hq
        simp only [hi, hil, if_true, if_false]
        exact g1 i q hi hq
      · rw [List.getElem?_append_right (by simp; omega), List.length_set] at hq
        simp only [hi, hil, if_false]
        exact h1 (i - rs.length + 2) q (by simpa using hq)
  · have e := h3 _ _ b (key i b hi) (key j b hj)
    by_cases i1 : i = k
    · by_cases j1 : j = k
      · omega
      · by_cases j2 : j < rs.length
        · simp only [i1, j1, j2, if_true, if_false] at e; omega
        · simp only [i1, j1, j2, if_true, if_false] at e; omega
    · by_cases j1 : j = k
      · by_cases i2 : i < rs.length
        · simp only [i1, j1, i2, if_true, if_false] at e; omega
        · simp only [i1, j1, i2, if_true, if_false] at e; omega
      · by_cases i2 : i < rs.length
        · by_cases j2 : j < rs.length
          · simp only [i1, i2, if_true, if_false] at hi
            simp only [j1, j2, if_true, if_false] at hj
            exact g3 i j b i1 j1 hi hj
          · simp only [i1, j1, i2, j2, if_true, if_false] at e; omega
        · by_cases j2 : j < rs.length
          · simp only [i1, j1, i2, j2, if_true, if_false] at e; omega
          · simp only [i1, j1, i2, j2, if_false] at e; omega
end
/-! ### Open, plain -/
theorem open1_eq (d : Disk) (first i : Int) : d.open1 first i = (if (d.slot first i).e ≠ 0 then (d, (d.slot first i).e, false)
  else if (d.slot first i).best.good = true then ((d.heal first i).1, (d.heal first i).2, false) else ((d.format (first + 2 * i) 1).1, (d.format (first + 2 * i) 1).2, true)) := rfl
theorem openFrom_succ (d : Disk) (first : Int) (k : Nat) (i : Int) (lost : List Int) : d.openFrom first (k + 1) i lost = (if (d.open1 first i).2.1 ≠ 0 then ((d.open1 first i).1, (d.open1 first i).2.1, [])
  else (d.open1 first i).1.openFrom first k (i + 1) (if (d.open1 first i).2.2 then lost ++ [i] else lost)) := rfl
theorem fmt_steps : ∀ (k : Nat) (d : Disk) (i : Int), (d.fmt k i).1.steps ≤ d.steps + k + 1
  | 0, d, i => by have := sync_steps d; simpa [Disk.fmt] using this
  | k + 1, d, i => by
    have h1 := write_steps d i (copySec 1 [])
    rw [fmt_succ]
    split
    · omega
    · have := fmt_steps k (d.write i (copySec 1 [])).1 (i + 1)
      omega
theorem format1_steps (d : Disk) (first : Int) : (d.format first 1).1.steps ≤ d.steps + 3 := by
  unfold Disk.format
  split
  · have := fmt_steps 2 d first
    show (d.fmt 2 first).1.steps ≤ d.steps + 3
    omega
  · simp only; omega
theorem open1_steps (d : Disk) (first i : Int) : (d.open1 first i).1.steps ≤ d.steps + 3 := by
  have h1 := heal_steps d first i
  have h2 := format1_steps d (first + 2 * i)
  rw [open1_eq]
  split
  · simp only; omega
  · split
    · simp only; omega
    · simp only; omega
end Go.Proofs.Ytcaalfpfkalalaa
