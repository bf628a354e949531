/- Of what a call owns, one thing or two, and all the rest as one. -/
import Derived.Test.YtcaalfpfkalalaaO3
set_option linter.unusedVariables false
set_option linter.unusedSimpArgs false
namespace Go.Proofs.Ytcaalfpfkalalaa
open Go.RowKit Qd
/-- All but the things whose places are in K. -/
def restR (rs : List Res) (K : Nat → Prop) : Res := ⟨fun w S => ∃ F : Nat → Nat → Prop, (∀ i r, ¬ K i → rs[i]? = some r → r.holds w (F i)) ∧ (∀ i b, ¬ K i → F i b → S b) ∧ (∀ i j b, ¬ K i → ¬ K j → F i b → F j b → i = j),
  fun h hk => by
    obtain ⟨F, h1, h2, h3⟩ := h
    exact ⟨F, fun i r hi hr => r.same (h1 i r hi hr) (fun b hb => hk b (h2 i b hi hb)), h2, h3⟩⟩
section
variable {w0 w : World} {rs : List Res} {r r' r1 r1' : Res} {k j : Nat}
theorem Own.focus (h : Own w0 w rs) (hk : rs[k]? = some r) : Own w0 w [r, restR rs (· = k)] := by
  obtain ⟨h0, F, h1, h2, h3⟩ := h
  refine ⟨h0, fun i b => if i = 0 then F k b else i = 1 ∧ ∃ x, x ≠ k ∧ F x b, ?_, ?_, ?_⟩
  · intro i q hq
    rcases i with _ | _ | i
    · simp only [List.getElem?_cons_zero, Option.some.injEq] at hq
      subst hq
      exact h1 k r hk
    · simp only [Nat.zero_add, List.getElem?_cons_succ, List.getElem?_cons_zero, Option.some.injEq] at hq
      subst hq
      exact ⟨F, fun i r _ hr => h1 i r hr, fun i b hi hb => by simp; exact ⟨i, hi, hb⟩, fun i j b _ _ => h3 i j b⟩
    · simp at hq
  · intro i b hb
    by_cases hi : i = 0
    · rw [if_pos hi] at hb; exact h2 k b hb
    · rw [if_neg hi] at hb
      obtain ⟨_, x, _, hx⟩ := hb
      exact h2 x b hx
  · intro i j b hi hj
    by_cases h0 : i = 0
    · rw [if_pos h0] at hi
      by_cases h0' : j = 0
      · omega
      · rw [if_neg h0'] at hj
        obtain ⟨_, x, hx, hxb⟩ := hj
        exact absurd (h3 x k b hxb hi) hx
    · rw [if_neg h0] at hi
      by_cases h0' : j = 0
      · rw [if_pos h0'] at hj
        obtain ⟨_, x, hx, hxb⟩ := hi
        exact absurd (h3 x k b hxb hj) hx
      · rw [if_neg h0'] at hj
        omega
theorem Own.back (h : Own w0 w [r', restR rs (· = k)]) : Own w0 w (rs.set k r') := by
  obtain ⟨h0, F, h1, h2, h3⟩ := h
  have ha := h1 0 r' rfl
  obtain ⟨G, g1, g2, g3⟩ := h1 1 _ rfl
  refine ⟨h0, fun i b => if i = k then F 0 b else G i b, ?_, ?_, ?_⟩
  · intro i q hq
    by_cases hi : i = k
    · subst hi
      have hil : i < rs.length := by
        have := (List.getElem?_eq_some_iff.1 hq).1
        simpa using this
      rw [List.getElem?_set_self hil] at hq
      injection hq with hq
      subst hq
      simp only [if_true]
      exact ha
    · rw [List.getElem?_set_ne (by omega)] at hq
      simp only [hi, if_false]
      exact g1 i q hi hq
  · intro i b hb
    by_cases hi : i = k
    · simp only [hi, if_true] at hb; exact h2 0 b hb
    · simp only [hi, if_false] at hb; exact h2 1 b (g2 i b hi hb)
  · intro i j b hi hj
    by_cases h0' : i = k
    · simp only [h0', if_true] at hi
      by_cases h1' : j = k
      · omega
      · simp only [h1', if_false] at hj
        have := h3 0 1 b hi (g2 j b h1' hj)
        omega
    · simp only [h0', if_false] at hi
      by_cases h1' : j = k
      · simp only [h1', if_true] at hj
        have := h3 0 1 b hj (g2 i b h0' hi)
        omega
      · simp only [h1', if_false] at hj
        exact g3 i j b h0' h1' hi hj
theorem Own.focus2 (h : Own w0 w rs) (hk : rs[k]? = some r) (hj : rs[j]? = some r1) (hne : k ≠ j) : Own w0 w [r, r1, restR rs (fun i => i = k ∨ i = j)] := by
  obtain ⟨h0, F, h1, h2, h3⟩ := h
  refine ⟨h0, fun i b => if i = 0 then F k b else if i = 1 then F j b else i = 2 ∧ ∃ x, x ≠ k ∧ x ≠ j ∧ F x b, ?_, ?_, ?_⟩
  · intro i q hq
    rcases i with _ | _ | _ | i
    · simp only [List.getElem?_cons_zero, Option.some.injEq] at hq
      subst hq
      exact h1 k r hk
    · simp only [Nat.zero_add, List.getElem?_cons_succ, List.getElem?_cons_zero, Option.some.injEq] at hq
      subst hq
      exact h1 j r1 hj
    · simp only [Nat.zero_add, List.getElem?_cons_succ, List.getElem?_cons_zero, Option.some.injEq] at hq
      subst hq
      exact ⟨F, fun i r _ hr => h1 i r hr, fun i b hi hb => by simp; exact ⟨i, fun e => hi (Or.inl e), fun e => hi (Or.inr e), hb⟩, fun i j b _ _ => h3 i j b⟩
    · simp at hq
  · intro i b hb
    by_cases hi : i = 0
    · rw [if_pos hi] at hb; exact h2 k b hb
    · rw [if_neg hi] at hb
      by_cases hi1 : i = 1
      · rw [if_pos hi1] at hb; exact h2 j b hb
      · rw [if_neg hi1] at hb
        obtain ⟨_, x, _, _, hx⟩ := hb
        exact h2 x b hx
  · have key : ∀ i b, (if i = 0 then F k b else if i = 1 then F j b else i = 2 ∧ ∃ x, x ≠ k ∧ x ≠ j ∧ F x b) → ∃ x, F x b ∧ (i = 0 ∧ x = k ∨ i = 1 ∧ x = j ∨ i = 2 ∧ x ≠ k ∧ x ≠ j) := by
      intro i b hb
      by_cases hi : i = 0
      · rw [if_pos hi] at hb; exact ⟨k, hb, Or.inl ⟨hi, rfl⟩⟩
      · rw [if_neg hi] at hb
        by_cases hi1 : i = 1
        · rw [if_pos hi1] at hb; exact ⟨j, hb, Or.inr (Or.inl ⟨hi1, rfl⟩)⟩
        · rw [if_neg hi1] at hb
          obtain ⟨h2, x, hx, hx', hxb⟩ := hb
          exact ⟨x, hxb, Or.inr (Or.inr ⟨h2, hx, hx'⟩)⟩
    intro i i' b hi hi'
    obtain ⟨x, hx, hxi⟩ := key i b hi
    obtain ⟨x', hx', hxi'⟩ := key i' b hi'
    have := h3 x x' b hx hx'
    omega
theorem Own.back2 (h : Own w0 w [r', r1', restR rs (fun i => i = k ∨ i = j)]) (hne : k ≠ j) : Own w0 w ((rs.set k r').set j r1') := by
  obtain ⟨h0, F, h1, h2, h3⟩ := h
  have ha := h1 0 r' rfl
  have hb := h1 1 r1' rfl
  obtain ⟨G, g1, g2, g3⟩ := h1 2 _ rfl
  refine ⟨h0, fun i b => if i = k then F 0 b else if i = j then F 1 b else G i b, ?_, ?_, ?_⟩
  · intro i q hq
    by_cases hij : i = j
    · subst hij
      have hil : i < rs.length := by
        have := (List.getElem?_eq_some_iff.1 hq).1
        simpa using this
      rw [List.getElem?_set_self (by simpa using hil)] at hq
      injection hq with hq
      subst hq
      simp only [Ne.symm hne, if_false, if_true]
      exact hb
    · rw [List.getElem?_set_ne (by omega)] at hq
      by_cases hi : i = k
      · subst hi
        have hil : i < rs.length := by
          have := (List.getElem?_eq_some_iff.1 hq).1
          simpa using this
        rw [List.getElem?_set_self hil] at hq
        injection hq with hq
        subst hq
        simp only [if_true]
        exact ha
      · rw [List.getElem?_set_ne (by omega)] at hq
        simp only [hi, hij, if_false]
        exact g1 i q (by omega) hq
  · intro i b hb
    by_cases hi : i = k
    · simp only [hi, if_true] at hb; exact h2 0 b hb
    · by_cases hij : i = j
      · simp only [hi, if_false, hij, if_true, Ne.symm hne] at hb; exact h2 1 b hb
      · simp only [hi, hij, if_false] at hb; exact h2 2 b (g2 i b (by omega) hb)
  · have key : ∀ i b, (if i = k then F 0 b else if i = j then F 1 b else G i b) → ∃ x, F x b ∧ (x = 0 ∧ i = k ∨ x = 1 ∧ i = j ∨ x = 2 ∧ i ≠ k ∧ i ≠ j ∧ G i b) := by
      intro i b hb
      by_cases hi : i = k
      · rw [if_pos hi] at hb; exact ⟨0, hb, Or.inl ⟨rfl, hi⟩⟩
      · rw [if_neg hi] at hb
        by_cases hi1 : i = j
        · rw [if_pos hi1] at hb; exact ⟨1, hb, Or.inr (Or.inl ⟨rfl, hi1⟩)⟩
        · rw [if_neg hi1] at hb
          exact ⟨2, g2 i b (by omega) hb, Or.inr (Or.inr ⟨rfl, hi, hi1, hb⟩)⟩
    intro i i' b hi hi'
    obtain ⟨x, hx, hxi⟩ := key i b hi
    obtain ⟨x', hx', hxi'⟩ := key i' b hi'
    have hxx := h3 x x' b hx hx'
    rcases hxi with h | h | ⟨ha, hb, hc, hg⟩
    · omega
    · omega
    · rcases hxi' with h | h | ⟨ha', hb', hc', hg'⟩
      · omega
      · omega
      · exact g3 i i' b (by omega) (by omega) hg hg'
end
end Go.Proofs.Ytcaalfpfkalalaa
