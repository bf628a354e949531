/- The specification's disk: New, Arm, check, step, Rot. -/
import Derived.Test.YtcaalfpfkalalaaT1
set_option linter.unusedVariables false
set_option linter.unusedSimpArgs false
set_option maxRecDepth 10000
set_option maxHeartbeats 4000000
namespace Go.Proofs.Ytcaalfpfkalalaa
open Go.RowKit Qd
open Go.Proofs.YtcaalfpfkalalaaW.PrintLast
attribute [local irreducible] diskR blkR restR rowsR secVals SecOk refRow Own
section
variable {w0 w : World} {rs : List Res} {p k : Nat} {d : Disk}
theorem Own.rcheck_ (h : Own w0 w rs) (hk : rs[k]? = some (refR p d)) (i : Int) : Calls Try.prog 51 #[.pointer (some ⟨p, 0, none⟩), .int .i64 i] w fun e w' => e = .returned (.int .i64 (d.check i)) ∧ w' = w := by
  obtain ⟨bc, vs, hl, hok, ho⟩ := h.openRef hk
  have c0 : w.cell? ⟨p, 0, none⟩ = some (.slice (some ⟨bc, 0, none⟩) d.cells.length d.cells.length) := ho.cellOf (k := 0) (j := 0) rfl
  have c3 : w.cell? ⟨p, 3, none⟩ = some (.bool d.dead) := ho.cellOf (k := 0) (j := 3) rfl
  clear ho hl hok h hk
  unfold Disk.check
  generalize d.cells.length = n at *
  cases hd : d.dead with
  | true =>
    rw [hd] at c3
    have HD := Lib.hid hd; clear hd
    rw [if_pos rfl]
    go_enter Try.func51, Try.ntmps51
    go_wp2
    go_ret
    exact ⟨rfl, rfl⟩
  | false =>
    rw [hd] at c3
    have HD := Lib.hid hd; clear hd
    rw [if_neg (by decide)]
    by_cases h1 : i < 0 ∨ (n : Int) ≤ i
    · rw [if_pos h1]
      rcases Int.lt_or_le i 0 with h2 | h2
      · clear h1
        go_enter Try.func51, Try.ntmps51
        go_wp2
        go_ret
        exact ⟨rfl, rfl⟩
      · have h3 : (n : Int) ≤ i := by omega
        clear h1
        go_enter Try.func51, Try.ntmps51
        go_wp2
        go_ret
        exact ⟨rfl, rfl⟩
    · rw [if_neg h1]
      have h2 : 0 ≤ i := by omega
      have h3 : i < (n : Int) := by omega
      clear h1
      go_enter Try.func51, Try.ntmps51
      go_wp2
      go_ret
      exact ⟨rfl, rfl⟩
theorem Own.rstep_ (h : Own w0 w rs) (hk : rs[k]? = some (refR p d)) (hb : d.steps < 4611686018427387904) : Calls Try.prog 58 #[.pointer (some ⟨p, 0, none⟩)] w fun e w' =>
    e = .returned (.bool (decide (d.step.2 = 0))) ∧ Own w0 w' (rs.set k (refR p d.step.1)) := by
  obtain ⟨bc, vs, hl, hok, ho⟩ := h.openRef hk
  have b1 := hok.afHi
  have b2 := hok.af
  have b3 := hok.st0
  have hok' := hok.step
  obtain ⟨a, haf⟩ : ∃ a, a = d.after := ⟨_, rfl⟩
  obtain ⟨st, hst⟩ : ∃ a, a = d.steps := ⟨_, rfl⟩
  simp only [refL, refObj, List.cons_append, List.nil_append] at ho
  rw [← haf] at b1 b2 ho
  rw [← hst] at b3 hb ho
  have HAF := Lib.hid haf
  have HST := Lib.hid hst
  have HOK := Lib.hid hok
  have HOK2 := Lib.hid hok'
  have HL := Lib.hid hl
  clear haf hst hok hok' h hk hl
  by_cases h0 : a = 0
  · subst h0
    go_enter Try.func58, Try.ntmps58
    go_wp2_with (first
      | (refine go_val rfl (ho.xint1 (k := 0) (j := 2) (u := 0) (x := .tmp 5) rfl rfl rfl rfl) ?_; simp only [Act.put, List.setIfInBounds_toArray, List.set_cons_zero, List.set_cons_succ])
      | (refine go_skp_ex rfl (ho.xsb1 (k := 0) (j := 3) (u := true) (x := .tmp 10) rfl rfl rfl rfl (by simp)) ?_; rintro w1 hq; simp only [Act.put, List.setIfInBounds_toArray, List.set_cons_zero, List.set_cons_succ]; (try simp only [List.nil_append, List.cons_append, List.set_cons_zero, List.set_cons_succ] at hq); replace ho := hq; clear hq))
    go_ret
    have e1 : d.step = ({ d with dead := true }, 12) := by unfold Disk.step; rw [if_pos HAF.out.symm]
    rw [e1]
    rw [HST.out, HAF.out] at ho
    exact ⟨rfl, Own.shutRef (d := { d with dead := true }) ho HL.out HOK.out.dead⟩
  · by_cases h1 : 0 < a
    · go_enter Try.func58, Try.ntmps58
      go_wp2_with (first
        | (refine go_val rfl (ho.xint1 (k := 0) (j := 2) (u := a) (x := .tmp 5) rfl rfl rfl rfl) ?_; simp only [Act.put, List.setIfInBounds_toArray, List.set_cons_zero, List.set_cons_succ])
        | (refine go_val rfl (ho.xint1 (k := 0) (j := 2) (u := a) (x := .tmp 13) rfl rfl rfl rfl) ?_; simp only [Act.put, List.setIfInBounds_toArray, List.set_cons_zero, List.set_cons_succ])
        | (refine go_val rfl (ho.xint1 (k := 0) (j := 2) (u := a) (x := .tmp 19) rfl rfl rfl rfl) ?_; simp only [Act.put, List.setIfInBounds_toArray, List.set_cons_zero, List.set_cons_succ])
        | (refine go_skp_ex rfl (ho.xsi1 (k := 0) (j := 2) (u := a - 1) (x := .tmp 23) rfl rfl rfl rfl (by simp)) ?_; rintro w1 hq; simp only [Act.put, List.setIfInBounds_toArray, List.set_cons_zero, List.set_cons_succ]; (try simp only [List.nil_append, List.cons_append, List.set_cons_zero, List.set_cons_succ] at hq); replace ho := hq; clear hq)
        | (refine go_val rfl (ho.xint1 (k := 0) (j := 1) (u := st) (x := .tmp 27) rfl rfl rfl rfl) ?_; simp only [Act.put, List.setIfInBounds_toArray, List.set_cons_zero, List.set_cons_succ])
        | (refine go_skp_ex rfl (ho.xsi1 (k := 0) (j := 1) (u := st + 1) (x := .tmp 31) rfl rfl rfl rfl (by simp)) ?_; rintro w1 hq; simp only [Act.put, List.setIfInBounds_toArray, List.set_cons_zero, List.set_cons_succ]; (try simp only [List.nil_append, List.cons_append, List.set_cons_zero, List.set_cons_succ] at hq); replace ho := hq; clear hq))
      go_ret
      have e1 : d.step = ({ d with after := a - 1, steps := st + 1 }, 0) := by unfold Disk.step; rw [← HAF.out, ← HST.out, if_neg h0, if_pos h1]
      have hok := HOK2.out
      rw [e1] at hok ⊢
      exact ⟨rfl, Own.shutRef (d := { d with after := a - 1, steps := st + 1 }) ho HL.out hok⟩
    · go_enter Try.func58, Try.ntmps58
      go_wp2_with (first
        | (refine go_val rfl (ho.xint1 (k := 0) (j := 2) (u := a) (x := .tmp 5) rfl rfl rfl rfl) ?_; simp only [Act.put, List.setIfInBounds_toArray, List.set_cons_zero, List.set_cons_succ])
        | (refine go_val rfl (ho.xint1 (k := 0) (j := 2) (u := a) (x := .tmp 13) rfl rfl rfl rfl) ?_; simp only [Act.put, List.setIfInBounds_toArray, List.set_cons_zero, List.set_cons_succ])
        | (refine go_val rfl (ho.xint1 (k := 0) (j := 1) (u := st) (x := .tmp 27) rfl rfl rfl rfl) ?_; simp only [Act.put, List.setIfInBounds_toArray, List.set_cons_zero, List.set_cons_succ])
        | (refine go_skp_ex rfl (ho.xsi1 (k := 0) (j := 1) (u := st + 1) (x := .tmp 31) rfl rfl rfl rfl (by simp)) ?_; rintro w1 hq; simp only [Act.put, List.setIfInBounds_toArray, List.set_cons_zero, List.set_cons_succ]; (try simp only [List.nil_append, List.cons_append, List.set_cons_zero, List.set_cons_succ] at hq); replace ho := hq; clear hq))
      go_ret
      have e1 : d.step = ({ d with after := a, steps := st + 1 }, 0) := by unfold Disk.step; rw [← HAF.out, ← HST.out, if_neg h0, if_neg (by omega)]
      have hok := HOK2.out
      rw [e1] at hok ⊢
      exact ⟨rfl, Own.shutRef (d := { d with after := a, steps := st + 1 }) ho HL.out hok⟩
theorem Own.rarm_ (h : Own w0 w rs) (hk : rs[k]? = some (refR p d)) (n : Int) (hn : n ≤ 9223372036854775807) : Calls Try.prog 46 #[.pointer (some ⟨p, 0, none⟩), .int .i64 n] w fun e w' =>
    e = .returned (.tuple #[]) ∧ Own w0 w' (rs.set k (refR p (d.arm n))) := by
  obtain ⟨bc, vs, hl, hok, ho⟩ := h.openRef hk
  have hok' := hok.arm n hn
  simp only [refL, refObj, List.cons_append, List.nil_append] at ho
  have HOK2 := Lib.hid hok'
  have HL := Lib.hid hl
  obtain ⟨m, hm⟩ : ∃ m, m = max n (-1) := ⟨_, rfl⟩
  have e1 : d.arm n = { d with after := m } := by unfold Disk.arm; rw [hm]
  rw [e1] at HOK2 ⊢
  have HM := Lib.hid hm
  clear hok hok' h hk hl hm e1
  go_enter Try.func46, Try.ntmps46
  go_wp2_with (refine go_skp_ex rfl (ho.xsi1 (k := 0) (j := 2) (x := .tmp 8) rfl rfl rfl rfl (by simp)) ?_; rintro w1 hq; simp only [Act.put, List.setIfInBounds_toArray, List.set_cons_zero, List.set_cons_succ]; (try simp only [List.nil_append, List.cons_append, List.set_cons_zero, List.set_cons_succ] at hq); replace ho := hq; clear hq)
  rw [← HM.out] at ho
  go_end0
  exact ⟨rfl, Own.shutRef (d := { d with after := m }) ho HL.out HOK2.out⟩
end
end Go.Proofs.Ytcaalfpfkalalaa
