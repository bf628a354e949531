/- Plain laws of a disk that stops, for the statements of layer 21. -/
import Derived.Test.YtcaalfpfkalalaaA1
set_option linter.unusedVariables false
set_option linter.unusedSimpArgs false
namespace Qd
/-- A disk of 16 sectors that was armed with n, behind i steps: sure is what is synced, now what is written since. -/
structure Stops (n i : Nat) (D : Disk) (sure now : Int → Option Sec) : Prop where
  ok : D.Ok
  len : D.cells.length = 16
  dead : D.dead = decide (n < i)
  steps : D.steps = min i n
  after : D.after = (n : Int) - min i n
  none' : ∀ k : Nat, D.opn k = [] ↔ now k = none
  last : ∀ (k : Nat) (s : Sec), now k = some s → lastSec (D.opn k) = s
  cell : ∀ k : Nat, k < 16 → D.cell k = ⟨(sure k).getD zeroSec, false⟩
theorem new_cell {m k : Nat} (hk : k < m) : (Disk.new m).cell k = zeroCell := by
  simp [Disk.new, Disk.cell, List.getD_eq_getElem?_getD, hk]
theorem step_after {D : Disk} (ha : ¬ D.after = 0) : D.step.1.after = if 0 < D.after then D.after - 1 else D.after := by simp [Disk.step, ha]
theorem Stops.start (n : Nat) (hn : n < 256) : Stops n 0 ((Disk.new 16).arm n) (fun _ => none) (fun _ => none) where
  ok := (Disk.ok_new (by omega) (by omega)).arm _ (by omega)
  len := by simp [Disk.arm, Disk.new]
  dead := by simp [Disk.arm, Disk.new]
  steps := by simp [Disk.arm, Disk.new]
  after := by simp [Disk.arm]; omega
  none' := by simp [Disk.arm, Disk.new]
  last := by simp
  cell := fun k hk => new_cell hk
variable {n i : Nat} {D : Disk} {sure now : Int → Option Sec}
def overNow (sure now : Int → Option Sec) : Int → Option Sec := fun k => if now k = none then sure k else now k
theorem Stops.sync_e (h : Stops n i D sure now) : D.sync.2 = if i < n then 0 else 12 := by
  have h1 := h.dead; have h2 := h.after
  unfold Disk.sync
  by_cases hi : i < n
  · rw [if_neg (by rw [h1]; simp; omega), if_neg (by rw [h2]; omega), if_pos hi]
  · rw [if_neg hi]
    split
    · rfl
    · rw [if_pos (by rw [h2]; omega)]
theorem Stops.sync_ok (h : Stops n i D sure now) (hi : i < n) : Stops n (i + 1) D.sync.1 (overNow sure now) (fun _ => none) := by
  have h1 := h.dead; have h2 := h.after
  have e : D.sync.1 = D.step.1.flush := by
    unfold Disk.sync
    rw [if_neg (by rw [h1]; simp; omega), if_neg (by rw [h2]; omega)]
  have ha : ¬ D.after = 0 := by rw [h2]; omega
  refine ⟨h.ok.sync, ?_, ?_, ?_, ?_, ?_, ?_, ?_⟩ <;> rw [e]
  · simp [Disk.flush, Disk.step_cells, h.len]
  · simp only [Disk.flush, Disk.step, if_neg ha, h1]
    simp; omega
  · simp only [Disk.flush, Disk.step, if_neg ha, h.steps]; omega
  · show D.step.1.after = _; rw [step_after ha, h2]; split <;> omega
  · intro k; simp [Disk.flush]
  · intro k s hs; simp at hs
  · intro k hk
    have hc : D.step.1.flush.cell k = D.settled k := by
      have : D.step.1.settled k = D.settled k := by simp [Disk.settled, Disk.step_opn, Disk.cell, Disk.step_cells]
      simp [Disk.flush, Disk.cell, List.getD_eq_getElem?_getD, Disk.step_cells, h.len, hk, this]
    rw [hc, Disk.settled]
    by_cases hn : D.opn k = []
    · rw [if_neg (by simp [hn]), h.cell k hk, overNow, if_pos ((h.none' k).1 hn)]
    · rw [if_pos hn, overNow, if_neg (fun e => hn ((h.none' k).2 e))]
      cases hs : now k with
      | none => exact absurd ((h.none' k).2 hs) hn
      | some s => rw [h.last k s hs]; rfl
theorem Stops.sync_no (h : Stops n i D sure now) (hi : ¬ i < n) : Stops n (i + 1) D.sync.1 sure now := by
  have h1 := h.dead; have h2 := h.after
  have hk := h.ok.sync
  have e : D.sync.1 = { D with dead := true } := by
    unfold Disk.sync
    split
    · rename_i hd; cases D; simp_all
    · rw [if_pos (by rw [h2]; omega)]
  rw [e] at hk ⊢
  exact ⟨hk, h.len, by simp; omega, by have := h.steps; simp only; omega, by simp only; omega, h.none', h.last, h.cell⟩
theorem Stops.write_e (h : Stops n i D sure now) {k : Nat} (hk : k < 16) (s : Sec) : (D.write k s).2 = if i < n then 0 else 12 := by
  have h1 := h.dead; have h2 := h.after
  have hc : D.check k = if D.dead = true then 12 else 0 := by
    unfold Disk.check
    split
    · rfl
    · rw [if_neg (by rw [h.len]; omega)]
  unfold Disk.write
  by_cases hi : i < n
  · have hd : ¬ D.dead = true := by rw [h1]; simp; omega
    rw [hc, if_neg hd, if_neg (by simp), if_neg (by rw [h2]; omega), if_pos hi]
  · rw [if_neg hi, hc]
    by_cases hd : D.dead = true
    · simp [hd]
    · simp [hd, show D.after = 0 by rw [h2]; omega]
theorem Stops.write_ok (h : Stops n i D sure now) {k : Nat} (hk : k < 16) {s : Sec} (hs : SecOk s) (hi : i < n) : Stops n (i + 1) (D.write k s).1 sure (fun x => if x = (k : Int) then some s else now x) := by
  have h1 := h.dead; have h2 := h.after
  have hd : ¬ D.dead = true := by rw [h1]; simp; omega
  have hc : D.check k = 0 := by
    unfold Disk.check
    rw [if_neg hd, if_neg (by rw [h.len]; omega)]
  have ha : ¬ D.after = 0 := by rw [h2]; omega
  have hok := h.ok.write k hs
  have e : (D.write k s).1 = D.step.1.push k s := by
    unfold Disk.write
    rw [hc, if_neg (by simp), if_neg ha]; simp
  rw [e] at hok ⊢
  refine ⟨hok, ?_, ?_, ?_, ?_, ?_, ?_, ?_⟩
  · simp [Disk.push, Disk.step_cells, h.len]
  · simp only [Disk.push, Disk.step, if_neg ha, h1]
    simp; omega
  · simp only [Disk.push, Disk.step, if_neg ha, h.steps]; omega
  · show D.step.1.after = _; rw [step_after ha, h2]; split <;> omega
  · intro x
    by_cases hx : x = k
    · subst hx; simp [Disk.push]
    · have : ¬ (x : Int) = (k : Int) := by omega
      simp only [Disk.push, Disk.step_opn, if_neg hx, if_neg this]
      exact h.none' x
  · intro x t ht
    by_cases hx : x = k
    · subst hx
      simp at ht
      simp [Disk.push, lastSec, ht]
    · have : ¬ (x : Int) = (k : Int) := by omega
      simp only [if_neg this] at ht
      simp only [Disk.push, Disk.step_opn, if_neg hx]
      exact h.last x t ht
  · intro x hx
    have : (D.step.1.push k s).cell x = D.cell x := by simp [Disk.push, Disk.cell, Disk.step_cells]
    rw [this]; exact h.cell x hx
theorem Stops.write_no (h : Stops n i D sure now) {k : Nat} (hk : k < 16) {s : Sec} (hs : SecOk s) (hi : ¬ i < n) : Stops n (i + 1) (D.write k s).1 sure now := by
  have h1 := h.dead; have h2 := h.after
  have hok := h.ok.write k hs
  have e : (D.write k s).1 = { D with dead := true } := by
    unfold Disk.write
    by_cases hd : D.dead = true
    · rw [if_pos (by simp [Disk.check, hd])]; cases D; simp_all
    · have hc : D.check k = 0 := by
        unfold Disk.check
        rw [if_neg hd, if_neg (by rw [h.len]; omega)]
      rw [hc, if_neg (by simp), if_pos (by rw [h2]; omega)]
  rw [e] at hok ⊢
  exact ⟨hok, h.len, by simp; omega, by have := h.steps; simp only; omega, by simp only; omega, h.none', h.last, h.cell⟩
theorem Stops.read_e (h : Stops n i D sure now) {k : Nat} (hk : k < 16) : (D.read k).2 = if n < i then 12 else 0 := by
  have h1 := h.dead
  by_cases hi : n < i
  · have hd : D.dead = true := by rw [h1]; simp [hi]
    simp [Disk.read, Disk.check, hd, hi]
  · have hd : ¬ D.dead = true := by rw [h1]; simp; omega
    have hc : D.check k = 0 := by
      unfold Disk.check
      rw [if_neg hd, if_neg (by rw [h.len]; omega)]
    rw [if_neg hi, Disk.read, hc, if_neg (by simp)]
    split
    · rfl
    · rw [if_neg (by simp [h.cell k hk])]
theorem crash_cell {keep : List Int} {k : Nat} (hk : k < D.cells.length) : (D.crash keep).cell k = D.crashCell keep k := by
  simp [Disk.crash, Disk.cell, List.getD_eq_getElem?_getD, hk]
theorem crash_check {keep : List Int} {k : Nat} (hk : k < D.cells.length) : (D.crash keep).check k = 0 := by
  simp [Disk.crash, Disk.check, Disk.new]; omega
theorem crash_read {keep : List Int} {k : Nat} (hk : k < D.cells.length) : (D.crash keep).read k = if (D.crashCell keep k).bad = true then (zeroSec, 14) else ((D.crashCell keep k).s, 0) := by
  have h0 : (D.crash keep).opn k = [] := rfl
  rw [Disk.read, crash_check hk, if_neg (by simp), if_neg (by simp [h0]), Int.toNat_natCast, crash_cell hk]
theorem Stops.crash_read' (h : Stops n i D sure now) (keep : List Int) {k : Nat} (hk : k < 16) (hn : now k = none) : (D.crash keep).read k = ((sure k).getD zeroSec, 0) := by
  rw [crash_read (by rw [h.len]; exact hk), Disk.crashCell, if_pos ((h.none' k).2 hn), h.cell k hk]; simp
end Qd
