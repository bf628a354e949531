/- slots: Put, Kill. -/
import Derived.Test.YtcaalfpfkalalaaS9
set_option linter.unusedVariables false
set_option linter.unusedSimpArgs false
set_option maxRecDepth 10000
set_option maxHeartbeats 4000000
namespace Go.Proofs.Ytcaalfpfkalalaa
open Go.RowKit Qd
open Go.Proofs.YtcaalfpfkalalaaW.PrintLast
attribute [local irreducible] diskR blkR rowR objR restR secVals SecOk DiskIn Own foundVals feOf
section
variable {w0 w : World} {rs : List Res} {k j p q : Nat} {d : Disk}
theorem list_set_same {α : Type} {l : List α} {k : Nat} {x : α} (h : l[k]? = some x) : l.set k x = l := by
  apply List.ext_getElem?
  intro n
  rw [List.getElem?_set]
  split
  · rename_i e
    subst e
    split
    · exact h.symm
    · rename_i hl
      rw [List.getElem?_eq_none (by omega)] at h
      exact absurd h (by simp)
  · rfl
theorem Own.kill_ (h : Own w0 w rs) (hk : rs[k]? = some (diskR p d)) {first nn i : Int} (hj : rs[j]? = some (blkR q #[.pointer (some ⟨p, 0, none⟩), .int .i64 first, .int .i64 nn] 93)) (hne : k ≠ j)
    (hf0 : 0 ≤ first) (hf1 : first ≤ 65536) (hn1 : nn ≤ 65536) (hst : d.steps < 1099511626000) :
    Calls Try.prog 16 #[.pointer (some ⟨q, 0, none⟩), .int .i64 i] w fun e w' => e = .returned (.int .i64 (d.kill first nn i).2) ∧ Own w0 w' (rs.set k (diskR p (d.kill first nn i).1)) := by
  have c2 : w.cell? ⟨q, 2, none⟩ = some (.int .i64 nn) := by rw [(h.blk hj).1.cell]; rfl
  have hsame := list_set_same hk
  by_cases hi : i < 0 ∨ nn ≤ i
  · have hr : d.kill first nn i = (d, 1) := by unfold Disk.kill; rw [if_pos hi]
    rw [hr]
    simp only []
    rw [hsame]
    clear hsame hr
    by_cases h1 : i < 0
    · have hb1 : decide (i < 0) = true := decide_eq_true h1
      clear h1 hi
      go_enter Try.func16, Try.ntmps16
      go_wp2
      go_ret
      exact ⟨rfl, h⟩
    · have hb1 : decide (i < 0) = false := decide_eq_false h1
      have hb2 : decide (i ≥ nn) = true := decide_eq_true (by omega)
      clear h1 hi
      go_enter Try.func16, Try.ntmps16
      go_wp2
      go_ret
      exact ⟨rfl, h⟩
  · have hr : d.kill first nn i = d.change first i [] := by unfold Disk.kill; rw [if_neg hi]
    rw [hr]
    have hi0 : 0 ≤ i := by omega
    have hi1 : i ≤ 65536 := by omega
    have hb1 : decide (i < 0) = false := decide_eq_false (by omega)
    have hb2 : decide (i ≥ nn) = false := decide_eq_false (by omega)
    clear hi hr hsame
    have HC := Lib.hid (h.change_ (i := i) (s := { data := #[] }) hk hj hne hf0 hf1 hi0 hi1 (by decide) hst)
    clear h hk hj hne
    go_enter Try.func16, Try.ntmps16
    go_wp2_with (first
      | (go_at_call 40; refine HC.out.mono ?_; rintro e w' ⟨rfl, hq⟩))
    go_ret
    exact ⟨rfl, hq⟩
theorem Own.put_ (h : Own w0 w rs) (hk : rs[k]? = some (diskR p d)) {first nn i : Int} (hj : rs[j]? = some (blkR q #[.pointer (some ⟨p, 0, none⟩), .int .i64 first, .int .i64 nn] 93)) (hne : k ≠ j)
    (hf0 : 0 ≤ first) (hf1 : first ≤ 65536) (hn1 : nn ≤ 65536) {s : ByteArray} (hst : d.steps < 1099511626000) :
    Calls Try.prog 15 #[.pointer (some ⟨q, 0, none⟩), .int .i64 i, .string s] w fun e w' => e = .returned (.int .i64 (d.put first nn i (strInts s)).2) ∧ Own w0 w' (rs.set k (diskR p (d.put first nn i (strInts s)).1)) := by
  have c2 : w.cell? ⟨q, 2, none⟩ = some (.int .i64 nn) := by rw [(h.blk hj).1.cell]; rfl
  have hsame := list_set_same hk
  have hl := strInts_len s
  by_cases hi : i < 0 ∨ nn ≤ i ∨ (strInts s).length < 1 ∨ 55 < (strInts s).length
  · have hr : d.put first nn i (strInts s) = (d, 1) := by unfold Disk.put; rw [if_pos hi]
    rw [hr]
    simp only []
    rw [hsame]
    rw [hl] at hi
    clear hsame hr hl
    by_cases h1 : i < 0
    · have hb1 : decide (i < 0) = true := decide_eq_true h1
      clear h1 hi
      go_enter Try.func15, Try.ntmps15
      go_wp2
      go_ret
      exact ⟨rfl, h⟩
    · have hb1 : decide (i < 0) = false := decide_eq_false h1
      by_cases h2 : nn ≤ i
      · have hb2 : decide (i ≥ nn) = true := decide_eq_true h2
        clear h1 h2 hi
        go_enter Try.func15, Try.ntmps15
        go_wp2
        go_ret
        exact ⟨rfl, h⟩
      · have hb2 : decide (i ≥ nn) = false := decide_eq_false h2
        by_cases h3 : (s.size : Int) < 1
        · have hb3 : decide ((s.size : Int) < 1) = true := decide_eq_true h3
          clear h1 h2 h3 hi
          go_enter Try.func15, Try.ntmps15
          go_wp2
          go_ret
          exact ⟨rfl, h⟩
        · have hb3 : decide ((s.size : Int) < 1) = false := decide_eq_false h3
          have hb4 : decide ((s.size : Int) > 55) = true := decide_eq_true (by omega)
          clear h1 h2 h3 hi
          go_enter Try.func15, Try.ntmps15
          go_wp2
          go_ret
          exact ⟨rfl, h⟩
  · have hr : d.put first nn i (strInts s) = d.change first i (strInts s) := by unfold Disk.put; rw [if_neg hi]
    rw [hr]
    rw [hl] at hi
    have hi0 : 0 ≤ i := by omega
    have hi1 : i ≤ 65536 := by omega
    have hb1 : decide (i < 0) = false := decide_eq_false (by omega)
    have hb2 : decide (i ≥ nn) = false := decide_eq_false (by omega)
    have hb3 : decide ((s.size : Int) < 1) = false := decide_eq_false (by omega)
    have hb4 : decide ((s.size : Int) > 55) = false := decide_eq_false (by omega)
    have hs : s.size ≤ 55 := by omega
    clear hi hr hsame hl
    have HC := Lib.hid (h.change_ (i := i) (s := s) hk hj hne hf0 hf1 hi0 hi1 hs hst)
    clear h hk hj hne
    go_enter Try.func15, Try.ntmps15
    go_wp2_with (first
      | (go_at_call 40; refine HC.out.mono ?_; rintro e w' ⟨rfl, hq⟩))
    go_ret
    exact ⟨rfl, hq⟩
end
end Go.Proofs.Ytcaalfpfkalalaa
