/- The walk of a disk's sectors: those with open writes, ascending. -/
import Derived.Test.YtcaalfpfkalalaaC1
set_option linter.unusedVariables false
set_option linter.unusedSimpArgs false
set_option maxRecDepth 10000
set_option maxHeartbeats 4000000
namespace Go.Proofs.Ytcaalfpfkalalaa
open Go.RowKit Qd
section
variable {w : World} {p : Nat} {d : Disk} {S : Nat → Prop}
theorem sectors_calls (h : DiskIn w S p d) : Calls Try.prog 52 #[.pointer (some ⟨p, 0, none⟩)] w fun e w' =>
    ∃ v, e = .returned v ∧ w'.ownsRow w.heap.size 3 1 v d.busy.length (intVals (d.busy.map fun (k : Nat) => (k : Int))) ∧ Nw w w' := by
  obtain ⟨bc, bm, f, ha, hs⟩ := h
  have c1 := ha.c1
  have HM := Lib.hid ha.map
  have HA := Lib.hid ha
  have hf : ∀ k : Int, (f k).isSome = true ↔ 0 ≤ k ∧ d.opn k.toNat ≠ [] := fun k => by
    constructor
    · intro hk
      obtain ⟨v, hv⟩ := Option.isSome_iff_exists.1 hk
      exact ⟨(ha.f_row hv).1, (ha.f_row hv).2.1⟩
    · rintro ⟨h0, h1⟩
      obtain ⟨v, hv, _⟩ := ha.some' k h0 h1
      rw [hv]; rfl
  have HF := Lib.hid hf
  have hml := ha.ok.len
  have hrg : ∀ k, (f k).isSome = true → 0 ≤ k ∧ k < (d.cells.length : Int) := fun k hk => by
    obtain ⟨h0, h1⟩ := (hf k).1 hk
    refine ⟨h0, ?_⟩
    rcases Nat.lt_or_ge k.toNat d.cells.length with h5 | h5
    · omega
    · exact absurd (ha.ok.out _ h5) h1
  have HRG := Lib.hid hrg
  have HLT := Lib.hid (show bm < w.heap.size from ha.map.lt)
  clear ha hs hf hrg
  go_enter Try.func52, Try.ntmps52
  go_wp2_with (refine go_val_ex rfl (ex_range (x := .tmp 8) (bm := bm) (f := f) rfl uOpen rfl HM.out) ?_; rintro v w3 ⟨cnt, rfl, hrg, hg3, hz3⟩; go_frame)
  have HN3 := Lib.hid (show Nw w w3 from Turn.of_grown hg3 (fun k e => by cases e))
  have HZ3 := Lib.hid hz3
  clear hg3 hz3
  go_loopw [3] (fun v wr => ∃ (left : Int → Bool) (acc : List Int) (cnt : Nat), RangeIs wr bm w.heap.size f left cnt ∧ Seen f left acc ∧ Nw w wr ∧ wr.ownsRow w.heap.size 3 1 v acc.length (intVals acc) ∧ v.ownBlock ≠ some w.heap.size)
    (fun _ wr => wr.rangeLeft bm w.heap.size)
  case atStart => exact ⟨_, [], cnt, hrg, Seen.start f, HN3.out, World.ownsRow_nil _ _ _ _, by simp [Value.ownBlock]⟩
  case round =>
    obtain ⟨left, acc, cnt', hrg', hse, hnw, hown, hnb⟩ := hrel
    have HLE := Lib.hid hrg'.left_eq
    have HSE := Lib.hid hse
    have HNW := Lib.hid hnw
    have HOW := Lib.hid hown
    have HNB := Lib.hid hnb
    have hlen := seen_len hse HRG.out
    have hgl : w.heap.size < wr.heap.size := hrg'.lt
    clear hse hnw hown hnb hrg
    go_wp2_with (refine go_next (x := .tmp 9) rfl rfl rfl hrg' ?_ ?_)
    · intro hl0
      have HL := Lib.hid hl0
      clear hl0 hrg'
      go_wp2_with (go_at_call 60; refine (sort_own HOW.out (by omega)).mono ?_; rintro e w' ⟨rfl, hs, hg⟩)
      go_ret
      rw [seen_busy HSE.out HL.out HA.out.ok HF.out] at hs
      have hln : acc.length = d.busy.length := by
        have := congrArg List.length (seen_busy HSE.out HL.out HA.out.ok HF.out)
        simpa using this
      rw [hln] at hs
      exact ⟨u3, rfl, hs, HNW.out.grown hg (fun k e => ownsRow_new HOW.out e)⟩
    · intro k v w1 cnt1 hlk hfk hrg1 hlt hg1 hz1 hen
      have HR1 := Lib.hid hrg1
      have HS1 := Lib.hid (HSE.out.step hlk)
      have hgne : ∀ b, u3.ownBlock = some b → some b ≠ some w.heap.size := fun b e1 e2 => HNB.out (by rw [e1, e2])
      have HO1 := Lib.hid (ownsRow_same (w' := w1) HOW.out (fun b hb => hg1.block b (by obtain ⟨cs, hc⟩ := ownsRow_heap HOW.out hb; exact hc.lt) (hgne b hb)))
      have HN1 := Lib.hid (HNW.out.grown hg1 (fun k e => by injection e with e; omega))
      have hB1 : w.heap.size ≤ (w1.alloc (.cells #[.int .i64 k] 3)).heap.size := by rw [World.size_alloc]; omega
      have HO2 := Lib.hid (ownsRow_same (w' := w1.alloc (.cells #[.int .i64 k] 3)) HO1.out (fun b hb => (MapKept.heap_alloc w1 _).2 b (by obtain ⟨cs, hc⟩ := ownsRow_heap HO1.out hb; exact hc.lt)))
      have HNL := Lib.hid (show acc.length + 1 < 1099511627776 by omega)
      have HLT1 := Lib.hid hlt
      have HG1 := Lib.hid hg1
      clear hrg1 hlk hgne hlt hg1 hrg'
      go_wp2_with (first
        | (refine go_val rfl (exz_int (k := k) rfl rfl) ?_)
        | (refine go_val_ex rfl (exp_ints (s := .tmp 14) (x := .tmp 16) (b := w1.heap.size) (p := 0) (l := acc) (ks := [k]) (v := u3) hB1 rfl rfl HO2.out rfl rfl ((Blk.new w1 #[.int .i64 k] 3).range 0 _ (fun j _ => by simp)) HNL.out) ?_; rintro v3 w5 ⟨ho5, hg5, hb5⟩; go_frame))
      have hal := (MapKept.heap_alloc w1 (.cells #[.int .i64 k] 3)).2
      have hr5 := HR1.out.same (w' := w5)
        ((hg5.block bm (by rw [World.size_alloc]; have := HR1.out.map.lt; omega) (fun e => by have := ownsRow_new HOW.out e.symm; have := HLT.out; omega)).trans (hal bm HR1.out.map.lt))
        ((hg5.block _ (by rw [World.size_alloc]; omega) (fun e => HNB.out e.symm)).trans (hal _ HR1.out.lt))
      refine ⟨⟨_, acc ++ [k], cnt1, hr5, HS1.out, (HN1.out.alloc _).grown hg5 (fun b e => ownsRow_new HOW.out e), by rw [List.length_append]; exact ho5, ?_⟩, ?_⟩
      · rcases hb5 with e | e
        · rw [e]; exact HNB.out
        · rw [e, World.size_alloc]; intro e2; injection e2 with e2; omega
      · rw [hr5.left_eq, HLE.out]; exact HLT1.out
end
end Go.Proofs.Ytcaalfpfkalalaa
