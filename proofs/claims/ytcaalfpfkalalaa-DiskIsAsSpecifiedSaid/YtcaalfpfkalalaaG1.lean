/- quietusref21.Filled and Same. -/
import Derived.Test.YtcaalfpfkalalaaB9
set_option linter.unusedVariables false
set_option linter.unusedSimpArgs false
set_option maxRecDepth 10000
set_option maxHeartbeats 4000000
namespace Go.Proofs.Ytcaalfpfkalalaa
open Go.RowKit Qd
section
variable {w : World}
theorem results_sec_one {fn : Func} {p : Tmp} (h : fn.results = #[.cell p 29]) (tmps : Array Value) {b : Nat} {s : Sec} (hs : SecOk s) (hp : tmps.getD p undef = .pointer (some ⟨b, 0, none⟩)) (hr : w.rangeAt b 0 (secVals s)) :
    (results fn tmps).run Try.prog w = .ok (.agg (secVals s).toArray) w := by
  have := run_loadVar_mid (P := Try.prog) w b 0 29 (secVals s) _ hr uSector rfl (by rw [sec64 hs]; exact sSector)
  have hp' : tmps[p]?.getD undef = .pointer (some ⟨b, 0, none⟩) := by simpa using hp
  simp [results, h, hp', asAddr, this]
def fillTo (k : Nat) (v : Int) : Sec := List.replicate k v ++ List.replicate (64 - k) 0
theorem fillTo_zero (v : Int) : fillTo 0 v = zeroSec := rfl
theorem fillTo_all (b : Int) : fillTo 64 (b % 256) = filled b := by simp [fillTo, filled]
theorem fillTo_len {k : Nat} (hk : k ≤ 64) (v : Int) : (secVals (fillTo k v)).length = 64 := by simp [fillTo, secVals]; omega
theorem fillTo_step {k : Nat} (hk : k < 64) (v : Int) {b : Nat} {T : TypeId} (h : Blk w b (secVals (fillTo k v)).toArray T) :
    Blk (w.setCell ⟨b, k, none⟩ (.int .u8 v)) b (secVals (fillTo (k + 1) v)).toArray T := by
  have e0 : w.setCell ⟨b, k, none⟩ (.int .u8 v) = w.setCells b k [.int .u8 v] := rfl
  have := h.setCells (o := k) [.int .u8 v] (by rw [List.size_toArray, fillTo_len (by omega)]; simp; omega)
  rw [e0]
  have e : (secVals (fillTo k v)).toArray.toList.take k ++ [Value.int .u8 v] ++ (secVals (fillTo k v)).toArray.toList.drop (k + [Value.int .u8 v].length) = secVals (fillTo (k + 1) v) := by
    simp only [fillTo, secVals, List.map_append, List.map_replicate, List.length_singleton]
    rw [List.take_left' (by simp), List.drop_append, List.drop_eq_nil_of_le (by simp), List.nil_append, List.length_replicate, List.drop_replicate, List.replicate_succ', List.append_assoc, List.append_assoc]
    congr 3
    omega
  rwa [e] at this
theorem filled_calls (b : Int) : Calls Try.prog 11 #[.int .i64 b] w fun e w' => e = .returned (.agg (secVals (filled b)).toArray) ∧ Nw w w' := by
  obtain ⟨v, hv⟩ : ∃ v, v = b % 256 := ⟨_, rfl⟩
  have HF := Lib.hid (show fillTo 64 v = filled b by rw [hv]; exact fillTo_all b)
  have hwv : IntKind.u8.wrap b = v := by rw [hv]; exact IntKind.wrap_u8 b
  go_enter Try.func11, Try.ntmps11
  go_wp2_with (first
    | (refine go_val rfl (exa_sec rfl) ?_; simp only [Act.put, List.setIfInBounds_toArray, List.set_cons_zero, List.set_cons_succ]))
  have hb2 := (Blk.new w (secVals zeroSec).toArray 29).alloc (.cells (secVals zeroSec).toArray 29)
  have hb3 := Blk.new (w.alloc (.cells (secVals zeroSec).toArray 29)) (secVals zeroSec).toArray 29
  have hnw : Nw w ((w.alloc (.cells (secVals zeroSec).toArray 29)).alloc (.cells (secVals zeroSec).toArray 29)) := ((Nw.refl w).alloc _).alloc _
  rw [World.size_alloc] at *
  obtain ⟨h, hh⟩ : ∃ h, h = w.heap.size := ⟨_, rfl⟩
  rw [← hh] at hb2 hb3 ⊢
  have HH := Lib.hid hh
  have HB2 := Lib.hid hb2
  have HB3 := Lib.hid hb3
  have HNW := Lib.hid hnw
  clear hb2 hb3 hnw hh hv
  generalize ((w.alloc (.cells (secVals zeroSec).toArray 29)).alloc (.cells (secVals zeroSec).toArray 29)) = w1 at *
  go_loopw [4] (fun i wr => ∃ k : Nat, k ≤ 64 ∧ i = .int .i64 (k : Int) ∧ Nw w wr ∧ Blk wr h (secVals zeroSec).toArray 29 ∧ Blk wr (h + 1) (secVals (fillTo k v)).toArray 29)
    (fun i _ => 64 - (intOf i).toNat)
  case atStart => exact ⟨0, by omega, rfl, HNW.out, HB2.out, HB3.out⟩
  case round =>
    obtain ⟨k, hk, rfl, hn, hz, hf⟩ := hrel
    have HN := Lib.hid hn
    have HZ := Lib.hid hz
    have HFB := Lib.hid hf
    have hk0 : (0 : Int) ≤ (k : Int) := Int.natCast_nonneg k
    clear hn hz
    by_cases hk4 : k < 64
    · have hc : ∃ u, wr.cell? ⟨h + 1, k, none⟩ = some u := by
        rw [hf.cell, Array.getElem?_eq_getElem (by rw [List.size_toArray, fillTo_len hk]; exact hk4)]
        exact ⟨_, rfl⟩
      obtain ⟨u, hc⟩ := hc
      have hfz : wr.frozen? ⟨h + 1, k, none⟩ = false := hf.frozen k
      clear hf
      go_wp2
      refine ⟨⟨k + 1, by omega, by simp, HN.out.setCell (a := ⟨h + 1, k, none⟩) (by have := HH.out; show w.heap.size ≤ h + 1; omega) _, ?_, fillTo_step hk4 v HFB.out⟩, by simp [intOf]; omega⟩
      exact (heap_setCell_other wr ⟨h + 1, k, none⟩ h _ (by simp)).trans HZ.out
    · have e : k = 64 := by omega
      clear hf
      rw [e, HF.out] at HFB
      clear e
      have hok := filled_ok b
      obtain ⟨fb, hfb⟩ : ∃ fb, fb = filled b := ⟨_, rfl⟩
      rw [← hfb] at HFB hok
      have HFE := Lib.hid hfb
      clear hfb
      go_wp2_with (first
        | (refine go_val rfl (exl_sec (s := fb) (x := .tmp 3) (b := h + 1) (k := 0) rfl rfl hok (sec_range_of_blk HFB.out)) ?_; simp only [Act.put, List.setIfInBounds_toArray, List.set_cons_zero, List.set_cons_succ])
        | (refine go_skp rfl (exs_sec (s := fb) (x := .tmp 2) (y := .tmp 13) rfl (b := h) (k := 0) rfl hok rfl (sec_there_of_blk zeroSec_ok HZ.out)) ?_; simp only [Act.put, List.setIfInBounds_toArray, List.set_cons_zero, List.set_cons_succ]))
      rw [← HFE.out]
      have e64 : (secVals fb).length = (secVals zeroSec).length := by rw [sec64 hok, sec64 zeroSec_ok]
      refine bodyPost_ret (results_sec_one (s := fb) rfl _ hok rfl (sec_range_of_blk (blk_over HZ.out e64))) rfl ⟨rfl, HN.out.setCells (o := 0) HZ.out _ (by rw [List.size_toArray, e64]; omega) (by have := HH.out; omega)⟩
end
end Go.Proofs.Ytcaalfpfkalalaa
