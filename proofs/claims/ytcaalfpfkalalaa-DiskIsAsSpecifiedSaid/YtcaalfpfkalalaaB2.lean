/- The walks of a disk's Read and Write. -/
import Derived.Test.YtcaalfpfkalalaaB1
import Derived.Test.YtcaalfpfkalalaaWLast
set_option linter.unusedVariables false
set_option linter.unusedSimpArgs false
namespace Go.Proofs.Ytcaalfpfkalalaa
open Go.RowKit Qd
open Go.Proofs.YtcaalfpfkalalaaW.PrintLast
section
variable {w : World} {p bc bm : Nat} {f : Int → Option Value} {d : Disk} {S : Nat → Prop} {i : Int}
theorem read_calls (h : DiskIn w S p d) (i : Int) : Calls Try.prog 14 #[.pointer (some ⟨p, 0, none⟩), .int .i64 i] w fun e w' =>
    e = .returned (.tuple #[.agg (secVals (d.read i).1).toArray, .int .i64 (d.read i).2]) ∧ Nw w w' := by
  unfold Disk.read
  by_cases hc : d.check i = 0
  · obtain ⟨_, h0, h1⟩ := check_in hc
    obtain ⟨k, rfl⟩ := Int.eq_ofNat_of_zero_le h0
    rw [if_neg (by rw [hc]; simp), Int.toNat_natCast]
    have HC : ∀ o, Hid (Calls Try.prog 34 #[.pointer (some ⟨p, 0, none⟩), .int .i64 k] (w.alloc o) fun e w' => e = .returned (.int .i64 0) ∧ w' = w.alloc o) := fun o => by
      have := check_calls (h.alloc o) k
      rw [hc] at this; exact this
    obtain ⟨bc, bm, f, ha, hs⟩ := h
    have hlt := ha.obj.lt
    have c0 := ha.c0
    have c1 := ha.c1
    have hk : k < d.cells.length := by omega
    have hk1 := ha.ok.len
    by_cases ho : d.opn k = []
    · rw [if_neg (by simpa using ho)]
      have hv := ha.none' (k : Int) (Or.inr (by rw [Int.toNat_natCast]; exact ho))
      have hrg := row_range ha hk
      have hbt : w.cell? ⟨bc, k * 65 + 64, none⟩ = some (.bool (d.cell k).bad) := by
        have := hrg 64 (.bool (d.cell k).bad) (by unfold cellVals; rw [List.getElem?_append_right (by rw [secVals_len, (ha.ok.cell k).1]; exact Nat.le_refl _), secVals_len, (ha.ok.cell k).1]; rfl)
        exact this
      have hrs : w.rangeAt bc (k * 65) (secVals (d.cell k).s) := fun j v hj => hrg j v (by unfold cellVals; rw [List.getElem?_append_left (List.getElem?_eq_some_iff.1 hj).1]; exact hj)
      have hok := ha.ok.cell k
      have HR := Lib.hid hrs
      have HV := Lib.hid hv
      have HM := Lib.hid ha.map
      have hlt2 := ha.row.lt
      generalize d.cell k = c at *
      generalize d.cells.length = m at *
      clear hrs hrg hv ha hs ho hc
      cases hb : c.bad with
      | true =>
        rw [if_pos rfl]
        rw [hb] at hbt
        clear hb
        go_enter Try.func14, Try.ntmps14
        go_wp2_with (first
          | (go_at_call 34; refine (HC _).out.mono ?_; rintro e w' ⟨rfl, rfl⟩)
          | (refine go_val rfl (exa_sec rfl) ?_)
          | (refine go_val rfl (exk_open (x := .tmp 18) (y := .tmp 19) rfl (bm := bm) (f := f) (k := k) (v := .slice none 0 0) rfl rfl (HM.out.alloc _) (by rw [HV.out]; rfl)) ?_)
          | (refine go_val rfl (exb_sec rfl) ?_)
          | (refine go_skp rfl (exs_sec (x := .tmp 4) (y := .tmp 38) rfl (b := w.heap.size) (k := 0) rfl zeroSec_ok rfl (sec_there_of_blk zeroSec_ok (Blk.new _ _ _))) ?_))
        refine bodyPost_ret (results_sec_tmp rfl _ zeroSec_ok rfl (sec_range_of_blk (blk_over (Blk.new _ _ _) rfl)) rfl) rfl ⟨rfl, ((Nw.refl w).alloc _).setCells (Blk.new _ _ _) _ (by simp) (Nat.le_refl _)⟩
      | false =>
        rw [if_neg (by simp)]
        rw [hb] at hbt
        clear hb
        go_enter Try.func14, Try.ntmps14
        go_wp2_with (first
          | (go_at_call 34; refine (HC _).out.mono ?_; rintro e w' ⟨rfl, rfl⟩)
          | (refine go_val rfl (exa_sec rfl) ?_)
          | (refine go_val rfl (exk_open (x := .tmp 18) (y := .tmp 19) rfl (bm := bm) (f := f) (k := k) (v := .slice none 0 0) rfl rfl (HM.out.alloc _) (by rw [HV.out]; rfl)) ?_)
          | (refine go_val rfl (exl_sec (x := .tmp 45) rfl (b := bc) (k := k * 65) rfl hok (range_alloc HR.out _)) ?_)
          | (refine go_skp rfl (exs_sec (x := .tmp 4) (y := .tmp 46) rfl (b := w.heap.size) (k := 0) rfl hok rfl (sec_there_of_blk zeroSec_ok (Blk.new _ _ _))) ?_))
        refine bodyPost_ret (results_sec_tmp rfl _ hok rfl (sec_range_of_blk (blk_over (Blk.new _ _ _) (by rw [sec64 hok, sec64 zeroSec_ok]))) rfl) rfl ⟨rfl, ((Nw.refl w).alloc _).setCells (Blk.new _ _ _) _ (by rw [List.size_toArray, sec64 hok, sec64 zeroSec_ok]; omega) (Nat.le_refl _)⟩
    · rw [if_pos ho]
      obtain ⟨v, hv, hr⟩ := ha.some' (k : Int) h0 (by rw [Int.toNat_natCast]; exact ho)
      rw [Int.toNat_natCast] at hr
      have hpos : 0 < (d.opn k).length := List.length_pos_iff.2 ho
      obtain ⟨g, cap, rfl⟩ := own_form hr hpos
      have hmax := own_max hr
      have hrg := many_range (ha.ok.opnOk k) hr (i := (d.opn k).length - 1) (by omega)
      rw [← lastSec_getD ho] at hrg
      have hok := lastSec_ok (ha.ok.opnOk k)
      have HR := Lib.hid hrg
      have HV := Lib.hid hv
      have HM := Lib.hid ha.map
      generalize lastSec (d.opn k) = s at *
      generalize (d.opn k).length = n at *
      obtain ⟨n, rfl⟩ : ∃ n', n = n' + 1 := ⟨n - 1, by omega⟩
      generalize d.cells.length = m at *
      clear hrg hr hv ha hs ho hc
      go_enter Try.func14, Try.ntmps14
      go_wp2_with (first
        | (go_at_call 34; refine (HC _).out.mono ?_; rintro e w' ⟨rfl, rfl⟩)
        | (refine go_val rfl (exa_sec rfl) ?_)
        | (refine go_val rfl (exk_open (x := .tmp 18) (y := .tmp 19) rfl (bm := bm) (f := f) (k := k) (v := .slice (some ⟨g, 0, none⟩) (n + 1) cap) rfl rfl (HM.out.alloc _) (by rw [HV.out]; rfl)) ?_)
        | (refine go_val rfl (exl_sec (x := .tmp 28) rfl (b := g) (k := n * 64) rfl hok (range_alloc HR.out _)) ?_)
        | (refine go_skp rfl (exs_sec (x := .tmp 4) (y := .tmp 29) rfl (b := w.heap.size) (k := 0) rfl hok rfl (sec_there_of_blk zeroSec_ok (Blk.new _ _ _))) ?_))
      refine bodyPost_ret (results_sec_tmp rfl _ hok rfl (sec_range_of_blk (blk_over (Blk.new _ _ _) (by rw [sec64 hok, sec64 zeroSec_ok]))) rfl) rfl ⟨rfl, ((Nw.refl w).alloc _).setCells (Blk.new _ _ _) _ (by rw [List.size_toArray, sec64 hok, sec64 zeroSec_ok]; omega) (Nat.le_refl _)⟩
  · rw [if_pos hc]
    have HC : ∀ o, Hid (Calls Try.prog 34 #[.pointer (some ⟨p, 0, none⟩), .int .i64 i] (w.alloc o) fun e w' => e = .returned (.int .i64 (d.check i)) ∧ w' = w.alloc o) := fun o => check_calls (h.alloc o) i
    generalize d.check i = z at *
    have hz : (z != 0) = true := by simpa using hc
    clear h hc
    go_enter Try.func14, Try.ntmps14
    go_wp2_with (first
      | (go_at_call 34; refine (HC _).out.mono ?_; rintro e w' ⟨rfl, rfl⟩)
      | (refine go_val rfl (exa_sec rfl) ?_)
      | (refine go_val rfl (exb_sec rfl) ?_)
      | (refine go_skp rfl (exs_sec (x := .tmp 4) (y := .tmp 13) rfl (b := w.heap.size) (k := 0) rfl zeroSec_ok rfl (sec_there_of_blk zeroSec_ok (Blk.new _ _ _))) ?_))
    refine bodyPost_ret (results_sec_tmp rfl _ zeroSec_ok rfl (sec_range_of_blk (blk_over (Blk.new _ _ _) rfl)) rfl) rfl ⟨rfl, ((Nw.refl w).alloc _).setCells (Blk.new _ _ _) _ (by simp) (Nat.le_refl _)⟩
end
end Go.Proofs.Ytcaalfpfkalalaa
