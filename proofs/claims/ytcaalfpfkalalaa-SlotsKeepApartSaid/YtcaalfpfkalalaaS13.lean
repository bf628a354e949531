/- slots: Get. -/
import Derived.Test.YtcaalfpfkalalaaS12
set_option linter.unusedVariables false
set_option linter.unusedSimpArgs false
set_option maxRecDepth 10000
set_option maxHeartbeats 4000000
namespace Go.Proofs.Ytcaalfpfkalalaa
open Go.RowKit Qd
open Go.Proofs.YtcaalfpfkalalaaW.PrintLast
theorem Own.xlfbyte {w0 w : World} {rs : List Res} {k : Nat} {o : Oper} {ρ : Operand → Value} {x : Operand} {b j : Nat} {s : Sec} {i : Int} {g : Bool} (h : Own w0 w rs) (hk : rs[k]? = some (blkR b (foundVals s i g).toArray 95)) (ho : o.op = .load 5 x) (hx : ρ x = .pointer (some ⟨b, j, none⟩)) (hs : SecOk s) (hj : j < 64) :
    (execOp ρ o).run Try.prog w = .ok (.value (.int .u8 (s.getD j 0))) w := by
  have hjl : j < s.length := by have := hs.1; omega
  have hc : w.cell? ⟨b, j, none⟩ = some (.int .u8 (s.getD j 0)) := by
    rw [(h.blk hk).1.cell]
    simp only [List.getElem?_toArray]
    unfold foundVals
    rw [List.getElem?_append_left (by simp [secVals]; exact hjl)]
    simp [secVals, List.getD, List.getElem?_eq_getElem hjl]
  unfold execOp
  simp only [ho, hx]
  go_simp
theorem sec_len {s : Sec} (h : SecOk s) : s.length = 64 := h.1
theorem sec_range {s : Sec} (h : SecOk s) {j : Nat} (hj : j < 64) : 0 ≤ s.getD j 0 ∧ s.getD j 0 < 256 := by
  have hl : j < s.length := by have := h.1; omega
  rw [List.getD_eq_getElem?_getD, List.getElem?_eq_getElem hl]
  exact h.2 _ (List.getElem_mem hl)
theorem side_len {d : Disk} {i : Int} (h : (d.side i).good = true) : (d.side i).s.getD 36 0 ≤ 55 := by
  unfold Disk.side at h ⊢
  simp only [] at h ⊢
  by_cases h0 : (d.read i).2 = 0
  · rw [if_pos h0] at h ⊢
    simp only [goodSec, Bool.and_eq_true, decide_eq_true_eq] at h
    exact h.2
  · rw [if_neg h0] at h
    split at h <;> cases h
theorem ex_cut {w : World} {o : Oper} {ρ : Operand → Value} {x yl y : Operand} {b l h n : Nat} {L H : Int} (ho : o.op = .slice 29 x (some yl) (some y) none) (hx : ρ x = .pointer (some ⟨b, 0, none⟩)) (hl : ρ yl = .int .i64 L) (hy : ρ y = .int .i64 H)
    (hL : L = l) (hH : H = h) (h1 : l < 64) (h2 : l ≤ h) (h3 : h ≤ 64) (hn : h - l = n) : (execOp ρ o).run Try.prog w = .ok (.value (.slice (some ⟨b, l, none⟩) n (64 - l))) w := by
  subst hn
  have hu : Try.prog.underlying 29 = some (.array (Try.prog.arrayLen 29) (Try.prog.elem 29)) := by kernel_rfl
  have ha : Try.prog.arrayLen 29 = 64 := by kernel_rfl
  have hi : (Try.prog.info? (Try.prog.elem 29)).map (·.size) = some 1 := by kernel_rfl
  obtain ⟨i, hi1, hi2⟩ := Option.map_eq_some_iff.1 hi
  have hs : (sizeOf (Try.prog.elem 29)).run Try.prog w = .ok 1 w := by simp [sizeOf, typeInfo, hi1, hi2]
  have hr := run_sliceAt_array_lh (P := Try.prog) w 29 ⟨b, 0, none⟩ hu .i64 .i64 L H (by omega) (by omega) (by rw [ha]; omega)
  rw [hs, ha] at hr
  have e : slicedAt ⟨b, 0, none⟩ L.toNat H.toNat 64 1 = .slice (some ⟨b, l, none⟩) (h - l) (64 - l) := by
    rw [hL, hH]
    unfold slicedAt
    rw [Int.toNat_natCast, Int.toNat_natCast, if_neg (by omega)]
    simp [Addr.add]
    exact fun h0 => h0.symm
  simp only [Result.andThen_ok] at hr
  rw [e] at hr
  unfold execOp
  simp only [ho, hx, hl, hy, Option.map_some, Option.map_none, hr, Sem.run_bind, Sem.run_pure, Result.andThen_ok]
theorem Own.found_part {w0 w : World} {rs : List Res} {k b l n : Nat} {s : Sec} {i : Int} {g : Bool} (h : Own w0 w rs) (hk : rs[k]? = some (blkR b (foundVals s i g).toArray 95)) (hs : SecOk s) : w.rangeAt b l (secVals ((s.drop l).take n)) := by
  intro j v hj
  rw [(h.blk hk).1.cell]
  simp only [List.getElem?_toArray]
  unfold foundVals
  simp only [secVals, List.getElem?_map, List.getElem?_take, List.getElem?_drop] at hj
  split at hj
  · obtain ⟨y, h1, h2⟩ := Option.map_eq_some_iff.1 hj
    rw [List.getElem?_append_left (by simp [secVals]; exact (List.getElem?_eq_some_iff.1 h1).1)]
    simp [secVals, h1, h2]
  · simp at hj
theorem best_len {d : Disk} {first i : Int} (h : (d.slot first i).best.good = true) : (d.slot first i).best.s.getD 36 0 ≤ 55 := by
  unfold Both.best at h ⊢
  unfold Disk.slot at h ⊢
  simp only [] at h ⊢
  split at h <;> rename_i h0
  · rw [if_pos h0]; exact side_len h
  · rw [if_neg h0]; exact side_len h
attribute [local irreducible] diskR blkR rowR objR restR bytesR secVals SecOk DiskIn Own foundVals feOf
section
variable {w0 w : World} {rs : List Res} {k j p q : Nat} {d : Disk}
theorem Own.get_ (h : Own w0 w rs) (hk : rs[k]? = some (diskR p d)) {first nn i : Int} (hj : rs[j]? = some (blkR q #[.pointer (some ⟨p, 0, none⟩), .int .i64 first, .int .i64 nn] 93)) (hne : k ≠ j)
    (hf0 : 0 ≤ first) (hf1 : first ≤ 65536) (hn1 : nn ≤ 65536) :
    Calls Try.prog 17 #[.pointer (some ⟨q, 0, none⟩), .int .i64 i] w fun e w' => e = .returned (.tuple #[.string (strOfNums (d.get first nn i).1), .int .i64 (d.get first nn i).2]) ∧ Own w0 w' rs := by
  have c2 : w.cell? ⟨q, 2, none⟩ = some (.int .i64 nn) := by rw [(h.blk hj).1.cell]; rfl
  have hst0 : strOfNums [] = { data := #[] } := rfl
  by_cases hi : i < 0 ∨ nn ≤ i
  · have hr : d.get first nn i = ([], 1) := by unfold Disk.get; rw [if_pos hi]
    rw [hr]
    simp only []
    rw [hst0]
    clear hr hst0
    by_cases h1 : i < 0
    · have hb1 : decide (i < 0) = true := decide_eq_true h1
      clear h1 hi
      go_enter Try.func17, Try.ntmps17
      go_wp2
      go_ret2
      exact ⟨rfl, h⟩
    · have hb1 : decide (i < 0) = false := decide_eq_false h1
      have hb2 : decide (i ≥ nn) = true := decide_eq_true (by omega)
      clear h1 hi
      go_enter Try.func17, Try.ntmps17
      go_wp2
      go_ret2
      exact ⟨rfl, h⟩
  · have hi0 : 0 ≤ i := by omega
    have hi1 : i ≤ 65536 := by omega
    have hb1 : decide (i < 0) = false := decide_eq_false (by omega)
    have hb2 : decide (i ≥ nn) = false := decide_eq_false (by omega)
    have hdok := h.okOf hk
    obtain ⟨x, hx⟩ : ∃ x, x = d.slot first i := ⟨_, rfl⟩
    have hxok := slot_ok hdok first i
    rw [← hx] at hxok
    obtain ⟨hx1, hx2⟩ := hxok
    obtain ⟨r, hr⟩ : ∃ r, r = d.get first nn i := ⟨_, rfl⟩
    rw [← hr]
    unfold Disk.get at hr
    rw [if_neg hi] at hr
    simp only [] at hr
    rw [← hx] at hr
    have HX := Lib.hid hx
    have ho := h.focus2 hk hj hne
    have hend : ∀ (w' : World), Own w0 w' [diskR p d, blkR q #[.pointer (some ⟨p, 0, none⟩), .int .i64 first, .int .i64 nn] 93, restR rs (fun i => i = k ∨ i = j)] → Own w0 w' rs := fun _ h' =>
      Own.set_same (Own.set_same (h'.back2 hne) (by rw [List.getElem?_set_ne hne]; exact hj)) hk
    have HEND := Lib.hid hend
    have HSZ : Hid (strOfNums [] = { data := #[] }) := Lib.hid hst0
    clear h hk hj hend hx hi hst0 hdok
    by_cases hxe : x.e = 0
    · rw [if_neg (by simp [hxe])] at hr
      obtain ⟨ba, hba⟩ : ∃ b, b = (if x.second = true then first + 2 * i + 1 else first + 2 * i) := ⟨_, rfl⟩
      obtain ⟨oa, hoa⟩ : ∃ b, b = (if x.second = true then first + 2 * i else first + 2 * i + 1) := ⟨_, rfl⟩
      have hsp : ∀ e, SlotPost d first i e → e = .returned (.tuple #[.agg (foundVals x.best.s ba x.best.good).toArray, .agg (foundVals x.other.s oa x.other.good).toArray, .int .i64 0]) := fun e he => by
        unfold SlotPost at he
        rw [← HX.out, if_neg (by simp [hxe]), ← hba, ← hoa] at he
        exact he
      have HSP := Lib.hid hsp
      have HR := Lib.hid hr
      clear hsp hba hoa hxe hr
      cases hg : x.best.good with
      | false =>
        have hr1 : r = ([], 14) := by rw [HR.out, hg]; rfl
        rw [hg] at HSP
        rw [hr1]
        simp only []
        rw [HSZ.out]
        clear hg hr1 HR
        go_enter Try.func17, Try.ntmps17
        go_upto_region 3 with (fail)
        clear c2 hb1 hb2
        go_wp2_with (first
          | (refine go_val rfl (exl_part (x := .tmp 25) (b := q) rfl rfl (ho.blk (i := 1) rfl).1) ?_; simp only [Act.put, List.setIfInBounds_toArray, List.set_cons_zero, List.set_cons_succ])
          | (go_at_call 38; refine (ho.slot_ (k := 0) rfl hf0 hf1 hi0 hi1).mono ?_; rintro e w' ⟨he, hq⟩; rw [HSP.out e he]; clear he; (try simp only [List.nil_append, List.cons_append, List.set_cons_zero, List.set_cons_succ] at hq); replace ho := hq; clear hq)
          | (refine go_val_ex rfl (ho.xafound 6 rfl rfl) ?_; rintro v w1 ⟨b7, rfl, hq⟩; simp only [Act.put, List.setIfInBounds_toArray, List.set_cons_zero, List.set_cons_succ]; (try simp only [List.nil_append, List.cons_append, List.set_cons_zero, List.set_cons_succ] at hq); replace ho := hq; clear hq)
          | (refine go_val_ex rfl (ho.xafound 7 rfl rfl) ?_; rintro v w1 ⟨b8, rfl, hq⟩; simp only [Act.put, List.setIfInBounds_toArray, List.set_cons_zero, List.set_cons_succ]; (try simp only [List.nil_append, List.cons_append, List.set_cons_zero, List.set_cons_succ] at hq); replace ho := hq; clear hq)
          | (refine go_skp_ex rfl (ho.xsfound (k := 3) (s' := x.best.s) (x := .tmp 6) (y := .tmp 29) rfl rfl rfl zeroSec_ok hx1 rfl) ?_; rintro w1 hq; simp only [Act.put, List.setIfInBounds_toArray, List.set_cons_zero, List.set_cons_succ]; (try simp only [List.nil_append, List.cons_append, List.set_cons_zero, List.set_cons_succ] at hq); replace ho := hq; clear hq)
          | (refine go_skp_ex rfl (ho.xsfound (k := 4) (s' := x.other.s) (x := .tmp 7) (y := .tmp 30) rfl rfl rfl zeroSec_ok hx2 rfl) ?_; rintro w1 hq; simp only [Act.put, List.setIfInBounds_toArray, List.set_cons_zero, List.set_cons_succ]; (try simp only [List.nil_append, List.cons_append, List.set_cons_zero, List.set_cons_succ] at hq); replace ho := hq; clear hq)
          | (refine go_val rfl (ho.xlfbool (k := 3) (x := .tmp 37) rfl rfl rfl hx1) ?_; simp only [Act.put, List.setIfInBounds_toArray, List.set_cons_zero, List.set_cons_succ]))
        go_ret2
        exact ⟨rfl, HEND.out _ (ho.pick [0, 1, 2] (by decide) rfl)⟩
      | true =>
        have hbl : x.best.s.getD 36 0 ≤ 55 := by rw [HX.out] at hg ⊢; exact best_len hg
        have hb0 := (sec_range hx1 (j := 36) (by omega))
        obtain ⟨m, hm⟩ : ∃ m, m = x.best.s.getD 36 0 := ⟨_, rfl⟩
        rw [← hm] at hbl hb0
        have HM := Lib.hid hm
        by_cases hm0 : m = 0
        · have hr1 : r = ([], 8) := by rw [HR.out, hg, if_neg (by simp), if_pos (by rw [← hm]; exact hm0)]
          rw [hg] at HSP
          rw [hr1]
          simp only []
          rw [HSZ.out]
          have hbm : (m == 0) = true := by simp [hm0]
          clear hg hr1 HR hm hm0 hbl hb0
          go_enter Try.func17, Try.ntmps17
          go_upto_region 3 with (fail)
          clear c2 hb1 hb2
          go_wp2_with (first
            | (refine go_val rfl (exl_part (x := .tmp 25) (b := q) rfl rfl (ho.blk (i := 1) rfl).1) ?_; simp only [Act.put, List.setIfInBounds_toArray, List.set_cons_zero, List.set_cons_succ])
            | (go_at_call 38; refine (ho.slot_ (k := 0) rfl hf0 hf1 hi0 hi1).mono ?_; rintro e w' ⟨he, hq⟩; rw [HSP.out e he]; clear he; (try simp only [List.nil_append, List.cons_append, List.set_cons_zero, List.set_cons_succ] at hq); replace ho := hq; clear hq)
            | (refine go_val_ex rfl (ho.xafound 6 rfl rfl) ?_; rintro v w1 ⟨b7, rfl, hq⟩; simp only [Act.put, List.setIfInBounds_toArray, List.set_cons_zero, List.set_cons_succ]; (try simp only [List.nil_append, List.cons_append, List.set_cons_zero, List.set_cons_succ] at hq); replace ho := hq; clear hq)
            | (refine go_val_ex rfl (ho.xafound 7 rfl rfl) ?_; rintro v w1 ⟨b8, rfl, hq⟩; simp only [Act.put, List.setIfInBounds_toArray, List.set_cons_zero, List.set_cons_succ]; (try simp only [List.nil_append, List.cons_append, List.set_cons_zero, List.set_cons_succ] at hq); replace ho := hq; clear hq)
            | (refine go_skp_ex rfl (ho.xsfound (k := 3) (s' := x.best.s) (x := .tmp 6) (y := .tmp 29) rfl rfl rfl zeroSec_ok hx1 rfl) ?_; rintro w1 hq; simp only [Act.put, List.setIfInBounds_toArray, List.set_cons_zero, List.set_cons_succ]; (try simp only [List.nil_append, List.cons_append, List.set_cons_zero, List.set_cons_succ] at hq); replace ho := hq; clear hq)
            | (refine go_skp_ex rfl (ho.xsfound (k := 4) (s' := x.other.s) (x := .tmp 7) (y := .tmp 30) rfl rfl rfl zeroSec_ok hx2 rfl) ?_; rintro w1 hq; simp only [Act.put, List.setIfInBounds_toArray, List.set_cons_zero, List.set_cons_succ]; (try simp only [List.nil_append, List.cons_append, List.set_cons_zero, List.set_cons_succ] at hq); replace ho := hq; clear hq)
            | (refine go_val rfl (ho.xlfbool (k := 3) (x := .tmp 37) rfl rfl rfl hx1) ?_; simp only [Act.put, List.setIfInBounds_toArray, List.set_cons_zero, List.set_cons_succ])
            | (refine go_val rfl (ho.xlfbyte (k := 3) (j := 36) (x := .tmp 42) rfl rfl rfl hx1 (by omega)) ?_; rw [← HM.out]; simp only [Act.put, List.setIfInBounds_toArray, List.set_cons_zero, List.set_cons_succ]))
          go_ret2
          exact ⟨rfl, HEND.out _ (ho.pick [0, 1, 2] (by decide) rfl)⟩
        · have hr1 : r = (secBytes x.best.s, 0) := by rw [HR.out, hg, if_neg (by simp), if_neg (by rw [← hm]; exact hm0)]
          rw [hg] at HSP
          rw [hr1]
          simp only []
          have hbm : (m == 0) = false := by simp [hm0]
          have hm1 : 1 ≤ m := by omega
          clear hg hr1 HR hm hm0
          go_enter Try.func17, Try.ntmps17
          go_upto_region 3 with (fail)
          clear c2 hb1 hb2
          go_upto_region 11 with (first
            | (refine go_val rfl (exl_part (x := .tmp 25) (b := q) rfl rfl (ho.blk (i := 1) rfl).1) ?_; simp only [Act.put, List.setIfInBounds_toArray, List.set_cons_zero, List.set_cons_succ])
            | (go_at_call 38; refine (ho.slot_ (k := 0) rfl hf0 hf1 hi0 hi1).mono ?_; rintro e w' ⟨he, hq⟩; rw [HSP.out e he]; clear he; (try simp only [List.nil_append, List.cons_append, List.set_cons_zero, List.set_cons_succ] at hq); replace ho := hq; clear hq)
            | (refine go_val_ex rfl (ho.xafound 6 rfl rfl) ?_; rintro v w1 ⟨b7, rfl, hq⟩; simp only [Act.put, List.setIfInBounds_toArray, List.set_cons_zero, List.set_cons_succ]; (try simp only [List.nil_append, List.cons_append, List.set_cons_zero, List.set_cons_succ] at hq); replace ho := hq; clear hq)
            | (refine go_val_ex rfl (ho.xafound 7 rfl rfl) ?_; rintro v w1 ⟨b8, rfl, hq⟩; simp only [Act.put, List.setIfInBounds_toArray, List.set_cons_zero, List.set_cons_succ]; (try simp only [List.nil_append, List.cons_append, List.set_cons_zero, List.set_cons_succ] at hq); replace ho := hq; clear hq)
            | (refine go_skp_ex rfl (ho.xsfound (k := 3) (s' := x.best.s) (x := .tmp 6) (y := .tmp 29) rfl rfl rfl zeroSec_ok hx1 rfl) ?_; rintro w1 hq; simp only [Act.put, List.setIfInBounds_toArray, List.set_cons_zero, List.set_cons_succ]; (try simp only [List.nil_append, List.cons_append, List.set_cons_zero, List.set_cons_succ] at hq); replace ho := hq; clear hq)
            | (refine go_skp_ex rfl (ho.xsfound (k := 4) (s' := x.other.s) (x := .tmp 7) (y := .tmp 30) rfl rfl rfl zeroSec_ok hx2 rfl) ?_; rintro w1 hq; simp only [Act.put, List.setIfInBounds_toArray, List.set_cons_zero, List.set_cons_succ]; (try simp only [List.nil_append, List.cons_append, List.set_cons_zero, List.set_cons_succ] at hq); replace ho := hq; clear hq)
            | (refine go_val rfl (ho.xlfbool (k := 3) (x := .tmp 37) rfl rfl rfl hx1) ?_; simp only [Act.put, List.setIfInBounds_toArray, List.set_cons_zero, List.set_cons_succ])
            | (refine go_val rfl (ho.xlfbyte (k := 3) (j := 36) (x := .tmp 42) rfl rfl rfl hx1 (by omega)) ?_; rw [← HM.out]; simp only [Act.put, List.setIfInBounds_toArray, List.set_cons_zero, List.set_cons_succ])
            | (refine go_val rfl (ho.xlfbyte (k := 3) (j := 36) (x := .tmp 46) rfl rfl rfl hx1 (by omega)) ?_; rw [← HM.out]; simp only [Act.put, List.setIfInBounds_toArray, List.set_cons_zero, List.set_cons_succ]))
          have HL1 : Hid (((x.best.s.drop 4).take (min m.toNat 28)).length = min m.toNat 28) := Lib.hid (by rw [List.length_take, List.length_drop, sec_len hx1]; omega)
          have HL2 : Hid (((x.best.s.drop 37).take (m.toNat - 28)).length = m.toNat - 28) := Lib.hid (by rw [List.length_take, List.length_drop, sec_len hx1]; omega)
          by_cases hm28 : m > 28
          · have hb28 : decide (m > 28) = true := decide_eq_true hm28
            have hfin : ∀ l, l = (x.best.s.drop 4).take (min m.toNat 28) ++ (x.best.s.drop 37).take (m.toNat - 28) → strOfNums l = strOfNums (secBytes x.best.s) := fun l hl => by
              rw [hl, HM.out]; rfl
            have HF := Lib.hid hfin
            clear hfin
            go_wp2_with (first
              | (refine go_val_ex rfl (ho.xbytes0 rfl) ?_; rintro v w1 ⟨bb, rfl, hq⟩; simp only [Act.put, List.setIfInBounds_toArray, List.set_cons_zero, List.set_cons_succ]; (try simp only [List.nil_append, List.cons_append, List.set_cons_zero, List.set_cons_succ] at hq); replace ho := hq; clear hq)
              | (refine go_val rfl (ex_cut (n := min m.toNat 28) (l := 4) (h := 4 + min m.toNat 28) (x := .tmp 50) rfl rfl rfl rfl rfl (by omega) (by omega) (by omega) (by omega) (by omega)) ?_; simp only [Act.put, List.setIfInBounds_toArray, List.set_cons_zero, List.set_cons_succ])
              | (refine go_val_ex rfl (ho.xbytes (k := 5) (s := .tmp 49) (x := .tmp 54) (ks := (x.best.s.drop 4).take (min m.toNat 28)) rfl rfl rfl rfl HL1.out (ho.found_part (k := 3) rfl hx1) (by simp only [List.length_nil]; omega)) ?_; rintro v w1 ⟨-, hq⟩; simp only [Act.put, List.setIfInBounds_toArray, List.set_cons_zero, List.set_cons_succ]; (try simp only [List.nil_append, List.cons_append, List.set_cons_zero, List.set_cons_succ] at hq); replace ho := hq; clear hq)
              | (refine go_val rfl (ex_cut (n := m.toNat - 28) (l := 37) (h := 37 + (m.toNat - 28)) (x := .tmp 59) rfl rfl rfl rfl rfl (by omega) (by omega) (by omega) (by omega) (by omega)) ?_; simp only [Act.put, List.setIfInBounds_toArray, List.set_cons_zero, List.set_cons_succ])
              | (refine go_val_ex rfl (ho.xbytes (k := 5) (s := .tmp 58) (x := .tmp 63) (ks := (x.best.s.drop 37).take (m.toNat - 28)) rfl rfl rfl rfl HL2.out (ho.found_part (k := 3) rfl hx1) (by rw [HL1.out]; omega)) ?_; rintro v w1 ⟨-, hq⟩; simp only [Act.put, List.setIfInBounds_toArray, List.set_cons_zero, List.set_cons_succ]; (try simp only [List.nil_append, List.cons_append, List.set_cons_zero, List.set_cons_succ] at hq); replace ho := hq; clear hq)
              | (refine go_val rfl (ho.xstr (k := 5) (x := .tmp 65) rfl rfl rfl) ?_; rw [HF.out _ rfl]; simp only [Act.put, List.setIfInBounds_toArray, List.set_cons_zero, List.set_cons_succ]))
            go_ret2
            exact ⟨rfl, HEND.out _ (ho.pick [0, 1, 2] (by decide) rfl)⟩
          · have hb28 : decide (m > 28) = false := decide_eq_false hm28
            have hfin : ∀ l, l = (x.best.s.drop 4).take (min m.toNat 28) → strOfNums l = strOfNums (secBytes x.best.s) := fun l hl => by
              have e0 : (x.best.s.getD 36 0).toNat - 28 = 0 := by rw [← HM.out]; omega
              unfold secBytes
              rw [e0, List.take_zero, List.append_nil, hl, HM.out]
            have HF := Lib.hid hfin
            clear hfin
            go_wp2_with (first
              | (refine go_val_ex rfl (ho.xbytes0 rfl) ?_; rintro v w1 ⟨bb, rfl, hq⟩; simp only [Act.put, List.setIfInBounds_toArray, List.set_cons_zero, List.set_cons_succ]; (try simp only [List.nil_append, List.cons_append, List.set_cons_zero, List.set_cons_succ] at hq); replace ho := hq; clear hq)
              | (refine go_val rfl (ex_cut (n := min m.toNat 28) (l := 4) (h := 4 + min m.toNat 28) (x := .tmp 50) rfl rfl rfl rfl rfl (by omega) (by omega) (by omega) (by omega) (by omega)) ?_; simp only [Act.put, List.setIfInBounds_toArray, List.set_cons_zero, List.set_cons_succ])
              | (refine go_val_ex rfl (ho.xbytes (k := 5) (s := .tmp 49) (x := .tmp 54) (ks := (x.best.s.drop 4).take (min m.toNat 28)) rfl rfl rfl rfl HL1.out (ho.found_part (k := 3) rfl hx1) (by simp only [List.length_nil]; omega)) ?_; rintro v w1 ⟨-, hq⟩; simp only [Act.put, List.setIfInBounds_toArray, List.set_cons_zero, List.set_cons_succ]; (try simp only [List.nil_append, List.cons_append, List.set_cons_zero, List.set_cons_succ] at hq); replace ho := hq; clear hq)
              | (refine go_val rfl (ho.xstr (k := 5) (x := .tmp 65) rfl rfl rfl) ?_; rw [HF.out _ rfl]; simp only [Act.put, List.setIfInBounds_toArray, List.set_cons_zero, List.set_cons_succ]))
            go_ret2
            exact ⟨rfl, HEND.out _ (ho.pick [0, 1, 2] (by decide) rfl)⟩
    · rw [if_pos hxe] at hr
      have hsp : ∀ e, SlotPost d first i e → e = .returned (.tuple #[.agg (foundVals zeroSec 0 false).toArray, .agg (foundVals zeroSec 0 false).toArray, .int .i64 x.e]) := fun e he => by
        unfold SlotPost at he
        rw [← HX.out, if_pos hxe] at he
        exact he
      have HSP := Lib.hid hsp
      obtain ⟨ex, hex⟩ : ∃ e, e = x.e := ⟨_, rfl⟩
      rw [← hex] at hxe HSP hr
      rw [hr]
      simp only []
      rw [HSZ.out]
      have hb : (ex != 0) = true := by simp [hxe]
      clear hsp hxe hex hr
      go_enter Try.func17, Try.ntmps17
      go_upto_region 3 with (fail)
      clear c2 hb1 hb2
      go_wp2_with (first
        | (refine go_val rfl (exl_part (x := .tmp 25) (b := q) rfl rfl (ho.blk (i := 1) rfl).1) ?_; simp only [Act.put, List.setIfInBounds_toArray, List.set_cons_zero, List.set_cons_succ])
        | (go_at_call 38; refine (ho.slot_ (k := 0) rfl hf0 hf1 hi0 hi1).mono ?_; rintro e w' ⟨he, hq⟩; rw [HSP.out e he]; clear he; (try simp only [List.nil_append, List.cons_append, List.set_cons_zero, List.set_cons_succ] at hq); replace ho := hq; clear hq)
        | (refine go_val_ex rfl (ho.xafound 6 rfl rfl) ?_; rintro v w1 ⟨b7, rfl, hq⟩; simp only [Act.put, List.setIfInBounds_toArray, List.set_cons_zero, List.set_cons_succ]; (try simp only [List.nil_append, List.cons_append, List.set_cons_zero, List.set_cons_succ] at hq); replace ho := hq; clear hq)
        | (refine go_val_ex rfl (ho.xafound 7 rfl rfl) ?_; rintro v w1 ⟨b8, rfl, hq⟩; simp only [Act.put, List.setIfInBounds_toArray, List.set_cons_zero, List.set_cons_succ]; (try simp only [List.nil_append, List.cons_append, List.set_cons_zero, List.set_cons_succ] at hq); replace ho := hq; clear hq)
        | (refine go_skp_ex rfl (ho.xsfound (k := 3) (s' := zeroSec) (x := .tmp 6) (y := .tmp 29) rfl rfl rfl zeroSec_ok zeroSec_ok rfl) ?_; rintro w1 hq; simp only [Act.put, List.setIfInBounds_toArray, List.set_cons_zero, List.set_cons_succ]; (try simp only [List.nil_append, List.cons_append, List.set_cons_zero, List.set_cons_succ] at hq); replace ho := hq; clear hq)
        | (refine go_skp_ex rfl (ho.xsfound (k := 4) (s' := zeroSec) (x := .tmp 7) (y := .tmp 30) rfl rfl rfl zeroSec_ok zeroSec_ok rfl) ?_; rintro w1 hq; simp only [Act.put, List.setIfInBounds_toArray, List.set_cons_zero, List.set_cons_succ]; (try simp only [List.nil_append, List.cons_append, List.set_cons_zero, List.set_cons_succ] at hq); replace ho := hq; clear hq))
      go_ret2
      exact ⟨rfl, HEND.out _ (ho.pick [0, 1, 2] (by decide) rfl)⟩
end
end Go.Proofs.Ytcaalfpfkalalaa
