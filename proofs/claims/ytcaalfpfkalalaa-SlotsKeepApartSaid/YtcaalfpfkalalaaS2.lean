/- slots.number. -/
import Derived.Test.YtcaalfpfkalalaaL2
import Derived.Test.YtcaalfpfkalalaaS1
import Derived.Laws.BitsAllLaws
import Derived.Deep.QuietTactic
import Derived.BigQuiet
set_option linter.unusedVariables false
set_option linter.unusedSimpArgs false
set_option maxRecDepth 10000
set_option maxHeartbeats 4000000
namespace Go.Proofs.Ytcaalfpfkalalaa
open Go.RowKit Qd
section
variable {w : World}
theorem or32 (a b : Int) (k : Nat) (h0 : 0 ≤ a) (hb : 0 ≤ b) (hk : b < 2 ^ k) (h32 : a * 2 ^ k + b < 4294967296) : bits .or .u32 (a * 2 ^ k) b = a * 2 ^ k + b := by
  have hp : (0 : Int) < 2 ^ k := Int.pow_pos (by omega)
  have hab : 0 ≤ a * 2 ^ k := Int.mul_nonneg h0 (by omega)
  rw [u32_or _ _ hab (by omega) hb (by omega)]
  obtain ⟨x, rfl⟩ := Int.eq_ofNat_of_zero_le h0
  obtain ⟨y, rfl⟩ := Int.eq_ofNat_of_zero_le hb
  have hy : y < 2 ^ k := by have : ((y : Nat) : Int) < ((2 ^ k : Nat) : Int) := by rw [Int.natCast_pow]; exact hk
                            omega
  have e : (((x : Nat) : Int) * 2 ^ k).toNat = x <<< k := by
    rw [Nat.shiftLeft_eq]
    have : ((x : Nat) : Int) * 2 ^ k = ((x * 2 ^ k : Nat) : Int) := by rw [Int.natCast_mul, Int.natCast_pow]; rfl
    rw [this, Int.toNat_natCast]
  rw [e, Int.toNat_natCast, ← Nat.shiftLeft_add_eq_or_of_lt hy, Nat.shiftLeft_eq]
  rw [Int.natCast_add, Int.natCast_mul, Int.natCast_pow]; rfl
theorem or4 (a b c d : Int) (ha : 0 ≤ a) (ha' : a < 256) (hb : 0 ≤ b) (hb' : b < 256) (hc : 0 ≤ c) (hc' : c < 256) (hd : 0 ≤ d) (hd' : d < 256) :
    bits .or .u32 (bits .or .u32 (bits .or .u32 (a * 16777216) (b * 65536)) (c * 256)) d = a * 16777216 + b * 65536 + c * 256 + d := by
  have h1 := or32 a (b * 65536) 24 ha (by omega) (by omega) (by omega)
  have h2 := or32 (a * 256 + b) (c * 256) 16 (by omega) (by omega) (by omega) (by omega)
  have h3 := or32 (a * 65536 + b * 256 + c) d 8 (by omega) hd (by omega) (by omega)
  simp only [Int.reducePow] at h1 h2 h3
  rw [h1, show a * 16777216 + b * 65536 = (a * 256 + b) * 65536 from by omega, h2, show (a * 256 + b) * 65536 + c * 256 = (a * 65536 + b * 256 + c) * 256 from by omega, h3]
theorem sec_cell {b : Nat} {s : Sec} {t : TypeId} (h : Blk w b (secVals s).toArray t) (hs : SecOk s) {j : Nat} (hj : j < 64) : w.cell? ⟨b, j, none⟩ = some (.int .u8 (s.getD j 0)) ∧ 0 ≤ s.getD j 0 ∧ s.getD j 0 < 256 := by
  have hl : j < s.length := by rw [hs.1]; exact hj
  have e : s.getD j 0 = s[j] := by rw [List.getD_eq_getElem?_getD, List.getElem?_eq_getElem hl]; rfl
  rw [h.cell, e]
  exact ⟨by simp [secVals, hl], hs.2 _ (List.getElem_mem hl)⟩
theorem number0_calls {s : Sec} (hs : SecOk s) : Calls Try.prog 55 #[.agg (secVals s).toArray, .int .i64 0] w fun e w' => e = .returned (.int .u32 (num s 0)) ∧ Nw w w' := by
  obtain ⟨W, hW⟩ : ∃ W, W = w.alloc (.cells (secVals s).toArray 29) := ⟨_, rfl⟩
  have hb : Blk W w.heap.size (secVals s).toArray 29 := by rw [hW]; exact Blk.new w _ _
  have hn : Nw w W := by rw [hW]; exact (Nw.refl w).alloc _
  obtain ⟨bx, hbx⟩ : ∃ b, b = w.heap.size := ⟨_, rfl⟩
  rw [← hbx] at hb
  obtain ⟨c0, l0, u0⟩ := sec_cell hb hs (j := 0) (by omega)
  obtain ⟨c1, l1, u1⟩ := sec_cell hb hs (j := 1) (by omega)
  obtain ⟨c2, l2, u2⟩ := sec_cell hb hs (j := 2) (by omega)
  obtain ⟨c3, l3, u3⟩ := sec_cell hb hs (j := 3) (by omega)
  have HN := Lib.hid hn
  have HW := Lib.hid hW
  have HB := Lib.hid hbx
  obtain ⟨v0, e0⟩ : ∃ v, v = s.getD 0 0 := ⟨_, rfl⟩
  obtain ⟨v1, e1⟩ : ∃ v, v = s.getD 1 0 := ⟨_, rfl⟩
  obtain ⟨v2, e2⟩ : ∃ v, v = s.getD 2 0 := ⟨_, rfl⟩
  obtain ⟨v3, e3⟩ : ∃ v, v = s.getD 3 0 := ⟨_, rfl⟩
  rw [← e0] at c0 l0 u0
  rw [← e1] at c1 l1 u1
  rw [← e2] at c2 l2 u2
  rw [← e3] at c3 l3 u3
  have HE : Hid (v0 * 16777216 + v1 * 65536 + v2 * 256 + v3 = num s 0) := Lib.hid (by rw [e0, e1, e2, e3]; rfl)
  clear e0 e1 e2 e3 hbx hW hn hb
  go_enter Try.func55, Try.ntmps55
  go_upto_region 1 with (refine go_val rfl (ex_box rfl rfl) ?_; simp only [Act.put, List.setIfInBounds_toArray, List.set_cons_zero, List.set_cons_succ]; rw [← HW.out, ← HB.out])
  go_quiet (fail)
  rw [or4 v0 v1 v2 v3 l0 u0 l1 u1 l2 u2 l3 u3, HE.out]
  go_wp2
  go_ret
  exact ⟨rfl, HN.out.trans (Turn.drewN _ _ _)⟩
theorem number32_calls {s : Sec} (hs : SecOk s) : Calls Try.prog 55 #[.agg (secVals s).toArray, .int .i64 32] w fun e w' => e = .returned (.int .u32 (num s 32)) ∧ Nw w w' := by
  obtain ⟨W, hW⟩ : ∃ W, W = w.alloc (.cells (secVals s).toArray 29) := ⟨_, rfl⟩
  have hb : Blk W w.heap.size (secVals s).toArray 29 := by rw [hW]; exact Blk.new w _ _
  have hn : Nw w W := by rw [hW]; exact (Nw.refl w).alloc _
  obtain ⟨bx, hbx⟩ : ∃ b, b = w.heap.size := ⟨_, rfl⟩
  rw [← hbx] at hb
  obtain ⟨c0, l0, u0⟩ := sec_cell hb hs (j := 32) (by omega)
  obtain ⟨c1, l1, u1⟩ := sec_cell hb hs (j := 33) (by omega)
  obtain ⟨c2, l2, u2⟩ := sec_cell hb hs (j := 34) (by omega)
  obtain ⟨c3, l3, u3⟩ := sec_cell hb hs (j := 35) (by omega)
  have HN := Lib.hid hn
  have HW := Lib.hid hW
  have HB := Lib.hid hbx
  obtain ⟨v0, e0⟩ : ∃ v, v = s.getD 32 0 := ⟨_, rfl⟩
  obtain ⟨v1, e1⟩ : ∃ v, v = s.getD 33 0 := ⟨_, rfl⟩
  obtain ⟨v2, e2⟩ : ∃ v, v = s.getD 34 0 := ⟨_, rfl⟩
  obtain ⟨v3, e3⟩ : ∃ v, v = s.getD 35 0 := ⟨_, rfl⟩
  rw [← e0] at c0 l0 u0
  rw [← e1] at c1 l1 u1
  rw [← e2] at c2 l2 u2
  rw [← e3] at c3 l3 u3
  have HE : Hid (v0 * 16777216 + v1 * 65536 + v2 * 256 + v3 = num s 32) := Lib.hid (by rw [e0, e1, e2, e3]; rfl)
  clear e0 e1 e2 e3 hbx hW hn hb
  go_enter Try.func55, Try.ntmps55
  go_upto_region 1 with (refine go_val rfl (ex_box rfl rfl) ?_; simp only [Act.put, List.setIfInBounds_toArray, List.set_cons_zero, List.set_cons_succ]; rw [← HW.out, ← HB.out])
  go_quiet (fail)
  rw [or4 v0 v1 v2 v3 l0 u0 l1 u1 l2 u2 l3 u3, HE.out]
  go_wp2
  go_ret
  exact ⟨rfl, HN.out.trans (Turn.drewN _ _ _)⟩
end
end Go.Proofs.Ytcaalfpfkalalaa
