/- The walks of a disk's small methods. -/
import Derived.Test.YtcaalfpfkalalaaProg
import Derived.Test.YtcaalfpfkalalaaA2
import Derived.Test.YtcaalfpfkalalaaL1
import Derived.KernelRfl
import Derived.Lib.Hide
set_option linter.unusedVariables false
set_option linter.unusedSimpArgs false
namespace Go.Proofs.Ytcaalfpfkalalaa
open Go.RowKit Qd
section
variable {w : World} {p bc bm : Nat} {f : Int → Option Value} {d : Disk} {S : Nat → Prop} {i : Int}

theorem size_calls (h : DiskIn w S p d) : Calls Try.prog 36 #[.pointer (some ⟨p, 0, none⟩)] w fun e w' => e = .returned (.int .i64 d.cells.length) ∧ w' = w := by
  obtain ⟨bc, bm, f, ha, hs⟩ := h
  have c0 := ha.c0
  clear ha hs
  go_enter Try.func36, Try.ntmps36
  go_wp2
  go_ret
  exact ⟨rfl, rfl⟩
theorem steps_calls (h : DiskIn w S p d) : Calls Try.prog 25 #[.pointer (some ⟨p, 0, none⟩)] w fun e w' => e = .returned (.int .i64 d.steps) ∧ w' = w := by
  obtain ⟨bc, bm, f, ha, hs⟩ := h
  have c0 := ha.c2
  clear ha hs
  go_enter Try.func25, Try.ntmps25
  go_wp2
  go_ret
  exact ⟨rfl, rfl⟩
theorem down_calls (h : DiskIn w S p d) : Calls Try.prog 24 #[.pointer (some ⟨p, 0, none⟩)] w fun e w' => e = .returned (.bool d.dead) ∧ w' = w := by
  obtain ⟨bc, bm, f, ha, hs⟩ := h
  have c0 := ha.c4
  clear ha hs
  go_enter Try.func24, Try.ntmps24
  go_wp2
  go_ret
  exact ⟨rfl, rfl⟩
theorem check_calls (h : DiskIn w S p d) (i : Int) : Calls Try.prog 34 #[.pointer (some ⟨p, 0, none⟩), .int .i64 i] w fun e w' => e = .returned (.int .i64 (d.check i)) ∧ w' = w := by
  obtain ⟨bc, bm, f, ha, hs⟩ := h
  have c0 := ha.c0
  have c4 := ha.c4
  clear ha hs
  unfold Disk.check
  generalize d.cells.length = n at *
  cases hd : d.dead with
  | true =>
    rw [hd] at c4
    have HD := Lib.hid hd; clear hd
    rw [if_pos rfl]
    go_enter Try.func34, Try.ntmps34
    go_wp2
    go_ret
    exact ⟨rfl, rfl⟩
  | false =>
    rw [hd] at c4
    have HD := Lib.hid hd; clear hd
    rw [if_neg (by decide)]
    by_cases h1 : i < 0 ∨ (n : Int) ≤ i
    · rw [if_pos h1]
      rcases Int.lt_or_le i 0 with h2 | h2
      · clear h1
        go_enter Try.func34, Try.ntmps34
        go_wp2
        go_ret
        exact ⟨rfl, rfl⟩
      · have h3 : (n : Int) ≤ i := by omega
        clear h1
        go_enter Try.func34, Try.ntmps34
        go_wp2
        go_ret
        exact ⟨rfl, rfl⟩
    · rw [if_neg h1]
      have h2 : 0 ≤ i := by omega
      have h3 : i < (n : Int) := by omega
      clear h1
      go_enter Try.func34, Try.ntmps34
      go_wp2
      go_ret
      exact ⟨rfl, rfl⟩

theorem blk_set {b : Nat} {cs : Array Value} {t : TypeId} (h : Blk w b cs t) (i : Nat) (v : Value) : Blk (w.setCell ⟨b, i, none⟩ v) b (cs.setIfInBounds i v) t := heap_setCell_same w b i cs t v h
theorem blk_set_ne {b : Nat} {o : Obj} {a : Addr} (h : w.heap[b]? = some o) (hne : b ≠ a.block) (v : Value) : (w.setCell a v).heap[b]? = some o := (heap_setCell_other w a b v hne).trans h
theorem step_calls (h : DiskIn w S p d) (hb : d.steps < 4611686018427387904) : Calls Try.prog 35 #[.pointer (some ⟨p, 0, none⟩)] w fun e w' => e = .returned (.int .i64 d.step.2) ∧ DiskIn w' S p d.step.1 ∧ Turn S w S w' := by
  have hSp := h.pos
  obtain ⟨bc, bm, f, ha, hs⟩ := h
  have c3 := ha.c3
  have c2 := ha.c2
  have c4 := ha.c4
  have f2 := ha.fz 2
  have f3 := ha.fz 3
  have f4 := ha.fz 4
  have b1 := ha.ok.afHi
  have b2 := ha.ok.af
  have b3 := ha.ok.st0
  have hok := ha.ok.step
  obtain ⟨a, haf⟩ : ∃ a, a = d.after := ⟨_, rfl⟩
  obtain ⟨st, hst⟩ : ∃ a, a = d.steps := ⟨_, rfl⟩
  rw [← haf] at c3 b1 b2
  rw [← hst] at c2 b3 hb
  have HA := Lib.hid ha
  have HAF := Lib.hid haf
  have HST := Lib.hid hst
  have HOK := Lib.hid hok
  have HS := Lib.hid hs
  clear ha haf hst hok hs
  by_cases h0 : a = 0
  · subst h0
    go_enter Try.func35, Try.ntmps35
    go_wp2
    go_ret
    have e1 : d.step = ({ d with dead := true }, 12) := by unfold Disk.step; rw [if_pos HAF.out.symm]
    rw [e1]
    exact ⟨rfl, ⟨bc, bm, f, HA.out.fields (d' := { d with dead := true }) (blk_set HA.out.obj 4 _) (fun b hb => heap_setCell_other _ _ _ _ hb) HA.out.ok.dead rfl rfl, HS.out⟩, Turn.setCell w _ hSp⟩
  · by_cases h1 : 0 < a
    · go_enter Try.func35, Try.ntmps35
      go_wp2
      go_ret
      have e1 : d.step = ({ d with after := a - 1, steps := st + 1 }, 0) := by unfold Disk.step; rw [← HAF.out, ← HST.out, if_neg h0, if_pos h1]
      have hok := HOK.out
      rw [e1] at hok ⊢
      refine ⟨rfl, ⟨bc, bm, f, HA.out.fields (d' := { d with after := a - 1, steps := st + 1 }) (blk_set (blk_set HA.out.obj 3 _) 2 _) (fun b hb => (heap_setCell_other _ _ _ _ hb).trans (heap_setCell_other _ _ _ _ hb)) hok rfl rfl, HS.out⟩, (Turn.setCell w _ hSp).trans (Turn.setCell _ _ hSp)⟩
    · go_enter Try.func35, Try.ntmps35
      go_wp2
      go_ret
      have e1 : d.step = ({ d with after := a, steps := st + 1 }, 0) := by unfold Disk.step; rw [← HAF.out, ← HST.out, if_neg h0, if_neg (by omega)]
      have hok := HOK.out
      have haf := HAF.out
      rw [e1] at hok ⊢
      subst haf
      exact ⟨rfl, ⟨bc, bm, f, HA.out.fields (d' := { d with after := d.after, steps := st + 1 }) (blk_set HA.out.obj 2 _) (fun b hb => heap_setCell_other _ _ _ _ hb) hok rfl rfl, HS.out⟩, Turn.setCell w _ hSp⟩
theorem arm_calls (h : DiskIn w S p d) (n : Int) (hn : n ≤ 9223372036854775807) : Calls Try.prog 22 #[.pointer (some ⟨p, 0, none⟩), .int .i64 n] w fun e w' => e = .returned (.tuple #[]) ∧ DiskIn w' S p (d.arm n) ∧ Turn S w S w' := by
  have hSp := h.pos
  obtain ⟨bc, bm, f, ha, hs⟩ := h
  have c3 := ha.c3
  have f3 := ha.fz 3
  have HA := Lib.hid ha
  have HS := Lib.hid hs
  clear ha hs
  go_enter Try.func22, Try.ntmps22
  go_wp2
  all_goals go_end0
  · have e1 : d.arm n = { d with after := -1 } := by unfold Disk.arm; rw [show max n (-1) = -1 from by omega]
    have hok := HA.out.ok.arm n hn
    rw [e1] at hok ⊢
    exact ⟨rfl, ⟨bc, bm, f, HA.out.fields (d' := { d with after := -1 }) (blk_set HA.out.obj 3 _) (fun b hb => heap_setCell_other _ _ _ _ hb) hok rfl rfl, HS.out⟩, Turn.setCell w _ hSp⟩
  · have e1 : d.arm n = { d with after := n } := by unfold Disk.arm; rw [show max n (-1) = n from by omega]
    have hok := HA.out.ok.arm n hn
    rw [e1] at hok ⊢
    exact ⟨rfl, ⟨bc, bm, f, HA.out.fields (d' := { d with after := n }) (blk_set HA.out.obj 3 _) (fun b hb => heap_setCell_other _ _ _ _ hb) hok rfl rfl, HS.out⟩, Turn.setCell w _ hSp⟩
theorem zeroRow_madeCells (m : Nat) : madeCells (Value.agg ((Array.replicate 64 (.int .u8 0)).push (.bool false))).cells (m * 65) = (rowVals (List.replicate m zeroCell)).toArray := by
  apply Array.ext'
  rw [List.toList_toArray]
  have hl : ∀ c ∈ List.replicate m zeroCell, (cellVals c).length = 65 := fun c hc => by rw [List.eq_of_mem_replicate hc]; rfl
  apply List.ext_getElem?
  intro j
  unfold rowVals
  by_cases hj : j < m * 65
  · have hq : j / 65 < m := by omega
    have h1 := flatMap_piece hl (j / 65) zeroCell (by rw [List.getElem?_replicate, if_pos hq]) (j % 65) (Nat.mod_lt _ (by omega))
    rw [Nat.div_add_mod'] at h1
    rw [h1]
    simp only [madeCells, Array.toList_map, Array.toList_range, List.getElem?_map, List.getElem?_range hj, Option.map_some]
    have : (Value.agg ((Array.replicate 64 (.int .u8 0)).push (.bool false))).cells = (cellVals zeroCell).toArray := by rfl
    rw [this]
    have h65 : (cellVals zeroCell).toArray.size = 65 := by rfl
    have hlt : j % 65 < (cellVals zeroCell).toArray.size := by rw [h65]; omega
    rw [h65, getElem!_pos (cellVals zeroCell).toArray (j % 65) hlt]
    simp
  · rw [List.getElem?_eq_none (by simp [size_madeCells]; omega), List.getElem?_eq_none (by rw [flatMap_len hl]; simp; omega)]
theorem new_calls_no (n : Int) (h : n < 1 ∨ 65536 < n) : Calls Try.prog 8 #[.int .i64 n] w fun e w' => e = .returned (.pointer none) ∧ w' = w := by
  rcases h with h | h
  · go_enter Try.func8, Try.ntmps8
    go_wp2
    go_ret
    exact ⟨rfl, rfl⟩
  · have h1 : ¬ n < 1 := by omega
    go_enter Try.func8, Try.ntmps8
    go_wp2
    go_ret
    exact ⟨rfl, rfl⟩
theorem new_disk_at (w : World) {m : Nat} (h1 : 1 ≤ m) (h2 : m ≤ 65536) : DiskAt (((w.alloc (.cells (rowVals (List.replicate m zeroCell)).toArray 100)).alloc (.map #[] 0)).alloc
    (.cells #[.slice (some ⟨w.heap.size, 0, none⟩) m m, .map (some (w.heap.size + 1)), .int .i64 0, .int .i64 (-1), .bool false] 85)) (w.heap.size + 1 + 1) w.heap.size (w.heap.size + 1) (fun _ => none) (Disk.new m) := by
  have a1 := MapKept.heap_alloc w (.cells (rowVals (List.replicate m zeroCell)).toArray 100)
  have s1 : (w.alloc (.cells (rowVals (List.replicate m zeroCell)).toArray 100)).heap.size = w.heap.size + 1 := by simp
  generalize w.alloc (.cells (rowVals (List.replicate m zeroCell)).toArray 100) = w1 at *
  have m1 := map_made w1
  have a2 := MapKept.heap_alloc w1 (.map #[] 0)
  have s2 : (w1.alloc (.map #[] 0)).heap.size = w.heap.size + 1 + 1 := by simp [s1]
  rw [s1] at m1 a2
  generalize w1.alloc (.map #[] 0) = w2 at *
  have a3 := MapKept.heap_alloc w2 (.cells #[.slice (some ⟨w.heap.size, 0, none⟩) m m, .map (some (w.heap.size + 1)), .int .i64 0, .int .i64 (-1), .bool false] 85)
  rw [s2] at a3
  refine ⟨Disk.ok_new h1 h2, ?_, ?_, m1.same (a3.2 _ (by omega)), fun _ _ => rfl, fun k _ hk => absurd rfl hk, fun k k' v v' _ hv => by cases hv⟩
  · have e : (Disk.new m).cells.length = m := by simp [Disk.new]
    rw [e]; exact a3.1
  · exact (a3.2 _ (by omega)).trans ((a2.2 _ (by omega)).trans a1.1)
theorem new_calls (m : Nat) (h1 : 1 ≤ m) (h2 : m ≤ 65536) : Calls Try.prog 8 #[.int .i64 (m : Int)] w fun e w' => ∃ p S, e = .returned (.pointer (some ⟨p, 0, none⟩)) ∧ DiskIn w' S p (Disk.new m) ∧ Turn (fun _ => False) w S w' := by
  have hmm := @run_makeMap Try.prog
  have hmk : ∀ W : World, (Instr.makeSlice 82 (.int .i64 (m : Int)) (.int .i64 (m : Int))).run Try.prog W = .ok (.slice (some ⟨W.heap.size, 0, none⟩) m m) (W.alloc (.cells (rowVals (List.replicate m zeroCell)).toArray 100)) := fun W => by
    obtain ⟨i, hi, hz⟩ := Option.map_eq_some_iff.1 iCell
    simp only [Prod.mk.injEq] at hz
    have := run_make (P := Try.prog) W 82 100 i _ uCells hi hz.1 .i64 .i64 (m : Int) (m : Int) (by omega) (by omega) (by rw [hz.2.2]; omega) (by omega)
    rw [Int.toNat_natCast, hz.2.1, zeroRow_madeCells] at this
    exact this
  have HP : Hid (1 ≤ m ∧ m ≤ 65536) := ⟨h1, h2⟩
  go_enter Try.func8, Try.ntmps8
  go_wp2
  go_ret
  refine ⟨w.heap.size + 1 + 1, fun b => w.heap.size ≤ b, rfl, ⟨_, _, _, new_disk_at w HP.out.1 HP.out.2, fun b hb => ?_⟩, ⟨rfl, rfl, rfl, by simp; omega, fun k hk _ => ?_, fun k hk => Or.inr hk⟩⟩
  · rcases hb with rfl | rfl | rfl | ⟨k, v, hf, _⟩
    · omega
    · exact Nat.le_refl _
    · omega
    · cases hf
  · rw [(MapKept.heap_alloc _ _).2 k (by simp; omega), (MapKept.heap_alloc _ _).2 k (by simp; omega), (MapKept.heap_alloc _ _).2 k hk]
theorem row_range (ha : DiskAt w p bc bm f d) {i : Nat} (hi : i < d.cells.length) : w.rangeAt bc (i * 65) (cellVals (d.cell i)) := by
  have hl := cells_len ha.ok.sec
  have hc : d.cells[i]? = some (d.cell i) := by rw [List.getElem?_eq_getElem hi, Disk.cell, List.getD_eq_getElem?_getD, List.getElem?_eq_getElem hi]; rfl
  refine ha.row.range _ _ (fun j hj => ?_)
  rw [hl _ (List.mem_of_getElem? hc)] at hj
  rw [List.getElem?_toArray]
  exact flatMap_piece hl i _ hc j hj
theorem row_there (ha : DiskAt w p bc bm f d) {i : Nat} (hi : i < d.cells.length) : w.there bc (i * 65) 65 := by
  refine ha.row.there _ _ ?_
  have hl := cells_len ha.ok.sec
  rw [List.size_toArray]; unfold rowVals; rw [flatMap_len hl]
  omega
/-- A whole cell is stored. -/
theorem DiskAt.put (ha : DiskAt w p bc bm f d) {i : Nat} (hi : i < d.cells.length) {c : Qd.Cell} (hc : SecOk c.s) (hb : c.bad = true → c.s = zeroSec) :
    DiskAt (w.setCells bc (i * 65) (cellVals c)) p bc bm f { d with cells := d.cells.set i c } := by
  have hl := cells_len ha.ok.sec
  have hcl : (cellVals c).length = 65 := by simp [cellVals, secVals, hc.1]
  have hsz : i * 65 + (cellVals c).length ≤ (rowVals d.cells).toArray.size := by rw [List.size_toArray, hcl]; unfold rowVals; rw [flatMap_len hl]; omega
  have hk : ∀ b, b ≠ bc → (w.setCells bc (i * 65) (cellVals c)).heap[b]? = w.heap[b]? := fun b hb => heap_setCells_ne ha.row _ hsz hb
  refine ⟨Disk.rowSet_ok ha.ok i hc hb, ?_, ?_, ha.map.same (hk bm (fun e => ha.map.noCells (by rw [e]; exact ha.row))), ha.none', fun k h0 ho => ?_, ha.apart⟩
  · simp only [List.length_set]
    exact (hk p (ha.obj.ne ha.row (by decide))).trans ha.obj
  · have := ha.row.setCells (cellVals c) hsz
    rw [hcl] at this
    unfold rowVals
    rw [flatMap_set hl i c hi hcl]
    exact this
  · obtain ⟨v, hv, hr⟩ := ha.some' k h0 ho
    refine ⟨v, hv, ownsRow_same hr (fun b hb => ?_)⟩
    obtain ⟨cs, hc⟩ := ownsRow_heap hr hb
    exact hk b (hc.ne ha.row (by decide))
theorem put_turn (ha : DiskAt w p bc bm f d) {i : Nat} (hi : i < d.cells.length) {c : Qd.Cell} (hc : SecOk c.s) (hS : S bc) : Turn S w S (w.setCells bc (i * 65) (cellVals c)) := by
  have hl := cells_len ha.ok.sec
  have hcl : (cellVals c).length = 65 := by simp [cellVals, secVals, hc.1]
  exact Turn.setCells ha.row _ (by rw [List.size_toArray, hcl]; unfold rowVals; rw [flatMap_len hl]; omega) hS
theorem check_in (hc : d.check i = 0) : d.dead = false ∧ 0 ≤ i ∧ i < (d.cells.length : Int) := by
  unfold Disk.check at hc
  split at hc
  · cases hc
  · rename_i hd
    split at hc
    · cases hc
    · exact ⟨by simpa using hd, by omega⟩
theorem rot_calls (h : DiskIn w S p d) (i : Int) : Calls Try.prog 29 #[.pointer (some ⟨p, 0, none⟩), .int .i64 i] w fun e w' => e = .returned (.int .i64 (d.rot i).2) ∧ DiskIn w' S p (d.rot i).1 ∧ Turn S w S w' := by
  have HC := Lib.hid (check_calls h i)
  obtain ⟨bc, bm, f, ha, hs⟩ := h
  unfold Disk.rot
  by_cases hc : d.check i = 0
  · obtain ⟨_, h0, h1⟩ := check_in hc
    obtain ⟨k, rfl⟩ := Int.eq_ofNat_of_zero_le h0
    rw [if_neg (by rw [hc]; simp), Int.toNat_natCast]
    rw [hc] at HC
    have c0 := ha.c0
    have hk : k < d.cells.length := by omega
    have hth := row_there ha hk
    have HA := Lib.hid ha
    have HS := Lib.hid hs
    have HT := Lib.hid hth
    obtain ⟨n, hn⟩ : ∃ n, n = d.cells.length := ⟨_, rfl⟩
    rw [← hn] at c0 h1
    have HK := Lib.hid hk
    clear hn hk
    have hb : Try.zeroCells100.setIfInBounds 64 (Value.bool true) = (cellVals rotCell).toArray := by kernel_rfl
    clear ha hs hc hth
    go_enter Try.func29, Try.ntmps29
    go_wp2_with (first
      | (go_at_call 34; refine HC.out.mono ?_; rintro e w' ⟨rfl, rfl⟩)
      | (refine go_skp rfl (exs_cell (x := .tmp 17) (y := .tmp 16) rfl (b := bc) (k := k * 65) rfl (c := rotCell) zeroSec_ok rfl HT.out) ?_))
    go_ret
    exact ⟨rfl, ⟨bc, bm, f, HA.out.put HK.out zeroSec_ok (fun _ => rfl), HS.out⟩, put_turn HA.out HK.out zeroSec_ok (HS.out _ (Or.inr (Or.inl rfl)))⟩
  · rw [if_pos hc]
    obtain ⟨z, hz⟩ : ∃ z, z = d.check i := ⟨_, rfl⟩
    rw [← hz] at hc HC ⊢
    have HH := Lib.hid (show DiskIn w S p d from ⟨bc, bm, f, ha, hs⟩)
    clear hz ha hs
    have hb1 : (z == 0) = false := by simp [hc]
    go_enter Try.func29, Try.ntmps29
    go_wp2_with (go_at_call 34; refine HC.out.mono ?_; rintro e w' ⟨rfl, rfl⟩)
    go_ret
    exact ⟨rfl, HH.out, Turn.refl _ _⟩
end
end Go.Proofs.Ytcaalfpfkalalaa
