/- The walk of a disk's Flip. -/
import Derived.Test.YtcaalfpfkalalaaB4
import Derived.Test.YtcaalfpfkalalaaE1
import Derived.Laws.BitsAllLaws
set_option linter.unusedVariables false
set_option linter.unusedSimpArgs false
set_option maxRecDepth 10000
set_option maxHeartbeats 4000000
namespace Go.Proofs.Ytcaalfpfkalalaa
open Go.RowKit Qd
open Go.Proofs.YtcaalfpfkalalaaW.PrintLast
section
variable {w : World} {p bc bm : Nat} {f : Int → Option Value} {d : Disk} {S : Nat → Prop} {i : Int}
theorem rot65 : (cellVals rotCell).length = (cellVals zeroCell).length := by rw [cell65 (c := rotCell) zeroSec_ok, cell65 (c := zeroCell) zeroSec_ok]
theorem exb_rot2 {w : World} {o : Oper} {ρ : Operand → Value} {rc : Qd.Cell} (hrc : rc = rotCell) {x : Operand} (ho : o.op = .build 100 #[(1, x)]) (hx : ρ x = .bool true) : (execOp ρ o).run Try.prog w = .ok (.value (.agg (cellVals rc).toArray)) w := by
  rw [hrc]; exact exb_rot ho hx
theorem Nw.turn {w w' : World} (h : Nw w w') (S : Nat → Prop) : Turn S w S w' := ⟨h.os, h.tape, h.output, h.size, fun k hk _ => h.block k hk (fun h => h), fun _ h => Or.inl h⟩
theorem flatMap_set_in {α : Type} {g : α → List Value} {m : Nat} : ∀ {l : List α}, (∀ x ∈ l, (g x).length = m) → ∀ (i : Nat) (x x' : α), l[i]? = some x → ∀ (j : Nat) (v : Value), j < m → g x' = (g x).set j v →
    (l.set i x').flatMap g = (l.flatMap g).set (i * m + j) v
  | [], _, i, x, x', hx, _, _, _, _ => by simp at hx
  | a :: r, h, 0, x, x', hx, j, v, hj, e => by
    simp at hx; subst hx
    have ha := h a (by simp)
    simp only [List.set_cons_zero, List.flatMap_cons, Nat.zero_mul, Nat.zero_add]
    rw [List.set_append_left _ _ (by omega), e]
  | a :: r, h, i + 1, x, x', hx, j, v, hj, e => by
    have ha := h a (by simp)
    simp only [List.set_cons_succ, List.flatMap_cons]
    rw [flatMap_set_in (l := r) (fun x hx => h x (by simp [hx])) i x x' (by simpa using hx) j v hj e, List.set_append_right _ _ (by rw [ha, Nat.succ_mul]; omega), ha, show (i + 1) * m + j - m = i * m + j from by rw [Nat.succ_mul]; omega]
theorem set_mid {α : Type} (l : List α) (n : Nat) (v : α) (h : n < l.length) : l.take n ++ [v] ++ l.drop (n + 1) = l.set n v := by
  rw [List.set_eq_take_append_cons_drop, if_pos h]; simp
theorem DiskAt.putIn (ha : DiskAt w p bc bm f d) {i : Nat} (hi : i < d.cells.length) {c : Qd.Cell} (hc : SecOk c.s) (hb : c.bad = true → c.s = zeroSec) {j : Nat} (hj : j < 65) {v : Value} (he : cellVals c = (cellVals (d.cell i)).set j v) :
    DiskAt (w.setCell ⟨bc, i * 65 + j, none⟩ v) p bc bm f { d with cells := d.cells.set i c } ∧ (S bc → Turn S w S (w.setCell ⟨bc, i * 65 + j, none⟩ v)) := by
  have hl := cells_len ha.ok.sec
  have hlen : (rowVals d.cells).length = d.cells.length * 65 := by unfold rowVals; rw [flatMap_len hl]
  have hcl : (cellVals c).length = 65 := by simp [cellVals, secVals, hc.1]
  have hin : i * 65 + j < (rowVals d.cells).length := by rw [hlen]; omega
  have hsz : i * 65 + j + [v].length ≤ (rowVals d.cells).toArray.size := by rw [List.size_toArray]; simp; omega
  have hsz2 : i * 65 + (cellVals c).length ≤ (rowVals d.cells).toArray.size := by rw [List.size_toArray, hcl]; omega
  have e0 : w.setCell ⟨bc, i * 65 + j, none⟩ v = w.setCells bc (i * 65 + j) [v] := rfl
  refine ⟨(ha.put hi hc hb).same (fun b _ => ?_), fun hS => by rw [e0]; exact Turn.setCells ha.row _ hsz hS⟩
  rw [e0]
  by_cases hbb : b = bc
  · subst hbb
    have h1 := ha.row.setCells [v] hsz
    have h2 := ha.row.setCells (cellVals c) hsz2
    refine h1.trans (Eq.trans ?_ h2.symm)
    have hg : d.cells[i]? = some (d.cell i) := by
      unfold Disk.cell
      rw [List.getD_eq_getElem?_getD, List.getElem?_eq_getElem hi]; rfl
    have := flatMap_set_in hl i (d.cell i) c hg j v hj he
    rw [flatMap_set hl i c hi hcl] at this
    simp only [List.length_singleton]
    rw [set_mid _ _ _ hin, hcl]
    unfold rowVals
    simp only [← this]
  · rw [heap_setCells_ne ha.row _ hsz hbb, heap_setCells_ne ha.row _ hsz2 hbb]
theorem flip_wrap {b : Nat} (h : (b : Int) < 512) : wrap64 ((b : Int) / 8) = ((b / 8 : Nat) : Int) := by
  unfold wrap64; omega
theorem flip_shift (b : Nat) : Op.shift .shl .u8 1 .i64 ((b : Int).tmod 8) = pure (.int .u8 ((1 <<< (b % 8) : Nat) : Int)) := by
  have e : (b : Int).tmod 8 = ((b % 8 : Nat) : Int) := by rw [Int.tmod_eq_emod_of_nonneg (by omega)]; rfl
  have hm : b % 8 < 8 := Nat.mod_lt _ (by decide)
  rw [e]
  generalize b % 8 = z at *
  refine (shift_shl .u8 .i64 1 (z : Int) (by omega) (by show (z : Int) ≤ 8; omega)).trans ?_
  rw [Int.toNat_natCast]
  rcases z with _ | _ | _ | _ | _ | _ | _ | _ | z
  all_goals first | rfl | omega
theorem flip_xor {x b : Nat} (h : (x : Int) < 256) : bits .xor .u8 (x : Int) ((1 <<< (b % 8) : Nat) : Int) = ((x ^^^ (1 <<< (b % 8)) : Nat) : Int) := by
  refine u8_xor_nat _ _ (by omega) ?_
  rw [Nat.one_shiftLeft]
  exact Nat.pow_lt_pow_right (n := 8) (by decide) (Nat.mod_lt _ (by decide))
theorem flip_calls (h : DiskIn w S p d) (i bit : Int) : Calls Try.prog 43 #[.pointer (some ⟨p, 0, none⟩), .int .i64 i, .int .i64 bit] w fun e w' =>
    e = .returned (.int .i64 (d.flip i bit).2) ∧ DiskIn w' S p (d.flip i bit).1 ∧ Turn S w S w' := by
  have HC := Lib.hid (check_calls h i)
  unfold Disk.flip
  by_cases hc : d.check i = 0
  · rw [if_neg (by rw [hc]; simp)]
    rw [hc] at HC
    by_cases hb : bit < 0 ∨ 512 ≤ bit
    · rw [if_pos hb]
      have HH := Lib.hid h
      rcases hb with hb | hb
      · clear h hc
        go_enter Try.func43, Try.ntmps43
        go_wp2_with (go_at_call 34; refine HC.out.mono ?_; rintro e w' ⟨rfl, rfl⟩)
        go_ret
        exact ⟨rfl, HH.out, Turn.refl _ _⟩
      · have hb' : 0 ≤ bit := by omega
        clear h hc
        go_enter Try.func43, Try.ntmps43
        go_wp2_with (go_at_call 34; refine HC.out.mono ?_; rintro e w' ⟨rfl, rfl⟩)
        go_ret
        exact ⟨rfl, HH.out, Turn.refl _ _⟩
    · rw [if_neg hb]
      obtain ⟨_, h0, h1⟩ := check_in hc
      obtain ⟨k, rfl⟩ := Int.eq_ofNat_of_zero_le h0
      have hb0 : 0 ≤ bit := by omega
      have hb1 : bit < 512 := by omega
      obtain ⟨b, rfl⟩ := Int.eq_ofNat_of_zero_le hb0
      rw [Int.toNat_natCast, Int.toNat_natCast]
      obtain ⟨bc, bm, f, ha, hs⟩ := h
      have hlt := ha.obj.lt
      have hlt2 := ha.row.lt
      have c0 := ha.c0
      have hk : k < d.cells.length := by omega
      have hml := ha.ok.len
      have hrg := row_range ha hk
      have hok := ha.ok.cell k
      have hrot := ha.ok.cellBad k
      have HRG := Lib.hid hrg
      have HA := Lib.hid ha
      have HS := Lib.hid hs
      have hx0 : (d.cell k).s[b / 8]? = some ((d.cell k).s.getD (b / 8) 0) := by
        have : b / 8 < (d.cell k).s.length := by rw [hok.1]; omega
        rw [List.getElem?_eq_getElem this, List.getD_eq_getElem?_getD, List.getElem?_eq_getElem this]; rfl
      have hx1 := hok.2 _ (List.mem_of_getElem? hx0)
      have hcx : w.cell? ⟨bc, k * 65 + b / 8, none⟩ = some (.int .u8 ((d.cell k).s.getD (b / 8) 0)) := hrg (b / 8) _ (by
        unfold cellVals secVals
        rw [List.getElem?_append_left (by simp [hok.1]; omega), List.getElem?_map, hx0]; rfl)
      have hzk := ha.ok.cell k
      have HK := Lib.hid hk
      obtain ⟨m, hm⟩ : ∃ m, m = d.cells.length := ⟨_, rfl⟩
      rw [← hm] at c0 h1 hml
      clear hrg ha hs hc hb hk hm hx0
      by_cases hbad : (d.cell k).bad = true
      · rw [if_pos hbad]
        have e1 : d.cell k = rotCell := hrot hbad
        obtain ⟨rc, hrc⟩ : ∃ rc, rc = rotCell := ⟨_, rfl⟩
        have r65 : (cellVals rc).length = (cellVals zeroCell).length := hrc ▸ rot65
        have hrs : SecOk rc.s := by rw [hrc]; exact zeroSec_ok
        rw [e1, ← hrc] at HRG
        have HRC := Lib.hid hrc
        clear hrc
        clear hbad hrot hok hcx hx1 hzk e1

        go_enter Try.func43, Try.ntmps43
        go_wp2_with (first
          | (go_at_call 34; refine HC.out.mono ?_; rintro e w' ⟨rfl, rfl⟩)
          | (refine go_val rfl (exl_cell (c := rc) (x := .tmp 26) rfl (b := bc) (k := k * 65) rfl hrs HRG.out) ?_)
          | (refine go_val rfl (exa_cell rfl) ?_)
          | (refine go_skp rfl (exs_cell (c := rc) (x := .tmp 8) (y := .tmp 27) rfl rfl hrs rfl (cell_there_of_blk (c := zeroCell) zeroSec_ok (Blk.new _ _ _))) ?_)
          | (refine go_val rfl (exl_cell (c := rc) (x := .tmp 8) rfl rfl hrs (cell_range_of_blk (blk_over (xs := cellVals zeroCell) (ys := cellVals rc) (Blk.new _ _ _) r65))) ?_)
          | (refine go_val rfl (exb_rot2 HRC.out rfl rfl) ?_)
          | (refine go_val rfl (exn_cell (a := rc) (b := rc) (x := .tmp 28) (y := .tmp 29) rfl hrs hrs rfl rfl) ?_))
        have hnw : Nw w' _ := ((Nw.refl w').alloc (.cells (cellVals zeroCell).toArray 100)).setCells (o := 0) (cs := (cellVals zeroCell).toArray) (Blk.new _ _ _) (cellVals rc) (by rw [List.size_toArray, r65]; omega) (Nat.le_refl _)
        go_ret
        exact ⟨rfl, (show DiskIn _ S p d from ⟨bc, bm, f, HA.out, HS.out⟩).nw hnw, hnw.turn S⟩
      · rw [if_neg hbad]
        have hbf : (d.cell k).bad = false := by simpa using hbad
        have hnr : (!decide (d.cell k = rotCell)) = true := by
          have : ¬ d.cell k = rotCell := fun e => by rw [e] at hbf; cases hbf
          simp [this]
        obtain ⟨xn, hxn⟩ := Int.eq_ofNat_of_zero_le hx1.1
        obtain ⟨rc, hrc⟩ : ∃ rc, rc = rotCell := ⟨_, rfl⟩
        have hrs : SecOk rc.s := by rw [hrc]; exact zeroSec_ok
        have FB := Lib.hid (Disk.flipBit_ok hok b)
        have FC : Hid (∀ v : Int, v = ((xn ^^^ (1 <<< (b % 8)) : Nat) : Int) → cellVals ⟨flipBit (d.cell k).s b, false⟩ = (cellVals (d.cell k)).set (b / 8) (.int .u8 v)) := Lib.hid (fun v hv => by
          have hl : b / 8 < (secVals (d.cell k).s).length := by simp [secVals, hok.1]; omega
          unfold cellVals
          rw [List.set_append_left _ _ hl]
          simp only [flipBit, secVals, ← List.map_set, hxn, hbf, Int.toNat_natCast, hv])
        rw [hxn] at hcx hx1
        rw [← hrc] at hnr
        have HRC := Lib.hid hrc
        clear hrc
        clear hbf hrot hbad hxn
        generalize hcd : d.cell k = c at *
        have HCD := Lib.hid hcd
        clear hcd
        have r65 : (cellVals c).length = (cellVals zeroCell).length := by rw [cell65 (c := c) hok, cell65 (c := zeroCell) zeroSec_ok]
        go_enter Try.func43, Try.ntmps43
        go_wp2_with (first
          | (go_at_call 34; refine HC.out.mono ?_; rintro e w' ⟨rfl, rfl⟩)
          | (refine go_val rfl (exl_cell (c := c) (x := .tmp 26) rfl (b := bc) (k := k * 65) rfl hok HRG.out) ?_)
          | (refine go_val rfl (exa_cell rfl) ?_)
          | (refine go_skp rfl (exs_cell (c := c) (x := .tmp 8) (y := .tmp 27) rfl rfl hok rfl (cell_there_of_blk (c := zeroCell) zeroSec_ok (Blk.new _ _ _))) ?_)
          | (refine go_val rfl (exl_cell (c := c) (x := .tmp 8) rfl rfl hok (cell_range_of_blk (blk_over (xs := cellVals zeroCell) (ys := cellVals c) (Blk.new _ _ _) r65))) ?_)
          | (refine go_val rfl (exb_rot2 HRC.out rfl rfl) ?_)
          | (refine go_val rfl (exn_cell (a := c) (b := rc) (x := .tmp 28) (y := .tmp 29) rfl hok hrs rfl rfl) ?_))
        rotate_left
        · rename_i hx; cases hx.symm.trans hnr
        · have hnw : Nw w' _ := ((Nw.refl w').alloc (.cells (cellVals zeroCell).toArray 100)).setCells (o := 0) (cs := (cellVals zeroCell).toArray) (Blk.new _ _ _) (cellVals c) (by rw [List.size_toArray, r65]; omega) (Nat.le_refl _)
          have c0' := hnw.cell c0 (fun h => h)
          have hcx' := hnw.cell hcx (fun h => h)
          have HA2 := Lib.hid (HA.out.same (fun b hb => hnw.block b (HA.out.foot_lt hb) (fun h => h)))
          have HNW := Lib.hid (hnw.turn S)
          clear hnw HA c0 hcx
          generalize ((w'.alloc (Obj.cells (cellVals zeroCell).toArray 100)).setCells w'.heap.size 0 (cellVals c)) = w3 at *
          have hw8 := flip_wrap hb1
          have hq0 : (0 : Int) ≤ ((b / 8 : Nat) : Int) := by omega
          have hq1 : ((b / 8 : Nat) : Int) < 64 := by omega
          have hsh := flip_shift b
          have hxo := flip_xor (b := b) hx1.2
          have hfz := HA2.out.row.frozen (k * 65 + b / 8)
          generalize b / 8 = q at *
          generalize (1 <<< (b % 8) : Nat) = sh at *
          -- <R8
          refine start_ (n := 19) (S := fun w' => w'.cell? ⟨p, 0, none⟩ = some (.slice (some ⟨bc, 0, none⟩) m m) ∧ w'.cell? ⟨bc, k * 65 + q, none⟩ = some (.int .u8 xn)) (ds := [18]) #[false, false, false, false, false, false, false, false, false, false, false, false, false, false, false, false, false, false, false] mixed rfl rfl ⟨c0', hcx'⟩ (fun hHeld => ?_)
          refine pure_ (i := 0) (N := some 31) (v := ?_) (a' := ?_) #[true, false, false, false, false, false, false, false, false, false, false, false, false, false, false, false, false, false, false] rfl rfl (by kernel_rfl) (fun _ _ _ h => h) (Or.inl ⟨by rfl, ?_⟩) ?_ ?_
          rotate_left
          · intro w'
            go_simp
            with_reducible rfl
          rotate_left
          · simp only [Act.put, List.setIfInBounds_toArray, List.set_cons_zero, List.set_cons_succ, i64_w, i32_w]
            rfl
          refine pure_ (i := 1) (N := some 32) (v := ?_) (a' := ?_) #[true, true, false, false, false, false, false, false, false, false, false, false, false, false, false, false, false, false, false] rfl rfl (by kernel_rfl) (fun _ _ _ h => h) (Or.inl ⟨by rfl, ?_⟩) ?_ ?_
          rotate_left
          · intro w'
            go_simp
            with_reducible rfl
          rotate_left
          · simp only [Act.put, List.setIfInBounds_toArray, List.set_cons_zero, List.set_cons_succ, i64_w, i32_w]
            rfl
          refine pure_ (i := 2) (N := some 33) (v := ?_) (a' := ?_) #[true, true, true, false, false, false, false, false, false, false, false, false, false, false, false, false, false, false, false] rfl rfl (by kernel_rfl) (fun _ _ _ h => h) (Or.inl ⟨by rfl, ?_⟩) ?_ ?_
          rotate_left
          · intro w'
            go_simp
            with_reducible rfl
          rotate_left
          · simp only [Act.put, List.setIfInBounds_toArray, List.set_cons_zero, List.set_cons_succ, i64_w, i32_w]
            rfl
          refine pure_ (i := 4) (N := some 35) (v := ?_) (a' := ?_) #[true, true, true, false, true, false, false, false, false, false, false, false, false, false, false, false, false, false, false] rfl rfl (by kernel_rfl) (fun _ _ _ h => h) (Or.inl ⟨by rfl, ?_⟩) ?_ ?_
          rotate_left
          · intro w'
            go_simp
            with_reducible rfl
          rotate_left
          · simp only [Act.put, List.setIfInBounds_toArray, List.set_cons_zero, List.set_cons_succ, i64_w, i32_w]
            rfl
          refine pure_ (i := 5) (N := some 36) (v := ?_) (a' := ?_) #[true, true, true, false, true, true, false, false, false, false, false, false, false, false, false, false, false, false, false] rfl rfl (by kernel_rfl) (fun _ _ _ h => h) (Or.inl ⟨by rfl, ?_⟩) ?_ ?_
          rotate_left
          · intro w'
            go_simp
            with_reducible rfl
          rotate_left
          · simp only [Act.put, List.setIfInBounds_toArray, List.set_cons_zero, List.set_cons_succ, i64_w, i32_w]
            rfl
          refine pure_ (i := 6) (N := some 37) (v := ?_) (a' := ?_) #[true, true, true, false, true, true, true, false, false, false, false, false, false, false, false, false, false, false, false] rfl rfl (by kernel_rfl) (fun _ _ _ h => h) (Or.inl ⟨by rfl, ?_⟩) ?_ ?_
          rotate_left
          · intro w'
            go_simp
            with_reducible rfl
          rotate_left
          · simp only [Act.put, List.setIfInBounds_toArray, List.set_cons_zero, List.set_cons_succ, i64_w, i32_w]
            rfl
          refine pure_ (i := 11) (N := some 42) (v := ?_) (a' := ?_) #[true, true, true, false, true, true, true, false, false, false, false, true, false, false, false, false, false, false, false] rfl rfl (by kernel_rfl) (fun _ _ _ h => h) (Or.inl ⟨by rfl, ?_⟩) ?_ ?_
          rotate_left
          · intro w'
            go_simp
            with_reducible rfl
          rotate_left
          · simp only [Act.put, List.setIfInBounds_toArray, List.set_cons_zero, List.set_cons_succ, i64_w, i32_w]
            rfl
          refine pure_ (i := 12) (N := some 43) (v := ?_) (a' := ?_) #[true, true, true, false, true, true, true, false, false, false, false, true, true, false, false, false, false, false, false] rfl rfl (by kernel_rfl) (fun _ _ _ h => h) (Or.inl ⟨by rfl, ?_⟩) ?_ ?_
          rotate_left
          · intro w'
            go_simp
            with_reducible rfl
          rotate_left
          · simp only [Act.put, List.setIfInBounds_toArray, List.set_cons_zero, List.set_cons_succ, i64_w, i32_w]
            rfl
          refine pure_ (i := 13) (N := some 44) (v := ?_) (a' := ?_) #[true, true, true, false, true, true, true, false, false, false, false, true, true, true, false, false, false, false, false] rfl rfl (by kernel_rfl) (fun _ _ _ h => h) (Or.inl ⟨by rfl, ?_⟩) ?_ ?_
          rotate_left
          · intro w'
            go_simp
            with_reducible rfl
          rotate_left
          · simp only [Act.put, List.setIfInBounds_toArray, List.set_cons_zero, List.set_cons_succ, i64_w, i32_w]
            rfl
          refine take_ (i := 3) (N := some 34) (v := ?_) (a' := ?_) #[true, true, true, true, true, true, true, false, false, false, false, true, true, true, false, false, false, false, false] rfl rfl (by kernel_rfl) (fun _ _ _ h => h) (Or.inl ⟨by rfl, ?_⟩) hHeld ?_ ?_
          rotate_left
          · rintro w' ⟨s0, s1⟩
            go_simp
            with_reducible rfl
          rotate_left
          · simp only [Act.put, List.setIfInBounds_toArray, List.set_cons_zero, List.set_cons_succ, i64_w, i32_w]
            rfl
          refine pure_ (i := 7) (N := some 38) (v := ?_) (a' := ?_) #[true, true, true, true, true, true, true, true, false, false, false, true, true, true, false, false, false, false, false] rfl rfl (by kernel_rfl) (fun _ _ _ h => h) (Or.inl ⟨by rfl, ?_⟩) ?_ ?_
          rotate_left
          · intro w'
            go_simp
            with_reducible rfl
          rotate_left
          · simp only [Act.put, List.setIfInBounds_toArray, List.set_cons_zero, List.set_cons_succ, i64_w, i32_w]
            rfl
          refine pure_ (i := 8) (N := some 39) (v := ?_) (a' := ?_) #[true, true, true, true, true, true, true, true, true, false, false, true, true, true, false, false, false, false, false] rfl rfl (by kernel_rfl) (fun _ _ _ h => h) (Or.inl ⟨by rfl, ?_⟩) ?_ ?_
          rotate_left
          · intro w'
            go_simp
            with_reducible rfl
          rotate_left
          · simp only [Act.put, List.setIfInBounds_toArray, List.set_cons_zero, List.set_cons_succ, i64_w, i32_w]
            rfl
          refine pure_ (i := 9) (N := some 40) (v := ?_) (a' := ?_) #[true, true, true, true, true, true, true, true, true, true, false, true, true, true, false, false, false, false, false] rfl rfl (by kernel_rfl) (fun _ _ _ h => h) (Or.inl ⟨by rfl, ?_⟩) ?_ ?_
          rotate_left
          · intro w'
            go_simp
            with_reducible rfl
          rotate_left
          · simp only [Act.put, List.setIfInBounds_toArray, List.set_cons_zero, List.set_cons_succ, i64_w, i32_w]
            rfl
          refine pure_ (i := 15) (N := some 46) (v := ?_) (a' := ?_) #[true, true, true, true, true, true, true, true, true, true, false, true, true, true, false, true, false, false, false] rfl rfl (by kernel_rfl) (fun _ _ _ h => h) (Or.inl ⟨by rfl, ?_⟩) ?_ ?_
          rotate_left
          · intro w'
            go_simp
            with_reducible rfl
          rotate_left
          · simp only [Act.put, List.setIfInBounds_toArray, List.set_cons_zero, List.set_cons_succ, i64_w, i32_w]
            rfl
          refine pure_ (i := 16) (N := some 47) (v := ?_) (a' := ?_) #[true, true, true, true, true, true, true, true, true, true, false, true, true, true, false, true, true, false, false] rfl rfl (by kernel_rfl) (fun _ _ _ h => h) (Or.inl ⟨by rfl, ?_⟩) ?_ ?_
          rotate_left
          · intro w'
            go_simp
            with_reducible rfl
          rotate_left
          · simp only [Act.put, List.setIfInBounds_toArray, List.set_cons_zero, List.set_cons_succ, i64_w, i32_w]
            rfl
          refine take_ (i := 10) (N := some 41) (v := ?_) (a' := ?_) #[true, true, true, true, true, true, true, true, true, true, true, true, true, true, false, true, true, false, false] rfl rfl (by kernel_rfl) (fun _ _ _ h => h) (Or.inl ⟨by rfl, ?_⟩) hHeld ?_ ?_
          rotate_left
          · rintro w' ⟨s0, s1⟩
            go_simp
            with_reducible rfl
          rotate_left
          · simp only [Act.put, List.setIfInBounds_toArray, List.set_cons_zero, List.set_cons_succ, i64_w, i32_w]
            rfl
          refine pure_ (i := 14) (N := some 45) (v := ?_) (a' := ?_) #[true, true, true, true, true, true, true, true, true, true, true, true, true, true, true, true, true, false, false] rfl rfl (by kernel_rfl) (fun _ _ _ h => h) (Or.inl ⟨by rfl, ?_⟩) ?_ ?_
          rotate_left
          · intro w'
            go_simp
            with_reducible rfl
          rotate_left
          · simp only [Act.put, List.setIfInBounds_toArray, List.set_cons_zero, List.set_cons_succ, i64_w, i32_w]
            rfl
          refine pure_ (i := 17) (N := some 48) (v := ?_) (a' := ?_) #[true, true, true, true, true, true, true, true, true, true, true, true, true, true, true, true, true, true, false] rfl rfl (by kernel_rfl) (fun _ _ _ h => h) (Or.inl ⟨by rfl, ?_⟩) ?_ ?_
          rotate_left
          · intro w'
            go_simp
            with_reducible rfl
          rotate_left
          · simp only [Act.put, List.setIfInBounds_toArray, List.set_cons_zero, List.set_cons_succ, i64_w, i32_w]
            rfl
          refine last_ (i := 18) (N := none) #[true, true, true, true, true, true, true, true, true, true, true, true, true, true, true, true, true, true, true] rfl rfl (by kernel_rfl) (by decide) (fun K hK => ?_)
          obtain ⟨s0, s1⟩ := hHeld
          refine skip_ (w1 := ?_) (by rfl) rfl ?_ ?_
          rotate_left
          · go_simp
            rfl
          refine hK.out _ _ ?_
          clear hK K
          refine done_ (by kernel_rfl) ?_
          -- R8>
          go_wp2
          go_ret
          have hp := HA2.out.putIn (S := S) HK.out (c := ⟨flipBit c.s b, false⟩) FB.out (fun h => by cases h) (j := q) (by omega) (v := .int .u8 ((xn ^^^ sh : Nat) : Int)) (by rw [HCD.out]; exact FC.out _ rfl)
          exact ⟨rfl, (show DiskIn _ S p _ from ⟨bc, bm, f, hp.1, HS.out⟩).drew, (HNW.out.trans (hp.2 (HS.out _ (Or.inr (Or.inl rfl))))).trans (Turn.drew _ _)⟩
  · rw [if_pos hc]
    have HH := Lib.hid h
    generalize d.check i = z at *
    have hz : (z != 0) = true := by simpa using hc
    clear h hc
    go_enter Try.func43, Try.ntmps43
    go_wp2_with (go_at_call 34; refine HC.out.mono ?_; rintro e w' ⟨rfl, rfl⟩)
    go_ret
    exact ⟨rfl, HH.out, Turn.refl _ _⟩
end
end Go.Proofs.Ytcaalfpfkalalaa
