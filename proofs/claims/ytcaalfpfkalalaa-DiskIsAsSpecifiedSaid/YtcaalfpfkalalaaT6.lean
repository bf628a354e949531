/- The specification's disk: Flip. -/
import Derived.Test.YtcaalfpfkalalaaT5
set_option linter.unusedVariables false
set_option linter.unusedSimpArgs false
set_option maxRecDepth 10000
set_option maxHeartbeats 4000000
namespace Go.Proofs.Ytcaalfpfkalalaa
open Go.RowKit Qd
open Go.Proofs.YtcaalfpfkalalaaW.PrintLast
section
variable {w0 w : World} {b j n : Nat} {c : Qd.Cell} {v : Value} {o : Oper} {ρ : Operand → Value} {x : Operand}
theorem exl_rbyte {u : Int} (hr : w.rangeAt b j (refCell (c, v))) (hc : SecOk c.s) (hn : n < 64) (hu : c.s[n]? = some u) (ho : o.op = .load 5 x) (hx : ρ x = .pointer (some ⟨b, j + n, none⟩)) : (execOp ρ o).run Try.prog w = .ok (.value (.int .u8 u)) w :=
  exl_byte ho hx (cell_sec hc hr n _ (by unfold secVals; rw [List.getElem?_map, hu]; rfl))
end
theorem sec_byte {s : Sec} (hs : SecOk s) {q : Nat} (hq : q < 64) : s[q]? = some (s.getD q 0) ∧ 0 ≤ s.getD q 0 ∧ s.getD q 0 < 256 := by
  have h : q < s.length := by rw [hs.1]; exact hq
  have e : s[q]? = some (s.getD q 0) := by rw [List.getElem?_eq_getElem h, List.getD_eq_getElem?_getD, List.getElem?_eq_getElem h]; rfl
  exact ⟨e, hs.2 _ (List.mem_of_getElem? e)⟩
attribute [local irreducible] diskR blkR restR rowsR secVals SecOk refRow Own refCell gotVals flipBit
section
variable {w0 w : World} {rs : List Res} {p k : Nat} {d : Disk}
theorem Own.rflip_ (h : Own w0 w rs) (hk : rs[k]? = some (refR p d)) (i bit : Int) : Calls Try.prog 48 #[.pointer (some ⟨p, 0, none⟩), .int .i64 i, .int .i64 bit] w fun e w' =>
    e = .returned (.int .i64 (d.flip i bit).2) ∧ Own w0 w' (rs.set k (refR p (d.flip i bit).1)) := by
  have HC := Lib.hid (h.rcheck_ hk i)
  have hsame := list_set_same hk
  unfold Disk.flip
  by_cases hc : d.check i = 0
  · rw [if_neg (by rw [hc]; simp)]
    rw [hc] at HC
    by_cases hb : bit < 0 ∨ 512 ≤ bit
    · rw [if_pos hb]
      have HH : Hid (Own w0 w (rs.set k (refR p d))) := Lib.hid (by rw [hsame]; exact h)
      rcases hb with hb | hb
      · clear h hc hk hsame
        go_enter Try.func48, Try.ntmps48
        go_wp2_with (go_at_call 51; refine HC.out.mono ?_; rintro e w' ⟨rfl, rfl⟩)
        go_ret
        exact ⟨rfl, HH.out⟩
      · have hb' : 0 ≤ bit := by omega
        have hb2 : bit > 511 := by omega
        clear h hc hk hsame
        go_enter Try.func48, Try.ntmps48
        go_wp2_with (go_at_call 51; refine HC.out.mono ?_; rintro e w' ⟨rfl, rfl⟩)
        go_ret
        exact ⟨rfl, HH.out⟩
    · rw [if_neg hb]
      obtain ⟨_, h0, h1⟩ := check_in hc
      obtain ⟨m, rfl⟩ := Int.eq_ofNat_of_zero_le h0
      have hb0 : 0 ≤ bit := by omega
      have hb1 : bit < 512 := by omega
      have hb2 : ¬ bit > 511 := by omega
      obtain ⟨bt, rfl⟩ := Int.eq_ofNat_of_zero_le hb0
      rw [Int.toNat_natCast, Int.toNat_natCast]
      have hm : m < d.cells.length := by omega
      obtain ⟨bc, vs, A, B, a, cp, hok, hA, hvi, -, -, -, ho, hsh⟩ := (h.focus hk).openAt hm
      have hcok : SecOk (d.cell m).s := hok.cell m
      have hsl := hok.len
      by_cases hbad : (d.cell m).bad = true
      · rw [if_pos hbad]
        have HH : Hid (Own w0 w (rs.set k (refR p d))) := Lib.hid (by rw [hsame]; exact h)
        simp only [refAt, refObj, List.cons_append, List.nil_append] at ho
        obtain ⟨N, hN⟩ : ∃ N, N = d.cells.length := ⟨_, rfl⟩
        obtain ⟨c, hcc⟩ : ∃ c, c = d.cell m := ⟨_, rfl⟩
        rw [← hN] at ho hm hsl
        rw [← hcc] at ho hcok hbad
        have hm' : (m : Int) < (N : Int) := by omega
        clear h hk hsame hvi hsh hok hN hcc hc h1 hb
        go_enter Try.func48, Try.ntmps48
        go_wp2_with (first
          | (go_at_call 51; refine HC.out.mono ?_; rintro e w' ⟨rfl, rfl⟩)
          | (refine go_val rfl (ho.xlcells (k := 0) (j := 0) (x := .tmp 22) rfl rfl rfl rfl) ?_; simp only [Act.put, List.setIfInBounds_toArray, List.set_cons_zero, List.set_cons_succ])
          | (refine go_val rfl ((exl_rbad (x := .tmp 26) (cell_range ho (k := 1) rfl hA) hcok rfl rfl).trans (by rw [hbad])) ?_; simp only [Act.put, List.setIfInBounds_toArray, List.set_cons_zero, List.set_cons_succ]))
        go_ret
        exact ⟨rfl, HH.out⟩
      · rw [if_neg hbad]
        have hbf : (d.cell m).bad = false := by simpa using hbad
        have hfk := Disk.flipBit_ok hcok bt
        have HEND : Hid (∀ w', Own w0 w' [blkR p (refObj bc d).toArray 107, blkR bc (A ++ refCell (⟨flipBit (d.cell m).s bt, false⟩, .slice a (d.opn m).length cp) ++ B).toArray 110, rowsR vs d.opn, restR rs (· = k)] → Own w0 w' (rs.set k (refR p { d with cells := d.cells.set m ⟨flipBit (d.cell m).s bt, false⟩ }))) := Lib.hid (fun w' hh =>
          (hsh w' { d with cells := d.cells.set m ⟨flipBit (d.cell m).s bt, false⟩ } ⟨flipBit (d.cell m).s bt, false⟩ (.slice a (d.opn m).length cp) hfk (Disk.rowSet_ok hok m hfk (fun h => by cases h)) rfl (by
            unfold refAt
            rw [set_same_of hvi]
            unfold refObj at hh ⊢
            simp only [List.length_set]
            exact hh)).back)
        simp only [refAt, refObj, List.cons_append, List.nil_append] at ho HEND
        obtain ⟨N, hN⟩ : ∃ N, N = d.cells.length := ⟨_, rfl⟩
        obtain ⟨n, hn⟩ : ∃ n, n = (d.opn m).length := ⟨_, rfl⟩
        obtain ⟨c, hcc⟩ : ∃ c, c = d.cell m := ⟨_, rfl⟩
        rw [← hN] at ho hm hsl HEND
        rw [← hn] at ho HEND
        rw [← hcc] at ho hcok hbf HEND ⊢
        have hm' : (m : Int) < (N : Int) := by omega
        obtain ⟨hx0, hx1⟩ := sec_byte hcok (show bt / 8 < 64 by omega)
        obtain ⟨xn, hxn⟩ := Int.eq_ofNat_of_zero_le hx1.1
        rw [hxn] at hx0 hx1
        have hfl : ∀ v : Int, v = ((xn ^^^ (1 <<< (bt % 8)) : Nat) : Int) → (⟨c.s.set (bt / 8) v, c.bad⟩ : Qd.Cell) = ⟨flipBit c.s bt, false⟩ := fun v hv => by
          rw [hbf, hv]
          unfold flipBit
          rw [hxn, Int.toNat_natCast]
        have HFL := Lib.hid hfl
        have HXN := Lib.hid hx0
        have hw8 := flip_wrap hb1
        have hq0 : (0 : Int) ≤ ((bt / 8 : Nat) : Int) := by omega
        have hq1' : ((bt / 8 : Nat) : Int) < 64 := by omega
        have hq1 : bt / 8 < 64 := by omega
        have hsf := flip_shift bt
        have hxo := flip_xor (b := bt) hx1.2
        generalize bt / 8 = q at *
        generalize (1 <<< (bt % 8) : Nat) = sh at *
        clear h hk hsame hvi hsh hok hN hn hcc hc h1 hb hbad hx0 hfl hxn hfk
        go_enter Try.func48, Try.ntmps48
        go_upto_region 7 with (first
          | (go_at_call 51; refine HC.out.mono ?_; rintro e w' ⟨rfl, rfl⟩)
          | (refine go_val rfl (ho.xlcells (k := 0) (j := 0) (x := .tmp 22) rfl rfl rfl rfl) ?_; simp only [Act.put, List.setIfInBounds_toArray, List.set_cons_zero, List.set_cons_succ])
          | (refine go_val rfl ((exl_rbad (x := .tmp 26) (cell_range ho (k := 1) rfl hA) hcok rfl rfl).trans (by rw [hbf])) ?_; simp only [Act.put, List.setIfInBounds_toArray, List.set_cons_zero, List.set_cons_succ]))
        -- <R7
        refine start_ (n := 26) (S := fun w' => Own w0 w' [blkR p [Value.slice (some ⟨bc, 0, none⟩) N N, .int .i64 d.steps, .int .i64 d.after, .bool d.dead].toArray 107, blkR bc (A ++ refCell (c, .slice a n cp) ++ B).toArray 110, rowsR vs d.opn, restR rs (· = k)]) (ds := [25]) #[false, false, false, false, false, false, false, false, false, false, false, false, false, false, false, false, false, false, false, false, false, false, false, false, false, false] mixed rfl rfl ((ho.nw ((Nw.refl _).drew))) (fun hHeld => ?_)
        refine pure_ (i := 0) (N := some 29) (v := ?_) (a' := ?_) #[true, false, false, false, false, false, false, false, false, false, false, false, false, false, false, false, false, false, false, false, false, false, false, false, false, false] rfl rfl (by kernel_rfl) (fun _ _ _ h => h) (Or.inl ⟨by rfl, ?_⟩) ?_ ?_
        rotate_left
        · intro w'
          go_simp
          with_reducible rfl
        rotate_left
        · simp only [Act.put, List.setIfInBounds_toArray, List.set_cons_zero, List.set_cons_succ, i64_w, i32_w]
          rfl
        refine pure_ (i := 1) (N := some 30) (v := ?_) (a' := ?_) #[true, true, false, false, false, false, false, false, false, false, false, false, false, false, false, false, false, false, false, false, false, false, false, false, false, false] rfl rfl (by kernel_rfl) (fun _ _ _ h => h) (Or.inl ⟨by rfl, ?_⟩) ?_ ?_
        rotate_left
        · intro w'
          go_simp
          with_reducible rfl
        rotate_left
        · simp only [Act.put, List.setIfInBounds_toArray, List.set_cons_zero, List.set_cons_succ, i64_w, i32_w]
          rfl
        refine pure_ (i := 2) (N := some 31) (v := ?_) (a' := ?_) #[true, true, true, false, false, false, false, false, false, false, false, false, false, false, false, false, false, false, false, false, false, false, false, false, false, false] rfl rfl (by kernel_rfl) (fun _ _ _ h => h) (Or.inl ⟨by rfl, ?_⟩) ?_ ?_
        rotate_left
        · intro w'
          go_simp
          with_reducible rfl
        rotate_left
        · simp only [Act.put, List.setIfInBounds_toArray, List.set_cons_zero, List.set_cons_succ, i64_w, i32_w]
          rfl
        refine pure_ (i := 4) (N := some 33) (v := ?_) (a' := ?_) #[true, true, true, false, true, false, false, false, false, false, false, false, false, false, false, false, false, false, false, false, false, false, false, false, false, false] rfl rfl (by kernel_rfl) (fun _ _ _ h => h) (Or.inl ⟨by rfl, ?_⟩) ?_ ?_
        rotate_left
        · intro w'
          go_simp
          with_reducible rfl
        rotate_left
        · simp only [Act.put, List.setIfInBounds_toArray, List.set_cons_zero, List.set_cons_succ, i64_w, i32_w]
          rfl
        refine pure_ (i := 5) (N := some 34) (v := ?_) (a' := ?_) #[true, true, true, false, true, true, false, false, false, false, false, false, false, false, false, false, false, false, false, false, false, false, false, false, false, false] rfl rfl (by kernel_rfl) (fun _ _ _ h => h) (Or.inl ⟨by rfl, ?_⟩) ?_ ?_
        rotate_left
        · intro w'
          go_simp
          with_reducible rfl
        rotate_left
        · simp only [Act.put, List.setIfInBounds_toArray, List.set_cons_zero, List.set_cons_succ, i64_w, i32_w]
          rfl
        refine pure_ (i := 6) (N := some 35) (v := ?_) (a' := ?_) #[true, true, true, false, true, true, true, false, false, false, false, false, false, false, false, false, false, false, false, false, false, false, false, false, false, false] rfl rfl (by kernel_rfl) (fun _ _ _ h => h) (Or.inl ⟨by rfl, ?_⟩) ?_ ?_
        rotate_left
        · intro w'
          go_simp
          with_reducible rfl
        rotate_left
        · simp only [Act.put, List.setIfInBounds_toArray, List.set_cons_zero, List.set_cons_succ, i64_w, i32_w]
          rfl
        refine pure_ (i := 7) (N := some 36) (v := ?_) (a' := ?_) #[true, true, true, false, true, true, true, true, false, false, false, false, false, false, false, false, false, false, false, false, false, false, false, false, false, false] rfl rfl (by kernel_rfl) (fun _ _ _ h => h) (Or.inl ⟨by rfl, ?_⟩) ?_ ?_
        rotate_left
        · intro w'
          go_simp
          with_reducible rfl
        rotate_left
        · simp only [Act.put, List.setIfInBounds_toArray, List.set_cons_zero, List.set_cons_succ, i64_w, i32_w]
          rfl
        refine pure_ (i := 8) (N := some 37) (v := ?_) (a' := ?_) #[true, true, true, false, true, true, true, true, true, false, false, false, false, false, false, false, false, false, false, false, false, false, false, false, false, false] rfl rfl (by kernel_rfl) (fun _ _ _ h => h) (Or.inl ⟨by rfl, ?_⟩) ?_ ?_
        rotate_left
        · intro w'
          go_simp
          with_reducible rfl
        rotate_left
        · simp only [Act.put, List.setIfInBounds_toArray, List.set_cons_zero, List.set_cons_succ, i64_w, i32_w]
          rfl
        refine pure_ (i := 9) (N := some 38) (v := ?_) (a' := ?_) #[true, true, true, false, true, true, true, true, true, true, false, false, false, false, false, false, false, false, false, false, false, false, false, false, false, false] rfl rfl (by kernel_rfl) (fun _ _ _ h => h) (Or.inl ⟨by rfl, ?_⟩) ?_ ?_
        rotate_left
        · intro w'
          go_simp
          with_reducible rfl
        rotate_left
        · simp only [Act.put, List.setIfInBounds_toArray, List.set_cons_zero, List.set_cons_succ, i64_w, i32_w]
          rfl
        refine pure_ (i := 11) (N := some 40) (v := ?_) (a' := ?_) #[true, true, true, false, true, true, true, true, true, true, false, true, false, false, false, false, false, false, false, false, false, false, false, false, false, false] rfl rfl (by kernel_rfl) (fun _ _ _ h => h) (Or.inl ⟨by rfl, ?_⟩) ?_ ?_
        rotate_left
        · intro w'
          go_simp
          with_reducible rfl
        rotate_left
        · simp only [Act.put, List.setIfInBounds_toArray, List.set_cons_zero, List.set_cons_succ, i64_w, i32_w]
          rfl
        refine pure_ (i := 12) (N := some 41) (v := ?_) (a' := ?_) #[true, true, true, false, true, true, true, true, true, true, false, true, true, false, false, false, false, false, false, false, false, false, false, false, false, false] rfl rfl (by kernel_rfl) (fun _ _ _ h => h) (Or.inl ⟨by rfl, ?_⟩) ?_ ?_
        rotate_left
        · intro w'
          go_simp
          with_reducible rfl
        rotate_left
        · simp only [Act.put, List.setIfInBounds_toArray, List.set_cons_zero, List.set_cons_succ, i64_w, i32_w]
          rfl
        refine pure_ (i := 13) (N := some 42) (v := ?_) (a' := ?_) #[true, true, true, false, true, true, true, true, true, true, false, true, true, true, false, false, false, false, false, false, false, false, false, false, false, false] rfl rfl (by kernel_rfl) (fun _ _ _ h => h) (Or.inl ⟨by rfl, ?_⟩) ?_ ?_
        rotate_left
        · intro w'
          go_simp
          with_reducible rfl
        rotate_left
        · simp only [Act.put, List.setIfInBounds_toArray, List.set_cons_zero, List.set_cons_succ, i64_w, i32_w]
          rfl
        refine pure_ (i := 18) (N := some 47) (v := ?_) (a' := ?_) #[true, true, true, false, true, true, true, true, true, true, false, true, true, true, false, false, false, false, true, false, false, false, false, false, false, false] rfl rfl (by kernel_rfl) (fun _ _ _ h => h) (Or.inl ⟨by rfl, ?_⟩) ?_ ?_
        rotate_left
        · intro w'
          go_simp
          with_reducible rfl
        rotate_left
        · simp only [Act.put, List.setIfInBounds_toArray, List.set_cons_zero, List.set_cons_succ, i64_w, i32_w]
          rfl
        refine pure_ (i := 19) (N := some 48) (v := ?_) (a' := ?_) #[true, true, true, false, true, true, true, true, true, true, false, true, true, true, false, false, false, false, true, true, false, false, false, false, false, false] rfl rfl (by kernel_rfl) (fun _ _ _ h => h) (Or.inl ⟨by rfl, ?_⟩) ?_ ?_
        rotate_left
        · intro w'
          go_simp
          with_reducible rfl
        rotate_left
        · simp only [Act.put, List.setIfInBounds_toArray, List.set_cons_zero, List.set_cons_succ, i64_w, i32_w]
          rfl
        refine pure_ (i := 20) (N := some 49) (v := ?_) (a' := ?_) #[true, true, true, false, true, true, true, true, true, true, false, true, true, true, false, false, false, false, true, true, true, false, false, false, false, false] rfl rfl (by kernel_rfl) (fun _ _ _ h => h) (Or.inl ⟨by rfl, ?_⟩) ?_ ?_
        rotate_left
        · intro w'
          go_simp
          with_reducible rfl
        rotate_left
        · simp only [Act.put, List.setIfInBounds_toArray, List.set_cons_zero, List.set_cons_succ, i64_w, i32_w]
          rfl
        refine take_ (i := 3) (N := some 32) (v := .slice (some ⟨bc, 0, none⟩) N N) (a' := ?_) #[true, true, true, true, true, true, true, true, true, true, false, true, true, true, false, false, false, false, true, true, true, false, false, false, false, false] rfl rfl (by kernel_rfl) (fun _ _ _ h => h) (Or.inl ⟨by rfl, ?_⟩) hHeld ?_ ?_
        · intro w' s0
          exact s0.xlcells (k := 0) (j := 0) rfl rfl rfl rfl
        rotate_left
        · simp only [Act.put, List.setIfInBounds_toArray, List.set_cons_zero, List.set_cons_succ, i64_w, i32_w]
          rfl
        refine pure_ (i := 22) (N := some 51) (v := ?_) (a' := ?_) #[true, true, true, true, true, true, true, true, true, true, false, true, true, true, false, false, false, false, true, true, true, false, true, false, false, false] rfl rfl (by kernel_rfl) (fun _ _ _ h => h) (Or.inl ⟨by rfl, ?_⟩) ?_ ?_
        rotate_left
        · intro w'
          go_simp
          with_reducible rfl
        rotate_left
        · simp only [Act.put, List.setIfInBounds_toArray, List.set_cons_zero, List.set_cons_succ, i64_w, i32_w]
          rfl
        refine pure_ (i := 23) (N := some 52) (v := ?_) (a' := ?_) #[true, true, true, true, true, true, true, true, true, true, false, true, true, true, false, false, false, false, true, true, true, false, true, true, false, false] rfl rfl (by kernel_rfl) (fun _ _ _ h => h) (Or.inl ⟨by rfl, ?_⟩) ?_ ?_
        rotate_left
        · intro w'
          go_simp
          with_reducible rfl
        rotate_left
        · simp only [Act.put, List.setIfInBounds_toArray, List.set_cons_zero, List.set_cons_succ, i64_w, i32_w]
          rfl
        refine take_ (i := 10) (N := some 39) (v := .slice (some ⟨bc, 0, none⟩) N N) (a' := ?_) #[true, true, true, true, true, true, true, true, true, true, true, true, true, true, false, false, false, false, true, true, true, false, true, true, false, false] rfl rfl (by kernel_rfl) (fun _ _ _ h => h) (Or.inl ⟨by rfl, ?_⟩) hHeld ?_ ?_
        · intro w' s0
          exact s0.xlcells (k := 0) (j := 0) rfl rfl rfl rfl
        rotate_left
        · simp only [Act.put, List.setIfInBounds_toArray, List.set_cons_zero, List.set_cons_succ, i64_w, i32_w]
          rfl
        refine pure_ (i := 14) (N := some 43) (v := ?_) (a' := ?_) #[true, true, true, true, true, true, true, true, true, true, true, true, true, true, true, false, false, false, true, true, true, false, true, true, false, false] rfl rfl (by kernel_rfl) (fun _ _ _ h => h) (Or.inl ⟨by rfl, ?_⟩) ?_ ?_
        rotate_left
        · intro w'
          go_simp
          with_reducible rfl
        rotate_left
        · simp only [Act.put, List.setIfInBounds_toArray, List.set_cons_zero, List.set_cons_succ, i64_w, i32_w]
          rfl
        refine pure_ (i := 15) (N := some 44) (v := ?_) (a' := ?_) #[true, true, true, true, true, true, true, true, true, true, true, true, true, true, true, true, false, false, true, true, true, false, true, true, false, false] rfl rfl (by kernel_rfl) (fun _ _ _ h => h) (Or.inl ⟨by rfl, ?_⟩) ?_ ?_
        rotate_left
        · intro w'
          go_simp
          with_reducible rfl
        rotate_left
        · simp only [Act.put, List.setIfInBounds_toArray, List.set_cons_zero, List.set_cons_succ, i64_w, i32_w]
          rfl
        refine pure_ (i := 16) (N := some 45) (v := ?_) (a' := ?_) #[true, true, true, true, true, true, true, true, true, true, true, true, true, true, true, true, true, false, true, true, true, false, true, true, false, false] rfl rfl (by kernel_rfl) (fun _ _ _ h => h) (Or.inl ⟨by rfl, ?_⟩) ?_ ?_
        rotate_left
        · intro w'
          go_simp
          with_reducible rfl
        rotate_left
        · simp only [Act.put, List.setIfInBounds_toArray, List.set_cons_zero, List.set_cons_succ, i64_w, i32_w]
          rfl
        refine take_ (i := 17) (N := some 46) (v := .int .u8 xn) (a' := ?_) #[true, true, true, true, true, true, true, true, true, true, true, true, true, true, true, true, true, true, true, true, true, false, true, true, false, false] rfl rfl (by kernel_rfl) (fun _ _ _ h => h) (Or.inl ⟨by rfl, ?_⟩) hHeld ?_ ?_
        · intro w' s0
          exact exl_rbyte (cell_range s0 (k := 1) rfl hA) hcok hq1 HXN.out rfl rfl
        rotate_left
        · simp only [Act.put, List.setIfInBounds_toArray, List.set_cons_zero, List.set_cons_succ, i64_w, i32_w]
          rfl
        refine pure_ (i := 21) (N := some 50) (v := ?_) (a' := ?_) #[true, true, true, true, true, true, true, true, true, true, true, true, true, true, true, true, true, true, true, true, true, true, true, true, false, false] rfl rfl (by kernel_rfl) (fun _ _ _ h => h) (Or.inl ⟨by rfl, ?_⟩) ?_ ?_
        rotate_left
        · intro w'
          go_simp
          with_reducible rfl
        rotate_left
        · simp only [Act.put, List.setIfInBounds_toArray, List.set_cons_zero, List.set_cons_succ, i64_w, i32_w]
          rfl
        refine pure_ (i := 24) (N := some 53) (v := ?_) (a' := ?_) #[true, true, true, true, true, true, true, true, true, true, true, true, true, true, true, true, true, true, true, true, true, true, true, true, true, false] rfl rfl (by kernel_rfl) (fun _ _ _ h => h) (Or.inl ⟨by rfl, ?_⟩) ?_ ?_
        rotate_left
        · intro w'
          go_simp
          with_reducible rfl
        rotate_left
        · simp only [Act.put, List.setIfInBounds_toArray, List.set_cons_zero, List.set_cons_succ, i64_w, i32_w]
          rfl
        refine last_ (i := 25) (N := none) #[true, true, true, true, true, true, true, true, true, true, true, true, true, true, true, true, true, true, true, true, true, true, true, true, true, true] rfl rfl (by kernel_rfl) (by decide) (fun K hK => ?_)
        have s0 := hHeld
        refine skip_ex (by rfl) rfl (s0.xrsbyte (k := 1) (i := m) (n := q) rfl hA hcok hq1 rfl rfl rfl) ?_
        rintro wc hq
        refine hK.out _ _ ?_
        clear hK K
        refine done_ (by kernel_rfl) ?_
        -- R7>
        clear ho hHeld s0
        (try simp only [List.nil_append, List.cons_append, List.set_cons_zero, List.set_cons_succ] at hq); replace ho := hq; clear hq
        rw [HFL.out _ rfl] at ho
        go_wp2
        go_ret
        exact ⟨rfl, HEND.out _ ho⟩
  · rw [if_pos hc]
    obtain ⟨z, hz⟩ : ∃ z, z = d.check i := ⟨_, rfl⟩
    rw [← hz] at hc HC ⊢
    have hb1 : (z != 0) = true := by simp [hc]
    have HH : Hid (Own w0 w (rs.set k (refR p d))) := Lib.hid (by rw [hsame]; exact h)
    clear hz h hk hsame
    go_enter Try.func48, Try.ntmps48
    go_wp2_with (go_at_call 51; refine HC.out.mono ?_; rintro e w' ⟨rfl, rfl⟩)
    go_ret
    exact ⟨rfl, HH.out⟩
end
end Go.Proofs.Ytcaalfpfkalalaa
