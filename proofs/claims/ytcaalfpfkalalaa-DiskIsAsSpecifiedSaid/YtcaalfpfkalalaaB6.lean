/- The walk of disk.found. -/
import Derived.Test.YtcaalfpfkalalaaL2
set_option linter.unusedVariables false
set_option linter.unusedSimpArgs false
set_option maxRecDepth 10000
set_option maxHeartbeats 4000000
namespace Go.Proofs.Ytcaalfpfkalalaa
open Go.RowKit Qd
open Go.Proofs.YtcaalfpfkalalaaW.PrintLast
section
variable {w : World} {g cap : Nat} {l : List Sec} {c : Qd.Cell} {x : Int}
theorem found_bounds (n : Nat) (x : Int) : -((n : Int) + 3) < x.tmod (n + 3) ∧ x.tmod (n + 3) < (n : Int) + 3 := by
  have h1 := Int.tmod_lt_of_pos x (b := (n : Int) + 3) (by omega)
  have h2 := Int.lt_tmod_of_pos x (b := (n : Int) + 3) (by omega)
  exact ⟨h2, h1⟩
theorem torn_self {a b : Sec} (h : a = b) : torn a b = b := by rw [h]; exact List.take_append_drop 32 b
theorem uByteSlice : Try.prog.underlying 101 = some (.slice 5) := by kernel_rfl
theorem sByteOne : (Try.prog.info? 5).map (·.size) = some 1 := by kernel_rfl
theorem torn_blk {b : Nat} {s bf : Sec} {t : TypeId} (hs : SecOk s) (hb : SecOk bf) (h : Blk w b (secVals s).toArray t) : Blk (w.setCells b 32 ((secVals bf).drop 32)) b (secVals (torn bf s)).toArray t := by
  have hl : ((secVals bf).drop 32).length = 32 := by rw [List.length_drop, sec64 hb]
  have := h.setCells (o := 32) ((secVals bf).drop 32) (by rw [List.size_toArray, sec64 hs, hl]; omega)
  rw [hl] at this
  have e : (secVals s).toArray.toList.take 32 ++ (secVals bf).drop 32 ++ (secVals s).toArray.toList.drop (32 + 32) = secVals (torn bf s) := by
    have e2 : (secVals s).toArray.toList.drop (32 + 32) = [] := List.drop_eq_nil_of_le (by simp [secVals, hs.1])
    rw [e2, List.append_nil]
    simp [secVals, torn, List.map_take, List.map_drop]
  rwa [e] at this
theorem two_new {w w3 w4 : World} {a9 a10 : Nat} {z : List Value} {T : TypeId} (hn : Nw w w3) (h4 : w4 = (w3.drew.alloc (.cells z.toArray T)).alloc (.cells z.toArray T))
    (hord : (a9, a10) = (w3.heap.size, w3.heap.size + 1) ∨ (a9, a10) = (w3.heap.size + 1, w3.heap.size)) :
    Blk w4 a9 z.toArray T ∧ Blk w4 a10 z.toArray T ∧ a9 ≠ a10 ∧ w3.heap.size ≤ a9 ∧ w3.heap.size ≤ a10 ∧ Nw w w4 := by
  have h1 : Blk w4 w3.heap.size z.toArray T := by rw [h4]; exact (Blk.new w3.drew z.toArray T).alloc _
  have h2 : Blk w4 (w3.heap.size + 1) z.toArray T := by
    have := Blk.new (w3.drew.alloc (.cells z.toArray T)) z.toArray T
    rw [World.size_alloc] at this
    rw [h4]; exact this
  have h3 : Nw w w4 := by rw [h4]; exact (hn.drew.alloc _).alloc _
  rcases hord with h | h
  · injection h with e1 e2; subst e1 e2
    exact ⟨h1, h2, by omega, by omega, by omega, h3⟩
  · injection h with e1 e2; subst e1 e2
    exact ⟨h2, h1, by omega, by omega, by omega, h3⟩
theorem found_calls (hc : SecOk c.s) (hl : ∀ s ∈ l, SecOk s) (hne : l ≠ []) (hlen : l.length < 1099511627776) (hx0 : -9223372036854775808 ≤ x) (hx1 : x ≤ 9223372036854775807) (hr : w.rangeAt g 0 (manyVals l)) :
    Calls Try.prog 53 #[.agg (cellVals c).toArray, .slice (some ⟨g, 0, none⟩) l.length cap, .int .i64 x] w fun e w' =>
      e = .returned (.agg (cellVals (found c l x)).toArray) ∧ Nw w w' := by
  have hbd := found_bounds l.length x
  have hpos : 0 < l.length := List.length_pos_iff.2 hne
  have HR := Lib.hid hr
  have HC := Lib.hid hc
  have HL := Lib.hid hl
  unfold found
  dsimp only
  generalize hn : l.length = n at *
  generalize ht : x.tmod ((n : Int) + 3) = t at *
  have hr0 : 0 ≤ (t + n + 3).tmod ((n : Int) + 3) := Int.tmod_nonneg _ (by omega)
  obtain ⟨r, hrr⟩ := Int.eq_ofNat_of_zero_le hr0
  have hr1 : (r : Int) < (n : Int) + 3 := by rw [← hrr]; exact Int.tmod_lt_of_pos _ (by omega)
  have hw1 : wrap64 ((n : Int) + 3) = (n : Int) + 3 := by unfold wrap64; omega
  have hw2 : wrap64 (t + (n : Int)) = t + n := by unfold wrap64; omega
  have hw3 : wrap64 (t + (n : Int) + 3) = t + n + 3 := by unfold wrap64; omega
  simp only [hrr]
  have HN := Lib.hid hn
  clear hr hc hl hn hr0
  obtain ⟨b3, hb3⟩ : ∃ b, b = w.heap.size := ⟨_, rfl⟩
  have HK3 : Blk (w.alloc (.cells (cellVals c).toArray 100)) b3 (cellVals c).toArray 100 := by rw [hb3]; exact Blk.new _ _ _
  have HK6 : Blk ((w.alloc (.cells (cellVals c).toArray 100)).alloc (.cells (cellVals zeroCell).toArray 100)) (b3 + 1) (cellVals zeroCell).toArray 100 := by
    have := Blk.new (w.alloc (.cells (cellVals c).toArray 100)) (cellVals zeroCell).toArray 100
    rw [World.size_alloc, ← hb3] at this
    exact this
  have HNW2 : Nw w ((w.alloc (.cells (cellVals c).toArray 100)).alloc (.cells (cellVals zeroCell).toArray 100)) := ((Nw.refl w).alloc _).alloc _
  have HB3 := Lib.hid hb3
  have hend : ∀ c' : Qd.Cell, SecOk c'.s → Nw w (((w.alloc (.cells (cellVals c).toArray 100)).alloc (.cells (cellVals zeroCell).toArray 100)).setCells (b3 + 1) 0 (cellVals c')) ∧
      (((w.alloc (.cells (cellVals c).toArray 100)).alloc (.cells (cellVals zeroCell).toArray 100)).setCells (b3 + 1) 0 (cellVals c')).rangeAt (b3 + 1) 0 (cellVals c') := fun c' hc' => by
    have e65 : (cellVals c').length = (cellVals zeroCell).length := by rw [cell65 hc', cell65 (c := zeroCell) zeroSec_ok]
    exact ⟨HNW2.setCells (o := 0) HK6 _ (by rw [List.size_toArray, e65]; omega) (by omega), cell_range_of_blk (blk_over HK6 e65)⟩
  have K3 := Lib.hid HK3
  have K6 := Lib.hid HK6
  have HEND := Lib.hid hend
  clear HK3 HK6 HNW2 hb3 hend
  by_cases h0 : r = 0
  · subst h0
    rw [if_pos (by rfl)]
    go_enter Try.func53, Try.ntmps53
    go_wp2_with (first
      | (refine go_val rfl (ex_box rfl (cs := cellVals c) rfl) ?_; simp only [Act.put, List.setIfInBounds_toArray, List.set_cons_zero, List.set_cons_succ]; rw [← HB3.out])
      | (refine go_val rfl (exa_cell rfl) ?_; simp only [Act.put, List.setIfInBounds_toArray, List.set_cons_zero, List.set_cons_succ]; rw [World.size_alloc, ← HB3.out])
      | (refine go_val rfl (exl_cell (c := c) (x := .tmp 3) rfl rfl HC.out (cell_range_of_blk (K3.out.alloc _))) ?_; simp only [Act.put, List.setIfInBounds_toArray, List.set_cons_zero, List.set_cons_succ])
      | (refine go_skp rfl (exs_cell (c := c) (x := .tmp 6) (y := .tmp 26) rfl (b := b3 + 1) (k := 0) rfl HC.out rfl (cell_there_of_blk (c := zeroCell) zeroSec_ok K6.out)) ?_; simp only [Act.put, List.setIfInBounds_toArray, List.set_cons_zero, List.set_cons_succ]))
    refine bodyPost_ret (results_cell_one rfl _ HC.out rfl (HEND.out c HC.out).2) rfl ⟨rfl, (HEND.out c HC.out).1⟩
  · rw [if_neg (by omega)]
    by_cases h1 : r ≤ n
    · obtain ⟨q, rfl⟩ : ∃ q, r = q + 1 := ⟨r - 1, by omega⟩
      rw [if_pos (by omega), show ((q + 1 : Nat) : Int) - 1 = (q : Int) from by omega, Int.toNat_natCast]
      have HS := Lib.hid (getD_ok HL.out q)
      have HRQ := Lib.hid (many_sub HL.out HR.out (i := q) (by rw [HN.out]; omega))
      have e0 : ((q + 1 : Nat) : Int) = (q : Int) + 1 := by omega
      have e1 : wrap64 (((q : Int) + 1) - 1) = (q : Int) := by unfold wrap64; omega
      have e2 : (0 : Int) ≤ q := by omega
      have e3 : (q : Int) < n := by omega
      generalize l.getD q zeroSec = ls at *
      rw [e0] at hrr
      clear e0 h0 h1 hr1
      go_enter Try.func53, Try.ntmps53
      go_wp2_with (first
        | (refine go_val rfl (ex_box rfl (cs := cellVals c) rfl) ?_; simp only [Act.put, List.setIfInBounds_toArray, List.set_cons_zero, List.set_cons_succ]; rw [← HB3.out])
        | (refine go_val rfl (exa_cell rfl) ?_; simp only [Act.put, List.setIfInBounds_toArray, List.set_cons_zero, List.set_cons_succ]; rw [World.size_alloc, ← HB3.out])
        | (refine go_val rfl (exl_sec (s := ls) (x := .tmp 34) (b := g) (k := q * 64) rfl rfl HS.out (range_alloc (range_alloc HRQ.out _) _)) ?_; simp only [Act.put, List.setIfInBounds_toArray, List.set_cons_zero, List.set_cons_succ])
        | (refine go_val rfl (exb_cell (s := ls) rfl HS.out rfl) ?_; simp only [Act.put, List.setIfInBounds_toArray, List.set_cons_zero, List.set_cons_succ])
        | (refine go_skp rfl (exs_cell (c := ⟨ls, false⟩) (x := .tmp 6) (y := .tmp 36) rfl (b := b3 + 1) (k := 0) rfl HS.out rfl (cell_there_of_blk (c := zeroCell) zeroSec_ok K6.out)) ?_; simp only [Act.put, List.setIfInBounds_toArray, List.set_cons_zero, List.set_cons_succ]))
      refine bodyPost_ret (results_cell_one (c := ⟨ls, false⟩) rfl _ HS.out rfl (HEND.out ⟨ls, false⟩ HS.out).2) rfl ⟨rfl, (HEND.out ⟨ls, false⟩ HS.out).1⟩
    · rw [if_neg (by omega)]
      by_cases h2 : r = n + 1
      · subst h2
        rw [if_pos (by omega)]
        have e0 : ((n + 1 : Nat) : Int) = (n : Int) + 1 := by omega
        have e1 : wrap64 ((n : Int) + 1) = (n : Int) + 1 := by unfold wrap64; omega
        rw [e0] at hrr
        obtain ⟨rc, hrc⟩ : ∃ rc, rc = rotCell := ⟨_, rfl⟩
        rw [← hrc]
        have hrs : SecOk rc.s := by rw [hrc]; exact zeroSec_ok
        have HRC := Lib.hid hrc
        clear e0 h0 h1 hr1 hrc
        go_enter Try.func53, Try.ntmps53
        go_wp2_with (first
          | (refine go_val rfl (ex_box rfl (cs := cellVals c) rfl) ?_; simp only [Act.put, List.setIfInBounds_toArray, List.set_cons_zero, List.set_cons_succ]; rw [← HB3.out])
          | (refine go_val rfl (exa_cell rfl) ?_; simp only [Act.put, List.setIfInBounds_toArray, List.set_cons_zero, List.set_cons_succ]; rw [World.size_alloc, ← HB3.out])
          | (refine go_val rfl (exb_rot2 HRC.out rfl rfl) ?_; simp only [Act.put, List.setIfInBounds_toArray, List.set_cons_zero, List.set_cons_succ])
          | (refine go_skp rfl (exs_cell (c := rc) (x := .tmp 6) (y := .tmp 42) rfl (b := b3 + 1) (k := 0) rfl hrs rfl (cell_there_of_blk (c := zeroCell) zeroSec_ok K6.out)) ?_; simp only [Act.put, List.setIfInBounds_toArray, List.set_cons_zero, List.set_cons_succ]))
        refine bodyPost_ret (results_cell_one (c := rc) rfl _ hrs rfl (HEND.out rc hrs).2) rfl ⟨rfl, (HEND.out rc hrs).1⟩
      · rw [if_neg (by omega)]
        have h3 : r = n + 2 := by omega
        subst h3
        obtain ⟨m, rfl⟩ : ∃ m, n = m + 1 := ⟨n - 1, by omega⟩
        rw [show (((m + 1 : Nat) : Int) - 1).toNat = m from by omega]
        obtain ⟨bf, hbf⟩ : ∃ bf, bf = (if 1 < ((m + 1 : Nat) : Int) then l.getD (((m + 1 : Nat) : Int) - 2).toNat zeroSec else c.s) := ⟨_, rfl⟩
        rw [← hbf]
        have HBF := Lib.hid (show SecOk bf by rw [hbf]; split; exact getD_ok HL.out _; exact HC.out)
        have HBE := Lib.hid hbf
        clear hbf
        have e0 : ((m + 1 : Nat) : Int) = (m : Int) + 1 := by omega
        have e1 : ((m + 1 + 2 : Nat) : Int) = (m : Int) + 1 + 2 := by omega
        have e2 : wrap64 ((m : Int) + 1 - 1) = (m : Int) := by unfold wrap64; omega
        have e3 : wrap64 ((m : Int) + 1 + 1) = (m : Int) + 1 + 1 := by unfold wrap64; omega
        have e6 : wrap64 (m : Int) = (m : Int) := by unfold wrap64; omega
        have e4 : (0 : Int) ≤ m := Int.natCast_nonneg m
        have e5 : (m : Int) < (m : Int) + 1 := Int.lt_succ _
        rw [e1] at hrr
        simp only [e0] at *
        have hls := getD_ok HL.out m
        have hr9 := many_sub HL.out HR.out (i := m) (by rw [HN.out]; omega)
        obtain ⟨ls, hlsd⟩ : ∃ ls, ls = l.getD m zeroSec := ⟨_, rfl⟩
        rw [← hlsd] at hls hr9 ⊢
        have HLS := Lib.hid hls
        have HR9 := Lib.hid hr9
        obtain ⟨tn, htn⟩ : ∃ tn, tn = torn bf ls := ⟨_, rfl⟩
        rw [← htn]
        have HTN := Lib.hid htn
        have HTO := Lib.hid (show SecOk tn by rw [htn]; exact Disk.torn_ok HBF.out HLS.out)
        clear hls hr9 h0 h1 h2 hr1 e0 e1 htn
        go_enter Try.func53, Try.ntmps53
        go_wp2_with (first
          | (refine go_val rfl (ex_box rfl (cs := cellVals c) rfl) ?_; simp only [Act.put, List.setIfInBounds_toArray, List.set_cons_zero, List.set_cons_succ]; rw [← HB3.out])
          | (refine go_val rfl (exa_cell rfl) ?_; simp only [Act.put, List.setIfInBounds_toArray, List.set_cons_zero, List.set_cons_succ]; rw [World.size_alloc, ← HB3.out]))
        have HS3 := Lib.hid (cell_sec_range (cell_range_of_blk (K3.out.alloc (.cells (cellVals zeroCell).toArray 100))))
        have HR3 := Lib.hid (range_alloc (range_alloc HR9.out (.cells (cellVals c).toArray 100)) (.cells (cellVals zeroCell).toArray 100))
        have HRA := Lib.hid (range_alloc (range_alloc HR.out (.cells (cellVals c).toArray 100)) (.cells (cellVals zeroCell).toArray 100))
        have HN3 : Nw w ((w.alloc (.cells (cellVals c).toArray 100)).alloc (.cells (cellVals zeroCell).toArray 100)) := ((Nw.refl w).alloc _).alloc _
        have HK6 := K6.out
        clear K3 K6 HEND
        generalize ((w.alloc (.cells (cellVals c).toArray 100)).alloc (.cells (cellVals zeroCell).toArray 100)) = w3 at *
        have HNH := Lib.hid HN3
        have HKH := Lib.hid HK6
        clear HN3 HK6
        -- <R9
        refine start_ (n := 11) (S := fun w' => w'.rangeAt b3 0 (secVals c.s) ∧ w'.rangeAt g (m * 64) (secVals ls)) (ds := [9, 10]) #[false, false, false, false, false, false, false, false, false, false, false] mixed rfl rfl ⟨HS3.out, HR3.out⟩ (fun hHeld => ?_)
        refine pure_ (i := 0) (N := some 43) (v := ?_) (a' := ?_) #[true, false, false, false, false, false, false, false, false, false, false] rfl rfl (by kernel_rfl) (fun _ _ _ h => h) (Or.inl ⟨by rfl, ?_⟩) ?_ ?_
        rotate_left
        · intro w'
          go_simp
          with_reducible rfl
        rotate_left
        · simp only [Act.put, List.setIfInBounds_toArray, List.set_cons_zero, List.set_cons_succ, i64_w, i32_w]
          rfl
        refine pure_ (i := 2) (N := some 45) (v := ?_) (a' := ?_) #[true, false, true, false, false, false, false, false, false, false, false] rfl rfl (by kernel_rfl) (fun _ _ _ h => h) (Or.inl ⟨by rfl, ?_⟩) ?_ ?_
        rotate_left
        · intro w'
          go_simp
          with_reducible rfl
        rotate_left
        · simp only [Act.put, List.setIfInBounds_toArray, List.set_cons_zero, List.set_cons_succ, i64_w, i32_w]
          rfl
        refine pure_ (i := 3) (N := some 46) (v := ?_) (a' := ?_) #[true, false, true, true, false, false, false, false, false, false, false] rfl rfl (by kernel_rfl) (fun _ _ _ h => h) (Or.inl ⟨by rfl, ?_⟩) ?_ ?_
        rotate_left
        · intro w'
          go_simp
          with_reducible rfl
        rotate_left
        · simp only [Act.put, List.setIfInBounds_toArray, List.set_cons_zero, List.set_cons_succ, i64_w, i32_w]
          rfl
        refine pure_ (i := 4) (N := some 47) (v := ?_) (a' := ?_) #[true, false, true, true, true, false, false, false, false, false, false] rfl rfl (by kernel_rfl) (fun _ _ _ h => h) (Or.inl ⟨by rfl, ?_⟩) ?_ ?_
        rotate_left
        · intro w'
          go_simp
          with_reducible rfl
        rotate_left
        · simp only [Act.put, List.setIfInBounds_toArray, List.set_cons_zero, List.set_cons_succ, i64_w, i32_w]
          rfl
        refine pure_ (i := 5) (N := some 48) (v := ?_) (a' := ?_) #[true, false, true, true, true, true, false, false, false, false, false] rfl rfl (by kernel_rfl) (fun _ _ _ h => h) (Or.inl ⟨by rfl, ?_⟩) ?_ ?_
        rotate_left
        · intro w'
          go_simp
          with_reducible rfl
        rotate_left
        · simp only [Act.put, List.setIfInBounds_toArray, List.set_cons_zero, List.set_cons_succ, i64_w, i32_w]
          rfl
        refine take_ (i := 1) (N := some 44) (v := .agg (secVals c.s).toArray) (a' := ?_) #[true, true, true, true, true, true, false, false, false, false, false] rfl rfl (by kernel_rfl) (fun _ _ _ h => h) (Or.inl ⟨by rfl, ?_⟩) hHeld ?_ ?_
        · rintro w' ⟨s0, s1⟩
          exact exl_sec rfl rfl HC.out s0
        rotate_left
        · simp only [Act.put, List.setIfInBounds_toArray, List.set_cons_zero, List.set_cons_succ, i64_w, i32_w]
          rfl
        refine take_ (i := 6) (N := some 49) (v := .agg (secVals ls).toArray) (a' := ?_) #[true, true, true, true, true, true, true, false, false, false, false] rfl rfl (by kernel_rfl) (fun _ _ _ h => h) (Or.inl ⟨by rfl, ?_⟩) hHeld ?_ ?_
        · rintro w' ⟨s0, s1⟩
          exact exl_sec rfl rfl HLS.out s1
        rotate_left
        · simp only [Act.put, List.setIfInBounds_toArray, List.set_cons_zero, List.set_cons_succ, i64_w, i32_w]
          rfl
        refine join_ (σ := Nat × Nat) 2 #[true, true, true, true, true, true, true, true, true, false, false] (fun s => [(9, .pointer (some ⟨s.1, 0, none⟩)), (10, .pointer (some ⟨s.2, 0, none⟩))]) (fun s w' => w' = (w3.drew.alloc (.cells (secVals zeroSec).toArray 29)).alloc (.cells (secVals zeroSec).toArray 29) ∧ (s = (w3.heap.size, w3.heap.size + 1) ∨ s = (w3.heap.size + 1, w3.heap.size))) ?_ ?_
        rotate_left
        · intro hCont
          refine two_ (i := 7) (j := 8) (Ni := some 9) (Nj := some 10) #[true, true, true, true, true, true, true, true, false, false, false] #[true, true, true, true, true, true, true, false, true, false, false] rfl rfl rfl rfl (by kernel_rfl) (by decide) (by decide) (fun K hK => ?_) (fun K hK => ?_)
          · skip
            obtain ⟨s0, s1⟩ := hHeld
            refine value_ (by rfl) rfl (exa_sec rfl) ?_
            refine hK.out _ _ ⟨range_alloc s0 _, range_alloc s1 _⟩ (fun hHeld => ?_)
            clear hK K
            refine norm_ (a' := ?_) ?_ ?_
            rotate_left
            · show Act.put _ (some 9) _ = _
              simp only [Act.put, List.setIfInBounds_toArray, List.set_cons_zero, List.set_cons_succ, i64_w, i32_w]
              rfl
            refine one_ (i := 8) (N := some 10) #[true, true, true, true, true, true, true, true, true, false, false] rfl rfl (by kernel_rfl) (by decide) (fun K hK => ?_)
            obtain ⟨s0, s1⟩ := hHeld
            refine value_ (by rfl) rfl (exa_sec rfl) ?_
            refine hK.out _ _ ⟨range_alloc s0 _, range_alloc s1 _⟩ (fun hHeld => ?_)
            clear hK K
            refine norm_ (a' := ?_) ?_ ?_
            rotate_left
            · show Act.put _ (some 10) _ = _
              simp only [Act.put, List.setIfInBounds_toArray, List.set_cons_zero, List.set_cons_succ, i64_w, i32_w]
              rfl
            exact norm_ (by first | (simp only [putAll, Act.put, List.setIfInBounds_toArray, List.set_cons_zero, List.set_cons_succ]; done) | (simp only [putAll, Act.put, List.setIfInBounds_toArray, List.set_cons_zero, List.set_cons_succ, World.size_alloc]; rfl)) (hCont (w3.heap.size, w3.heap.size + 1) _ ⟨rfl, Or.inl rfl⟩)
          · skip
            obtain ⟨s0, s1⟩ := hHeld
            refine value_ (by rfl) rfl (exa_sec rfl) ?_
            refine hK.out _ _ ⟨range_alloc s0 _, range_alloc s1 _⟩ (fun hHeld => ?_)
            clear hK K
            refine norm_ (a' := ?_) ?_ ?_
            rotate_left
            · show Act.put _ (some 10) _ = _
              simp only [Act.put, List.setIfInBounds_toArray, List.set_cons_zero, List.set_cons_succ, i64_w, i32_w]
              rfl
            refine one_ (i := 7) (N := some 9) #[true, true, true, true, true, true, true, true, true, false, false] rfl rfl (by kernel_rfl) (by decide) (fun K hK => ?_)
            obtain ⟨s0, s1⟩ := hHeld
            refine value_ (by rfl) rfl (exa_sec rfl) ?_
            refine hK.out _ _ ⟨range_alloc s0 _, range_alloc s1 _⟩ (fun hHeld => ?_)
            clear hK K
            refine norm_ (a' := ?_) ?_ ?_
            rotate_left
            · show Act.put _ (some 9) _ = _
              simp only [Act.put, List.setIfInBounds_toArray, List.set_cons_zero, List.set_cons_succ, i64_w, i32_w]
              rfl
            exact norm_ (by first | (simp only [putAll, Act.put, List.setIfInBounds_toArray, List.set_cons_zero, List.set_cons_succ]; done) | (simp only [putAll, Act.put, List.setIfInBounds_toArray, List.set_cons_zero, List.set_cons_succ, World.size_alloc]; rfl)) (hCont (w3.heap.size + 1, w3.heap.size) _ ⟨rfl, Or.inr rfl⟩)
        rintro ⟨a9, a10⟩ w4 ⟨hw4, hord⟩
        obtain ⟨hB9, hB10, hne9, hg9, hg10, hn4⟩ := two_new HNH.out hw4 hord
        have hth9 : w4.there a9 0 64 := sec_there_of_blk zeroSec_ok hB9
        have hb9 := blk_over hB9 (ys := secVals c.s) (by rw [sec64 HC.out, sec64 zeroSec_ok])
        have hb10 : Blk (w4.setCells a9 0 (secVals c.s)) a10 (secVals zeroSec).toArray 29 := (heap_setCells_ne (o := 0) hB9 (secVals c.s) (by rw [List.size_toArray, sec64 HC.out, sec64 zeroSec_ok]; omega) (Ne.symm hne9)).trans hB10
        have HT9 := Lib.hid hth9
        have HT10 := Lib.hid (sec_there_of_blk zeroSec_ok hb10)
        refine norm_ (a' := ?_) ?_ ?_
        rotate_left
        · simp only [putAll, Act.put, List.setIfInBounds_toArray, List.set_cons_zero, List.set_cons_succ]
          rfl
        refine last_ (i := 9) (N := none) #[true, true, true, true, true, true, true, true, true, true, false] rfl rfl (by kernel_rfl) (by decide) (fun K hK => ?_)
        refine skip_ (by rfl) rfl (exs_sec (b := a9) (k := 0) (s := c.s) rfl rfl HC.out rfl HT9.out) ?_
        refine hK.out _ _ ?_
        clear hK K
        refine last_ (i := 10) (N := none) #[true, true, true, true, true, true, true, true, true, true, true] rfl rfl (by kernel_rfl) (by decide) (fun K hK => ?_)
        refine skip_ (by rfl) rfl (exs_sec (b := a10) (k := 0) (s := ls) rfl rfl HLS.out rfl HT10.out) ?_
        refine hK.out _ _ ?_
        clear hK K
        refine done_ (by kernel_rfl) ?_
        -- R9>
        have q9 := heap_setCells_ne (o := 0) hb10 (secVals ls) (by rw [List.size_toArray, sec64 HLS.out, sec64 zeroSec_ok]; omega) hne9
        have k9 : Blk ((w4.setCells a9 0 (secVals c.s)).setCells a10 0 (secVals ls)) a9 (secVals c.s).toArray 29 := q9.trans hb9
        have k10 := blk_over hb10 (ys := secVals ls) (by rw [sec64 HLS.out, sec64 zeroSec_ok])
        have n5 : Nw w ((w4.setCells a9 0 (secVals c.s)).setCells a10 0 (secVals ls)) :=
          (hn4.setCells (o := 0) hB9 (secVals c.s) (by rw [List.size_toArray, sec64 HC.out, sec64 zeroSec_ok]; omega) (Nat.le_trans HNH.out.size hg9)).setCells (o := 0) hb10 (secVals ls) (by rw [List.size_toArray, sec64 HLS.out, sec64 zeroSec_ok]; omega) (Nat.le_trans HNH.out.size hg10)
        have k6 : Blk ((w4.setCells a9 0 (secVals c.s)).setCells a10 0 (secVals ls)) (b3 + 1) (cellVals zeroCell).toArray 100 := by
          have h46 : Blk w4 (b3 + 1) (cellVals zeroCell).toArray 100 := by rw [hw4]; exact ((show Blk w3.drew _ _ _ from HKH.out).alloc _).alloc _
          have n9 : b3 + 1 ≠ a9 := h46.ne hB9 (by decide)
          have n10 : b3 + 1 ≠ a10 := h46.ne hB10 (by decide)
          exact ((heap_setCells_ne (o := 0) hb10 (secVals ls) (by rw [List.size_toArray, sec64 HLS.out, sec64 zeroSec_ok]; omega) n10).trans (heap_setCells_ne (o := 0) hB9 (secVals c.s) (by rw [List.size_toArray, sec64 HC.out, sec64 zeroSec_ok]; omega) n9)).trans h46
        have g9 : w.heap.size ≤ a9 := Nat.le_trans HNH.out.size hg9
        have g10 : w.heap.size ≤ a10 := Nat.le_trans HNH.out.size hg10
        have r5 : ((w4.setCells a9 0 (secVals c.s)).setCells a10 0 (secVals ls)).rangeAt g 0 (manyVals l) := fun j v hj => n5.cell (HR.out j v hj) (fun h => h)
        generalize ((w4.setCells a9 0 (secVals c.s)).setCells a10 0 (secVals ls)) = w5 at *
        have K9 := Lib.hid k9
        have K10 := Lib.hid k10
        have K6 := Lib.hid k6
        have N5 := Lib.hid n5
        have R5 := Lib.hid r5
        have HNE := Lib.hid hne9
        have G9 := Lib.hid g9
        have G10 := Lib.hid g10
        have G6 : Hid (w.heap.size ≤ b3 + 1) := by have := HB3.out; exact Lib.hid (by omega)
        clear hHeld hw4 hord hB9 hB10 hg9 hg10 hn4 hth9 hb9 hb10 HT9 HT10 q9 k10 k6 n5 r5 g9 g10 hne9 HS3 HR3 HRA HKH HNH
        by_cases hm : m = 0
        · have hbf : bf = c.s := by rw [HBE.out, if_neg (by omega)]
          rw [← hbf] at k9 K9
          have hm0 : ¬ ((1 : Int) < (m : Int) + 1) := by omega
          clear hbf HBE hm hlsd HR9 HNE
          go_wp2_with (first
            | (refine go_val rfl (exl_sec (s := bf) (x := .tmp 9) (b := a9) (k := 0) rfl rfl HBF.out (sec_range_of_blk K9.out)) ?_; simp only [Act.put, List.setIfInBounds_toArray, List.set_cons_zero, List.set_cons_succ])
            | (refine go_val rfl (exl_sec (s := ls) (x := .tmp 10) (b := a10) (k := 0) rfl rfl HLS.out (sec_range_of_blk K10.out)) ?_; simp only [Act.put, List.setIfInBounds_toArray, List.set_cons_zero, List.set_cons_succ])
            | (refine go_val rfl (exe_sec (a := bf) (b := ls) (x := .tmp 57) (y := .tmp 58) rfl HBF.out HLS.out rfl rfl) ?_; simp only [Act.put, List.setIfInBounds_toArray, List.set_cons_zero, List.set_cons_succ])
            | (refine go_val rfl (exb_cell (s := ls) rfl HLS.out rfl) ?_; simp only [Act.put, List.setIfInBounds_toArray, List.set_cons_zero, List.set_cons_succ])
            | (refine go_skp rfl (exs_cell (c := ⟨ls, false⟩) (x := .tmp 6) (y := .tmp 61) rfl (b := b3 + 1) (k := 0) rfl HLS.out rfl (cell_there_of_blk (c := zeroCell) zeroSec_ok K6.out)) ?_; simp only [Act.put, List.setIfInBounds_toArray, List.set_cons_zero, List.set_cons_succ]))
          · rename_i heq
            have e65 : (cellVals ⟨ls, false⟩).length = (cellVals zeroCell).length := by rw [cell65 (c := ⟨ls, false⟩) HLS.out, cell65 (c := zeroCell) zeroSec_ok]
            refine bodyPost_ret (results_cell_one (c := ⟨ls, false⟩) rfl _ HLS.out rfl (cell_range_of_blk (blk_over K6.out e65))) rfl ⟨by rw [HTN.out, heq, torn_self rfl], N5.out.setCells (o := 0) K6.out _ (by rw [List.size_toArray, e65]; omega) G6.out⟩
          · have HL32 : Hid (((secVals bf).drop 32).length = 32) := Lib.hid (by rw [List.length_drop, sec64 HBF.out])
            have HRB : Hid (w5.drew.rangeAt a9 32 ((secVals bf).drop 32)) := Lib.hid ((show Blk w5.drew a9 _ _ from K9.out).range 32 _ (fun j _ => by simp))
            have HTB : Hid (w5.drew.there a10 32 32) := Lib.hid ((show Blk w5.drew a10 _ _ from K10.out).there 32 32 (by rw [List.size_toArray, sec64 HLS.out]; omega))
            -- <R14A
            refine start_ (n := 3) (S := fun w' => w'.rangeAt a9 32 ((secVals bf).drop 32) ∧ w'.there a10 32 32) (ds := [2]) #[false, false, false] mixed rfl rfl ⟨HRB.out, HTB.out⟩ (fun hHeld => ?_)
            refine pure_ (i := 0) (N := some 62) (v := ?_) (a' := ?_) #[true, false, false] rfl rfl (by kernel_rfl) (fun _ _ _ h => h) (Or.inl ⟨by rfl, ?_⟩) ?_ ?_
            rotate_left
            · intro w'
              go_simp
              with_reducible rfl
            rotate_left
            · simp only [Act.put, List.setIfInBounds_toArray, List.set_cons_zero, List.set_cons_succ, i64_w, i32_w]
              rfl
            refine pure_ (i := 1) (N := some 63) (v := ?_) (a' := ?_) #[true, true, false] rfl rfl (by kernel_rfl) (fun _ _ _ h => h) (Or.inl ⟨by rfl, ?_⟩) ?_ ?_
            rotate_left
            · intro w'
              go_simp
              with_reducible rfl
            rotate_left
            · simp only [Act.put, List.setIfInBounds_toArray, List.set_cons_zero, List.set_cons_succ, i64_w, i32_w]
              rfl
            refine last_ (i := 2) (N := some 64) #[true, true, true] rfl rfl (by kernel_rfl) (by decide) (fun K hK => ?_)
            obtain ⟨s0, s1⟩ := hHeld
            refine value_ (by rfl) rfl (ex_copy (b := a10) (p := 32) (dLen := 32) (dCap := 32) (sb := a9) (so := 32) (sLen := 32) (sCap := 32) (size := 1) (cs := (secVals bf).drop 32) rfl uByteSlice sByteOne rfl rfl HL32.out s0 (by rw [HL32.out]; exact s1) (fun v hv => secVals_one bf v (List.mem_of_mem_drop hv))) ?_
            refine hK.out _ _ ?_
            clear hK K
            refine norm_ (a' := ?_) ?_ ?_
            rotate_left
            · show Act.put _ (some 64) _ = _
              simp only [Act.put, List.setIfInBounds_toArray, List.set_cons_zero, List.set_cons_succ, i64_w, i32_w]
              rfl
            refine done_ (by kernel_rfl) ?_
            -- R14A>
            have K11 := Lib.hid (torn_blk HLS.out HBF.out (show Blk w5.drew a10 _ _ from K10.out))
            have K12 := Lib.hid ((heap_setCells_ne (o := 32) (show Blk w5.drew a10 _ _ from K10.out) ((secVals bf).drop 32) (by rw [List.size_toArray, sec64 HLS.out, HL32.out]; omega) (Blk.ne K6.out K10.out (by decide))).trans K6.out)
            have N6 := Lib.hid (N5.out.drew.setCells (o := 32) (show Blk w5.drew a10 _ _ from K10.out) ((secVals bf).drop 32) (by rw [List.size_toArray, sec64 HLS.out, HL32.out]; omega) G10.out)
            generalize (w5.drew.setCells a10 32 ((secVals bf).drop 32)) = w6 at *
            rw [← HTN.out] at K11
            go_wp2_with (first
              | (refine go_val rfl (exl_sec (s := tn) (x := .tmp 10) (b := a10) (k := 0) rfl rfl HTO.out (sec_range_of_blk K11.out)) ?_; simp only [Act.put, List.setIfInBounds_toArray, List.set_cons_zero, List.set_cons_succ])
              | (refine go_val rfl (exb_cell (s := tn) rfl HTO.out rfl) ?_; simp only [Act.put, List.setIfInBounds_toArray, List.set_cons_zero, List.set_cons_succ])
              | (refine go_skp rfl (exs_cell (c := ⟨tn, false⟩) (x := .tmp 6) (y := .tmp 66) rfl (b := b3 + 1) (k := 0) rfl HTO.out rfl (cell_there_of_blk (c := zeroCell) zeroSec_ok K12.out)) ?_; simp only [Act.put, List.setIfInBounds_toArray, List.set_cons_zero, List.set_cons_succ]))
            have e65 : (cellVals ⟨tn, false⟩).length = (cellVals zeroCell).length := by rw [cell65 (c := ⟨tn, false⟩) HTO.out, cell65 (c := zeroCell) zeroSec_ok]
            refine bodyPost_ret (results_cell_one (c := ⟨tn, false⟩) rfl _ HTO.out rfl (cell_range_of_blk (blk_over K12.out e65))) rfl ⟨rfl, N6.out.setCells (o := 0) K12.out _ (by rw [List.size_toArray, e65]; omega) G6.out⟩
        · obtain ⟨k, hmk⟩ : ∃ k, m = k + 1 := ⟨m - 1, by omega⟩
          have hbf : bf = l.getD k zeroSec := by rw [HBE.out, if_pos (by omega), show ((m : Int) + 1 - 2).toNat = k from by omega]
          have e7 : wrap64 ((m : Int) + 1 - 2) = (k : Int) := by unfold wrap64; omega
          have e8 : wrap64 ((m : Int) - 1) = (k : Int) := by unfold wrap64; omega
          have e9 : (0 : Int) ≤ k := Int.natCast_nonneg k
          have e10 : (k : Int) < (m : Int) + 1 := by omega
          have R11 := Lib.hid (many_sub HL.out R5.out (i := k) (by rw [HN.out]; omega))
          rw [← hbf, show k = m - 1 from by omega] at R11
          have w64 : (secVals bf).length = (secVals c.s).length := by rw [sec64 HBF.out, sec64 HC.out]
          have K9B := Lib.hid (blk_over K9.out w64)
          have l64 : 0 + (secVals bf).length ≤ (secVals c.s).toArray.size := by rw [List.size_toArray, w64]; omega
          have K10B := Lib.hid ((heap_setCells_ne (o := 0) K9.out (secVals bf) l64 (Ne.symm HNE.out)).trans K10.out)
          have K6B := Lib.hid ((heap_setCells_ne (o := 0) K9.out (secVals bf) l64 (Blk.ne K6.out K9.out (by decide))).trans K6.out)
          have N5B := Lib.hid (N5.out.setCells (o := 0) K9.out (secVals bf) l64 G9.out)
          obtain ⟨w7, hw7⟩ : ∃ w7, w7 = w5.setCells a9 0 (secVals bf) := ⟨_, rfl⟩
          rw [← hw7] at K9B K10B K6B N5B
          have HW7 := Lib.hid hw7
          have hm0 : (1 : Int) < (m : Int) + 1 := by omega
          clear hbf HBE hm hlsd HR9 HNE hw7 w64 l64 k9 hmk
          go_wp2_with (first
            | (refine go_val rfl (exl_sec (s := bf) (x := .tmp 55) (b := g) (k := (m - 1) * 64) rfl rfl HBF.out R11.out) ?_; simp only [Act.put, List.setIfInBounds_toArray, List.set_cons_zero, List.set_cons_succ])
            | (refine go_skp rfl (exs_sec (s := bf) (x := .tmp 9) (y := .tmp 56) rfl (b := a9) (k := 0) rfl HBF.out rfl (sec_there_of_blk HC.out K9.out)) ?_; simp only [Act.put, List.setIfInBounds_toArray, List.set_cons_zero, List.set_cons_succ]; rw [← HW7.out])
            | (refine go_val rfl (exl_sec (s := bf) (x := .tmp 9) (b := a9) (k := 0) rfl rfl HBF.out (sec_range_of_blk K9B.out)) ?_; simp only [Act.put, List.setIfInBounds_toArray, List.set_cons_zero, List.set_cons_succ])
            | (refine go_val rfl (exl_sec (s := ls) (x := .tmp 10) (b := a10) (k := 0) rfl rfl HLS.out (sec_range_of_blk K10B.out)) ?_; simp only [Act.put, List.setIfInBounds_toArray, List.set_cons_zero, List.set_cons_succ])
            | (refine go_val rfl (exe_sec (a := bf) (b := ls) (x := .tmp 57) (y := .tmp 58) rfl HBF.out HLS.out rfl rfl) ?_; simp only [Act.put, List.setIfInBounds_toArray, List.set_cons_zero, List.set_cons_succ])
            | (refine go_val rfl (exb_cell (s := ls) rfl HLS.out rfl) ?_; simp only [Act.put, List.setIfInBounds_toArray, List.set_cons_zero, List.set_cons_succ])
            | (refine go_skp rfl (exs_cell (c := ⟨ls, false⟩) (x := .tmp 6) (y := .tmp 61) rfl (b := b3 + 1) (k := 0) rfl HLS.out rfl (cell_there_of_blk (c := zeroCell) zeroSec_ok K6B.out)) ?_; simp only [Act.put, List.setIfInBounds_toArray, List.set_cons_zero, List.set_cons_succ]))
          · rename_i heq
            have e65 : (cellVals ⟨ls, false⟩).length = (cellVals zeroCell).length := by rw [cell65 (c := ⟨ls, false⟩) HLS.out, cell65 (c := zeroCell) zeroSec_ok]
            refine bodyPost_ret (results_cell_one (c := ⟨ls, false⟩) rfl _ HLS.out rfl (cell_range_of_blk (blk_over K6B.out e65))) rfl ⟨by rw [HTN.out, heq, torn_self rfl], N5B.out.setCells (o := 0) K6B.out _ (by rw [List.size_toArray, e65]; omega) G6.out⟩
          · have HL32 : Hid (((secVals bf).drop 32).length = 32) := Lib.hid (by rw [List.length_drop, sec64 HBF.out])
            have HRB : Hid (w7.drew.rangeAt a9 32 ((secVals bf).drop 32)) := Lib.hid ((show Blk w7.drew a9 _ _ from K9B.out).range 32 _ (fun j _ => by simp))
            have HTB : Hid (w7.drew.there a10 32 32) := Lib.hid ((show Blk w7.drew a10 _ _ from K10B.out).there 32 32 (by rw [List.size_toArray, sec64 HLS.out]; omega))
            -- <R14B
            refine start_ (n := 3) (S := fun w' => w'.rangeAt a9 32 ((secVals bf).drop 32) ∧ w'.there a10 32 32) (ds := [2]) #[false, false, false] mixed rfl rfl ⟨HRB.out, HTB.out⟩ (fun hHeld => ?_)
            refine pure_ (i := 0) (N := some 62) (v := ?_) (a' := ?_) #[true, false, false] rfl rfl (by kernel_rfl) (fun _ _ _ h => h) (Or.inl ⟨by rfl, ?_⟩) ?_ ?_
            rotate_left
            · intro w'
              go_simp
              with_reducible rfl
            rotate_left
            · simp only [Act.put, List.setIfInBounds_toArray, List.set_cons_zero, List.set_cons_succ, i64_w, i32_w]
              rfl
            refine pure_ (i := 1) (N := some 63) (v := ?_) (a' := ?_) #[true, true, false] rfl rfl (by kernel_rfl) (fun _ _ _ h => h) (Or.inl ⟨by rfl, ?_⟩) ?_ ?_
            rotate_left
            · intro w'
              go_simp
              with_reducible rfl
            rotate_left
            · simp only [Act.put, List.setIfInBounds_toArray, List.set_cons_zero, List.set_cons_succ, i64_w, i32_w]
              rfl
            refine last_ (i := 2) (N := some 64) #[true, true, true] rfl rfl (by kernel_rfl) (by decide) (fun K hK => ?_)
            obtain ⟨s0, s1⟩ := hHeld
            refine value_ (by rfl) rfl (ex_copy (b := a10) (p := 32) (dLen := 32) (dCap := 32) (sb := a9) (so := 32) (sLen := 32) (sCap := 32) (size := 1) (cs := (secVals bf).drop 32) rfl uByteSlice sByteOne rfl rfl HL32.out s0 (by rw [HL32.out]; exact s1) (fun v hv => secVals_one bf v (List.mem_of_mem_drop hv))) ?_
            refine hK.out _ _ ?_
            clear hK K
            refine norm_ (a' := ?_) ?_ ?_
            rotate_left
            · show Act.put _ (some 64) _ = _
              simp only [Act.put, List.setIfInBounds_toArray, List.set_cons_zero, List.set_cons_succ, i64_w, i32_w]
              rfl
            refine done_ (by kernel_rfl) ?_
            -- R14B>
            have K11 := Lib.hid (torn_blk HLS.out HBF.out (show Blk w7.drew a10 _ _ from K10B.out))
            have K12 := Lib.hid ((heap_setCells_ne (o := 32) (show Blk w7.drew a10 _ _ from K10B.out) ((secVals bf).drop 32) (by rw [List.size_toArray, sec64 HLS.out, HL32.out]; omega) (Blk.ne K6B.out K10B.out (by decide))).trans K6B.out)
            have N6 := Lib.hid (N5B.out.drew.setCells (o := 32) (show Blk w7.drew a10 _ _ from K10B.out) ((secVals bf).drop 32) (by rw [List.size_toArray, sec64 HLS.out, HL32.out]; omega) G10.out)
            generalize (w7.drew.setCells a10 32 ((secVals bf).drop 32)) = w6 at *
            rw [← HTN.out] at K11
            go_wp2_with (first
              | (refine go_val rfl (exl_sec (s := tn) (x := .tmp 10) (b := a10) (k := 0) rfl rfl HTO.out (sec_range_of_blk K11.out)) ?_; simp only [Act.put, List.setIfInBounds_toArray, List.set_cons_zero, List.set_cons_succ])
              | (refine go_val rfl (exb_cell (s := tn) rfl HTO.out rfl) ?_; simp only [Act.put, List.setIfInBounds_toArray, List.set_cons_zero, List.set_cons_succ])
              | (refine go_skp rfl (exs_cell (c := ⟨tn, false⟩) (x := .tmp 6) (y := .tmp 66) rfl (b := b3 + 1) (k := 0) rfl HTO.out rfl (cell_there_of_blk (c := zeroCell) zeroSec_ok K12.out)) ?_; simp only [Act.put, List.setIfInBounds_toArray, List.set_cons_zero, List.set_cons_succ]))
            have e65 : (cellVals ⟨tn, false⟩).length = (cellVals zeroCell).length := by rw [cell65 (c := ⟨tn, false⟩) HTO.out, cell65 (c := zeroCell) zeroSec_ok]
            refine bodyPost_ret (results_cell_one (c := ⟨tn, false⟩) rfl _ HTO.out rfl (cell_range_of_blk (blk_over K12.out e65))) rfl ⟨rfl, N6.out.setCells (o := 0) K12.out _ (by rw [List.size_toArray, e65]; omega) G6.out⟩
end
end Go.Proofs.Ytcaalfpfkalalaa
