/- The walk of a disk's Sync. -/
import Derived.Test.YtcaalfpfkalalaaB3
import Derived.Deep.CutRange
set_option linter.unusedVariables false
set_option linter.unusedSimpArgs false
set_option maxRecDepth 10000
namespace Go.Proofs.Ytcaalfpfkalalaa
open Go.RowKit Qd
open Go.Proofs.YtcaalfpfkalalaaW.PrintLast
section
variable {w : World} {p bc bm : Nat} {f : Int → Option Value} {d : Disk} {S : Nat → Prop} {i : Int}
theorem check_zero (h : d.Ok) : d.check 0 = if d.dead = true then 12 else 0 := by
  unfold Disk.check
  split
  · rfl
  · have := h.pos
    rw [if_neg (by omega)]
theorem sync_calls (h : DiskIn w S p d) (hst : d.steps < 1099511627775) : Calls Try.prog 23 #[.pointer (some ⟨p, 0, none⟩)] w fun e w' =>
    e = .returned (.int .i64 d.sync.2) ∧ DiskIn w' S p d.sync.1 ∧ Turn S w S w' := by
  unfold Disk.sync
  have HC := Lib.hid (check_calls h 0)
  rw [check_zero h.ok] at HC
  by_cases hd : d.dead = true
  · rw [if_pos hd] at HC ⊢
    have HH := Lib.hid h
    clear h hd
    go_enter Try.func23, Try.ntmps23
    go_wp2_with (go_at_call 34; refine HC.out.mono ?_; rintro e w' ⟨rfl, rfl⟩)
    go_ret
    exact ⟨rfl, HH.out, Turn.refl _ _⟩
  · rw [if_neg hd] at HC ⊢
    have HS := Lib.hid (step_calls h (by omega))
    by_cases ha : d.after = 0
    · rw [if_pos ha]
      have e1 : d.step = ({ d with dead := true }, 12) := by unfold Disk.step; rw [if_pos ha]
      rw [e1] at HS
      clear h hd ha e1
      go_enter Try.func23, Try.ntmps23
      go_wp2_with (first
        | (go_at_call 34; refine HC.out.mono ?_; rintro e w' ⟨rfl, rfl⟩)
        | (go_at_call 35; refine HS.out.mono ?_; rintro e w' ⟨rfl, hd1, ht1⟩))
      go_ret
      exact ⟨rfl, by assumption, by assumption⟩
    · rw [if_neg ha]
      have e1 : d.step.2 = 0 := by unfold Disk.step; rw [if_neg ha]
      rw [e1] at HS
      generalize d.step.1 = d1 at *
      clear h hd ha e1
      go_enter Try.func23, Try.ntmps23
      go_upto_region 6 with (first
        | (go_at_call 34; refine HC.out.mono ?_; rintro e w' ⟨rfl, rfl⟩)
        | (go_at_call 35; refine HS.out.mono ?_; rintro e w2 ⟨rfl, hd1, ht1⟩))
      have hSp := hd1.pos
      obtain ⟨bc, bm, f, ha, hs⟩ := hd1
      have hok := Lib.hid ha.ok
      have HM := Lib.hid ha.map
      have c1 := ha.c1
      have HA := Lib.hid ha
      have HSF := Lib.hid hs
      clear ha hs
      go_wp2_with (refine go_val_ex rfl (ex_range (x := .tmp 18) (bm := bm) (f := f) rfl uOpen rfl HM.out) ?_; rintro v w3 ⟨cnt, rfl, hrg, hg3, hz3⟩; go_frame)
      have hA3 := HA.out.same (w' := w3) (fun b hb => hg3.block b (HA.out.foot_lt hb) (by simp))
      go_loopw [4] (fun _ wr => ∃ (f' : Int → Option Value) (done : Nat → Bool) (cnt : Nat), RangeIs wr bm w2.heap.size f' (fun k => (f' k).isSome) cnt ∧ DiskAt wr p bc bm f' (d1.part done) ∧ Turn S w2 S wr ∧
          (∀ k : Nat, f' (k : Int) = if done k = true then none else f k))
        (fun _ wr => wr.rangeLeft bm w2.heap.size)
      case atStart => exact ⟨f, fun _ => false, cnt, hrg, by rw [Disk.part_none]; exact hA3, Turn.of_grown hg3 (fun k e => by cases e), fun k => by simp⟩
      case round =>
        obtain ⟨f', done, cnt', hrg', hda', ht', hf'⟩ := hrel
        have hft : ∀ b, DiskFoot p bc bm f' b → DiskFoot p bc bm f b := fun b hb => by
          rcases hb with h5 | h5 | h5 | ⟨x, u, hx, hu⟩
          · exact Or.inl h5
          · exact Or.inr (Or.inl h5)
          · exact Or.inr (Or.inr (Or.inl h5))
          · obtain ⟨y, rfl⟩ := Int.eq_ofNat_of_zero_le (hda'.f_row hx).1
            rw [hf' y] at hx
            split at hx
            · cases hx
            · exact Or.inr (Or.inr (Or.inr ⟨_, u, hx, hu⟩))
        have HLE := Lib.hid hrg'.left_eq
        have HDA := Lib.hid hda'
        have HFT := Lib.hid hft
        have HF := Lib.hid hf'
        have HT' := Lib.hid ht'
        clear hda' hft hf' ht' hA3 hrg hg3 hz3
        go_wp2_with (refine go_next (x := .tmp 19) rfl rfl rfl hrg' ?_ ?_)
        · intro hl0
          have HL := Lib.hid hl0
          clear hl0 hrg'
          go_wp2
          go_ret
          have hn : ∀ x, f' x = none := fun x => by have := HL.out x; simpa using this
          have e2 : d1.part done = d1.flush := Disk.part_flush (fun x hx => by
            by_cases ho : d1.opn x = []
            · exact ho
            · obtain ⟨v, hv, _⟩ := HA.out.some' (x : Int) (by omega) (by rw [Int.toNat_natCast]; exact ho)
              have := HF.out x
              rw [hn, hx, if_neg (by simp), hv] at this
              cases this)
          rw [← e2]
          exact ⟨rfl, ⟨bc, bm, f', HDA.out, fun b hb => HSF.out b (HFT.out b hb)⟩, ht1.trans HT'.out⟩
        · intro k v w1 cnt1 hlk hfk hrg1 hlt hg1 hz1 hen
          obtain ⟨hk0, hne, hown⟩ := HDA.out.f_row hfk
          obtain ⟨k, rfl⟩ := Int.eq_ofNat_of_zero_le hk0
          rw [Int.toNat_natCast] at hne hown
          have hkd : done k = false := by
            have := HF.out k
            rw [hfk] at this
            cases hd : done k with
            | false => rfl
            | true => rw [hd, if_pos rfl] at this; cases this
          have hop : (d1.part done).opn k = d1.opn k := by simp [Disk.part, hkd]
          rw [hop] at hne hown
          have hlen : (d1.part done).cells.length = d1.cells.length := by simp [Disk.part]
          have hkl : k < d1.cells.length := by
            rcases Nat.lt_or_ge k d1.cells.length with h5 | h5
            · exact h5
            · exact absurd (hok.out.out k h5) hne
          have hd1a := HDA.out.same (w' := w1) (fun b hb => hg1.block b (HDA.out.foot_lt hb) (fun e => by injection e with e; have := HA.out.foot_lt (HFT.out b hb); omega))
          obtain ⟨q, hq⟩ : ∃ q, (d1.opn k).length = q + 1 := ⟨(d1.opn k).length - 1, by have := List.length_pos_iff.2 hne; omega⟩
          obtain ⟨g, cap, rfl⟩ := own_form hown (by omega)
          have hmx := own_max hown
          have hown1 := ownsRow_same (w' := w1) hown (fun b hb => hg1.block b (by obtain ⟨cs, hc⟩ := ownsRow_heap hown hb; exact hc.lt) (fun e => by
            injection e with e
            have := HA.out.foot_lt (HFT.out b (Or.inr (Or.inr (Or.inr ⟨_, _, hfk, hb⟩)))); omega))
          have hrs := many_range (hok.out.opnOk k) hown1 (i := q) (by omega)
          have hls : (d1.opn k).getD q zeroSec = lastSec (d1.opn k) := by rw [lastSec_getD hne, hq]; rfl
          rw [hls] at hrs
          have hset : d1.settled k = ⟨lastSec (d1.opn k), false⟩ := by unfold Disk.settled; rw [if_pos hne]
          have hsec := lastSec_ok (hok.out.opnOk k)
          have hth := row_there hd1a (i := k) (by rw [hlen]; exact hkl)
          have hd1b : DiskAt w1.drew p bc bm f' (d1.part done) := hd1a.same (fun _ _ => rfl)
          have hput := hd1b.put (i := k) (by rw [hlen]; exact hkl) (c := ⟨lastSec (d1.opn k), false⟩) hsec (by simp)
          have hptn := put_turn (S := fun x => x = bc) hd1b (i := k) (by rw [hlen]; exact hkl) (c := ⟨lastSec (d1.opn k), false⟩) hsec rfl
          have hstep := Disk.part_step (d := d1) (done := done) hkl
          rw [hset] at hstep
          have c0 := hd1a.c0
          have hkl2 : (k : Int) < ((d1.part done).cells.length : Int) := by rw [hlen]; omega
          have hml := hd1a.ok.len
          have HR := Lib.hid hrs
          have HT := Lib.hid hth
          have HP := Lib.hid hput
          have HPT := Lib.hid hptn
          have HSTEP := Lib.hid hstep
          have HRG := Lib.hid hrg1
          have hrow1 := Lib.hid hd1a.row
          have HFK := Lib.hid hfk
          rw [hq] at hmx hen ⊢
          have HG1 := Lib.hid hg1
          have HZ1 := Lib.hid hz1
          generalize (d1.part done).cells.length = m at *
          generalize lastSec (d1.opn k) = s at *
          clear hrs hth hput hptn hstep hrg1 hd1a hd1b hown hown1 hls hset hne hop hlen hq hkd hlk hfk hrg' hkl HM c1 HFK hg1 hz1
          have hwq : wrap64 (q : Int) = (q : Int) := by unfold wrap64; omega
          have hwq2 : (q : Int) < (q : Int) + 1 := by omega
          go_wp2
          -- <S9
          refine start_ (n := 14) (S := fun w' => w'.cell? ⟨p, 0, none⟩ = some (.slice (some ⟨bc, 0, none⟩) m m) ∧ w'.rangeAt g (q * 64) (secVals s)) (ds := [13]) #[false, false, false, false, false, false, false, false, false, false, false, false, false, false] mixed rfl rfl ⟨c0, HR.out⟩ (fun hHeld => ?_)
          refine pure_ (i := 0) (N := some 25) (v := ?_) (a' := ?_) #[true, false, false, false, false, false, false, false, false, false, false, false, false, false] rfl rfl (by kernel_rfl) (fun _ _ _ h => h) (Or.inl ⟨by rfl, ?_⟩) ?_ ?_
          rotate_left
          · intro w'
            go_simp
            with_reducible rfl
          rotate_left
          · simp only [Act.put, List.setIfInBounds_toArray, List.set_cons_zero, List.set_cons_succ, i64_w, i32_w]
            rfl
          refine pure_ (i := 1) (N := some 26) (v := ?_) (a' := ?_) #[true, true, false, false, false, false, false, false, false, false, false, false, false, false] rfl rfl (by kernel_rfl) (fun _ _ _ h => h) (Or.inl ⟨by rfl, ?_⟩) ?_ ?_
          rotate_left
          · intro w'
            go_simp
            with_reducible rfl
          rotate_left
          · simp only [Act.put, List.setIfInBounds_toArray, List.set_cons_zero, List.set_cons_succ, i64_w, i32_w]
            rfl
          refine pure_ (i := 2) (N := some 27) (v := ?_) (a' := ?_) #[true, true, true, false, false, false, false, false, false, false, false, false, false, false] rfl rfl (by kernel_rfl) (fun _ _ _ h => h) (Or.inl ⟨by rfl, ?_⟩) ?_ ?_
          rotate_left
          · intro w'
            go_simp
            with_reducible rfl
          rotate_left
          · simp only [Act.put, List.setIfInBounds_toArray, List.set_cons_zero, List.set_cons_succ, i64_w, i32_w]
            rfl
          refine pure_ (i := 4) (N := some 29) (v := ?_) (a' := ?_) #[true, true, true, false, true, false, false, false, false, false, false, false, false, false] rfl rfl (by kernel_rfl) (fun _ _ _ h => h) (Or.inl ⟨by rfl, ?_⟩) ?_ ?_
          rotate_left
          · intro w'
            go_simp
            with_reducible rfl
          rotate_left
          · simp only [Act.put, List.setIfInBounds_toArray, List.set_cons_zero, List.set_cons_succ, i64_w, i32_w]
            rfl
          refine pure_ (i := 5) (N := some 30) (v := ?_) (a' := ?_) #[true, true, true, false, true, true, false, false, false, false, false, false, false, false] rfl rfl (by kernel_rfl) (fun _ _ _ h => h) (Or.inl ⟨by rfl, ?_⟩) ?_ ?_
          rotate_left
          · intro w'
            go_simp
            with_reducible rfl
          rotate_left
          · simp only [Act.put, List.setIfInBounds_toArray, List.set_cons_zero, List.set_cons_succ, i64_w, i32_w]
            rfl
          refine pure_ (i := 6) (N := some 31) (v := ?_) (a' := ?_) #[true, true, true, false, true, true, true, false, false, false, false, false, false, false] rfl rfl (by kernel_rfl) (fun _ _ _ h => h) (Or.inl ⟨by rfl, ?_⟩) ?_ ?_
          rotate_left
          · intro w'
            go_simp
            with_reducible rfl
          rotate_left
          · simp only [Act.put, List.setIfInBounds_toArray, List.set_cons_zero, List.set_cons_succ, i64_w, i32_w]
            rfl
          refine pure_ (i := 7) (N := some 32) (v := ?_) (a' := ?_) #[true, true, true, false, true, true, true, true, false, false, false, false, false, false] rfl rfl (by kernel_rfl) (fun _ _ _ h => h) (Or.inl ⟨by rfl, ?_⟩) ?_ ?_
          rotate_left
          · intro w'
            go_simp
            with_reducible rfl
          rotate_left
          · simp only [Act.put, List.setIfInBounds_toArray, List.set_cons_zero, List.set_cons_succ, i64_w, i32_w]
            rfl
          refine pure_ (i := 8) (N := some 33) (v := ?_) (a' := ?_) #[true, true, true, false, true, true, true, true, true, false, false, false, false, false] rfl rfl (by kernel_rfl) (fun _ _ _ h => h) (Or.inl ⟨by rfl, ?_⟩) ?_ ?_
          rotate_left
          · intro w'
            go_simp
            with_reducible rfl
          rotate_left
          · simp only [Act.put, List.setIfInBounds_toArray, List.set_cons_zero, List.set_cons_succ, i64_w, i32_w]
            rfl
          refine pure_ (i := 9) (N := some 34) (v := ?_) (a' := ?_) #[true, true, true, false, true, true, true, true, true, true, false, false, false, false] rfl rfl (by kernel_rfl) (fun _ _ _ h => h) (Or.inl ⟨by rfl, ?_⟩) ?_ ?_
          rotate_left
          · intro w'
            go_simp
            with_reducible rfl
          rotate_left
          · simp only [Act.put, List.setIfInBounds_toArray, List.set_cons_zero, List.set_cons_succ, i64_w, i32_w]
            rfl
          refine take_ (i := 3) (N := some 28) (v := ?_) (a' := ?_) #[true, true, true, true, true, true, true, true, true, true, false, false, false, false] rfl rfl (by kernel_rfl) (fun _ _ _ h => h) (Or.inl ⟨by rfl, ?_⟩) hHeld ?_ ?_
          rotate_left
          · rintro w' ⟨s0, s1⟩
            go_simp
            with_reducible rfl
          rotate_left
          · simp only [Act.put, List.setIfInBounds_toArray, List.set_cons_zero, List.set_cons_succ, i64_w, i32_w]
            rfl
          refine take_ (i := 10) (N := some 35) (v := .agg (secVals s).toArray) (a' := ?_) #[true, true, true, true, true, true, true, true, true, true, true, false, false, false] rfl rfl (by kernel_rfl) (fun _ _ _ h => h) (Or.inl ⟨by rfl, ?_⟩) hHeld ?_ ?_
          · rintro w' ⟨s0, s1⟩
            exact exl_sec rfl rfl hsec s1
          rotate_left
          · simp only [Act.put, List.setIfInBounds_toArray, List.set_cons_zero, List.set_cons_succ, i64_w, i32_w]
            rfl
          refine one_ (i := 11) (N := some 36) #[true, true, true, true, true, true, true, true, true, true, true, true, false, false] rfl rfl (by kernel_rfl) (by decide) (fun K hK => ?_)
          obtain ⟨s0, s1⟩ := hHeld
          refine value_ (by rfl) rfl (exb_cell rfl hsec rfl) ?_
          refine hK.out _ _ ⟨s0, s1⟩ (fun hHeld => ?_)
          clear hK K
          refine norm_ (a' := ?_) ?_ ?_
          rotate_left
          · show Act.put _ (some 36) _ = _
            simp only [Act.put, List.setIfInBounds_toArray, List.set_cons_zero, List.set_cons_succ, i64_w, i32_w]
            rfl
          refine pure_ (i := 12) (N := some 37) (v := ?_) (a' := ?_) #[true, true, true, true, true, true, true, true, true, true, true, true, true, false] rfl rfl (by kernel_rfl) (fun _ _ _ h => h) (Or.inl ⟨by rfl, ?_⟩) ?_ ?_
          rotate_left
          · intro w'
            go_simp
            with_reducible rfl
          rotate_left
          · simp only [Act.put, List.setIfInBounds_toArray, List.set_cons_zero, List.set_cons_succ, i64_w, i32_w]
            rfl
          refine last_ (i := 13) (N := none) #[true, true, true, true, true, true, true, true, true, true, true, true, true, true] rfl rfl (by kernel_rfl) (by decide) (fun K hK => ?_)
          obtain ⟨s0, s1⟩ := hHeld
          refine skip_ex (C := fun x => x = World.setCells w1.drew bc (k * 65) (cellVals ⟨s, false⟩)) (by rfl) rfl ⟨_, exs_cell (b := bc) (k := k * 65) (c := ⟨s, false⟩) rfl rfl hsec rfl HT.out, rfl⟩ ?_
          rintro w4 hw4
          refine hK.out _ _ ?_
          clear hK K
          refine done_ (by kernel_rfl) ?_
          -- S9>
          have hP := HP.out
          have hPT := HPT.out
          rw [← hw4] at hP hPT
          have hbc : Blk w1.drew bc (rowVals (d1.part done).cells).toArray 100 := hrow1.out
          have hrg4 := HRG.out.same (w' := w4) (hPT.block bm HRG.out.map.lt (fun e => HRG.out.map.noCells (by rw [e]; exact hrow1.out))) (hPT.block _ HRG.out.lt (fun e => by
            obtain ⟨_, _, _, _, _, _, _, _, hr, _⟩ := HRG.out
            rw [e] at hr
            have := hr.symm.trans hrow1.out
            cases this))
          have c1 := hP.c1
          have HP4 := Lib.hid hP
          have HPT4 := Lib.hid hPT
          have HRG4 := Lib.hid hrg4
          clear hP hPT hbc hrg4 hw4 HP HPT hwq hwq2 hen c0
          go_wp2_with (refine go_val_ex rfl (ex_del_range (x := .tmp 41) (y := .tmp 42) (bm := bm) (k := (k : Int)) rfl uOpen uInt rfl rfl HRG4.out) ?_; rintro _ w5 ⟨cnt2, hrg5, hle, hg5, hz5⟩; go_frame)
          have hbmS : S bm := HSF.out bm (Or.inr (Or.inr (Or.inl rfl)))
          have hbcS : S bc := HSF.out bc (Or.inr (Or.inl rfl))
          have e3 : (fun x => ((f' x).isSome && x != (k : Int)) && x != (k : Int)) = fun x => ((fun x => if x = (k : Int) then none else f' x) x).isSome := by
            funext x
            by_cases hx : x = (k : Int)
            · simp [hx]
            · simp [hx]
          rw [e3] at hrg5
          have hd5 := HP4.out.dropped (w' := w5) hrg5.map (fun b hb hne => hg5.block b hb (fun e => hne (by injection e)))
          have e4 := HSTEP.out
          rw [show ({ d1.part done with cells := (d1.part done).cells.set k ⟨s, false⟩ } : Disk).drop k = d1.part (fun x => done x || x == k) from e4] at hd5
          have hg1 := HG1.out
          have hT2 := HT'.out
          have h21 : Turn S w2 S w1 := ⟨hg1.os.trans hT2.os, hg1.tape.trans hT2.tape, hg1.output.trans hT2.output, Nat.le_trans hT2.size hg1.size,
            fun b hb hnb => (hg1.block b (Nat.lt_of_lt_of_le hb hT2.size) (fun e => by injection e with e; omega)).trans (hT2.block b hb hnb), fun _ h => Or.inl h⟩
          refine ⟨⟨_, fun x => done x || x == k, cnt2, hrg5, hd5, (h21.trans (Turn.drew S w1)).trans (((HPT4.out.more (S0 := S) (fun b e => by rw [e]; exact hbcS) (fun b e => Or.inl (by rw [e]; exact hbcS))).less (S1 := S) (fun b hb => Or.inr (Or.inl hb))).trans (Turn.of_grown hg5 (fun b e => by injection e with e; subst e; exact hbmS))), fun x => ?_⟩, ?_⟩
          · have := HF.out x
            by_cases hx : x = k
            · subst hx; simp
            · have hx' : ¬ ((x : Int) = (k : Int)) := by omega
              simp only [hx', if_false, this]
              simp [hx]
          · rw [hrg5.left_eq, HLE.out]; omega
end
end Go.Proofs.Ytcaalfpfkalalaa
