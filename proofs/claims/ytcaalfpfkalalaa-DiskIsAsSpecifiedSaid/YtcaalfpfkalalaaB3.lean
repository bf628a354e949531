/- The walk of a disk's Write. -/
import Derived.Test.YtcaalfpfkalalaaB2
set_option linter.unusedVariables false
set_option linter.unusedSimpArgs false
set_option maxRecDepth 10000
namespace Go.Proofs.Ytcaalfpfkalalaa
open Go.RowKit Qd
open Go.Proofs.YtcaalfpfkalalaaW.PrintLast
section
variable {w : World} {p bc bm : Nat} {f : Int → Option Value} {d : Disk} {S : Nat → Prop} {i : Int}
theorem write_tight (h : DiskIn w S p d) (hlt : ∀ b, S b → b < w.heap.size) (i : Int) {s : Sec} (hsec : SecOk s) (hst : d.steps < 1099511627775) : Calls Try.prog 10 #[.pointer (some ⟨p, 0, none⟩), .int .i64 i, .agg (secVals s).toArray] w fun e w' =>
    e = .returned (.int .i64 (d.write i s).2) ∧ ∃ S', DiskIn w' S' p (d.write i s).1 ∧ Turn S w S' w' := by
  unfold Disk.write
  by_cases hc : d.check i = 0
  · obtain ⟨hdead, h0, h1⟩ := check_in hc
    obtain ⟨k, rfl⟩ := Int.eq_ofNat_of_zero_le h0
    rw [if_neg (by rw [hc]; simp), Int.toNat_natCast]
    have HC : ∀ o, Hid (Calls Try.prog 34 #[.pointer (some ⟨p, 0, none⟩), .int .i64 k] (w.alloc o) fun e w' => e = .returned (.int .i64 0) ∧ w' = w.alloc o) := fun o => by
      have := check_calls (h.alloc o) k
      rw [hc] at this; exact this
    have HS : ∀ o, Hid (Calls Try.prog 35 #[.pointer (some ⟨p, 0, none⟩)] (w.alloc o) fun e w' => e = .returned (.int .i64 d.step.2) ∧ DiskIn w' S p d.step.1 ∧ Turn S (w.alloc o) S w') := fun o => step_calls (h.alloc o) (by omega)
    by_cases ha : d.after = 0
    · rw [if_pos ha]
      have e1 : d.step = ({ d with dead := true }, 12) := by unfold Disk.step; rw [if_pos ha]
      rw [e1] at HS
      clear hc h ha e1
      go_enter Try.func10, Try.ntmps10
      go_wp2_with (first
        | (go_at_call 34; refine (HC _).out.mono ?_; rintro e w' ⟨rfl, rfl⟩)
        | (go_at_call 35; refine (HS _).out.mono ?_; rintro e w' ⟨rfl, hd1, ht1⟩)
        | (refine go_val rfl (ex_box rfl (cs := secVals s) rfl) ?_))
      go_ret
      exact ⟨rfl, S, by assumption, (Turn.alloc _ _ _).trans (by assumption)⟩
    · rw [if_neg ha]
      have e1 : d.step.2 = 0 := by unfold Disk.step; rw [if_neg ha]
      have hokw := h.ok.write k hsec
      have e2 : (d.write k s).1 = d.step.1.push k s := by unfold Disk.write; rw [if_neg (by rw [hc]; simp), if_neg ha, Int.toNat_natCast]
      rw [e2] at hokw
      have hlen := h.ok.opnLen k
      have hstp : d.step.1.steps = d.steps + 1 := Disk.step_steps ha
      have hop : d.step.1.opn = d.opn := Disk.step_opn
      rw [e1] at HS
      have HLT := Lib.hid hlt
      have HOK := Lib.hid hokw
      have HLEN := Lib.hid (show (d.step.1.opn k).length < 1099511627776 by rw [hop]; omega)
      generalize d.step.1 = d1 at *
      clear hc h ha e1 e2 hokw hstp hop hlen hdead hlt
      go_enter Try.func10, Try.ntmps10
      go_wp2_with (first
        | (go_at_call 34; refine (HC _).out.mono ?_; rintro e w' ⟨rfl, rfl⟩)
        | (go_at_call 35; refine (HS _).out.mono ?_; rintro e w2 ⟨rfl, hd1, ht1⟩)
        | (refine go_val rfl (ex_box rfl (cs := secVals s) rfl) ?_))
      have hSp := hd1.pos
      obtain ⟨bc, bm, f, ha, hs⟩ := hd1
      obtain ⟨b5, hb5⟩ : ∃ b, b = w.heap.size := ⟨_, rfl⟩
      have c1 := ha.c1
      have HM := Lib.hid ha.map
      have hB := (Blk.new w (secVals s).toArray 29).turn ht1 (fun e => Nat.lt_irrefl _ (HLT.out _ e))
      rw [← hb5] at hB ⊢
      have HB := Lib.hid hB
      have HB5 := Lib.hid hb5
      obtain ⟨v, hv, hr⟩ : ∃ v, (f (k : Int)).getD (.slice none 0 0) = v ∧ w2.ownsRow 0 29 64 v (d1.opn k).length (manyVals (d1.opn k)) := by
        by_cases ho : d1.opn k = []
        · exact ⟨.slice none 0 0, by rw [ha.none' (k : Int) (Or.inr (by rw [Int.toNat_natCast]; exact ho))]; rfl, by rw [ho]; exact World.ownsRow_nil _ _ _ _⟩
        · obtain ⟨v, hv, hr⟩ := ha.some' (k : Int) h0 (by rw [Int.toNat_natCast]; exact ho)
          rw [Int.toNat_natCast] at hr
          exact ⟨v, by rw [hv]; rfl, hr⟩
      have HNP : Hid (some p ≠ v.ownBlock) := fun e => by
        obtain ⟨cs, hc⟩ := ownsRow_heap hr e.symm
        exact absurd rfl (hc.ne ha.obj (by decide))
      have HN5 : Hid (some b5 ≠ v.ownBlock) := fun e => by
        cases hf : f (k : Int) with
        | none => rw [hf] at hv; simp at hv; subst hv; simp [Value.ownBlock] at e
        | some u =>
          rw [hf] at hv; simp at hv; subst hv
          have := HLT.out _ (hs b5 (Or.inr (Or.inr (Or.inr ⟨_, _, hf, e.symm⟩))))
          omega
      have HNE : Hid (some bm ≠ v.ownBlock) := fun e => by
        obtain ⟨cs, hc⟩ := ownsRow_heap hr e.symm
        exact ha.map.noCells hc
      have HV := Lib.hid hv
      have HR := Lib.hid hr
      have hnb := HLEN.out
      have HA := Lib.hid ha
      clear hB hr hv ha hb5
      -- <W5
      refine start_ (n := 15) (S := fun w' => w'.cell? ⟨p, 1, none⟩ = some (.map (some bm)) ∧ MapIs w' bm f ∧ Blk w' b5 (secVals s).toArray 29) (ds := [14]) #[false, false, false, false, false, false, false, false, false, false, false, false, false, false, false] mixed rfl rfl ⟨c1, HM.out, HB.out⟩ (fun hHeld => ?_)
      refine pure_ (i := 0) (N := some 17) (v := ?_) (a' := ?_) #[true, false, false, false, false, false, false, false, false, false, false, false, false, false, false] rfl rfl (by kernel_rfl) (fun _ _ _ h => h) (Or.inl ⟨by rfl, ?_⟩) ?_ ?_
      rotate_left
      · intro w'
        go_simp
        with_reducible rfl
      rotate_left
      · simp only [Act.put, List.setIfInBounds_toArray, List.set_cons_zero, List.set_cons_succ, i64_w, i32_w]
        rfl
      refine pure_ (i := 1) (N := some 18) (v := ?_) (a' := ?_) #[true, true, false, false, false, false, false, false, false, false, false, false, false, false, false] rfl rfl (by kernel_rfl) (fun _ _ _ h => h) (Or.inl ⟨by rfl, ?_⟩) ?_ ?_
      rotate_left
      · intro w'
        go_simp
        with_reducible rfl
      rotate_left
      · simp only [Act.put, List.setIfInBounds_toArray, List.set_cons_zero, List.set_cons_succ, i64_w, i32_w]
        rfl
      refine pure_ (i := 2) (N := some 19) (v := ?_) (a' := ?_) #[true, true, true, false, false, false, false, false, false, false, false, false, false, false, false] rfl rfl (by kernel_rfl) (fun _ _ _ h => h) (Or.inl ⟨by rfl, ?_⟩) ?_ ?_
      rotate_left
      · intro w'
        go_simp
        with_reducible rfl
      rotate_left
      · simp only [Act.put, List.setIfInBounds_toArray, List.set_cons_zero, List.set_cons_succ, i64_w, i32_w]
        rfl
      refine pure_ (i := 4) (N := some 21) (v := ?_) (a' := ?_) #[true, true, true, false, true, false, false, false, false, false, false, false, false, false, false] rfl rfl (by kernel_rfl) (fun _ _ _ h => h) (Or.inl ⟨by rfl, ?_⟩) ?_ ?_
      rotate_left
      · intro w'
        go_simp
        with_reducible rfl
      rotate_left
      · simp only [Act.put, List.setIfInBounds_toArray, List.set_cons_zero, List.set_cons_succ, i64_w, i32_w]
        rfl
      refine pure_ (i := 5) (N := some 22) (v := ?_) (a' := ?_) #[true, true, true, false, true, true, false, false, false, false, false, false, false, false, false] rfl rfl (by kernel_rfl) (fun _ _ _ h => h) (Or.inl ⟨by rfl, ?_⟩) ?_ ?_
      rotate_left
      · intro w'
        go_simp
        with_reducible rfl
      rotate_left
      · simp only [Act.put, List.setIfInBounds_toArray, List.set_cons_zero, List.set_cons_succ, i64_w, i32_w]
        rfl
      refine pure_ (i := 6) (N := some 23) (v := ?_) (a' := ?_) #[true, true, true, false, true, true, true, false, false, false, false, false, false, false, false] rfl rfl (by kernel_rfl) (fun _ _ _ h => h) (Or.inl ⟨by rfl, ?_⟩) ?_ ?_
      rotate_left
      · intro w'
        go_simp
        with_reducible rfl
      rotate_left
      · simp only [Act.put, List.setIfInBounds_toArray, List.set_cons_zero, List.set_cons_succ, i64_w, i32_w]
        rfl
      refine pure_ (i := 7) (N := some 24) (v := ?_) (a' := ?_) #[true, true, true, false, true, true, true, true, false, false, false, false, false, false, false] rfl rfl (by kernel_rfl) (fun _ _ _ h => h) (Or.inl ⟨by rfl, ?_⟩) ?_ ?_
      rotate_left
      · intro w'
        go_simp
        with_reducible rfl
      rotate_left
      · simp only [Act.put, List.setIfInBounds_toArray, List.set_cons_zero, List.set_cons_succ, i64_w, i32_w]
        rfl
      refine pure_ (i := 9) (N := some 26) (v := ?_) (a' := ?_) #[true, true, true, false, true, true, true, true, false, true, false, false, false, false, false] rfl rfl (by kernel_rfl) (fun _ _ _ h => h) (Or.inl ⟨by rfl, ?_⟩) ?_ ?_
      rotate_left
      · intro w'
        go_simp
        with_reducible rfl
      rotate_left
      · simp only [Act.put, List.setIfInBounds_toArray, List.set_cons_zero, List.set_cons_succ, i64_w, i32_w]
        rfl
      refine take_ (i := 3) (N := some 20) (v := ?_) (a' := ?_) #[true, true, true, true, true, true, true, true, false, true, false, false, false, false, false] rfl rfl (by kernel_rfl) (fun _ _ _ h => h) (Or.inl ⟨by rfl, ?_⟩) hHeld ?_ ?_
      rotate_left
      · rintro w' ⟨s0, s1, s2⟩
        go_simp
        with_reducible rfl
      rotate_left
      · simp only [Act.put, List.setIfInBounds_toArray, List.set_cons_zero, List.set_cons_succ, i64_w, i32_w]
        rfl
      refine take_ (i := 8) (N := some 25) (v := ?_) (a' := ?_) #[true, true, true, true, true, true, true, true, true, true, false, false, false, false, false] rfl rfl (by kernel_rfl) (fun _ _ _ h => h) (Or.inl ⟨by rfl, ?_⟩) hHeld ?_ ?_
      rotate_left
      · rintro w' ⟨s0, s1, s2⟩
        go_simp
        with_reducible rfl
      rotate_left
      · simp only [Act.put, List.setIfInBounds_toArray, List.set_cons_zero, List.set_cons_succ, i64_w, i32_w]
        rfl
      refine take_ (i := 10) (N := some 27) (v := v) (a' := ?_) #[true, true, true, true, true, true, true, true, true, true, true, false, false, false, false] rfl rfl (by kernel_rfl) (fun _ _ _ h => h) (Or.inl ⟨by rfl, ?_⟩) hHeld ?_ ?_
      · rintro w' ⟨s0, s1, s2⟩
        exact exk_open rfl rfl rfl s1 HV.out
      rotate_left
      · simp only [Act.put, List.setIfInBounds_toArray, List.set_cons_zero, List.set_cons_succ, i64_w, i32_w]
        rfl
      refine take_ (i := 11) (N := some 28) (v := .agg (secVals s).toArray) (a' := ?_) #[true, true, true, true, true, true, true, true, true, true, true, true, false, false, false] rfl rfl (by kernel_rfl) (fun _ _ _ h => h) (Or.inl ⟨by rfl, ?_⟩) hHeld ?_ ?_
      · rintro w' ⟨s0, s1, s2⟩
        exact exl_sec rfl rfl hsec (sec_range_of_blk s2)
      rotate_left
      · simp only [Act.put, List.setIfInBounds_toArray, List.set_cons_zero, List.set_cons_succ, i64_w, i32_w]
        rfl
      refine one_ (i := 12) (N := some 29) #[true, true, true, true, true, true, true, true, true, true, true, true, true, false, false] rfl rfl (by kernel_rfl) (by decide) (fun K hK => ?_)
      obtain ⟨s0, s1, s2⟩ := hHeld
      refine value_ (by rfl) rfl (exz_sec rfl hsec rfl) ?_
      refine hK.out _ _ ⟨(World.rangeAt_alloc (cs := [.map (some bm)]) (b := p) (o := 1) (fun j v hj => by cases j with | zero => (simp at hj; subst hj; exact s0) | succ j => simp at hj) _ 0 _ rfl), s1.alloc _, s2.alloc _⟩ (fun hHeld => ?_)
      clear hK K
      refine norm_ (a' := ?_) ?_ ?_
      rotate_left
      · show Act.put _ (some 29) _ = _
        simp only [Act.put, List.setIfInBounds_toArray, List.set_cons_zero, List.set_cons_succ, i64_w, i32_w]
        rfl
      refine one_ (i := 13) (N := some 30) #[true, true, true, true, true, true, true, true, true, true, true, true, true, true, false] rfl rfl (by kernel_rfl) (by decide) (fun K hK => ?_)
      obtain ⟨s0, s1, s2⟩ := hHeld
      refine value_ex (by rfl) rfl (exp_sec (v := v) rfl rfl rfl (HR.out.alloc _) rfl hsec (sec_range_of_blk (Blk.new _ _ _)) hnb) ?_
      rintro v1 wb ⟨ho, hg, hat⟩
      refine hK.out _ _ ⟨hg.cell s0 HNP.out, s1.kept hg HNE.out, (hg.block _ s2.lt HN5.out).trans s2⟩ (fun hHeld => ?_)
      clear hK K
      refine norm_ (a' := ?_) ?_ ?_
      rotate_left
      · show Act.put _ (some 30) _ = _
        simp only [Act.put, List.setIfInBounds_toArray, List.set_cons_zero, List.set_cons_succ, i64_w, i32_w]
        rfl
      refine last_ (i := 14) (N := none) #[true, true, true, true, true, true, true, true, true, true, true, true, true, true, true] rfl rfl (by kernel_rfl) (by decide) (fun K hK => ?_)
      obtain ⟨s0, s1, s2⟩ := hHeld
      refine skip_ex (by rfl) rfl (exu_open (v := v1) (bm := bm) (f := f) (k := (k : Int)) rfl rfl rfl rfl s1) ?_
      rintro wc ⟨hm2, hg2, hz2⟩
      refine hK.out _ _ ?_
      clear hK K
      refine done_ (by kernel_rfl) ?_
      -- W5>
      have HX := Lib.hid (And.intro ho (And.intro hg (And.intro hat (And.intro hm2 (And.intro hg2 hz2)))))
      clear ho hg hat hm2 hg2 hz2
      go_wp2
      go_ret
      obtain ⟨ho, hg, hat, hm2, hg2, hz2⟩ := HX.out
      have hsz : w2.heap.size + 1 ≤ wb.heap.size := by have := hg.size; simpa using this
      have hka : ∀ b, b < w2.heap.size → some b ≠ v.ownBlock → b ≠ bm → wc.heap[b]? = w2.heap[b]? := fun b hb h1 h2 =>
        (hg2.block b (by omega) (fun e => h2 (by injection e))).trans ((hg.block b (by simp; omega) h1).trans ((MapKept.heap_alloc _ _).2 b hb))
      have hb1 : ∀ b, v1.ownBlock = some b → b ≠ bm := fun b e1 e2 => by
        obtain ⟨cs, hc⟩ := ownsRow_heap ho e1
        exact s1.noCells (by rw [← e2]; exact hc)
      have ho2 := ownsRow_same ho (fun b e => hg2.block b (by obtain ⟨cs, hc⟩ := ownsRow_heap ho e; exact hc.lt) (fun e1 => hb1 b e (by injection e1)))
      have hnew : ∀ b, v1.ownBlock = some b → v.ownBlock = some b ∨ w2.heap.size ≤ b := fun b e => by
        rcases hat with h5 | h5
        · exact Or.inl (by rw [← h5]; exact e)
        · rw [h5] at e; injection e with e
          right; have : (w2.drew.alloc (.cells (secVals s).toArray 29)).heap.size = w2.heap.size + 1 := by simp
          omega
      have hvS : ∀ b, v.ownBlock = some b → S b := fun b e => by
        have hv := HV.out
        cases hf : f (k : Int) with
        | none => rw [hf] at hv; simp at hv; subst hv; simp [Value.ownBlock] at e
        | some u =>
          rw [hf] at hv; simp at hv; subst hv
          exact hs b (Or.inr (Or.inr (Or.inr ⟨_, _, hf, e⟩)))
      have hda := HA.out.pushed (w' := wc) (v1 := v1) (k := k) (s := s) HV.out HOK.out hm2 ho2 (hat.imp id (fun h5 => ⟨_, h5, by simp⟩)) hka
      refine ⟨rfl, _, ⟨bc, bm, _, hda, fun _ h => h⟩, (Turn.alloc S w _).trans (ht1.trans ⟨hg2.os.trans hg.os, hg2.tape.trans hg.tape, hg2.output.trans hg.output, by have := hg2.size; omega, fun b hb h5 => hka b hb (fun e => h5 (hvS b e.symm)) (fun e => h5 (hs b (Or.inr (Or.inr (Or.inl e))))), fun b hb => ?_⟩)⟩
      rcases hb with h5 | h5 | h5 | ⟨x, u, hx, hu⟩
      · exact Or.inl (hs b (Or.inl h5))
      · exact Or.inl (hs b (Or.inr (Or.inl h5)))
      · exact Or.inl (hs b (Or.inr (Or.inr (Or.inl h5))))
      · have hx : (if x = (k : Int) then some v1 else f x) = some u := hx
        split at hx
        · injection hx with hx; subst hx
          exact (hnew b hu).imp (hvS b) id
        · exact Or.inl (hs b (Or.inr (Or.inr (Or.inr ⟨x, u, hx, hu⟩))))
  · rw [if_pos hc]
    have HC : ∀ o, Hid (Calls Try.prog 34 #[.pointer (some ⟨p, 0, none⟩), .int .i64 i] (w.alloc o) fun e w' => e = .returned (.int .i64 (d.check i)) ∧ w' = w.alloc o) := fun o => check_calls (h.alloc o) i
    have HD := fun o => Lib.hid (h.alloc o)
    generalize d.check i = z at *
    have hz : (z == 0) = false := by simpa using hc
    clear h hc
    go_enter Try.func10, Try.ntmps10
    go_wp2_with (first
      | (go_at_call 34; refine (HC _).out.mono ?_; rintro e w' ⟨rfl, rfl⟩)
      | (refine go_val rfl (ex_box rfl (cs := secVals s) rfl) ?_))
    go_ret
    exact ⟨rfl, S, (HD _).out, Turn.alloc _ _ _⟩
theorem write_calls (h : DiskIn w S p d) (i : Int) {s : Sec} (hsec : SecOk s) (hst : d.steps < 1099511627775) : Calls Try.prog 10 #[.pointer (some ⟨p, 0, none⟩), .int .i64 i, .agg (secVals s).toArray] w fun e w' =>
    e = .returned (.int .i64 (d.write i s).2) ∧ ∃ S', DiskIn w' S' p (d.write i s).1 ∧ Turn S w S' w' := by
  obtain ⟨S1, hS1, hsub, hlt⟩ := h.tight
  refine (write_tight hS1 hlt i hsec hst).mono ?_
  rintro e w' ⟨rfl, S', hd, ht⟩
  exact ⟨rfl, S', hd, ht.wide hsub⟩
end
end Go.Proofs.Ytcaalfpfkalalaa
