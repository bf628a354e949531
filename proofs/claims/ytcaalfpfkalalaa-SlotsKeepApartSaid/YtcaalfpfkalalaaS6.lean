/- slots.copies: the iterator over both copies of a slot. -/
import Derived.Test.YtcaalfpfkalalaaS5
import Derived.Test.YtcaalfpfkalalaaG4
set_option linter.unusedVariables false
set_option linter.unusedSimpArgs false
set_option maxRecDepth 10000
set_option maxHeartbeats 8000000
namespace Go.Proofs.Ytcaalfpfkalalaa
open Go.RowKit Qd
open Go.Proofs.YtcaalfpfkalalaaW.PrintLast
attribute [local go_sem] Oper.semAt_some
theorem read_ok' {d : Disk} (h : d.Ok) (i : Int) : SecOk (d.read i).1 := by
  unfold Disk.read
  split
  · exact zeroSec_ok
  · split
    · exact lastSec_ok (h.opnOk _)
    · split
      · exact zeroSec_ok
      · exact h.cell _
/-- What comes of a copy. -/
structure FE where
  s : Sec
  ok : SecOk s
  at' : Int
  good : Bool
  e : Int
def FE.encs (x : FE) : Array Value := #[.agg (foundVals x.s x.at' x.good).toArray, .int .i64 x.e]
theorem side_s (d : Disk) (i : Int) : (d.side i).s = (d.read i).1 := by
  unfold Disk.side
  simp only []
  split
  · rfl
  · split <;> rfl
def feOf (d : Disk) (h : d.Ok) (i : Int) : FE := ⟨(d.side i).s, by rw [side_s]; exact read_ok' h i, i, (d.side i).good, (d.side i).e⟩
theorem side_cases (d : Disk) (i : Int) : ((d.read i).2 = 0 → (d.side i).good = goodSec (d.read i).1 ∧ (d.side i).e = 0) ∧ ((d.read i).2 = 14 → (d.side i).good = false ∧ (d.side i).e = 0) ∧ ((d.read i).2 ≠ 0 → (d.read i).2 ≠ 14 → (d.side i).good = false ∧ (d.side i).e = (d.read i).2) := by
  unfold Disk.side
  simp only []
  refine ⟨fun h => ?_, fun h => ?_, fun h h' => ?_⟩
  · rw [if_pos h]; exact ⟨rfl, rfl⟩
  · rw [if_neg (by omega), if_pos h]; exact ⟨rfl, rfl⟩
  · rw [if_neg h, if_neg h']; exact ⟨rfl, rfl⟩
theorem Nw.grownBy {w w' : World} (h : Nw w w') : w.grownBy w' none := ⟨h.os, h.tape, h.output, h.size, fun i hi _ => h.block i hi (fun h => h)⟩
theorem Nw.below' {w w' : World} (h : Nw w w') {n : Nat} (hn : n ≤ w.heap.size) : Below n w w' := ⟨h.os, h.tape, h.output, h.size, fun i hi => h.block i (by omega) (fun h => h)⟩
theorem Nw.toTurn {w w' : World} (h : Nw w w') (T : Nat → Prop) : Turn T w T w' := ⟨h.os, h.tape, h.output, h.size, fun k hk _ => h.block k hk (fun h => h), fun _ h => Or.inl h⟩
def isDefer : Op → Bool
  | .defer _ => true
  | _ => false
theorem not_defer {o : Oper} (h : isDefer o.op = false) : ∀ c, o.op ≠ .defer c := fun c e => by rw [e] at h; cases h
section
variable {P : Program} {F : Fence} {n : Nat} {ops : Array Oper} {rest : List Oper} {o : Oper} {a : Act} {Q : Exit → Act → World → Prop} {w w1 : World} {v : Value}
/-- An operation of a plain region inside a fence, by its run. -/
theorem gi_val (hgd : o.guard = none) (hab : ∀ f, o.about P w a.eval = some f → F.fn f) (hd : isDefer o.op = false) (hrun : (execOp a.eval o).run P w = .ok (.value v) w1) (h : wpListIn F n P ops Q rest (a.put o.dst v) w1) : wpListIn F n P ops Q (o :: rest) a w := by
  refine wpListIn_plain hgd fun K hK => ?_
  unfold Oper.wpIn
  refine ⟨hab, ?_⟩
  rw [Oper.semAt_plain F _ _ (not_defer hd), hrun]
  exact hK _ _ h
theorem gi_skp (hgd : o.guard = none) (hab : ∀ f, o.about P w a.eval = some f → F.fn f) (hd : isDefer o.op = false) (hrun : (execOp a.eval o).run P w = .ok .skip w1) (h : wpListIn F n P ops Q rest (a.put o.dst undef) w1) : wpListIn F n P ops Q (o :: rest) a w := by
  refine wpListIn_plain hgd fun K hK => ?_
  unfold Oper.wpIn
  refine ⟨hab, ?_⟩
  rw [Oper.semAt_plain F _ _ (not_defer hd), hrun]
  exact hK _ _ h
end
attribute [local irreducible] diskR blkR secVals SecOk DiskIn Own foundVals feOf
section
variable {w : World} {S T : Nat → Prop} {p Bp Bi : Nat} {d : Disk} {first i nn : Int}
theorem copies_stops (n : Nat) (hdok : d.Ok) (hd : DiskIn w S p d) (hS : ∀ b, S b → ¬ T b) (hbp : Blk w Bp #[.pointer (some ⟨p, 0, none⟩), .int .i64 first, .int .i64 nn] 91) (hbpn : ¬ T Bp) (hbi : Blk w Bi #[.int .i64 i] 3) (hbin : ¬ T Bi)
    (hf0 : 0 ≤ first) (hf1 : first ≤ 65536) (hi0 : 0 ≤ i) (hi1 : i ≤ 65536) :
    SeqStopsK Fence.wide n Try.prog 61 #[.pointer (some ⟨Bp, 0, none⟩), .pointer (some ⟨Bi, 0, none⟩)] FE.encs (fun A B => Turn T A T B)
      (fun xs => xs = [feOf d hdok (first + 2 * i), feOf d hdok (first + 2 * i + 1)]) (fun pre => pre <+: [feOf d hdok (first + 2 * i), feOf d hdok (first + 2 * i + 1)]) 2 w := by
  intro l J Jx W hW hJ hJx hY h0
  refine callsIn_wide.2 ?_
  show Calls Try.prog 61 #[.func (.yield l) #[] #[], .pointer (some ⟨Bp, 0, none⟩), .pointer (some ⟨Bi, 0, none⟩)] W _
  obtain ⟨xs, hxs⟩ : ∃ xs, xs = [feOf d hdok (first + 2 * i), feOf d hdok (first + 2 * i + 1)] := ⟨_, rfl⟩
  rw [← hxs]
  have HXS := Lib.hid hxs
  have HDW := Lib.hid (hd.same (w' := W) (fun b hb hlt => hW.block b hlt))
  have HBP := Lib.hid ((hW.block Bp hbp.lt).trans hbp)
  have HBI := Lib.hid ((hW.block Bi hbi.lt).trans hbi)
  have HS := Lib.hid hS
  have HW := Lib.hid hW
  have HJ := Lib.hid hJ
  have HJX := Lib.hid hJx
  have HY := Lib.hid hY
  have H0 := Lib.hid h0
  clear hxs hd hbp hbi hS hW hJ hJx hY h0
  go_enter Try.func61, Try.ntmps61
  go_wp2
  go_loopw [9] (fun v wr => ∃ j : Nat, j ≤ 2 ∧ v = .int .i64 (j : Int) ∧ J (xs.take j) wr ∧ Turn T W T wr) (fun v _ => 2 - (intOf v).toNat)
  case atStart => exact ⟨0, by omega, rfl, by rw [List.take_zero]; exact H0.out, Turn.refl _ _⟩
  case round =>
    obtain ⟨j, hj, rfl, hJj, hbw⟩ := hrel
    have HJJ := Lib.hid hJj
    have HBW := Lib.hid hbw
    have HD := Lib.hid (HDW.out.turn hbw HS.out)
    have hbp : Blk wr Bp _ _ := hbw.blk HBP.out hbpn
    have hbi : Blk wr Bi _ _ := hbw.blk HBI.out hbin
    have p0 : wr.cell? ⟨Bp, 0, none⟩ = some (.pointer (some ⟨p, 0, none⟩)) := by rw [hbp.cell]; rfl
    have p1 : wr.cell? ⟨Bp, 1, none⟩ = some (.int .i64 first) := by rw [hbp.cell]; rfl
    have i0 : wr.cell? ⟨Bi, 0, none⟩ = some (.int .i64 i) := by rw [hbi.cell]; rfl
    have hj0 : (0 : Int) ≤ (j : Int) := Int.natCast_nonneg j
    clear hJj hbw hbp hbi
    by_cases hj2 : j < 2
    · have hj2' : (j : Int) < 2 := by omega
      obtain ⟨fe, hfe, hfeat, hfes, hfee⟩ : ∃ fe : FE, xs.take (j + 1) = xs.take j ++ [fe] ∧ fe.at' = first + 2 * i + j ∧ fe.s = (d.read (first + 2 * i + j)).1 ∧ fe.good = (d.side (first + 2 * i + j)).good ∧ fe.e = (d.side (first + 2 * i + j)).e := by
        have hx := HXS.out
        have hj01 : j = 0 ∨ j = 1 := by omega
        rcases hj01 with rfl | rfl
        · refine ⟨feOf d hdok (first + 2 * i), by rw [hx]; rfl, by unfold feOf; simp, by unfold feOf; simp [side_s], by unfold feOf; simp, by unfold feOf; simp⟩
        · refine ⟨feOf d hdok (first + 2 * i + 1), by rw [hx]; rfl, by unfold feOf; rfl, by unfold feOf; exact side_s _ _, by unfold feOf; rfl, by unfold feOf; rfl⟩
      have hE := side_cases d (first + 2 * i + j)
      obtain ⟨at', hat'⟩ : ∃ a, a = first + 2 * i + (j : Int) := ⟨_, rfl⟩
      rw [← hat'] at hfeat hfes hfee hE
      obtain ⟨s, hs⟩ : ∃ s, s = (d.read at').1 := ⟨_, rfl⟩
      obtain ⟨e0, he0'⟩ : ∃ e, e = (d.read at').2 := ⟨_, rfl⟩
      have hrd : d.read at' = (s, e0) := by rw [hs, he0']
      have hsok : SecOk s := by rw [hs]; exact read_ok' hdok at'
      rw [← hs] at hfes hE
      rw [← he0'] at hE
      rw [← hfee.1, ← hfee.2] at hE
      have HRD := Lib.hid hrd
      have HFE := Lib.hid hfe
      have HAT := Lib.hid hat'
      have e1 : IntKind.i64.wrap (2 * i) = 2 * i := IntWalk.i64_in _ (by omega)
      clear hs he0' hrd hfe hfee e1 hat'
      have ho := Own.start wr
      obtain ⟨sx, fok, at2, fgood, fe1⟩ := fe
      simp only at hfeat hfes hE
      subst hfeat hfes
      go_upto_region 4 with (fail)
      rw [← HAT.out]
      go_upto_region 6 with (first
        | (go_at_call 14; refine (read_calls (HD.out.nw ho.nw0) _).mono ?_; rintro e w' ⟨rfl, hq⟩; rw [HRD.out]; replace ho := ho.nw hq; clear hq)
        | (refine go_val_ex rfl (ho.xallocAt 6 rfl rfl) ?_; rintro v w1 ⟨b6, rfl, hq⟩; simp only [Act.put, List.setIfInBounds_toArray, List.set_cons_zero, List.set_cons_succ]; (try simp only [List.nil_append, List.cons_append, List.set_cons_zero, List.set_cons_succ] at hq); replace ho := hq; clear hq)
        | (refine go_skp_ex rfl (ho.xstore (k := 0) (s' := sx) (x := .tmp 6) (y := .tmp 24) rfl rfl rfl zeroSec_ok hsok rfl) ?_; rintro w1 hq; simp only [Act.put, List.setIfInBounds_toArray, List.set_cons_zero, List.set_cons_succ]; (try simp only [List.nil_append, List.cons_append, List.set_cons_zero, List.set_cons_succ] at hq); replace ho := hq; clear hq)
        | (refine go_val rfl (ho.xload (k := 0) (x := .tmp 6) rfl rfl rfl hsok) ?_; simp only [Act.put, List.setIfInBounds_toArray, List.set_cons_zero, List.set_cons_succ])
        | (refine go_val rfl (exb_found (x := .tmp 26) (y := .tmp 27) rfl hsok rfl rfl) ?_; simp only [Act.put, List.setIfInBounds_toArray, List.set_cons_zero, List.set_cons_succ])
        | (refine go_val_ex rfl (ho.xafound 8 rfl rfl) ?_; rintro v w1 ⟨b8, rfl, hq⟩; simp only [Act.put, List.setIfInBounds_toArray, List.set_cons_zero, List.set_cons_succ]; (try simp only [List.nil_append, List.cons_append, List.set_cons_zero, List.set_cons_succ] at hq); replace ho := hq; clear hq)
        | (refine go_skp_ex rfl (ho.xsfound (k := 1) (s' := sx) (x := .tmp 8) (y := .tmp 28) rfl rfl rfl zeroSec_ok hsok rfl) ?_; rintro w1 hq; simp only [Act.put, List.setIfInBounds_toArray, List.set_cons_zero, List.set_cons_succ]; (try simp only [List.nil_append, List.cons_append, List.set_cons_zero, List.set_cons_succ] at hq); replace ho := hq; clear hq))
      by_cases he0 : e0 = 0
      · subst he0
        obtain ⟨rfl, rfl⟩ := hE.1 rfl
        by_cases hA : num sx 0 = num sx 32
        · by_cases hB : 1 ≤ num sx 0
          · skip
            have hb1 : (num sx 0 == num sx 32) = true := by simp [hA]
            have hb2 : decide (1 ≤ num sx 0) = true := by simp [hB]
            have HG : Hid (goodSec sx = decide (sx.getD 36 0 ≤ 55)) := Lib.hid (by unfold goodSec; rw [decide_eq_true hA, decide_eq_true hB]; rfl)
            clear hA hB
            go_upto_region 7 with (fail)
            refine start_ (n := 17) (S := fun w' => Own wr w' [blkR b6 (secVals sx).toArray 29, blkR b8 (foundVals sx at2 false).toArray 95]) (ds := [16]) #[false, false, false, false, false, false, false, false, false, false, false, false, false, false, false, false, false] mixed rfl rfl ((ho.nw ((Nw.refl _).drew))) (fun hHeld => ?_)
            refine take_ (i := 0) (N := some 31) (v := .agg (secVals sx).toArray) (a' := ?_) #[true, false, false, false, false, false, false, false, false, false, false, false, false, false, false, false, false] rfl rfl (by kernel_rfl) (fun _ _ _ h => h) (Or.inl ⟨by rfl, ?_⟩) hHeld ?_ ?_
            · intro w' s0
              exact s0.xload (k := 0) rfl rfl rfl hsok
            rotate_left
            · simp only [Act.put, List.setIfInBounds_toArray, List.set_cons_zero, List.set_cons_succ, i64_w, i32_w]
              rfl
            refine take_ (i := 2) (N := some 33) (v := .agg (secVals sx).toArray) (a' := ?_) #[true, false, true, false, false, false, false, false, false, false, false, false, false, false, false, false, false] rfl rfl (by kernel_rfl) (fun _ _ _ h => h) (Or.inl ⟨by rfl, ?_⟩) hHeld ?_ ?_
            · intro w' s0
              exact s0.xload (k := 0) rfl rfl rfl hsok
            rotate_left
            · simp only [Act.put, List.setIfInBounds_toArray, List.set_cons_zero, List.set_cons_succ, i64_w, i32_w]
              rfl
            refine one_ (i := 1) (N := some 32) #[true, true, true, false, false, false, false, false, false, false, false, false, false, false, false, false, false] rfl rfl (by kernel_rfl) (by decide) (fun K hK => ?_)
            have s0 := hHeld
            refine goes_ Try.func55 (by kernel_rfl) rfl #[.agg (secVals sx).toArray, .int .i64 0] (by rfl) rfl rfl (by simp only [List.map_toArray, List.map_cons, List.map_nil]; rfl) ?_
            with_reducible refine ((number0_calls hsok)).mono ?_
            rintro e w5 ⟨rfl, hn5⟩
            refine ⟨_, rfl, ?_⟩
            refine hK.out _ _ ((s0.nw hn5)) (fun hHeld => ?_)
            clear hK K
            refine norm_ (a' := ?_) ?_ ?_
            rotate_left
            · show Act.put _ (some 32) _ = _
              simp only [Act.put, List.setIfInBounds_toArray, List.set_cons_zero, List.set_cons_succ, i64_w, i32_w]
              rfl
            refine one_ (i := 3) (N := some 34) #[true, true, true, true, false, false, false, false, false, false, false, false, false, false, false, false, false] rfl rfl (by kernel_rfl) (by decide) (fun K hK => ?_)
            have s0 := hHeld
            refine goes_ Try.func55 (by kernel_rfl) rfl #[.agg (secVals sx).toArray, .int .i64 32] (by rfl) rfl rfl (by simp only [List.map_toArray, List.map_cons, List.map_nil]; rfl) ?_
            with_reducible refine ((number32_calls hsok)).mono ?_
            rintro e w5 ⟨rfl, hn5⟩
            refine ⟨_, rfl, ?_⟩
            refine hK.out _ _ ((s0.nw hn5)) (fun hHeld => ?_)
            clear hK K
            refine norm_ (a' := ?_) ?_ ?_
            rotate_left
            · show Act.put _ (some 34) _ = _
              simp only [Act.put, List.setIfInBounds_toArray, List.set_cons_zero, List.set_cons_succ, i64_w, i32_w]
              rfl
            refine pure_ (i := 4) (N := some 35) (v := ?_) (a' := ?_) #[true, true, true, true, true, false, false, false, false, false, false, false, false, false, false, false, false] rfl rfl (by kernel_rfl) (fun _ _ _ h => h) (Or.inl ⟨by rfl, ?_⟩) ?_ ?_
            rotate_left
            · intro w'
              go_simp
              with_reducible rfl
            rotate_left
            · simp only [Act.put, List.setIfInBounds_toArray, List.set_cons_zero, List.set_cons_succ, i64_w, i32_w]
              rfl
            refine pure_ (i := 5) (N := some 36) (v := ?_) (a' := ?_) #[true, true, true, true, true, true, false, false, false, false, false, false, false, false, false, false, false] rfl rfl (by kernel_rfl) (fun _ _ _ h => h) (Or.inl ⟨by rfl, ?_⟩) ?_ ?_
            rotate_left
            · intro w'
              go_simp
              with_reducible rfl
            rotate_left
            · simp only [Act.put, List.setIfInBounds_toArray, List.set_cons_zero, List.set_cons_succ, i64_w, i32_w]
              rfl
            refine take_ (i := 6) (N := some 37) (v := .agg (secVals sx).toArray) (a' := ?_) #[true, true, true, true, true, true, true, false, false, false, false, false, false, false, false, false, false] rfl rfl (by kernel_rfl) (fun _ _ _ h => h) (Or.inl ⟨by rfl, ?_⟩) hHeld ?_ ?_
            · intro w' s0
              exact s0.xload (k := 0) rfl rfl rfl hsok
            rotate_left
            · simp only [Act.put, List.setIfInBounds_toArray, List.set_cons_zero, List.set_cons_succ, i64_w, i32_w]
              rfl
            refine one_ (i := 7) (N := some 38) #[true, true, true, true, true, true, true, true, false, false, false, false, false, false, false, false, false] rfl rfl (by kernel_rfl) (by decide) (fun K hK => ?_)
            have s0 := hHeld
            refine goes_ Try.func55 (by kernel_rfl) rfl #[.agg (secVals sx).toArray, .int .i64 0] (by rfl) rfl rfl (by simp only [List.map_toArray, List.map_cons, List.map_nil]; rfl) ?_
            with_reducible refine ((number0_calls hsok)).mono ?_
            rintro e w5 ⟨rfl, hn5⟩
            refine ⟨_, rfl, ?_⟩
            refine hK.out _ _ ((s0.nw hn5)) (fun hHeld => ?_)
            clear hK K
            refine norm_ (a' := ?_) ?_ ?_
            rotate_left
            · show Act.put _ (some 38) _ = _
              simp only [Act.put, List.setIfInBounds_toArray, List.set_cons_zero, List.set_cons_succ, i64_w, i32_w]
              rfl
            refine pure_ (i := 8) (N := some 39) (v := ?_) (a' := ?_) #[true, true, true, true, true, true, true, true, true, false, false, false, false, false, false, false, false] rfl rfl (by kernel_rfl) (fun _ _ _ h => h) (Or.inl ⟨by rfl, ?_⟩) ?_ ?_
            rotate_left
            · intro w'
              go_simp
              with_reducible rfl
            rotate_left
            · simp only [Act.put, List.setIfInBounds_toArray, List.set_cons_zero, List.set_cons_succ, i64_w, i32_w]
              rfl
            refine pure_ (i := 9) (N := some 40) (v := ?_) (a' := ?_) #[true, true, true, true, true, true, true, true, true, true, false, false, false, false, false, false, false] rfl rfl (by kernel_rfl) (fun _ _ _ h => h) (Or.inl ⟨by rfl, ?_⟩) ?_ ?_
            rotate_left
            · intro w'
              go_simp
              with_reducible rfl
            rotate_left
            · simp only [Act.put, List.setIfInBounds_toArray, List.set_cons_zero, List.set_cons_succ, i64_w, i32_w]
              rfl
            refine pure_ (i := 10) (N := some 41) (v := ?_) (a' := ?_) #[true, true, true, true, true, true, true, true, true, true, true, false, false, false, false, false, false] rfl rfl (by kernel_rfl) (fun _ _ _ h => h) (Or.inl ⟨by rfl, ?_⟩) ?_ ?_
            rotate_left
            · intro w'
              go_simp
              with_reducible rfl
            rotate_left
            · simp only [Act.put, List.setIfInBounds_toArray, List.set_cons_zero, List.set_cons_succ, i64_w, i32_w]
              rfl
            refine pure_ (i := 11) (N := some 42) (v := ?_) (a' := ?_) #[true, true, true, true, true, true, true, true, true, true, true, true, false, false, false, false, false] rfl rfl (by kernel_rfl) (fun _ _ _ h => h) (Or.inl ⟨by rfl, ?_⟩) ?_ ?_
            rotate_left
            · intro w'
              go_simp
              with_reducible rfl
            rotate_left
            · simp only [Act.put, List.setIfInBounds_toArray, List.set_cons_zero, List.set_cons_succ, i64_w, i32_w]
              rfl
            refine take_ (i := 12) (N := some 43) (v := .int .u8 (sx.getD 36 0)) (a' := ?_) #[true, true, true, true, true, true, true, true, true, true, true, true, true, false, false, false, false] rfl rfl (by kernel_rfl) (fun _ _ _ h => h) (Or.inl ⟨by rfl, ?_⟩) hHeld ?_ ?_
            · intro w' s0
              exact s0.xsbyte (k := 0) (j := 36) rfl rfl rfl hsok (by omega)
            rotate_left
            · simp only [Act.put, List.setIfInBounds_toArray, List.set_cons_zero, List.set_cons_succ, i64_w, i32_w]
              rfl
            refine pure_ (i := 13) (N := some 44) (v := ?_) (a' := ?_) #[true, true, true, true, true, true, true, true, true, true, true, true, true, true, false, false, false] rfl rfl (by kernel_rfl) (fun _ _ _ h => h) (Or.inl ⟨by rfl, ?_⟩) ?_ ?_
            rotate_left
            · intro w'
              go_simp
              with_reducible rfl
            rotate_left
            · simp only [Act.put, List.setIfInBounds_toArray, List.set_cons_zero, List.set_cons_succ, i64_w, i32_w]
              rfl
            refine pure_ (i := 14) (N := some 45) (v := ?_) (a' := ?_) #[true, true, true, true, true, true, true, true, true, true, true, true, true, true, true, false, false] rfl rfl (by kernel_rfl) (fun _ _ _ h => h) (Or.inl ⟨by rfl, ?_⟩) ?_ ?_
            rotate_left
            · intro w'
              go_simp
              with_reducible rfl
            rotate_left
            · simp only [Act.put, List.setIfInBounds_toArray, List.set_cons_zero, List.set_cons_succ, i64_w, i32_w]
              rfl
            refine pure_ (i := 15) (N := some 46) (v := ?_) (a' := ?_) #[true, true, true, true, true, true, true, true, true, true, true, true, true, true, true, true, false] rfl rfl (by kernel_rfl) (fun _ _ _ h => h) (Or.inl ⟨by rfl, ?_⟩) ?_ ?_
            rotate_left
            · intro w'
              go_simp
              with_reducible rfl
            rotate_left
            · simp only [Act.put, List.setIfInBounds_toArray, List.set_cons_zero, List.set_cons_succ, i64_w, i32_w]
              rfl
            refine last_ (i := 16) (N := none) #[true, true, true, true, true, true, true, true, true, true, true, true, true, true, true, true, true] rfl rfl (by kernel_rfl) (by decide) (fun K hK => ?_)
            have s0 := hHeld
            refine skip_ex (by rfl) rfl (s0.xgood (k := 1) (g' := (decide (sx.getD 36 0 ≤ 55))) rfl rfl rfl hsok rfl) ?_
            rintro w7 hq
            refine hK.out _ _ ?_
            clear hK K
            refine done_ (by kernel_rfl) ?_
            simp only [List.set_cons_zero, List.set_cons_succ] at hq
            replace ho := hq; clear hq
            rw [← HG.out] at ho
            clear hE
            have hnw := ho.nw0
            have hJ1 := HJ.out _ _ _ none HJJ.out hnw.grownBy (fun r e => by cases e)
            obtain ⟨fn, tmps, assign, body, hy, hR⟩ := HY.out _ ⟨sx, fok, at2, (goodSec sx), 0⟩ _ hJ1 (by rw [List.length_take]; omega)
            simp only [FE.encs] at hy
            rw [← HFE.out] at hR
            go_upto_region 10 with (fail)
            refine (wpIn_wide (n := n)).1 ?_
            gi_wp2_with (first | (refine gi_val rfl (fun _ _ => trivial) rfl (ho.xlfound (k := 1) (x := .tmp 8) rfl rfl rfl hsok) ?_; simp only [Act.put, List.setIfInBounds_toArray, List.set_cons_zero, List.set_cons_succ]))
            refine ⟨fun h => (by cases h), hR.mono ?_⟩
            rintro e W3 (⟨rfl, hJ3, hk3⟩ | ⟨rfl, hJx3⟩)
            · gi_wp2
              go_wp2
              exact ⟨⟨j + 1, by omega, by go_num, hJ3, (HBW.out.trans (hnw.toTurn T)).trans hk3⟩, by simp [intOf]; omega⟩
            · gi_wp2
              go_wp2
              refine bodyPost_ret (results_none rfl _ _ _) rfl ⟨⟨_, rfl⟩, .inr ⟨_, List.take_prefix _ _, hJx3⟩⟩
          · skip
            have hb1 : (num sx 0 == num sx 32) = true := by simp [hA]
            have hb2 : decide (1 ≤ num sx 0) = false := by simp [hB]
            have HG : Hid (goodSec sx = false) := Lib.hid (by unfold goodSec; rw [decide_eq_true hA, decide_eq_false hB]; rfl)
            clear hA hB
            go_upto_region 7 with (fail)
            refine start_ (n := 17) (S := fun w' => Own wr w' [blkR b6 (secVals sx).toArray 29, blkR b8 (foundVals sx at2 false).toArray 95]) (ds := [16]) #[false, false, false, false, false, false, false, false, false, false, false, false, false, false, false, false, false] mixed rfl rfl ((ho.nw ((Nw.refl _).drew))) (fun hHeld => ?_)
            refine take_ (i := 0) (N := some 31) (v := .agg (secVals sx).toArray) (a' := ?_) #[true, false, false, false, false, false, false, false, false, false, false, false, false, false, false, false, false] rfl rfl (by kernel_rfl) (fun _ _ _ h => h) (Or.inl ⟨by rfl, ?_⟩) hHeld ?_ ?_
            · intro w' s0
              exact s0.xload (k := 0) rfl rfl rfl hsok
            rotate_left
            · simp only [Act.put, List.setIfInBounds_toArray, List.set_cons_zero, List.set_cons_succ, i64_w, i32_w]
              rfl
            refine take_ (i := 2) (N := some 33) (v := .agg (secVals sx).toArray) (a' := ?_) #[true, false, true, false, false, false, false, false, false, false, false, false, false, false, false, false, false] rfl rfl (by kernel_rfl) (fun _ _ _ h => h) (Or.inl ⟨by rfl, ?_⟩) hHeld ?_ ?_
            · intro w' s0
              exact s0.xload (k := 0) rfl rfl rfl hsok
            rotate_left
            · simp only [Act.put, List.setIfInBounds_toArray, List.set_cons_zero, List.set_cons_succ, i64_w, i32_w]
              rfl
            refine one_ (i := 1) (N := some 32) #[true, true, true, false, false, false, false, false, false, false, false, false, false, false, false, false, false] rfl rfl (by kernel_rfl) (by decide) (fun K hK => ?_)
            have s0 := hHeld
            refine goes_ Try.func55 (by kernel_rfl) rfl #[.agg (secVals sx).toArray, .int .i64 0] (by rfl) rfl rfl (by simp only [List.map_toArray, List.map_cons, List.map_nil]; rfl) ?_
            with_reducible refine ((number0_calls hsok)).mono ?_
            rintro e w5 ⟨rfl, hn5⟩
            refine ⟨_, rfl, ?_⟩
            refine hK.out _ _ ((s0.nw hn5)) (fun hHeld => ?_)
            clear hK K
            refine norm_ (a' := ?_) ?_ ?_
            rotate_left
            · show Act.put _ (some 32) _ = _
              simp only [Act.put, List.setIfInBounds_toArray, List.set_cons_zero, List.set_cons_succ, i64_w, i32_w]
              rfl
            refine one_ (i := 3) (N := some 34) #[true, true, true, true, false, false, false, false, false, false, false, false, false, false, false, false, false] rfl rfl (by kernel_rfl) (by decide) (fun K hK => ?_)
            have s0 := hHeld
            refine goes_ Try.func55 (by kernel_rfl) rfl #[.agg (secVals sx).toArray, .int .i64 32] (by rfl) rfl rfl (by simp only [List.map_toArray, List.map_cons, List.map_nil]; rfl) ?_
            with_reducible refine ((number32_calls hsok)).mono ?_
            rintro e w5 ⟨rfl, hn5⟩
            refine ⟨_, rfl, ?_⟩
            refine hK.out _ _ ((s0.nw hn5)) (fun hHeld => ?_)
            clear hK K
            refine norm_ (a' := ?_) ?_ ?_
            rotate_left
            · show Act.put _ (some 34) _ = _
              simp only [Act.put, List.setIfInBounds_toArray, List.set_cons_zero, List.set_cons_succ, i64_w, i32_w]
              rfl
            refine pure_ (i := 4) (N := some 35) (v := ?_) (a' := ?_) #[true, true, true, true, true, false, false, false, false, false, false, false, false, false, false, false, false] rfl rfl (by kernel_rfl) (fun _ _ _ h => h) (Or.inl ⟨by rfl, ?_⟩) ?_ ?_
            rotate_left
            · intro w'
              go_simp
              with_reducible rfl
            rotate_left
            · simp only [Act.put, List.setIfInBounds_toArray, List.set_cons_zero, List.set_cons_succ, i64_w, i32_w]
              rfl
            refine pure_ (i := 5) (N := some 36) (v := ?_) (a' := ?_) #[true, true, true, true, true, true, false, false, false, false, false, false, false, false, false, false, false] rfl rfl (by kernel_rfl) (fun _ _ _ h => h) (Or.inl ⟨by rfl, ?_⟩) ?_ ?_
            rotate_left
            · intro w'
              go_simp
              with_reducible rfl
            rotate_left
            · simp only [Act.put, List.setIfInBounds_toArray, List.set_cons_zero, List.set_cons_succ, i64_w, i32_w]
              rfl
            refine take_ (i := 6) (N := some 37) (v := .agg (secVals sx).toArray) (a' := ?_) #[true, true, true, true, true, true, true, false, false, false, false, false, false, false, false, false, false] rfl rfl (by kernel_rfl) (fun _ _ _ h => h) (Or.inl ⟨by rfl, ?_⟩) hHeld ?_ ?_
            · intro w' s0
              exact s0.xload (k := 0) rfl rfl rfl hsok
            rotate_left
            · simp only [Act.put, List.setIfInBounds_toArray, List.set_cons_zero, List.set_cons_succ, i64_w, i32_w]
              rfl
            refine one_ (i := 7) (N := some 38) #[true, true, true, true, true, true, true, true, false, false, false, false, false, false, false, false, false] rfl rfl (by kernel_rfl) (by decide) (fun K hK => ?_)
            have s0 := hHeld
            refine goes_ Try.func55 (by kernel_rfl) rfl #[.agg (secVals sx).toArray, .int .i64 0] (by rfl) rfl rfl (by simp only [List.map_toArray, List.map_cons, List.map_nil]; rfl) ?_
            with_reducible refine ((number0_calls hsok)).mono ?_
            rintro e w5 ⟨rfl, hn5⟩
            refine ⟨_, rfl, ?_⟩
            refine hK.out _ _ ((s0.nw hn5)) (fun hHeld => ?_)
            clear hK K
            refine norm_ (a' := ?_) ?_ ?_
            rotate_left
            · show Act.put _ (some 38) _ = _
              simp only [Act.put, List.setIfInBounds_toArray, List.set_cons_zero, List.set_cons_succ, i64_w, i32_w]
              rfl
            refine pure_ (i := 8) (N := some 39) (v := ?_) (a' := ?_) #[true, true, true, true, true, true, true, true, true, false, false, false, false, false, false, false, false] rfl rfl (by kernel_rfl) (fun _ _ _ h => h) (Or.inl ⟨by rfl, ?_⟩) ?_ ?_
            rotate_left
            · intro w'
              go_simp
              with_reducible rfl
            rotate_left
            · simp only [Act.put, List.setIfInBounds_toArray, List.set_cons_zero, List.set_cons_succ, i64_w, i32_w]
              rfl
            refine pure_ (i := 9) (N := some 40) (v := ?_) (a' := ?_) #[true, true, true, true, true, true, true, true, true, true, false, false, false, false, false, false, false] rfl rfl (by kernel_rfl) (fun _ _ _ h => h) (Or.inl ⟨by rfl, ?_⟩) ?_ ?_
            rotate_left
            · intro w'
              go_simp
              with_reducible rfl
            rotate_left
            · simp only [Act.put, List.setIfInBounds_toArray, List.set_cons_zero, List.set_cons_succ, i64_w, i32_w]
              rfl
            refine pure_ (i := 10) (N := some 41) (v := ?_) (a' := ?_) #[true, true, true, true, true, true, true, true, true, true, true, false, false, false, false, false, false] rfl rfl (by kernel_rfl) (fun _ _ _ h => h) (Or.inl ⟨by rfl, ?_⟩) ?_ ?_
            rotate_left
            · intro w'
              go_simp
              with_reducible rfl
            rotate_left
            · simp only [Act.put, List.setIfInBounds_toArray, List.set_cons_zero, List.set_cons_succ, i64_w, i32_w]
              rfl
            refine pure_ (i := 11) (N := some 42) (v := undef) (a' := ?_) #[true, true, true, true, true, true, true, true, true, true, true, true, false, false, false, false, false] rfl rfl (by kernel_rfl) (fun _ _ _ h => h) (Or.inr ⟨by rfl, rfl⟩) ?_ ?_
            rotate_left
            · simp only [Act.put, List.setIfInBounds_toArray, List.set_cons_zero, List.set_cons_succ, i64_w, i32_w]
              rfl
            refine pure_ (i := 12) (N := some 43) (v := undef) (a' := ?_) #[true, true, true, true, true, true, true, true, true, true, true, true, true, false, false, false, false] rfl rfl (by kernel_rfl) (fun _ _ _ h => h) (Or.inr ⟨by rfl, rfl⟩) ?_ ?_
            rotate_left
            · simp only [Act.put, List.setIfInBounds_toArray, List.set_cons_zero, List.set_cons_succ, i64_w, i32_w]
              rfl
            refine pure_ (i := 13) (N := some 44) (v := undef) (a' := ?_) #[true, true, true, true, true, true, true, true, true, true, true, true, true, true, false, false, false] rfl rfl (by kernel_rfl) (fun _ _ _ h => h) (Or.inr ⟨by rfl, rfl⟩) ?_ ?_
            rotate_left
            · simp only [Act.put, List.setIfInBounds_toArray, List.set_cons_zero, List.set_cons_succ, i64_w, i32_w]
              rfl
            refine pure_ (i := 14) (N := some 45) (v := ?_) (a' := ?_) #[true, true, true, true, true, true, true, true, true, true, true, true, true, true, true, false, false] rfl rfl (by kernel_rfl) (fun _ _ _ h => h) (Or.inl ⟨by rfl, ?_⟩) ?_ ?_
            rotate_left
            · intro w'
              go_simp
              with_reducible rfl
            rotate_left
            · simp only [Act.put, List.setIfInBounds_toArray, List.set_cons_zero, List.set_cons_succ, i64_w, i32_w]
              rfl
            refine pure_ (i := 15) (N := some 46) (v := ?_) (a' := ?_) #[true, true, true, true, true, true, true, true, true, true, true, true, true, true, true, true, false] rfl rfl (by kernel_rfl) (fun _ _ _ h => h) (Or.inl ⟨by rfl, ?_⟩) ?_ ?_
            rotate_left
            · intro w'
              go_simp
              with_reducible rfl
            rotate_left
            · simp only [Act.put, List.setIfInBounds_toArray, List.set_cons_zero, List.set_cons_succ, i64_w, i32_w]
              rfl
            refine last_ (i := 16) (N := none) #[true, true, true, true, true, true, true, true, true, true, true, true, true, true, true, true, true] rfl rfl (by kernel_rfl) (by decide) (fun K hK => ?_)
            have s0 := hHeld
            refine skip_ex (by rfl) rfl (s0.xgood (k := 1) (g' := false) rfl rfl rfl hsok rfl) ?_
            rintro w7 hq
            refine hK.out _ _ ?_
            clear hK K
            refine done_ (by kernel_rfl) ?_
            simp only [List.set_cons_zero, List.set_cons_succ] at hq
            replace ho := hq; clear hq
            rw [← HG.out] at ho
            clear hE
            have hnw := ho.nw0
            have hJ1 := HJ.out _ _ _ none HJJ.out hnw.grownBy (fun r e => by cases e)
            obtain ⟨fn, tmps, assign, body, hy, hR⟩ := HY.out _ ⟨sx, fok, at2, (goodSec sx), 0⟩ _ hJ1 (by rw [List.length_take]; omega)
            simp only [FE.encs] at hy
            rw [← HFE.out] at hR
            go_upto_region 10 with (fail)
            refine (wpIn_wide (n := n)).1 ?_
            gi_wp2_with (first | (refine gi_val rfl (fun _ _ => trivial) rfl (ho.xlfound (k := 1) (x := .tmp 8) rfl rfl rfl hsok) ?_; simp only [Act.put, List.setIfInBounds_toArray, List.set_cons_zero, List.set_cons_succ]))
            refine ⟨fun h => (by cases h), hR.mono ?_⟩
            rintro e W3 (⟨rfl, hJ3, hk3⟩ | ⟨rfl, hJx3⟩)
            · gi_wp2
              go_wp2
              exact ⟨⟨j + 1, by omega, by go_num, hJ3, (HBW.out.trans (hnw.toTurn T)).trans hk3⟩, by simp [intOf]; omega⟩
            · gi_wp2
              go_wp2
              refine bodyPost_ret (results_none rfl _ _ _) rfl ⟨⟨_, rfl⟩, .inr ⟨_, List.take_prefix _ _, hJx3⟩⟩
        · skip
          have hb1 : (num sx 0 == num sx 32) = false := by simp [hA]
          have HG : Hid (goodSec sx = false) := Lib.hid (by unfold goodSec; rw [decide_eq_false hA]; rfl)
          clear hA
          go_upto_region 7 with (fail)
          refine start_ (n := 17) (S := fun w' => Own wr w' [blkR b6 (secVals sx).toArray 29, blkR b8 (foundVals sx at2 false).toArray 95]) (ds := [16]) #[false, false, false, false, false, false, false, false, false, false, false, false, false, false, false, false, false] mixed rfl rfl ((ho.nw ((Nw.refl _).drew))) (fun hHeld => ?_)
          refine take_ (i := 0) (N := some 31) (v := .agg (secVals sx).toArray) (a' := ?_) #[true, false, false, false, false, false, false, false, false, false, false, false, false, false, false, false, false] rfl rfl (by kernel_rfl) (fun _ _ _ h => h) (Or.inl ⟨by rfl, ?_⟩) hHeld ?_ ?_
          · intro w' s0
            exact s0.xload (k := 0) rfl rfl rfl hsok
          rotate_left
          · simp only [Act.put, List.setIfInBounds_toArray, List.set_cons_zero, List.set_cons_succ, i64_w, i32_w]
            rfl
          refine take_ (i := 2) (N := some 33) (v := .agg (secVals sx).toArray) (a' := ?_) #[true, false, true, false, false, false, false, false, false, false, false, false, false, false, false, false, false] rfl rfl (by kernel_rfl) (fun _ _ _ h => h) (Or.inl ⟨by rfl, ?_⟩) hHeld ?_ ?_
          · intro w' s0
            exact s0.xload (k := 0) rfl rfl rfl hsok
          rotate_left
          · simp only [Act.put, List.setIfInBounds_toArray, List.set_cons_zero, List.set_cons_succ, i64_w, i32_w]
            rfl
          refine one_ (i := 1) (N := some 32) #[true, true, true, false, false, false, false, false, false, false, false, false, false, false, false, false, false] rfl rfl (by kernel_rfl) (by decide) (fun K hK => ?_)
          have s0 := hHeld
          refine goes_ Try.func55 (by kernel_rfl) rfl #[.agg (secVals sx).toArray, .int .i64 0] (by rfl) rfl rfl (by simp only [List.map_toArray, List.map_cons, List.map_nil]; rfl) ?_
          with_reducible refine ((number0_calls hsok)).mono ?_
          rintro e w5 ⟨rfl, hn5⟩
          refine ⟨_, rfl, ?_⟩
          refine hK.out _ _ ((s0.nw hn5)) (fun hHeld => ?_)
          clear hK K
          refine norm_ (a' := ?_) ?_ ?_
          rotate_left
          · show Act.put _ (some 32) _ = _
            simp only [Act.put, List.setIfInBounds_toArray, List.set_cons_zero, List.set_cons_succ, i64_w, i32_w]
            rfl
          refine one_ (i := 3) (N := some 34) #[true, true, true, true, false, false, false, false, false, false, false, false, false, false, false, false, false] rfl rfl (by kernel_rfl) (by decide) (fun K hK => ?_)
          have s0 := hHeld
          refine goes_ Try.func55 (by kernel_rfl) rfl #[.agg (secVals sx).toArray, .int .i64 32] (by rfl) rfl rfl (by simp only [List.map_toArray, List.map_cons, List.map_nil]; rfl) ?_
          with_reducible refine ((number32_calls hsok)).mono ?_
          rintro e w5 ⟨rfl, hn5⟩
          refine ⟨_, rfl, ?_⟩
          refine hK.out _ _ ((s0.nw hn5)) (fun hHeld => ?_)
          clear hK K
          refine norm_ (a' := ?_) ?_ ?_
          rotate_left
          · show Act.put _ (some 34) _ = _
            simp only [Act.put, List.setIfInBounds_toArray, List.set_cons_zero, List.set_cons_succ, i64_w, i32_w]
            rfl
          refine pure_ (i := 4) (N := some 35) (v := ?_) (a' := ?_) #[true, true, true, true, true, false, false, false, false, false, false, false, false, false, false, false, false] rfl rfl (by kernel_rfl) (fun _ _ _ h => h) (Or.inl ⟨by rfl, ?_⟩) ?_ ?_
          rotate_left
          · intro w'
            go_simp
            with_reducible rfl
          rotate_left
          · simp only [Act.put, List.setIfInBounds_toArray, List.set_cons_zero, List.set_cons_succ, i64_w, i32_w]
            rfl
          refine pure_ (i := 5) (N := some 36) (v := ?_) (a' := ?_) #[true, true, true, true, true, true, false, false, false, false, false, false, false, false, false, false, false] rfl rfl (by kernel_rfl) (fun _ _ _ h => h) (Or.inl ⟨by rfl, ?_⟩) ?_ ?_
          rotate_left
          · intro w'
            go_simp
            with_reducible rfl
          rotate_left
          · simp only [Act.put, List.setIfInBounds_toArray, List.set_cons_zero, List.set_cons_succ, i64_w, i32_w]
            rfl
          refine pure_ (i := 6) (N := some 37) (v := undef) (a' := ?_) #[true, true, true, true, true, true, true, false, false, false, false, false, false, false, false, false, false] rfl rfl (by kernel_rfl) (fun _ _ _ h => h) (Or.inr ⟨by rfl, rfl⟩) ?_ ?_
          rotate_left
          · simp only [Act.put, List.setIfInBounds_toArray, List.set_cons_zero, List.set_cons_succ, i64_w, i32_w]
            rfl
          refine pure_ (i := 7) (N := some 38) (v := undef) (a' := ?_) #[true, true, true, true, true, true, true, true, false, false, false, false, false, false, false, false, false] rfl rfl (by kernel_rfl) (fun _ _ _ h => h) (Or.inr ⟨by rfl, rfl⟩) ?_ ?_
          rotate_left
          · simp only [Act.put, List.setIfInBounds_toArray, List.set_cons_zero, List.set_cons_succ, i64_w, i32_w]
            rfl
          refine pure_ (i := 8) (N := some 39) (v := undef) (a' := ?_) #[true, true, true, true, true, true, true, true, true, false, false, false, false, false, false, false, false] rfl rfl (by kernel_rfl) (fun _ _ _ h => h) (Or.inr ⟨by rfl, rfl⟩) ?_ ?_
          rotate_left
          · simp only [Act.put, List.setIfInBounds_toArray, List.set_cons_zero, List.set_cons_succ, i64_w, i32_w]
            rfl
          refine pure_ (i := 9) (N := some 40) (v := ?_) (a' := ?_) #[true, true, true, true, true, true, true, true, true, true, false, false, false, false, false, false, false] rfl rfl (by kernel_rfl) (fun _ _ _ h => h) (Or.inl ⟨by rfl, ?_⟩) ?_ ?_
          rotate_left
          · intro w'
            go_simp
            with_reducible rfl
          rotate_left
          · simp only [Act.put, List.setIfInBounds_toArray, List.set_cons_zero, List.set_cons_succ, i64_w, i32_w]
            rfl
          refine pure_ (i := 10) (N := some 41) (v := ?_) (a' := ?_) #[true, true, true, true, true, true, true, true, true, true, true, false, false, false, false, false, false] rfl rfl (by kernel_rfl) (fun _ _ _ h => h) (Or.inl ⟨by rfl, ?_⟩) ?_ ?_
          rotate_left
          · intro w'
            go_simp
            with_reducible rfl
          rotate_left
          · simp only [Act.put, List.setIfInBounds_toArray, List.set_cons_zero, List.set_cons_succ, i64_w, i32_w]
            rfl
          refine pure_ (i := 11) (N := some 42) (v := undef) (a' := ?_) #[true, true, true, true, true, true, true, true, true, true, true, true, false, false, false, false, false] rfl rfl (by kernel_rfl) (fun _ _ _ h => h) (Or.inr ⟨by rfl, rfl⟩) ?_ ?_
          rotate_left
          · simp only [Act.put, List.setIfInBounds_toArray, List.set_cons_zero, List.set_cons_succ, i64_w, i32_w]
            rfl
          refine pure_ (i := 12) (N := some 43) (v := undef) (a' := ?_) #[true, true, true, true, true, true, true, true, true, true, true, true, true, false, false, false, false] rfl rfl (by kernel_rfl) (fun _ _ _ h => h) (Or.inr ⟨by rfl, rfl⟩) ?_ ?_
          rotate_left
          · simp only [Act.put, List.setIfInBounds_toArray, List.set_cons_zero, List.set_cons_succ, i64_w, i32_w]
            rfl
          refine pure_ (i := 13) (N := some 44) (v := undef) (a' := ?_) #[true, true, true, true, true, true, true, true, true, true, true, true, true, true, false, false, false] rfl rfl (by kernel_rfl) (fun _ _ _ h => h) (Or.inr ⟨by rfl, rfl⟩) ?_ ?_
          rotate_left
          · simp only [Act.put, List.setIfInBounds_toArray, List.set_cons_zero, List.set_cons_succ, i64_w, i32_w]
            rfl
          refine pure_ (i := 14) (N := some 45) (v := ?_) (a' := ?_) #[true, true, true, true, true, true, true, true, true, true, true, true, true, true, true, false, false] rfl rfl (by kernel_rfl) (fun _ _ _ h => h) (Or.inl ⟨by rfl, ?_⟩) ?_ ?_
          rotate_left
          · intro w'
            go_simp
            with_reducible rfl
          rotate_left
          · simp only [Act.put, List.setIfInBounds_toArray, List.set_cons_zero, List.set_cons_succ, i64_w, i32_w]
            rfl
          refine pure_ (i := 15) (N := some 46) (v := ?_) (a' := ?_) #[true, true, true, true, true, true, true, true, true, true, true, true, true, true, true, true, false] rfl rfl (by kernel_rfl) (fun _ _ _ h => h) (Or.inl ⟨by rfl, ?_⟩) ?_ ?_
          rotate_left
          · intro w'
            go_simp
            with_reducible rfl
          rotate_left
          · simp only [Act.put, List.setIfInBounds_toArray, List.set_cons_zero, List.set_cons_succ, i64_w, i32_w]
            rfl
          refine last_ (i := 16) (N := none) #[true, true, true, true, true, true, true, true, true, true, true, true, true, true, true, true, true] rfl rfl (by kernel_rfl) (by decide) (fun K hK => ?_)
          have s0 := hHeld
          refine skip_ex (by rfl) rfl (s0.xgood (k := 1) (g' := false) rfl rfl rfl hsok rfl) ?_
          rintro w7 hq
          refine hK.out _ _ ?_
          clear hK K
          refine done_ (by kernel_rfl) ?_
          simp only [List.set_cons_zero, List.set_cons_succ] at hq
          replace ho := hq; clear hq
          rw [← HG.out] at ho
          clear hE
          have hnw := ho.nw0
          have hJ1 := HJ.out _ _ _ none HJJ.out hnw.grownBy (fun r e => by cases e)
          obtain ⟨fn, tmps, assign, body, hy, hR⟩ := HY.out _ ⟨sx, fok, at2, (goodSec sx), 0⟩ _ hJ1 (by rw [List.length_take]; omega)
          simp only [FE.encs] at hy
          rw [← HFE.out] at hR
          go_upto_region 10 with (fail)
          refine (wpIn_wide (n := n)).1 ?_
          gi_wp2_with (first | (refine gi_val rfl (fun _ _ => trivial) rfl (ho.xlfound (k := 1) (x := .tmp 8) rfl rfl rfl hsok) ?_; simp only [Act.put, List.setIfInBounds_toArray, List.set_cons_zero, List.set_cons_succ]))
          refine ⟨fun h => (by cases h), hR.mono ?_⟩
          rintro e W3 (⟨rfl, hJ3, hk3⟩ | ⟨rfl, hJx3⟩)
          · gi_wp2
            go_wp2
            exact ⟨⟨j + 1, by omega, by go_num, hJ3, (HBW.out.trans (hnw.toTurn T)).trans hk3⟩, by simp [intOf]; omega⟩
          · gi_wp2
            go_wp2
            refine bodyPost_ret (results_none rfl _ _ _) rfl ⟨⟨_, rfl⟩, .inr ⟨_, List.take_prefix _ _, hJx3⟩⟩
      · by_cases he14 : e0 = 14
        · subst he14
          obtain ⟨rfl, rfl⟩ := hE.2.1 rfl
          have HG : Hid (false = false) := Lib.hid rfl
          go_upto_region 10 with (fail)
          clear hE
          have hnw := ho.nw0
          have hJ1 := HJ.out _ _ _ none HJJ.out hnw.grownBy (fun r e => by cases e)
          obtain ⟨fn, tmps, assign, body, hy, hR⟩ := HY.out _ ⟨sx, fok, at2, false, 0⟩ _ hJ1 (by rw [List.length_take]; omega)
          simp only [FE.encs] at hy
          rw [← HFE.out] at hR
          go_upto_region 10 with (fail)
          refine (wpIn_wide (n := n)).1 ?_
          gi_wp2_with (first | (refine gi_val rfl (fun _ _ => trivial) rfl (ho.xlfound (k := 1) (x := .tmp 8) rfl rfl rfl hsok) ?_; simp only [Act.put, List.setIfInBounds_toArray, List.set_cons_zero, List.set_cons_succ]))
          refine ⟨fun h => (by cases h), hR.mono ?_⟩
          rintro e W3 (⟨rfl, hJ3, hk3⟩ | ⟨rfl, hJx3⟩)
          · gi_wp2
            go_wp2
            exact ⟨⟨j + 1, by omega, by go_num, hJ3, (HBW.out.trans (hnw.toTurn T)).trans hk3⟩, by simp [intOf]; omega⟩
          · gi_wp2
            go_wp2
            refine bodyPost_ret (results_none rfl _ _ _) rfl ⟨⟨_, rfl⟩, .inr ⟨_, List.take_prefix _ _, hJx3⟩⟩
        · obtain ⟨rfl, rfl⟩ := hE.2.2 he0 he14
          have hb1 : (fe1 == 0) = false := by simp [he0]
          have hb2 : (fe1 == 14) = false := by simp [he14]
          have HG : Hid (false = false) := Lib.hid rfl
          clear he0 he14
          go_upto_region 10 with (fail)
          clear hE
          have hnw := ho.nw0
          have hJ1 := HJ.out _ _ _ none HJJ.out hnw.grownBy (fun r e => by cases e)
          obtain ⟨fn, tmps, assign, body, hy, hR⟩ := HY.out _ ⟨sx, fok, at2, false, fe1⟩ _ hJ1 (by rw [List.length_take]; omega)
          simp only [FE.encs] at hy
          rw [← HFE.out] at hR
          go_upto_region 10 with (fail)
          refine (wpIn_wide (n := n)).1 ?_
          gi_wp2_with (first | (refine gi_val rfl (fun _ _ => trivial) rfl (ho.xlfound (k := 1) (x := .tmp 8) rfl rfl rfl hsok) ?_; simp only [Act.put, List.setIfInBounds_toArray, List.set_cons_zero, List.set_cons_succ]))
          refine ⟨fun h => (by cases h), hR.mono ?_⟩
          rintro e W3 (⟨rfl, hJ3, hk3⟩ | ⟨rfl, hJx3⟩)
          · gi_wp2
            go_wp2
            exact ⟨⟨j + 1, by omega, by go_num, hJ3, (HBW.out.trans (hnw.toTurn T)).trans hk3⟩, by simp [intOf]; omega⟩
          · gi_wp2
            go_wp2
            refine bodyPost_ret (results_none rfl _ _ _) rfl ⟨⟨_, rfl⟩, .inr ⟨_, List.take_prefix _ _, hJx3⟩⟩
    · have e2 : xs.take j = xs := by
        rw [HXS.out]
        exact List.take_of_length_le (by simp; omega)
      rw [e2] at HJJ
      go_wp2
      go_end0
      exact ⟨⟨_, rfl⟩, .inl ⟨_, rfl, HJJ.out⟩⟩
end
end Go.Proofs.Ytcaalfpfkalalaa
