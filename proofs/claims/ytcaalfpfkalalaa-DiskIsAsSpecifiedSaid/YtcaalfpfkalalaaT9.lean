/- The specification's disk: Write. -/
import Derived.Test.YtcaalfpfkalalaaT8
set_option linter.unusedVariables false
set_option linter.unusedSimpArgs false
set_option maxRecDepth 10000
set_option maxHeartbeats 8000000
namespace Go.Proofs.Ytcaalfpfkalalaa
open Go.RowKit Qd
open Go.Proofs.YtcaalfpfkalalaaW.PrintLast
attribute [local irreducible] diskR blkR restR rowsR secVals SecOk refRow Own refCell gotVals secsR manyVals
section
variable {w0 w : World} {rs : List Res} {p k : Nat} {d : Disk}
theorem Own.rwrite_ (h : Own w0 w rs) (hk : rs[k]? = some (refR p d)) (i : Int) {s : Sec} (hsec : SecOk s) (hst : d.steps < 1099511627775) : Calls Try.prog 44 #[.pointer (some ⟨p, 0, none⟩), .int .i64 i, .agg (secVals s).toArray] w fun e w' =>
    e = .returned (.int .i64 (d.write i s).2) ∧ Own w0 w' (rs.set k (refR p (d.write i s).1)) := by
  have HC : Hid (∀ (w' : World) (rs' : List Res) (k' : Nat), Own w0 w' rs' → rs'[k']? = some (refR p d) → Calls Try.prog 51 #[.pointer (some ⟨p, 0, none⟩), .int .i64 i] w' fun e w'' => e = .returned (.int .i64 (d.check i)) ∧ w'' = w') := Lib.hid (fun w' rs' k' h' hk' => h'.rcheck_ hk' i)
  have hok := h.rokOf hk
  have hsame := list_set_same hk
  have ho := h.focus hk
  obtain ⟨r, hr⟩ : ∃ r, r = d.write i s := ⟨_, rfl⟩
  rw [← hr]
  unfold Disk.write at hr
  by_cases hc : d.check i = 0
  · obtain ⟨hdead, h0, h1⟩ := check_in hc
    obtain ⟨m, rfl⟩ := Int.eq_ofNat_of_zero_le h0
    rw [if_neg (by rw [hc]; simp), Int.toNat_natCast] at hr
    rw [hc] at HC
    have hS := fun (w' : World) (rs' : List Res) (k' : Nat) (h' : Own w0 w' rs') (hk' : rs'[k']? = some (refR p d)) => h'.rstep_ hk' (by omega)
    by_cases ha : d.after = 0
    · rw [if_pos ha] at hr
      have e1 : d.step = ({ d with dead := true }, 12) := by unfold Disk.step; rw [if_pos ha]
      have HS : Hid (∀ (w' : World) (rs' : List Res) (k' : Nat), Own w0 w' rs' → rs'[k']? = some (refR p d) → Calls Try.prog 58 #[.pointer (some ⟨p, 0, none⟩)] w' fun e w'' => e = .returned (.bool false) ∧ Own w0 w'' (rs'.set k' (refR p { d with dead := true }))) := Lib.hid (fun w' rs' k' h' hk' => by
        have := hS w' rs' k' h' hk'
        rw [e1] at this
        exact this)
      have HR := Lib.hid hr
      clear hr hc h ha hk e1 hS hsame hok
      go_enter Try.func44, Try.ntmps44
      go_wp2_with (first
        | (refine go_val_ex rfl (ho.xbox 5 rfl rfl (cs := secVals s) rfl) ?_; rintro v w1 ⟨b5, rfl, hq⟩; simp only [Act.put, List.setIfInBounds_toArray, List.set_cons_zero, List.set_cons_succ]; (try simp only [List.nil_append, List.cons_append, List.set_cons_zero, List.set_cons_succ] at hq); replace ho := hq; clear hq)
        | (go_at_call 51; refine (HC.out _ _ 0 ho rfl).mono ?_; rintro e w' ⟨rfl, rfl⟩)
        | (go_at_call 58; refine (HS.out _ _ 0 ho rfl).mono ?_; rintro e w' ⟨rfl, hq⟩; (try simp only [List.nil_append, List.cons_append, List.set_cons_zero, List.set_cons_succ] at hq); replace ho := hq; clear hq))
      go_ret
      rw [HR.out]
      exact ⟨rfl, (ho.pick [0, 1] (by decide) rfl : Own w0 _ [refR p { d with dead := true }, restR rs (· = k)]).back⟩
    · rw [if_neg ha] at hr
      have e1 : d.step.2 = 0 := by unfold Disk.step; rw [if_neg ha]
      have HS : Hid (∀ (w' : World) (rs' : List Res) (k' : Nat), Own w0 w' rs' → rs'[k']? = some (refR p d) → Calls Try.prog 58 #[.pointer (some ⟨p, 0, none⟩)] w' fun e w'' => e = .returned (.bool true) ∧ Own w0 w'' (rs'.set k' (refR p d.step.1))) := Lib.hid (fun w' rs' k' h' hk' => by
        have := hS w' rs' k' h' hk'
        rw [e1] at this
        exact this)
      have hokw := hok.write m hsec
      have hw1 : (d.write m s).1 = d.step.1.push m s := by unfold Disk.write; rw [if_neg (by rw [hc]; simp), if_neg ha, Int.toNat_natCast]
      rw [hw1] at hokw
      have hop : d.step.1.opn = d.opn := Disk.step_opn
      have hstp : d.step.1.steps = d.steps + 1 := Disk.step_steps ha
      have hcl : d.step.1.cells = d.cells := by unfold Disk.step; rw [if_neg ha]
      have hde : d.step.1.dead = false := by unfold Disk.step; rw [if_neg ha]; exact hdead
      have hlen := hok.opnLen m
      have hm : m < d.step.1.cells.length := by rw [hcl]; omega
      have hln : (d.step.1.opn m).length < 1099511627775 := by rw [hop]; omega
      have hsl : d.step.1.cells.length ≤ 65536 := by rw [hcl]; exact hok.len
      obtain ⟨d1, hd1⟩ : ∃ d1, d1 = d.step.1 := ⟨_, rfl⟩
      rw [← hd1] at HS hokw hm hln hsl hde hr
      have HR := Lib.hid hr
      have HM := Lib.hid hm
      have HLN0 := Lib.hid hln
      have HSL := Lib.hid hsl
      have HDE := Lib.hid hde
      have HOKW := Lib.hid hokw
      clear hr hc h ha hk e1 hS hsame hok hw1 hop hstp hcl hde hlen hm hln hsl hd1 hokw hdead h1 hst
      go_enter Try.func44, Try.ntmps44
      go_upto_region 7 with (first
        | (refine go_val_ex rfl (ho.xbox 5 rfl rfl (cs := secVals s) rfl) ?_; rintro v w1 ⟨b5, rfl, hq⟩; simp only [Act.put, List.setIfInBounds_toArray, List.set_cons_zero, List.set_cons_succ]; (try simp only [List.nil_append, List.cons_append, List.set_cons_zero, List.set_cons_succ] at hq); replace ho := hq; clear hq)
        | (go_at_call 51; refine (HC.out _ _ 0 ho rfl).mono ?_; rintro e w' ⟨rfl, rfl⟩)
        | (go_at_call 58; refine (HS.out _ _ 0 ho rfl).mono ?_; rintro e w' ⟨rfl, hq⟩; (try simp only [List.nil_append, List.cons_append, List.set_cons_zero, List.set_cons_succ] at hq); replace ho := hq; clear hq))
      obtain ⟨bc, vs, A, B, a, cp, hok1, hA, hvi, hv0, hv1, hmx, hq, hsh⟩ := ho.openAt HM.out
      have hcok : SecOk (d1.cell m).s := hok1.cell m
      have hb5 := hq
      have hopn := hok1.opnOk m
      have HEND : Hid (∀ (w' : World) (a' : Option Addr) (n' c' : Nat), Own w0 w' [secsR (.slice a' n' c') (d1.opn m ++ [s]), rowsR vs d1.opn, blkR p (refObj bc d1).toArray 107, blkR bc (A ++ refCell (d1.cell m, .slice a' n' c') ++ B).toArray 110, restR rs (· = k), blkR b5 (secVals s).toArray 29] → Own w0 w' (rs.set k (refR p (d1.push m s)))) := Lib.hid (fun w' a' n' c' hh => by
        have h2 := (hh.pick (rs' := [rowsR vs d1.opn, secsR (.slice a' n' c') (d1.opn m ++ [s]), blkR p (refObj bc d1).toArray 107, blkR bc (A ++ refCell (d1.cell m, .slice a' n' c') ++ B).toArray 110, restR rs (· = k), blkR b5 (secVals s).toArray 29]) [1, 0, 2, 3, 4, 5] (by decide) rfl).rowsPut (m := m) (by simp)
        have h3 := h2.pick (rs' := refAt p bc (d1.push m s) A B (vs.set m (.slice a' n' c')) (d1.cell m) (.slice a' n' c') (d1.push m s).opn ++ [restR rs (· = k), blkR b5 (secVals s).toArray 29]) [1, 2, 0, 3, 4] (by decide) rfl
        have hcs : (d1.push m s).cells = d1.cells.set m (d1.cell m) := by
          show d1.cells = _
          unfold Disk.cell
          rw [List.getD_eq_getElem?_getD, List.getElem?_eq_getElem HM.out]
          exact (List.set_getElem_self HM.out).symm
        exact ((hsh w' (d1.push m s) (d1.cell m) (.slice a' n' c') hcok HOKW.out hcs h3).pick (rs' := [refR p (d1.push m s), restR rs (· = k)]) [0, 1] (by decide) rfl).back)
      simp only [refAt, refObj, List.cons_append, List.nil_append] at hq HEND
      rw [HDE.out] at hq HEND
      have hm := HM.out
      have hsl := HSL.out
      have hln := HLN0.out
      obtain ⟨N, hN⟩ : ∃ N, N = d1.cells.length := ⟨_, rfl⟩
      obtain ⟨st, hst⟩ : ∃ N, N = d1.steps := ⟨_, rfl⟩
      obtain ⟨af, haf⟩ : ∃ N, N = d1.after := ⟨_, rfl⟩
      obtain ⟨c, hcc⟩ : ∃ N, N = d1.cell m := ⟨_, rfl⟩
      obtain ⟨opn, hop⟩ : ∃ N, N = d1.opn := ⟨_, rfl⟩
      rw [← hN] at hq HEND hm hsl
      rw [← hst, ← haf, ← hcc, ← hop] at hq HEND
      rw [← hcc] at hcok
      rw [← hop] at hopn hln hvi hv0 hv1
      have HOPN := Lib.hid hopn
      clear ho hN hst haf hcc hop hopn hb5 hsh HSL HLN0 HM HDE HOKW HS HC hok1 hmx
      have hm' : (m : Int) < (N : Int) := by omega
      have ho := hq
      clear hq
      by_cases hem : opn m = []
      · obtain ⟨rfl, rfl⟩ := hv0 hem
        rw [hem] at ho HEND
        rw [List.nil_append] at HEND
        rw [List.length_nil] at ho
        have HLN : Hid (([] : List Sec).length + 1 < 1099511627776) := Lib.hid (by decide)
        clear hem hv0 hv1 hvi hln HOPN
        refine start_ (n := 21) (S := fun w' => Own w0 w' [blkR p [Value.slice (some ⟨bc, 0, none⟩) N N, .int .i64 st, .int .i64 af, .bool false].toArray 107, blkR bc (A ++ refCell (c, .slice none 0 0) ++ B).toArray 110, rowsR vs opn, restR rs (· = k), blkR b5 (secVals s).toArray 29]) (ds := [20]) #[false, false, false, false, false, false, false, false, false, false, false, false, false, false, false, false, false, false, false, false, false] mixed rfl rfl (ho.nw ((Nw.refl _).drew)) (fun hHeld => ?_)
        refine pure_ (i := 0) (N := some 19) (v := ?_) (a' := ?_) #[true, false, false, false, false, false, false, false, false, false, false, false, false, false, false, false, false, false, false, false, false] rfl rfl (by kernel_rfl) (fun _ _ _ h => h) (Or.inl ⟨by rfl, ?_⟩) ?_ ?_
        rotate_left
        · intro w'
          go_simp
          with_reducible rfl
        rotate_left
        · simp only [Act.put, List.setIfInBounds_toArray, List.set_cons_zero, List.set_cons_succ, i64_w, i32_w]
          rfl
        refine pure_ (i := 1) (N := some 20) (v := ?_) (a' := ?_) #[true, true, false, false, false, false, false, false, false, false, false, false, false, false, false, false, false, false, false, false, false] rfl rfl (by kernel_rfl) (fun _ _ _ h => h) (Or.inl ⟨by rfl, ?_⟩) ?_ ?_
        rotate_left
        · intro w'
          go_simp
          with_reducible rfl
        rotate_left
        · simp only [Act.put, List.setIfInBounds_toArray, List.set_cons_zero, List.set_cons_succ, i64_w, i32_w]
          rfl
        refine pure_ (i := 2) (N := some 21) (v := ?_) (a' := ?_) #[true, true, true, false, false, false, false, false, false, false, false, false, false, false, false, false, false, false, false, false, false] rfl rfl (by kernel_rfl) (fun _ _ _ h => h) (Or.inl ⟨by rfl, ?_⟩) ?_ ?_
        rotate_left
        · intro w'
          go_simp
          with_reducible rfl
        rotate_left
        · simp only [Act.put, List.setIfInBounds_toArray, List.set_cons_zero, List.set_cons_succ, i64_w, i32_w]
          rfl
        refine take_ (i := 3) (N := some 22) (v := .slice (some ⟨bc, 0, none⟩) N N) (a' := ?_) #[true, true, true, true, false, false, false, false, false, false, false, false, false, false, false, false, false, false, false, false, false] rfl rfl (by kernel_rfl) (fun _ _ _ h => h) (Or.inl ⟨by rfl, ?_⟩) hHeld ?_ ?_
        · intro w' s0
          exact s0.xlcells (k := 0) (j := 0) rfl rfl rfl rfl
        rotate_left
        · simp only [Act.put, List.setIfInBounds_toArray, List.set_cons_zero, List.set_cons_succ, i64_w, i32_w]
          rfl
        refine pure_ (i := 4) (N := some 23) (v := ?_) (a' := ?_) #[true, true, true, true, true, false, false, false, false, false, false, false, false, false, false, false, false, false, false, false, false] rfl rfl (by kernel_rfl) (fun _ _ _ h => h) (Or.inl ⟨by rfl, ?_⟩) ?_ ?_
        rotate_left
        · intro w'
          go_simp
          with_reducible rfl
        rotate_left
        · simp only [Act.put, List.setIfInBounds_toArray, List.set_cons_zero, List.set_cons_succ, i64_w, i32_w]
          rfl
        refine pure_ (i := 6) (N := some 25) (v := ?_) (a' := ?_) #[true, true, true, true, true, false, true, false, false, false, false, false, false, false, false, false, false, false, false, false, false] rfl rfl (by kernel_rfl) (fun _ _ _ h => h) (Or.inl ⟨by rfl, ?_⟩) ?_ ?_
        rotate_left
        · intro w'
          go_simp
          with_reducible rfl
        rotate_left
        · simp only [Act.put, List.setIfInBounds_toArray, List.set_cons_zero, List.set_cons_succ, i64_w, i32_w]
          rfl
        refine pure_ (i := 7) (N := some 26) (v := ?_) (a' := ?_) #[true, true, true, true, true, false, true, true, false, false, false, false, false, false, false, false, false, false, false, false, false] rfl rfl (by kernel_rfl) (fun _ _ _ h => h) (Or.inl ⟨by rfl, ?_⟩) ?_ ?_
        rotate_left
        · intro w'
          go_simp
          with_reducible rfl
        rotate_left
        · simp only [Act.put, List.setIfInBounds_toArray, List.set_cons_zero, List.set_cons_succ, i64_w, i32_w]
          rfl
        refine pure_ (i := 8) (N := some 27) (v := ?_) (a' := ?_) #[true, true, true, true, true, false, true, true, true, false, false, false, false, false, false, false, false, false, false, false, false] rfl rfl (by kernel_rfl) (fun _ _ _ h => h) (Or.inl ⟨by rfl, ?_⟩) ?_ ?_
        rotate_left
        · intro w'
          go_simp
          with_reducible rfl
        rotate_left
        · simp only [Act.put, List.setIfInBounds_toArray, List.set_cons_zero, List.set_cons_succ, i64_w, i32_w]
          rfl
        refine take_ (i := 9) (N := some 28) (v := .slice (some ⟨bc, 0, none⟩) N N) (a' := ?_) #[true, true, true, true, true, false, true, true, true, true, false, false, false, false, false, false, false, false, false, false, false] rfl rfl (by kernel_rfl) (fun _ _ _ h => h) (Or.inl ⟨by rfl, ?_⟩) hHeld ?_ ?_
        · intro w' s0
          exact s0.xlcells (k := 0) (j := 0) rfl rfl rfl rfl
        rotate_left
        · simp only [Act.put, List.setIfInBounds_toArray, List.set_cons_zero, List.set_cons_succ, i64_w, i32_w]
          rfl
        refine pure_ (i := 10) (N := some 29) (v := ?_) (a' := ?_) #[true, true, true, true, true, false, true, true, true, true, true, false, false, false, false, false, false, false, false, false, false] rfl rfl (by kernel_rfl) (fun _ _ _ h => h) (Or.inl ⟨by rfl, ?_⟩) ?_ ?_
        rotate_left
        · intro w'
          go_simp
          with_reducible rfl
        rotate_left
        · simp only [Act.put, List.setIfInBounds_toArray, List.set_cons_zero, List.set_cons_succ, i64_w, i32_w]
          rfl
        refine pure_ (i := 11) (N := some 30) (v := ?_) (a' := ?_) #[true, true, true, true, true, false, true, true, true, true, true, true, false, false, false, false, false, false, false, false, false] rfl rfl (by kernel_rfl) (fun _ _ _ h => h) (Or.inl ⟨by rfl, ?_⟩) ?_ ?_
        rotate_left
        · intro w'
          go_simp
          with_reducible rfl
        rotate_left
        · simp only [Act.put, List.setIfInBounds_toArray, List.set_cons_zero, List.set_cons_succ, i64_w, i32_w]
          rfl
        refine pure_ (i := 12) (N := some 31) (v := ?_) (a' := ?_) #[true, true, true, true, true, false, true, true, true, true, true, true, true, false, false, false, false, false, false, false, false] rfl rfl (by kernel_rfl) (fun _ _ _ h => h) (Or.inl ⟨by rfl, ?_⟩) ?_ ?_
        rotate_left
        · intro w'
          go_simp
          with_reducible rfl
        rotate_left
        · simp only [Act.put, List.setIfInBounds_toArray, List.set_cons_zero, List.set_cons_succ, i64_w, i32_w]
          rfl
        refine take_ (i := 13) (N := some 32) (v := .slice none 0 0) (a' := ?_) #[true, true, true, true, true, false, true, true, true, true, true, true, true, true, false, false, false, false, false, false, false] rfl rfl (by kernel_rfl) (fun _ _ _ h => h) (Or.inl ⟨by rfl, ?_⟩) hHeld ?_ ?_
        · intro w' s0
          exact exl_ropen (cell_range s0 (k := 1) rfl hA) hcok rfl rfl
        rotate_left
        · simp only [Act.put, List.setIfInBounds_toArray, List.set_cons_zero, List.set_cons_succ, i64_w, i32_w]
          rfl
        refine take_ (i := 15) (N := some 34) (v := .agg (secVals s).toArray) (a' := ?_) #[true, true, true, true, true, false, true, true, true, true, true, true, true, true, false, true, false, false, false, false, false] rfl rfl (by kernel_rfl) (fun _ _ _ h => h) (Or.inl ⟨by rfl, ?_⟩) hHeld ?_ ?_
        · intro w' s0
          exact exl_sec rfl rfl hsec (sec_range_of_blk (s0.blk (i := 4) rfl).1)
        rotate_left
        · simp only [Act.put, List.setIfInBounds_toArray, List.set_cons_zero, List.set_cons_succ, i64_w, i32_w]
          rfl
        refine two_ (i := 5) (j := 16) (Ni := some 24) (Nj := some 35) #[true, true, true, true, true, true, true, true, true, true, true, true, true, true, false, true, false, false, false, false, false] #[true, true, true, true, true, false, true, true, true, true, true, true, true, true, false, true, true, false, false, false, false] rfl rfl rfl rfl (by kernel_rfl) (by decide) (by decide) (fun K hK => ?_) (fun K hK => ?_)
        · skip
          refine value_ex (by rfl) rfl (hHeld.xsecs0 rfl) ?_
          rintro v24 w24 ⟨b24, rfl, hq24⟩
          simp only [List.cons_append, List.nil_append] at hq24
          refine hK.out _ _ (hq24.left (l1 := [blkR p [Value.slice (some ⟨bc, 0, none⟩) N N, .int .i64 st, .int .i64 af, .bool false].toArray 107, blkR bc (A ++ refCell (c, .slice none 0 0) ++ B).toArray 110, rowsR vs opn, restR rs (· = k), blkR b5 (secVals s).toArray 29]) (l2 := [_])) (fun hHeld => ?_)
          clear hK K
          refine norm_ (a' := ?_) ?_ ?_
          rotate_left
          · show Act.put _ (some 24) _ = _
            simp only [Act.put, List.setIfInBounds_toArray, List.set_cons_zero, List.set_cons_succ, i64_w, i32_w]
            rfl
          refine two_ (i := 14) (j := 16) (Ni := some 33) (Nj := some 35) #[true, true, true, true, true, true, true, true, true, true, true, true, true, true, true, true, false, false, false, false, false] #[true, true, true, true, true, true, true, true, true, true, true, true, true, true, false, true, true, false, false, false, false] rfl rfl rfl rfl (by kernel_rfl) (by decide) (by decide) (fun K hK => ?_) (fun K hK => ?_)
          · skip
            refine value_ (by rfl) rfl (ex_append_none (a := some ⟨b24, 0, none⟩) (m := 0) (c := 0) (Nat.le_refl _) rfl rfl rfl) ?_
            refine hK.out _ _ (hq24.left (l1 := [blkR p [Value.slice (some ⟨bc, 0, none⟩) N N, .int .i64 st, .int .i64 af, .bool false].toArray 107, blkR bc (A ++ refCell (c, .slice none 0 0) ++ B).toArray 110, rowsR vs opn, restR rs (· = k), blkR b5 (secVals s).toArray 29]) (l2 := [_])) (fun hHeld => ?_)
            clear hK K
            refine norm_ (a' := ?_) ?_ ?_
            rotate_left
            · show Act.put _ (some 33) _ = _
              simp only [Act.put, List.setIfInBounds_toArray, List.set_cons_zero, List.set_cons_succ, i64_w, i32_w]
              rfl
            refine one_ (i := 16) (N := some 35) #[true, true, true, true, true, true, true, true, true, true, true, true, true, true, true, true, true, false, false, false, false] rfl rfl (by kernel_rfl) (by decide) (fun K hK => ?_)
            refine value_ex (by rfl) rfl (hq24.xsec1 (s := s) rfl hsec rfl) ?_
            rintro v35 w35 ⟨b35, rfl, hq35⟩
            simp only [List.cons_append, List.nil_append] at hq35
            refine hK.out _ _ (hq35.left (l1 := [blkR p [Value.slice (some ⟨bc, 0, none⟩) N N, .int .i64 st, .int .i64 af, .bool false].toArray 107, blkR bc (A ++ refCell (c, .slice none 0 0) ++ B).toArray 110, rowsR vs opn, restR rs (· = k), blkR b5 (secVals s).toArray 29]) (l2 := [_, _])) (fun hHeld => ?_)
            clear hK K
            refine norm_ (a' := ?_) ?_ ?_
            rotate_left
            · show Act.put _ (some 35) _ = _
              simp only [Act.put, List.setIfInBounds_toArray, List.set_cons_zero, List.set_cons_succ, i64_w, i32_w]
              rfl
            refine one_ (i := 17) (N := some 36) #[true, true, true, true, true, true, true, true, true, true, true, true, true, true, true, true, true, true, false, false, false] rfl rfl (by kernel_rfl) (by decide) (fun K hK => ?_)
            refine value_ex (by rfl) rfl (hq35.xappsecs _ (k := 5) (b := b35) (p := 0) (m := 1) (c := 1) (ks := [s]) rfl rfl rfl rfl rfl (fun x hx => by simp at hx; rw [hx]; exact hsec) (many1 (hq35.blk (i := 6) rfl).1) HLN.out rfl) ?_
            rintro v36 w36 ⟨⟨a36, c36, rfl⟩, hq36⟩
            simp only [List.set_cons_zero, List.set_cons_succ, List.nil_append] at hq36
            refine hK.out _ _ (hq36.left (l1 := [blkR p [Value.slice (some ⟨bc, 0, none⟩) N N, .int .i64 st, .int .i64 af, .bool false].toArray 107, blkR bc (A ++ refCell (c, .slice none 0 0) ++ B).toArray 110, rowsR vs opn, restR rs (· = k), blkR b5 (secVals s).toArray 29]) (l2 := [_, _])) (fun hHeld => ?_)
            clear hK K
            refine norm_ (a' := ?_) ?_ ?_
            rotate_left
            · show Act.put _ (some 36) _ = _
              simp only [Act.put, List.setIfInBounds_toArray, List.set_cons_zero, List.set_cons_succ, i64_w, i32_w]
              rfl
            refine pure_ (i := 18) (N := some 37) (v := ?_) (a' := ?_) #[true, true, true, true, true, true, true, true, true, true, true, true, true, true, true, true, true, true, true, false, false] rfl rfl (by kernel_rfl) (fun _ _ _ h => h) (Or.inl ⟨by rfl, ?_⟩) ?_ ?_
            rotate_left
            · intro w'
              go_simp
              with_reducible rfl
            rotate_left
            · simp only [Act.put, List.setIfInBounds_toArray, List.set_cons_zero, List.set_cons_succ, i64_w, i32_w]
              rfl
            refine pure_ (i := 19) (N := some 38) (v := ?_) (a' := ?_) #[true, true, true, true, true, true, true, true, true, true, true, true, true, true, true, true, true, true, true, true, false] rfl rfl (by kernel_rfl) (fun _ _ _ h => h) (Or.inl ⟨by rfl, ?_⟩) ?_ ?_
            rotate_left
            · intro w'
              go_simp
              with_reducible rfl
            rotate_left
            · simp only [Act.put, List.setIfInBounds_toArray, List.set_cons_zero, List.set_cons_succ, i64_w, i32_w]
              rfl
            refine last_ (i := 20) (N := none) #[true, true, true, true, true, true, true, true, true, true, true, true, true, true, true, true, true, true, true, true, true] rfl rfl (by kernel_rfl) (by decide) (fun K hK => ?_)
            refine skip_ex (by rfl) rfl (hq36.xrsopen (k := 1) (i := m) rfl hA hcok rfl rfl rfl) ?_
            rintro w40 hq40
            simp only [List.set_cons_zero, List.set_cons_succ] at hq40
            refine hK.out _ _ ?_
            clear hK K
            refine done_ (by kernel_rfl) ?_
            clear hHeld
            have h5 := HEND.out _ _ _ _ (hq40.pick [5, 2, 0, 1, 3, 4] (by decide) rfl)
            clear ho
            go_wp2
            go_ret
            rw [HR.out]
            exact ⟨rfl, h5⟩
          · skip
            refine value_ex (by rfl) rfl (hq24.xsec1 (s := s) rfl hsec rfl) ?_
            rintro v35 w35 ⟨b35, rfl, hq35⟩
            simp only [List.cons_append, List.nil_append] at hq35
            refine hK.out _ _ (hq35.left (l1 := [blkR p [Value.slice (some ⟨bc, 0, none⟩) N N, .int .i64 st, .int .i64 af, .bool false].toArray 107, blkR bc (A ++ refCell (c, .slice none 0 0) ++ B).toArray 110, rowsR vs opn, restR rs (· = k), blkR b5 (secVals s).toArray 29]) (l2 := [_, _])) (fun hHeld => ?_)
            clear hK K
            refine norm_ (a' := ?_) ?_ ?_
            rotate_left
            · show Act.put _ (some 35) _ = _
              simp only [Act.put, List.setIfInBounds_toArray, List.set_cons_zero, List.set_cons_succ, i64_w, i32_w]
              rfl
            refine one_ (i := 14) (N := some 33) #[true, true, true, true, true, true, true, true, true, true, true, true, true, true, true, true, true, false, false, false, false] rfl rfl (by kernel_rfl) (by decide) (fun K hK => ?_)
            refine value_ (by rfl) rfl (ex_append_none (a := some ⟨b24, 0, none⟩) (m := 0) (c := 0) (Nat.le_refl _) rfl rfl rfl) ?_
            refine hK.out _ _ (hq35.left (l1 := [blkR p [Value.slice (some ⟨bc, 0, none⟩) N N, .int .i64 st, .int .i64 af, .bool false].toArray 107, blkR bc (A ++ refCell (c, .slice none 0 0) ++ B).toArray 110, rowsR vs opn, restR rs (· = k), blkR b5 (secVals s).toArray 29]) (l2 := [_, _])) (fun hHeld => ?_)
            clear hK K
            refine norm_ (a' := ?_) ?_ ?_
            rotate_left
            · show Act.put _ (some 33) _ = _
              simp only [Act.put, List.setIfInBounds_toArray, List.set_cons_zero, List.set_cons_succ, i64_w, i32_w]
              rfl
            refine one_ (i := 17) (N := some 36) #[true, true, true, true, true, true, true, true, true, true, true, true, true, true, true, true, true, true, false, false, false] rfl rfl (by kernel_rfl) (by decide) (fun K hK => ?_)
            refine value_ex (by rfl) rfl (hq35.xappsecs _ (k := 5) (b := b35) (p := 0) (m := 1) (c := 1) (ks := [s]) rfl rfl rfl rfl rfl (fun x hx => by simp at hx; rw [hx]; exact hsec) (many1 (hq35.blk (i := 6) rfl).1) HLN.out rfl) ?_
            rintro v36 w36 ⟨⟨a36, c36, rfl⟩, hq36⟩
            simp only [List.set_cons_zero, List.set_cons_succ, List.nil_append] at hq36
            refine hK.out _ _ (hq36.left (l1 := [blkR p [Value.slice (some ⟨bc, 0, none⟩) N N, .int .i64 st, .int .i64 af, .bool false].toArray 107, blkR bc (A ++ refCell (c, .slice none 0 0) ++ B).toArray 110, rowsR vs opn, restR rs (· = k), blkR b5 (secVals s).toArray 29]) (l2 := [_, _])) (fun hHeld => ?_)
            clear hK K
            refine norm_ (a' := ?_) ?_ ?_
            rotate_left
            · show Act.put _ (some 36) _ = _
              simp only [Act.put, List.setIfInBounds_toArray, List.set_cons_zero, List.set_cons_succ, i64_w, i32_w]
              rfl
            refine pure_ (i := 18) (N := some 37) (v := ?_) (a' := ?_) #[true, true, true, true, true, true, true, true, true, true, true, true, true, true, true, true, true, true, true, false, false] rfl rfl (by kernel_rfl) (fun _ _ _ h => h) (Or.inl ⟨by rfl, ?_⟩) ?_ ?_
            rotate_left
            · intro w'
              go_simp
              with_reducible rfl
            rotate_left
            · simp only [Act.put, List.setIfInBounds_toArray, List.set_cons_zero, List.set_cons_succ, i64_w, i32_w]
              rfl
            refine pure_ (i := 19) (N := some 38) (v := ?_) (a' := ?_) #[true, true, true, true, true, true, true, true, true, true, true, true, true, true, true, true, true, true, true, true, false] rfl rfl (by kernel_rfl) (fun _ _ _ h => h) (Or.inl ⟨by rfl, ?_⟩) ?_ ?_
            rotate_left
            · intro w'
              go_simp
              with_reducible rfl
            rotate_left
            · simp only [Act.put, List.setIfInBounds_toArray, List.set_cons_zero, List.set_cons_succ, i64_w, i32_w]
              rfl
            refine last_ (i := 20) (N := none) #[true, true, true, true, true, true, true, true, true, true, true, true, true, true, true, true, true, true, true, true, true] rfl rfl (by kernel_rfl) (by decide) (fun K hK => ?_)
            refine skip_ex (by rfl) rfl (hq36.xrsopen (k := 1) (i := m) rfl hA hcok rfl rfl rfl) ?_
            rintro w40 hq40
            simp only [List.set_cons_zero, List.set_cons_succ] at hq40
            refine hK.out _ _ ?_
            clear hK K
            refine done_ (by kernel_rfl) ?_
            clear hHeld
            have h5 := HEND.out _ _ _ _ (hq40.pick [5, 2, 0, 1, 3, 4] (by decide) rfl)
            clear ho
            go_wp2
            go_ret
            rw [HR.out]
            exact ⟨rfl, h5⟩
        · skip
          refine value_ex (by rfl) rfl (hHeld.xsec1 (s := s) rfl hsec rfl) ?_
          rintro v35 w35 ⟨b35, rfl, hq35⟩
          simp only [List.cons_append, List.nil_append] at hq35
          refine hK.out _ _ (hq35.left (l1 := [blkR p [Value.slice (some ⟨bc, 0, none⟩) N N, .int .i64 st, .int .i64 af, .bool false].toArray 107, blkR bc (A ++ refCell (c, .slice none 0 0) ++ B).toArray 110, rowsR vs opn, restR rs (· = k), blkR b5 (secVals s).toArray 29]) (l2 := [_])) (fun hHeld => ?_)
          clear hK K
          refine norm_ (a' := ?_) ?_ ?_
          rotate_left
          · show Act.put _ (some 35) _ = _
            simp only [Act.put, List.setIfInBounds_toArray, List.set_cons_zero, List.set_cons_succ, i64_w, i32_w]
            rfl
          refine one_ (i := 5) (N := some 24) #[true, true, true, true, true, true, true, true, true, true, true, true, true, true, false, true, true, false, false, false, false] rfl rfl (by kernel_rfl) (by decide) (fun K hK => ?_)
          refine value_ex (by rfl) rfl (hq35.xsecs0 rfl) ?_
          rintro v24 w24 ⟨b24, rfl, hq24⟩
          simp only [List.cons_append, List.nil_append] at hq24
          refine hK.out _ _ (hq24.left (l1 := [blkR p [Value.slice (some ⟨bc, 0, none⟩) N N, .int .i64 st, .int .i64 af, .bool false].toArray 107, blkR bc (A ++ refCell (c, .slice none 0 0) ++ B).toArray 110, rowsR vs opn, restR rs (· = k), blkR b5 (secVals s).toArray 29]) (l2 := [_, _])) (fun hHeld => ?_)
          clear hK K
          refine norm_ (a' := ?_) ?_ ?_
          rotate_left
          · show Act.put _ (some 24) _ = _
            simp only [Act.put, List.setIfInBounds_toArray, List.set_cons_zero, List.set_cons_succ, i64_w, i32_w]
            rfl
          refine one_ (i := 14) (N := some 33) #[true, true, true, true, true, true, true, true, true, true, true, true, true, true, true, true, true, false, false, false, false] rfl rfl (by kernel_rfl) (by decide) (fun K hK => ?_)
          refine value_ (by rfl) rfl (ex_append_none (a := some ⟨b24, 0, none⟩) (m := 0) (c := 0) (Nat.le_refl _) rfl rfl rfl) ?_
          refine hK.out _ _ (hq24.left (l1 := [blkR p [Value.slice (some ⟨bc, 0, none⟩) N N, .int .i64 st, .int .i64 af, .bool false].toArray 107, blkR bc (A ++ refCell (c, .slice none 0 0) ++ B).toArray 110, rowsR vs opn, restR rs (· = k), blkR b5 (secVals s).toArray 29]) (l2 := [_, _])) (fun hHeld => ?_)
          clear hK K
          refine norm_ (a' := ?_) ?_ ?_
          rotate_left
          · show Act.put _ (some 33) _ = _
            simp only [Act.put, List.setIfInBounds_toArray, List.set_cons_zero, List.set_cons_succ, i64_w, i32_w]
            rfl
          refine one_ (i := 17) (N := some 36) #[true, true, true, true, true, true, true, true, true, true, true, true, true, true, true, true, true, true, false, false, false] rfl rfl (by kernel_rfl) (by decide) (fun K hK => ?_)
          refine value_ex (by rfl) rfl (hq24.xappsecs _ (k := 6) (b := b35) (p := 0) (m := 1) (c := 1) (ks := [s]) rfl rfl rfl rfl rfl (fun x hx => by simp at hx; rw [hx]; exact hsec) (many1 (hq24.blk (i := 5) rfl).1) HLN.out rfl) ?_
          rintro v36 w36 ⟨⟨a36, c36, rfl⟩, hq36⟩
          simp only [List.set_cons_zero, List.set_cons_succ, List.nil_append] at hq36
          refine hK.out _ _ (hq36.left (l1 := [blkR p [Value.slice (some ⟨bc, 0, none⟩) N N, .int .i64 st, .int .i64 af, .bool false].toArray 107, blkR bc (A ++ refCell (c, .slice none 0 0) ++ B).toArray 110, rowsR vs opn, restR rs (· = k), blkR b5 (secVals s).toArray 29]) (l2 := [_, _])) (fun hHeld => ?_)
          clear hK K
          refine norm_ (a' := ?_) ?_ ?_
          rotate_left
          · show Act.put _ (some 36) _ = _
            simp only [Act.put, List.setIfInBounds_toArray, List.set_cons_zero, List.set_cons_succ, i64_w, i32_w]
            rfl
          refine pure_ (i := 18) (N := some 37) (v := ?_) (a' := ?_) #[true, true, true, true, true, true, true, true, true, true, true, true, true, true, true, true, true, true, true, false, false] rfl rfl (by kernel_rfl) (fun _ _ _ h => h) (Or.inl ⟨by rfl, ?_⟩) ?_ ?_
          rotate_left
          · intro w'
            go_simp
            with_reducible rfl
          rotate_left
          · simp only [Act.put, List.setIfInBounds_toArray, List.set_cons_zero, List.set_cons_succ, i64_w, i32_w]
            rfl
          refine pure_ (i := 19) (N := some 38) (v := ?_) (a' := ?_) #[true, true, true, true, true, true, true, true, true, true, true, true, true, true, true, true, true, true, true, true, false] rfl rfl (by kernel_rfl) (fun _ _ _ h => h) (Or.inl ⟨by rfl, ?_⟩) ?_ ?_
          rotate_left
          · intro w'
            go_simp
            with_reducible rfl
          rotate_left
          · simp only [Act.put, List.setIfInBounds_toArray, List.set_cons_zero, List.set_cons_succ, i64_w, i32_w]
            rfl
          refine last_ (i := 20) (N := none) #[true, true, true, true, true, true, true, true, true, true, true, true, true, true, true, true, true, true, true, true, true] rfl rfl (by kernel_rfl) (by decide) (fun K hK => ?_)
          refine skip_ex (by rfl) rfl (hq36.xrsopen (k := 1) (i := m) rfl hA hcok rfl rfl rfl) ?_
          rintro w40 hq40
          simp only [List.set_cons_zero, List.set_cons_succ] at hq40
          refine hK.out _ _ ?_
          clear hK K
          refine done_ (by kernel_rfl) ?_
          clear hHeld
          have h5 := HEND.out _ _ _ _ (hq40.pick [6, 2, 0, 1, 3, 4] (by decide) rfl)
          clear ho
          go_wp2
          go_ret
          rw [HR.out]
          exact ⟨rfl, h5⟩
      · obtain ⟨g, rfl⟩ := hv1 hem
        obtain ⟨n, hn⟩ : ∃ n, n = (opn m).length := ⟨_, rfl⟩
        have HLN : Hid ((opn m).length + 1 < 1099511627776) := Lib.hid (by omega)
        rw [← hn] at ho hvi hln
        have HNN := Lib.hid hn.symm
        have HVI := Lib.hid hvi
        clear hem hv0 hv1 hvi hn
        refine start_ (n := 21) (S := fun w' => Own w0 w' [blkR p [Value.slice (some ⟨bc, 0, none⟩) N N, .int .i64 st, .int .i64 af, .bool false].toArray 107, blkR bc (A ++ refCell (c, .slice (some ⟨g, 0, none⟩) n cp) ++ B).toArray 110, rowsR vs opn, restR rs (· = k), blkR b5 (secVals s).toArray 29]) (ds := [20]) #[false, false, false, false, false, false, false, false, false, false, false, false, false, false, false, false, false, false, false, false, false] mixed rfl rfl (ho.nw ((Nw.refl _).drew)) (fun hHeld => ?_)
        refine pure_ (i := 0) (N := some 19) (v := ?_) (a' := ?_) #[true, false, false, false, false, false, false, false, false, false, false, false, false, false, false, false, false, false, false, false, false] rfl rfl (by kernel_rfl) (fun _ _ _ h => h) (Or.inl ⟨by rfl, ?_⟩) ?_ ?_
        rotate_left
        · intro w'
          go_simp
          with_reducible rfl
        rotate_left
        · simp only [Act.put, List.setIfInBounds_toArray, List.set_cons_zero, List.set_cons_succ, i64_w, i32_w]
          rfl
        refine pure_ (i := 1) (N := some 20) (v := ?_) (a' := ?_) #[true, true, false, false, false, false, false, false, false, false, false, false, false, false, false, false, false, false, false, false, false] rfl rfl (by kernel_rfl) (fun _ _ _ h => h) (Or.inl ⟨by rfl, ?_⟩) ?_ ?_
        rotate_left
        · intro w'
          go_simp
          with_reducible rfl
        rotate_left
        · simp only [Act.put, List.setIfInBounds_toArray, List.set_cons_zero, List.set_cons_succ, i64_w, i32_w]
          rfl
        refine pure_ (i := 2) (N := some 21) (v := ?_) (a' := ?_) #[true, true, true, false, false, false, false, false, false, false, false, false, false, false, false, false, false, false, false, false, false] rfl rfl (by kernel_rfl) (fun _ _ _ h => h) (Or.inl ⟨by rfl, ?_⟩) ?_ ?_
        rotate_left
        · intro w'
          go_simp
          with_reducible rfl
        rotate_left
        · simp only [Act.put, List.setIfInBounds_toArray, List.set_cons_zero, List.set_cons_succ, i64_w, i32_w]
          rfl
        refine take_ (i := 3) (N := some 22) (v := .slice (some ⟨bc, 0, none⟩) N N) (a' := ?_) #[true, true, true, true, false, false, false, false, false, false, false, false, false, false, false, false, false, false, false, false, false] rfl rfl (by kernel_rfl) (fun _ _ _ h => h) (Or.inl ⟨by rfl, ?_⟩) hHeld ?_ ?_
        · intro w' s0
          exact s0.xlcells (k := 0) (j := 0) rfl rfl rfl rfl
        rotate_left
        · simp only [Act.put, List.setIfInBounds_toArray, List.set_cons_zero, List.set_cons_succ, i64_w, i32_w]
          rfl
        refine pure_ (i := 4) (N := some 23) (v := ?_) (a' := ?_) #[true, true, true, true, true, false, false, false, false, false, false, false, false, false, false, false, false, false, false, false, false] rfl rfl (by kernel_rfl) (fun _ _ _ h => h) (Or.inl ⟨by rfl, ?_⟩) ?_ ?_
        rotate_left
        · intro w'
          go_simp
          with_reducible rfl
        rotate_left
        · simp only [Act.put, List.setIfInBounds_toArray, List.set_cons_zero, List.set_cons_succ, i64_w, i32_w]
          rfl
        refine pure_ (i := 6) (N := some 25) (v := ?_) (a' := ?_) #[true, true, true, true, true, false, true, false, false, false, false, false, false, false, false, false, false, false, false, false, false] rfl rfl (by kernel_rfl) (fun _ _ _ h => h) (Or.inl ⟨by rfl, ?_⟩) ?_ ?_
        rotate_left
        · intro w'
          go_simp
          with_reducible rfl
        rotate_left
        · simp only [Act.put, List.setIfInBounds_toArray, List.set_cons_zero, List.set_cons_succ, i64_w, i32_w]
          rfl
        refine pure_ (i := 7) (N := some 26) (v := ?_) (a' := ?_) #[true, true, true, true, true, false, true, true, false, false, false, false, false, false, false, false, false, false, false, false, false] rfl rfl (by kernel_rfl) (fun _ _ _ h => h) (Or.inl ⟨by rfl, ?_⟩) ?_ ?_
        rotate_left
        · intro w'
          go_simp
          with_reducible rfl
        rotate_left
        · simp only [Act.put, List.setIfInBounds_toArray, List.set_cons_zero, List.set_cons_succ, i64_w, i32_w]
          rfl
        refine pure_ (i := 8) (N := some 27) (v := ?_) (a' := ?_) #[true, true, true, true, true, false, true, true, true, false, false, false, false, false, false, false, false, false, false, false, false] rfl rfl (by kernel_rfl) (fun _ _ _ h => h) (Or.inl ⟨by rfl, ?_⟩) ?_ ?_
        rotate_left
        · intro w'
          go_simp
          with_reducible rfl
        rotate_left
        · simp only [Act.put, List.setIfInBounds_toArray, List.set_cons_zero, List.set_cons_succ, i64_w, i32_w]
          rfl
        refine take_ (i := 9) (N := some 28) (v := .slice (some ⟨bc, 0, none⟩) N N) (a' := ?_) #[true, true, true, true, true, false, true, true, true, true, false, false, false, false, false, false, false, false, false, false, false] rfl rfl (by kernel_rfl) (fun _ _ _ h => h) (Or.inl ⟨by rfl, ?_⟩) hHeld ?_ ?_
        · intro w' s0
          exact s0.xlcells (k := 0) (j := 0) rfl rfl rfl rfl
        rotate_left
        · simp only [Act.put, List.setIfInBounds_toArray, List.set_cons_zero, List.set_cons_succ, i64_w, i32_w]
          rfl
        refine pure_ (i := 10) (N := some 29) (v := ?_) (a' := ?_) #[true, true, true, true, true, false, true, true, true, true, true, false, false, false, false, false, false, false, false, false, false] rfl rfl (by kernel_rfl) (fun _ _ _ h => h) (Or.inl ⟨by rfl, ?_⟩) ?_ ?_
        rotate_left
        · intro w'
          go_simp
          with_reducible rfl
        rotate_left
        · simp only [Act.put, List.setIfInBounds_toArray, List.set_cons_zero, List.set_cons_succ, i64_w, i32_w]
          rfl
        refine pure_ (i := 11) (N := some 30) (v := ?_) (a' := ?_) #[true, true, true, true, true, false, true, true, true, true, true, true, false, false, false, false, false, false, false, false, false] rfl rfl (by kernel_rfl) (fun _ _ _ h => h) (Or.inl ⟨by rfl, ?_⟩) ?_ ?_
        rotate_left
        · intro w'
          go_simp
          with_reducible rfl
        rotate_left
        · simp only [Act.put, List.setIfInBounds_toArray, List.set_cons_zero, List.set_cons_succ, i64_w, i32_w]
          rfl
        refine pure_ (i := 12) (N := some 31) (v := ?_) (a' := ?_) #[true, true, true, true, true, false, true, true, true, true, true, true, true, false, false, false, false, false, false, false, false] rfl rfl (by kernel_rfl) (fun _ _ _ h => h) (Or.inl ⟨by rfl, ?_⟩) ?_ ?_
        rotate_left
        · intro w'
          go_simp
          with_reducible rfl
        rotate_left
        · simp only [Act.put, List.setIfInBounds_toArray, List.set_cons_zero, List.set_cons_succ, i64_w, i32_w]
          rfl
        refine take_ (i := 13) (N := some 32) (v := .slice (some ⟨g, 0, none⟩) n cp) (a' := ?_) #[true, true, true, true, true, false, true, true, true, true, true, true, true, true, false, false, false, false, false, false, false] rfl rfl (by kernel_rfl) (fun _ _ _ h => h) (Or.inl ⟨by rfl, ?_⟩) hHeld ?_ ?_
        · intro w' s0
          exact exl_ropen (cell_range s0 (k := 1) rfl hA) hcok rfl rfl
        rotate_left
        · simp only [Act.put, List.setIfInBounds_toArray, List.set_cons_zero, List.set_cons_succ, i64_w, i32_w]
          rfl
        refine take_ (i := 15) (N := some 34) (v := .agg (secVals s).toArray) (a' := ?_) #[true, true, true, true, true, false, true, true, true, true, true, true, true, true, false, true, false, false, false, false, false] rfl rfl (by kernel_rfl) (fun _ _ _ h => h) (Or.inl ⟨by rfl, ?_⟩) hHeld ?_ ?_
        · intro w' s0
          exact exl_sec rfl rfl hsec (sec_range_of_blk (s0.blk (i := 4) rfl).1)
        rotate_left
        · simp only [Act.put, List.setIfInBounds_toArray, List.set_cons_zero, List.set_cons_succ, i64_w, i32_w]
          rfl
        refine two_ (i := 5) (j := 16) (Ni := some 24) (Nj := some 35) #[true, true, true, true, true, true, true, true, true, true, true, true, true, true, false, true, false, false, false, false, false] #[true, true, true, true, true, false, true, true, true, true, true, true, true, true, false, true, true, false, false, false, false] rfl rfl rfl rfl (by kernel_rfl) (by decide) (by decide) (fun K hK => ?_) (fun K hK => ?_)
        · skip
          refine value_ex (by rfl) rfl (hHeld.xsecs0 rfl) ?_
          rintro v24 w24 ⟨b24, rfl, hq24⟩
          simp only [List.cons_append, List.nil_append] at hq24
          refine hK.out _ _ (hq24.left (l1 := [blkR p [Value.slice (some ⟨bc, 0, none⟩) N N, .int .i64 st, .int .i64 af, .bool false].toArray 107, blkR bc (A ++ refCell (c, .slice (some ⟨g, 0, none⟩) n cp) ++ B).toArray 110, rowsR vs opn, restR rs (· = k), blkR b5 (secVals s).toArray 29]) (l2 := [_])) (fun hHeld => ?_)
          clear hK K
          refine norm_ (a' := ?_) ?_ ?_
          rotate_left
          · show Act.put _ (some 24) _ = _
            simp only [Act.put, List.setIfInBounds_toArray, List.set_cons_zero, List.set_cons_succ, i64_w, i32_w]
            rfl
          refine two_ (i := 14) (j := 16) (Ni := some 33) (Nj := some 35) #[true, true, true, true, true, true, true, true, true, true, true, true, true, true, true, true, false, false, false, false, false] #[true, true, true, true, true, true, true, true, true, true, true, true, true, true, false, true, true, false, false, false, false] rfl rfl rfl rfl (by kernel_rfl) (by decide) (by decide) (fun K hK => ?_) (fun K hK => ?_)
          · skip
            refine value_ex (by rfl) rfl (hq24.xappsecs n (k := 5) (ks := opn m) rfl rfl rfl rfl HNN.out HOPN.out (hq24.rowMany (k := 2) rfl HVI.out) (by simp; omega) (by simp)) ?_
            rintro v33 w33 ⟨⟨a33, c33, rfl⟩, hq33⟩
            simp only [List.set_cons_zero, List.set_cons_succ, List.nil_append] at hq33
            refine hK.out _ _ (hq33.left (l1 := [blkR p [Value.slice (some ⟨bc, 0, none⟩) N N, .int .i64 st, .int .i64 af, .bool false].toArray 107, blkR bc (A ++ refCell (c, .slice (some ⟨g, 0, none⟩) n cp) ++ B).toArray 110, rowsR vs opn, restR rs (· = k), blkR b5 (secVals s).toArray 29]) (l2 := [_])) (fun hHeld => ?_)
            clear hK K
            refine norm_ (a' := ?_) ?_ ?_
            rotate_left
            · show Act.put _ (some 33) _ = _
              simp only [Act.put, List.setIfInBounds_toArray, List.set_cons_zero, List.set_cons_succ, i64_w, i32_w]
              rfl
            refine one_ (i := 16) (N := some 35) #[true, true, true, true, true, true, true, true, true, true, true, true, true, true, true, true, true, false, false, false, false] rfl rfl (by kernel_rfl) (by decide) (fun K hK => ?_)
            refine value_ex (by rfl) rfl (hq33.xsec1 (s := s) rfl hsec rfl) ?_
            rintro v35 w35 ⟨b35, rfl, hq35⟩
            simp only [List.cons_append, List.nil_append] at hq35
            refine hK.out _ _ (hq35.left (l1 := [blkR p [Value.slice (some ⟨bc, 0, none⟩) N N, .int .i64 st, .int .i64 af, .bool false].toArray 107, blkR bc (A ++ refCell (c, .slice (some ⟨g, 0, none⟩) n cp) ++ B).toArray 110, rowsR vs opn, restR rs (· = k), blkR b5 (secVals s).toArray 29]) (l2 := [_, _])) (fun hHeld => ?_)
            clear hK K
            refine norm_ (a' := ?_) ?_ ?_
            rotate_left
            · show Act.put _ (some 35) _ = _
              simp only [Act.put, List.setIfInBounds_toArray, List.set_cons_zero, List.set_cons_succ, i64_w, i32_w]
              rfl
            refine one_ (i := 17) (N := some 36) #[true, true, true, true, true, true, true, true, true, true, true, true, true, true, true, true, true, true, false, false, false] rfl rfl (by kernel_rfl) (by decide) (fun K hK => ?_)
            refine value_ex (by rfl) rfl (hq35.xappsecs _ (k := 5) (b := b35) (p := 0) (m := 1) (c := 1) (ks := [s]) rfl rfl rfl rfl rfl (fun x hx => by simp at hx; rw [hx]; exact hsec) (many1 (hq35.blk (i := 6) rfl).1) HLN.out rfl) ?_
            rintro v36 w36 ⟨⟨a36, c36, rfl⟩, hq36⟩
            simp only [List.set_cons_zero, List.set_cons_succ, List.nil_append] at hq36
            refine hK.out _ _ (hq36.left (l1 := [blkR p [Value.slice (some ⟨bc, 0, none⟩) N N, .int .i64 st, .int .i64 af, .bool false].toArray 107, blkR bc (A ++ refCell (c, .slice (some ⟨g, 0, none⟩) n cp) ++ B).toArray 110, rowsR vs opn, restR rs (· = k), blkR b5 (secVals s).toArray 29]) (l2 := [_, _])) (fun hHeld => ?_)
            clear hK K
            refine norm_ (a' := ?_) ?_ ?_
            rotate_left
            · show Act.put _ (some 36) _ = _
              simp only [Act.put, List.setIfInBounds_toArray, List.set_cons_zero, List.set_cons_succ, i64_w, i32_w]
              rfl
            refine pure_ (i := 18) (N := some 37) (v := ?_) (a' := ?_) #[true, true, true, true, true, true, true, true, true, true, true, true, true, true, true, true, true, true, true, false, false] rfl rfl (by kernel_rfl) (fun _ _ _ h => h) (Or.inl ⟨by rfl, ?_⟩) ?_ ?_
            rotate_left
            · intro w'
              go_simp
              with_reducible rfl
            rotate_left
            · simp only [Act.put, List.setIfInBounds_toArray, List.set_cons_zero, List.set_cons_succ, i64_w, i32_w]
              rfl
            refine pure_ (i := 19) (N := some 38) (v := ?_) (a' := ?_) #[true, true, true, true, true, true, true, true, true, true, true, true, true, true, true, true, true, true, true, true, false] rfl rfl (by kernel_rfl) (fun _ _ _ h => h) (Or.inl ⟨by rfl, ?_⟩) ?_ ?_
            rotate_left
            · intro w'
              go_simp
              with_reducible rfl
            rotate_left
            · simp only [Act.put, List.setIfInBounds_toArray, List.set_cons_zero, List.set_cons_succ, i64_w, i32_w]
              rfl
            refine last_ (i := 20) (N := none) #[true, true, true, true, true, true, true, true, true, true, true, true, true, true, true, true, true, true, true, true, true] rfl rfl (by kernel_rfl) (by decide) (fun K hK => ?_)
            refine skip_ex (by rfl) rfl (hq36.xrsopen (k := 1) (i := m) rfl hA hcok rfl rfl rfl) ?_
            rintro w40 hq40
            simp only [List.set_cons_zero, List.set_cons_succ] at hq40
            refine hK.out _ _ ?_
            clear hK K
            refine done_ (by kernel_rfl) ?_
            clear hHeld
            have h5 := HEND.out _ _ _ _ (hq40.pick [5, 2, 0, 1, 3, 4] (by decide) rfl)
            clear ho
            go_wp2
            go_ret
            rw [HR.out]
            exact ⟨rfl, h5⟩
          · skip
            refine value_ex (by rfl) rfl (hq24.xsec1 (s := s) rfl hsec rfl) ?_
            rintro v35 w35 ⟨b35, rfl, hq35⟩
            simp only [List.cons_append, List.nil_append] at hq35
            refine hK.out _ _ (hq35.left (l1 := [blkR p [Value.slice (some ⟨bc, 0, none⟩) N N, .int .i64 st, .int .i64 af, .bool false].toArray 107, blkR bc (A ++ refCell (c, .slice (some ⟨g, 0, none⟩) n cp) ++ B).toArray 110, rowsR vs opn, restR rs (· = k), blkR b5 (secVals s).toArray 29]) (l2 := [_, _])) (fun hHeld => ?_)
            clear hK K
            refine norm_ (a' := ?_) ?_ ?_
            rotate_left
            · show Act.put _ (some 35) _ = _
              simp only [Act.put, List.setIfInBounds_toArray, List.set_cons_zero, List.set_cons_succ, i64_w, i32_w]
              rfl
            refine one_ (i := 14) (N := some 33) #[true, true, true, true, true, true, true, true, true, true, true, true, true, true, true, true, true, false, false, false, false] rfl rfl (by kernel_rfl) (by decide) (fun K hK => ?_)
            refine value_ex (by rfl) rfl (hq35.xappsecs n (k := 5) (ks := opn m) rfl rfl rfl rfl HNN.out HOPN.out (hq35.rowMany (k := 2) rfl HVI.out) (by simp; omega) (by simp)) ?_
            rintro v33 w33 ⟨⟨a33, c33, rfl⟩, hq33⟩
            simp only [List.set_cons_zero, List.set_cons_succ, List.nil_append] at hq33
            refine hK.out _ _ (hq33.left (l1 := [blkR p [Value.slice (some ⟨bc, 0, none⟩) N N, .int .i64 st, .int .i64 af, .bool false].toArray 107, blkR bc (A ++ refCell (c, .slice (some ⟨g, 0, none⟩) n cp) ++ B).toArray 110, rowsR vs opn, restR rs (· = k), blkR b5 (secVals s).toArray 29]) (l2 := [_, _])) (fun hHeld => ?_)
            clear hK K
            refine norm_ (a' := ?_) ?_ ?_
            rotate_left
            · show Act.put _ (some 33) _ = _
              simp only [Act.put, List.setIfInBounds_toArray, List.set_cons_zero, List.set_cons_succ, i64_w, i32_w]
              rfl
            refine one_ (i := 17) (N := some 36) #[true, true, true, true, true, true, true, true, true, true, true, true, true, true, true, true, true, true, false, false, false] rfl rfl (by kernel_rfl) (by decide) (fun K hK => ?_)
            refine value_ex (by rfl) rfl (hq33.xappsecs _ (k := 5) (b := b35) (p := 0) (m := 1) (c := 1) (ks := [s]) rfl rfl rfl rfl rfl (fun x hx => by simp at hx; rw [hx]; exact hsec) (many1 (hq33.blk (i := 6) rfl).1) HLN.out rfl) ?_
            rintro v36 w36 ⟨⟨a36, c36, rfl⟩, hq36⟩
            simp only [List.set_cons_zero, List.set_cons_succ, List.nil_append] at hq36
            refine hK.out _ _ (hq36.left (l1 := [blkR p [Value.slice (some ⟨bc, 0, none⟩) N N, .int .i64 st, .int .i64 af, .bool false].toArray 107, blkR bc (A ++ refCell (c, .slice (some ⟨g, 0, none⟩) n cp) ++ B).toArray 110, rowsR vs opn, restR rs (· = k), blkR b5 (secVals s).toArray 29]) (l2 := [_, _])) (fun hHeld => ?_)
            clear hK K
            refine norm_ (a' := ?_) ?_ ?_
            rotate_left
            · show Act.put _ (some 36) _ = _
              simp only [Act.put, List.setIfInBounds_toArray, List.set_cons_zero, List.set_cons_succ, i64_w, i32_w]
              rfl
            refine pure_ (i := 18) (N := some 37) (v := ?_) (a' := ?_) #[true, true, true, true, true, true, true, true, true, true, true, true, true, true, true, true, true, true, true, false, false] rfl rfl (by kernel_rfl) (fun _ _ _ h => h) (Or.inl ⟨by rfl, ?_⟩) ?_ ?_
            rotate_left
            · intro w'
              go_simp
              with_reducible rfl
            rotate_left
            · simp only [Act.put, List.setIfInBounds_toArray, List.set_cons_zero, List.set_cons_succ, i64_w, i32_w]
              rfl
            refine pure_ (i := 19) (N := some 38) (v := ?_) (a' := ?_) #[true, true, true, true, true, true, true, true, true, true, true, true, true, true, true, true, true, true, true, true, false] rfl rfl (by kernel_rfl) (fun _ _ _ h => h) (Or.inl ⟨by rfl, ?_⟩) ?_ ?_
            rotate_left
            · intro w'
              go_simp
              with_reducible rfl
            rotate_left
            · simp only [Act.put, List.setIfInBounds_toArray, List.set_cons_zero, List.set_cons_succ, i64_w, i32_w]
              rfl
            refine last_ (i := 20) (N := none) #[true, true, true, true, true, true, true, true, true, true, true, true, true, true, true, true, true, true, true, true, true] rfl rfl (by kernel_rfl) (by decide) (fun K hK => ?_)
            refine skip_ex (by rfl) rfl (hq36.xrsopen (k := 1) (i := m) rfl hA hcok rfl rfl rfl) ?_
            rintro w40 hq40
            simp only [List.set_cons_zero, List.set_cons_succ] at hq40
            refine hK.out _ _ ?_
            clear hK K
            refine done_ (by kernel_rfl) ?_
            clear hHeld
            have h5 := HEND.out _ _ _ _ (hq40.pick [5, 2, 0, 1, 3, 4] (by decide) rfl)
            clear ho
            go_wp2
            go_ret
            rw [HR.out]
            exact ⟨rfl, h5⟩
        · skip
          refine value_ex (by rfl) rfl (hHeld.xsec1 (s := s) rfl hsec rfl) ?_
          rintro v35 w35 ⟨b35, rfl, hq35⟩
          simp only [List.cons_append, List.nil_append] at hq35
          refine hK.out _ _ (hq35.left (l1 := [blkR p [Value.slice (some ⟨bc, 0, none⟩) N N, .int .i64 st, .int .i64 af, .bool false].toArray 107, blkR bc (A ++ refCell (c, .slice (some ⟨g, 0, none⟩) n cp) ++ B).toArray 110, rowsR vs opn, restR rs (· = k), blkR b5 (secVals s).toArray 29]) (l2 := [_])) (fun hHeld => ?_)
          clear hK K
          refine norm_ (a' := ?_) ?_ ?_
          rotate_left
          · show Act.put _ (some 35) _ = _
            simp only [Act.put, List.setIfInBounds_toArray, List.set_cons_zero, List.set_cons_succ, i64_w, i32_w]
            rfl
          refine one_ (i := 5) (N := some 24) #[true, true, true, true, true, true, true, true, true, true, true, true, true, true, false, true, true, false, false, false, false] rfl rfl (by kernel_rfl) (by decide) (fun K hK => ?_)
          refine value_ex (by rfl) rfl (hq35.xsecs0 rfl) ?_
          rintro v24 w24 ⟨b24, rfl, hq24⟩
          simp only [List.cons_append, List.nil_append] at hq24
          refine hK.out _ _ (hq24.left (l1 := [blkR p [Value.slice (some ⟨bc, 0, none⟩) N N, .int .i64 st, .int .i64 af, .bool false].toArray 107, blkR bc (A ++ refCell (c, .slice (some ⟨g, 0, none⟩) n cp) ++ B).toArray 110, rowsR vs opn, restR rs (· = k), blkR b5 (secVals s).toArray 29]) (l2 := [_, _])) (fun hHeld => ?_)
          clear hK K
          refine norm_ (a' := ?_) ?_ ?_
          rotate_left
          · show Act.put _ (some 24) _ = _
            simp only [Act.put, List.setIfInBounds_toArray, List.set_cons_zero, List.set_cons_succ, i64_w, i32_w]
            rfl
          refine one_ (i := 14) (N := some 33) #[true, true, true, true, true, true, true, true, true, true, true, true, true, true, true, true, true, false, false, false, false] rfl rfl (by kernel_rfl) (by decide) (fun K hK => ?_)
          refine value_ex (by rfl) rfl (hq24.xappsecs n (k := 6) (ks := opn m) rfl rfl rfl rfl HNN.out HOPN.out (hq24.rowMany (k := 2) rfl HVI.out) (by simp; omega) (by simp)) ?_
          rintro v33 w33 ⟨⟨a33, c33, rfl⟩, hq33⟩
          simp only [List.set_cons_zero, List.set_cons_succ, List.nil_append] at hq33
          refine hK.out _ _ (hq33.left (l1 := [blkR p [Value.slice (some ⟨bc, 0, none⟩) N N, .int .i64 st, .int .i64 af, .bool false].toArray 107, blkR bc (A ++ refCell (c, .slice (some ⟨g, 0, none⟩) n cp) ++ B).toArray 110, rowsR vs opn, restR rs (· = k), blkR b5 (secVals s).toArray 29]) (l2 := [_, _])) (fun hHeld => ?_)
          clear hK K
          refine norm_ (a' := ?_) ?_ ?_
          rotate_left
          · show Act.put _ (some 33) _ = _
            simp only [Act.put, List.setIfInBounds_toArray, List.set_cons_zero, List.set_cons_succ, i64_w, i32_w]
            rfl
          refine one_ (i := 17) (N := some 36) #[true, true, true, true, true, true, true, true, true, true, true, true, true, true, true, true, true, true, false, false, false] rfl rfl (by kernel_rfl) (by decide) (fun K hK => ?_)
          refine value_ex (by rfl) rfl (hq33.xappsecs _ (k := 6) (b := b35) (p := 0) (m := 1) (c := 1) (ks := [s]) rfl rfl rfl rfl rfl (fun x hx => by simp at hx; rw [hx]; exact hsec) (many1 (hq33.blk (i := 5) rfl).1) HLN.out rfl) ?_
          rintro v36 w36 ⟨⟨a36, c36, rfl⟩, hq36⟩
          simp only [List.set_cons_zero, List.set_cons_succ, List.nil_append] at hq36
          refine hK.out _ _ (hq36.left (l1 := [blkR p [Value.slice (some ⟨bc, 0, none⟩) N N, .int .i64 st, .int .i64 af, .bool false].toArray 107, blkR bc (A ++ refCell (c, .slice (some ⟨g, 0, none⟩) n cp) ++ B).toArray 110, rowsR vs opn, restR rs (· = k), blkR b5 (secVals s).toArray 29]) (l2 := [_, _])) (fun hHeld => ?_)
          clear hK K
          refine norm_ (a' := ?_) ?_ ?_
          rotate_left
          · show Act.put _ (some 36) _ = _
            simp only [Act.put, List.setIfInBounds_toArray, List.set_cons_zero, List.set_cons_succ, i64_w, i32_w]
            rfl
          refine pure_ (i := 18) (N := some 37) (v := ?_) (a' := ?_) #[true, true, true, true, true, true, true, true, true, true, true, true, true, true, true, true, true, true, true, false, false] rfl rfl (by kernel_rfl) (fun _ _ _ h => h) (Or.inl ⟨by rfl, ?_⟩) ?_ ?_
          rotate_left
          · intro w'
            go_simp
            with_reducible rfl
          rotate_left
          · simp only [Act.put, List.setIfInBounds_toArray, List.set_cons_zero, List.set_cons_succ, i64_w, i32_w]
            rfl
          refine pure_ (i := 19) (N := some 38) (v := ?_) (a' := ?_) #[true, true, true, true, true, true, true, true, true, true, true, true, true, true, true, true, true, true, true, true, false] rfl rfl (by kernel_rfl) (fun _ _ _ h => h) (Or.inl ⟨by rfl, ?_⟩) ?_ ?_
          rotate_left
          · intro w'
            go_simp
            with_reducible rfl
          rotate_left
          · simp only [Act.put, List.setIfInBounds_toArray, List.set_cons_zero, List.set_cons_succ, i64_w, i32_w]
            rfl
          refine last_ (i := 20) (N := none) #[true, true, true, true, true, true, true, true, true, true, true, true, true, true, true, true, true, true, true, true, true] rfl rfl (by kernel_rfl) (by decide) (fun K hK => ?_)
          refine skip_ex (by rfl) rfl (hq36.xrsopen (k := 1) (i := m) rfl hA hcok rfl rfl rfl) ?_
          rintro w40 hq40
          simp only [List.set_cons_zero, List.set_cons_succ] at hq40
          refine hK.out _ _ ?_
          clear hK K
          refine done_ (by kernel_rfl) ?_
          clear hHeld
          have h5 := HEND.out _ _ _ _ (hq40.pick [6, 2, 0, 1, 3, 4] (by decide) rfl)
          clear ho
          go_wp2
          go_ret
          rw [HR.out]
          exact ⟨rfl, h5⟩
  · rw [if_pos hc] at hr
    obtain ⟨z, hz⟩ : ∃ z, z = d.check i := ⟨_, rfl⟩
    rw [← hz] at hc HC hr
    have hb1 : (z != 0) = true := by simp [hc]
    have HR := Lib.hid hr
    clear hz h hk hr
    go_enter Try.func44, Try.ntmps44
    go_wp2_with (first
      | (refine go_val_ex rfl (ho.xbox 5 rfl rfl (cs := secVals s) rfl) ?_; rintro v w1 ⟨b5, rfl, hq⟩; simp only [Act.put, List.setIfInBounds_toArray, List.set_cons_zero, List.set_cons_succ]; (try simp only [List.nil_append, List.cons_append, List.set_cons_zero, List.set_cons_succ] at hq); replace ho := hq; clear hq)
      | (go_at_call 51; refine (HC.out _ _ 0 ho rfl).mono ?_; rintro e w' ⟨rfl, rfl⟩))
    go_ret
    rw [HR.out]
    exact ⟨rfl, (ho.pick [0, 1] (by decide) rfl : Own w0 _ [refR p d, restR rs (· = k)]).back⟩
end
end Go.Proofs.Ytcaalfpfkalalaa
