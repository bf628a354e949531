/- slots: change. -/
import Derived.Test.YtcaalfpfkalalaaS8
set_option linter.unusedVariables false
set_option linter.unusedSimpArgs false
set_option maxRecDepth 10000
set_option maxHeartbeats 8000000
namespace Go.Proofs.Ytcaalfpfkalalaa
open Go.RowKit Qd
open Go.Proofs.YtcaalfpfkalalaaW.PrintLast
theorem num_bd {s : Sec} (hs : SecOk s) : 0 ≤ num s 0 ∧ num s 0 < 4294967296 := by
  have h : ∀ j, j < 64 → 0 ≤ s.getD j 0 ∧ s.getD j 0 < 256 := fun j hj => by
    have hl : j < s.length := by have := hs.1; omega
    rw [List.getD_eq_getElem?_getD, List.getElem?_eq_getElem hl]
    exact hs.2 _ (List.getElem_mem hl)
  have h0 := h 0 (by omega)
  have h1 := h 1 (by omega)
  have h2 := h 2 (by omega)
  have h3 := h 3 (by omega)
  unfold num
  simp only [Nat.zero_add]
  omega
attribute [local irreducible] diskR blkR rowR objR restR secVals SecOk DiskIn Own foundVals feOf
section
variable {w0 w : World} {rs : List Res} {k j p q : Nat} {d : Disk}
theorem Own.slot_ (h : Own w0 w rs) (hk : rs[k]? = some (diskR p d)) {first nn i : Int} (hf0 : 0 ≤ first) (hf1 : first ≤ 65536) (hi0 : 0 ≤ i) (hi1 : i ≤ 65536) :
    Calls Try.prog 38 #[.agg #[.pointer (some ⟨p, 0, none⟩), .int .i64 first, .int .i64 nn], .int .i64 i] w fun e w' => SlotPost d first i e ∧ Own w0 w' rs := by
  obtain ⟨S, hd, hlt⟩ := h.disk hk
  refine (slot_calls hd hlt hf0 hf1 hi0 hi1).mono ?_
  rintro e w' ⟨he, hn⟩
  exact ⟨he, h.nw hn⟩
theorem Own.okOf (h : Own w0 w rs) (hk : rs[k]? = some (diskR p d)) : d.Ok := by
  obtain ⟨S, hd, hlt⟩ := h.disk hk
  exact hd.ok
theorem Own.change_ (h : Own w0 w rs) (hk : rs[k]? = some (diskR p d)) {first nn i : Int} (hj : rs[j]? = some (blkR q #[.pointer (some ⟨p, 0, none⟩), .int .i64 first, .int .i64 nn] 93)) (hne : k ≠ j)
    (hf0 : 0 ≤ first) (hf1 : first ≤ 65536) (hi0 : 0 ≤ i) (hi1 : i ≤ 65536) {s : ByteArray} (hs : s.size ≤ 55) (hst : d.steps < 1099511626000) :
    Calls Try.prog 40 #[.pointer (some ⟨q, 0, none⟩), .int .i64 i, .string s] w fun e w' => e = .returned (.int .i64 (d.change first i (strInts s)).2) ∧ Own w0 w' (rs.set k (diskR p (d.change first i (strInts s)).1)) := by
  have hdok := h.okOf hk
  have ho := h.focus2 hk hj hne
  have hend : ∀ (w' : World) (d' : Disk), Own w0 w' [diskR p d', blkR q #[.pointer (some ⟨p, 0, none⟩), .int .i64 first, .int .i64 nn] 93, restR rs (fun i => i = k ∨ i = j)] → Own w0 w' (rs.set k (diskR p d')) := fun _ _ h' =>
    (h'.back2 hne).set_same (by rw [List.getElem?_set_ne hne]; exact hj)
  have HEND := Lib.hid hend
  clear h hk hj hend
  obtain ⟨x, hx⟩ : ∃ x, x = d.slot first i := ⟨_, rfl⟩
  have hxok := slot_ok hdok first i
  rw [← hx] at hxok
  obtain ⟨hx1, hx2⟩ := hxok
  obtain ⟨r, hr⟩ : ∃ r, r = d.change first i (strInts s) := ⟨_, rfl⟩
  rw [← hr]
  unfold Disk.change at hr
  simp only [] at hr
  rw [← hx] at hr
  have HX := Lib.hid hx
  clear hx
  have hstx : d.steps < 1099511627000 := by omega
  have hst1' : (d.heal first i).1.steps < 1099511627000 := by have := heal_steps d first i; omega
  have hnb := num_bd hx1
  have e1 : IntKind.i64.wrap (2 * i) = 2 * i := IntWalk.i64_in _ (by omega)
  have HA14 : Hid (wrap64 (first + wrap64 (2 * i)) = first + 2 * i) := Lib.hid (by rw [← i64_w, ← i64_w, e1]; exact IntWalk.i64_in _ (by omega))
  have HA11 : Hid (wrap64 (wrap64 (first + wrap64 (2 * i)) + 1) = first + 2 * i + 1) := Lib.hid (by rw [HA14.out, ← i64_w]; exact IntWalk.i64_in _ (by omega))
  clear e1
  by_cases hxe : x.e = 0
  · rw [if_neg (by simp [hxe])] at hr
    obtain ⟨ba, hba⟩ : ∃ b, b = (if x.second = true then first + 2 * i + 1 else first + 2 * i) := ⟨_, rfl⟩
    obtain ⟨oa, hoa⟩ : ∃ b, b = (if x.second = true then first + 2 * i else first + 2 * i + 1) := ⟨_, rfl⟩
    have hsp : ∀ e, SlotPost d first i e → e = .returned (.tuple #[.agg (foundVals x.best.s ba x.best.good).toArray, .agg (foundVals x.other.s oa x.other.good).toArray, .int .i64 0]) := fun e he => by
      unfold SlotPost at he
      rw [← HX.out, if_neg (by simp [hxe]), ← hba, ← hoa] at he
      exact he
    have hheal : (if x.best.good = false ∨ (x.other.good = true ∧ x.other.s = x.best.s) then (d, 0) else d.wsync oa x.best.s) = d.heal first i := by
      unfold Disk.heal
      simp only []
      rw [← HX.out, hoa]
      rfl
    have HSP := Lib.hid hsp
    obtain ⟨u1, hu1⟩ : ∃ u, u = d.heal first i := ⟨_, rfl⟩
    obtain ⟨d1, eh⟩ := u1
    rw [← hu1] at hheal hst1' hr
    simp only [] at hr
    have hst1 : d1.steps < 1099511626900 := by have := heal_steps d first i; rw [← hu1] at this; simp only at this; omega
    obtain ⟨sn, hsn'⟩ : ∃ sn, sn = x.next (strInts s) := ⟨_, rfl⟩
    rw [← hsn'] at hr
    obtain ⟨u2, hu2⟩ : ∃ u, u = d1.wsync (first + 2 * i + 1) sn := ⟨_, rfl⟩
    obtain ⟨d2, e2⟩ := u2
    rw [← hu2] at hr
    simp only [] at hr
    obtain ⟨u3, hu3⟩ : ∃ u, u = d2.wsync (first + 2 * i) sn := ⟨_, rfl⟩
    obtain ⟨d3, e3⟩ := u3
    rw [← hu3] at hr
    have hst2 : d2.steps < 1099511627000 := by have := wsync_steps d1 (first + 2 * i + 1) sn; rw [← hu2] at this; simp only at this; omega
    have HH1 := Lib.hid (congrArg Prod.fst hheal)
    have HH2 := Lib.hid (congrArg Prod.snd hheal)
    have HW1 := Lib.hid (congrArg Prod.fst hu2.symm)
    have HW2 := Lib.hid (congrArg Prod.snd hu2.symm)
    have HV1 := Lib.hid (congrArg Prod.fst hu3.symm)
    have HV2 := Lib.hid (congrArg Prod.snd hu3.symm)
    simp only [] at HH1 HH2 HW1 HW2 HV1 HV2
    have HR := Lib.hid hr
    clear hsp hheal hba hoa hxe hst1' hu1 hu2 hu3 hr
    by_cases heh : eh = 0
    · have hb1 : (eh != 0) = false := by simp [heh]
      have HX1 := Lib.hid heh
      clear heh
      have hr : r = if e2 ≠ 0 then (d2, e2) else (d3, e3) := by rw [HR.out, if_neg (by simp [HX1.out])]
      clear HR
      by_cases he2 : e2 = 0
      · have hb2 : (e2 != 0) = false := by simp [he2]
        rw [if_neg (by simp [he2])] at hr
        have hr1 : r.1 = d3 := by rw [hr]
        have hr2 : r.2 = e3 := by rw [hr]
        rw [hr1, hr2]
        clear hr hr1 hr2 he2
        cases hg : x.best.good with
        | true =>
          have hnx : sn = copySec ((num x.best.s 0 + 1) % 4294967296) (strInts s) := by rw [hsn']; unfold Both.next; rw [hg]; rfl
          have hsn : SecOk sn := by rw [hnx]; exact copySec_ok _ (strInts_ok s)
          have HNX := Lib.hid hnx
          have hq0 : 0 ≤ ((num x.best.s 0 + 1) % 4294967296 : Int) := by omega
          have hq1 : ((num x.best.s 0 + 1) % 4294967296 : Int) < 4294967296 := by omega
          have HG := Lib.hid hg
          clear hnx hsn' hg
          go_enter Try.func40, Try.ntmps40
          go_upto_region 4 with (first
            | (refine go_val rfl (exl_part (x := .tmp 17) (b := q) rfl rfl (ho.blk (i := 1) rfl).1) ?_; simp only [Act.put, List.setIfInBounds_toArray, List.set_cons_zero, List.set_cons_succ])
            | (go_at_call 38; refine (ho.slot_ (k := 0) rfl hf0 hf1 hi0 hi1).mono ?_; rintro e w' ⟨he, hq⟩; rw [HSP.out e he]; clear he; (try simp only [List.nil_append, List.cons_append, List.set_cons_zero, List.set_cons_succ] at hq); replace ho := hq; clear hq)
            | (refine go_val_ex rfl (ho.xafound 7 rfl rfl) ?_; rintro v w1 ⟨b7, rfl, hq⟩; simp only [Act.put, List.setIfInBounds_toArray, List.set_cons_zero, List.set_cons_succ]; (try simp only [List.nil_append, List.cons_append, List.set_cons_zero, List.set_cons_succ] at hq); replace ho := hq; clear hq)
            | (refine go_val_ex rfl (ho.xafound 8 rfl rfl) ?_; rintro v w1 ⟨b8, rfl, hq⟩; simp only [Act.put, List.setIfInBounds_toArray, List.set_cons_zero, List.set_cons_succ]; (try simp only [List.nil_append, List.cons_append, List.set_cons_zero, List.set_cons_succ] at hq); replace ho := hq; clear hq)
            | (refine go_skp_ex rfl (ho.xsfound (k := 3) (s' := x.best.s) (x := .tmp 7) (y := .tmp 21) rfl rfl rfl zeroSec_ok hx1 rfl) ?_; rintro w1 hq; simp only [Act.put, List.setIfInBounds_toArray, List.set_cons_zero, List.set_cons_succ]; (try simp only [List.nil_append, List.cons_append, List.set_cons_zero, List.set_cons_succ] at hq); replace ho := hq; clear hq)
            | (refine go_skp_ex rfl (ho.xsfound (k := 4) (s' := x.other.s) (x := .tmp 8) (y := .tmp 22) rfl rfl rfl zeroSec_ok hx2 rfl) ?_; rintro w1 hq; simp only [Act.put, List.setIfInBounds_toArray, List.set_cons_zero, List.set_cons_succ]; (try simp only [List.nil_append, List.cons_append, List.set_cons_zero, List.set_cons_succ] at hq); replace ho := hq; clear hq))
          refine start_ (n := 8) (S := fun w' => Own w0 w' [diskR p d, blkR q #[.pointer (some ⟨p, 0, none⟩), .int .i64 first, .int .i64 nn] 93, restR rs (fun i => i = k ∨ i = j), blkR b7 (foundVals x.best.s ba x.best.good).toArray 95, blkR b8 (foundVals x.other.s oa x.other.good).toArray 95]) (ds := [6]) #[false, false, false, false, false, false, false, false] mixed rfl rfl ((ho.nw ((Nw.refl _).drew))) (fun hHeld => ?_)
          refine pure_ (i := 0) (N := some 27) (v := ?_) (a' := ?_) #[true, false, false, false, false, false, false, false] rfl rfl (by kernel_rfl) (fun _ _ _ h => h) (Or.inl ⟨by rfl, ?_⟩) ?_ ?_
          rotate_left
          · intro w'
            go_simp
            with_reducible rfl
          rotate_left
          · simp only [Act.put, List.setIfInBounds_toArray, List.set_cons_zero, List.set_cons_succ, i64_w, i32_w]
            rfl
          refine pure_ (i := 1) (N := some 28) (v := ?_) (a' := ?_) #[true, true, false, false, false, false, false, false] rfl rfl (by kernel_rfl) (fun _ _ _ h => h) (Or.inl ⟨by rfl, ?_⟩) ?_ ?_
          rotate_left
          · intro w'
            go_simp
            with_reducible rfl
          rotate_left
          · simp only [Act.put, List.setIfInBounds_toArray, List.set_cons_zero, List.set_cons_succ, i64_w, i32_w]
            rfl
          refine pure_ (i := 2) (N := some 29) (v := ?_) (a' := ?_) #[true, true, true, false, false, false, false, false] rfl rfl (by kernel_rfl) (fun _ _ _ h => h) (Or.inl ⟨by rfl, ?_⟩) ?_ ?_
          rotate_left
          · intro w'
            go_simp
            with_reducible rfl
          rotate_left
          · simp only [Act.put, List.setIfInBounds_toArray, List.set_cons_zero, List.set_cons_succ, i64_w, i32_w]
            rfl
          refine take_ (i := 3) (N := some 30) (v := .agg #[.pointer (some ⟨p, 0, none⟩), .int .i64 first, .int .i64 nn]) (a' := ?_) #[true, true, true, true, false, false, false, false] rfl rfl (by kernel_rfl) (fun _ _ _ h => h) (Or.inl ⟨by rfl, ?_⟩) hHeld ?_ ?_
          · intro w' s0
            exact exl_part (b := q) rfl rfl (s0.blk (i := 1) rfl).1
          rotate_left
          · simp only [Act.put, List.setIfInBounds_toArray, List.set_cons_zero, List.set_cons_succ, i64_w, i32_w]
            rfl
          refine take_ (i := 4) (N := some 31) (v := .agg (foundVals x.best.s ba x.best.good).toArray) (a' := ?_) #[true, true, true, true, true, false, false, false] rfl rfl (by kernel_rfl) (fun _ _ _ h => h) (Or.inl ⟨by rfl, ?_⟩) hHeld ?_ ?_
          · intro w' s0
            exact s0.xlfound (k := 3) rfl rfl rfl hx1
          rotate_left
          · simp only [Act.put, List.setIfInBounds_toArray, List.set_cons_zero, List.set_cons_succ, i64_w, i32_w]
            rfl
          refine take_ (i := 5) (N := some 32) (v := .agg (foundVals x.other.s oa x.other.good).toArray) (a' := ?_) #[true, true, true, true, true, true, false, false] rfl rfl (by kernel_rfl) (fun _ _ _ h => h) (Or.inl ⟨by rfl, ?_⟩) hHeld ?_ ?_
          · intro w' s0
            exact s0.xlfound (k := 4) rfl rfl rfl hx2
          rotate_left
          · simp only [Act.put, List.setIfInBounds_toArray, List.set_cons_zero, List.set_cons_succ, i64_w, i32_w]
            rfl
          refine last_ (i := 6) (N := some 33) #[true, true, true, true, true, true, true, false] rfl rfl (by kernel_rfl) (by decide) (fun K hK => ?_)
          have s0 := hHeld
          refine goes_ Try.func39 (by kernel_rfl) rfl #[.agg #[.pointer (some ⟨p, 0, none⟩), .int .i64 first, .int .i64 nn], .agg (foundVals x.best.s ba x.best.good).toArray, .agg (foundVals x.other.s oa x.other.good).toArray] (by rfl) rfl rfl (by simp only [List.map_toArray, List.map_cons, List.map_nil]; rfl) ?_
          with_reducible refine ((s0.heal_ (k := 0) rfl first nn ba oa x.best.good x.other.good hx1 hx2 hstx)).mono ?_
          rintro e w5 ⟨rfl, hq⟩
          refine ⟨_, rfl, ?_⟩
          refine hK.out _ _ ?_
          clear hK K
          refine norm_ (a' := ?_) ?_ ?_
          rotate_left
          · show Act.put _ (some 33) _ = _
            simp only [Act.put, List.setIfInBounds_toArray, List.set_cons_zero, List.set_cons_succ, i64_w, i32_w]
            rfl
          refine pure_ (i := 7) (N := some 10) (v := ?_) (a' := ?_) #[true, true, true, true, true, true, true, true] rfl rfl (by kernel_rfl) (fun _ _ _ h => h) (Or.inl ⟨by rfl, ?_⟩) ?_ ?_
          rotate_left
          · intro w'
            go_simp
            with_reducible rfl
          rotate_left
          · simp only [Act.put, List.setIfInBounds_toArray, List.set_cons_zero, List.set_cons_succ, i64_w, i32_w]
            rfl
          refine done_ (by kernel_rfl) ?_
          rw [HH1.out] at hq
          rw [HH2.out]
          (try simp only [List.nil_append, List.cons_append, List.set_cons_zero, List.set_cons_succ] at hq); replace ho := hq; clear hq
          clear hHeld s0
          rw [HG.out] at ho
          go_upto_region 11 with (first
            | (refine go_val rfl (ho.xlfbool (k := 3) (x := .tmp 37) rfl rfl rfl hx1) ?_; simp only [Act.put, List.setIfInBounds_toArray, List.set_cons_zero, List.set_cons_succ])
            | (refine go_val rfl (ho.xlfsec (k := 3) (x := .tmp 39) rfl rfl rfl hx1) ?_; simp only [Act.put, List.setIfInBounds_toArray, List.set_cons_zero, List.set_cons_succ])
            | (go_at_call 55; refine (number0_calls hx1).mono ?_; rintro e w' ⟨rfl, hn5⟩; replace ho := ho.nw hn5; clear hn5)
            | (go_at_call 37; (try rw [IntKind.wrap_u32']); refine (make1_calls hq0 hq1 hs).mono ?_; rintro e w' ⟨rfl, hn5⟩; rw [← HNX.out]; replace ho := ho.nw hn5; clear hn5)
            | (refine go_val_ex rfl (ho.xallocAt 12 rfl rfl) ?_; rintro v w1 ⟨b12, rfl, hq⟩; simp only [Act.put, List.setIfInBounds_toArray, List.set_cons_zero, List.set_cons_succ]; (try simp only [List.nil_append, List.cons_append, List.set_cons_zero, List.set_cons_succ] at hq); replace ho := hq; clear hq)
            | (refine go_skp_ex rfl (ho.xstore (k := 5) (s' := sn) (x := .tmp 12) (y := .tmp 45) rfl rfl rfl zeroSec_ok hsn rfl) ?_; rintro w1 hq; simp only [Act.put, List.setIfInBounds_toArray, List.set_cons_zero, List.set_cons_succ]; (try simp only [List.nil_append, List.cons_append, List.set_cons_zero, List.set_cons_succ] at hq); replace ho := hq; clear hq))
          refine start_ (n := 16) (S := fun w' => Own w0 w' [diskR p d1, blkR q #[.pointer (some ⟨p, 0, none⟩), .int .i64 first, .int .i64 nn] 93, restR rs (fun i => i = k ∨ i = j), blkR b7 (foundVals x.best.s ba true).toArray 95, blkR b8 (foundVals x.other.s oa x.other.good).toArray 95, blkR b12 (secVals sn).toArray 29]) (ds := [14]) #[false, false, false, false, false, false, false, false, false, false, false, false, false, false, false, false] mixed rfl rfl ((ho.nw ((Nw.refl _).drew))) (fun hHeld => ?_)
          refine pure_ (i := 0) (N := some 46) (v := ?_) (a' := ?_) #[true, false, false, false, false, false, false, false, false, false, false, false, false, false, false, false] rfl rfl (by kernel_rfl) (fun _ _ _ h => h) (Or.inl ⟨by rfl, ?_⟩) ?_ ?_
          rotate_left
          · intro w'
            go_simp
            with_reducible rfl
          rotate_left
          · simp only [Act.put, List.setIfInBounds_toArray, List.set_cons_zero, List.set_cons_succ, i64_w, i32_w]
            rfl
          refine pure_ (i := 1) (N := some 47) (v := ?_) (a' := ?_) #[true, true, false, false, false, false, false, false, false, false, false, false, false, false, false, false] rfl rfl (by kernel_rfl) (fun _ _ _ h => h) (Or.inl ⟨by rfl, ?_⟩) ?_ ?_
          rotate_left
          · intro w'
            go_simp
            with_reducible rfl
          rotate_left
          · simp only [Act.put, List.setIfInBounds_toArray, List.set_cons_zero, List.set_cons_succ, i64_w, i32_w]
            rfl
          refine pure_ (i := 2) (N := some 48) (v := ?_) (a' := ?_) #[true, true, true, false, false, false, false, false, false, false, false, false, false, false, false, false] rfl rfl (by kernel_rfl) (fun _ _ _ h => h) (Or.inl ⟨by rfl, ?_⟩) ?_ ?_
          rotate_left
          · intro w'
            go_simp
            with_reducible rfl
          rotate_left
          · simp only [Act.put, List.setIfInBounds_toArray, List.set_cons_zero, List.set_cons_succ, i64_w, i32_w]
            rfl
          refine pure_ (i := 4) (N := some 50) (v := ?_) (a' := ?_) #[true, true, true, false, true, false, false, false, false, false, false, false, false, false, false, false] rfl rfl (by kernel_rfl) (fun _ _ _ h => h) (Or.inl ⟨by rfl, ?_⟩) ?_ ?_
          rotate_left
          · intro w'
            go_simp
            with_reducible rfl
          rotate_left
          · simp only [Act.put, List.setIfInBounds_toArray, List.set_cons_zero, List.set_cons_succ, i64_w, i32_w]
            rfl
          refine pure_ (i := 5) (N := some 51) (v := ?_) (a' := ?_) #[true, true, true, false, true, true, false, false, false, false, false, false, false, false, false, false] rfl rfl (by kernel_rfl) (fun _ _ _ h => h) (Or.inl ⟨by rfl, ?_⟩) ?_ ?_
          rotate_left
          · intro w'
            go_simp
            with_reducible rfl
          rotate_left
          · simp only [Act.put, List.setIfInBounds_toArray, List.set_cons_zero, List.set_cons_succ, i64_w, i32_w]
            rfl
          refine pure_ (i := 6) (N := some 52) (v := ?_) (a' := ?_) #[true, true, true, false, true, true, true, false, false, false, false, false, false, false, false, false] rfl rfl (by kernel_rfl) (fun _ _ _ h => h) (Or.inl ⟨by rfl, ?_⟩) ?_ ?_
          rotate_left
          · intro w'
            go_simp
            with_reducible rfl
          rotate_left
          · simp only [Act.put, List.setIfInBounds_toArray, List.set_cons_zero, List.set_cons_succ, i64_w, i32_w]
            rfl
          refine pure_ (i := 7) (N := some 53) (v := ?_) (a' := ?_) #[true, true, true, false, true, true, true, true, false, false, false, false, false, false, false, false] rfl rfl (by kernel_rfl) (fun _ _ _ h => h) (Or.inl ⟨by rfl, ?_⟩) ?_ ?_
          rotate_left
          · intro w'
            go_simp
            with_reducible rfl
          rotate_left
          · simp only [Act.put, List.setIfInBounds_toArray, List.set_cons_zero, List.set_cons_succ, i64_w, i32_w]
            rfl
          refine pure_ (i := 9) (N := some 55) (v := ?_) (a' := ?_) #[true, true, true, false, true, true, true, true, false, true, false, false, false, false, false, false] rfl rfl (by kernel_rfl) (fun _ _ _ h => h) (Or.inl ⟨by rfl, ?_⟩) ?_ ?_
          rotate_left
          · intro w'
            go_simp
            with_reducible rfl
          rotate_left
          · simp only [Act.put, List.setIfInBounds_toArray, List.set_cons_zero, List.set_cons_succ, i64_w, i32_w]
            rfl
          refine pure_ (i := 10) (N := some 56) (v := ?_) (a' := ?_) #[true, true, true, false, true, true, true, true, false, true, true, false, false, false, false, false] rfl rfl (by kernel_rfl) (fun _ _ _ h => h) (Or.inl ⟨by rfl, ?_⟩) ?_ ?_
          rotate_left
          · intro w'
            go_simp
            with_reducible rfl
          rotate_left
          · simp only [Act.put, List.setIfInBounds_toArray, List.set_cons_zero, List.set_cons_succ, i64_w, i32_w]
            rfl
          refine take_ (i := 3) (N := some 49) (v := .agg #[.pointer (some ⟨p, 0, none⟩), .int .i64 first, .int .i64 nn]) (a' := ?_) #[true, true, true, true, true, true, true, true, false, true, true, false, false, false, false, false] rfl rfl (by kernel_rfl) (fun _ _ _ h => h) (Or.inl ⟨by rfl, ?_⟩) hHeld ?_ ?_
          · intro w' s0
            exact exl_part (b := q) rfl rfl (s0.blk (i := 1) rfl).1
          rotate_left
          · simp only [Act.put, List.setIfInBounds_toArray, List.set_cons_zero, List.set_cons_succ, i64_w, i32_w]
            rfl
          refine take_ (i := 8) (N := some 54) (v := .int .i64 first) (a' := ?_) #[true, true, true, true, true, true, true, true, true, true, true, false, false, false, false, false] rfl rfl (by kernel_rfl) (fun _ _ _ h => h) (Or.inl ⟨by rfl, ?_⟩) hHeld ?_ ?_
          · intro w' s0
            exact s0.xint1 (k := 1) (j := 1) rfl rfl rfl rfl
          rotate_left
          · simp only [Act.put, List.setIfInBounds_toArray, List.set_cons_zero, List.set_cons_succ, i64_w, i32_w]
            rfl
          refine pure_ (i := 11) (N := some 57) (v := ?_) (a' := ?_) #[true, true, true, true, true, true, true, true, true, true, true, true, false, false, false, false] rfl rfl (by kernel_rfl) (fun _ _ _ h => h) (Or.inl ⟨by rfl, ?_⟩) ?_ ?_
          rotate_left
          · intro w'
            go_simp
            with_reducible rfl
          rotate_left
          · simp only [Act.put, List.setIfInBounds_toArray, List.set_cons_zero, List.set_cons_succ, i64_w, i32_w]
            rfl
          refine pure_ (i := 12) (N := some 58) (v := ?_) (a' := ?_) #[true, true, true, true, true, true, true, true, true, true, true, true, true, false, false, false] rfl rfl (by kernel_rfl) (fun _ _ _ h => h) (Or.inl ⟨by rfl, ?_⟩) ?_ ?_
          rotate_left
          · intro w'
            go_simp
            with_reducible rfl
          rotate_left
          · simp only [Act.put, List.setIfInBounds_toArray, List.set_cons_zero, List.set_cons_succ, i64_w, i32_w]
            rfl
          refine take_ (i := 13) (N := some 59) (v := .agg (secVals sn).toArray) (a' := ?_) #[true, true, true, true, true, true, true, true, true, true, true, true, true, true, false, false] rfl rfl (by kernel_rfl) (fun _ _ _ h => h) (Or.inl ⟨by rfl, ?_⟩) hHeld ?_ ?_
          · intro w' s0
            exact s0.xload (k := 5) rfl rfl rfl hsn
          rotate_left
          · simp only [Act.put, List.setIfInBounds_toArray, List.set_cons_zero, List.set_cons_succ, i64_w, i32_w]
            rfl
          refine last_ (i := 14) (N := some 60) #[true, true, true, true, true, true, true, true, true, true, true, true, true, true, true, false] rfl rfl (by kernel_rfl) (by decide) (fun K hK => ?_)
          have s0 := hHeld
          refine goes_ Try.func56 (by kernel_rfl) rfl #[.agg #[.pointer (some ⟨p, 0, none⟩), .int .i64 first, .int .i64 nn], .int .i64 (first + 2 * i + 1), .agg (secVals sn).toArray] (by rfl) rfl rfl (by simp only [List.map_toArray, List.map_cons, List.map_nil]; refine Eq.trans (b := #[.agg #[.pointer (some ⟨p, 0, none⟩), .int .i64 first, .int .i64 nn], .int .i64 (wrap64 (wrap64 (first + wrap64 (2 * i)) + 1)), .agg (secVals sn).toArray]) (by rfl) ?_; rw [HA11.out]) ?_
          with_reducible refine ((s0.wsync_ (k := 0) rfl first nn (first + 2 * i + 1) hsn (by omega))).mono ?_
          rintro e w5 ⟨rfl, hq⟩
          refine ⟨_, rfl, ?_⟩
          refine hK.out _ _ ?_
          clear hK K
          refine norm_ (a' := ?_) ?_ ?_
          rotate_left
          · show Act.put _ (some 60) _ = _
            simp only [Act.put, List.setIfInBounds_toArray, List.set_cons_zero, List.set_cons_succ, i64_w, i32_w]
            rfl
          refine pure_ (i := 15) (N := some 13) (v := ?_) (a' := ?_) #[true, true, true, true, true, true, true, true, true, true, true, true, true, true, true, true] rfl rfl (by kernel_rfl) (fun _ _ _ h => h) (Or.inl ⟨by rfl, ?_⟩) ?_ ?_
          rotate_left
          · intro w'
            go_simp
            with_reducible rfl
          rotate_left
          · simp only [Act.put, List.setIfInBounds_toArray, List.set_cons_zero, List.set_cons_succ, i64_w, i32_w]
            rfl
          refine done_ (by kernel_rfl) ?_
          rw [HW1.out] at hq
          rw [HW2.out]
          (try simp only [List.nil_append, List.cons_append, List.set_cons_zero, List.set_cons_succ] at hq); replace ho := hq; clear hq
          clear hHeld s0
          go_upto_region 14 with (fail)
          refine start_ (n := 15) (S := fun w' => Own w0 w' [diskR p d2, blkR q #[.pointer (some ⟨p, 0, none⟩), .int .i64 first, .int .i64 nn] 93, restR rs (fun i => i = k ∨ i = j), blkR b7 (foundVals x.best.s ba true).toArray 95, blkR b8 (foundVals x.other.s oa x.other.good).toArray 95, blkR b12 (secVals sn).toArray 29]) (ds := [13]) #[false, false, false, false, false, false, false, false, false, false, false, false, false, false, false] mixed rfl rfl ((ho.nw ((Nw.refl _).drew))) (fun hHeld => ?_)
          refine pure_ (i := 0) (N := some 64) (v := ?_) (a' := ?_) #[true, false, false, false, false, false, false, false, false, false, false, false, false, false, false] rfl rfl (by kernel_rfl) (fun _ _ _ h => h) (Or.inl ⟨by rfl, ?_⟩) ?_ ?_
          rotate_left
          · intro w'
            go_simp
            with_reducible rfl
          rotate_left
          · simp only [Act.put, List.setIfInBounds_toArray, List.set_cons_zero, List.set_cons_succ, i64_w, i32_w]
            rfl
          refine pure_ (i := 1) (N := some 65) (v := ?_) (a' := ?_) #[true, true, false, false, false, false, false, false, false, false, false, false, false, false, false] rfl rfl (by kernel_rfl) (fun _ _ _ h => h) (Or.inl ⟨by rfl, ?_⟩) ?_ ?_
          rotate_left
          · intro w'
            go_simp
            with_reducible rfl
          rotate_left
          · simp only [Act.put, List.setIfInBounds_toArray, List.set_cons_zero, List.set_cons_succ, i64_w, i32_w]
            rfl
          refine pure_ (i := 2) (N := some 66) (v := ?_) (a' := ?_) #[true, true, true, false, false, false, false, false, false, false, false, false, false, false, false] rfl rfl (by kernel_rfl) (fun _ _ _ h => h) (Or.inl ⟨by rfl, ?_⟩) ?_ ?_
          rotate_left
          · intro w'
            go_simp
            with_reducible rfl
          rotate_left
          · simp only [Act.put, List.setIfInBounds_toArray, List.set_cons_zero, List.set_cons_succ, i64_w, i32_w]
            rfl
          refine pure_ (i := 4) (N := some 68) (v := ?_) (a' := ?_) #[true, true, true, false, true, false, false, false, false, false, false, false, false, false, false] rfl rfl (by kernel_rfl) (fun _ _ _ h => h) (Or.inl ⟨by rfl, ?_⟩) ?_ ?_
          rotate_left
          · intro w'
            go_simp
            with_reducible rfl
          rotate_left
          · simp only [Act.put, List.setIfInBounds_toArray, List.set_cons_zero, List.set_cons_succ, i64_w, i32_w]
            rfl
          refine pure_ (i := 5) (N := some 69) (v := ?_) (a' := ?_) #[true, true, true, false, true, true, false, false, false, false, false, false, false, false, false] rfl rfl (by kernel_rfl) (fun _ _ _ h => h) (Or.inl ⟨by rfl, ?_⟩) ?_ ?_
          rotate_left
          · intro w'
            go_simp
            with_reducible rfl
          rotate_left
          · simp only [Act.put, List.setIfInBounds_toArray, List.set_cons_zero, List.set_cons_succ, i64_w, i32_w]
            rfl
          refine pure_ (i := 6) (N := some 70) (v := ?_) (a' := ?_) #[true, true, true, false, true, true, true, false, false, false, false, false, false, false, false] rfl rfl (by kernel_rfl) (fun _ _ _ h => h) (Or.inl ⟨by rfl, ?_⟩) ?_ ?_
          rotate_left
          · intro w'
            go_simp
            with_reducible rfl
          rotate_left
          · simp only [Act.put, List.setIfInBounds_toArray, List.set_cons_zero, List.set_cons_succ, i64_w, i32_w]
            rfl
          refine pure_ (i := 7) (N := some 71) (v := ?_) (a' := ?_) #[true, true, true, false, true, true, true, true, false, false, false, false, false, false, false] rfl rfl (by kernel_rfl) (fun _ _ _ h => h) (Or.inl ⟨by rfl, ?_⟩) ?_ ?_
          rotate_left
          · intro w'
            go_simp
            with_reducible rfl
          rotate_left
          · simp only [Act.put, List.setIfInBounds_toArray, List.set_cons_zero, List.set_cons_succ, i64_w, i32_w]
            rfl
          refine pure_ (i := 9) (N := some 73) (v := ?_) (a' := ?_) #[true, true, true, false, true, true, true, true, false, true, false, false, false, false, false] rfl rfl (by kernel_rfl) (fun _ _ _ h => h) (Or.inl ⟨by rfl, ?_⟩) ?_ ?_
          rotate_left
          · intro w'
            go_simp
            with_reducible rfl
          rotate_left
          · simp only [Act.put, List.setIfInBounds_toArray, List.set_cons_zero, List.set_cons_succ, i64_w, i32_w]
            rfl
          refine pure_ (i := 10) (N := some 74) (v := ?_) (a' := ?_) #[true, true, true, false, true, true, true, true, false, true, true, false, false, false, false] rfl rfl (by kernel_rfl) (fun _ _ _ h => h) (Or.inl ⟨by rfl, ?_⟩) ?_ ?_
          rotate_left
          · intro w'
            go_simp
            with_reducible rfl
          rotate_left
          · simp only [Act.put, List.setIfInBounds_toArray, List.set_cons_zero, List.set_cons_succ, i64_w, i32_w]
            rfl
          refine take_ (i := 3) (N := some 67) (v := .agg #[.pointer (some ⟨p, 0, none⟩), .int .i64 first, .int .i64 nn]) (a' := ?_) #[true, true, true, true, true, true, true, true, false, true, true, false, false, false, false] rfl rfl (by kernel_rfl) (fun _ _ _ h => h) (Or.inl ⟨by rfl, ?_⟩) hHeld ?_ ?_
          · intro w' s0
            exact exl_part (b := q) rfl rfl (s0.blk (i := 1) rfl).1
          rotate_left
          · simp only [Act.put, List.setIfInBounds_toArray, List.set_cons_zero, List.set_cons_succ, i64_w, i32_w]
            rfl
          refine take_ (i := 8) (N := some 72) (v := .int .i64 first) (a' := ?_) #[true, true, true, true, true, true, true, true, true, true, true, false, false, false, false] rfl rfl (by kernel_rfl) (fun _ _ _ h => h) (Or.inl ⟨by rfl, ?_⟩) hHeld ?_ ?_
          · intro w' s0
            exact s0.xint1 (k := 1) (j := 1) rfl rfl rfl rfl
          rotate_left
          · simp only [Act.put, List.setIfInBounds_toArray, List.set_cons_zero, List.set_cons_succ, i64_w, i32_w]
            rfl
          refine pure_ (i := 11) (N := some 75) (v := ?_) (a' := ?_) #[true, true, true, true, true, true, true, true, true, true, true, true, false, false, false] rfl rfl (by kernel_rfl) (fun _ _ _ h => h) (Or.inl ⟨by rfl, ?_⟩) ?_ ?_
          rotate_left
          · intro w'
            go_simp
            with_reducible rfl
          rotate_left
          · simp only [Act.put, List.setIfInBounds_toArray, List.set_cons_zero, List.set_cons_succ, i64_w, i32_w]
            rfl
          refine take_ (i := 12) (N := some 76) (v := .agg (secVals sn).toArray) (a' := ?_) #[true, true, true, true, true, true, true, true, true, true, true, true, true, false, false] rfl rfl (by kernel_rfl) (fun _ _ _ h => h) (Or.inl ⟨by rfl, ?_⟩) hHeld ?_ ?_
          · intro w' s0
            exact s0.xload (k := 5) rfl rfl rfl hsn
          rotate_left
          · simp only [Act.put, List.setIfInBounds_toArray, List.set_cons_zero, List.set_cons_succ, i64_w, i32_w]
            rfl
          refine last_ (i := 13) (N := some 77) #[true, true, true, true, true, true, true, true, true, true, true, true, true, true, false] rfl rfl (by kernel_rfl) (by decide) (fun K hK => ?_)
          have s0 := hHeld
          refine goes_ Try.func56 (by kernel_rfl) rfl #[.agg #[.pointer (some ⟨p, 0, none⟩), .int .i64 first, .int .i64 nn], .int .i64 (first + 2 * i), .agg (secVals sn).toArray] (by rfl) rfl rfl (by simp only [List.map_toArray, List.map_cons, List.map_nil]; refine Eq.trans (b := #[.agg #[.pointer (some ⟨p, 0, none⟩), .int .i64 first, .int .i64 nn], .int .i64 (wrap64 (first + wrap64 (2 * i))), .agg (secVals sn).toArray]) (by rfl) ?_; rw [HA14.out]) ?_
          with_reducible refine ((s0.wsync_ (k := 0) rfl first nn (first + 2 * i) hsn hst2)).mono ?_
          rintro e w5 ⟨rfl, hq⟩
          refine ⟨_, rfl, ?_⟩
          refine hK.out _ _ ?_
          clear hK K
          refine norm_ (a' := ?_) ?_ ?_
          rotate_left
          · show Act.put _ (some 77) _ = _
            simp only [Act.put, List.setIfInBounds_toArray, List.set_cons_zero, List.set_cons_succ, i64_w, i32_w]
            rfl
          refine pure_ (i := 14) (N := some 6) (v := ?_) (a' := ?_) #[true, true, true, true, true, true, true, true, true, true, true, true, true, true, true] rfl rfl (by kernel_rfl) (fun _ _ _ h => h) (Or.inl ⟨by rfl, ?_⟩) ?_ ?_
          rotate_left
          · intro w'
            go_simp
            with_reducible rfl
          rotate_left
          · simp only [Act.put, List.setIfInBounds_toArray, List.set_cons_zero, List.set_cons_succ, i64_w, i32_w]
            rfl
          refine done_ (by kernel_rfl) ?_
          rw [HV1.out] at hq
          rw [HV2.out]
          (try simp only [List.nil_append, List.cons_append, List.set_cons_zero, List.set_cons_succ] at hq); replace ho := hq; clear hq
          clear hHeld s0
          go_wp2
          go_ret
          exact ⟨rfl, HEND.out _ _ (ho.pick [0, 1, 2] (by decide) rfl)⟩
        | false =>
          have hnx : sn = copySec (1) (strInts s) := by rw [hsn']; unfold Both.next; rw [hg]; rfl
          have hsn : SecOk sn := by rw [hnx]; exact copySec_ok _ (strInts_ok s)
          have HNX := Lib.hid hnx
          have hq0 : 0 ≤ (1 : Int) := by omega
          have hq1 : (1 : Int) < 4294967296 := by omega
          have HG := Lib.hid hg
          clear hnx hsn' hg
          go_enter Try.func40, Try.ntmps40
          go_upto_region 4 with (first
            | (refine go_val rfl (exl_part (x := .tmp 17) (b := q) rfl rfl (ho.blk (i := 1) rfl).1) ?_; simp only [Act.put, List.setIfInBounds_toArray, List.set_cons_zero, List.set_cons_succ])
            | (go_at_call 38; refine (ho.slot_ (k := 0) rfl hf0 hf1 hi0 hi1).mono ?_; rintro e w' ⟨he, hq⟩; rw [HSP.out e he]; clear he; (try simp only [List.nil_append, List.cons_append, List.set_cons_zero, List.set_cons_succ] at hq); replace ho := hq; clear hq)
            | (refine go_val_ex rfl (ho.xafound 7 rfl rfl) ?_; rintro v w1 ⟨b7, rfl, hq⟩; simp only [Act.put, List.setIfInBounds_toArray, List.set_cons_zero, List.set_cons_succ]; (try simp only [List.nil_append, List.cons_append, List.set_cons_zero, List.set_cons_succ] at hq); replace ho := hq; clear hq)
            | (refine go_val_ex rfl (ho.xafound 8 rfl rfl) ?_; rintro v w1 ⟨b8, rfl, hq⟩; simp only [Act.put, List.setIfInBounds_toArray, List.set_cons_zero, List.set_cons_succ]; (try simp only [List.nil_append, List.cons_append, List.set_cons_zero, List.set_cons_succ] at hq); replace ho := hq; clear hq)
            | (refine go_skp_ex rfl (ho.xsfound (k := 3) (s' := x.best.s) (x := .tmp 7) (y := .tmp 21) rfl rfl rfl zeroSec_ok hx1 rfl) ?_; rintro w1 hq; simp only [Act.put, List.setIfInBounds_toArray, List.set_cons_zero, List.set_cons_succ]; (try simp only [List.nil_append, List.cons_append, List.set_cons_zero, List.set_cons_succ] at hq); replace ho := hq; clear hq)
            | (refine go_skp_ex rfl (ho.xsfound (k := 4) (s' := x.other.s) (x := .tmp 8) (y := .tmp 22) rfl rfl rfl zeroSec_ok hx2 rfl) ?_; rintro w1 hq; simp only [Act.put, List.setIfInBounds_toArray, List.set_cons_zero, List.set_cons_succ]; (try simp only [List.nil_append, List.cons_append, List.set_cons_zero, List.set_cons_succ] at hq); replace ho := hq; clear hq))
          refine start_ (n := 8) (S := fun w' => Own w0 w' [diskR p d, blkR q #[.pointer (some ⟨p, 0, none⟩), .int .i64 first, .int .i64 nn] 93, restR rs (fun i => i = k ∨ i = j), blkR b7 (foundVals x.best.s ba x.best.good).toArray 95, blkR b8 (foundVals x.other.s oa x.other.good).toArray 95]) (ds := [6]) #[false, false, false, false, false, false, false, false] mixed rfl rfl ((ho.nw ((Nw.refl _).drew))) (fun hHeld => ?_)
          refine pure_ (i := 0) (N := some 27) (v := ?_) (a' := ?_) #[true, false, false, false, false, false, false, false] rfl rfl (by kernel_rfl) (fun _ _ _ h => h) (Or.inl ⟨by rfl, ?_⟩) ?_ ?_
          rotate_left
          · intro w'
            go_simp
            with_reducible rfl
          rotate_left
          · simp only [Act.put, List.setIfInBounds_toArray, List.set_cons_zero, List.set_cons_succ, i64_w, i32_w]
            rfl
          refine pure_ (i := 1) (N := some 28) (v := ?_) (a' := ?_) #[true, true, false, false, false, false, false, false] rfl rfl (by kernel_rfl) (fun _ _ _ h => h) (Or.inl ⟨by rfl, ?_⟩) ?_ ?_
          rotate_left
          · intro w'
            go_simp
            with_reducible rfl
          rotate_left
          · simp only [Act.put, List.setIfInBounds_toArray, List.set_cons_zero, List.set_cons_succ, i64_w, i32_w]
            rfl
          refine pure_ (i := 2) (N := some 29) (v := ?_) (a' := ?_) #[true, true, true, false, false, false, false, false] rfl rfl (by kernel_rfl) (fun _ _ _ h => h) (Or.inl ⟨by rfl, ?_⟩) ?_ ?_
          rotate_left
          · intro w'
            go_simp
            with_reducible rfl
          rotate_left
          · simp only [Act.put, List.setIfInBounds_toArray, List.set_cons_zero, List.set_cons_succ, i64_w, i32_w]
            rfl
          refine take_ (i := 3) (N := some 30) (v := .agg #[.pointer (some ⟨p, 0, none⟩), .int .i64 first, .int .i64 nn]) (a' := ?_) #[true, true, true, true, false, false, false, false] rfl rfl (by kernel_rfl) (fun _ _ _ h => h) (Or.inl ⟨by rfl, ?_⟩) hHeld ?_ ?_
          · intro w' s0
            exact exl_part (b := q) rfl rfl (s0.blk (i := 1) rfl).1
          rotate_left
          · simp only [Act.put, List.setIfInBounds_toArray, List.set_cons_zero, List.set_cons_succ, i64_w, i32_w]
            rfl
          refine take_ (i := 4) (N := some 31) (v := .agg (foundVals x.best.s ba x.best.good).toArray) (a' := ?_) #[true, true, true, true, true, false, false, false] rfl rfl (by kernel_rfl) (fun _ _ _ h => h) (Or.inl ⟨by rfl, ?_⟩) hHeld ?_ ?_
          · intro w' s0
            exact s0.xlfound (k := 3) rfl rfl rfl hx1
          rotate_left
          · simp only [Act.put, List.setIfInBounds_toArray, List.set_cons_zero, List.set_cons_succ, i64_w, i32_w]
            rfl
          refine take_ (i := 5) (N := some 32) (v := .agg (foundVals x.other.s oa x.other.good).toArray) (a' := ?_) #[true, true, true, true, true, true, false, false] rfl rfl (by kernel_rfl) (fun _ _ _ h => h) (Or.inl ⟨by rfl, ?_⟩) hHeld ?_ ?_
          · intro w' s0
            exact s0.xlfound (k := 4) rfl rfl rfl hx2
          rotate_left
          · simp only [Act.put, List.setIfInBounds_toArray, List.set_cons_zero, List.set_cons_succ, i64_w, i32_w]
            rfl
          refine last_ (i := 6) (N := some 33) #[true, true, true, true, true, true, true, false] rfl rfl (by kernel_rfl) (by decide) (fun K hK => ?_)
          have s0 := hHeld
          refine goes_ Try.func39 (by kernel_rfl) rfl #[.agg #[.pointer (some ⟨p, 0, none⟩), .int .i64 first, .int .i64 nn], .agg (foundVals x.best.s ba x.best.good).toArray, .agg (foundVals x.other.s oa x.other.good).toArray] (by rfl) rfl rfl (by simp only [List.map_toArray, List.map_cons, List.map_nil]; rfl) ?_
          with_reducible refine ((s0.heal_ (k := 0) rfl first nn ba oa x.best.good x.other.good hx1 hx2 hstx)).mono ?_
          rintro e w5 ⟨rfl, hq⟩
          refine ⟨_, rfl, ?_⟩
          refine hK.out _ _ ?_
          clear hK K
          refine norm_ (a' := ?_) ?_ ?_
          rotate_left
          · show Act.put _ (some 33) _ = _
            simp only [Act.put, List.setIfInBounds_toArray, List.set_cons_zero, List.set_cons_succ, i64_w, i32_w]
            rfl
          refine pure_ (i := 7) (N := some 10) (v := ?_) (a' := ?_) #[true, true, true, true, true, true, true, true] rfl rfl (by kernel_rfl) (fun _ _ _ h => h) (Or.inl ⟨by rfl, ?_⟩) ?_ ?_
          rotate_left
          · intro w'
            go_simp
            with_reducible rfl
          rotate_left
          · simp only [Act.put, List.setIfInBounds_toArray, List.set_cons_zero, List.set_cons_succ, i64_w, i32_w]
            rfl
          refine done_ (by kernel_rfl) ?_
          rw [HH1.out] at hq
          rw [HH2.out]
          (try simp only [List.nil_append, List.cons_append, List.set_cons_zero, List.set_cons_succ] at hq); replace ho := hq; clear hq
          clear hHeld s0
          rw [HG.out] at ho
          go_upto_region 11 with (first
            | (refine go_val rfl (ho.xlfbool (k := 3) (x := .tmp 37) rfl rfl rfl hx1) ?_; simp only [Act.put, List.setIfInBounds_toArray, List.set_cons_zero, List.set_cons_succ])
            | (refine go_val rfl (ho.xlfsec (k := 3) (x := .tmp 39) rfl rfl rfl hx1) ?_; simp only [Act.put, List.setIfInBounds_toArray, List.set_cons_zero, List.set_cons_succ])
            | (go_at_call 55; refine (number0_calls hx1).mono ?_; rintro e w' ⟨rfl, hn5⟩; replace ho := ho.nw hn5; clear hn5)
            | (go_at_call 37; (try rw [IntKind.wrap_u32']); refine (make1_calls hq0 hq1 hs).mono ?_; rintro e w' ⟨rfl, hn5⟩; rw [← HNX.out]; replace ho := ho.nw hn5; clear hn5)
            | (refine go_val_ex rfl (ho.xallocAt 12 rfl rfl) ?_; rintro v w1 ⟨b12, rfl, hq⟩; simp only [Act.put, List.setIfInBounds_toArray, List.set_cons_zero, List.set_cons_succ]; (try simp only [List.nil_append, List.cons_append, List.set_cons_zero, List.set_cons_succ] at hq); replace ho := hq; clear hq)
            | (refine go_skp_ex rfl (ho.xstore (k := 5) (s' := sn) (x := .tmp 12) (y := .tmp 45) rfl rfl rfl zeroSec_ok hsn rfl) ?_; rintro w1 hq; simp only [Act.put, List.setIfInBounds_toArray, List.set_cons_zero, List.set_cons_succ]; (try simp only [List.nil_append, List.cons_append, List.set_cons_zero, List.set_cons_succ] at hq); replace ho := hq; clear hq))
          refine start_ (n := 16) (S := fun w' => Own w0 w' [diskR p d1, blkR q #[.pointer (some ⟨p, 0, none⟩), .int .i64 first, .int .i64 nn] 93, restR rs (fun i => i = k ∨ i = j), blkR b7 (foundVals x.best.s ba false).toArray 95, blkR b8 (foundVals x.other.s oa x.other.good).toArray 95, blkR b12 (secVals sn).toArray 29]) (ds := [14]) #[false, false, false, false, false, false, false, false, false, false, false, false, false, false, false, false] mixed rfl rfl ((ho.nw ((Nw.refl _).drew))) (fun hHeld => ?_)
          refine pure_ (i := 0) (N := some 46) (v := ?_) (a' := ?_) #[true, false, false, false, false, false, false, false, false, false, false, false, false, false, false, false] rfl rfl (by kernel_rfl) (fun _ _ _ h => h) (Or.inl ⟨by rfl, ?_⟩) ?_ ?_
          rotate_left
          · intro w'
            go_simp
            with_reducible rfl
          rotate_left
          · simp only [Act.put, List.setIfInBounds_toArray, List.set_cons_zero, List.set_cons_succ, i64_w, i32_w]
            rfl
          refine pure_ (i := 1) (N := some 47) (v := ?_) (a' := ?_) #[true, true, false, false, false, false, false, false, false, false, false, false, false, false, false, false] rfl rfl (by kernel_rfl) (fun _ _ _ h => h) (Or.inl ⟨by rfl, ?_⟩) ?_ ?_
          rotate_left
          · intro w'
            go_simp
            with_reducible rfl
          rotate_left
          · simp only [Act.put, List.setIfInBounds_toArray, List.set_cons_zero, List.set_cons_succ, i64_w, i32_w]
            rfl
          refine pure_ (i := 2) (N := some 48) (v := ?_) (a' := ?_) #[true, true, true, false, false, false, false, false, false, false, false, false, false, false, false, false] rfl rfl (by kernel_rfl) (fun _ _ _ h => h) (Or.inl ⟨by rfl, ?_⟩) ?_ ?_
          rotate_left
          · intro w'
            go_simp
            with_reducible rfl
          rotate_left
          · simp only [Act.put, List.setIfInBounds_toArray, List.set_cons_zero, List.set_cons_succ, i64_w, i32_w]
            rfl
          refine pure_ (i := 4) (N := some 50) (v := ?_) (a' := ?_) #[true, true, true, false, true, false, false, false, false, false, false, false, false, false, false, false] rfl rfl (by kernel_rfl) (fun _ _ _ h => h) (Or.inl ⟨by rfl, ?_⟩) ?_ ?_
          rotate_left
          · intro w'
            go_simp
            with_reducible rfl
          rotate_left
          · simp only [Act.put, List.setIfInBounds_toArray, List.set_cons_zero, List.set_cons_succ, i64_w, i32_w]
            rfl
          refine pure_ (i := 5) (N := some 51) (v := ?_) (a' := ?_) #[true, true, true, false, true, true, false, false, false, false, false, false, false, false, false, false] rfl rfl (by kernel_rfl) (fun _ _ _ h => h) (Or.inl ⟨by rfl, ?_⟩) ?_ ?_
          rotate_left
          · intro w'
            go_simp
            with_reducible rfl
          rotate_left
          · simp only [Act.put, List.setIfInBounds_toArray, List.set_cons_zero, List.set_cons_succ, i64_w, i32_w]
            rfl
          refine pure_ (i := 6) (N := some 52) (v := ?_) (a' := ?_) #[true, true, true, false, true, true, true, false, false, false, false, false, false, false, false, false] rfl rfl (by kernel_rfl) (fun _ _ _ h => h) (Or.inl ⟨by rfl, ?_⟩) ?_ ?_
          rotate_left
          · intro w'
            go_simp
            with_reducible rfl
          rotate_left
          · simp only [Act.put, List.setIfInBounds_toArray, List.set_cons_zero, List.set_cons_succ, i64_w, i32_w]
            rfl
          refine pure_ (i := 7) (N := some 53) (v := ?_) (a' := ?_) #[true, true, true, false, true, true, true, true, false, false, false, false, false, false, false, false] rfl rfl (by kernel_rfl) (fun _ _ _ h => h) (Or.inl ⟨by rfl, ?_⟩) ?_ ?_
          rotate_left
          · intro w'
            go_simp
            with_reducible rfl
          rotate_left
          · simp only [Act.put, List.setIfInBounds_toArray, List.set_cons_zero, List.set_cons_succ, i64_w, i32_w]
            rfl
          refine pure_ (i := 9) (N := some 55) (v := ?_) (a' := ?_) #[true, true, true, false, true, true, true, true, false, true, false, false, false, false, false, false] rfl rfl (by kernel_rfl) (fun _ _ _ h => h) (Or.inl ⟨by rfl, ?_⟩) ?_ ?_
          rotate_left
          · intro w'
            go_simp
            with_reducible rfl
          rotate_left
          · simp only [Act.put, List.setIfInBounds_toArray, List.set_cons_zero, List.set_cons_succ, i64_w, i32_w]
            rfl
          refine pure_ (i := 10) (N := some 56) (v := ?_) (a' := ?_) #[true, true, true, false, true, true, true, true, false, true, true, false, false, false, false, false] rfl rfl (by kernel_rfl) (fun _ _ _ h => h) (Or.inl ⟨by rfl, ?_⟩) ?_ ?_
          rotate_left
          · intro w'
            go_simp
            with_reducible rfl
          rotate_left
          · simp only [Act.put, List.setIfInBounds_toArray, List.set_cons_zero, List.set_cons_succ, i64_w, i32_w]
            rfl
          refine take_ (i := 3) (N := some 49) (v := .agg #[.pointer (some ⟨p, 0, none⟩), .int .i64 first, .int .i64 nn]) (a' := ?_) #[true, true, true, true, true, true, true, true, false, true, true, false, false, false, false, false] rfl rfl (by kernel_rfl) (fun _ _ _ h => h) (Or.inl ⟨by rfl, ?_⟩) hHeld ?_ ?_
          · intro w' s0
            exact exl_part (b := q) rfl rfl (s0.blk (i := 1) rfl).1
          rotate_left
          · simp only [Act.put, List.setIfInBounds_toArray, List.set_cons_zero, List.set_cons_succ, i64_w, i32_w]
            rfl
          refine take_ (i := 8) (N := some 54) (v := .int .i64 first) (a' := ?_) #[true, true, true, true, true, true, true, true, true, true, true, false, false, false, false, false] rfl rfl (by kernel_rfl) (fun _ _ _ h => h) (Or.inl ⟨by rfl, ?_⟩) hHeld ?_ ?_
          · intro w' s0
            exact s0.xint1 (k := 1) (j := 1) rfl rfl rfl rfl
          rotate_left
          · simp only [Act.put, List.setIfInBounds_toArray, List.set_cons_zero, List.set_cons_succ, i64_w, i32_w]
            rfl
          refine pure_ (i := 11) (N := some 57) (v := ?_) (a' := ?_) #[true, true, true, true, true, true, true, true, true, true, true, true, false, false, false, false] rfl rfl (by kernel_rfl) (fun _ _ _ h => h) (Or.inl ⟨by rfl, ?_⟩) ?_ ?_
          rotate_left
          · intro w'
            go_simp
            with_reducible rfl
          rotate_left
          · simp only [Act.put, List.setIfInBounds_toArray, List.set_cons_zero, List.set_cons_succ, i64_w, i32_w]
            rfl
          refine pure_ (i := 12) (N := some 58) (v := ?_) (a' := ?_) #[true, true, true, true, true, true, true, true, true, true, true, true, true, false, false, false] rfl rfl (by kernel_rfl) (fun _ _ _ h => h) (Or.inl ⟨by rfl, ?_⟩) ?_ ?_
          rotate_left
          · intro w'
            go_simp
            with_reducible rfl
          rotate_left
          · simp only [Act.put, List.setIfInBounds_toArray, List.set_cons_zero, List.set_cons_succ, i64_w, i32_w]
            rfl
          refine take_ (i := 13) (N := some 59) (v := .agg (secVals sn).toArray) (a' := ?_) #[true, true, true, true, true, true, true, true, true, true, true, true, true, true, false, false] rfl rfl (by kernel_rfl) (fun _ _ _ h => h) (Or.inl ⟨by rfl, ?_⟩) hHeld ?_ ?_
          · intro w' s0
            exact s0.xload (k := 5) rfl rfl rfl hsn
          rotate_left
          · simp only [Act.put, List.setIfInBounds_toArray, List.set_cons_zero, List.set_cons_succ, i64_w, i32_w]
            rfl
          refine last_ (i := 14) (N := some 60) #[true, true, true, true, true, true, true, true, true, true, true, true, true, true, true, false] rfl rfl (by kernel_rfl) (by decide) (fun K hK => ?_)
          have s0 := hHeld
          refine goes_ Try.func56 (by kernel_rfl) rfl #[.agg #[.pointer (some ⟨p, 0, none⟩), .int .i64 first, .int .i64 nn], .int .i64 (first + 2 * i + 1), .agg (secVals sn).toArray] (by rfl) rfl rfl (by simp only [List.map_toArray, List.map_cons, List.map_nil]; refine Eq.trans (b := #[.agg #[.pointer (some ⟨p, 0, none⟩), .int .i64 first, .int .i64 nn], .int .i64 (wrap64 (wrap64 (first + wrap64 (2 * i)) + 1)), .agg (secVals sn).toArray]) (by rfl) ?_; rw [HA11.out]) ?_
          with_reducible refine ((s0.wsync_ (k := 0) rfl first nn (first + 2 * i + 1) hsn (by omega))).mono ?_
          rintro e w5 ⟨rfl, hq⟩
          refine ⟨_, rfl, ?_⟩
          refine hK.out _ _ ?_
          clear hK K
          refine norm_ (a' := ?_) ?_ ?_
          rotate_left
          · show Act.put _ (some 60) _ = _
            simp only [Act.put, List.setIfInBounds_toArray, List.set_cons_zero, List.set_cons_succ, i64_w, i32_w]
            rfl
          refine pure_ (i := 15) (N := some 13) (v := ?_) (a' := ?_) #[true, true, true, true, true, true, true, true, true, true, true, true, true, true, true, true] rfl rfl (by kernel_rfl) (fun _ _ _ h => h) (Or.inl ⟨by rfl, ?_⟩) ?_ ?_
          rotate_left
          · intro w'
            go_simp
            with_reducible rfl
          rotate_left
          · simp only [Act.put, List.setIfInBounds_toArray, List.set_cons_zero, List.set_cons_succ, i64_w, i32_w]
            rfl
          refine done_ (by kernel_rfl) ?_
          rw [HW1.out] at hq
          rw [HW2.out]
          (try simp only [List.nil_append, List.cons_append, List.set_cons_zero, List.set_cons_succ] at hq); replace ho := hq; clear hq
          clear hHeld s0
          go_upto_region 14 with (fail)
          refine start_ (n := 15) (S := fun w' => Own w0 w' [diskR p d2, blkR q #[.pointer (some ⟨p, 0, none⟩), .int .i64 first, .int .i64 nn] 93, restR rs (fun i => i = k ∨ i = j), blkR b7 (foundVals x.best.s ba false).toArray 95, blkR b8 (foundVals x.other.s oa x.other.good).toArray 95, blkR b12 (secVals sn).toArray 29]) (ds := [13]) #[false, false, false, false, false, false, false, false, false, false, false, false, false, false, false] mixed rfl rfl ((ho.nw ((Nw.refl _).drew))) (fun hHeld => ?_)
          refine pure_ (i := 0) (N := some 64) (v := ?_) (a' := ?_) #[true, false, false, false, false, false, false, false, false, false, false, false, false, false, false] rfl rfl (by kernel_rfl) (fun _ _ _ h => h) (Or.inl ⟨by rfl, ?_⟩) ?_ ?_
          rotate_left
          · intro w'
            go_simp
            with_reducible rfl
          rotate_left
          · simp only [Act.put, List.setIfInBounds_toArray, List.set_cons_zero, List.set_cons_succ, i64_w, i32_w]
            rfl
          refine pure_ (i := 1) (N := some 65) (v := ?_) (a' := ?_) #[true, true, false, false, false, false, false, false, false, false, false, false, false, false, false] rfl rfl (by kernel_rfl) (fun _ _ _ h => h) (Or.inl ⟨by rfl, ?_⟩) ?_ ?_
          rotate_left
          · intro w'
            go_simp
            with_reducible rfl
          rotate_left
          · simp only [Act.put, List.setIfInBounds_toArray, List.set_cons_zero, List.set_cons_succ, i64_w, i32_w]
            rfl
          refine pure_ (i := 2) (N := some 66) (v := ?_) (a' := ?_) #[true, true, true, false, false, false, false, false, false, false, false, false, false, false, false] rfl rfl (by kernel_rfl) (fun _ _ _ h => h) (Or.inl ⟨by rfl, ?_⟩) ?_ ?_
          rotate_left
          · intro w'
            go_simp
            with_reducible rfl
          rotate_left
          · simp only [Act.put, List.setIfInBounds_toArray, List.set_cons_zero, List.set_cons_succ, i64_w, i32_w]
            rfl
          refine pure_ (i := 4) (N := some 68) (v := ?_) (a' := ?_) #[true, true, true, false, true, false, false, false, false, false, false, false, false, false, false] rfl rfl (by kernel_rfl) (fun _ _ _ h => h) (Or.inl ⟨by rfl, ?_⟩) ?_ ?_
          rotate_left
          · intro w'
            go_simp
            with_reducible rfl
          rotate_left
          · simp only [Act.put, List.setIfInBounds_toArray, List.set_cons_zero, List.set_cons_succ, i64_w, i32_w]
            rfl
          refine pure_ (i := 5) (N := some 69) (v := ?_) (a' := ?_) #[true, true, true, false, true, true, false, false, false, false, false, false, false, false, false] rfl rfl (by kernel_rfl) (fun _ _ _ h => h) (Or.inl ⟨by rfl, ?_⟩) ?_ ?_
          rotate_left
          · intro w'
            go_simp
            with_reducible rfl
          rotate_left
          · simp only [Act.put, List.setIfInBounds_toArray, List.set_cons_zero, List.set_cons_succ, i64_w, i32_w]
            rfl
          refine pure_ (i := 6) (N := some 70) (v := ?_) (a' := ?_) #[true, true, true, false, true, true, true, false, false, false, false, false, false, false, false] rfl rfl (by kernel_rfl) (fun _ _ _ h => h) (Or.inl ⟨by rfl, ?_⟩) ?_ ?_
          rotate_left
          · intro w'
            go_simp
            with_reducible rfl
          rotate_left
          · simp only [Act.put, List.setIfInBounds_toArray, List.set_cons_zero, List.set_cons_succ, i64_w, i32_w]
            rfl
          refine pure_ (i := 7) (N := some 71) (v := ?_) (a' := ?_) #[true, true, true, false, true, true, true, true, false, false, false, false, false, false, false] rfl rfl (by kernel_rfl) (fun _ _ _ h => h) (Or.inl ⟨by rfl, ?_⟩) ?_ ?_
          rotate_left
          · intro w'
            go_simp
            with_reducible rfl
          rotate_left
          · simp only [Act.put, List.setIfInBounds_toArray, List.set_cons_zero, List.set_cons_succ, i64_w, i32_w]
            rfl
          refine pure_ (i := 9) (N := some 73) (v := ?_) (a' := ?_) #[true, true, true, false, true, true, true, true, false, true, false, false, false, false, false] rfl rfl (by kernel_rfl) (fun _ _ _ h => h) (Or.inl ⟨by rfl, ?_⟩) ?_ ?_
          rotate_left
          · intro w'
            go_simp
            with_reducible rfl
          rotate_left
          · simp only [Act.put, List.setIfInBounds_toArray, List.set_cons_zero, List.set_cons_succ, i64_w, i32_w]
            rfl
          refine pure_ (i := 10) (N := some 74) (v := ?_) (a' := ?_) #[true, true, true, false, true, true, true, true, false, true, true, false, false, false, false] rfl rfl (by kernel_rfl) (fun _ _ _ h => h) (Or.inl ⟨by rfl, ?_⟩) ?_ ?_
          rotate_left
          · intro w'
            go_simp
            with_reducible rfl
          rotate_left
          · simp only [Act.put, List.setIfInBounds_toArray, List.set_cons_zero, List.set_cons_succ, i64_w, i32_w]
            rfl
          refine take_ (i := 3) (N := some 67) (v := .agg #[.pointer (some ⟨p, 0, none⟩), .int .i64 first, .int .i64 nn]) (a' := ?_) #[true, true, true, true, true, true, true, true, false, true, true, false, false, false, false] rfl rfl (by kernel_rfl) (fun _ _ _ h => h) (Or.inl ⟨by rfl, ?_⟩) hHeld ?_ ?_
          · intro w' s0
            exact exl_part (b := q) rfl rfl (s0.blk (i := 1) rfl).1
          rotate_left
          · simp only [Act.put, List.setIfInBounds_toArray, List.set_cons_zero, List.set_cons_succ, i64_w, i32_w]
            rfl
          refine take_ (i := 8) (N := some 72) (v := .int .i64 first) (a' := ?_) #[true, true, true, true, true, true, true, true, true, true, true, false, false, false, false] rfl rfl (by kernel_rfl) (fun _ _ _ h => h) (Or.inl ⟨by rfl, ?_⟩) hHeld ?_ ?_
          · intro w' s0
            exact s0.xint1 (k := 1) (j := 1) rfl rfl rfl rfl
          rotate_left
          · simp only [Act.put, List.setIfInBounds_toArray, List.set_cons_zero, List.set_cons_succ, i64_w, i32_w]
            rfl
          refine pure_ (i := 11) (N := some 75) (v := ?_) (a' := ?_) #[true, true, true, true, true, true, true, true, true, true, true, true, false, false, false] rfl rfl (by kernel_rfl) (fun _ _ _ h => h) (Or.inl ⟨by rfl, ?_⟩) ?_ ?_
          rotate_left
          · intro w'
            go_simp
            with_reducible rfl
          rotate_left
          · simp only [Act.put, List.setIfInBounds_toArray, List.set_cons_zero, List.set_cons_succ, i64_w, i32_w]
            rfl
          refine take_ (i := 12) (N := some 76) (v := .agg (secVals sn).toArray) (a' := ?_) #[true, true, true, true, true, true, true, true, true, true, true, true, true, false, false] rfl rfl (by kernel_rfl) (fun _ _ _ h => h) (Or.inl ⟨by rfl, ?_⟩) hHeld ?_ ?_
          · intro w' s0
            exact s0.xload (k := 5) rfl rfl rfl hsn
          rotate_left
          · simp only [Act.put, List.setIfInBounds_toArray, List.set_cons_zero, List.set_cons_succ, i64_w, i32_w]
            rfl
          refine last_ (i := 13) (N := some 77) #[true, true, true, true, true, true, true, true, true, true, true, true, true, true, false] rfl rfl (by kernel_rfl) (by decide) (fun K hK => ?_)
          have s0 := hHeld
          refine goes_ Try.func56 (by kernel_rfl) rfl #[.agg #[.pointer (some ⟨p, 0, none⟩), .int .i64 first, .int .i64 nn], .int .i64 (first + 2 * i), .agg (secVals sn).toArray] (by rfl) rfl rfl (by simp only [List.map_toArray, List.map_cons, List.map_nil]; refine Eq.trans (b := #[.agg #[.pointer (some ⟨p, 0, none⟩), .int .i64 first, .int .i64 nn], .int .i64 (wrap64 (first + wrap64 (2 * i))), .agg (secVals sn).toArray]) (by rfl) ?_; rw [HA14.out]) ?_
          with_reducible refine ((s0.wsync_ (k := 0) rfl first nn (first + 2 * i) hsn hst2)).mono ?_
          rintro e w5 ⟨rfl, hq⟩
          refine ⟨_, rfl, ?_⟩
          refine hK.out _ _ ?_
          clear hK K
          refine norm_ (a' := ?_) ?_ ?_
          rotate_left
          · show Act.put _ (some 77) _ = _
            simp only [Act.put, List.setIfInBounds_toArray, List.set_cons_zero, List.set_cons_succ, i64_w, i32_w]
            rfl
          refine pure_ (i := 14) (N := some 6) (v := ?_) (a' := ?_) #[true, true, true, true, true, true, true, true, true, true, true, true, true, true, true] rfl rfl (by kernel_rfl) (fun _ _ _ h => h) (Or.inl ⟨by rfl, ?_⟩) ?_ ?_
          rotate_left
          · intro w'
            go_simp
            with_reducible rfl
          rotate_left
          · simp only [Act.put, List.setIfInBounds_toArray, List.set_cons_zero, List.set_cons_succ, i64_w, i32_w]
            rfl
          refine done_ (by kernel_rfl) ?_
          rw [HV1.out] at hq
          rw [HV2.out]
          (try simp only [List.nil_append, List.cons_append, List.set_cons_zero, List.set_cons_succ] at hq); replace ho := hq; clear hq
          clear hHeld s0
          go_wp2
          go_ret
          exact ⟨rfl, HEND.out _ _ (ho.pick [0, 1, 2] (by decide) rfl)⟩
      · have hb2 : (e2 != 0) = true := by simp [he2]
        rw [if_pos he2] at hr
        have hr1 : r.1 = d2 := by rw [hr]
        have hr2 : r.2 = e2 := by rw [hr]
        rw [hr1, hr2]
        clear hr hr1 hr2 he2
        cases hg : x.best.good with
        | true =>
          have hnx : sn = copySec ((num x.best.s 0 + 1) % 4294967296) (strInts s) := by rw [hsn']; unfold Both.next; rw [hg]; rfl
          have hsn : SecOk sn := by rw [hnx]; exact copySec_ok _ (strInts_ok s)
          have HNX := Lib.hid hnx
          have hq0 : 0 ≤ ((num x.best.s 0 + 1) % 4294967296 : Int) := by omega
          have hq1 : ((num x.best.s 0 + 1) % 4294967296 : Int) < 4294967296 := by omega
          have HG := Lib.hid hg
          clear hnx hsn' hg
          go_enter Try.func40, Try.ntmps40
          go_upto_region 4 with (first
            | (refine go_val rfl (exl_part (x := .tmp 17) (b := q) rfl rfl (ho.blk (i := 1) rfl).1) ?_; simp only [Act.put, List.setIfInBounds_toArray, List.set_cons_zero, List.set_cons_succ])
            | (go_at_call 38; refine (ho.slot_ (k := 0) rfl hf0 hf1 hi0 hi1).mono ?_; rintro e w' ⟨he, hq⟩; rw [HSP.out e he]; clear he; (try simp only [List.nil_append, List.cons_append, List.set_cons_zero, List.set_cons_succ] at hq); replace ho := hq; clear hq)
            | (refine go_val_ex rfl (ho.xafound 7 rfl rfl) ?_; rintro v w1 ⟨b7, rfl, hq⟩; simp only [Act.put, List.setIfInBounds_toArray, List.set_cons_zero, List.set_cons_succ]; (try simp only [List.nil_append, List.cons_append, List.set_cons_zero, List.set_cons_succ] at hq); replace ho := hq; clear hq)
            | (refine go_val_ex rfl (ho.xafound 8 rfl rfl) ?_; rintro v w1 ⟨b8, rfl, hq⟩; simp only [Act.put, List.setIfInBounds_toArray, List.set_cons_zero, List.set_cons_succ]; (try simp only [List.nil_append, List.cons_append, List.set_cons_zero, List.set_cons_succ] at hq); replace ho := hq; clear hq)
            | (refine go_skp_ex rfl (ho.xsfound (k := 3) (s' := x.best.s) (x := .tmp 7) (y := .tmp 21) rfl rfl rfl zeroSec_ok hx1 rfl) ?_; rintro w1 hq; simp only [Act.put, List.setIfInBounds_toArray, List.set_cons_zero, List.set_cons_succ]; (try simp only [List.nil_append, List.cons_append, List.set_cons_zero, List.set_cons_succ] at hq); replace ho := hq; clear hq)
            | (refine go_skp_ex rfl (ho.xsfound (k := 4) (s' := x.other.s) (x := .tmp 8) (y := .tmp 22) rfl rfl rfl zeroSec_ok hx2 rfl) ?_; rintro w1 hq; simp only [Act.put, List.setIfInBounds_toArray, List.set_cons_zero, List.set_cons_succ]; (try simp only [List.nil_append, List.cons_append, List.set_cons_zero, List.set_cons_succ] at hq); replace ho := hq; clear hq))
          refine start_ (n := 8) (S := fun w' => Own w0 w' [diskR p d, blkR q #[.pointer (some ⟨p, 0, none⟩), .int .i64 first, .int .i64 nn] 93, restR rs (fun i => i = k ∨ i = j), blkR b7 (foundVals x.best.s ba x.best.good).toArray 95, blkR b8 (foundVals x.other.s oa x.other.good).toArray 95]) (ds := [6]) #[false, false, false, false, false, false, false, false] mixed rfl rfl ((ho.nw ((Nw.refl _).drew))) (fun hHeld => ?_)
          refine pure_ (i := 0) (N := some 27) (v := ?_) (a' := ?_) #[true, false, false, false, false, false, false, false] rfl rfl (by kernel_rfl) (fun _ _ _ h => h) (Or.inl ⟨by rfl, ?_⟩) ?_ ?_
          rotate_left
          · intro w'
            go_simp
            with_reducible rfl
          rotate_left
          · simp only [Act.put, List.setIfInBounds_toArray, List.set_cons_zero, List.set_cons_succ, i64_w, i32_w]
            rfl
          refine pure_ (i := 1) (N := some 28) (v := ?_) (a' := ?_) #[true, true, false, false, false, false, false, false] rfl rfl (by kernel_rfl) (fun _ _ _ h => h) (Or.inl ⟨by rfl, ?_⟩) ?_ ?_
          rotate_left
          · intro w'
            go_simp
            with_reducible rfl
          rotate_left
          · simp only [Act.put, List.setIfInBounds_toArray, List.set_cons_zero, List.set_cons_succ, i64_w, i32_w]
            rfl
          refine pure_ (i := 2) (N := some 29) (v := ?_) (a' := ?_) #[true, true, true, false, false, false, false, false] rfl rfl (by kernel_rfl) (fun _ _ _ h => h) (Or.inl ⟨by rfl, ?_⟩) ?_ ?_
          rotate_left
          · intro w'
            go_simp
            with_reducible rfl
          rotate_left
          · simp only [Act.put, List.setIfInBounds_toArray, List.set_cons_zero, List.set_cons_succ, i64_w, i32_w]
            rfl
          refine take_ (i := 3) (N := some 30) (v := .agg #[.pointer (some ⟨p, 0, none⟩), .int .i64 first, .int .i64 nn]) (a' := ?_) #[true, true, true, true, false, false, false, false] rfl rfl (by kernel_rfl) (fun _ _ _ h => h) (Or.inl ⟨by rfl, ?_⟩) hHeld ?_ ?_
          · intro w' s0
            exact exl_part (b := q) rfl rfl (s0.blk (i := 1) rfl).1
          rotate_left
          · simp only [Act.put, List.setIfInBounds_toArray, List.set_cons_zero, List.set_cons_succ, i64_w, i32_w]
            rfl
          refine take_ (i := 4) (N := some 31) (v := .agg (foundVals x.best.s ba x.best.good).toArray) (a' := ?_) #[true, true, true, true, true, false, false, false] rfl rfl (by kernel_rfl) (fun _ _ _ h => h) (Or.inl ⟨by rfl, ?_⟩) hHeld ?_ ?_
          · intro w' s0
            exact s0.xlfound (k := 3) rfl rfl rfl hx1
          rotate_left
          · simp only [Act.put, List.setIfInBounds_toArray, List.set_cons_zero, List.set_cons_succ, i64_w, i32_w]
            rfl
          refine take_ (i := 5) (N := some 32) (v := .agg (foundVals x.other.s oa x.other.good).toArray) (a' := ?_) #[true, true, true, true, true, true, false, false] rfl rfl (by kernel_rfl) (fun _ _ _ h => h) (Or.inl ⟨by rfl, ?_⟩) hHeld ?_ ?_
          · intro w' s0
            exact s0.xlfound (k := 4) rfl rfl rfl hx2
          rotate_left
          · simp only [Act.put, List.setIfInBounds_toArray, List.set_cons_zero, List.set_cons_succ, i64_w, i32_w]
            rfl
          refine last_ (i := 6) (N := some 33) #[true, true, true, true, true, true, true, false] rfl rfl (by kernel_rfl) (by decide) (fun K hK => ?_)
          have s0 := hHeld
          refine goes_ Try.func39 (by kernel_rfl) rfl #[.agg #[.pointer (some ⟨p, 0, none⟩), .int .i64 first, .int .i64 nn], .agg (foundVals x.best.s ba x.best.good).toArray, .agg (foundVals x.other.s oa x.other.good).toArray] (by rfl) rfl rfl (by simp only [List.map_toArray, List.map_cons, List.map_nil]; rfl) ?_
          with_reducible refine ((s0.heal_ (k := 0) rfl first nn ba oa x.best.good x.other.good hx1 hx2 hstx)).mono ?_
          rintro e w5 ⟨rfl, hq⟩
          refine ⟨_, rfl, ?_⟩
          refine hK.out _ _ ?_
          clear hK K
          refine norm_ (a' := ?_) ?_ ?_
          rotate_left
          · show Act.put _ (some 33) _ = _
            simp only [Act.put, List.setIfInBounds_toArray, List.set_cons_zero, List.set_cons_succ, i64_w, i32_w]
            rfl
          refine pure_ (i := 7) (N := some 10) (v := ?_) (a' := ?_) #[true, true, true, true, true, true, true, true] rfl rfl (by kernel_rfl) (fun _ _ _ h => h) (Or.inl ⟨by rfl, ?_⟩) ?_ ?_
          rotate_left
          · intro w'
            go_simp
            with_reducible rfl
          rotate_left
          · simp only [Act.put, List.setIfInBounds_toArray, List.set_cons_zero, List.set_cons_succ, i64_w, i32_w]
            rfl
          refine done_ (by kernel_rfl) ?_
          rw [HH1.out] at hq
          rw [HH2.out]
          (try simp only [List.nil_append, List.cons_append, List.set_cons_zero, List.set_cons_succ] at hq); replace ho := hq; clear hq
          clear hHeld s0
          rw [HG.out] at ho
          go_upto_region 11 with (first
            | (refine go_val rfl (ho.xlfbool (k := 3) (x := .tmp 37) rfl rfl rfl hx1) ?_; simp only [Act.put, List.setIfInBounds_toArray, List.set_cons_zero, List.set_cons_succ])
            | (refine go_val rfl (ho.xlfsec (k := 3) (x := .tmp 39) rfl rfl rfl hx1) ?_; simp only [Act.put, List.setIfInBounds_toArray, List.set_cons_zero, List.set_cons_succ])
            | (go_at_call 55; refine (number0_calls hx1).mono ?_; rintro e w' ⟨rfl, hn5⟩; replace ho := ho.nw hn5; clear hn5)
            | (go_at_call 37; (try rw [IntKind.wrap_u32']); refine (make1_calls hq0 hq1 hs).mono ?_; rintro e w' ⟨rfl, hn5⟩; rw [← HNX.out]; replace ho := ho.nw hn5; clear hn5)
            | (refine go_val_ex rfl (ho.xallocAt 12 rfl rfl) ?_; rintro v w1 ⟨b12, rfl, hq⟩; simp only [Act.put, List.setIfInBounds_toArray, List.set_cons_zero, List.set_cons_succ]; (try simp only [List.nil_append, List.cons_append, List.set_cons_zero, List.set_cons_succ] at hq); replace ho := hq; clear hq)
            | (refine go_skp_ex rfl (ho.xstore (k := 5) (s' := sn) (x := .tmp 12) (y := .tmp 45) rfl rfl rfl zeroSec_ok hsn rfl) ?_; rintro w1 hq; simp only [Act.put, List.setIfInBounds_toArray, List.set_cons_zero, List.set_cons_succ]; (try simp only [List.nil_append, List.cons_append, List.set_cons_zero, List.set_cons_succ] at hq); replace ho := hq; clear hq))
          refine start_ (n := 16) (S := fun w' => Own w0 w' [diskR p d1, blkR q #[.pointer (some ⟨p, 0, none⟩), .int .i64 first, .int .i64 nn] 93, restR rs (fun i => i = k ∨ i = j), blkR b7 (foundVals x.best.s ba true).toArray 95, blkR b8 (foundVals x.other.s oa x.other.good).toArray 95, blkR b12 (secVals sn).toArray 29]) (ds := [14]) #[false, false, false, false, false, false, false, false, false, false, false, false, false, false, false, false] mixed rfl rfl ((ho.nw ((Nw.refl _).drew))) (fun hHeld => ?_)
          refine pure_ (i := 0) (N := some 46) (v := ?_) (a' := ?_) #[true, false, false, false, false, false, false, false, false, false, false, false, false, false, false, false] rfl rfl (by kernel_rfl) (fun _ _ _ h => h) (Or.inl ⟨by rfl, ?_⟩) ?_ ?_
          rotate_left
          · intro w'
            go_simp
            with_reducible rfl
          rotate_left
          · simp only [Act.put, List.setIfInBounds_toArray, List.set_cons_zero, List.set_cons_succ, i64_w, i32_w]
            rfl
          refine pure_ (i := 1) (N := some 47) (v := ?_) (a' := ?_) #[true, true, false, false, false, false, false, false, false, false, false, false, false, false, false, false] rfl rfl (by kernel_rfl) (fun _ _ _ h => h) (Or.inl ⟨by rfl, ?_⟩) ?_ ?_
          rotate_left
          · intro w'
            go_simp
            with_reducible rfl
          rotate_left
          · simp only [Act.put, List.setIfInBounds_toArray, List.set_cons_zero, List.set_cons_succ, i64_w, i32_w]
            rfl
          refine pure_ (i := 2) (N := some 48) (v := ?_) (a' := ?_) #[true, true, true, false, false, false, false, false, false, false, false, false, false, false, false, false] rfl rfl (by kernel_rfl) (fun _ _ _ h => h) (Or.inl ⟨by rfl, ?_⟩) ?_ ?_
          rotate_left
          · intro w'
            go_simp
            with_reducible rfl
          rotate_left
          · simp only [Act.put, List.setIfInBounds_toArray, List.set_cons_zero, List.set_cons_succ, i64_w, i32_w]
            rfl
          refine pure_ (i := 4) (N := some 50) (v := ?_) (a' := ?_) #[true, true, true, false, true, false, false, false, false, false, false, false, false, false, false, false] rfl rfl (by kernel_rfl) (fun _ _ _ h => h) (Or.inl ⟨by rfl, ?_⟩) ?_ ?_
          rotate_left
          · intro w'
            go_simp
            with_reducible rfl
          rotate_left
          · simp only [Act.put, List.setIfInBounds_toArray, List.set_cons_zero, List.set_cons_succ, i64_w, i32_w]
            rfl
          refine pure_ (i := 5) (N := some 51) (v := ?_) (a' := ?_) #[true, true, true, false, true, true, false, false, false, false, false, false, false, false, false, false] rfl rfl (by kernel_rfl) (fun _ _ _ h => h) (Or.inl ⟨by rfl, ?_⟩) ?_ ?_
          rotate_left
          · intro w'
            go_simp
            with_reducible rfl
          rotate_left
          · simp only [Act.put, List.setIfInBounds_toArray, List.set_cons_zero, List.set_cons_succ, i64_w, i32_w]
            rfl
          refine pure_ (i := 6) (N := some 52) (v := ?_) (a' := ?_) #[true, true, true, false, true, true, true, false, false, false, false, false, false, false, false, false] rfl rfl (by kernel_rfl) (fun _ _ _ h => h) (Or.inl ⟨by rfl, ?_⟩) ?_ ?_
          rotate_left
          · intro w'
            go_simp
            with_reducible rfl
          rotate_left
          · simp only [Act.put, List.setIfInBounds_toArray, List.set_cons_zero, List.set_cons_succ, i64_w, i32_w]
            rfl
          refine pure_ (i := 7) (N := some 53) (v := ?_) (a' := ?_) #[true, true, true, false, true, true, true, true, false, false, false, false, false, false, false, false] rfl rfl (by kernel_rfl) (fun _ _ _ h => h) (Or.inl ⟨by rfl, ?_⟩) ?_ ?_
          rotate_left
          · intro w'
            go_simp
            with_reducible rfl
          rotate_left
          · simp only [Act.put, List.setIfInBounds_toArray, List.set_cons_zero, List.set_cons_succ, i64_w, i32_w]
            rfl
          refine pure_ (i := 9) (N := some 55) (v := ?_) (a' := ?_) #[true, true, true, false, true, true, true, true, false, true, false, false, false, false, false, false] rfl rfl (by kernel_rfl) (fun _ _ _ h => h) (Or.inl ⟨by rfl, ?_⟩) ?_ ?_
          rotate_left
          · intro w'
            go_simp
            with_reducible rfl
          rotate_left
          · simp only [Act.put, List.setIfInBounds_toArray, List.set_cons_zero, List.set_cons_succ, i64_w, i32_w]
            rfl
          refine pure_ (i := 10) (N := some 56) (v := ?_) (a' := ?_) #[true, true, true, false, true, true, true, true, false, true, true, false, false, false, false, false] rfl rfl (by kernel_rfl) (fun _ _ _ h => h) (Or.inl ⟨by rfl, ?_⟩) ?_ ?_
          rotate_left
          · intro w'
            go_simp
            with_reducible rfl
          rotate_left
          · simp only [Act.put, List.setIfInBounds_toArray, List.set_cons_zero, List.set_cons_succ, i64_w, i32_w]
            rfl
          refine take_ (i := 3) (N := some 49) (v := .agg #[.pointer (some ⟨p, 0, none⟩), .int .i64 first, .int .i64 nn]) (a' := ?_) #[true, true, true, true, true, true, true, true, false, true, true, false, false, false, false, false] rfl rfl (by kernel_rfl) (fun _ _ _ h => h) (Or.inl ⟨by rfl, ?_⟩) hHeld ?_ ?_
          · intro w' s0
            exact exl_part (b := q) rfl rfl (s0.blk (i := 1) rfl).1
          rotate_left
          · simp only [Act.put, List.setIfInBounds_toArray, List.set_cons_zero, List.set_cons_succ, i64_w, i32_w]
            rfl
          refine take_ (i := 8) (N := some 54) (v := .int .i64 first) (a' := ?_) #[true, true, true, true, true, true, true, true, true, true, true, false, false, false, false, false] rfl rfl (by kernel_rfl) (fun _ _ _ h => h) (Or.inl ⟨by rfl, ?_⟩) hHeld ?_ ?_
          · intro w' s0
            exact s0.xint1 (k := 1) (j := 1) rfl rfl rfl rfl
          rotate_left
          · simp only [Act.put, List.setIfInBounds_toArray, List.set_cons_zero, List.set_cons_succ, i64_w, i32_w]
            rfl
          refine pure_ (i := 11) (N := some 57) (v := ?_) (a' := ?_) #[true, true, true, true, true, true, true, true, true, true, true, true, false, false, false, false] rfl rfl (by kernel_rfl) (fun _ _ _ h => h) (Or.inl ⟨by rfl, ?_⟩) ?_ ?_
          rotate_left
          · intro w'
            go_simp
            with_reducible rfl
          rotate_left
          · simp only [Act.put, List.setIfInBounds_toArray, List.set_cons_zero, List.set_cons_succ, i64_w, i32_w]
            rfl
          refine pure_ (i := 12) (N := some 58) (v := ?_) (a' := ?_) #[true, true, true, true, true, true, true, true, true, true, true, true, true, false, false, false] rfl rfl (by kernel_rfl) (fun _ _ _ h => h) (Or.inl ⟨by rfl, ?_⟩) ?_ ?_
          rotate_left
          · intro w'
            go_simp
            with_reducible rfl
          rotate_left
          · simp only [Act.put, List.setIfInBounds_toArray, List.set_cons_zero, List.set_cons_succ, i64_w, i32_w]
            rfl
          refine take_ (i := 13) (N := some 59) (v := .agg (secVals sn).toArray) (a' := ?_) #[true, true, true, true, true, true, true, true, true, true, true, true, true, true, false, false] rfl rfl (by kernel_rfl) (fun _ _ _ h => h) (Or.inl ⟨by rfl, ?_⟩) hHeld ?_ ?_
          · intro w' s0
            exact s0.xload (k := 5) rfl rfl rfl hsn
          rotate_left
          · simp only [Act.put, List.setIfInBounds_toArray, List.set_cons_zero, List.set_cons_succ, i64_w, i32_w]
            rfl
          refine last_ (i := 14) (N := some 60) #[true, true, true, true, true, true, true, true, true, true, true, true, true, true, true, false] rfl rfl (by kernel_rfl) (by decide) (fun K hK => ?_)
          have s0 := hHeld
          refine goes_ Try.func56 (by kernel_rfl) rfl #[.agg #[.pointer (some ⟨p, 0, none⟩), .int .i64 first, .int .i64 nn], .int .i64 (first + 2 * i + 1), .agg (secVals sn).toArray] (by rfl) rfl rfl (by simp only [List.map_toArray, List.map_cons, List.map_nil]; refine Eq.trans (b := #[.agg #[.pointer (some ⟨p, 0, none⟩), .int .i64 first, .int .i64 nn], .int .i64 (wrap64 (wrap64 (first + wrap64 (2 * i)) + 1)), .agg (secVals sn).toArray]) (by rfl) ?_; rw [HA11.out]) ?_
          with_reducible refine ((s0.wsync_ (k := 0) rfl first nn (first + 2 * i + 1) hsn (by omega))).mono ?_
          rintro e w5 ⟨rfl, hq⟩
          refine ⟨_, rfl, ?_⟩
          refine hK.out _ _ ?_
          clear hK K
          refine norm_ (a' := ?_) ?_ ?_
          rotate_left
          · show Act.put _ (some 60) _ = _
            simp only [Act.put, List.setIfInBounds_toArray, List.set_cons_zero, List.set_cons_succ, i64_w, i32_w]
            rfl
          refine pure_ (i := 15) (N := some 13) (v := ?_) (a' := ?_) #[true, true, true, true, true, true, true, true, true, true, true, true, true, true, true, true] rfl rfl (by kernel_rfl) (fun _ _ _ h => h) (Or.inl ⟨by rfl, ?_⟩) ?_ ?_
          rotate_left
          · intro w'
            go_simp
            with_reducible rfl
          rotate_left
          · simp only [Act.put, List.setIfInBounds_toArray, List.set_cons_zero, List.set_cons_succ, i64_w, i32_w]
            rfl
          refine done_ (by kernel_rfl) ?_
          rw [HW1.out] at hq
          rw [HW2.out]
          (try simp only [List.nil_append, List.cons_append, List.set_cons_zero, List.set_cons_succ] at hq); replace ho := hq; clear hq
          clear hHeld s0
          go_wp2
          go_ret
          exact ⟨rfl, HEND.out _ _ (ho.pick [0, 1, 2] (by decide) rfl)⟩
        | false =>
          have hnx : sn = copySec (1) (strInts s) := by rw [hsn']; unfold Both.next; rw [hg]; rfl
          have hsn : SecOk sn := by rw [hnx]; exact copySec_ok _ (strInts_ok s)
          have HNX := Lib.hid hnx
          have hq0 : 0 ≤ (1 : Int) := by omega
          have hq1 : (1 : Int) < 4294967296 := by omega
          have HG := Lib.hid hg
          clear hnx hsn' hg
          go_enter Try.func40, Try.ntmps40
          go_upto_region 4 with (first
            | (refine go_val rfl (exl_part (x := .tmp 17) (b := q) rfl rfl (ho.blk (i := 1) rfl).1) ?_; simp only [Act.put, List.setIfInBounds_toArray, List.set_cons_zero, List.set_cons_succ])
            | (go_at_call 38; refine (ho.slot_ (k := 0) rfl hf0 hf1 hi0 hi1).mono ?_; rintro e w' ⟨he, hq⟩; rw [HSP.out e he]; clear he; (try simp only [List.nil_append, List.cons_append, List.set_cons_zero, List.set_cons_succ] at hq); replace ho := hq; clear hq)
            | (refine go_val_ex rfl (ho.xafound 7 rfl rfl) ?_; rintro v w1 ⟨b7, rfl, hq⟩; simp only [Act.put, List.setIfInBounds_toArray, List.set_cons_zero, List.set_cons_succ]; (try simp only [List.nil_append, List.cons_append, List.set_cons_zero, List.set_cons_succ] at hq); replace ho := hq; clear hq)
            | (refine go_val_ex rfl (ho.xafound 8 rfl rfl) ?_; rintro v w1 ⟨b8, rfl, hq⟩; simp only [Act.put, List.setIfInBounds_toArray, List.set_cons_zero, List.set_cons_succ]; (try simp only [List.nil_append, List.cons_append, List.set_cons_zero, List.set_cons_succ] at hq); replace ho := hq; clear hq)
            | (refine go_skp_ex rfl (ho.xsfound (k := 3) (s' := x.best.s) (x := .tmp 7) (y := .tmp 21) rfl rfl rfl zeroSec_ok hx1 rfl) ?_; rintro w1 hq; simp only [Act.put, List.setIfInBounds_toArray, List.set_cons_zero, List.set_cons_succ]; (try simp only [List.nil_append, List.cons_append, List.set_cons_zero, List.set_cons_succ] at hq); replace ho := hq; clear hq)
            | (refine go_skp_ex rfl (ho.xsfound (k := 4) (s' := x.other.s) (x := .tmp 8) (y := .tmp 22) rfl rfl rfl zeroSec_ok hx2 rfl) ?_; rintro w1 hq; simp only [Act.put, List.setIfInBounds_toArray, List.set_cons_zero, List.set_cons_succ]; (try simp only [List.nil_append, List.cons_append, List.set_cons_zero, List.set_cons_succ] at hq); replace ho := hq; clear hq))
          refine start_ (n := 8) (S := fun w' => Own w0 w' [diskR p d, blkR q #[.pointer (some ⟨p, 0, none⟩), .int .i64 first, .int .i64 nn] 93, restR rs (fun i => i = k ∨ i = j), blkR b7 (foundVals x.best.s ba x.best.good).toArray 95, blkR b8 (foundVals x.other.s oa x.other.good).toArray 95]) (ds := [6]) #[false, false, false, false, false, false, false, false] mixed rfl rfl ((ho.nw ((Nw.refl _).drew))) (fun hHeld => ?_)
          refine pure_ (i := 0) (N := some 27) (v := ?_) (a' := ?_) #[true, false, false, false, false, false, false, false] rfl rfl (by kernel_rfl) (fun _ _ _ h => h) (Or.inl ⟨by rfl, ?_⟩) ?_ ?_
          rotate_left
          · intro w'
            go_simp
            with_reducible rfl
          rotate_left
          · simp only [Act.put, List.setIfInBounds_toArray, List.set_cons_zero, List.set_cons_succ, i64_w, i32_w]
            rfl
          refine pure_ (i := 1) (N := some 28) (v := ?_) (a' := ?_) #[true, true, false, false, false, false, false, false] rfl rfl (by kernel_rfl) (fun _ _ _ h => h) (Or.inl ⟨by rfl, ?_⟩) ?_ ?_
          rotate_left
          · intro w'
            go_simp
            with_reducible rfl
          rotate_left
          · simp only [Act.put, List.setIfInBounds_toArray, List.set_cons_zero, List.set_cons_succ, i64_w, i32_w]
            rfl
          refine pure_ (i := 2) (N := some 29) (v := ?_) (a' := ?_) #[true, true, true, false, false, false, false, false] rfl rfl (by kernel_rfl) (fun _ _ _ h => h) (Or.inl ⟨by rfl, ?_⟩) ?_ ?_
          rotate_left
          · intro w'
            go_simp
            with_reducible rfl
          rotate_left
          · simp only [Act.put, List.setIfInBounds_toArray, List.set_cons_zero, List.set_cons_succ, i64_w, i32_w]
            rfl
          refine take_ (i := 3) (N := some 30) (v := .agg #[.pointer (some ⟨p, 0, none⟩), .int .i64 first, .int .i64 nn]) (a' := ?_) #[true, true, true, true, false, false, false, false] rfl rfl (by kernel_rfl) (fun _ _ _ h => h) (Or.inl ⟨by rfl, ?_⟩) hHeld ?_ ?_
          · intro w' s0
            exact exl_part (b := q) rfl rfl (s0.blk (i := 1) rfl).1
          rotate_left
          · simp only [Act.put, List.setIfInBounds_toArray, List.set_cons_zero, List.set_cons_succ, i64_w, i32_w]
            rfl
          refine take_ (i := 4) (N := some 31) (v := .agg (foundVals x.best.s ba x.best.good).toArray) (a' := ?_) #[true, true, true, true, true, false, false, false] rfl rfl (by kernel_rfl) (fun _ _ _ h => h) (Or.inl ⟨by rfl, ?_⟩) hHeld ?_ ?_
          · intro w' s0
            exact s0.xlfound (k := 3) rfl rfl rfl hx1
          rotate_left
          · simp only [Act.put, List.setIfInBounds_toArray, List.set_cons_zero, List.set_cons_succ, i64_w, i32_w]
            rfl
          refine take_ (i := 5) (N := some 32) (v := .agg (foundVals x.other.s oa x.other.good).toArray) (a' := ?_) #[true, true, true, true, true, true, false, false] rfl rfl (by kernel_rfl) (fun _ _ _ h => h) (Or.inl ⟨by rfl, ?_⟩) hHeld ?_ ?_
          · intro w' s0
            exact s0.xlfound (k := 4) rfl rfl rfl hx2
          rotate_left
          · simp only [Act.put, List.setIfInBounds_toArray, List.set_cons_zero, List.set_cons_succ, i64_w, i32_w]
            rfl
          refine last_ (i := 6) (N := some 33) #[true, true, true, true, true, true, true, false] rfl rfl (by kernel_rfl) (by decide) (fun K hK => ?_)
          have s0 := hHeld
          refine goes_ Try.func39 (by kernel_rfl) rfl #[.agg #[.pointer (some ⟨p, 0, none⟩), .int .i64 first, .int .i64 nn], .agg (foundVals x.best.s ba x.best.good).toArray, .agg (foundVals x.other.s oa x.other.good).toArray] (by rfl) rfl rfl (by simp only [List.map_toArray, List.map_cons, List.map_nil]; rfl) ?_
          with_reducible refine ((s0.heal_ (k := 0) rfl first nn ba oa x.best.good x.other.good hx1 hx2 hstx)).mono ?_
          rintro e w5 ⟨rfl, hq⟩
          refine ⟨_, rfl, ?_⟩
          refine hK.out _ _ ?_
          clear hK K
          refine norm_ (a' := ?_) ?_ ?_
          rotate_left
          · show Act.put _ (some 33) _ = _
            simp only [Act.put, List.setIfInBounds_toArray, List.set_cons_zero, List.set_cons_succ, i64_w, i32_w]
            rfl
          refine pure_ (i := 7) (N := some 10) (v := ?_) (a' := ?_) #[true, true, true, true, true, true, true, true] rfl rfl (by kernel_rfl) (fun _ _ _ h => h) (Or.inl ⟨by rfl, ?_⟩) ?_ ?_
          rotate_left
          · intro w'
            go_simp
            with_reducible rfl
          rotate_left
          · simp only [Act.put, List.setIfInBounds_toArray, List.set_cons_zero, List.set_cons_succ, i64_w, i32_w]
            rfl
          refine done_ (by kernel_rfl) ?_
          rw [HH1.out] at hq
          rw [HH2.out]
          (try simp only [List.nil_append, List.cons_append, List.set_cons_zero, List.set_cons_succ] at hq); replace ho := hq; clear hq
          clear hHeld s0
          rw [HG.out] at ho
          go_upto_region 11 with (first
            | (refine go_val rfl (ho.xlfbool (k := 3) (x := .tmp 37) rfl rfl rfl hx1) ?_; simp only [Act.put, List.setIfInBounds_toArray, List.set_cons_zero, List.set_cons_succ])
            | (refine go_val rfl (ho.xlfsec (k := 3) (x := .tmp 39) rfl rfl rfl hx1) ?_; simp only [Act.put, List.setIfInBounds_toArray, List.set_cons_zero, List.set_cons_succ])
            | (go_at_call 55; refine (number0_calls hx1).mono ?_; rintro e w' ⟨rfl, hn5⟩; replace ho := ho.nw hn5; clear hn5)
            | (go_at_call 37; (try rw [IntKind.wrap_u32']); refine (make1_calls hq0 hq1 hs).mono ?_; rintro e w' ⟨rfl, hn5⟩; rw [← HNX.out]; replace ho := ho.nw hn5; clear hn5)
            | (refine go_val_ex rfl (ho.xallocAt 12 rfl rfl) ?_; rintro v w1 ⟨b12, rfl, hq⟩; simp only [Act.put, List.setIfInBounds_toArray, List.set_cons_zero, List.set_cons_succ]; (try simp only [List.nil_append, List.cons_append, List.set_cons_zero, List.set_cons_succ] at hq); replace ho := hq; clear hq)
            | (refine go_skp_ex rfl (ho.xstore (k := 5) (s' := sn) (x := .tmp 12) (y := .tmp 45) rfl rfl rfl zeroSec_ok hsn rfl) ?_; rintro w1 hq; simp only [Act.put, List.setIfInBounds_toArray, List.set_cons_zero, List.set_cons_succ]; (try simp only [List.nil_append, List.cons_append, List.set_cons_zero, List.set_cons_succ] at hq); replace ho := hq; clear hq))
          refine start_ (n := 16) (S := fun w' => Own w0 w' [diskR p d1, blkR q #[.pointer (some ⟨p, 0, none⟩), .int .i64 first, .int .i64 nn] 93, restR rs (fun i => i = k ∨ i = j), blkR b7 (foundVals x.best.s ba false).toArray 95, blkR b8 (foundVals x.other.s oa x.other.good).toArray 95, blkR b12 (secVals sn).toArray 29]) (ds := [14]) #[false, false, false, false, false, false, false, false, false, false, false, false, false, false, false, false] mixed rfl rfl ((ho.nw ((Nw.refl _).drew))) (fun hHeld => ?_)
          refine pure_ (i := 0) (N := some 46) (v := ?_) (a' := ?_) #[true, false, false, false, false, false, false, false, false, false, false, false, false, false, false, false] rfl rfl (by kernel_rfl) (fun _ _ _ h => h) (Or.inl ⟨by rfl, ?_⟩) ?_ ?_
          rotate_left
          · intro w'
            go_simp
            with_reducible rfl
          rotate_left
          · simp only [Act.put, List.setIfInBounds_toArray, List.set_cons_zero, List.set_cons_succ, i64_w, i32_w]
            rfl
          refine pure_ (i := 1) (N := some 47) (v := ?_) (a' := ?_) #[true, true, false, false, false, false, false, false, false, false, false, false, false, false, false, false] rfl rfl (by kernel_rfl) (fun _ _ _ h => h) (Or.inl ⟨by rfl, ?_⟩) ?_ ?_
          rotate_left
          · intro w'
            go_simp
            with_reducible rfl
          rotate_left
          · simp only [Act.put, List.setIfInBounds_toArray, List.set_cons_zero, List.set_cons_succ, i64_w, i32_w]
            rfl
          refine pure_ (i := 2) (N := some 48) (v := ?_) (a' := ?_) #[true, true, true, false, false, false, false, false, false, false, false, false, false, false, false, false] rfl rfl (by kernel_rfl) (fun _ _ _ h => h) (Or.inl ⟨by rfl, ?_⟩) ?_ ?_
          rotate_left
          · intro w'
            go_simp
            with_reducible rfl
          rotate_left
          · simp only [Act.put, List.setIfInBounds_toArray, List.set_cons_zero, List.set_cons_succ, i64_w, i32_w]
            rfl
          refine pure_ (i := 4) (N := some 50) (v := ?_) (a' := ?_) #[true, true, true, false, true, false, false, false, false, false, false, false, false, false, false, false] rfl rfl (by kernel_rfl) (fun _ _ _ h => h) (Or.inl ⟨by rfl, ?_⟩) ?_ ?_
          rotate_left
          · intro w'
            go_simp
            with_reducible rfl
          rotate_left
          · simp only [Act.put, List.setIfInBounds_toArray, List.set_cons_zero, List.set_cons_succ, i64_w, i32_w]
            rfl
          refine pure_ (i := 5) (N := some 51) (v := ?_) (a' := ?_) #[true, true, true, false, true, true, false, false, false, false, false, false, false, false, false, false] rfl rfl (by kernel_rfl) (fun _ _ _ h => h) (Or.inl ⟨by rfl, ?_⟩) ?_ ?_
          rotate_left
          · intro w'
            go_simp
            with_reducible rfl
          rotate_left
          · simp only [Act.put, List.setIfInBounds_toArray, List.set_cons_zero, List.set_cons_succ, i64_w, i32_w]
            rfl
          refine pure_ (i := 6) (N := some 52) (v := ?_) (a' := ?_) #[true, true, true, false, true, true, true, false, false, false, false, false, false, false, false, false] rfl rfl (by kernel_rfl) (fun _ _ _ h => h) (Or.inl ⟨by rfl, ?_⟩) ?_ ?_
          rotate_left
          · intro w'
            go_simp
            with_reducible rfl
          rotate_left
          · simp only [Act.put, List.setIfInBounds_toArray, List.set_cons_zero, List.set_cons_succ, i64_w, i32_w]
            rfl
          refine pure_ (i := 7) (N := some 53) (v := ?_) (a' := ?_) #[true, true, true, false, true, true, true, true, false, false, false, false, false, false, false, false] rfl rfl (by kernel_rfl) (fun _ _ _ h => h) (Or.inl ⟨by rfl, ?_⟩) ?_ ?_
          rotate_left
          · intro w'
            go_simp
            with_reducible rfl
          rotate_left
          · simp only [Act.put, List.setIfInBounds_toArray, List.set_cons_zero, List.set_cons_succ, i64_w, i32_w]
            rfl
          refine pure_ (i := 9) (N := some 55) (v := ?_) (a' := ?_) #[true, true, true, false, true, true, true, true, false, true, false, false, false, false, false, false] rfl rfl (by kernel_rfl) (fun _ _ _ h => h) (Or.inl ⟨by rfl, ?_⟩) ?_ ?_
          rotate_left
          · intro w'
            go_simp
            with_reducible rfl
          rotate_left
          · simp only [Act.put, List.setIfInBounds_toArray, List.set_cons_zero, List.set_cons_succ, i64_w, i32_w]
            rfl
          refine pure_ (i := 10) (N := some 56) (v := ?_) (a' := ?_) #[true, true, true, false, true, true, true, true, false, true, true, false, false, false, false, false] rfl rfl (by kernel_rfl) (fun _ _ _ h => h) (Or.inl ⟨by rfl, ?_⟩) ?_ ?_
          rotate_left
          · intro w'
            go_simp
            with_reducible rfl
          rotate_left
          · simp only [Act.put, List.setIfInBounds_toArray, List.set_cons_zero, List.set_cons_succ, i64_w, i32_w]
            rfl
          refine take_ (i := 3) (N := some 49) (v := .agg #[.pointer (some ⟨p, 0, none⟩), .int .i64 first, .int .i64 nn]) (a' := ?_) #[true, true, true, true, true, true, true, true, false, true, true, false, false, false, false, false] rfl rfl (by kernel_rfl) (fun _ _ _ h => h) (Or.inl ⟨by rfl, ?_⟩) hHeld ?_ ?_
          · intro w' s0
            exact exl_part (b := q) rfl rfl (s0.blk (i := 1) rfl).1
          rotate_left
          · simp only [Act.put, List.setIfInBounds_toArray, List.set_cons_zero, List.set_cons_succ, i64_w, i32_w]
            rfl
          refine take_ (i := 8) (N := some 54) (v := .int .i64 first) (a' := ?_) #[true, true, true, true, true, true, true, true, true, true, true, false, false, false, false, false] rfl rfl (by kernel_rfl) (fun _ _ _ h => h) (Or.inl ⟨by rfl, ?_⟩) hHeld ?_ ?_
          · intro w' s0
            exact s0.xint1 (k := 1) (j := 1) rfl rfl rfl rfl
          rotate_left
          · simp only [Act.put, List.setIfInBounds_toArray, List.set_cons_zero, List.set_cons_succ, i64_w, i32_w]
            rfl
          refine pure_ (i := 11) (N := some 57) (v := ?_) (a' := ?_) #[true, true, true, true, true, true, true, true, true, true, true, true, false, false, false, false] rfl rfl (by kernel_rfl) (fun _ _ _ h => h) (Or.inl ⟨by rfl, ?_⟩) ?_ ?_
          rotate_left
          · intro w'
            go_simp
            with_reducible rfl
          rotate_left
          · simp only [Act.put, List.setIfInBounds_toArray, List.set_cons_zero, List.set_cons_succ, i64_w, i32_w]
            rfl
          refine pure_ (i := 12) (N := some 58) (v := ?_) (a' := ?_) #[true, true, true, true, true, true, true, true, true, true, true, true, true, false, false, false] rfl rfl (by kernel_rfl) (fun _ _ _ h => h) (Or.inl ⟨by rfl, ?_⟩) ?_ ?_
          rotate_left
          · intro w'
            go_simp
            with_reducible rfl
          rotate_left
          · simp only [Act.put, List.setIfInBounds_toArray, List.set_cons_zero, List.set_cons_succ, i64_w, i32_w]
            rfl
          refine take_ (i := 13) (N := some 59) (v := .agg (secVals sn).toArray) (a' := ?_) #[true, true, true, true, true, true, true, true, true, true, true, true, true, true, false, false] rfl rfl (by kernel_rfl) (fun _ _ _ h => h) (Or.inl ⟨by rfl, ?_⟩) hHeld ?_ ?_
          · intro w' s0
            exact s0.xload (k := 5) rfl rfl rfl hsn
          rotate_left
          · simp only [Act.put, List.setIfInBounds_toArray, List.set_cons_zero, List.set_cons_succ, i64_w, i32_w]
            rfl
          refine last_ (i := 14) (N := some 60) #[true, true, true, true, true, true, true, true, true, true, true, true, true, true, true, false] rfl rfl (by kernel_rfl) (by decide) (fun K hK => ?_)
          have s0 := hHeld
          refine goes_ Try.func56 (by kernel_rfl) rfl #[.agg #[.pointer (some ⟨p, 0, none⟩), .int .i64 first, .int .i64 nn], .int .i64 (first + 2 * i + 1), .agg (secVals sn).toArray] (by rfl) rfl rfl (by simp only [List.map_toArray, List.map_cons, List.map_nil]; refine Eq.trans (b := #[.agg #[.pointer (some ⟨p, 0, none⟩), .int .i64 first, .int .i64 nn], .int .i64 (wrap64 (wrap64 (first + wrap64 (2 * i)) + 1)), .agg (secVals sn).toArray]) (by rfl) ?_; rw [HA11.out]) ?_
          with_reducible refine ((s0.wsync_ (k := 0) rfl first nn (first + 2 * i + 1) hsn (by omega))).mono ?_
          rintro e w5 ⟨rfl, hq⟩
          refine ⟨_, rfl, ?_⟩
          refine hK.out _ _ ?_
          clear hK K
          refine norm_ (a' := ?_) ?_ ?_
          rotate_left
          · show Act.put _ (some 60) _ = _
            simp only [Act.put, List.setIfInBounds_toArray, List.set_cons_zero, List.set_cons_succ, i64_w, i32_w]
            rfl
          refine pure_ (i := 15) (N := some 13) (v := ?_) (a' := ?_) #[true, true, true, true, true, true, true, true, true, true, true, true, true, true, true, true] rfl rfl (by kernel_rfl) (fun _ _ _ h => h) (Or.inl ⟨by rfl, ?_⟩) ?_ ?_
          rotate_left
          · intro w'
            go_simp
            with_reducible rfl
          rotate_left
          · simp only [Act.put, List.setIfInBounds_toArray, List.set_cons_zero, List.set_cons_succ, i64_w, i32_w]
            rfl
          refine done_ (by kernel_rfl) ?_
          rw [HW1.out] at hq
          rw [HW2.out]
          (try simp only [List.nil_append, List.cons_append, List.set_cons_zero, List.set_cons_succ] at hq); replace ho := hq; clear hq
          clear hHeld s0
          go_wp2
          go_ret
          exact ⟨rfl, HEND.out _ _ (ho.pick [0, 1, 2] (by decide) rfl)⟩
    · have hb1 : (eh != 0) = true := by simp [heh]
      have hr : r = (d1, eh) := by rw [HR.out, if_pos heh]
      have hr1 : r.1 = d1 := by rw [hr]
      have hr2 : r.2 = eh := by rw [hr]
      rw [hr1, hr2]
      clear hr hr1 hr2 HR heh
      go_enter Try.func40, Try.ntmps40
      go_upto_region 4 with (first
        | (refine go_val rfl (exl_part (x := .tmp 17) (b := q) rfl rfl (ho.blk (i := 1) rfl).1) ?_; simp only [Act.put, List.setIfInBounds_toArray, List.set_cons_zero, List.set_cons_succ])
        | (go_at_call 38; refine (ho.slot_ (k := 0) rfl hf0 hf1 hi0 hi1).mono ?_; rintro e w' ⟨he, hq⟩; rw [HSP.out e he]; clear he; (try simp only [List.nil_append, List.cons_append, List.set_cons_zero, List.set_cons_succ] at hq); replace ho := hq; clear hq)
        | (refine go_val_ex rfl (ho.xafound 7 rfl rfl) ?_; rintro v w1 ⟨b7, rfl, hq⟩; simp only [Act.put, List.setIfInBounds_toArray, List.set_cons_zero, List.set_cons_succ]; (try simp only [List.nil_append, List.cons_append, List.set_cons_zero, List.set_cons_succ] at hq); replace ho := hq; clear hq)
        | (refine go_val_ex rfl (ho.xafound 8 rfl rfl) ?_; rintro v w1 ⟨b8, rfl, hq⟩; simp only [Act.put, List.setIfInBounds_toArray, List.set_cons_zero, List.set_cons_succ]; (try simp only [List.nil_append, List.cons_append, List.set_cons_zero, List.set_cons_succ] at hq); replace ho := hq; clear hq)
        | (refine go_skp_ex rfl (ho.xsfound (k := 3) (s' := x.best.s) (x := .tmp 7) (y := .tmp 21) rfl rfl rfl zeroSec_ok hx1 rfl) ?_; rintro w1 hq; simp only [Act.put, List.setIfInBounds_toArray, List.set_cons_zero, List.set_cons_succ]; (try simp only [List.nil_append, List.cons_append, List.set_cons_zero, List.set_cons_succ] at hq); replace ho := hq; clear hq)
        | (refine go_skp_ex rfl (ho.xsfound (k := 4) (s' := x.other.s) (x := .tmp 8) (y := .tmp 22) rfl rfl rfl zeroSec_ok hx2 rfl) ?_; rintro w1 hq; simp only [Act.put, List.setIfInBounds_toArray, List.set_cons_zero, List.set_cons_succ]; (try simp only [List.nil_append, List.cons_append, List.set_cons_zero, List.set_cons_succ] at hq); replace ho := hq; clear hq))
      refine start_ (n := 8) (S := fun w' => Own w0 w' [diskR p d, blkR q #[.pointer (some ⟨p, 0, none⟩), .int .i64 first, .int .i64 nn] 93, restR rs (fun i => i = k ∨ i = j), blkR b7 (foundVals x.best.s ba x.best.good).toArray 95, blkR b8 (foundVals x.other.s oa x.other.good).toArray 95]) (ds := [6]) #[false, false, false, false, false, false, false, false] mixed rfl rfl ((ho.nw ((Nw.refl _).drew))) (fun hHeld => ?_)
      refine pure_ (i := 0) (N := some 27) (v := ?_) (a' := ?_) #[true, false, false, false, false, false, false, false] rfl rfl (by kernel_rfl) (fun _ _ _ h => h) (Or.inl ⟨by rfl, ?_⟩) ?_ ?_
      rotate_left
      · intro w'
        go_simp
        with_reducible rfl
      rotate_left
      · simp only [Act.put, List.setIfInBounds_toArray, List.set_cons_zero, List.set_cons_succ, i64_w, i32_w]
        rfl
      refine pure_ (i := 1) (N := some 28) (v := ?_) (a' := ?_) #[true, true, false, false, false, false, false, false] rfl rfl (by kernel_rfl) (fun _ _ _ h => h) (Or.inl ⟨by rfl, ?_⟩) ?_ ?_
      rotate_left
      · intro w'
        go_simp
        with_reducible rfl
      rotate_left
      · simp only [Act.put, List.setIfInBounds_toArray, List.set_cons_zero, List.set_cons_succ, i64_w, i32_w]
        rfl
      refine pure_ (i := 2) (N := some 29) (v := ?_) (a' := ?_) #[true, true, true, false, false, false, false, false] rfl rfl (by kernel_rfl) (fun _ _ _ h => h) (Or.inl ⟨by rfl, ?_⟩) ?_ ?_
      rotate_left
      · intro w'
        go_simp
        with_reducible rfl
      rotate_left
      · simp only [Act.put, List.setIfInBounds_toArray, List.set_cons_zero, List.set_cons_succ, i64_w, i32_w]
        rfl
      refine take_ (i := 3) (N := some 30) (v := .agg #[.pointer (some ⟨p, 0, none⟩), .int .i64 first, .int .i64 nn]) (a' := ?_) #[true, true, true, true, false, false, false, false] rfl rfl (by kernel_rfl) (fun _ _ _ h => h) (Or.inl ⟨by rfl, ?_⟩) hHeld ?_ ?_
      · intro w' s0
        exact exl_part (b := q) rfl rfl (s0.blk (i := 1) rfl).1
      rotate_left
      · simp only [Act.put, List.setIfInBounds_toArray, List.set_cons_zero, List.set_cons_succ, i64_w, i32_w]
        rfl
      refine take_ (i := 4) (N := some 31) (v := .agg (foundVals x.best.s ba x.best.good).toArray) (a' := ?_) #[true, true, true, true, true, false, false, false] rfl rfl (by kernel_rfl) (fun _ _ _ h => h) (Or.inl ⟨by rfl, ?_⟩) hHeld ?_ ?_
      · intro w' s0
        exact s0.xlfound (k := 3) rfl rfl rfl hx1
      rotate_left
      · simp only [Act.put, List.setIfInBounds_toArray, List.set_cons_zero, List.set_cons_succ, i64_w, i32_w]
        rfl
      refine take_ (i := 5) (N := some 32) (v := .agg (foundVals x.other.s oa x.other.good).toArray) (a' := ?_) #[true, true, true, true, true, true, false, false] rfl rfl (by kernel_rfl) (fun _ _ _ h => h) (Or.inl ⟨by rfl, ?_⟩) hHeld ?_ ?_
      · intro w' s0
        exact s0.xlfound (k := 4) rfl rfl rfl hx2
      rotate_left
      · simp only [Act.put, List.setIfInBounds_toArray, List.set_cons_zero, List.set_cons_succ, i64_w, i32_w]
        rfl
      refine last_ (i := 6) (N := some 33) #[true, true, true, true, true, true, true, false] rfl rfl (by kernel_rfl) (by decide) (fun K hK => ?_)
      have s0 := hHeld
      refine goes_ Try.func39 (by kernel_rfl) rfl #[.agg #[.pointer (some ⟨p, 0, none⟩), .int .i64 first, .int .i64 nn], .agg (foundVals x.best.s ba x.best.good).toArray, .agg (foundVals x.other.s oa x.other.good).toArray] (by rfl) rfl rfl (by simp only [List.map_toArray, List.map_cons, List.map_nil]; rfl) ?_
      with_reducible refine ((s0.heal_ (k := 0) rfl first nn ba oa x.best.good x.other.good hx1 hx2 hstx)).mono ?_
      rintro e w5 ⟨rfl, hq⟩
      refine ⟨_, rfl, ?_⟩
      refine hK.out _ _ ?_
      clear hK K
      refine norm_ (a' := ?_) ?_ ?_
      rotate_left
      · show Act.put _ (some 33) _ = _
        simp only [Act.put, List.setIfInBounds_toArray, List.set_cons_zero, List.set_cons_succ, i64_w, i32_w]
        rfl
      refine pure_ (i := 7) (N := some 10) (v := ?_) (a' := ?_) #[true, true, true, true, true, true, true, true] rfl rfl (by kernel_rfl) (fun _ _ _ h => h) (Or.inl ⟨by rfl, ?_⟩) ?_ ?_
      rotate_left
      · intro w'
        go_simp
        with_reducible rfl
      rotate_left
      · simp only [Act.put, List.setIfInBounds_toArray, List.set_cons_zero, List.set_cons_succ, i64_w, i32_w]
        rfl
      refine done_ (by kernel_rfl) ?_
      rw [HH1.out] at hq
      rw [HH2.out]
      (try simp only [List.nil_append, List.cons_append, List.set_cons_zero, List.set_cons_succ] at hq); replace ho := hq; clear hq
      clear hHeld s0
      go_wp2
      go_ret
      exact ⟨rfl, HEND.out _ _ (ho.pick [0, 1, 2] (by decide) rfl)⟩
  · rw [if_pos hxe] at hr
    have hr1 : r.1 = d := by rw [hr]
    have hr2 : r.2 = x.e := by rw [hr]
    rw [hr1, hr2]
    clear hr hr1 hr2
    have hsp : ∀ e, SlotPost d first i e → e = .returned (.tuple #[.agg (foundVals zeroSec 0 false).toArray, .agg (foundVals zeroSec 0 false).toArray, .int .i64 x.e]) := fun e he => by
      unfold SlotPost at he
      rw [← HX.out, if_pos hxe] at he
      exact he
    have HSP := Lib.hid hsp
    obtain ⟨ex, hex⟩ : ∃ e, e = x.e := ⟨_, rfl⟩
    rw [← hex] at hxe HSP ⊢
    have hb : (ex != 0) = true := by simp [hxe]
    clear hsp hxe hex
    go_enter Try.func40, Try.ntmps40
    go_wp2_with (first
      | (refine go_val rfl (exl_part (x := .tmp 17) (b := q) rfl rfl (ho.blk (i := 1) rfl).1) ?_; simp only [Act.put, List.setIfInBounds_toArray, List.set_cons_zero, List.set_cons_succ])
      | (go_at_call 38; refine (ho.slot_ (k := 0) rfl hf0 hf1 hi0 hi1).mono ?_; rintro e w' ⟨he, hq⟩; rw [HSP.out e he]; clear he; (try simp only [List.nil_append, List.cons_append, List.set_cons_zero, List.set_cons_succ] at hq); replace ho := hq; clear hq)
      | (refine go_val_ex rfl (ho.xafound 7 rfl rfl) ?_; rintro v w1 ⟨b7, rfl, hq⟩; simp only [Act.put, List.setIfInBounds_toArray, List.set_cons_zero, List.set_cons_succ]; (try simp only [List.nil_append, List.cons_append, List.set_cons_zero, List.set_cons_succ] at hq); replace ho := hq; clear hq)
      | (refine go_val_ex rfl (ho.xafound 8 rfl rfl) ?_; rintro v w1 ⟨b8, rfl, hq⟩; simp only [Act.put, List.setIfInBounds_toArray, List.set_cons_zero, List.set_cons_succ]; (try simp only [List.nil_append, List.cons_append, List.set_cons_zero, List.set_cons_succ] at hq); replace ho := hq; clear hq)
      | (refine go_skp_ex rfl (ho.xsfound (k := 3) (s' := zeroSec) (x := .tmp 7) (y := .tmp 21) rfl rfl rfl zeroSec_ok zeroSec_ok rfl) ?_; rintro w1 hq; simp only [Act.put, List.setIfInBounds_toArray, List.set_cons_zero, List.set_cons_succ]; (try simp only [List.nil_append, List.cons_append, List.set_cons_zero, List.set_cons_succ] at hq); replace ho := hq; clear hq)
      | (refine go_skp_ex rfl (ho.xsfound (k := 4) (s' := zeroSec) (x := .tmp 8) (y := .tmp 22) rfl rfl rfl zeroSec_ok zeroSec_ok rfl) ?_; rintro w1 hq; simp only [Act.put, List.setIfInBounds_toArray, List.set_cons_zero, List.set_cons_succ]; (try simp only [List.nil_append, List.cons_append, List.set_cons_zero, List.set_cons_succ] at hq); replace ho := hq; clear hq))
    go_ret
    exact ⟨rfl, HEND.out _ _ (ho.pick [0, 1, 2] (by decide) rfl)⟩
end
end Go.Proofs.Ytcaalfpfkalalaa
