/- quietuslaw21.DiskStops: the walk. -/
import Derived.Test.YtcaalfpfkalalaaO5
import Derived.Test.YtcaalfpfkalalaaA3
import Derived.Test.YtcaalfpfkalalaaG4
set_option linter.unusedVariables false
set_option linter.unusedSimpArgs false
set_option maxRecDepth 10000
set_option maxHeartbeats 8000000
namespace Go.Proofs.Ytcaalfpfkalalaa
open Go.RowKit Qd
open Go.Proofs.YtcaalfpfkalalaaW.PrintLast
def secMap (g : Int → Option Sec) : Int → Option Value := fun k => (g k).map fun s => .agg (secVals s).toArray
theorem secMap_none : secMap (fun _ => none) = fun _ => none := rfl
theorem secMap_put (g : Int → Option Sec) (i : Int) (s : Sec) : (fun x => if x = i then some (Value.agg (secVals s).toArray) else secMap g x) = secMap (fun x => if x = i then some s else g x) := by
  funext x
  unfold secMap
  by_cases h : x = i <;> simp [h]
theorem uSecMap : Try.prog.underlying 58 = some (.map 3 29) := by kernel_rfl
section
variable {w0 w : World} {rs : List Res} {k : Nat}
theorem Own.xmakeAt {o : Oper} {ρ : Operand → Value} (n : Tmp) (h : Own w0 w rs) (hd : o.dst = some n) (ho : o.op = .makeMap 58 none) :
    ∃ v w1, (execOp ρ o).run Try.prog w = .ok (.value v) w1 ∧ ∃ b, v = .map (some b) ∧ Own w0 w1 (rs ++ [mapR b (secMap fun _ => none)]) := by
  have := h.xmake (ρ := ρ) ho uSecMap
  rw [secMap_none]
  exact this
end
theorem read_sec_ok {d : Disk} (h : d.Ok) (i : Int) : SecOk (d.read i).1 := by
  unfold Disk.read
  split
  · exact zeroSec_ok
  · split
    · exact lastSec_ok (h.opnOk _)
    · split
      · exact zeroSec_ok
      · exact h.cell _
/-- The sector of a call. -/
def slotOf (a : Int) : Nat := ((a.tmod 16 + 16) % 16).toNat
theorem slotOf_lt (a : Int) : slotOf a < 16 := by unfold slotOf; omega
theorem slotOf_eq (a : Int) : (a.tmod 16 + 16) % 16 = (slotOf a : Int) := by unfold slotOf; omega
attribute [local irreducible] diskR blkR mapR rangeR secVals SecOk DiskIn KeepIs OpsIs Own secMap slotOf filled opVals
section
variable {w : World}
theorem stops_calls {vl vk : Value} {l : List DOp} {keep : List Int} {n : Nat} (hn : n < 256) (hl : OpsIs w vl l) (hok : ∀ x ∈ l, x.ok) (hk : KeepIs w vk keep) (hk64 : ∀ x ∈ keep, -9223372036854775808 ≤ x ∧ x ≤ 9223372036854775807)
    (hl63 : l.length ≤ 9223372036854775807) (hk63 : keep.length ≤ 9223372036854775807) :
    Calls Try.prog 5 #[vl, .int .u8 n, vk] w fun e w' => e = .returned (.bool true) ∧ Nw w w' := by
  unfold OpsIs at hl
  have hk0 := hk
  unfold KeepIs at hk
  obtain ⟨la, lc, rfl, hla⟩ := hl
  obtain ⟨ka, kc, rfl, hka⟩ := hk
  obtain ⟨m, hm⟩ : ∃ m, m = l.length := ⟨_, rfl⟩
  obtain ⟨km, hkm⟩ : ∃ m, m = keep.length := ⟨_, rfl⟩
  rw [← hm] at hl63
  rw [← hkm] at hk63
  rw [← hm, ← hkm]
  rw [← hkm] at hk0
  have HM := Lib.hid hm
  have HKM := Lib.hid hkm
  have HLA := Lib.hid hla
  have HK0 := Lib.hid hk0
  have HOK := Lib.hid hok
  have HK64 := Lib.hid hk64
  have HA3 := Lib.hid (hka)
  clear hla hka hm hkm hk0 hok hk64
  by_cases h40 : 40 < m
  · have h40' : (40 : Int) < (m : Int) := by omega
    go_enter Try.func5, Try.ntmps5
    go_wp2_with (go_at_call 18; refine sanity21_calls.mono ?_; rintro e w' ⟨rfl, hn⟩)
    go_ret
    exact ⟨rfl, by assumption⟩
  · by_cases h20 : 20 < km
    · have h40' : (m : Int) ≤ 40 := by omega
      have h20' : (20 : Int) < (km : Int) := by omega
      go_enter Try.func5, Try.ntmps5
      go_wp2_with (go_at_call 18; refine sanity21_calls.mono ?_; rintro e w' ⟨rfl, hn⟩)
      go_ret
      exact ⟨rfl, by assumption⟩
    · have h40' : (m : Int) ≤ 40 := by omega
      have h20' : (km : Int) ≤ 20 := by omega
      have hn8 : (n : Int) < 256 := by omega
      have hn0 : (0 : Int) ≤ (n : Int) := by omega
      have ho := Own.start w
      go_enter Try.func5, Try.ntmps5
      go_wp2_with (first
        | (go_at_call 8; refine (ho.new_ 16 (by omega) (by omega)).mono ?_; rintro e w' ⟨p, rfl, hq⟩; (try simp only [List.nil_append, List.cons_append, List.set_cons_zero, List.set_cons_succ] at hq); replace ho := hq; clear hq)
        | (go_at_call 22; refine (ho.arm_ (k := 0) rfl _ (by omega)).mono ?_; rintro e w' ⟨rfl, hq⟩; (try simp only [List.nil_append, List.cons_append, List.set_cons_zero, List.set_cons_succ] at hq); replace ho := hq; clear hq)
        | (refine go_val_ex rfl (ho.xmakeAt 40 rfl rfl) ?_; rintro v w1 ⟨b8, rfl, hq⟩; simp only [Act.put, List.setIfInBounds_toArray, List.set_cons_zero, List.set_cons_succ]; (try simp only [List.nil_append, List.cons_append, List.set_cons_zero, List.set_cons_succ] at hq); replace ho := hq; clear hq)
        | (refine go_val_ex rfl (ho.xmakeAt 41 rfl rfl) ?_; rintro v w1 ⟨b9, rfl, hq⟩; simp only [Act.put, List.setIfInBounds_toArray, List.set_cons_zero, List.set_cons_succ]; (try simp only [List.nil_append, List.cons_append, List.set_cons_zero, List.set_cons_succ] at hq); replace ho := hq; clear hq))
      go_loopw [9, 44] (fun v i wr => ∃ (j bn : Nat) (D : Disk) (sure now : Int → Option Sec), j ≤ m ∧ i = .int .i64 (j : Int) ∧ v = .map (some bn) ∧ Stops n j D sure now ∧ (∀ i s, now i = some s → SecOk s) ∧ Own w wr [diskR p D, mapR b8 (secMap sure), mapR bn (secMap now)])
        (fun _ i _ => m - (intOf i).toNat)
      case atStart => exact ⟨0, b9, _, _, _, by omega, rfl, rfl, Stops.start n hn, fun i s h => (by cases h), ho⟩
      case round =>
        clear ho
        obtain ⟨j, bn, D, sure, now, hj, rfl, rfl, hst, hnok, ho⟩ := hrel
        have HST := Lib.hid hst
        have HNOK := Lib.hid hnok
        have hj0 : (0 : Int) ≤ (j : Int) := Int.natCast_nonneg j
        clear hst hnok
        by_cases hjm : j < m
        · have hjm' : (j : Int) < (m : Int) := by omega
          have hjl : j < l.length := by have := HM.out; omega
          obtain ⟨lb, lo, rfl, hlr⟩ := HLA.out (fun e => by rw [e] at hjl; simp at hjl)
          obtain ⟨x, hx⟩ : ∃ x, x = l[j] := ⟨_, rfl⟩
          have hxr := ops_at hlr hjl
          rw [← hx] at hxr
          have HXR := Lib.hid hxr
          have hxok := HOK.out x (by rw [hx]; exact List.getElem_mem hjl)
          clear hlr hx hxr
          obtain ⟨kind, xa, xb⟩ := x
          obtain ⟨⟨k1, k2⟩, ⟨a1, a2⟩, ⟨c1, c2⟩⟩ := hxok
          simp only at k1 k2 a1 a2 c1 c2
          have h3a := Int.tmod_lt_of_pos (-xa) (show (0 : Int) < 16 by omega)
          rw [Int.neg_tmod] at h3a
          have h3b := Int.tmod_lt_of_pos xa (show (0 : Int) < 16 by omega)
          have h3c : 0 ≤ xa.tmod 16 + 16 := by omega
          go_upto_region 13 with (first
            | (refine go_val rfl (exl_op (p := ⟨kind, xa, xb⟩) (x := .tmp 47) rfl rfl (range_of_nw HXR.out ho.nw0)) ?_; simp only [Act.put, List.setIfInBounds_toArray, List.set_cons_zero, List.set_cons_succ])
            | (refine go_val_ex rfl (ho.xaop rfl) ?_; rintro v w1 ⟨b11, rfl, hq⟩; simp only [Act.put, List.setIfInBounds_toArray, List.set_cons_zero, List.set_cons_succ]; (try simp only [List.nil_append, List.cons_append, List.set_cons_zero, List.set_cons_succ] at hq); replace ho := hq; clear hq)
            | (refine go_skp_ex rfl (ho.xsop (k := 3) (p := ⟨kind, xa, xb⟩) (x := .tmp 11) (y := .tmp 48) rfl rfl rfl rfl) ?_; rintro w1 hq; simp only [Act.put, List.setIfInBounds_toArray, List.set_cons_zero, List.set_cons_succ]; (try simp only [List.nil_append, List.cons_append, List.set_cons_zero, List.set_cons_succ] at hq); replace ho := hq; clear hq)
            | (refine go_val rfl (ho.xint1 (k := 3) (j := 1) (u := xa) (x := .tmp 49) rfl rfl rfl (by unfold opVals; rfl)) ?_; simp only [Act.put, List.setIfInBounds_toArray, List.set_cons_zero, List.set_cons_succ]))
          rw [slotOf_eq]
          have hkk := slotOf_lt xa
          generalize slotOf xa = kk at *
          have hkk0 : (0 : Int) ≤ (kk : Int) := Int.natCast_nonneg kk
          have hD : D.steps < 1099511627775 := by have := HST.out.steps; omega
          clear h3a h3b h3c
          by_cases hk3 : kind.tmod 3 = 0
          · have hb3 : (kind.tmod 3 == 0) = true := by simp [hk3]
            clear hk3
            have hse := HST.out.sync_e
            by_cases hjn : j < n
            · rw [if_pos hjn] at hse
              have HSE := Lib.hid hse
              have hjn' : (j : Int) < (n : Int) := by omega
              have HS2 := Lib.hid (HST.out.sync_ok hjn)
              clear hse
              generalize hD' : D.sync.1 = D' at *
              go_wp2_with (first
                | (refine go_val rfl (ho.xint1 (k := 3) (j := 0) (u := kind) (x := .tmp 54) rfl rfl rfl (by unfold opVals; rfl)) ?_; simp only [Act.put, List.setIfInBounds_toArray, List.set_cons_zero, List.set_cons_succ])
                | (go_at_call 23; refine (ho.sync_ (k := 0) rfl hD).mono ?_; rintro e w' ⟨rfl, hq⟩; rw [HSE.out]; (try simp only [List.nil_append, List.cons_append, List.set_cons_zero, List.set_cons_succ] at hq); replace ho := hq; clear hq; rw [hD'] at ho)
                | (refine go_val_ex rfl (ho.xrange (k := 2) (x := .tmp 62) rfl rfl uSecMap rfl) ?_; rintro v w1 ⟨r, cnt, rfl, hq⟩; simp only [Act.put, List.setIfInBounds_toArray, List.set_cons_zero, List.set_cons_succ]; (try simp only [List.nil_append, List.cons_append, List.set_cons_zero, List.set_cons_succ] at hq); replace ho := hq; clear hq))
              obtain ⟨wo, rfl⟩ : ∃ wo : World, wo = wr := ⟨_, rfl⟩
              go_loopw [14] (fun _ wr => ∃ (S : Int → Option Sec) (left : Int → Bool) (cnt : Nat), Own w wr [diskR p D', mapR b8 (secMap S), rangeR bn r (secMap now) left cnt, blkR b11 (opVals ⟨kind, xa, xb⟩).toArray 50] ∧
                  (∀ i, left i = true → (now i).isSome = true) ∧ ∀ i, S i = if now i = none ∨ left i = true then sure i else now i)
                (fun _ wr => wr.rangeLeft bn r)
              case atStart => exact ⟨sure, _, cnt, ho, fun i h => by simpa [secMap] using h, fun i => by by_cases h : now i = none <;> simp [secMap, h, Option.isSome_iff_ne_none]⟩
              case round =>
                clear ho
                obtain ⟨S, left, cnt2, ho, hlf, hS⟩ := hrel
                have HLE := Lib.hid (ho.rangeGet (k := 2) rfl).left_eq
                have HLF := Lib.hid hlf
                have HSS := Lib.hid hS
                clear hlf hS
                go_wp2_with (refine ho.next (k := 2) (x := .tmp 63) rfl rfl rfl rfl ?_ ?_)
                · intro hl0
                  have HL0 := Lib.hid hl0
                  clear hl0
                  go_wp2_with (refine go_val_ex rfl (ho.xmakeAt 72 rfl rfl) ?_; rintro v w1 ⟨b72, rfl, hq⟩; simp only [Act.put, List.setIfInBounds_toArray, List.set_cons_zero, List.set_cons_succ]; (try simp only [List.nil_append, List.cons_append, List.set_cons_zero, List.set_cons_succ] at hq); replace ho := hq; clear hq)
                  have e : S = overNow sure now := by
                    funext i
                    rw [HSS.out i, HL0.out i, overNow]
                    by_cases h : now i = none <;> simp [h]
                  exact ⟨⟨j + 1, b72, D', S, _, by omega, by go_num, rfl, by rw [e]; exact HS2.out, fun i s h => (by cases h), ho.pick [0, 1, 4] (by decide) rfl⟩, by simp [intOf]; omega⟩
                · intro i v w1 cnt1 hli hfi hlt hq hen
                  obtain ⟨s, hs, rfl⟩ : ∃ s, now i = some s ∧ v = .agg (secVals s).toArray := by
                    unfold secMap at hfi
                    obtain ⟨s, h1, h2⟩ := Option.map_eq_some_iff.1 hfi
                    exact ⟨s, h1, h2.symm⟩
                  have HNI := Lib.hid hs
                  have hsok := HNOK.out i s hs
                  have HLT := Lib.hid hlt
                  (try simp only [List.nil_append, List.cons_append, List.set_cons_zero, List.set_cons_succ] at hq); replace ho := hq; clear hq
                  clear hli hfi hs hlt
                  go_wp2_with (first
                    | (refine go_val_ex rfl (ho.xallocAt 15 rfl rfl) ?_; rintro v w1 ⟨b15, rfl, hq⟩; simp only [Act.put, List.setIfInBounds_toArray, List.set_cons_zero, List.set_cons_succ]; (try simp only [List.nil_append, List.cons_append, List.set_cons_zero, List.set_cons_succ] at hq); replace ho := hq; clear hq)
                    | (refine go_skp_ex rfl (ho.xstore (k := 4) (s' := s) (x := .tmp 15) (y := .tmp 68) rfl rfl rfl zeroSec_ok hsok rfl) ?_; rintro w1 hq; simp only [Act.put, List.setIfInBounds_toArray, List.set_cons_zero, List.set_cons_succ]; (try simp only [List.nil_append, List.cons_append, List.set_cons_zero, List.set_cons_succ] at hq); replace ho := hq; clear hq)
                    | (refine go_val rfl (ho.xload (k := 4) (x := .tmp 15) rfl rfl rfl hsok) ?_; simp only [Act.put, List.setIfInBounds_toArray, List.set_cons_zero, List.set_cons_succ])
                    | (refine go_skp_ex rfl (ho.xput (k := 1) (i := i) (v := .agg (secVals s).toArray) (x := .tmp 69) (y := .tmp 70) (z := .tmp 71) rfl rfl uSecMap rfl rfl rfl) ?_; rintro w1 hq; rw [secMap_put] at hq; simp only [Act.put, List.setIfInBounds_toArray, List.set_cons_zero, List.set_cons_succ]; (try simp only [List.nil_append, List.cons_append, List.set_cons_zero, List.set_cons_succ] at hq); replace ho := hq; clear hq))
                  refine ⟨⟨_, _, cnt1, ho.pick [0, 1, 2, 3] (by decide) rfl, fun x hx => HLF.out x (by simp at hx; exact hx.1), fun x => ?_⟩, by rw [HLE.out, (ho.rangeGet (k := 2) rfl).left_eq]; exact HLT.out⟩
                  have h1 := HSS.out x
                  have h2 := HNI.out
                  by_cases hx : x = i
                  · subst hx
                    rw [if_pos rfl, if_neg (by simp [h2]), h2]
                  · have h3 : ((left x && x != i) = true) ↔ (left x = true) := by simp [hx]
                    simp only [if_neg hx, h3]
                    exact h1
            · rw [if_neg hjn] at hse
              have HSE := Lib.hid hse
              have hjn' : (n : Int) ≤ (j : Int) := by omega
              have HS2 := Lib.hid (HST.out.sync_no hjn)
              clear hse
              generalize hD' : D.sync.1 = D' at *
              go_wp2_with (first
                | (refine go_val rfl (ho.xint1 (k := 3) (j := 0) (u := kind) (x := .tmp 54) rfl rfl rfl (by unfold opVals; rfl)) ?_; simp only [Act.put, List.setIfInBounds_toArray, List.set_cons_zero, List.set_cons_succ])
                | (go_at_call 23; refine (ho.sync_ (k := 0) rfl hD).mono ?_; rintro e w' ⟨rfl, hq⟩; rw [HSE.out]; (try simp only [List.nil_append, List.cons_append, List.set_cons_zero, List.set_cons_succ] at hq); replace ho := hq; clear hq; rw [hD'] at ho))
              exact ⟨⟨j + 1, bn, D', sure, now, by omega, by go_num, rfl, HS2.out, HNOK.out, ho.pick [0, 1, 2] (by decide) rfl⟩, by simp [intOf]; omega⟩
          · have hb3 : (kind.tmod 3 == 0) = false := by simp [hk3]
            clear hk3
            have hfo := filled_ok xb
            have hwe := HST.out.write_e hkk (filled xb)
            by_cases hjn : j < n
            · rw [if_pos hjn] at hwe
              have HWE := Lib.hid hwe
              have hjn' : (j : Int) < (n : Int) := by omega
              have HS2 := Lib.hid (HST.out.write_ok hkk hfo hjn)
              clear hwe
              generalize hD' : (D.write kk (filled xb)).1 = D' at *
              go_wp2_with (first
                | (refine go_val rfl (ho.xint1 (k := 3) (j := 0) (u := kind) (x := .tmp 54) rfl rfl rfl (by unfold opVals; rfl)) ?_; simp only [Act.put, List.setIfInBounds_toArray, List.set_cons_zero, List.set_cons_succ])
                | (refine go_val rfl (ho.xint1 (k := 3) (j := 2) (u := xb) (x := .tmp 75) rfl rfl rfl (by unfold opVals; rfl)) ?_; simp only [Act.put, List.setIfInBounds_toArray, List.set_cons_zero, List.set_cons_succ])
                | (refine go_val rfl (ho.xint1 (k := 3) (j := 2) (u := xb) (x := .tmp 83) rfl rfl rfl (by unfold opVals; rfl)) ?_; simp only [Act.put, List.setIfInBounds_toArray, List.set_cons_zero, List.set_cons_succ])
                | (go_at_call 11; refine (ho.filled_ _).mono ?_; rintro e w' ⟨rfl, hq⟩; (try simp only [List.nil_append, List.cons_append, List.set_cons_zero, List.set_cons_succ] at hq); replace ho := hq; clear hq)
                | (go_at_call 10; refine (ho.write_ (k := 0) rfl _ hfo hD).mono ?_; rintro e w' ⟨rfl, hq⟩; rw [HWE.out]; (try simp only [List.nil_append, List.cons_append, List.set_cons_zero, List.set_cons_succ] at hq); replace ho := hq; clear hq; rw [hD'] at ho)
                | (refine go_skp_ex rfl (ho.xput (k := 2) (i := (kk : Int)) (v := .agg (secVals (filled xb)).toArray) (x := .tmp 81) (y := .tmp 82) (z := .tmp 85) rfl rfl uSecMap rfl rfl rfl) ?_; rintro w1 hq; rw [secMap_put] at hq; simp only [Act.put, List.setIfInBounds_toArray, List.set_cons_zero, List.set_cons_succ]; (try simp only [List.nil_append, List.cons_append, List.set_cons_zero, List.set_cons_succ] at hq); replace ho := hq; clear hq))
              exact ⟨⟨j + 1, bn, D', sure, _, by omega, by go_num, rfl, HS2.out, fun i s h => (by
                split at h
                · injection h with h; rw [← h]; exact hfo
                · exact HNOK.out i s h), ho.pick [0, 1, 2] (by decide) rfl⟩, by simp [intOf]; omega⟩
            · rw [if_neg hjn] at hwe
              have HWE := Lib.hid hwe
              have hjn' : (n : Int) ≤ (j : Int) := by omega
              have HS2 := Lib.hid (HST.out.write_no hkk hfo hjn)
              clear hwe
              generalize hD' : (D.write kk (filled xb)).1 = D' at *
              go_wp2_with (first
                | (refine go_val rfl (ho.xint1 (k := 3) (j := 0) (u := kind) (x := .tmp 54) rfl rfl rfl (by unfold opVals; rfl)) ?_; simp only [Act.put, List.setIfInBounds_toArray, List.set_cons_zero, List.set_cons_succ])
                | (refine go_val rfl (ho.xint1 (k := 3) (j := 2) (u := xb) (x := .tmp 75) rfl rfl rfl (by unfold opVals; rfl)) ?_; simp only [Act.put, List.setIfInBounds_toArray, List.set_cons_zero, List.set_cons_succ])
                | (go_at_call 11; refine (ho.filled_ _).mono ?_; rintro e w' ⟨rfl, hq⟩; (try simp only [List.nil_append, List.cons_append, List.set_cons_zero, List.set_cons_succ] at hq); replace ho := hq; clear hq)
                | (go_at_call 10; refine (ho.write_ (k := 0) rfl _ hfo hD).mono ?_; rintro e w' ⟨rfl, hq⟩; rw [HWE.out]; (try simp only [List.nil_append, List.cons_append, List.set_cons_zero, List.set_cons_succ] at hq); replace ho := hq; clear hq; rw [hD'] at ho))
              exact ⟨⟨j + 1, bn, D', sure, now, by omega, by go_num, rfl, HS2.out, HNOK.out, ho.pick [0, 1, 2] (by decide) rfl⟩, by simp [intOf]; omega⟩
        · have e : j = m := by omega
          subst e
          have hD1 : D.steps ≤ 1000000 := by have := HST.out.steps; omega
          have hro : SecOk (D.read 3).1 := read_sec_ok HST.out.ok 3
          have hre : (D.read 3).2 = if n < j then 12 else 0 := HST.out.read_e (k := 3) (by omega)
          have hdd := HST.out.dead
          have hss := HST.out.steps
          obtain ⟨sr, hsr⟩ : ∃ s, s = (D.read 3).1 := ⟨_, rfl⟩
          rw [← hsr] at hro
          have HSR := Lib.hid hsr
          have hkl : keep.length < 1099511627776 := by have := HKM.out; omega
          have HK2 := Lib.hid HKM.out
          clear hsr hjm
          by_cases hnj : n < j
          · skip
            rw [if_pos hnj] at hre
            have hdd' : D.dead = true := by rw [hdd]; simp [hnj]
            have hss' : D.steps = (n : Int) := by omega
            have hnj' : (n : Int) < (j : Int) := by omega
            have HRE := Lib.hid hre
            have HDD := Lib.hid hdd'
            have HSS := Lib.hid hss'
            clear hre hdd hss hdd' hss'
            go_wp2_with (first
              | (go_at_call 14; refine (ho.read_ (k := 0) rfl 3).mono ?_; rintro e w' ⟨rfl, hq⟩; rw [HRE.out, ← HSR.out]; (try simp only [List.nil_append, List.cons_append, List.set_cons_zero, List.set_cons_succ] at hq); replace ho := hq; clear hq)
              | (refine go_val_ex rfl (ho.xallocAt 16 rfl rfl) ?_; rintro v w1 ⟨b16, rfl, hq⟩; simp only [Act.put, List.setIfInBounds_toArray, List.set_cons_zero, List.set_cons_succ]; (try simp only [List.nil_append, List.cons_append, List.set_cons_zero, List.set_cons_succ] at hq); replace ho := hq; clear hq)
              | (refine go_skp_ex rfl (ho.xstore (k := 3) (s' := sr) (x := .tmp 16) (y := .tmp 105) rfl rfl rfl zeroSec_ok hro rfl) ?_; rintro w1 hq; simp only [Act.put, List.setIfInBounds_toArray, List.set_cons_zero, List.set_cons_succ]; (try simp only [List.nil_append, List.cons_append, List.set_cons_zero, List.set_cons_succ] at hq); replace ho := hq; clear hq)
              | (go_at_call 24; refine (ho.down_ (k := 0) rfl).mono ?_; rintro e w' ⟨rfl, rfl⟩; rw [HDD.out])
              | (go_at_call 25; refine (ho.steps_ (k := 0) rfl).mono ?_; rintro e w' ⟨rfl, rfl⟩; rw [HSS.out])
              | (go_at_call 26; refine (ho.crash_ (k := 0) rfl HK64.out hkl hD1 (kv := .slice ka km kc) (HK0.out.nw ho.nw0)).mono ?_; rintro e w' ⟨q, rfl, hq⟩; (try simp only [List.nil_append, List.cons_append, List.set_cons_zero, List.set_cons_succ] at hq); replace ho := hq; clear hq))
            obtain ⟨wo, rfl⟩ : ∃ wo : World, wo = wr := ⟨_, rfl⟩
            go_loopw [140] (fun i wr => ∃ x : Nat, x ≤ 16 ∧ i = .int .i64 (x : Int) ∧ Own w wr [diskR p D, mapR b8 (secMap sure), mapR bn (secMap now), blkR b16 (secVals sr).toArray 29, diskR q (D.crash keep)])
              (fun i _ => 16 - (intOf i).toNat)
            case atStart => exact ⟨0, by omega, rfl, ho⟩
            case round =>
              clear ho
              obtain ⟨x, hx, rfl, ho⟩ := hrel
              have hx0 : (0 : Int) ≤ (x : Int) := Int.natCast_nonneg x
              by_cases hx16 : x < 16
              · have hx16' : (x : Int) < 16 := by omega
                have hgs : ∀ g, g = (now x).getD zeroSec → SecOk g := fun g hg => by
                  cases hnx : now x with
                  | none => rw [hg, hnx]; exact zeroSec_ok
                  | some s => rw [hg, hnx]; exact HNOK.out _ s hnx
                obtain ⟨g, hg⟩ : ∃ g, g = (now x).getD zeroSec := ⟨_, rfl⟩
                have hgok := hgs g hg
                have hgv : (secMap now x).getD (.agg (secVals zeroSec).toArray) = .agg (secVals g).toArray := by
                  rw [hg]; unfold secMap; cases now x <;> rfl
                have hgi : (secMap now x).isSome = (now x).isSome := by unfold secMap; cases now x <;> rfl
                have HGV := Lib.hid hgv
                have HGI := Lib.hid hgi
                clear hgs hg hgv hgi
                by_cases hnx : now x = none
                · have hni : (now x).isSome = false := by rw [hnx]; rfl
                  have hcr := HST.out.crash_read' keep hx16 hnx
                  have hcell := HST.out.cell x hx16
                  obtain ⟨u, hu⟩ : ∃ u, u = (sure x).getD zeroSec := ⟨_, rfl⟩
                  have huok : SecOk u := by
                    have := HST.out.ok.cell x
                    rw [hcell] at this
                    rw [hu]; exact this
                  have huv : (secMap sure x).getD (.agg (secVals zeroSec).toArray) = .agg (secVals u).toArray := by
                    rw [hu]; unfold secMap; cases sure x <;> rfl
                  rw [← hu] at hcr
                  have HCR := Lib.hid hcr
                  have HUV := Lib.hid huv
                  have HNI := Lib.hid hni
                  clear hcr huv hni hu hcell hnx
                  go_wp2_with (first
                    | (refine go_val rfl (ho.xlookok (k := 2) (i := (x : Int)) (v := .agg (secVals g).toArray) (g := false) (x := .tmp 144) (y := .tmp 145) rfl rfl uSecMap zSec rfl rfl HGV.out (HGI.out.trans HNI.out)) ?_; simp only [Act.put, List.setIfInBounds_toArray, List.set_cons_zero, List.set_cons_succ])
                    | (refine go_val_ex rfl (ho.xallocAt 20 rfl rfl) ?_; rintro v w1 ⟨b20, rfl, hq⟩; simp only [Act.put, List.setIfInBounds_toArray, List.set_cons_zero, List.set_cons_succ]; (try simp only [List.nil_append, List.cons_append, List.set_cons_zero, List.set_cons_succ] at hq); replace ho := hq; clear hq)
                    | (refine go_skp_ex rfl (ho.xstore (k := 5) (s' := g) (x := .tmp 20) (y := .tmp 147) rfl rfl rfl zeroSec_ok hgok rfl) ?_; rintro w1 hq; simp only [Act.put, List.setIfInBounds_toArray, List.set_cons_zero, List.set_cons_succ]; (try simp only [List.nil_append, List.cons_append, List.set_cons_zero, List.set_cons_succ] at hq); replace ho := hq; clear hq)
                    | (go_at_call 14; refine (ho.read_ (k := 4) rfl _).mono ?_; rintro e w' ⟨rfl, hq⟩; rw [HCR.out]; (try simp only [List.nil_append, List.cons_append, List.set_cons_zero, List.set_cons_succ] at hq); replace ho := hq; clear hq)
                    | (refine go_val_ex rfl (ho.xallocAt 22 rfl rfl) ?_; rintro v w1 ⟨b22, rfl, hq⟩; simp only [Act.put, List.setIfInBounds_toArray, List.set_cons_zero, List.set_cons_succ]; (try simp only [List.nil_append, List.cons_append, List.set_cons_zero, List.set_cons_succ] at hq); replace ho := hq; clear hq)
                    | (refine go_skp_ex rfl (ho.xstore (k := 6) (s' := u) (x := .tmp 22) (y := .tmp 154) rfl rfl rfl zeroSec_ok huok rfl) ?_; rintro w1 hq; simp only [Act.put, List.setIfInBounds_toArray, List.set_cons_zero, List.set_cons_succ]; (try simp only [List.nil_append, List.cons_append, List.set_cons_zero, List.set_cons_succ] at hq); replace ho := hq; clear hq)
                    | (refine go_vg (by rfl) (ho.xload (k := 6) (x := .tmp 22) rfl rfl rfl huok) ?_; simp only [Act.put, List.setIfInBounds_toArray, List.set_cons_zero, List.set_cons_succ])
                    | (refine go_vg (by rfl) (ho.xlook (k := 1) (i := (x : Int)) (v := .agg (secVals u).toArray) (x := .tmp 160) (y := .tmp 161) rfl rfl uSecMap zSec rfl rfl HUV.out) ?_; simp only [Act.put, List.setIfInBounds_toArray, List.set_cons_zero, List.set_cons_succ])
                    | (refine go_vg (by rfl) (exn_sec (a := u) (b := u) (x := .tmp 159) (y := .tmp 162) rfl huok huok rfl rfl) ?_; simp only [Act.put, List.setIfInBounds_toArray, List.set_cons_zero, List.set_cons_succ]; simp only [decide_true, Bool.not_true]))
                  exact ⟨⟨x + 1, by omega, by go_num, ho.pick [0, 1, 2, 3, 4] (by decide) rfl⟩, by simp [intOf]; omega⟩
                · have hni : (now x).isSome = true := by simpa [Option.isSome_iff_ne_none] using hnx
                  have HNI := Lib.hid hni
                  clear hni hnx
                  go_wp2_with (first
                    | (refine go_val rfl (ho.xlookok (k := 2) (i := (x : Int)) (v := .agg (secVals g).toArray) (g := true) (x := .tmp 144) (y := .tmp 145) rfl rfl uSecMap zSec rfl rfl HGV.out (HGI.out.trans HNI.out)) ?_; simp only [Act.put, List.setIfInBounds_toArray, List.set_cons_zero, List.set_cons_succ])
                    | (refine go_val_ex rfl (ho.xallocAt 20 rfl rfl) ?_; rintro v w1 ⟨b20, rfl, hq⟩; simp only [Act.put, List.setIfInBounds_toArray, List.set_cons_zero, List.set_cons_succ]; (try simp only [List.nil_append, List.cons_append, List.set_cons_zero, List.set_cons_succ] at hq); replace ho := hq; clear hq)
                    | (refine go_skp_ex rfl (ho.xstore (k := 5) (s' := g) (x := .tmp 20) (y := .tmp 147) rfl rfl rfl zeroSec_ok hgok rfl) ?_; rintro w1 hq; simp only [Act.put, List.setIfInBounds_toArray, List.set_cons_zero, List.set_cons_succ]; (try simp only [List.nil_append, List.cons_append, List.set_cons_zero, List.set_cons_succ] at hq); replace ho := hq; clear hq))
                  exact ⟨⟨x + 1, by omega, by go_num, ho.pick [0, 1, 2, 3, 4] (by decide) rfl⟩, by simp [intOf]; omega⟩
              · have HN0 := Lib.hid ho.nw0
                go_wp2_with (go_at_call 18; refine sanity21_calls.mono ?_; rintro e w' ⟨rfl, hn5⟩)
                go_ret
                exact ⟨rfl, HN0.out.trans (by assumption)⟩
          · skip
            rw [if_neg hnj] at hre
            have hdd' : D.dead = false := by rw [hdd]; simp [hnj]
            have hss' : D.steps = (j : Int) := by omega
            have hnj' : (j : Int) ≤ (n : Int) := by omega
            have HRE := Lib.hid hre
            have HDD := Lib.hid hdd'
            have HSS := Lib.hid hss'
            clear hre hdd hss hdd' hss'
            go_wp2_with (first
              | (go_at_call 14; refine (ho.read_ (k := 0) rfl 3).mono ?_; rintro e w' ⟨rfl, hq⟩; rw [HRE.out, ← HSR.out]; (try simp only [List.nil_append, List.cons_append, List.set_cons_zero, List.set_cons_succ] at hq); replace ho := hq; clear hq)
              | (refine go_val_ex rfl (ho.xallocAt 16 rfl rfl) ?_; rintro v w1 ⟨b16, rfl, hq⟩; simp only [Act.put, List.setIfInBounds_toArray, List.set_cons_zero, List.set_cons_succ]; (try simp only [List.nil_append, List.cons_append, List.set_cons_zero, List.set_cons_succ] at hq); replace ho := hq; clear hq)
              | (refine go_skp_ex rfl (ho.xstore (k := 3) (s' := sr) (x := .tmp 16) (y := .tmp 105) rfl rfl rfl zeroSec_ok hro rfl) ?_; rintro w1 hq; simp only [Act.put, List.setIfInBounds_toArray, List.set_cons_zero, List.set_cons_succ]; (try simp only [List.nil_append, List.cons_append, List.set_cons_zero, List.set_cons_succ] at hq); replace ho := hq; clear hq)
              | (go_at_call 24; refine (ho.down_ (k := 0) rfl).mono ?_; rintro e w' ⟨rfl, rfl⟩; rw [HDD.out])
              | (go_at_call 25; refine (ho.steps_ (k := 0) rfl).mono ?_; rintro e w' ⟨rfl, rfl⟩; rw [HSS.out])
              | (go_at_call 26; refine (ho.crash_ (k := 0) rfl HK64.out hkl hD1 (kv := .slice ka km kc) (HK0.out.nw ho.nw0)).mono ?_; rintro e w' ⟨q, rfl, hq⟩; (try simp only [List.nil_append, List.cons_append, List.set_cons_zero, List.set_cons_succ] at hq); replace ho := hq; clear hq))
            obtain ⟨wo, rfl⟩ : ∃ wo : World, wo = wr := ⟨_, rfl⟩
            go_loopw [140] (fun i wr => ∃ x : Nat, x ≤ 16 ∧ i = .int .i64 (x : Int) ∧ Own w wr [diskR p D, mapR b8 (secMap sure), mapR bn (secMap now), blkR b16 (secVals sr).toArray 29, diskR q (D.crash keep)])
              (fun i _ => 16 - (intOf i).toNat)
            case atStart => exact ⟨0, by omega, rfl, ho⟩
            case round =>
              clear ho
              obtain ⟨x, hx, rfl, ho⟩ := hrel
              have hx0 : (0 : Int) ≤ (x : Int) := Int.natCast_nonneg x
              by_cases hx16 : x < 16
              · have hx16' : (x : Int) < 16 := by omega
                have hgs : ∀ g, g = (now x).getD zeroSec → SecOk g := fun g hg => by
                  cases hnx : now x with
                  | none => rw [hg, hnx]; exact zeroSec_ok
                  | some s => rw [hg, hnx]; exact HNOK.out _ s hnx
                obtain ⟨g, hg⟩ : ∃ g, g = (now x).getD zeroSec := ⟨_, rfl⟩
                have hgok := hgs g hg
                have hgv : (secMap now x).getD (.agg (secVals zeroSec).toArray) = .agg (secVals g).toArray := by
                  rw [hg]; unfold secMap; cases now x <;> rfl
                have hgi : (secMap now x).isSome = (now x).isSome := by unfold secMap; cases now x <;> rfl
                have HGV := Lib.hid hgv
                have HGI := Lib.hid hgi
                clear hgs hg hgv hgi
                by_cases hnx : now x = none
                · have hni : (now x).isSome = false := by rw [hnx]; rfl
                  have hcr := HST.out.crash_read' keep hx16 hnx
                  have hcell := HST.out.cell x hx16
                  obtain ⟨u, hu⟩ : ∃ u, u = (sure x).getD zeroSec := ⟨_, rfl⟩
                  have huok : SecOk u := by
                    have := HST.out.ok.cell x
                    rw [hcell] at this
                    rw [hu]; exact this
                  have huv : (secMap sure x).getD (.agg (secVals zeroSec).toArray) = .agg (secVals u).toArray := by
                    rw [hu]; unfold secMap; cases sure x <;> rfl
                  rw [← hu] at hcr
                  have HCR := Lib.hid hcr
                  have HUV := Lib.hid huv
                  have HNI := Lib.hid hni
                  clear hcr huv hni hu hcell hnx
                  go_wp2_with (first
                    | (refine go_val rfl (ho.xlookok (k := 2) (i := (x : Int)) (v := .agg (secVals g).toArray) (g := false) (x := .tmp 144) (y := .tmp 145) rfl rfl uSecMap zSec rfl rfl HGV.out (HGI.out.trans HNI.out)) ?_; simp only [Act.put, List.setIfInBounds_toArray, List.set_cons_zero, List.set_cons_succ])
                    | (refine go_val_ex rfl (ho.xallocAt 20 rfl rfl) ?_; rintro v w1 ⟨b20, rfl, hq⟩; simp only [Act.put, List.setIfInBounds_toArray, List.set_cons_zero, List.set_cons_succ]; (try simp only [List.nil_append, List.cons_append, List.set_cons_zero, List.set_cons_succ] at hq); replace ho := hq; clear hq)
                    | (refine go_skp_ex rfl (ho.xstore (k := 5) (s' := g) (x := .tmp 20) (y := .tmp 147) rfl rfl rfl zeroSec_ok hgok rfl) ?_; rintro w1 hq; simp only [Act.put, List.setIfInBounds_toArray, List.set_cons_zero, List.set_cons_succ]; (try simp only [List.nil_append, List.cons_append, List.set_cons_zero, List.set_cons_succ] at hq); replace ho := hq; clear hq)
                    | (go_at_call 14; refine (ho.read_ (k := 4) rfl _).mono ?_; rintro e w' ⟨rfl, hq⟩; rw [HCR.out]; (try simp only [List.nil_append, List.cons_append, List.set_cons_zero, List.set_cons_succ] at hq); replace ho := hq; clear hq)
                    | (refine go_val_ex rfl (ho.xallocAt 22 rfl rfl) ?_; rintro v w1 ⟨b22, rfl, hq⟩; simp only [Act.put, List.setIfInBounds_toArray, List.set_cons_zero, List.set_cons_succ]; (try simp only [List.nil_append, List.cons_append, List.set_cons_zero, List.set_cons_succ] at hq); replace ho := hq; clear hq)
                    | (refine go_skp_ex rfl (ho.xstore (k := 6) (s' := u) (x := .tmp 22) (y := .tmp 154) rfl rfl rfl zeroSec_ok huok rfl) ?_; rintro w1 hq; simp only [Act.put, List.setIfInBounds_toArray, List.set_cons_zero, List.set_cons_succ]; (try simp only [List.nil_append, List.cons_append, List.set_cons_zero, List.set_cons_succ] at hq); replace ho := hq; clear hq)
                    | (refine go_vg (by rfl) (ho.xload (k := 6) (x := .tmp 22) rfl rfl rfl huok) ?_; simp only [Act.put, List.setIfInBounds_toArray, List.set_cons_zero, List.set_cons_succ])
                    | (refine go_vg (by rfl) (ho.xlook (k := 1) (i := (x : Int)) (v := .agg (secVals u).toArray) (x := .tmp 160) (y := .tmp 161) rfl rfl uSecMap zSec rfl rfl HUV.out) ?_; simp only [Act.put, List.setIfInBounds_toArray, List.set_cons_zero, List.set_cons_succ])
                    | (refine go_vg (by rfl) (exn_sec (a := u) (b := u) (x := .tmp 159) (y := .tmp 162) rfl huok huok rfl rfl) ?_; simp only [Act.put, List.setIfInBounds_toArray, List.set_cons_zero, List.set_cons_succ]; simp only [decide_true, Bool.not_true]))
                  exact ⟨⟨x + 1, by omega, by go_num, ho.pick [0, 1, 2, 3, 4] (by decide) rfl⟩, by simp [intOf]; omega⟩
                · have hni : (now x).isSome = true := by simpa [Option.isSome_iff_ne_none] using hnx
                  have HNI := Lib.hid hni
                  clear hni hnx
                  go_wp2_with (first
                    | (refine go_val rfl (ho.xlookok (k := 2) (i := (x : Int)) (v := .agg (secVals g).toArray) (g := true) (x := .tmp 144) (y := .tmp 145) rfl rfl uSecMap zSec rfl rfl HGV.out (HGI.out.trans HNI.out)) ?_; simp only [Act.put, List.setIfInBounds_toArray, List.set_cons_zero, List.set_cons_succ])
                    | (refine go_val_ex rfl (ho.xallocAt 20 rfl rfl) ?_; rintro v w1 ⟨b20, rfl, hq⟩; simp only [Act.put, List.setIfInBounds_toArray, List.set_cons_zero, List.set_cons_succ]; (try simp only [List.nil_append, List.cons_append, List.set_cons_zero, List.set_cons_succ] at hq); replace ho := hq; clear hq)
                    | (refine go_skp_ex rfl (ho.xstore (k := 5) (s' := g) (x := .tmp 20) (y := .tmp 147) rfl rfl rfl zeroSec_ok hgok rfl) ?_; rintro w1 hq; simp only [Act.put, List.setIfInBounds_toArray, List.set_cons_zero, List.set_cons_succ]; (try simp only [List.nil_append, List.cons_append, List.set_cons_zero, List.set_cons_succ] at hq); replace ho := hq; clear hq))
                  exact ⟨⟨x + 1, by omega, by go_num, ho.pick [0, 1, 2, 3, 4] (by decide) rfl⟩, by simp [intOf]; omega⟩
              · have HN0 := Lib.hid ho.nw0
                go_wp2_with (go_at_call 18; refine sanity21_calls.mono ?_; rintro e w' ⟨rfl, hn5⟩)
                go_ret
                exact ⟨rfl, HN0.out.trans (by assumption)⟩
end
end Go.Proofs.Ytcaalfpfkalalaa
