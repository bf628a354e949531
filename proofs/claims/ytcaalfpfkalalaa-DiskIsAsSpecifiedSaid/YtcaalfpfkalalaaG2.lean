/- quietusref21.Same. -/
import Derived.Test.YtcaalfpfkalalaaG1
import Derived.Test.YtcaalfpfkalalaaB10
set_option linter.unusedVariables false
set_option linter.unusedSimpArgs false
set_option maxRecDepth 10000
set_option maxHeartbeats 4000000
namespace Go.Proofs.Ytcaalfpfkalalaa
open Go.RowKit Qd
open Go.Proofs.YtcaalfpfkalalaaW.PrintLast
section
variable {w : World}
theorem KeepIs.nw {w w' : World} {v : Value} {l : List Int} (h : KeepIs w v l) (hn : Nw w w') : KeepIs w' v l := by
  obtain ⟨a, cap, rfl, hr⟩ := h
  refine ⟨a, cap, rfl, fun hne => ?_⟩
  obtain ⟨kb, ko, ha, hk⟩ := hr hne
  exact ⟨kb, ko, ha, range_nw hk hn⟩
theorem keep_of_owns {base n : Nat} {v : Value} {l : List Int} (h : w.ownsRow base 3 1 v n (intVals l)) (hn : l.length = n) : KeepIs w v l := by
  subst hn
  obtain ⟨a, cap, rfl⟩ := own_slice h
  refine ⟨a, cap, rfl, fun hne => ?_⟩
  obtain ⟨g, rfl⟩ := own_some h (List.length_pos_iff.2 hne)
  refine ⟨g, 0, rfl, fun j v hj => ?_⟩
  have := h.cells (g := g) rfl j v hj
  rwa [Addr.add_mid] at this
theorem take_same {a b : List Int} {k : Nat} (h : a.take k = b.take k) (ha : k < a.length) (hb : k < b.length) : a.take (k + 1) = b.take (k + 1) ↔ a[k] = b[k] := by
  rw [List.take_succ_eq_append_getElem ha, List.take_succ_eq_append_getElem hb, h]
  constructor
  · intro e
    have := List.append_cancel_left e
    injection this
  · intro e; rw [e]
theorem same_calls {va vb : Value} {la lb : List Int} (ha : KeepIs w va la) (hb : KeepIs w vb lb) (hl : la.length < 1099511627776) (hl2 : lb.length < 1099511627776) :
    Calls Try.prog 41 #[va, vb] w fun e w' => e = .returned (.bool (decide (la = lb))) ∧ Nw w w' := by
  obtain ⟨aa, ca, rfl, har⟩ := ha
  obtain ⟨ab, cb, rfl, hbr⟩ := hb
  obtain ⟨n, hn⟩ : ∃ n, n = la.length := ⟨_, rfl⟩
  obtain ⟨m, hm⟩ : ∃ m, m = lb.length := ⟨_, rfl⟩
  rw [← hn] at hl
  rw [← hm] at hl2
  rw [← hn, ← hm]
  have HN := Lib.hid hn
  have HM := Lib.hid hm
  have HAR := Lib.hid har
  have HBR := Lib.hid hbr
  by_cases hnm : n = m
  · subst hnm
    clear har hbr hn hm hl2
    go_enter Try.func41, Try.ntmps41
    go_wp2
    go_loopw [5] (fun i wr => ∃ k : Nat, k ≤ n ∧ i = .int .i64 (k : Int) ∧ Nw w wr ∧ la.take k = lb.take k) (fun i _ => n - (intOf i).toNat)
    case atStart => exact ⟨0, by omega, rfl, Nw.refl _, by simp⟩
    case round =>
      obtain ⟨k, hk, rfl, hw, ht⟩ := hrel
      have HW := Lib.hid hw
      have HT := Lib.hid ht
      have hk0 : (0 : Int) ≤ (k : Int) := Int.natCast_nonneg k
      clear hw ht
      by_cases hkn : k < n
      · have hka : k < la.length := by have := HN.out; omega
        have hkb : k < lb.length := by have := HM.out; omega
        obtain ⟨ba, oa, rfl, hra⟩ := HAR.out (fun e => by rw [e] at hka; simp at hka)
        obtain ⟨bb, ob, rfl, hrb⟩ := HBR.out (fun e => by rw [e] at hkb; simp at hkb)
        obtain ⟨x, hx'⟩ : ∃ x, x = la[k] := ⟨_, rfl⟩
        obtain ⟨y, hy'⟩ : ∃ y, y = lb[k] := ⟨_, rfl⟩
        have hx : wr.cell? ⟨ba, oa + k, none⟩ = some (.int .i64 x) := HW.out.cell (hra k _ (by simp [intVals, hka, hx'])) (fun h => h)
        have hy : wr.cell? ⟨bb, ob + k, none⟩ = some (.int .i64 y) := HW.out.cell (hrb k _ (by simp [intVals, hkb, hy'])) (fun h => h)
        have hts := take_same HT.out hka hkb
        rw [← hx', ← hy'] at hts
        have HTS := Lib.hid hts
        have hkn2 : (k : Int) < (n : Int) := by omega
        clear hra hrb hts hx' hy'
        go_wp2
        -- <R6
        refine start_ (n := 9) (S := fun w' => w'.cell? ⟨ba, oa + k, none⟩ = some (.int .i64 x) ∧ w'.cell? ⟨bb, ob + k, none⟩ = some (.int .i64 y)) (ds := []) #[false, false, false, false, false, false, false, false, false] mixed rfl rfl ⟨hx, hy⟩ (fun hHeld => ?_)
        refine pure_ (i := 0) (N := some 17) (v := ?_) (a' := ?_) #[true, false, false, false, false, false, false, false, false] rfl rfl (by kernel_rfl) (fun _ _ _ h => h) (Or.inl ⟨by rfl, ?_⟩) ?_ ?_
        rotate_left
        · intro w'
          go_simp
          with_reducible rfl
        rotate_left
        · simp only [Act.put, List.setIfInBounds_toArray, List.set_cons_zero, List.set_cons_succ, i64_w, i32_w]
          rfl
        refine pure_ (i := 1) (N := some 18) (v := ?_) (a' := ?_) #[true, true, false, false, false, false, false, false, false] rfl rfl (by kernel_rfl) (fun _ _ _ h => h) (Or.inl ⟨by rfl, ?_⟩) ?_ ?_
        rotate_left
        · intro w'
          go_simp
          with_reducible rfl
        rotate_left
        · simp only [Act.put, List.setIfInBounds_toArray, List.set_cons_zero, List.set_cons_succ, i64_w, i32_w]
          rfl
        refine pure_ (i := 2) (N := some 19) (v := ?_) (a' := ?_) #[true, true, true, false, false, false, false, false, false] rfl rfl (by kernel_rfl) (fun _ _ _ h => h) (Or.inl ⟨by rfl, ?_⟩) ?_ ?_
        rotate_left
        · intro w'
          go_simp
          with_reducible rfl
        rotate_left
        · simp only [Act.put, List.setIfInBounds_toArray, List.set_cons_zero, List.set_cons_succ, i64_w, i32_w]
          rfl
        refine pure_ (i := 4) (N := some 21) (v := ?_) (a' := ?_) #[true, true, true, false, true, false, false, false, false] rfl rfl (by kernel_rfl) (fun _ _ _ h => h) (Or.inl ⟨by rfl, ?_⟩) ?_ ?_
        rotate_left
        · intro w'
          go_simp
          with_reducible rfl
        rotate_left
        · simp only [Act.put, List.setIfInBounds_toArray, List.set_cons_zero, List.set_cons_succ, i64_w, i32_w]
          rfl
        refine pure_ (i := 5) (N := some 22) (v := ?_) (a' := ?_) #[true, true, true, false, true, true, false, false, false] rfl rfl (by kernel_rfl) (fun _ _ _ h => h) (Or.inl ⟨by rfl, ?_⟩) ?_ ?_
        rotate_left
        · intro w'
          go_simp
          with_reducible rfl
        rotate_left
        · simp only [Act.put, List.setIfInBounds_toArray, List.set_cons_zero, List.set_cons_succ, i64_w, i32_w]
          rfl
        refine pure_ (i := 6) (N := some 23) (v := ?_) (a' := ?_) #[true, true, true, false, true, true, true, false, false] rfl rfl (by kernel_rfl) (fun _ _ _ h => h) (Or.inl ⟨by rfl, ?_⟩) ?_ ?_
        rotate_left
        · intro w'
          go_simp
          with_reducible rfl
        rotate_left
        · simp only [Act.put, List.setIfInBounds_toArray, List.set_cons_zero, List.set_cons_succ, i64_w, i32_w]
          rfl
        refine take_ (i := 3) (N := some 20) (v := ?_) (a' := ?_) #[true, true, true, true, true, true, true, false, false] rfl rfl (by kernel_rfl) (fun _ _ _ h => h) (Or.inl ⟨by rfl, ?_⟩) hHeld ?_ ?_
        rotate_left
        · rintro w' ⟨s0, s1⟩
          go_simp
          with_reducible rfl
        rotate_left
        · simp only [Act.put, List.setIfInBounds_toArray, List.set_cons_zero, List.set_cons_succ, i64_w, i32_w]
          rfl
        refine take_ (i := 7) (N := some 24) (v := ?_) (a' := ?_) #[true, true, true, true, true, true, true, true, false] rfl rfl (by kernel_rfl) (fun _ _ _ h => h) (Or.inl ⟨by rfl, ?_⟩) hHeld ?_ ?_
        rotate_left
        · rintro w' ⟨s0, s1⟩
          go_simp
          with_reducible rfl
        rotate_left
        · simp only [Act.put, List.setIfInBounds_toArray, List.set_cons_zero, List.set_cons_succ, i64_w, i32_w]
          rfl
        refine pure_ (i := 8) (N := some 25) (v := ?_) (a' := ?_) #[true, true, true, true, true, true, true, true, true] rfl rfl (by kernel_rfl) (fun _ _ _ h => h) (Or.inl ⟨by rfl, ?_⟩) ?_ ?_
        rotate_left
        · intro w'
          go_simp
          with_reducible rfl
        rotate_left
        · simp only [Act.put, List.setIfInBounds_toArray, List.set_cons_zero, List.set_cons_succ, i64_w, i32_w]
          rfl
        refine done_ (by kernel_rfl) ?_
        -- R6>
        have HWD := Lib.hid HW.out.drew
        by_cases hxy : x = y
        · have hb : (x != y) = false := by simp [hxy]
          have hwk : wrap64 ((k : Int) + 1) = (k : Int) + 1 := by unfold wrap64; omega
          rw [hb]
          clear hb
          go_wp2
          clear hwk
          exact ⟨⟨k + 1, by omega, by simp, HWD.out, HTS.out.2 hxy⟩, by simp [intOf]; omega⟩
        · have hb : (x != y) = true := by simp [hxy]
          rw [hb]
          clear hb
          go_wp2
          go_ret
          refine ⟨?_, HWD.out⟩
          have : ¬ la = lb := fun e => hxy (HTS.out.1 (by rw [e]))
          simp [this]
      · go_wp2
        go_ret
        have e : la = lb := by
          have h := HT.out
          have h1 := HN.out
          have h2 := HM.out
          rwa [List.take_of_length_le (by omega), List.take_of_length_le (by omega)] at h
        exact ⟨by simp [e], HW.out⟩
  · have hb : ((n : Int) != (m : Int)) = true := by simp; omega
    have hne : ¬ la = lb := fun e => hnm (by rw [hn, hm, e])
    clear har hbr hn hm hnm
    go_enter Try.func41, Try.ntmps41
    go_wp2
    go_ret
    exact ⟨by simp [hne], Nw.refl _⟩
end
end Go.Proofs.Ytcaalfpfkalalaa
