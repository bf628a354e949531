/- slices.Repeat of a slice of one number; a disk's Open. -/
import Derived.Test.YtcaalfpfkalalaaB7
set_option linter.unusedVariables false
set_option linter.unusedSimpArgs false
set_option maxRecDepth 10000
set_option maxHeartbeats 4000000
namespace Go.Proofs.Ytcaalfpfkalalaa
open Go.RowKit Qd
open Go.Proofs.YtcaalfpfkalalaaW.PrintLast
section
variable {w : World}
theorem sInt : (Try.prog.info? 3).map (·.size) = some 1 := by kernel_rfl
theorem ints_one (l : List Int) : ∀ v ∈ intVals l, v.oneCell' = true := fun v hv => by
  obtain ⟨k, _, rfl⟩ := List.mem_map.1 hv; rfl
theorem ex_copy_n {P : Program} {o : Oper} {ρ : Operand → Value} {dT sT elem : TypeId} {x y : Operand} {b p dLen dCap sb so sLen sCap size m : Nat} {cs : List Value} (ho : o.op = .call { callee := .builtin .copy, args := #[x, y], argTypes := #[dT, sT] })
    (hu : P.underlying dT = some (.slice elem)) (hs : (P.info? elem).map (·.size) = some size) (hx : ρ x = .slice (some ⟨b, p, none⟩) dLen dCap) (hy : ρ y = .slice (some ⟨sb, so, none⟩) sLen sCap)
    (hm : Nat.min sLen dLen = m) (hn : cs.length = m * size) (hr : w.rangeAt sb so cs) (ht : w.there b p cs.length) (h1 : ∀ v ∈ cs, v.oneCell' = true) :
    (execOp ρ o).run P w = .ok (.value (.int .i64 (m : Int))) (w.setCells b p cs) := by
  have := ex_copy (P := P) ho hu hs hx hy (by rw [hm]; exact hn) hr ht h1
  rw [hm] at this
  exact this
theorem rep_one {g n : Nat} {i : Int} {T : TypeId} (h1 : 1 ≤ n) (h : Blk w g (intVals (List.replicate n 0)).toArray T) : Blk (w.setCells g 0 [.int .i64 i]) g (intVals (List.replicate 1 i ++ List.replicate (n - 1) 0)).toArray T := by
  have := h.setCells (o := 0) [.int .i64 i] (by simp; omega)
  have e : (intVals (List.replicate n 0)).toArray.toList.take 0 ++ [Value.int .i64 i] ++ (intVals (List.replicate n 0)).toArray.toList.drop (0 + [Value.int .i64 i].length) = intVals (List.replicate 1 i ++ List.replicate (n - 1) 0) := by
    simp [intVals]
  rwa [e] at this
theorem rep_more {g n k m : Nat} {i : Int} {T : TypeId} (hm : k + m ≤ n) (h : Blk w g (intVals (List.replicate k i ++ List.replicate (n - k) 0)).toArray T) : Blk (w.setCells g k (intVals (List.replicate m i))) g (intVals (List.replicate (k + m) i ++ List.replicate (n - (k + m)) 0)).toArray T := by
  have := h.setCells (o := k) (intVals (List.replicate m i)) (by simp; omega)
  have e : (intVals (List.replicate k i ++ List.replicate (n - k) 0)).toArray.toList.take k ++ intVals (List.replicate m i) ++ (intVals (List.replicate k i ++ List.replicate (n - k) 0)).toArray.toList.drop (k + (intVals (List.replicate m i)).length) = intVals (List.replicate (k + m) i ++ List.replicate (n - (k + m)) 0) := by
    simp [intVals, List.take_append, List.drop_append, Nat.sub_sub]
  rwa [e] at this
theorem repeat_calls {b n : Nat} {i : Int} (hc : w.cell? ⟨b, 0, none⟩ = some (.int .i64 i)) (h1 : 1 ≤ n) (h2 : n < 1099511627776) :
    Calls Try.prog 57 #[.slice (some ⟨b, 0, none⟩) 1 1, .int .i64 n] w fun e w' => ∃ g, e = .returned (.slice (some ⟨g, 0, none⟩) n n) ∧ w.heap.size ≤ g ∧ Blk w' g (intVals (List.replicate n i)).toArray 3 ∧ Nw w w' := by
  have hmk : ∀ W : World, (Instr.makeSlice 33 (.int .i64 (n : Int)) (.int .i64 (n : Int))).run Try.prog W = .ok (.slice (some ⟨W.heap.size, 0, none⟩) n n) (W.alloc (.cells (intVals (List.replicate n 0)).toArray 3)) := fun W => by
    obtain ⟨t, hi, hz⟩ := Option.map_eq_some_iff.1 iInt
    simp only [Prod.mk.injEq] at hz
    have := run_make (P := Try.prog) W 33 3 t _ uInts hi hz.1 .i64 .i64 (n : Int) (n : Int) (by omega) (by omega) (by rw [hz.2.2]; omega) (by omega)
    rw [Int.toNat_natCast, hz.2.1] at this
    have e : madeCells (Value.int .i64 0).cells (n * 1) = (intVals (List.replicate n 0)).toArray := by
      apply Array.ext (by simp [size_madeCells])
      intro j h3 h4
      simp [madeCells, Value.cells, Nat.mod_one]
    rw [e] at this
    exact this
  obtain ⟨z, hz⟩ : ∃ z, z = (intVals (List.replicate n 0)).toArray := ⟨_, rfl⟩
  simp only [← hz] at hmk
  have HZ := Lib.hid hz
  have hB := Lib.hid (Blk.new w z 3)
  have hzs : z.size = n := by rw [hz]; simp
  have HZS := Lib.hid hzs
  have HRS := Lib.hid (range_alloc (show w.rangeAt b 0 [.int .i64 i] from fun j v hj => by
    cases j with
    | zero => simp at hj; subst hj; exact hc
    | succ j => simp at hj) (.cells z 3))
  have hmu : (1 : Nat) * n % 18446744073709551616 = n := by omega
  have hmd : (1 : Nat) * n / 18446744073709551616 = 0 := by omega
  have hn0 : (0 : Int) ≤ (n : Int) := Int.natCast_nonneg n
  have HM1 := Lib.hid (show Nat.min 1 n = 1 from Nat.min_eq_left h1)
  have HN := Lib.hid (And.intro h1 h2)
  have hMul : Hid (∀ w : World, Calls Try.prog 62 #[.int .u64 1, .int .u64 n] w fun e w' => e = .returned (.tuple #[.int .u64 0, .int .u64 n]) ∧ w' = w) := Lib.hid (fun w => by
    have := Try.bits_Mul 1 n (by omega) (by omega) w
    rw [hmd, hmu] at this
    exact this)
  clear h1 hmu hmd hz hzs
  go_enter Try.func57, Try.ntmps57
  go_wp2_with (first
    | (go_at_call 62; refine (hMul.out _).mono ?_; rintro e w' ⟨rfl, rfl⟩)
    | (refine go_val rfl (ex_copy_n (p := 0) (dLen := n) (dCap := n) (sb := b) (so := 0) (sLen := 1) (sCap := 1) (size := 1) (cs := [.int .i64 i]) (m := 1) rfl uInts sInt rfl rfl HM1.out rfl HRS.out (hB.out.there 0 1 (by have := HN.out.1; rw [HZS.out]; omega)) (fun v hv => by simp at hv; subst hv; rfl)) ?_; simp only [Act.put, List.setIfInBounds_toArray, List.set_cons_zero, List.set_cons_succ]))
  have HNW := Lib.hid (show Nw w' _ from ((Nw.refl w').alloc (.cells z 3)).setCells (o := 0) hB.out [.int .i64 i] (by have := HN.out.1; rw [HZS.out]; simp; omega) (Nat.le_refl _))
  have HB1 := Lib.hid (rep_one (i := i) HN.out.1 (by rw [← HZ.out]; exact hB.out))
  clear hB HRS hMul hmk
  generalize hg : w'.heap.size = g at *
  go_loopw [8] (fun v wr => ∃ k : Nat, 1 ≤ k ∧ k ≤ n ∧ v = .int .i64 (k : Int) ∧ Nw w' wr ∧ Blk wr g (intVals (List.replicate k i ++ List.replicate (n - k) 0)).toArray 3) (fun v _ => n - (intOf v).toNat)
  case atStart => exact ⟨1, Nat.le_refl _, HN.out.1, rfl, HNW.out, HB1.out⟩
  case round =>
    obtain ⟨k, hk1, hk2, rfl, hnw, hbk⟩ := hrel
    have HNK := Lib.hid hnw
    have HBK := Lib.hid hbk
    clear hnw hbk
    have hk0 : (0 : Int) ≤ (k : Int) := Int.natCast_nonneg k
    have hkn : (k : Int) ≤ (n : Int) := by omega
    go_wp2
    · rename_i hlt
      obtain ⟨m, hm⟩ : ∃ m, Nat.min k (n - k) = m := ⟨_, rfl⟩
      have hm2 : m ≤ k ∧ m ≤ n - k ∧ 1 ≤ m := by
        rw [← hm]; exact ⟨Nat.min_le_left _ _, Nat.min_le_right _ _, Nat.le_min.2 ⟨hk1, by omega⟩⟩
      have hne : ¬ n = k := by omega
      have HMM := Lib.hid hm
      have HM2 := Lib.hid hm2
      have hwk : wrap64 ((k : Int) + (m : Int)) = (k : Int) + (m : Int) := by unfold wrap64; omega
      have HRB : Hid (wr.drew.rangeAt g 0 (intVals (List.replicate m i))) := Lib.hid ((show Blk wr.drew g _ _ from HBK.out).range 0 _ (fun j hj => by
        have hj' : j < m := by simpa using hj
        have e1 : j < k := by omega
        simp [intVals, List.getElem?_append, e1, hj']))
      have HTB : Hid (wr.drew.there g k m) := Lib.hid ((show Blk wr.drew g _ _ from HBK.out).there k m (by simp; omega))
      clear hm hm2
      -- <R9
      refine start_ (n := 10) (S := fun w' => w'.rangeAt g 0 (intVals (List.replicate m i)) ∧ w'.there g k m) (ds := [7]) #[false, false, false, false, false, false, false, false, false, false] mixed rfl rfl ⟨HRB.out, HTB.out⟩ (fun hHeld => ?_)
      refine pure_ (i := 0) (N := some 38) (v := ?_) (a' := ?_) #[true, false, false, false, false, false, false, false, false, false] rfl rfl (by kernel_rfl) (fun _ _ _ h => h) (Or.inl ⟨by rfl, ?_⟩) ?_ ?_
      rotate_left
      · intro w'
        go_simp
        with_reducible rfl
      rotate_left
      · simp only [Act.put, List.setIfInBounds_toArray, List.set_cons_zero, List.set_cons_succ, i64_w, i32_w]
        rfl
      refine pure_ (i := 1) (N := some 39) (v := ?_) (a' := ?_) #[true, true, false, false, false, false, false, false, false, false] rfl rfl (by kernel_rfl) (fun _ _ _ h => h) (Or.inl ⟨by rfl, ?_⟩) ?_ ?_
      rotate_left
      · intro w'
        go_simp
        with_reducible rfl
      rotate_left
      · simp only [Act.put, List.setIfInBounds_toArray, List.set_cons_zero, List.set_cons_succ, i64_w, i32_w]
        rfl
      refine pure_ (i := 2) (N := some 40) (v := ?_) (a' := ?_) #[true, true, true, false, false, false, false, false, false, false] rfl rfl (by kernel_rfl) (fun _ _ _ h => h) (Or.inl ⟨by rfl, ?_⟩) ?_ ?_
      rotate_left
      · intro w'
        go_simp
        with_reducible rfl
      rotate_left
      · simp only [Act.put, List.setIfInBounds_toArray, List.set_cons_zero, List.set_cons_succ, i64_w, i32_w]
        rfl
      refine pure_ (i := 3) (N := some 41) (v := ?_) (a' := ?_) #[true, true, true, true, false, false, false, false, false, false] rfl rfl (by kernel_rfl) (fun _ _ _ h => h) (Or.inl ⟨by rfl, ?_⟩) ?_ ?_
      rotate_left
      · intro w'
        go_simp
        with_reducible rfl
      rotate_left
      · simp only [Act.put, List.setIfInBounds_toArray, List.set_cons_zero, List.set_cons_succ, i64_w, i32_w]
        rfl
      refine pure_ (i := 4) (N := some 42) (v := ?_) (a' := ?_) #[true, true, true, true, true, false, false, false, false, false] rfl rfl (by kernel_rfl) (fun _ _ _ h => h) (Or.inl ⟨by rfl, ?_⟩) ?_ ?_
      rotate_left
      · intro w'
        go_simp
        with_reducible rfl
      rotate_left
      · simp only [Act.put, List.setIfInBounds_toArray, List.set_cons_zero, List.set_cons_succ, i64_w, i32_w]
        rfl
      refine pure_ (i := 5) (N := some 43) (v := ?_) (a' := ?_) #[true, true, true, true, true, true, false, false, false, false] rfl rfl (by kernel_rfl) (fun _ _ _ h => h) (Or.inl ⟨by rfl, ?_⟩) ?_ ?_
      rotate_left
      · intro w'
        go_simp
        with_reducible rfl
      rotate_left
      · simp only [Act.put, List.setIfInBounds_toArray, List.set_cons_zero, List.set_cons_succ, i64_w, i32_w]
        rfl
      refine pure_ (i := 6) (N := some 44) (v := ?_) (a' := ?_) #[true, true, true, true, true, true, true, false, false, false] rfl rfl (by kernel_rfl) (fun _ _ _ h => h) (Or.inl ⟨by rfl, ?_⟩) ?_ ?_
      rotate_left
      · intro w'
        go_simp
        with_reducible rfl
      rotate_left
      · simp only [Act.put, List.setIfInBounds_toArray, List.set_cons_zero, List.set_cons_succ, i64_w, i32_w]
        rfl
      refine last_ (i := 7) (N := some 45) #[true, true, true, true, true, true, true, true, false, false] rfl rfl (by kernel_rfl) (by decide) (fun K hK => ?_)
      obtain ⟨s0, s1⟩ := hHeld
      refine value_ (by rfl) rfl (ex_copy_n (b := g) (p := k) (dLen := n - k) (dCap := n - k) (sb := g) (so := 0) (sLen := k) (sCap := n) (size := 1) (cs := intVals (List.replicate m i)) (m := m) rfl uInts sInt rfl rfl HMM.out (by simp) s0 (by simpa using s1) (ints_one _)) ?_
      refine hK.out _ _ ?_
      clear hK K
      refine norm_ (a' := ?_) ?_ ?_
      rotate_left
      · show Act.put _ (some 45) _ = _
        simp only [Act.put, List.setIfInBounds_toArray, List.set_cons_zero, List.set_cons_succ, i64_w, i32_w]
        rfl
      refine pure_ (i := 8) (N := some 46) (v := ?_) (a' := ?_) #[true, true, true, true, true, true, true, true, true, false] rfl rfl (by kernel_rfl) (fun _ _ _ h => h) (Or.inl ⟨by rfl, ?_⟩) ?_ ?_
      rotate_left
      · intro w'
        go_simp
        with_reducible rfl
      rotate_left
      · simp only [Act.put, List.setIfInBounds_toArray, List.set_cons_zero, List.set_cons_succ, i64_w, i32_w]
        rfl
      refine pure_ (i := 9) (N := some 8) (v := ?_) (a' := ?_) #[true, true, true, true, true, true, true, true, true, true] rfl rfl (by kernel_rfl) (fun _ _ _ h => h) (Or.inl ⟨by rfl, ?_⟩) ?_ ?_
      rotate_left
      · intro w'
        go_simp
        with_reducible rfl
      rotate_left
      · simp only [Act.put, List.setIfInBounds_toArray, List.set_cons_zero, List.set_cons_succ, i64_w, i32_w]
        rfl
      refine done_ (by kernel_rfl) ?_
      -- R9>
      have hb2 := rep_more (m := m) (by have := HM2.out; omega) (show Blk wr.drew g _ _ from HBK.out)
      have hn2 := HNK.out.drew.setCells (o := k) (show Blk wr.drew g _ _ from HBK.out) (intVals (List.replicate m i)) (by have := HM2.out; simp; omega) (by omega)
      have HB2 := Lib.hid hb2
      have HN2 := Lib.hid hn2
      clear hb2 hn2 s0 s1 HTB HRB
      generalize wr.drew.setCells g k (intVals (List.replicate m i)) = w9 at *
      go_wp2
      have hm2 := HM2.out
      refine ⟨⟨k + m, by omega, by omega, by simp, HN2.out, HB2.out⟩, ?_⟩
      simp [intOf, hwk]
      omega
    · go_ret
      have e : k = n := by omega
      subst e
      have := HBK.out
      rw [Nat.sub_self, List.replicate_zero, List.append_nil] at this
      exact ⟨g, rfl, by omega, this, HNK.out⟩
end
end Go.Proofs.Ytcaalfpfkalalaa
