/- A row of bytes that the call itself makes, among what is owned; its string. -/
import Derived.Test.YtcaalfpfkalalaaS11
import Derived.Laws.BytesArg
set_option linter.unusedVariables false
set_option linter.unusedSimpArgs false
set_option maxRecDepth 10000
set_option maxHeartbeats 4000000
namespace Go.Proofs.Ytcaalfpfkalalaa
open Go.RowKit Qd
open Go.Proofs.YtcaalfpfkalalaaW.PrintLast
def bytesR (v : Value) (l : List Int) : Res := ⟨fun w S => w.ownsRow 0 5 1 v l.length (secVals l) ∧ ∀ k, v.ownBlock = some k → S k, fun h hk => by
  refine ⟨⟨h.1.1, ?_⟩, h.2⟩
  rcases h.1.2 with h1 | ⟨g, cap, cur, hv, h2, h3, h4⟩
  · exact Or.inl h1
  · exact Or.inr ⟨g, cap, cur, hv, h2, (hk g (h.2 g (by rw [hv]; rfl))).trans h3, h4⟩⟩
theorem uByte8 : Try.prog.underlying 5 = some (.int .u8) := by kernel_rfl
theorem uStr9 : Try.prog.underlying 9 = some .string := by kernel_rfl
theorem iByte8 : (Try.prog.info? 5).map (fun i => (i.zero, i.size, i.bytes)) = some (some (.int .u8 0), 1, 1) := by kernel_rfl
section
variable {w0 w : World} {rs : List Res} {k : Nat} {o : Oper} {ρ : Operand → Value}
/-- '[]byte{}'. -/
theorem exz_bytes0 (ho : o.op = .buildSlice 101 0 #[]) : (execOp ρ o).run Try.prog w = .ok (.value (.slice (some ⟨w.heap.size, 0, none⟩) 0 0)) (w.alloc (.cells #[] 5)) := by
  obtain ⟨i, hi1, hi2⟩ := Option.map_eq_some_iff.1 iByte8
  simp only [Prod.mk.injEq] at hi2
  have hz1 : (zeroValue 5).run Try.prog w = .ok (.int .u8 0) w := by simp [zeroValue, typeInfo, hi1, hi2.1]
  have hs1 : (sizeOf 5).run Try.prog w = .ok 1 w := by simp [sizeOf, typeInfo, hi1, hi2.2.1]
  unfold execOp
  simp only [ho, List.map_toArray, List.map_cons, List.map_nil]
  simp [Instr.buildSlice, run_underlying uByteSlice, hs1, hz1, Instr.fill, newRow, newObj, Sem.run, Result.andThen]
  rw [show Array.range 0 = #[] by decide, List.map_toArray]
  rfl
theorem Own.xbytes0 (h : Own w0 w rs) (ho : o.op = .buildSlice 101 0 #[]) : ∃ v w1, (execOp ρ o).run Try.prog w = .ok (.value v) w1 ∧ ∃ b, v = .slice (some ⟨b, 0, none⟩) 0 0 ∧ Own w0 w1 (rs ++ [bytesR v []]) := by
  refine ⟨_, _, exz_bytes0 ho, _, rfl, h.push (S := fun b => b = w.heap.size) ⟨rfl, rfl, rfl, by rw [World.size_alloc]; omega, fun k hk _ => (World.grownBy_alloc w _ none).block k hk (by simp), fun k hk => Or.inr (by rw [hk]; exact Nat.le_refl _)⟩ (fun b hb => by rw [hb, World.size_alloc]; omega) ?_⟩
  refine ⟨⟨rfl, Or.inr ⟨_, 0, #[], rfl, Nat.zero_le _, heap_alloc_new w _, Nat.le_refl _, by simp [maxLen], rfl, rfl⟩⟩, fun k hk => ?_⟩
  simp [Value.ownBlock] at hk
  exact hk.symm
theorem Own.xbytes {b p m c : Nat} {s x : Operand} {v : Value} {l ks : List Int} (h : Own w0 w rs) (hk : rs[k]? = some (bytesR v l)) (ho : o.op = .call { callee := .builtin .append, args := #[s, x], argTypes := #[101, 101] }) (hs : ρ s = v)
    (hx : ρ x = .slice (some ⟨b, p, none⟩) m c) (hm : ks.length = m) (hr : w.rangeAt b p (secVals ks)) (hn : l.length + m < 1099511627776) :
    ∃ v' w1, (execOp ρ o).run Try.prog w = .ok (.value v') w1 ∧ (∃ a c', v' = .slice a (l.length + m) c') ∧ Own w0 w1 (rs.set k (bytesR v' (l ++ ks))) := by
  obtain ⟨S, ⟨hown, hsb⟩, hlt, hup⟩ := h.upd hk
  obtain ⟨v', w', hrun, h2, h3, h5⟩ := ex_append_b (P := Try.prog) (Nat.zero_le _) ho uByteSlice iByte8 rfl (by omega) hs hown hx (news := secVals ks) (by simp [secVals, hm]) (fun j u hu => by rw [Addr.add_mid]; exact hr j u hu) (secVals_one ks) (by simp [maxLen]; omega) (by omega)
  have hsz := h3.size
  have hl2 := h2.lt
  refine ⟨v', w', hrun, own_slice h2, hup w' (fun k => S k ∨ (w.heap.size ≤ k ∧ k < w'.heap.size)) _ ⟨h3.os, h3.tape, h3.output, hsz, fun k hk hs => h3.block k hk (fun e => hs (hsb k e.symm)), fun k hk => ?_⟩ (fun b hb => ?_) ⟨?_, fun k hk => ?_⟩⟩
  · rcases hk with hk | hk
    · exact Or.inl hk
    · exact Or.inr hk.1
  · rcases hb with hb | hb
    · have := (hlt b hb).2; omega
    · exact hb.2
  · rw [List.length_append, hm]
    have e : secVals (l ++ ks) = secVals l ++ secVals ks := by simp [secVals]
    rw [e]
    exact h2
  · rcases h5 with h5 | h5
    · rw [h5] at hk; exact Or.inl (hsb k hk)
    · have := (hl2 k hk).2
      rw [h5] at hk
      injection hk with hk
      exact Or.inr ⟨by omega, this⟩
theorem Own.xstr {x : Operand} {v : Value} {l : List Int} (h : Own w0 w rs) (hk : rs[k]? = some (bytesR v l)) (ho : o.op = .convert 101 9 x) (hx : ρ x = v) : (execOp ρ o).run Try.prog w = .ok (.value (.string (strOfNums l))) w := by
  obtain ⟨S, ⟨hown, _⟩, _⟩ := h.upd hk
  have hrun : (convert 101 9 v).run Try.prog w = .ok (.string (strOfNums l)) w := by
    rcases hown.2 with ⟨hv, h0⟩ | ⟨g, cap, cur, hv, h2, h3, h4, h5, h6, h7⟩
    · have : l = [] := List.eq_nil_of_length_eq_zero h0
      rw [hv, this]
      exact run_convert_bytes_nil (w := w) 101 5 uByteSlice uByte8 0 0 _ uStr9
    · rw [hv]
      refine run_convert_bytes_arg (w := w) 101 5 uByteSlice uByte8 g 0 l.length cap l rfl (fun i hi => ?_) _ uStr9
      have hc : cur.toList[i]? = some (.int .u8 (l.getD i 0)) := by
        have e : (cur.toList.take (l.length * 1))[i]? = (secVals l)[i]? := by rw [h7]
        rw [List.getElem?_take_of_lt (by omega)] at e
        rw [e]
        simp [secVals, List.getD, List.getElem?_eq_getElem hi]
      rw [Nat.zero_add]
      simp [World.cell?, h3]
      simpa using hc
  unfold execOp
  simp only [ho, Sem.run_bind, Sem.run_pure, Result.andThen_ok, hx, hrun]
end
end Go.Proofs.Ytcaalfpfkalalaa
