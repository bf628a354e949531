/- The sectors with open writes: what a loop over the map gathers, sorted, is the list of the busy ones. -/
import Derived.Test.YtcaalfpfkalalaaL2
import Derived.Sort.OwnSortedInts
import Derived.Test.YtcaalfpfkalalaaLib
set_option linter.unusedVariables false
set_option linter.unusedSimpArgs false
namespace Go.Proofs.Ytcaalfpfkalalaa
open Go.RowKit Qd Go.Sort
abbrev intVals (l : List Int) : List Value := l.map (Value.int .i64)
section
theorem nodup_filter {α : Type} {l : List α} (p : α → Bool) (h : l.Nodup) : (l.filter p).Nodup := List.Pairwise.filter p h
theorem ints_nodup {l : List Nat} (h : l.Nodup) : (l.map fun (k : Nat) => (k : Int)).Nodup := by
  unfold List.Nodup
  rw [List.pairwise_map]
  exact List.Pairwise.imp (fun hn e => hn (by omega)) h
/-- What a loop has gathered: each key that has come, once. -/
structure Seen (f : Int → Option Value) (left : Int → Bool) (acc : List Int) : Prop where
  nodup : acc.Nodup
  mem : ∀ k, k ∈ acc ↔ (f k).isSome = true ∧ left k = false
  left : ∀ k, left k = true → (f k).isSome = true
theorem Seen.start (f : Int → Option Value) : Seen f (fun k => (f k).isSome) [] := ⟨List.nodup_nil, fun k => (by cases f k <;> simp), fun _ h => h⟩
theorem Seen.step {f : Int → Option Value} {left : Int → Bool} {acc : List Int} {k : Int} (h : Seen f left acc) (hk : left k = true) : Seen f (fun x => left x && x != k) (acc ++ [k]) := by
  have hn : k ∉ acc := fun e => by have := ((h.mem k).1 e).2; rw [hk] at this; cases this
  refine ⟨?_, fun x => ?_, fun x hx => h.left x (by simp at hx; exact hx.1)⟩
  · rw [List.nodup_append]
    exact ⟨h.nodup, by simp, fun a ha b hb => by simp at hb; subst hb; intro e; subst e; exact hn ha⟩
  · rw [List.mem_append, h.mem x, List.mem_singleton]
    by_cases hx : x = k
    · subst hx
      simp [h.left x hk]
    · simp [hx]
theorem seen_len {f : Int → Option Value} {left : Int → Bool} {acc : List Int} {n : Nat} (h : Seen f left acc) (hf : ∀ k, (f k).isSome = true → 0 ≤ k ∧ k < n) : acc.length ≤ n := by
  have hp : acc.Perm (((List.range n).map fun (k : Nat) => (k : Int)).filter (fun k => decide (k ∈ acc))) := by
    rw [List.perm_ext_iff_of_nodup h.nodup (nodup_filter _ (ints_nodup List.nodup_range))]
    intro a
    simp only [List.mem_filter, List.mem_map, List.mem_range, decide_eq_true_eq]
    refine ⟨fun ha => ⟨?_, ha⟩, fun ha => ha.2⟩
    have := hf a ((h.mem a).1 ha).1
    exact ⟨a.toNat, by omega, by omega⟩
  have := hp.length_eq
  have h2 := List.length_filter_le (fun k => decide (k ∈ acc)) ((List.range n).map fun (k : Nat) => (k : Int))
  simp at h2
  omega
theorem seen_busy {f : Int → Option Value} {left : Int → Bool} {acc : List Int} {d : Disk} (h : Seen f left acc) (hl : ∀ k, left k = false) (hok : d.Ok) (hf : ∀ k : Int, (f k).isSome = true ↔ 0 ≤ k ∧ d.opn k.toNat ≠ []) :
    acc.mergeSort (fun x y => decide (x ≤ y)) = d.busy.map fun (k : Nat) => (k : Int) := by
  have hbn : d.busy.Nodup := nodup_filter _ List.nodup_range
  refine List.Perm.eq_of_pairwise (le := fun a b => (a : Int) ≤ b) (fun a b _ _ h1 h2 => by omega) ?_ ?_ ?_
  · exact (List.pairwise_mergeSort (le := fun x y : Int => decide (x ≤ y)) (fun a b c h1 h2 => by simp at *; omega) (fun a b => by simp; omega) acc).imp (fun h => by simpa using h)
  · rw [List.pairwise_map]
    exact (List.Pairwise.filter _ List.pairwise_lt_range).imp (fun h => by omega)
  · refine (List.mergeSort_perm acc _).trans ?_
    rw [List.perm_ext_iff_of_nodup h.nodup (ints_nodup hbn)]
    intro a
    rw [h.mem a, hf a]
    simp only [List.mem_map, Disk.busy, List.mem_filter, List.mem_range]
    constructor
    · rintro ⟨⟨h0, h1⟩, _⟩
      refine ⟨a.toNat, ⟨?_, by simpa using h1⟩, by omega⟩
      rcases Nat.lt_or_ge a.toNat d.cells.length with h5 | h5
      · exact h5
      · exact absurd (hok.out _ h5) h1
    · rintro ⟨k, ⟨_, h2⟩, rfl⟩
      exact ⟨⟨by omega, by simpa using h2⟩, hl _⟩
end
section
variable {P : Program} {o : Oper} {w : World} {ρ : Operand → Value}
theorem ex_append_b {t e base : Nat} {s x : Operand} {z v : Value} {size bytes n m c : Nat} {xs news : List Value} {ad : Addr} (hB : base ≤ w.heap.size) (ho : o.op = .call { callee := .builtin .append, args := #[s, x], argTypes := #[t, t] })
    (ht : P.underlying t = some (.slice e)) (hi : (P.info? e).map (fun i => (i.zero, i.size, i.bytes)) = some (some z, size, bytes)) (hzs : z.cells.size = size) (hsz : 0 < size)
    (hs : ρ s = v) (hown : w.ownsRow base e size v n xs) (hx : ρ x = .slice (some ad) m c) (hl : news.length = m * size) (hnews : ∀ j u, news[j]? = some u → w.cell? (ad.add j) = some u) (h1 : ∀ u ∈ news, u.oneCell' = true)
    (h63 : n + m ≤ maxLen) (hbytes : (n + m) * bytes ≤ 140737488355328) :
    ∃ v' w', (execOp ρ o).run P w = .ok (.value v') w' ∧ w'.ownsRow base e size v' (n + m) (xs ++ news) ∧ w.grownBy w' v.ownBlock ∧ (v'.ownBlock = v.ownBlock ∨ v'.ownBlock = some w.heap.size) := by
  obtain ⟨i, hi1, hi2⟩ := Option.map_eq_some_iff.1 hi
  simp only [Prod.mk.injEq] at hi2
  obtain ⟨v', w', hr, h2, h3, _, h5⟩ := run_append_own_at (P := P) w base t o.type e i z size bytes ht hi1 hi2.1 hi2.2.1 hi2.2.2 hzs hsz v n xs hown ad m c news hl hnews h1 h63 hbytes hB
  refine ⟨v', w', ?_, h2, h3, h5⟩
  unfold execOp
  simp only [ho, resolve, invoke, builtin, Sem.run_bind, Sem.run_pure, Result.andThen_ok, List.map_toArray, List.map_cons, List.map_nil, hs, hx, hr]
theorem ownsRow_new {base e size n b : Nat} {v : Value} {xs : List Value} (h : w.ownsRow base e size v n xs) (hb : v.ownBlock = some b) : base ≤ b := by
  rcases h.2 with ⟨rfl, _⟩ | ⟨g, cap, cur, rfl, hg, _⟩
  · simp [Value.ownBlock] at hb
  · simp [Value.ownBlock] at hb; omega
end
section
variable {w : World}
theorem uInts : Try.prog.underlying 33 = some (.slice 3) := by kernel_rfl
theorem iInt : (Try.prog.info? 3).map (fun i => (i.zero, i.size, i.bytes)) = some (some (.int .i64 0), 1, 8) := by kernel_rfl
theorem exz_int {o : Oper} {ρ : Operand → Value} {x : Operand} (ho : o.op = .buildSlice 33 1 #[(0, x)]) {k : Int} (hx : ρ x = .int .i64 k) : (execOp ρ o).run Try.prog w = .ok (.value (.slice (some ⟨w.heap.size, 0, none⟩) 1 1)) (w.alloc (.cells #[.int .i64 k] 3)) := by
  have hi : (Try.prog.info? 3).map (fun i => (i.zero, i.size)) = some (some (.int .i64 0), 1) := by kernel_rfl
  exact ex_slice1 ho uInts hi rfl (by omega) (by omega) (cs := [.int .i64 k]) (by rw [hx]; rfl) rfl
theorem exp_ints {o : Oper} {ρ : Operand → Value} {base b p m c n : Nat} {s x : Operand} {v : Value} {l ks : List Int} (hB : base ≤ w.heap.size) (ho : o.op = .call { callee := .builtin .append, args := #[s, x], argTypes := #[33, 33] }) (hs : ρ s = v)
    (hown : w.ownsRow base 3 1 v n (intVals l)) (hx : ρ x = .slice (some ⟨b, p, none⟩) m c) (hm : ks.length = m) (hr : w.rangeAt b p (intVals ks)) (hn : n + m < 1099511627776) :
    ∃ v' w', (execOp ρ o).run Try.prog w = .ok (.value v') w' ∧ w'.ownsRow base 3 1 v' (n + m) (intVals (l ++ ks)) ∧ w.grownBy w' v.ownBlock ∧ (v'.ownBlock = v.ownBlock ∨ v'.ownBlock = some w.heap.size) := by
  have := ex_append_b (P := Try.prog) hB ho uInts iInt rfl (by omega) hs hown hx (news := intVals ks) (by simp [hm]) (fun j u hu => by rw [Addr.add_mid]; exact hr j u hu) (fun u hu => by
    obtain ⟨k, _, rfl⟩ := List.mem_map.1 hu; rfl) (by simp [maxLen]; omega) (by omega)
  rw [← List.map_append] at this
  exact this
/-- slices.Sort of a row of the call's own. -/
theorem sort_own {base : Nat} {v : Value} {acc : List Int} (h : w.ownsRow base 3 1 v acc.length (acc.map (Value.int .i64))) (hn : acc.length < 4611686018427387904) :
    Calls Try.prog 60 #[v] w fun e w' => e = .returned (.tuple #[]) ∧ w'.ownsRow base 3 1 v acc.length ((acc.mergeSort fun x y => decide (x ≤ y)).map (Value.int .i64)) ∧ w.grownBy w' v.ownBlock := by
  have hlen : (acc.mergeSort fun x y => decide (x ≤ y)).length = acc.length := List.length_mergeSort acc
  rcases h.2 with ⟨hv, h0⟩ | ⟨g, cap, cur, hv, hg, hb, h1, h2, h3, h4⟩
  · have ha : acc = [] := List.eq_nil_of_length_eq_zero h0
    subst hv
    subst ha
    refine (Try.slices_Sort_int_none none 0 w).mono ?_
    rintro e w' ⟨rfl, rfl⟩
    exact ⟨rfl, by simpa using h, ⟨rfl, rfl, rfl, Nat.le_refl _, fun _ _ _ => rfl⟩⟩
  · subst hv
    rw [Nat.mul_one] at h4
    have hH := holds_of_blockI hb h4
    refine (Try.slices_Sort_int g 0 cap acc w hH (Array.getElem?_eq_some_iff.1 hb).1 hn).mono ?_
    rintro e w' ⟨rfl, n, os, rfl⟩
    exact ⟨rfl, ownsRow_sortedI hlen hg hb h1 h2 h3, grownBy_sortedI _⟩
end
end Go.Proofs.Ytcaalfpfkalalaa
