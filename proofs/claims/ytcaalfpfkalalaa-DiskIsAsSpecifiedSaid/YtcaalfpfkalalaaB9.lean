/- A disk's Open. -/
import Derived.Test.YtcaalfpfkalalaaB8
set_option linter.unusedVariables false
set_option linter.unusedSimpArgs false
set_option maxRecDepth 10000
set_option maxHeartbeats 4000000
namespace Go.Proofs.Ytcaalfpfkalalaa
open Go.RowKit Qd
section
variable {w : World} {p : Nat} {d : Disk} {S : Nat → Prop}
def openPre (d : Disk) (l : List Nat) : List Int := (l.map fun k => List.replicate (d.opn k).length (k : Int)).flatten
theorem openPre_all (d : Disk) : openPre d d.busy = d.openList := rfl
theorem openPre_step {d : Disk} {l : List Nat} {j : Nat} (hj : j < l.length) : openPre d (l.take (j + 1)) = openPre d (l.take j) ++ List.replicate (d.opn l[j]).length ((l[j] : Nat) : Int) := by
  unfold openPre
  rw [List.take_succ_eq_append_getElem hj, List.map_append, List.flatten_append]
  simp
theorem openPre_len {d : Disk} (hok : d.Ok) (hst : d.steps ≤ 1000000) : ∀ l : List Nat, (openPre d l).length ≤ l.length * 1000000
  | [] => by simp [openPre]
  | k :: r => by
    have h1 := openPre_len hok hst r
    have h2 := hok.opnLen k
    have e : openPre d (k :: r) = List.replicate (d.opn k).length (k : Int) ++ openPre d r := rfl
    rw [e, List.length_append, List.length_replicate, List.length_cons, Nat.succ_mul]
    omega
theorem busy_mem {d : Disk} {k : Nat} (h : k ∈ d.busy) : k < d.cells.length ∧ d.opn k ≠ [] := by
  simp only [Disk.busy, List.mem_filter, List.mem_range] at h
  exact ⟨h.1, by simpa using h.2⟩
theorem busy_len (d : Disk) : d.busy.length ≤ d.cells.length := by
  have := List.length_filter_le (fun k => !(d.opn k).isEmpty) (List.range d.cells.length)
  simpa [Disk.busy] using this
theorem ownsRow_nw {w w' : World} {base e size n : Nat} {v : Value} {xs : List Value} (h : w.ownsRow base e size v n xs) (hn : Nw w w') : w'.ownsRow base e size v n xs :=
  ownsRow_same h (fun b hb => hn.block b (by obtain ⟨cs, hc⟩ := ownsRow_heap h hb; exact hc.lt) (fun h => h))
theorem blk_ints_range {g : Nat} {l : List Int} {T : TypeId} (h : Blk w g (intVals l).toArray T) : w.rangeAt g 0 (intVals l) := h.range 0 _ (fun j _ => by rw [Nat.zero_add, List.getElem?_toArray])
theorem own_slice {base e size n : Nat} {v : Value} {xs : List Value} (h : w.ownsRow base e size v n xs) : ∃ a cap, v = .slice a n cap := by
  rcases h.2 with ⟨rfl, rfl⟩ | ⟨g, cap, cur, rfl, _⟩
  · exact ⟨none, 0, rfl⟩
  · exact ⟨_, cap, rfl⟩
theorem own_some {base e size n cap : Nat} {a : Option Addr} {xs : List Value} (h : w.ownsRow base e size (.slice a n cap) n xs) (hn : 0 < n) : ∃ g, a = some ⟨g, 0, none⟩ := by
  rcases h.2 with ⟨h1, rfl⟩ | ⟨g, cap, cur, h1, _⟩
  · omega
  · injection h1 with h1; exact ⟨g, h1⟩
theorem open_calls (h : DiskIn w S p d) (hst : d.steps ≤ 1000000) : Calls Try.prog 42 #[.pointer (some ⟨p, 0, none⟩)] w fun e w' =>
    ∃ v, e = .returned v ∧ w'.ownsRow w.heap.size 3 1 v d.openList.length (intVals d.openList) ∧ Nw w w' := by
  have HS := Lib.hid (sectors_calls h)
  obtain ⟨bc, bm, f, ha, hs⟩ := h
  have HA := Lib.hid ha
  have hml := ha.ok.len
  have hbl := busy_len d
  obtain ⟨nb, hnb⟩ : ∃ nb, nb = d.busy.length := ⟨_, rfl⟩
  rw [← hnb] at HS hbl
  have HNB := Lib.hid hnb
  clear ha hs hnb
  go_enter Try.func42, Try.ntmps42
  go_wp2_with (go_at_call 52; refine HS.out.mono ?_; rintro e w1 ⟨v7, rfl, ho7, hn7⟩; obtain ⟨a7, c7, rfl⟩ := own_slice ho7)
  have HO7 := Lib.hid ho7
  have HN7 := Lib.hid hn7
  clear ho7 hn7
  go_loopw [3, 9] (fun v i wr => ∃ j : Nat, j ≤ nb ∧ i = .int .i64 (j : Int) ∧ Nw w wr ∧ wr.ownsRow w.heap.size 3 1 v (openPre d (d.busy.take j)).length (intVals (openPre d (d.busy.take j))) ∧
      wr.ownsRow w.heap.size 3 1 (.slice a7 nb c7) nb (intVals (d.busy.map fun (k : Nat) => (k : Int))) ∧ (v.ownBlock = none ∨ v.ownBlock ≠ (Value.slice a7 nb c7).ownBlock))
    (fun _ i _ => nb - (intOf i).toNat)
  case atStart => exact ⟨0, Nat.zero_le _, rfl, HN7.out, World.ownsRow_nil _ _ _ _, HO7.out, Or.inl rfl⟩
  case round =>
    obtain ⟨j, hj, rfl, hnw, hown, ho7, hne⟩ := hrel
    have HNW := Lib.hid hnw
    have HOW := Lib.hid hown
    have HO := Lib.hid ho7
    have HNE := Lib.hid hne
    have hj0 : (0 : Int) ≤ (j : Int) := Int.natCast_nonneg j
    clear hnw hown ho7 hne
    by_cases hjn : j < nb
    · obtain ⟨g7, hg7⟩ := own_some HO.out (by omega)
      subst hg7
      have hjb : j < d.busy.length := by rw [← HNB.out]; exact hjn
      obtain ⟨k, hk⟩ : ∃ k, k = d.busy[j] := ⟨_, rfl⟩
      have hkm : k ∈ d.busy := by rw [hk]; exact List.getElem_mem _
      obtain ⟨hkl, hko⟩ := busy_mem hkm
      have hcj : wr.cell? ⟨g7, j, none⟩ = some (.int .i64 (k : Int)) := by
        have := HO.out.cells (g := g7) rfl j (.int .i64 (k : Int)) (by simp [intVals, hk, hjb])
        rwa [Addr.add_mid, Nat.zero_add] at this
      have ha := HA.out.same (w' := wr) (fun b hb => HNW.out.block b (HA.out.foot_lt hb) (fun h => h))
      have c1 := ha.c1
      obtain ⟨v21, hv21, ho21⟩ := ha.some' (k : Int) (by omega) (by rw [Int.toNat_natCast]; exact hko)
      rw [Int.toNat_natCast] at ho21
      have hpos : 0 < (d.opn k).length := List.length_pos_iff.2 hko
      obtain ⟨g21, c21, rfl⟩ := own_form ho21 hpos
      have hol := HA.out.ok.opnLen k
      have HM := Lib.hid ha.map
      have HV := Lib.hid hv21
      have hstep := openPre_step (d := d) hjb
      rw [← hk] at hstep
      have HSTEP := Lib.hid hstep
      have hpl := openPre_len HA.out.ok hst (d.busy.take j)
      have hpl2 : (openPre d (d.busy.take j)).length < 65537000000 := by rw [List.length_take] at hpl; omega
      obtain ⟨n, hn⟩ : ∃ n, n = (d.opn k).length := ⟨_, rfl⟩
      rw [← hn] at hpos hol ho21 HV HSTEP
      have hn2 : n < 1099511627776 := by omega
      have hjn2 : (j : Int) < (nb : Int) := by omega
      clear ha hk hkm hko hstep hv21 ho21 hpl hn
      have hplt := HA.out.obj.lt
      have hplt2 : p < wr.heap.size := Nat.lt_of_lt_of_le hplt HNW.out.size
      have hnwj : nb - (j + 1) < nb - j := by omega
      go_wp2_with (first
        | (refine go_val rfl (exz_int (k := (k : Int)) rfl rfl) ?_; simp only [Act.put, List.setIfInBounds_toArray, List.set_cons_zero, List.set_cons_succ])
        | (refine go_val rfl (exk_open (x := .tmp 19) (y := .tmp 20) rfl (bm := bm) (f := f) (k := (k : Int)) (v := .slice (some ⟨g21, 0, none⟩) n c21) rfl rfl (HM.out.alloc _) (by rw [HV.out]; rfl)) ?_; simp only [Act.put, List.setIfInBounds_toArray, List.set_cons_zero, List.set_cons_succ])
        | (go_at_call 57; refine (repeat_calls (i := (k : Int)) (by have := (Blk.new wr #[.int .i64 (k : Int)] 3).cell 0; exact this) hpos hn2).mono ?_; rintro e w5 ⟨g23, rfl, hg23, hb23, hn23⟩)
        | (refine go_val_ex rfl (exp_ints (s := .tmp 13) (x := .tmp 23) (b := g23) (p := 0) (l := openPre d (d.busy.take j)) (ks := List.replicate n (k : Int)) (v := u3)
            (Nat.le_trans HNW.out.size (((Nw.refl wr).alloc _).trans hn23).size) rfl rfl (ownsRow_nw HOW.out (((Nw.refl wr).alloc _).trans hn23)) rfl (by simp) (blk_ints_range hb23) (by omega)) ?_; rintro v3 w6 ⟨ho6, hg6, hb6⟩; go_frame))
      have hnw5 : Nw w w5 := HNW.out.trans (((Nw.refl wr).alloc _).trans hn23)
      have hnw6 : Nw w w6 := hnw5.grown hg6 (fun b e => ownsRow_new HOW.out e)
      have ho75 := ownsRow_nw HO.out (((Nw.refl wr).alloc (.cells #[.int .i64 (k : Int)] 3)).trans hn23)
      have hg75 : g7 < w5.heap.size := by obtain ⟨cs, hc⟩ := ownsRow_heap ho75 (b := g7) rfl; exact hc.lt
      have hu37 : u3.ownBlock ≠ some g7 := by
        rcases HNE.out with e | e
        · rw [e]; intro e; cases e
        · exact e
      have ho76 := ownsRow_same (w' := w6) ho75 (fun b hb => hg6.block b (by obtain ⟨cs, hc⟩ := ownsRow_heap ho75 hb; exact hc.lt) (fun e => hu37 (by rw [← e, ← hb]; rfl)))
      refine ⟨⟨j + 1, by omega, by simp, hnw6, ?_, ho76, ?_⟩, ?_⟩
      · rw [HSTEP.out, List.length_append, List.length_replicate]; exact ho6
      · right
        show v3.ownBlock ≠ some g7
        rcases hb6 with e | e
        · rw [e]; exact hu37
        · rw [e]; intro e2; injection e2 with e2; omega
      · simp [intOf]; omega
    · have hjn' : j = nb := by omega
      subst hjn'
      go_wp2
      go_ret
      have := HOW.out
      rw [HNB.out, List.take_length, openPre_all] at this
      exact ⟨u3, rfl, this, HNW.out⟩
end
end Go.Proofs.Ytcaalfpfkalalaa
