/- A disk's Crash. -/
import Derived.Test.YtcaalfpfkalalaaB9
import Derived.Test.YtcaalfpfkalalaaB6
set_option linter.unusedVariables false
set_option linter.unusedSimpArgs false
set_option maxRecDepth 10000
set_option maxHeartbeats 4000000
namespace Go.Proofs.Ytcaalfpfkalalaa
open Go.RowKit Qd
open Go.Proofs.YtcaalfpfkalalaaW.PrintLast
def crashPart (d : Disk) (keep : List Int) (j : Nat) : Disk :=
  { (Disk.new d.cells.length) with cells := (List.range d.cells.length).map fun k => if k ∈ d.busy.take j then d.crashCell keep k else d.cell k }
section
variable {w : World} {p : Nat} {d : Disk} {S : Nat → Prop}
theorem crashCell_ok (h : d.Ok) (keep : List Int) (k : Nat) : SecOk (d.crashCell keep k).s ∧ ((d.crashCell keep k).bad = true → (d.crashCell keep k).s = zeroSec) := by
  unfold Disk.crashCell
  split
  · exact ⟨h.cell k, fun hb => by rw [h.cellBad k hb]; rfl⟩
  · exact ⟨Disk.found_ok _ (h.cell k) (h.opnOk k), Disk.found_bad _ (fun hb => by rw [h.cellBad k hb]; rfl)⟩
theorem crashPart_ok (h : d.Ok) (keep : List Int) (j : Nat) : (crashPart d keep j).Ok where
  pos := by simpa [crashPart] using h.pos
  len := by simpa [crashPart] using h.len
  sec := fun c hc => by
    simp only [crashPart, List.mem_map] at hc
    obtain ⟨k, _, rfl⟩ := hc
    split
    · exact (crashCell_ok h keep k).1
    · exact h.cell k
  bad := fun c hc => by
    simp only [crashPart, List.mem_map] at hc
    obtain ⟨k, _, rfl⟩ := hc
    split
    · exact (crashCell_ok h keep k).2
    · intro hb; rw [h.cellBad k hb]; rfl
  opnOk := by simp [crashPart, Disk.new]
  out := by simp [crashPart, Disk.new]
  st0 := by simp [crashPart, Disk.new]
  opnLen := by simp [crashPart, Disk.new]
  af := by simp [crashPart, Disk.new]
  afHi := by simp [crashPart, Disk.new]
theorem crashPart_zero (keep : List Int) : (crashPart d keep 0).cells = d.cells := by
  simp only [crashPart, List.take_zero, List.not_mem_nil, if_false]
  exact Disk.cells_eq
theorem busy_nodup : d.busy.Nodup := nodup_filter _ List.nodup_range
theorem crashPart_step (keep : List Int) {j : Nat} (hj : j < d.busy.length) :
    { crashPart d keep j with cells := (crashPart d keep j).cells.set d.busy[j] (found (d.cell d.busy[j]) (d.opn d.busy[j]) (keepAt keep j)) } = crashPart d keep (j + 1) := by
  have hb := busy_mem (List.getElem_mem hj)
  have hi : d.busy.idxOf d.busy[j] = j := List.Nodup.idxOf_getElem busy_nodup j hj
  have hc : d.crashCell keep d.busy[j] = found (d.cell d.busy[j]) (d.opn d.busy[j]) (keepAt keep j) := by
    unfold Disk.crashCell
    rw [if_neg hb.2, hi]
  rw [← hc]
  unfold crashPart
  simp only
  congr 1
  apply List.ext_getElem (by simp)
  intro i h1 h2
  simp only [List.getElem_set, List.getElem_map, List.getElem_range]
  rw [List.take_succ_eq_append_getElem hj]
  by_cases hi2 : d.busy[j] = i
  · rw [if_pos hi2, if_pos (by rw [hi2]; simp), hi2]
  · rw [if_neg hi2]
    have : i ∈ d.busy.take j ++ [d.busy[j]] ↔ i ∈ d.busy.take j := by
      simp only [List.mem_append, List.mem_singleton]
      exact ⟨fun h => h.elim id (fun h => absurd h.symm hi2), Or.inl⟩
    simp only [this]
theorem crashPart_all (keep : List Int) : crashPart d keep d.busy.length = d.crash keep := by
  have e : (List.range d.cells.length).map (fun k => if k ∈ d.busy then d.crashCell keep k else d.cell k) = (List.range d.cells.length).map (d.crashCell keep) := by
    apply List.map_congr_left
    intro k hk
    by_cases hb : k ∈ d.busy
    · rw [if_pos hb]
    · rw [if_neg hb]
      have : d.opn k = [] := by
        by_cases ho : d.opn k = []
        · exact ho
        · exact absurd (by simp only [Disk.busy, List.mem_filter]; exact ⟨hk, by simpa using ho⟩) hb
      unfold Disk.crashCell
      rw [if_pos this]
  unfold crashPart Disk.crash
  rw [List.take_length, e]
theorem rowVals_one (l : List Qd.Cell) : ∀ v ∈ rowVals l, v.oneCell' = true := fun v hv => by
  obtain ⟨c, _, hc⟩ := List.mem_flatMap.1 hv
  exact cellVals_one c v hc
theorem range_nw {w w' : World} {b o : Nat} {cs : List Value} (h : w.rangeAt b o cs) (hn : Nw w w') : w'.rangeAt b o cs := fun j v hj => hn.cell (h j v hj) (fun h => h)
theorem putRow_at {q bcq bmq : Nat} {fq : Int → Option Value} {e : Disk} (h : DiskAt w q bcq bmq fq e) {cs : List Qd.Cell} (hl : cs.length = e.cells.length) (hcs : ∀ c ∈ cs, SecOk c.s) (hok : ({ e with cells := cs } : Disk).Ok) :
    DiskAt (w.setCells bcq 0 (rowVals cs)) q bcq bmq fq { e with cells := cs } ∧ ∀ b, b ≠ bcq → (w.setCells bcq 0 (rowVals cs)).heap[b]? = w.heap[b]? := by
  have e1 : (rowVals cs).length = (rowVals e.cells).length := by
    unfold rowVals
    rw [flatMap_len (cells_len hcs), flatMap_len (cells_len h.ok.sec), hl]
  have hsz : 0 + (rowVals cs).length ≤ (rowVals e.cells).toArray.size := by rw [List.size_toArray, e1]; omega
  have hk : ∀ b, b ≠ bcq → (w.setCells bcq 0 (rowVals cs)).heap[b]? = w.heap[b]? := fun b hb => heap_setCells_ne h.row _ hsz hb
  refine ⟨⟨hok, ?_, ?_, h.map.same (hk bmq (fun e => h.map.noCells (by rw [e]; exact h.row))), h.none', fun k h0 ho => ?_, h.apart⟩, hk⟩
  · simp only [hl]
    exact (hk q (h.obj.ne h.row (by decide))).trans h.obj
  · exact blk_over h.row e1
  · obtain ⟨v, hv, hr⟩ := h.some' k h0 ho
    exact ⟨v, hv, ownsRow_same hr (fun b hb => hk b (fun e => by
      obtain ⟨cs', hc'⟩ := ownsRow_heap hr hb
      rw [e] at hc'
      exact absurd rfl (hc'.ne h.row (by decide))))⟩
/-- A slice of numbers that somebody else has. -/
def KeepIs (w : World) (v : Value) (keep : List Int) : Prop := ∃ a cap, v = .slice a keep.length cap ∧ (keep ≠ [] → ∃ kb ko, a = some ⟨kb, ko, none⟩ ∧ w.rangeAt kb ko (intVals keep))
theorem crash_calls (h : DiskIn w S p d) {keep : List Int} (hk64 : ∀ x ∈ keep, -9223372036854775808 ≤ x ∧ x ≤ 9223372036854775807) (hkl : keep.length < 1099511627776) (hst : d.steps ≤ 1000000) {kv : Value} (hkv : KeepIs w kv keep) :
    Calls Try.prog 26 #[.pointer (some ⟨p, 0, none⟩), kv] w fun e w' =>
      ∃ q S', e = .returned (.pointer (some ⟨q, 0, none⟩)) ∧ DiskIn w' S' q (d.crash keep) ∧ Turn (fun _ => False) w S' w' := by
  obtain ⟨ka, kcap, rfl, hkr⟩ := hkv
  have HD := Lib.hid h
  obtain ⟨bc, bm, f, ha, hs⟩ := h
  have HA := Lib.hid ha
  have HKR := Lib.hid hkr
  have HK64 := Lib.hid hk64
  have c0 := ha.c0
  have hml := ha.ok.len
  have hm1 := ha.ok.pos
  have HLT := Lib.hid (show ∀ b, DiskFoot p bc bm f b → b < w.heap.size from fun b hb => ha.foot_lt hb)
  obtain ⟨m, hm⟩ : ∃ m, m = d.cells.length := ⟨_, rfl⟩
  rw [← hm] at c0 hml hm1
  have HN := Lib.hid (new_calls (w := w) m hm1 hml)
  have HM := Lib.hid hm
  clear ha hs hkr hk64 hm
  go_enter Try.func26, Try.ntmps26
  go_wp2_with (go_at_call 8; refine HN.out.mono ?_; rintro e w1 ⟨q, S1, rfl, hd1, ht1⟩)
  obtain ⟨bcq, bmq, fq, haq, hsq⟩ := hd1
  have hnl : (Disk.new m).cells.length = m := by simp [Disk.new]
  have q0 := haq.c0
  rw [hnl] at q0
  have ha1 : DiskAt w1 p bc bm f d := HA.out.same (fun b hb => ht1.block b (HLT.out b hb) (fun h => h))
  have c0' := ha1.c0
  rw [← HM.out] at c0'
  have hlr : (rowVals d.cells).length = m * 65 := by unfold rowVals; rw [flatMap_len (cells_len HA.out.ok.sec), ← HM.out]
  have hlq : (rowVals (Disk.new m).cells).toArray.size = m * 65 := by rw [List.size_toArray]; unfold rowVals; rw [flatMap_len (cells_len haq.ok.sec), hnl]
  have HL := Lib.hid hlr
  have HRR : Hid (w1.drew.rangeAt bc 0 (rowVals d.cells)) := Lib.hid ((show Blk w1.drew bc _ _ from ha1.row).range 0 _ (fun j _ => by rw [Nat.zero_add, List.getElem?_toArray]))
  have HTT : Hid (w1.drew.there bcq 0 (rowVals d.cells).length) := Lib.hid ((show Blk w1.drew bcq _ _ from haq.row).there 0 _ (by rw [hlq, hlr]; omega))
  have HQ := Lib.hid haq
  have HSQ := Lib.hid hsq
  have HT1 := Lib.hid ht1
  clear haq hsq ht1 ha1 hlr hlq hnl c0 HN
  -- <R2
  refine start_ (n := 9) (S := fun w' => w'.cell? ⟨q, 0, none⟩ = some (.slice (some ⟨bcq, 0, none⟩) m m) ∧ w'.cell? ⟨p, 0, none⟩ = some (.slice (some ⟨bc, 0, none⟩) m m)) (ds := [8]) #[false, false, false, false, false, false, false, false, false] mixed rfl rfl ⟨q0, c0'⟩ (fun hHeld => ?_)
  refine pure_ (i := 0) (N := some 15) (v := ?_) (a' := ?_) #[true, false, false, false, false, false, false, false, false] rfl rfl (by kernel_rfl) (fun _ _ _ h => h) (Or.inl ⟨by rfl, ?_⟩) ?_ ?_
  rotate_left
  · intro w'
    go_simp
    with_reducible rfl
  rotate_left
  · simp only [Act.put, List.setIfInBounds_toArray, List.set_cons_zero, List.set_cons_succ, i64_w, i32_w]
    rfl
  refine pure_ (i := 1) (N := some 16) (v := ?_) (a' := ?_) #[true, true, false, false, false, false, false, false, false] rfl rfl (by kernel_rfl) (fun _ _ _ h => h) (Or.inl ⟨by rfl, ?_⟩) ?_ ?_
  rotate_left
  · intro w'
    go_simp
    with_reducible rfl
  rotate_left
  · simp only [Act.put, List.setIfInBounds_toArray, List.set_cons_zero, List.set_cons_succ, i64_w, i32_w]
    rfl
  refine pure_ (i := 2) (N := some 17) (v := ?_) (a' := ?_) #[true, true, true, false, false, false, false, false, false] rfl rfl (by kernel_rfl) (fun _ _ _ h => h) (Or.inl ⟨by rfl, ?_⟩) ?_ ?_
  rotate_left
  · intro w'
    go_simp
    with_reducible rfl
  rotate_left
  · simp only [Act.put, List.setIfInBounds_toArray, List.set_cons_zero, List.set_cons_succ, i64_w, i32_w]
    rfl
  refine pure_ (i := 4) (N := some 19) (v := ?_) (a' := ?_) #[true, true, true, false, true, false, false, false, false] rfl rfl (by kernel_rfl) (fun _ _ _ h => h) (Or.inl ⟨by rfl, ?_⟩) ?_ ?_
  rotate_left
  · intro w'
    go_simp
    with_reducible rfl
  rotate_left
  · simp only [Act.put, List.setIfInBounds_toArray, List.set_cons_zero, List.set_cons_succ, i64_w, i32_w]
    rfl
  refine pure_ (i := 5) (N := some 20) (v := ?_) (a' := ?_) #[true, true, true, false, true, true, false, false, false] rfl rfl (by kernel_rfl) (fun _ _ _ h => h) (Or.inl ⟨by rfl, ?_⟩) ?_ ?_
  rotate_left
  · intro w'
    go_simp
    with_reducible rfl
  rotate_left
  · simp only [Act.put, List.setIfInBounds_toArray, List.set_cons_zero, List.set_cons_succ, i64_w, i32_w]
    rfl
  refine pure_ (i := 6) (N := some 21) (v := ?_) (a' := ?_) #[true, true, true, false, true, true, true, false, false] rfl rfl (by kernel_rfl) (fun _ _ _ h => h) (Or.inl ⟨by rfl, ?_⟩) ?_ ?_
  rotate_left
  · intro w'
    go_simp
    with_reducible rfl
  rotate_left
  · simp only [Act.put, List.setIfInBounds_toArray, List.set_cons_zero, List.set_cons_succ, i64_w, i32_w]
    rfl
  refine take_ (i := 3) (N := some 18) (v := ?_) (a' := ?_) #[true, true, true, true, true, true, true, false, false] rfl rfl (by kernel_rfl) (fun _ _ _ h => h) (Or.inl ⟨by rfl, ?_⟩) hHeld ?_ ?_
  rotate_left
  · rintro w' ⟨s0, s1⟩
    go_simp
    with_reducible rfl
  rotate_left
  · simp only [Act.put, List.setIfInBounds_toArray, List.set_cons_zero, List.set_cons_succ, i64_w, i32_w]
    rfl
  refine take_ (i := 7) (N := some 22) (v := ?_) (a' := ?_) #[true, true, true, true, true, true, true, true, false] rfl rfl (by kernel_rfl) (fun _ _ _ h => h) (Or.inl ⟨by rfl, ?_⟩) hHeld ?_ ?_
  rotate_left
  · rintro w' ⟨s0, s1⟩
    go_simp
    with_reducible rfl
  rotate_left
  · simp only [Act.put, List.setIfInBounds_toArray, List.set_cons_zero, List.set_cons_succ, i64_w, i32_w]
    rfl
  refine last_ (i := 8) (N := some 23) #[true, true, true, true, true, true, true, true, true] rfl rfl (by kernel_rfl) (by decide) (fun K hK => ?_)
  refine value_ (by rfl) rfl (ex_copy_n (b := bcq) (p := 0) (dLen := m) (dCap := m) (sb := bc) (so := 0) (sLen := m) (sCap := m) (size := 65) (cs := rowVals d.cells) (m := m) rfl uCells sCell rfl rfl (Nat.min_self m) HL.out HRR.out HTT.out (rowVals_one _)) ?_
  refine hK.out _ _ ?_
  clear hK K
  refine norm_ (a' := ?_) ?_ ?_
  rotate_left
  · show Act.put _ (some 23) _ = _
    simp only [Act.put, List.setIfInBounds_toArray, List.set_cons_zero, List.set_cons_succ, i64_w, i32_w]
    rfl
  refine done_ (by kernel_rfl) ?_
  -- R2>
  have haq := HQ.out
  have hokp : ({ Disk.new m with cells := d.cells } : Disk) = crashPart d keep 0 := by
    have e := crashPart_zero (d := d) keep
    unfold crashPart at e ⊢
    simp only at e
    rw [e, HM.out]
  have hput := putRow_at (e := Disk.new m) (show DiskAt w1.drew q bcq bmq fq (Disk.new m) from haq.same (fun _ _ => rfl)) (cs := d.cells) (by simp [Disk.new, HM.out]) HA.out.ok.sec (by rw [hokp]; exact crashPart_ok HA.out.ok keep 0)
  rw [hokp] at hput
  have ht2 : Turn (fun _ => False) w S1 (w1.drew.setCells bcq 0 (rowVals d.cells)) := (HT1.out.trans (Turn.drew _ _)).trans (Turn.setCells (show Blk w1.drew bcq _ _ from haq.row) _ (by
    have e1 : (rowVals (Disk.new m).cells).toArray.size = m * 65 := by rw [List.size_toArray]; unfold rowVals; rw [flatMap_len (cells_len haq.ok.sec)]; simp [Disk.new]
    rw [e1, HL.out]; omega) (HSQ.out bcq (Or.inr (Or.inl rfl))))
  have hqlt : bcq < (w1.drew.setCells bcq 0 (rowVals d.cells)).heap.size := hput.1.row.lt
  have HPQ := Lib.hid hput.1
  have HT2 := Lib.hid ht2
  clear hput ht2 haq hokp HRR HTT q0 c0' HQ HT1
  generalize w1.drew.setCells bcq 0 (rowVals d.cells) = w2 at *
  have hd2 : DiskIn w2 (DiskFoot p bc bm f) p d := ⟨bc, bm, f, HA.out.same (fun b hb => HT2.out.block b (HLT.out b hb) (fun h => h)), fun _ h => h⟩
  have HS := Lib.hid (sectors_calls hd2)
  obtain ⟨nb, hnb⟩ : ∃ nb, nb = d.busy.length := ⟨_, rfl⟩
  have hbl := busy_len d
  rw [← hnb] at HS hbl
  have HNB := Lib.hid hnb
  clear hd2 hnb
  go_wp2_with (go_at_call 52; refine HS.out.mono ?_; rintro e w3 ⟨v25, rfl, ho25, hn25⟩; obtain ⟨a25, c25, rfl⟩ := own_slice ho25)
  have HO25 := Lib.hid ho25
  have HN25 := Lib.hid hn25
  clear ho25 hn25 HS
  go_loopw [27] (fun i wr => ∃ j : Nat, j ≤ nb ∧ i = .int .i64 (j : Int) ∧ DiskAt wr q bcq bmq fq (crashPart d keep j) ∧ Turn (fun _ => False) w S1 wr ∧
      wr.ownsRow w2.heap.size 3 1 (.slice a25 nb c25) nb (intVals (d.busy.map fun (k : Nat) => (k : Int))))
    (fun i _ => nb - (intOf i).toNat)
  case atStart => exact ⟨0, Nat.zero_le _, rfl, HPQ.out.same (fun b hb => HN25.out.block b (HPQ.out.foot_lt hb) (fun h => h)), HT2.out.trans (HN25.out.turn S1), HO25.out⟩
  case round =>
    obtain ⟨j, hj, rfl, hdq, htr, ho⟩ := hrel
    have HDQ := Lib.hid hdq
    have HTR := Lib.hid htr
    have HO := Lib.hid ho
    have hj0 : (0 : Int) ≤ (j : Int) := Int.natCast_nonneg j
    clear hdq htr ho
    by_cases hjn : j < nb
    · obtain ⟨g25, hg25⟩ := own_some HO.out (by omega)
      subst hg25
      have hjb : j < d.busy.length := by rw [← HNB.out]; exact hjn
      have hstep := crashPart_step (d := d) keep hjb
      obtain ⟨k, hk⟩ : ∃ k, k = d.busy[j] := ⟨_, rfl⟩
      rw [← hk] at hstep
      have hkm : k ∈ d.busy := by rw [hk]; exact List.getElem_mem _
      obtain ⟨hkl2, hko⟩ := busy_mem hkm
      have hcj : wr.cell? ⟨g25, j, none⟩ = some (.int .i64 (k : Int)) := by
        have := HO.out.cells (g := g25) rfl j (.int .i64 (k : Int)) (by simp [intVals, hk, hjb])
        rwa [Addr.add_mid, Nat.zero_add] at this
      have hnwr : ∀ b, b < w.heap.size → wr.heap[b]? = w.heap[b]? := fun b hb => HTR.out.block b hb (fun h => h)
      have ha := HA.out.same (w' := wr) (fun b hb => hnwr b (HLT.out b hb))
      have c0 := ha.c0
      have c1 := ha.c1
      have q0 := HDQ.out.c0
      have hpl : (crashPart d keep j).cells.length = m := by simp [crashPart, HM.out]
      rw [hpl] at q0
      rw [← HM.out] at c0 hkl2
      obtain ⟨v59, hv59, ho59⟩ := ha.some' (k : Int) (by omega) (by rw [Int.toNat_natCast]; exact hko)
      rw [Int.toNat_natCast] at ho59
      have hpos : 0 < (d.opn k).length := List.length_pos_iff.2 hko
      obtain ⟨g21, c21, rfl⟩ := own_form ho59 hpos
      have hol := HA.out.ok.opnLen k
      obtain ⟨l, hl⟩ : ∃ l, l = d.opn k := ⟨_, rfl⟩
      obtain ⟨c, hc⟩ : ∃ c, c = d.cell k := ⟨_, rfl⟩
      have hlok : ∀ s ∈ l, SecOk s := by rw [hl]; exact HA.out.ok.opnOk k
      have hcok : SecOk c.s := by rw [hc]; exact HA.out.ok.cell k
      have hcbad : c.bad = true → c.s = zeroSec := by rw [hc]; exact fun hb => by rw [HA.out.ok.cellBad k hb]; rfl
      have hlne : l ≠ [] := by rw [hl]; exact hko
      have hrc := row_range ha (i := k) (by rw [← HM.out]; exact hkl2)
      rw [← hc] at hrc hstep
      rw [← hl] at ho59 hv59 hol hpos hstep
      have hkr : (k : Int) < (m : Int) := by omega
      have hk0 : (0 : Int) ≤ (k : Int) := Int.natCast_nonneg k
      have hjr : (j : Int) < (nb : Int) := by omega
      have HRC : Hid (wr.drew.rangeAt bc (k * 65) (cellVals c)) := Lib.hid (fun i v hi => hrc i v hi)
      have HMM : Hid (MapIs wr.drew bm f) := Lib.hid ha.map
      have HRL : Hid (wr.drew.rangeAt g21 0 (manyVals l)) := Lib.hid (fun i v hi => by
        have := ho59.cells (g := g21) rfl i v hi
        rwa [Addr.add_mid] at this)
      have HV := Lib.hid hv59
      obtain ⟨R, hR⟩ : ∃ R, R = (rowVals (crashPart d keep j).cells).toArray := ⟨_, rfl⟩
      have HBQ : Hid (Blk wr.drew bcq R 100) := Lib.hid (by rw [hR]; exact HDQ.out.row)
      have HSZ : Hid (k * 65 + 65 ≤ R.size) := Lib.hid (by
        rw [hR, List.size_toArray]; unfold rowVals; rw [flatMap_len (cells_len HDQ.out.ok.sec), hpl]; omega)
      have HC := Lib.hid hcok
      have HSTEP := Lib.hid hstep
      have hlen : l.length < 1099511627776 := by omega
      obtain ⟨n, hn⟩ : ∃ n, n = l.length := ⟨_, rfl⟩
      have HFO := Lib.hid (And.intro hcbad (And.intro hlok hlne))
      rw [← hn] at HV hlen
      have HNL := Lib.hid hn
      have HKB := Lib.hid (show k < (crashPart d keep j).cells.length from by rw [hpl]; exact hkl2)
      have hplt : p < w.heap.size := HA.out.obj.lt
      have HWJ := Lib.hid (show wrap64 ((j : Int) + 1) = (j : Int) + 1 by have := HA.out.ok.len; unfold wrap64; omega)
      clear ha hk hkm hko hv59 ho59 hl hc hlok hcok hcbad hlne hrc hstep hR hn hnwr hpl hol hpos
      by_cases hke : keep = []
      · have hkn : keep.length = 0 := by rw [hke]; rfl
        have hx : keepAt keep j = 0 := by unfold keepAt; rw [if_pos hke]
        rw [hx] at HSTEP
        have hx0 : -9223372036854775808 ≤ (0 : Int) := by omega
        have hx1 : (0 : Int) ≤ 9223372036854775807 := by omega
        obtain ⟨cf, hcf⟩ : ∃ cf, cf = found c l 0 := ⟨_, rfl⟩
        rw [← hcf] at HSTEP
        have HCF : Hid (SecOk cf.s) := Lib.hid (by rw [hcf]; exact Disk.found_ok 0 HC.out HFO.out.2.1)
        have HCB : Hid (cf.bad = true → cf.s = zeroSec) := Lib.hid (by rw [hcf]; exact Disk.found_bad 0 HFO.out.1)
        have HF : Hid (∀ W : World, W.rangeAt g21 0 (manyVals l) → Calls Try.prog 53 #[.agg (cellVals c).toArray, .slice (some ⟨g21, 0, none⟩) n c21, .int .i64 0] W fun e w' => e = .returned (.agg (cellVals cf).toArray) ∧ Nw W w') :=
          Lib.hid (fun W hW => by rw [hcf, HNL.out]; exact found_calls HC.out HFO.out.2.1 HFO.out.2.2 (by rw [← HNL.out]; exact hlen) hx0 hx1 hW)
        rw [hkn]
        clear hke hx hcf hkn HFO HK64 HKR
        go_wp2
        -- <R9A
        refine start_ (n := 22) (S := fun w' => w'.cell? ⟨q, 0, none⟩ = some (.slice (some ⟨bcq, 0, none⟩) m m) ∧ w'.cell? ⟨p, 0, none⟩ = some (.slice (some ⟨bc, 0, none⟩) m m) ∧ w'.cell? ⟨p, 1, none⟩ = some (.map (some bm)) ∧ w'.rangeAt bc (k * 65) (cellVals c) ∧ MapIs w' bm f ∧ w'.rangeAt g21 0 (manyVals l) ∧ Blk w' bcq R 100 ∧ Nw wr w') (ds := [21]) #[false, false, false, false, false, false, false, false, false, false, false, false, false, false, false, false, false, false, false, false, false, false] mixed rfl rfl ⟨q0, c0, c1, HRC.out, HMM.out, HRL.out, HBQ.out, (Nw.refl wr).drew⟩ (fun hHeld => ?_)
        refine pure_ (i := 0) (N := some 42) (v := ?_) (a' := ?_) #[true, false, false, false, false, false, false, false, false, false, false, false, false, false, false, false, false, false, false, false, false, false] rfl rfl (by kernel_rfl) (fun _ _ _ h => h) (Or.inl ⟨by rfl, ?_⟩) ?_ ?_
        rotate_left
        · intro w'
          go_simp
          with_reducible rfl
        rotate_left
        · simp only [Act.put, List.setIfInBounds_toArray, List.set_cons_zero, List.set_cons_succ, i64_w, i32_w]
          rfl
        refine pure_ (i := 1) (N := some 43) (v := ?_) (a' := ?_) #[true, true, false, false, false, false, false, false, false, false, false, false, false, false, false, false, false, false, false, false, false, false] rfl rfl (by kernel_rfl) (fun _ _ _ h => h) (Or.inl ⟨by rfl, ?_⟩) ?_ ?_
        rotate_left
        · intro w'
          go_simp
          with_reducible rfl
        rotate_left
        · simp only [Act.put, List.setIfInBounds_toArray, List.set_cons_zero, List.set_cons_succ, i64_w, i32_w]
          rfl
        refine pure_ (i := 2) (N := some 44) (v := ?_) (a' := ?_) #[true, true, true, false, false, false, false, false, false, false, false, false, false, false, false, false, false, false, false, false, false, false] rfl rfl (by kernel_rfl) (fun _ _ _ h => h) (Or.inl ⟨by rfl, ?_⟩) ?_ ?_
        rotate_left
        · intro w'
          go_simp
          with_reducible rfl
        rotate_left
        · simp only [Act.put, List.setIfInBounds_toArray, List.set_cons_zero, List.set_cons_succ, i64_w, i32_w]
          rfl
        refine pure_ (i := 4) (N := some 46) (v := ?_) (a' := ?_) #[true, true, true, false, true, false, false, false, false, false, false, false, false, false, false, false, false, false, false, false, false, false] rfl rfl (by kernel_rfl) (fun _ _ _ h => h) (Or.inl ⟨by rfl, ?_⟩) ?_ ?_
        rotate_left
        · intro w'
          go_simp
          with_reducible rfl
        rotate_left
        · simp only [Act.put, List.setIfInBounds_toArray, List.set_cons_zero, List.set_cons_succ, i64_w, i32_w]
          rfl
        refine pure_ (i := 5) (N := some 47) (v := ?_) (a' := ?_) #[true, true, true, false, true, true, false, false, false, false, false, false, false, false, false, false, false, false, false, false, false, false] rfl rfl (by kernel_rfl) (fun _ _ _ h => h) (Or.inl ⟨by rfl, ?_⟩) ?_ ?_
        rotate_left
        · intro w'
          go_simp
          with_reducible rfl
        rotate_left
        · simp only [Act.put, List.setIfInBounds_toArray, List.set_cons_zero, List.set_cons_succ, i64_w, i32_w]
          rfl
        refine pure_ (i := 6) (N := some 48) (v := ?_) (a' := ?_) #[true, true, true, false, true, true, true, false, false, false, false, false, false, false, false, false, false, false, false, false, false, false] rfl rfl (by kernel_rfl) (fun _ _ _ h => h) (Or.inl ⟨by rfl, ?_⟩) ?_ ?_
        rotate_left
        · intro w'
          go_simp
          with_reducible rfl
        rotate_left
        · simp only [Act.put, List.setIfInBounds_toArray, List.set_cons_zero, List.set_cons_succ, i64_w, i32_w]
          rfl
        refine pure_ (i := 7) (N := some 49) (v := ?_) (a' := ?_) #[true, true, true, false, true, true, true, true, false, false, false, false, false, false, false, false, false, false, false, false, false, false] rfl rfl (by kernel_rfl) (fun _ _ _ h => h) (Or.inl ⟨by rfl, ?_⟩) ?_ ?_
        rotate_left
        · intro w'
          go_simp
          with_reducible rfl
        rotate_left
        · simp only [Act.put, List.setIfInBounds_toArray, List.set_cons_zero, List.set_cons_succ, i64_w, i32_w]
          rfl
        refine pure_ (i := 9) (N := some 51) (v := ?_) (a' := ?_) #[true, true, true, false, true, true, true, true, false, true, false, false, false, false, false, false, false, false, false, false, false, false] rfl rfl (by kernel_rfl) (fun _ _ _ h => h) (Or.inl ⟨by rfl, ?_⟩) ?_ ?_
        rotate_left
        · intro w'
          go_simp
          with_reducible rfl
        rotate_left
        · simp only [Act.put, List.setIfInBounds_toArray, List.set_cons_zero, List.set_cons_succ, i64_w, i32_w]
          rfl
        refine pure_ (i := 12) (N := some 54) (v := ?_) (a' := ?_) #[true, true, true, false, true, true, true, true, false, true, false, false, true, false, false, false, false, false, false, false, false, false] rfl rfl (by kernel_rfl) (fun _ _ _ h => h) (Or.inl ⟨by rfl, ?_⟩) ?_ ?_
        rotate_left
        · intro w'
          go_simp
          with_reducible rfl
        rotate_left
        · simp only [Act.put, List.setIfInBounds_toArray, List.set_cons_zero, List.set_cons_succ, i64_w, i32_w]
          rfl
        refine pure_ (i := 13) (N := some 55) (v := ?_) (a' := ?_) #[true, true, true, false, true, true, true, true, false, true, false, false, true, true, false, false, false, false, false, false, false, false] rfl rfl (by kernel_rfl) (fun _ _ _ h => h) (Or.inl ⟨by rfl, ?_⟩) ?_ ?_
        rotate_left
        · intro w'
          go_simp
          with_reducible rfl
        rotate_left
        · simp only [Act.put, List.setIfInBounds_toArray, List.set_cons_zero, List.set_cons_succ, i64_w, i32_w]
          rfl
        refine pure_ (i := 14) (N := some 56) (v := ?_) (a' := ?_) #[true, true, true, false, true, true, true, true, false, true, false, false, true, true, true, false, false, false, false, false, false, false] rfl rfl (by kernel_rfl) (fun _ _ _ h => h) (Or.inl ⟨by rfl, ?_⟩) ?_ ?_
        rotate_left
        · intro w'
          go_simp
          with_reducible rfl
        rotate_left
        · simp only [Act.put, List.setIfInBounds_toArray, List.set_cons_zero, List.set_cons_succ, i64_w, i32_w]
          rfl
        refine pure_ (i := 16) (N := some 58) (v := ?_) (a' := ?_) #[true, true, true, false, true, true, true, true, false, true, false, false, true, true, true, false, true, false, false, false, false, false] rfl rfl (by kernel_rfl) (fun _ _ _ h => h) (Or.inl ⟨by rfl, ?_⟩) ?_ ?_
        rotate_left
        · intro w'
          go_simp
          with_reducible rfl
        rotate_left
        · simp only [Act.put, List.setIfInBounds_toArray, List.set_cons_zero, List.set_cons_succ, i64_w, i32_w]
          rfl
        refine pure_ (i := 18) (N := some 60) (v := ?_) (a' := ?_) #[true, true, true, false, true, true, true, true, false, true, false, false, true, true, true, false, true, false, true, false, false, false] rfl rfl (by kernel_rfl) (fun _ _ _ h => h) (Or.inl ⟨by rfl, ?_⟩) ?_ ?_
        rotate_left
        · intro w'
          go_simp
          with_reducible rfl
        rotate_left
        · simp only [Act.put, List.setIfInBounds_toArray, List.set_cons_zero, List.set_cons_succ, i64_w, i32_w]
          rfl
        refine take_ (i := 3) (N := some 45) (v := ?_) (a' := ?_) #[true, true, true, true, true, true, true, true, false, true, false, false, true, true, true, false, true, false, true, false, false, false] rfl rfl (by kernel_rfl) (fun _ _ _ h => h) (Or.inl ⟨by rfl, ?_⟩) hHeld ?_ ?_
        rotate_left
        · rintro w' ⟨s0, s1, s2, s3, s4, s5, s6, s7⟩
          go_simp
          with_reducible rfl
        rotate_left
        · simp only [Act.put, List.setIfInBounds_toArray, List.set_cons_zero, List.set_cons_succ, i64_w, i32_w]
          rfl
        refine take_ (i := 8) (N := some 50) (v := ?_) (a' := ?_) #[true, true, true, true, true, true, true, true, true, true, false, false, true, true, true, false, true, false, true, false, false, false] rfl rfl (by kernel_rfl) (fun _ _ _ h => h) (Or.inl ⟨by rfl, ?_⟩) hHeld ?_ ?_
        rotate_left
        · rintro w' ⟨s0, s1, s2, s3, s4, s5, s6, s7⟩
          go_simp
          with_reducible rfl
        rotate_left
        · simp only [Act.put, List.setIfInBounds_toArray, List.set_cons_zero, List.set_cons_succ, i64_w, i32_w]
          rfl
        refine pure_ (i := 10) (N := some 52) (v := ?_) (a' := ?_) #[true, true, true, true, true, true, true, true, true, true, true, false, true, true, true, false, true, false, true, false, false, false] rfl rfl (by kernel_rfl) (fun _ _ _ h => h) (Or.inl ⟨by rfl, ?_⟩) ?_ ?_
        rotate_left
        · intro w'
          go_simp
          with_reducible rfl
        rotate_left
        · simp only [Act.put, List.setIfInBounds_toArray, List.set_cons_zero, List.set_cons_succ, i64_w, i32_w]
          rfl
        refine take_ (i := 11) (N := some 53) (v := .agg (cellVals c).toArray) (a' := ?_) #[true, true, true, true, true, true, true, true, true, true, true, true, true, true, true, false, true, false, true, false, false, false] rfl rfl (by kernel_rfl) (fun _ _ _ h => h) (Or.inl ⟨by rfl, ?_⟩) hHeld ?_ ?_
        · rintro w' ⟨s0, s1, s2, s3, s4, s5, s6, s7⟩
          exact exl_cell (c := c) rfl rfl HC.out s3
        rotate_left
        · simp only [Act.put, List.setIfInBounds_toArray, List.set_cons_zero, List.set_cons_succ, i64_w, i32_w]
          rfl
        refine take_ (i := 15) (N := some 57) (v := ?_) (a' := ?_) #[true, true, true, true, true, true, true, true, true, true, true, true, true, true, true, true, true, false, true, false, false, false] rfl rfl (by kernel_rfl) (fun _ _ _ h => h) (Or.inl ⟨by rfl, ?_⟩) hHeld ?_ ?_
        rotate_left
        · rintro w' ⟨s0, s1, s2, s3, s4, s5, s6, s7⟩
          go_simp
          with_reducible rfl
        rotate_left
        · simp only [Act.put, List.setIfInBounds_toArray, List.set_cons_zero, List.set_cons_succ, i64_w, i32_w]
          rfl
        refine take_ (i := 17) (N := some 59) (v := .slice (some ⟨g21, 0, none⟩) n c21) (a' := ?_) #[true, true, true, true, true, true, true, true, true, true, true, true, true, true, true, true, true, true, true, false, false, false] rfl rfl (by kernel_rfl) (fun _ _ _ h => h) (Or.inl ⟨by rfl, ?_⟩) hHeld ?_ ?_
        · rintro w' ⟨s0, s1, s2, s3, s4, s5, s6, s7⟩
          exact exk_open (k := (k : Int)) rfl rfl rfl s4 (by rw [HV.out]; rfl)
        rotate_left
        · simp only [Act.put, List.setIfInBounds_toArray, List.set_cons_zero, List.set_cons_succ, i64_w, i32_w]
          rfl
        refine one_ (i := 19) (N := some 61) #[true, true, true, true, true, true, true, true, true, true, true, true, true, true, true, true, true, true, true, true, false, false] rfl rfl (by kernel_rfl) (by decide) (fun K hK => ?_)
        obtain ⟨s0, s1, s2, s3, s4, s5, s6, s7⟩ := hHeld
        refine goes_ Try.func53 (by kernel_rfl) rfl #[.agg (cellVals c).toArray, .slice (some ⟨g21, 0, none⟩) n c21, .int .i64 0] (by rfl) rfl rfl (by simp only [List.map_toArray, List.map_cons, List.map_nil]; rfl) ?_
        with_reducible refine (HF.out _ s5).mono ?_
        rintro e w5 ⟨rfl, hn5⟩
        refine ⟨_, rfl, ?_⟩
        refine hK.out _ _ ⟨(hn5.cell s0 (fun h => h)), (hn5.cell s1 (fun h => h)), (hn5.cell s2 (fun h => h)), (range_nw s3 hn5), (s4.nw hn5), (range_nw s5 hn5), (s6.nw hn5), (s7.trans hn5)⟩ (fun hHeld => ?_)
        clear hK K
        refine norm_ (a' := ?_) ?_ ?_
        rotate_left
        · show Act.put _ (some 61) _ = _
          simp only [Act.put, List.setIfInBounds_toArray, List.set_cons_zero, List.set_cons_succ, i64_w, i32_w]
          rfl
        refine pure_ (i := 20) (N := some 62) (v := ?_) (a' := ?_) #[true, true, true, true, true, true, true, true, true, true, true, true, true, true, true, true, true, true, true, true, true, false] rfl rfl (by kernel_rfl) (fun _ _ _ h => h) (Or.inl ⟨by rfl, ?_⟩) ?_ ?_
        rotate_left
        · intro w'
          go_simp
          with_reducible rfl
        rotate_left
        · simp only [Act.put, List.setIfInBounds_toArray, List.set_cons_zero, List.set_cons_succ, i64_w, i32_w]
          rfl
        refine last_ (i := 21) (N := none) #[true, true, true, true, true, true, true, true, true, true, true, true, true, true, true, true, true, true, true, true, true, true] rfl rfl (by kernel_rfl) (by decide) (fun K hK => ?_)
        obtain ⟨s0, s1, s2, s3, s4, s5, s6, s7⟩ := hHeld
        refine skip_ (by rfl) rfl (exs_cell (b := bcq) (k := k * 65) (c := cf) rfl rfl HCF.out rfl (s6.there (k * 65) 65 HSZ.out)) ?_
        refine hK.out _ _ ?_
        clear hK K
        refine done_ (by kernel_rfl) ?_
        -- R9A>
        have hda5 := HDQ.out.same (w' := w5) (fun b hb => s7.block b (HDQ.out.foot_lt hb) (fun h => h))
        have hput := hda5.put HKB.out HCF.out HCB.out
        have hptn := put_turn (S := S1) hda5 HKB.out HCF.out (HSQ.out bcq (Or.inr (Or.inl rfl)))
        rw [HSTEP.out] at hput
        have ho5 := ownsRow_nw HO.out s7
        have ho6 := ownsRow_same (w' := w5.setCells bcq (k * 65) (cellVals cf)) ho5 (fun b hb => heap_setCells_ne s6 _ (by rw [cell65 HCF.out]; exact HSZ.out) (by
          obtain ⟨cs, hc⟩ := ownsRow_heap ho5 hb
          exact hc.ne s6 (by decide)))
        have HPUT := Lib.hid hput
        have HPT := Lib.hid ((HTR.out.trans (s7.turn S1)).trans hptn)
        have HO6 := Lib.hid ho6
        clear hput hptn ho5 ho6 s0 s1 s2 s3 s4 s5 s6 s7 hn5 hda5
        generalize w5.setCells bcq (k * 65) (cellVals cf) = w9 at *
        go_wp2
        rw [HWJ.out]
        refine ⟨⟨j + 1, by omega, by simp, HPUT.out, HPT.out, HO6.out⟩, ?_⟩
        simp [intOf]; omega
      · obtain ⟨kb, ko, rfl, hkr⟩ := HKR.out hke
        have hkp : 0 < keep.length := List.length_pos_iff.2 hke
        obtain ⟨jm, hjm⟩ : ∃ jm, jm = j % keep.length := ⟨_, rfl⟩
        have hjl : jm < keep.length := by rw [hjm]; exact Nat.mod_lt _ hkp
        obtain ⟨x, hx⟩ : ∃ x, x = keep.getD jm 0 := ⟨_, rfl⟩
        have hxk : keep[jm]? = some x := by rw [hx, List.getD_eq_getElem?_getD, List.getElem?_eq_getElem hjl]; rfl
        have hkx : keepAt keep j = x := by unfold keepAt; rw [if_neg hke, ← hjm, hx]
        have hx2 := HK64.out x (List.mem_of_getElem? hxk)
        have hx0 := hx2.1
        have hx1 := hx2.2
        have hxc : wr.cell? ⟨kb, ko + jm, none⟩ = some (.int .i64 x) := HTR.out.cell (hkr jm (.int .i64 x) (by simp [intVals, hxk])) (fun h => h)
        rw [hkx] at HSTEP
        obtain ⟨cf, hcf⟩ : ∃ cf, cf = found c l x := ⟨_, rfl⟩
        rw [← hcf] at HSTEP
        have HCF : Hid (SecOk cf.s) := Lib.hid (by rw [hcf]; exact Disk.found_ok x HC.out HFO.out.2.1)
        have HCB : Hid (cf.bad = true → cf.s = zeroSec) := Lib.hid (by rw [hcf]; exact Disk.found_bad x HFO.out.1)
        have HF : Hid (∀ W : World, W.rangeAt g21 0 (manyVals l) → Calls Try.prog 53 #[.agg (cellVals c).toArray, .slice (some ⟨g21, 0, none⟩) n c21, .int .i64 x] W fun e w' => e = .returned (.agg (cellVals cf).toArray) ∧ Nw W w') :=
          Lib.hid (fun W hW => by rw [hcf, HNL.out]; exact found_calls HC.out HFO.out.2.1 HFO.out.2.2 (by rw [← HNL.out]; exact hlen) hx0 hx1 hW)
        have hmod : (j : Int).tmod (keep.length : Int) = (jm : Int) := by rw [hjm, Int.tmod_eq_emod_of_nonneg (by omega)]; rfl
        have hjm0 : (0 : Int) ≤ (jm : Int) := Int.natCast_nonneg jm
        have hjm1 : (jm : Int) < (keep.length : Int) := by omega
        have hkl0 : (0 : Int) < (keep.length : Int) := by omega
        obtain ⟨kl, hkle⟩ : ∃ kl, kl = keep.length := ⟨_, rfl⟩
        rw [← hkle] at hmod hjm1 hkl0 hkl ⊢
        clear hke hkx hcf hkp HFO HK64 HKR hkr hjm hjl hx hxk hkle hx2
        go_wp2
        -- <R9B
        refine start_ (n := 22) (S := fun w' => w'.cell? ⟨q, 0, none⟩ = some (.slice (some ⟨bcq, 0, none⟩) m m) ∧ w'.cell? ⟨p, 0, none⟩ = some (.slice (some ⟨bc, 0, none⟩) m m) ∧ w'.cell? ⟨p, 1, none⟩ = some (.map (some bm)) ∧ w'.rangeAt bc (k * 65) (cellVals c) ∧ MapIs w' bm f ∧ w'.rangeAt g21 0 (manyVals l) ∧ Blk w' bcq R 100 ∧ Nw wr w') (ds := [21]) #[false, false, false, false, false, false, false, false, false, false, false, false, false, false, false, false, false, false, false, false, false, false] mixed rfl rfl ⟨q0, c0, c1, HRC.out, HMM.out, HRL.out, HBQ.out, (Nw.refl wr).drew⟩ (fun hHeld => ?_)
        refine pure_ (i := 0) (N := some 42) (v := ?_) (a' := ?_) #[true, false, false, false, false, false, false, false, false, false, false, false, false, false, false, false, false, false, false, false, false, false] rfl rfl (by kernel_rfl) (fun _ _ _ h => h) (Or.inl ⟨by rfl, ?_⟩) ?_ ?_
        rotate_left
        · intro w'
          go_simp
          with_reducible rfl
        rotate_left
        · simp only [Act.put, List.setIfInBounds_toArray, List.set_cons_zero, List.set_cons_succ, i64_w, i32_w]
          rfl
        refine pure_ (i := 1) (N := some 43) (v := ?_) (a' := ?_) #[true, true, false, false, false, false, false, false, false, false, false, false, false, false, false, false, false, false, false, false, false, false] rfl rfl (by kernel_rfl) (fun _ _ _ h => h) (Or.inl ⟨by rfl, ?_⟩) ?_ ?_
        rotate_left
        · intro w'
          go_simp
          with_reducible rfl
        rotate_left
        · simp only [Act.put, List.setIfInBounds_toArray, List.set_cons_zero, List.set_cons_succ, i64_w, i32_w]
          rfl
        refine pure_ (i := 2) (N := some 44) (v := ?_) (a' := ?_) #[true, true, true, false, false, false, false, false, false, false, false, false, false, false, false, false, false, false, false, false, false, false] rfl rfl (by kernel_rfl) (fun _ _ _ h => h) (Or.inl ⟨by rfl, ?_⟩) ?_ ?_
        rotate_left
        · intro w'
          go_simp
          with_reducible rfl
        rotate_left
        · simp only [Act.put, List.setIfInBounds_toArray, List.set_cons_zero, List.set_cons_succ, i64_w, i32_w]
          rfl
        refine pure_ (i := 4) (N := some 46) (v := ?_) (a' := ?_) #[true, true, true, false, true, false, false, false, false, false, false, false, false, false, false, false, false, false, false, false, false, false] rfl rfl (by kernel_rfl) (fun _ _ _ h => h) (Or.inl ⟨by rfl, ?_⟩) ?_ ?_
        rotate_left
        · intro w'
          go_simp
          with_reducible rfl
        rotate_left
        · simp only [Act.put, List.setIfInBounds_toArray, List.set_cons_zero, List.set_cons_succ, i64_w, i32_w]
          rfl
        refine pure_ (i := 5) (N := some 47) (v := ?_) (a' := ?_) #[true, true, true, false, true, true, false, false, false, false, false, false, false, false, false, false, false, false, false, false, false, false] rfl rfl (by kernel_rfl) (fun _ _ _ h => h) (Or.inl ⟨by rfl, ?_⟩) ?_ ?_
        rotate_left
        · intro w'
          go_simp
          with_reducible rfl
        rotate_left
        · simp only [Act.put, List.setIfInBounds_toArray, List.set_cons_zero, List.set_cons_succ, i64_w, i32_w]
          rfl
        refine pure_ (i := 6) (N := some 48) (v := ?_) (a' := ?_) #[true, true, true, false, true, true, true, false, false, false, false, false, false, false, false, false, false, false, false, false, false, false] rfl rfl (by kernel_rfl) (fun _ _ _ h => h) (Or.inl ⟨by rfl, ?_⟩) ?_ ?_
        rotate_left
        · intro w'
          go_simp
          with_reducible rfl
        rotate_left
        · simp only [Act.put, List.setIfInBounds_toArray, List.set_cons_zero, List.set_cons_succ, i64_w, i32_w]
          rfl
        refine pure_ (i := 7) (N := some 49) (v := ?_) (a' := ?_) #[true, true, true, false, true, true, true, true, false, false, false, false, false, false, false, false, false, false, false, false, false, false] rfl rfl (by kernel_rfl) (fun _ _ _ h => h) (Or.inl ⟨by rfl, ?_⟩) ?_ ?_
        rotate_left
        · intro w'
          go_simp
          with_reducible rfl
        rotate_left
        · simp only [Act.put, List.setIfInBounds_toArray, List.set_cons_zero, List.set_cons_succ, i64_w, i32_w]
          rfl
        refine pure_ (i := 9) (N := some 51) (v := ?_) (a' := ?_) #[true, true, true, false, true, true, true, true, false, true, false, false, false, false, false, false, false, false, false, false, false, false] rfl rfl (by kernel_rfl) (fun _ _ _ h => h) (Or.inl ⟨by rfl, ?_⟩) ?_ ?_
        rotate_left
        · intro w'
          go_simp
          with_reducible rfl
        rotate_left
        · simp only [Act.put, List.setIfInBounds_toArray, List.set_cons_zero, List.set_cons_succ, i64_w, i32_w]
          rfl
        refine pure_ (i := 12) (N := some 54) (v := ?_) (a' := ?_) #[true, true, true, false, true, true, true, true, false, true, false, false, true, false, false, false, false, false, false, false, false, false] rfl rfl (by kernel_rfl) (fun _ _ _ h => h) (Or.inl ⟨by rfl, ?_⟩) ?_ ?_
        rotate_left
        · intro w'
          go_simp
          with_reducible rfl
        rotate_left
        · simp only [Act.put, List.setIfInBounds_toArray, List.set_cons_zero, List.set_cons_succ, i64_w, i32_w]
          rfl
        refine pure_ (i := 13) (N := some 55) (v := ?_) (a' := ?_) #[true, true, true, false, true, true, true, true, false, true, false, false, true, true, false, false, false, false, false, false, false, false] rfl rfl (by kernel_rfl) (fun _ _ _ h => h) (Or.inl ⟨by rfl, ?_⟩) ?_ ?_
        rotate_left
        · intro w'
          go_simp
          with_reducible rfl
        rotate_left
        · simp only [Act.put, List.setIfInBounds_toArray, List.set_cons_zero, List.set_cons_succ, i64_w, i32_w]
          rfl
        refine pure_ (i := 14) (N := some 56) (v := ?_) (a' := ?_) #[true, true, true, false, true, true, true, true, false, true, false, false, true, true, true, false, false, false, false, false, false, false] rfl rfl (by kernel_rfl) (fun _ _ _ h => h) (Or.inl ⟨by rfl, ?_⟩) ?_ ?_
        rotate_left
        · intro w'
          go_simp
          with_reducible rfl
        rotate_left
        · simp only [Act.put, List.setIfInBounds_toArray, List.set_cons_zero, List.set_cons_succ, i64_w, i32_w]
          rfl
        refine pure_ (i := 16) (N := some 58) (v := ?_) (a' := ?_) #[true, true, true, false, true, true, true, true, false, true, false, false, true, true, true, false, true, false, false, false, false, false] rfl rfl (by kernel_rfl) (fun _ _ _ h => h) (Or.inl ⟨by rfl, ?_⟩) ?_ ?_
        rotate_left
        · intro w'
          go_simp
          with_reducible rfl
        rotate_left
        · simp only [Act.put, List.setIfInBounds_toArray, List.set_cons_zero, List.set_cons_succ, i64_w, i32_w]
          rfl
        refine pure_ (i := 18) (N := some 60) (v := ?_) (a' := ?_) #[true, true, true, false, true, true, true, true, false, true, false, false, true, true, true, false, true, false, true, false, false, false] rfl rfl (by kernel_rfl) (fun _ _ _ h => h) (Or.inl ⟨by rfl, ?_⟩) ?_ ?_
        rotate_left
        · intro w'
          go_simp
          with_reducible rfl
        rotate_left
        · simp only [Act.put, List.setIfInBounds_toArray, List.set_cons_zero, List.set_cons_succ, i64_w, i32_w]
          rfl
        refine take_ (i := 3) (N := some 45) (v := ?_) (a' := ?_) #[true, true, true, true, true, true, true, true, false, true, false, false, true, true, true, false, true, false, true, false, false, false] rfl rfl (by kernel_rfl) (fun _ _ _ h => h) (Or.inl ⟨by rfl, ?_⟩) hHeld ?_ ?_
        rotate_left
        · rintro w' ⟨s0, s1, s2, s3, s4, s5, s6, s7⟩
          go_simp
          with_reducible rfl
        rotate_left
        · simp only [Act.put, List.setIfInBounds_toArray, List.set_cons_zero, List.set_cons_succ, i64_w, i32_w]
          rfl
        refine take_ (i := 8) (N := some 50) (v := ?_) (a' := ?_) #[true, true, true, true, true, true, true, true, true, true, false, false, true, true, true, false, true, false, true, false, false, false] rfl rfl (by kernel_rfl) (fun _ _ _ h => h) (Or.inl ⟨by rfl, ?_⟩) hHeld ?_ ?_
        rotate_left
        · rintro w' ⟨s0, s1, s2, s3, s4, s5, s6, s7⟩
          go_simp
          with_reducible rfl
        rotate_left
        · simp only [Act.put, List.setIfInBounds_toArray, List.set_cons_zero, List.set_cons_succ, i64_w, i32_w]
          rfl
        refine pure_ (i := 10) (N := some 52) (v := ?_) (a' := ?_) #[true, true, true, true, true, true, true, true, true, true, true, false, true, true, true, false, true, false, true, false, false, false] rfl rfl (by kernel_rfl) (fun _ _ _ h => h) (Or.inl ⟨by rfl, ?_⟩) ?_ ?_
        rotate_left
        · intro w'
          go_simp
          with_reducible rfl
        rotate_left
        · simp only [Act.put, List.setIfInBounds_toArray, List.set_cons_zero, List.set_cons_succ, i64_w, i32_w]
          rfl
        refine take_ (i := 11) (N := some 53) (v := .agg (cellVals c).toArray) (a' := ?_) #[true, true, true, true, true, true, true, true, true, true, true, true, true, true, true, false, true, false, true, false, false, false] rfl rfl (by kernel_rfl) (fun _ _ _ h => h) (Or.inl ⟨by rfl, ?_⟩) hHeld ?_ ?_
        · rintro w' ⟨s0, s1, s2, s3, s4, s5, s6, s7⟩
          exact exl_cell (c := c) rfl rfl HC.out s3
        rotate_left
        · simp only [Act.put, List.setIfInBounds_toArray, List.set_cons_zero, List.set_cons_succ, i64_w, i32_w]
          rfl
        refine take_ (i := 15) (N := some 57) (v := ?_) (a' := ?_) #[true, true, true, true, true, true, true, true, true, true, true, true, true, true, true, true, true, false, true, false, false, false] rfl rfl (by kernel_rfl) (fun _ _ _ h => h) (Or.inl ⟨by rfl, ?_⟩) hHeld ?_ ?_
        rotate_left
        · rintro w' ⟨s0, s1, s2, s3, s4, s5, s6, s7⟩
          go_simp
          with_reducible rfl
        rotate_left
        · simp only [Act.put, List.setIfInBounds_toArray, List.set_cons_zero, List.set_cons_succ, i64_w, i32_w]
          rfl
        refine take_ (i := 17) (N := some 59) (v := .slice (some ⟨g21, 0, none⟩) n c21) (a' := ?_) #[true, true, true, true, true, true, true, true, true, true, true, true, true, true, true, true, true, true, true, false, false, false] rfl rfl (by kernel_rfl) (fun _ _ _ h => h) (Or.inl ⟨by rfl, ?_⟩) hHeld ?_ ?_
        · rintro w' ⟨s0, s1, s2, s3, s4, s5, s6, s7⟩
          exact exk_open (k := (k : Int)) rfl rfl rfl s4 (by rw [HV.out]; rfl)
        rotate_left
        · simp only [Act.put, List.setIfInBounds_toArray, List.set_cons_zero, List.set_cons_succ, i64_w, i32_w]
          rfl
        refine one_ (i := 19) (N := some 61) #[true, true, true, true, true, true, true, true, true, true, true, true, true, true, true, true, true, true, true, true, false, false] rfl rfl (by kernel_rfl) (by decide) (fun K hK => ?_)
        obtain ⟨s0, s1, s2, s3, s4, s5, s6, s7⟩ := hHeld
        refine goes_ Try.func53 (by kernel_rfl) rfl #[.agg (cellVals c).toArray, .slice (some ⟨g21, 0, none⟩) n c21, .int .i64 x] (by rfl) rfl rfl (by simp only [List.map_toArray, List.map_cons, List.map_nil]; rfl) ?_
        with_reducible refine (HF.out _ s5).mono ?_
        rintro e w5 ⟨rfl, hn5⟩
        refine ⟨_, rfl, ?_⟩
        refine hK.out _ _ ⟨(hn5.cell s0 (fun h => h)), (hn5.cell s1 (fun h => h)), (hn5.cell s2 (fun h => h)), (range_nw s3 hn5), (s4.nw hn5), (range_nw s5 hn5), (s6.nw hn5), (s7.trans hn5)⟩ (fun hHeld => ?_)
        clear hK K
        refine norm_ (a' := ?_) ?_ ?_
        rotate_left
        · show Act.put _ (some 61) _ = _
          simp only [Act.put, List.setIfInBounds_toArray, List.set_cons_zero, List.set_cons_succ, i64_w, i32_w]
          rfl
        refine pure_ (i := 20) (N := some 62) (v := ?_) (a' := ?_) #[true, true, true, true, true, true, true, true, true, true, true, true, true, true, true, true, true, true, true, true, true, false] rfl rfl (by kernel_rfl) (fun _ _ _ h => h) (Or.inl ⟨by rfl, ?_⟩) ?_ ?_
        rotate_left
        · intro w'
          go_simp
          with_reducible rfl
        rotate_left
        · simp only [Act.put, List.setIfInBounds_toArray, List.set_cons_zero, List.set_cons_succ, i64_w, i32_w]
          rfl
        refine last_ (i := 21) (N := none) #[true, true, true, true, true, true, true, true, true, true, true, true, true, true, true, true, true, true, true, true, true, true] rfl rfl (by kernel_rfl) (by decide) (fun K hK => ?_)
        obtain ⟨s0, s1, s2, s3, s4, s5, s6, s7⟩ := hHeld
        refine skip_ (by rfl) rfl (exs_cell (b := bcq) (k := k * 65) (c := cf) rfl rfl HCF.out rfl (s6.there (k * 65) 65 HSZ.out)) ?_
        refine hK.out _ _ ?_
        clear hK K
        refine done_ (by kernel_rfl) ?_
        -- R9B>
        have hda5 := HDQ.out.same (w' := w5) (fun b hb => s7.block b (HDQ.out.foot_lt hb) (fun h => h))
        have hput := hda5.put HKB.out HCF.out HCB.out
        have hptn := put_turn (S := S1) hda5 HKB.out HCF.out (HSQ.out bcq (Or.inr (Or.inl rfl)))
        rw [HSTEP.out] at hput
        have ho5 := ownsRow_nw HO.out s7
        have ho6 := ownsRow_same (w' := w5.setCells bcq (k * 65) (cellVals cf)) ho5 (fun b hb => heap_setCells_ne s6 _ (by rw [cell65 HCF.out]; exact HSZ.out) (by
          obtain ⟨cs, hc⟩ := ownsRow_heap ho5 hb
          exact hc.ne s6 (by decide)))
        have HPUT := Lib.hid hput
        have HPT := Lib.hid ((HTR.out.trans (s7.turn S1)).trans hptn)
        have HO6 := Lib.hid ho6
        clear hput hptn ho5 ho6 s0 s1 s2 s3 s4 s5 s6 s7 hn5 hda5
        generalize w5.setCells bcq (k * 65) (cellVals cf) = w9 at *
        go_wp2
        rw [HWJ.out]
        refine ⟨⟨j + 1, by omega, by simp, HPUT.out, HPT.out, HO6.out⟩, ?_⟩
        simp [intOf]; omega
    · have hjn' : j = nb := by omega
      subst hjn'
      go_wp2
      go_ret
      have := HDQ.out
      rw [HNB.out, crashPart_all] at this
      exact ⟨q, S1, rfl, ⟨bcq, bmq, fq, this, HSQ.out⟩, HTR.out⟩
end
end Go.Proofs.Ytcaalfpfkalalaa
