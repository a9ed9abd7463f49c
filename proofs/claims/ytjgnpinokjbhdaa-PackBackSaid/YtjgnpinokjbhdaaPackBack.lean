/- What was packed comes back, by the program and by the reference: the law answers true and leaves its arguments alone. No condition beyond the row's own. -/
import Derived.Test.YtjgnpinokjbhdaaF
import Derived.Test.YtjgnpinokjbhdaaG
import Derived.Laws.BytesString
import Derived.Laws.Rows
namespace Go.Proofs.Ytjgnpinokjbhdaa.lawPackBack
open Go.ChangeShapes Go.WideShapes Go.ChangeAt Go.RowKit
set_option linter.unusedVariables false
set_option linter.unusedSimpArgs false

theorem le4_by4 {v : Int} (h : U32 v) : le4 (v % 256) (v / 256 % 256) (v / 65536 % 256) (v / 16777216) = v := by
  unfold U32 at h
  unfold le4
  omega
theorem le2_by2 {v : Int} (h : U16 v) : le2 (v % 256) (v / 256) = v := by
  unfold U16 at h
  unfold le2
  omega
theorem lo8 (v : Int) : U8 (v % 256) := by unfold U8; omega
theorem hi32 {v : Int} (h : U32 v) : U8 (v / 16777216) := by unfold U32 at h; unfold U8; omega
theorem hi16 {v : Int} (h : U16 v) : U8 (v / 256) := by unfold U16 at h; unfold U8; omega
theorem eqR (x0 x1 x2 x3 x4 x5 x6 x7 x8 x9 x10 x11 x12 x13 x14 x15 : Int) (w : World) : (binOp .eql 27 (.agg #[.int .u8 x0, .int .u8 x1, .int .u8 x2, .int .u8 x3, .int .u8 x4, .int .u8 x5, .int .u8 x6, .int .u8 x7, .int .u8 x8, .int .u8 x9, .int .u8 x10, .int .u8 x11, .int .u8 x12, .int .u8 x13, .int .u8 x14, .int .u8 x15]) (.agg #[.int .u8 x0, .int .u8 x1, .int .u8 x2, .int .u8 x3, .int .u8 x4, .int .u8 x5, .int .u8 x6, .int .u8 x7, .int .u8 x8, .int .u8 x9, .int .u8 x10, .int .u8 x11, .int .u8 x12, .int .u8 x13, .int .u8 x14, .int .u8 x15])).run Try.prog w = .ok (.bool true) w := by
  have h := run_eqlI (P := Try.prog) w 27 5 16 .u8 Try.underlying27 Try.underlying5 sz5 [x0, x1, x2, x3, x4, x5, x6, x7, x8, x9, x10, x11, x12, x13, x14, x15] [x0, x1, x2, x3, x4, x5, x6, x7, x8, x9, x10, x11, x12, x13, x14, x15] rfl rfl
  simpa using h
/-- The string of a row of bytes. -/
def strI (l : List Int) : ByteArray := l.foldl (fun r n => r.push (UInt8.ofNat n.toNat)) ByteArray.empty
theorem conv_row (w : World) (g n cap : Nat) (l : List Int) (hl : l.length = n) (hc : ∀ j, j < n → w.cell? ⟨g, j, none⟩ = (l.map (Value.int .u8))[j]?) :
    (convert 29 9 (.slice (some ⟨g, 0, none⟩) n cap)).run Try.prog w = .ok (.string (strI l)) w := by
  rw [run_convert_bytes_string w 29 9 5 _ _ _ Try.underlying29 Try.underlying5 Try.underlying9]
  have h1 := run_loadCells_list (P := Try.prog) w ⟨g, 0, none⟩ (l.map (Value.int .u8)) (fun j v hj => by
    have hadd : (⟨g, 0, none⟩ : Addr).add j = ⟨g, j, none⟩ := by unfold Addr.add; split <;> simp_all
    have hlt := (List.getElem?_eq_some_iff.1 hj).1
    rw [List.length_map] at hlt
    rw [hadd, hc j (by omega), hj])
  rw [List.length_map, hl] at h1
  exact run_bytesToString w _ n cap l h1

set_option maxHeartbeats 1000000 in
theorem walk (ctg : Bool) (cb ct ca cp cy : Int) (tg : Bool) (w : World) (hcb : U32 cb) (hct : U32 ct) (hca : U32 ca) (hcp : U16 cp) (hcy : U16 cy) :
    Calls Try.prog 3 #[.agg #[.bool ctg, .int .u32 cb, .int .u32 ct, .int .u32 ca, .int .u16 cp, .int .u16 cy], .bool tg] w fun e w' => e = .returned (.bool true) ∧ Below w.heap.size w w' := by
  have ER := eqR (cb % 256) (cb / 256 % 256) (cb / 65536 % 256) (cb / 16777216) (ct % 256) (ct / 256 % 256) (ct / 65536 % 256) (ct / 16777216) (ca % 256) (ca / 256 % 256) (ca / 65536 % 256) (ca / 16777216) (cp % 256) (cp / 256) (cy % 256) (cy / 256)
  have pk : ∀ (s : Bool) (W : World), Calls Try.prog 7 #[.agg #[.bool s, .int .u32 cb, .int .u32 ct, .int .u32 ca, .int .u16 cp, .int .u16 cy]] W fun e w' => e = .returned (.agg #[.int .u8 (cb % 256), .int .u8 (cb / 256 % 256), .int .u8 (cb / 65536 % 256), .int .u8 (cb / 16777216), .int .u8 (ct % 256), .int .u8 (ct / 256 % 256), .int .u8 (ct / 65536 % 256), .int .u8 (ct / 16777216), .int .u8 (ca % 256), .int .u8 (ca / 256 % 256), .int .u8 (ca / 65536 % 256), .int .u8 (ca / 16777216), .int .u8 (cp % 256), .int .u8 (cp / 256), .int .u8 (cy % 256), .int .u8 (cy / 256)]) ∧ Below W.heap.size W w' :=
    fun s W => put_c s cb ct ca cp cy W hcb hct hca hcp hcy
  have gk := fun W => get_c tg (cb % 256) (cb / 256 % 256) (cb / 65536 % 256) (cb / 16777216) (ct % 256) (ct / 256 % 256) (ct / 65536 % 256) (ct / 16777216) (ca % 256) (ca / 256 % 256) (ca / 65536 % 256) (ca / 16777216) (cp % 256) (cp / 256) (cy % 256) (cy / 256) W (lo8 _) (lo8 _) (lo8 _) (hi32 hcb) (lo8 _) (lo8 _) (lo8 _) (hi32 hct) (lo8 _) (lo8 _) (lo8 _) (hi32 hca) (lo8 _) (hi16 hcp) (lo8 _) (hi16 hcy)
  rw [le4_by4 hcb, le4_by4 hct, le4_by4 hca, le2_by2 hcp, le2_by2 hcy] at gk
  have cv : ∀ (W : World) (g : Nat), Blk W g #[.int .u8 (cb % 256), .int .u8 (cb / 256 % 256), .int .u8 (cb / 65536 % 256), .int .u8 (cb / 16777216), .int .u8 (ct % 256), .int .u8 (ct / 256 % 256), .int .u8 (ct / 65536 % 256), .int .u8 (ct / 16777216), .int .u8 (ca % 256), .int .u8 (ca / 256 % 256), .int .u8 (ca / 65536 % 256), .int .u8 (ca / 16777216), .int .u8 (cp % 256), .int .u8 (cp / 256), .int .u8 (cy % 256), .int .u8 (cy / 256)] 27 → (convert 29 9 (.slice (some ⟨g, 0, none⟩) 16 16)).run Try.prog W = .ok (.string (strI (capI cb ct ca cp cy))) W := fun W g h => conv_row W g 16 16 _ rfl (fun j _ => (h.cell j).trans (by
    show (((capI cb ct ca cp cy).map (Value.int .u8)).toArray)[j]? = _
    simp))
  go_enter Try.func3, Try.ntmps3
  go_wp2_with fail
  ((with_reducible refine (known_c _).mono ?_); rintro e w1 ⟨rfl, hb1⟩)
  have d1 := bt (ba (b0 w) (.cells (#[.bool ctg, .int .u32 cb, .int .u32 ct, .int .u32 ca, .int .u16 cp, .int .u16 cy] : Array Value) 25)) hb1
  have X0 := (Blk.new w (#[.bool ctg, .int .u32 cb, .int .u32 ct, .int .u32 ca, .int .u16 cp, .int .u16 cy] : Array Value) 25 _ rfl).later hb1
  have C0 := X0.cell
  have L0 := X0.lt
  go_wp2_with fail
  ((with_reducible refine (pk _ _).mono ?_); rintro e w2 ⟨rfl, hb2⟩)
  have d2 := bt d1 hb2
  have X1 := X0.later hb2
  clear C0 L0
  have C0 := X1.cell
  have L0 := X1.lt
  go_upto_region 6 with (fail)
  obtain ⟨w3, hw3⟩ : ∃ w3, w3 = (w2.alloc (.cells #[.int .u8 (cb % 256), .int .u8 (cb / 256 % 256), .int .u8 (cb / 65536 % 256), .int .u8 (cb / 16777216), .int .u8 (ct % 256), .int .u8 (ct / 256 % 256), .int .u8 (ct / 65536 % 256), .int .u8 (ct / 16777216), .int .u8 (ca % 256), .int .u8 (ca / 256 % 256), .int .u8 (ca / 65536 % 256), .int .u8 (ca / 16777216), .int .u8 (cp % 256), .int .u8 (cp / 256), .int .u8 (cy % 256), .int .u8 (cy / 256)] 27)).alloc (.cells #[.bool tg, .int .u32 cb, .int .u32 ct, .int .u32 ca, .int .u16 cp, .int .u16 cy] 25) := ⟨_, rfl⟩
  have A0 : Blk w3.drew w.heap.size #[.bool ctg, .int .u32 cb, .int .u32 ct, .int .u32 ca, .int .u16 cp, .int .u16 cy] 25 := by rw [hw3]; exact (X1.alloc _).alloc _
  have A5 : Blk w3.drew w2.heap.size #[.int .u8 (cb % 256), .int .u8 (cb / 256 % 256), .int .u8 (cb / 65536 % 256), .int .u8 (cb / 16777216), .int .u8 (ct % 256), .int .u8 (ct / 256 % 256), .int .u8 (ct / 65536 % 256), .int .u8 (ct / 16777216), .int .u8 (ca % 256), .int .u8 (ca / 256 % 256), .int .u8 (ca / 65536 % 256), .int .u8 (ca / 16777216), .int .u8 (cp % 256), .int .u8 (cp / 256), .int .u8 (cy % 256), .int .u8 (cy / 256)] 27 := by rw [hw3]; exact (Blk.new _ _ _ _ rfl).alloc _
  have A6 : Blk w3.drew (w2.heap.size + 1) #[.bool tg, .int .u32 cb, .int .u32 ct, .int .u32 ca, .int .u16 cp, .int .u16 cy] 25 := by rw [hw3]; exact Blk.new _ _ _ _ (by simp)
  have d3 : Below w.heap.size w w3.drew := by rw [hw3]; exact (ba (ba d2 _) _).drew
  rw [← hw3]
  clear hw3 X0 X1 C0 L0 d1 d2 hb1 hb2
  have hu27 := Try.underlying27
  have hi27 : (Try.prog.info? 27).map (·.size) = some ([.int .u8 (cb % 256), .int .u8 (cb / 256 % 256), .int .u8 (cb / 65536 % 256), .int .u8 (cb / 16777216), .int .u8 (ct % 256), .int .u8 (ct / 256 % 256), .int .u8 (ct / 65536 % 256), .int .u8 (ct / 16777216), .int .u8 (ca % 256), .int .u8 (ca / 256 % 256), .int .u8 (ca / 65536 % 256), .int .u8 (ca / 16777216), .int .u8 (cp % 256), .int .u8 (cp / 256), .int .u8 (cy % 256), .int .u8 (cy / 256)] : List Value).length := by
    have h : (Try.prog.info? 27).map (·.size) = some 16 := by kernel_rfl
    exact h
  have rng : ∀ W, Blk W w2.heap.size #[.int .u8 (cb % 256), .int .u8 (cb / 256 % 256), .int .u8 (cb / 65536 % 256), .int .u8 (cb / 16777216), .int .u8 (ct % 256), .int .u8 (ct / 256 % 256), .int .u8 (ct / 65536 % 256), .int .u8 (ct / 16777216), .int .u8 (ca % 256), .int .u8 (ca / 256 % 256), .int .u8 (ca / 65536 % 256), .int .u8 (ca / 16777216), .int .u8 (cp % 256), .int .u8 (cp / 256), .int .u8 (cy % 256), .int .u8 (cy / 256)] 27 → W.rangeAt w2.heap.size 0 [.int .u8 (cb % 256), .int .u8 (cb / 256 % 256), .int .u8 (cb / 65536 % 256), .int .u8 (cb / 16777216), .int .u8 (ct % 256), .int .u8 (ct / 256 % 256), .int .u8 (ct / 65536 % 256), .int .u8 (ct / 16777216), .int .u8 (ca % 256), .int .u8 (ca / 256 % 256), .int .u8 (ca / 65536 % 256), .int .u8 (ca / 16777216), .int .u8 (cp % 256), .int .u8 (cp / 256), .int .u8 (cy % 256), .int .u8 (cy / 256)] := fun W h j v hv => (h.cell (0 + j)).trans (by rw [Nat.zero_add]; simpa using hv)
  refine wp_region_held_drew (S := fun W => Blk W w.heap.size #[.bool ctg, .int .u32 cb, .int .u32 ct, .int .u32 ca, .int .u16 cp, .int .u16 cy] 25 ∧ Blk W w2.heap.size #[.int .u8 (cb % 256), .int .u8 (cb / 256 % 256), .int .u8 (cb / 65536 % 256), .int .u8 (cb / 16777216), .int .u8 (ct % 256), .int .u8 (ct / 256 % 256), .int .u8 (ct / 65536 % 256), .int .u8 (ct / 16777216), .int .u8 (ca % 256), .int .u8 (ca / 256 % 256), .int .u8 (ca / 65536 % 256), .int .u8 (ca / 16777216), .int .u8 (cp % 256), .int .u8 (cp / 256), .int .u8 (cy % 256), .int .u8 (cy / 256)] 27 ∧ Blk W (w2.heap.size + 1) #[.bool tg, .int .u32 cb, .int .u32 ct, .int .u32 ca, .int .u16 cp, .int .u16 cy] 25) (by kernel_rfl) ⟨A0, A5, A6⟩ (fun hHeld => ?_)
  refine wpAnyH_take (i := 0) (oi := _) (v := ?_) rfl (by kernel_rfl) (by kernel_rfl) (by kernel_rfl) (fun _ _ _ h => h) (Or.inl ⟨by rfl, ?_⟩) (by assumption) ?_
  rotate_left
  · intro w' hSw
    have q0 := hSw.1.cell
    have q1 := hSw.2.1.cell
    have q2 := hSw.2.2.cell
    have q3 := cv w' _ hSw.2.1
    go_simp
    try with_reducible rfl
  simp only [Act.put, List.setIfInBounds_toArray, List.set_cons_zero, List.set_cons_succ, List.getElem_toArray, List.getElem_cons_succ, List.getElem_cons_zero]
  refine wpAnyH_take (i := 1) (oi := _) (v := ?_) rfl (by kernel_rfl) (by kernel_rfl) (by kernel_rfl) (fun _ _ _ h => h) (Or.inl ⟨by rfl, ?_⟩) (by assumption) ?_
  rotate_left
  · intro w' hSw
    have q0 := hSw.1.cell
    have q1 := hSw.2.1.cell
    have q2 := hSw.2.2.cell
    have q3 := cv w' _ hSw.2.1
    go_simp
    try with_reducible rfl
  simp only [Act.put, List.setIfInBounds_toArray, List.set_cons_zero, List.set_cons_succ, List.getElem_toArray, List.getElem_cons_succ, List.getElem_cons_zero]
  refine wpAnyH_take (i := 2) (oi := _) (v := ?_) rfl (by kernel_rfl) (by kernel_rfl) (by kernel_rfl) (fun _ _ _ h => h) (Or.inl ⟨by rfl, ?_⟩) (by assumption) ?_
  rotate_left
  · intro w' hSw
    have q0 := hSw.1.cell
    have q1 := hSw.2.1.cell
    have q2 := hSw.2.2.cell
    have q3 := cv w' _ hSw.2.1
    go_simp
    try with_reducible rfl
  simp only [Act.put, List.setIfInBounds_toArray, List.set_cons_zero, List.set_cons_succ, List.getElem_toArray, List.getElem_cons_succ, List.getElem_cons_zero]
  refine wpAnyH_ready (rs := [3]) (by kernel_rfl) (by simp) ?_
  refine AllReadyH.cons (o := _) rfl (fun K hK => ?_) AllReadyH.nil
  go_simp
  go_at_call 9
  (with_reducible refine (of_c _ _ _ _ _ _ _).mono ?_)
  rintro e wA ⟨rfl, hbA⟩
  go_simp
  refine hK.out _ _ ⟨A0.later hbA, A5.later hbA, A6.later hbA⟩ (fun hHeld => ?_)
  clear hK K
  have A0A := A0.later hbA
  have A5A := A5.later hbA
  have A6A := A6.later hbA
  try simp only [Act.put, List.setIfInBounds_toArray, List.set_cons_zero, List.set_cons_succ, List.getElem_toArray, List.getElem_cons_succ, List.getElem_cons_zero]
  refine wpAnyH_ready (rs := [4]) (by kernel_rfl) (by simp) ?_
  refine AllReadyH.cons (o := _) rfl (fun K hK => ?_) AllReadyH.nil
  go_simp
  go_at_call 8
  (with_reducible refine (rput_c _ _ _ _ _ _ _ (by assumption) (by assumption) (by assumption) (by assumption) (by assumption)).mono ?_)
  rintro e wB ⟨gB, capB, rfl, ownB, hbB⟩
  go_simp
  refine hK.out _ _ ⟨A0A.later hbB, A5A.later hbB, A6A.later hbB⟩ (fun hHeld => ?_)
  clear hK K
  have A0B := A0A.later hbB
  have A5B := A5A.later hbB
  have A6B := A6A.later hbB
  have cvB := conv_row wB gB 16 capB (capI cb ct ca cp cy) rfl (fun j hj => ownB.cellAt j (by omega))
  try simp only [Act.put, List.setIfInBounds_toArray, List.set_cons_zero, List.set_cons_succ, List.getElem_toArray, List.getElem_cons_succ, List.getElem_cons_zero]
  refine wpAnyH_ready (rs := [5]) (by kernel_rfl) (by simp) ?_
  refine AllReadyH.cons (o := _) rfl (fun K hK => ?_) AllReadyH.nil
  go_simp
  refine hK.out _ _ (by assumption) (fun hHeld => ?_)
  clear hK K
  try simp only [Act.put, List.setIfInBounds_toArray, List.set_cons_zero, List.set_cons_succ, List.getElem_toArray, List.getElem_cons_succ, List.getElem_cons_zero]
  refine wpAnyH_take (i := 6) (oi := _) (v := ?_) rfl (by kernel_rfl) (by kernel_rfl) (by kernel_rfl) (fun _ _ _ h => h) (Or.inl ⟨by rfl, ?_⟩) (by assumption) ?_
  rotate_left
  · intro w' hSw
    have q0 := hSw.1.cell
    have q1 := hSw.2.1.cell
    have q2 := hSw.2.2.cell
    have q3 := cv w' _ hSw.2.1
    go_simp
    try with_reducible rfl
  simp only [Act.put, List.setIfInBounds_toArray, List.set_cons_zero, List.set_cons_succ, List.getElem_toArray, List.getElem_cons_succ, List.getElem_cons_zero]
  refine wpAnyH_take (i := 7) (oi := _) (v := ?_) rfl (by kernel_rfl) (by kernel_rfl) (by kernel_rfl) (fun _ _ _ h => h) (Or.inl ⟨by rfl, ?_⟩) (by assumption) ?_
  rotate_left
  · intro w' hSw
    have q0 := hSw.1.cell
    have q1 := hSw.2.1.cell
    have q2 := hSw.2.2.cell
    have q3 := cv w' _ hSw.2.1
    go_simp
    try with_reducible rfl
  simp only [Act.put, List.setIfInBounds_toArray, List.set_cons_zero, List.set_cons_succ, List.getElem_toArray, List.getElem_cons_succ, List.getElem_cons_zero]
  refine wpAnyH_take (i := 8) (oi := _) (v := ?_) rfl (by kernel_rfl) (by kernel_rfl) (by kernel_rfl) (fun _ _ _ h => h) (Or.inl ⟨by rfl, ?_⟩) (by assumption) ?_
  rotate_left
  · intro w' hSw
    have q0 := hSw.1.cell
    have q1 := hSw.2.1.cell
    have q2 := hSw.2.2.cell
    have q3 := cv w' _ hSw.2.1
    go_simp
    try with_reducible rfl
  simp only [Act.put, List.setIfInBounds_toArray, List.set_cons_zero, List.set_cons_succ, List.getElem_toArray, List.getElem_cons_succ, List.getElem_cons_zero]
  refine' wpAnyH_take (i := 10) (oi := _) (v := _) rfl (by kernel_rfl) (by kernel_rfl) (by kernel_rfl) (fun _ _ _ h => h) (yieldsIf_load_mid (by rfl) _ _ rfl _ _ rfl _ _ (fun W hSw => rng W hSw.2.1) hu27 rfl hi27) (by assumption) _
  simp only [Act.put, List.setIfInBounds_toArray, List.set_cons_zero, List.set_cons_succ, List.getElem_toArray, List.getElem_cons_succ, List.getElem_cons_zero]
  refine wpAnyH_ready (rs := [9]) (by kernel_rfl) (by simp) ?_
  refine AllReadyH.cons (o := _) rfl (fun K hK => ?_) AllReadyH.nil
  go_simp
  go_at_call 7
  (with_reducible refine (pk _ _).mono ?_)
  rintro e wC ⟨rfl, hbC⟩
  go_simp
  refine hK.out _ _ ⟨A0B.later hbC, A5B.later hbC, A6B.later hbC⟩ (fun hHeld => ?_)
  clear hK K
  have A0C := A0B.later hbC
  have A5C := A5B.later hbC
  have A6C := A6B.later hbC
  try simp only [Act.put, List.setIfInBounds_toArray, List.set_cons_zero, List.set_cons_succ, List.getElem_toArray, List.getElem_cons_succ, List.getElem_cons_zero]
  refine wpAnyH_take (i := 11) (oi := _) (v := ?_) rfl (by kernel_rfl) (by kernel_rfl) (by kernel_rfl) (fun _ _ _ h => h) (Or.inl ⟨by rfl, ?_⟩) (by assumption) ?_
  rotate_left
  · intro w' hSw
    have q0 := hSw.1.cell
    have q1 := hSw.2.1.cell
    have q2 := hSw.2.2.cell
    have q3 := cv w' _ hSw.2.1
    go_simp
    try with_reducible rfl
  simp only [Act.put, List.setIfInBounds_toArray, List.set_cons_zero, List.set_cons_succ, List.getElem_toArray, List.getElem_cons_succ, List.getElem_cons_zero]
  refine wpAnyH_take (i := 12) (oi := _) (v := ?_) rfl (by kernel_rfl) (by kernel_rfl) (by kernel_rfl) (fun _ _ _ h => h) (Or.inl ⟨by rfl, ?_⟩) (by assumption) ?_
  rotate_left
  · intro w' hSw
    have q0 := hSw.1.cell
    have q1 := hSw.2.1.cell
    have q2 := hSw.2.2.cell
    have q3 := cv w' _ hSw.2.1
    go_simp
    try with_reducible rfl
  simp only [Act.put, List.setIfInBounds_toArray, List.set_cons_zero, List.set_cons_succ, List.getElem_toArray, List.getElem_cons_succ, List.getElem_cons_zero]
  refine wpAnyH_take (i := 13) (oi := _) (v := ?_) rfl (by kernel_rfl) (by kernel_rfl) (by kernel_rfl) (fun _ _ _ h => h) (Or.inl ⟨by rfl, ?_⟩) (by assumption) ?_
  rotate_left
  · intro w' hSw
    have q0 := hSw.1.cell
    have q1 := hSw.2.1.cell
    have q2 := hSw.2.2.cell
    have q3 := cv w' _ hSw.2.1
    go_simp
    try with_reducible rfl
  simp only [Act.put, List.setIfInBounds_toArray, List.set_cons_zero, List.set_cons_succ, List.getElem_toArray, List.getElem_cons_succ, List.getElem_cons_zero]
  refine' wpAnyH_take (i := 14) (oi := _) (v := _) rfl (by kernel_rfl) (by kernel_rfl) (by kernel_rfl) (fun _ _ _ h => h) (yieldsIf_load_mid (by rfl) _ _ rfl _ _ rfl _ _ (fun W hSw => rng W hSw.2.1) hu27 rfl hi27) (by assumption) _
  simp only [Act.put, List.setIfInBounds_toArray, List.set_cons_zero, List.set_cons_succ, List.getElem_toArray, List.getElem_cons_succ, List.getElem_cons_zero]
  refine wpAnyH_take (i := 15) (oi := _) (v := ?_) rfl (by kernel_rfl) (by kernel_rfl) (by kernel_rfl) (fun _ _ _ h => h) (Or.inl ⟨by rfl, ?_⟩) (by assumption) ?_
  rotate_left
  · intro w' hSw
    have q0 := hSw.1.cell
    have q1 := hSw.2.1.cell
    have q2 := hSw.2.2.cell
    have q3 := cv w' _ hSw.2.1
    go_simp
    try with_reducible rfl
  simp only [Act.put, List.setIfInBounds_toArray, List.set_cons_zero, List.set_cons_succ, List.getElem_toArray, List.getElem_cons_succ, List.getElem_cons_zero]
  refine wpAnyH_take (i := 17) (oi := _) (v := ?_) rfl (by kernel_rfl) (by kernel_rfl) (by kernel_rfl) (fun _ _ _ h => h) (Or.inl ⟨by rfl, ?_⟩) (by assumption) ?_
  rotate_left
  · intro w' hSw
    have q0 := hSw.1.cell
    have q1 := hSw.2.1.cell
    have q2 := hSw.2.2.cell
    have q3 := cv w' _ hSw.2.1
    go_simp
    try with_reducible rfl
  simp only [Act.put, List.setIfInBounds_toArray, List.set_cons_zero, List.set_cons_succ, List.getElem_toArray, List.getElem_cons_succ, List.getElem_cons_zero]
  refine wpAnyH_ready (rs := [16]) (by kernel_rfl) (by simp) ?_
  refine AllReadyH.cons (o := _) rfl (fun K hK => ?_) AllReadyH.nil
  go_simp
  go_at_call 10
  (with_reducible refine (gk _).mono ?_)
  rintro e wD ⟨rfl, hbD⟩
  go_simp
  refine hK.out _ _ ⟨A0C.later hbD, A5C.later hbD, A6C.later hbD⟩ (fun hHeld => ?_)
  clear hK K
  have A0D := A0C.later hbD
  have A5D := A5C.later hbD
  have A6D := A6C.later hbD
  try simp only [Act.put, List.setIfInBounds_toArray, List.set_cons_zero, List.set_cons_succ, List.getElem_toArray, List.getElem_cons_succ, List.getElem_cons_zero]
  refine wpAnyH_take (i := 18) (oi := _) (v := ?_) rfl (by kernel_rfl) (by kernel_rfl) (by kernel_rfl) (fun _ _ _ h => h) (Or.inl ⟨by rfl, ?_⟩) (by assumption) ?_
  rotate_left
  · intro w' hSw
    have q0 := hSw.1.cell
    have q1 := hSw.2.1.cell
    have q2 := hSw.2.2.cell
    have q3 := cv w' _ hSw.2.1
    go_simp
    try with_reducible rfl
  simp only [Act.put, List.setIfInBounds_toArray, List.set_cons_zero, List.set_cons_succ, List.getElem_toArray, List.getElem_cons_succ, List.getElem_cons_zero]
  refine wpAnyH_take (i := 19) (oi := _) (v := ?_) rfl (by kernel_rfl) (by kernel_rfl) (by kernel_rfl) (fun _ _ _ h => h) (Or.inl ⟨by rfl, ?_⟩) (by assumption) ?_
  rotate_left
  · intro w' hSw
    have q0 := hSw.1.cell
    have q1 := hSw.2.1.cell
    have q2 := hSw.2.2.cell
    have q3 := cv w' _ hSw.2.1
    go_simp
    try with_reducible rfl
  simp only [Act.put, List.setIfInBounds_toArray, List.set_cons_zero, List.set_cons_succ, List.getElem_toArray, List.getElem_cons_succ, List.getElem_cons_zero]
  refine wpAnyH_take (i := 20) (oi := _) (v := ?_) rfl (by kernel_rfl) (by kernel_rfl) (by kernel_rfl) (fun _ _ _ h => h) (Or.inl ⟨by rfl, ?_⟩) (by assumption) ?_
  rotate_left
  · intro w' hSw
    have q0 := hSw.1.cell
    have q1 := hSw.2.1.cell
    have q2 := hSw.2.2.cell
    have q3 := cv w' _ hSw.2.1
    go_simp
    try with_reducible rfl
  simp only [Act.put, List.setIfInBounds_toArray, List.set_cons_zero, List.set_cons_succ, List.getElem_toArray, List.getElem_cons_succ, List.getElem_cons_zero]
  refine wpAnyH_done (by kernel_rfl) ?_ _
  go_wp2
  go_ret
  exact ⟨rfl, bt (bt (bt (bt d3 hbA) hbB) hbC) hbD⟩

/-! ### The row -/
set_option maxRecDepth 100000 in
theorem lifted (os : Os) (started : os.Started) (H : Type) (enc : TypeId × Value → H) :
    ReturnsInHanded {} Try.checked os 3 .any (Rows.packBackSpec.pre6 enc Try.prog Try.f3 Rows.packBackRow.domain false) (Rows.packBackSpec.post enc Try.prog Try.f3 false true false false) := by
  refine returnsInHanded_of_change (C := Try.checked) own started (by kernel_rfl) Try.func3
    (ChangeSpec.witness6 (enc := enc) (C := Try.checked) false ⟨#[], #[.agg #[.bool false, .int .u32 0, .int .u32 0, .int .u32 0, .int .u16 0, .int .u16 0], .bool false], []⟩ 8 (by kernel_rfl) (by kernel_rfl) (by kernel_rfl) (by kernel_rfl)) ?_
  intro W base args ds gs before hval0 hW hcnd _
  have hval : ∀ (j : Nat) t v, Try.f3.params[j]? = some t → args[j]? = some v → Value.okWide Try.prog W .any base t v := hval0
  have hW' := hW
  obtain ⟨p, q, hA0, hV, rfl, hfz, hnd⟩ := hW
  have hA : DataW.TrodAll enc Try.prog W 0 (fun _ => true) true Try.f3.params.toList args.toList ds p := hA0
  rw [Try.params3] at hA hval
  obtain ⟨v0, vs0, d0, ds0, p0, q0, hargs, rfl, rfl, h0, r0⟩ := trodAll_cons hA
  obtain ⟨v1, vs1, d1, ds1, p1, q1, rfl, rfl, rfl, h1, r1⟩ := trodAll_cons r0
  obtain ⟨rfl, rfl, rfl⟩ := trodAll_nil r1
  obtain rfl : args = #[v0, v1] := by cases args; simp_all
  obtain ⟨rfl, rfl⟩ := trodVars_none hV
  have k0 := h0
  have l0 : ∀ x ∈ p0, x.block < W.heap.size := by obtain ⟨m, hm⟩ := k0; exact DataW.trod_lt m _ _ _ hm
  have k1 := h1
  have l1 : ∀ x ∈ p1, x.block < W.heap.size := by obtain ⟨m, hm⟩ := k1; exact DataW.trod_lt m _ _ _ hm
  obtain ⟨ctg, cb, ct, ca, cp, cy, rfl, hcb, hct, hca, hcp, hcy⟩ := open_cap (hval 0 25 v0 rfl rfl) h0
  obtain ⟨tg, rfl⟩ := okWide_bool Try.underlying4 (hval 1 4 v1 rfl rfl)
  clear hA0 hval0
  refine (walk ctg cb ct ca cp cy tg W hcb hct hca hcp hcy ).mono fun e W' ⟨he, bel⟩ => ?_
  subst he
  exact ⟨_, rfl, _, _, _, [], _, [], hW', trodAll_mk1 (shut_bool Try.underlying4 _), (trodAll_cons_mk (Below.trod laidOut (by kernel_rfl) (of_decide_eq_true (by kernel_rfl)) k0 bel l0) (trodAll_cons_mk (Below.trod laidOut (by kernel_rfl) (of_decide_eq_true (by kernel_rfl)) k1 bel l1) trodAll_mk0)), rfl, bel.frame _, fun h => by cases h⟩

theorem said : Rows.PackBackSaid :=
  OpenClaim.holds_of_wide 3 Try.f3 rfl rfl rfl rfl rfl rfl rfl ⟨rfl, rfl, rfl, rfl, rfl⟩ rfl rfl rfl rfl rfl (by kernel_rfl) Try.func3 (by kernel_rfl)
    (of_decide_eq_true (by kernel_rfl)) (by unfold Func.isWrapper; first | (rw [if_pos (by decide +kernel)]; kernel_rfl) | (rw [if_neg (by decide +kernel)]; exact ⟨rfl, rfl⟩))
    (fun os started H enc _ => lifted os started H enc)
end Go.Proofs.Ytjgnpinokjbhdaa.lawPackBack
