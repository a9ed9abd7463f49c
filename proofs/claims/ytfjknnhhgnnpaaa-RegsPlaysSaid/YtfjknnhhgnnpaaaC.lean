/- The contracts of a file's Twin and All over this translation. They ask that a file is a block of 96 cells. -/
import Derived.Test.YtfjknnhhgnnpaaaB
import Derived.Deep.MidRow
import Derived.Laws.Rows
namespace Go.Proofs.Ytfjknnhhgnnpaaa
open Go.RowKit
set_option linter.unusedVariables false
set_option linter.unusedSimpArgs false

theorem setCells_blk (b : Nat) (t : TypeId) : ∀ (l : List Value) (o : Nat) (w : World) (C : Array Value), Blk w b C t → ∃ C', Blk (w.setCells b o l) b C' t ∧ C'.size = C.size ∧
    ∀ i, i < C.size → C'[i]? = if o ≤ i ∧ i < o + l.length then l[i - o]? else C[i]?
  | [], o, w, C, h => ⟨C, h, rfl, fun i _ => by rw [if_neg (by simp)]⟩
  | v :: l, o, w, C, h => by
    obtain ⟨C', h1, h2, h3⟩ := setCells_blk b t l (o + 1) (w.setCell ⟨b, o, none⟩ v) (C.setIfInBounds o v) (h.set o v)
    refine ⟨C', h1, by rw [h2]; simp, fun i hi => ?_⟩
    rw [h3 i (by simpa using hi)]
    by_cases ho : o = i
    · subst ho
      rw [if_neg (by omega), if_pos (by simp), Array.getElem?_setIfInBounds, if_pos rfl, if_pos hi]
      simp
    · by_cases hc : o + 1 ≤ i ∧ i < o + 1 + l.length
      · rw [if_pos hc, if_pos (by simp; omega)]
        rw [show i - o = (i - (o + 1)) + 1 by omega]
        simp
      · rw [if_neg hc, if_neg (by simp; omega), Array.getElem?_setIfInBounds, if_neg ho]
theorem setCells_whole {w : World} {b : Nat} {t : TypeId} {C D : Array Value} (h : Blk w b C t) (hs : D.size = C.size) : Blk (w.setCells b 0 D.toList) b D t := by
  obtain ⟨C', h1, h2, h3⟩ := setCells_blk b t D.toList 0 w C h
  have : C' = D := by
    apply Array.ext_getElem?
    intro i
    by_cases hi : i < C.size
    · rw [h3 i hi, if_pos (by simp; omega)]
      simp
    · rw [Array.getElem?_eq_none (by omega), Array.getElem?_eq_none (by omega)]
  rw [← this]
  rw [this] at h1 ⊢
  exact h1
theorem setCells_below (B b : Nat) : ∀ (l : List Value) (o : Nat) (w0 w : World), Below B w0 w → B ≤ b → Below B w0 (w.setCells b o l)
  | [], _, _, _, h, _ => h
  | v :: l, o, w0, w, h, hb => setCells_below B b l (o + 1) w0 _ (h.setCell hb v) hb
theorem Blk.range {w : World} {g : Nat} {C : Array Value} {t : TypeId} (h : Blk w g C t) : w.rangeAt g 0 C.toList := fun j v hv => by
  rw [Nat.zero_add, h.cell]
  simpa using hv
theorem Blk.there {w : World} {g : Nat} {C : Array Value} {t : TypeId} (h : Blk w g C t) (n : Nat) (hn : n ≤ C.size) : w.there g 0 n := fun j hj => by
  rw [Nat.zero_add]
  refine ⟨?_, h.soft _⟩
  rw [h.cell, Array.getElem?_eq_getElem (by omega)]
  rfl
theorem info48 : (Try.prog.info? 48).map (·.size) = some 96 := by kernel_rfl
theorem info40 : (Try.prog.info? 40).map (·.size) = some 96 := by kernel_rfl
theorem fileC_one (c : Nat → Cp) : (fileC c).all (·.oneCell') = true := by
  rw [Array.all_eq_true_iff_forall_mem]
  intro v hv
  obtain ⟨o, ho, rfl⟩ := Array.getElem_of_mem hv
  rw [fileC_size] at ho
  have hx := Array.getElem?_eq_getElem (xs := fileC c) (i := o) (by rw [fileC_size]; exact ho)
  obtain ⟨e0, e1, e2, e3, e4, e5⟩ := fileC_get c (o / 6) (by omega)
  have hj : o = o / 6 * 6 ∨ o = o / 6 * 6 + 1 ∨ o = o / 6 * 6 + 2 ∨ o = o / 6 * 6 + 3 ∨ o = o / 6 * 6 + 4 ∨ o = o / 6 * 6 + 5 := by omega
  have key : ∃ u : Value, (fileC c)[o]? = some u ∧ u.oneCell' = true := by
    rcases hj with h | h | h | h | h | h <;> rw [h]
    · exact ⟨_, e0, rfl⟩
    · exact ⟨_, e1, rfl⟩
    · exact ⟨_, e2, rfl⟩
    · exact ⟨_, e3, rfl⟩
    · exact ⟨_, e4, rfl⟩
    · exact ⟨_, e5, rfl⟩
  obtain ⟨u, hu, ho1⟩ := key
  rw [hx] at hu
  rw [Option.some.inj hu]
  exact ho1

theorem store_new (t : TypeId) (c : Nat → Cp) (w : World) : ∃ w2, (storeCells ⟨w.heap.size, 0, none⟩ (fileC c).toList).run Try.prog (w.alloc (.cells #[.bool false, .int .u32 0, .int .u32 0, .int .u32 0, .int .u16 0, .int .u16 0, .bool false, .int .u32 0, .int .u32 0, .int .u32 0, .int .u16 0, .int .u16 0, .bool false, .int .u32 0, .int .u32 0, .int .u32 0, .int .u16 0, .int .u16 0, .bool false, .int .u32 0, .int .u32 0, .int .u32 0, .int .u16 0, .int .u16 0, .bool false, .int .u32 0, .int .u32 0, .int .u32 0, .int .u16 0, .int .u16 0, .bool false, .int .u32 0, .int .u32 0, .int .u32 0, .int .u16 0, .int .u16 0, .bool false, .int .u32 0, .int .u32 0, .int .u32 0, .int .u16 0, .int .u16 0, .bool false, .int .u32 0, .int .u32 0, .int .u32 0, .int .u16 0, .int .u16 0, .bool false, .int .u32 0, .int .u32 0, .int .u32 0, .int .u16 0, .int .u16 0, .bool false, .int .u32 0, .int .u32 0, .int .u32 0, .int .u16 0, .int .u16 0, .bool false, .int .u32 0, .int .u32 0, .int .u32 0, .int .u16 0, .int .u16 0, .bool false, .int .u32 0, .int .u32 0, .int .u32 0, .int .u16 0, .int .u16 0, .bool false, .int .u32 0, .int .u32 0, .int .u32 0, .int .u16 0, .int .u16 0, .bool false, .int .u32 0, .int .u32 0, .int .u32 0, .int .u16 0, .int .u16 0, .bool false, .int .u32 0, .int .u32 0, .int .u32 0, .int .u16 0, .int .u16 0, .bool false, .int .u32 0, .int .u32 0, .int .u32 0, .int .u16 0, .int .u16 0] t)) = .ok () w2 ∧ Blk w2 w.heap.size (fileC c) t ∧ Below w.heap.size w w2 := by
  have X := Blk.new w #[.bool false, .int .u32 0, .int .u32 0, .int .u32 0, .int .u16 0, .int .u16 0, .bool false, .int .u32 0, .int .u32 0, .int .u32 0, .int .u16 0, .int .u16 0, .bool false, .int .u32 0, .int .u32 0, .int .u32 0, .int .u16 0, .int .u16 0, .bool false, .int .u32 0, .int .u32 0, .int .u32 0, .int .u16 0, .int .u16 0, .bool false, .int .u32 0, .int .u32 0, .int .u32 0, .int .u16 0, .int .u16 0, .bool false, .int .u32 0, .int .u32 0, .int .u32 0, .int .u16 0, .int .u16 0, .bool false, .int .u32 0, .int .u32 0, .int .u32 0, .int .u16 0, .int .u16 0, .bool false, .int .u32 0, .int .u32 0, .int .u32 0, .int .u16 0, .int .u16 0, .bool false, .int .u32 0, .int .u32 0, .int .u32 0, .int .u16 0, .int .u16 0, .bool false, .int .u32 0, .int .u32 0, .int .u32 0, .int .u16 0, .int .u16 0, .bool false, .int .u32 0, .int .u32 0, .int .u32 0, .int .u16 0, .int .u16 0, .bool false, .int .u32 0, .int .u32 0, .int .u32 0, .int .u16 0, .int .u16 0, .bool false, .int .u32 0, .int .u32 0, .int .u32 0, .int .u16 0, .int .u16 0, .bool false, .int .u32 0, .int .u32 0, .int .u32 0, .int .u16 0, .int .u16 0, .bool false, .int .u32 0, .int .u32 0, .int .u32 0, .int .u16 0, .int .u16 0, .bool false, .int .u32 0, .int .u32 0, .int .u32 0, .int .u16 0, .int .u16 0] t _ rfl
  have ht := X.there 96 (Nat.le_refl _)
  have hsz : (fileC c).toList.length = 96 := by rw [Array.length_toList]; exact fileC_size c
  have hs := run_storeCells_cells (P := Try.prog) w.heap.size 0 (fileC c).toList 0 (w.alloc (.cells #[.bool false, .int .u32 0, .int .u32 0, .int .u32 0, .int .u16 0, .int .u16 0, .bool false, .int .u32 0, .int .u32 0, .int .u32 0, .int .u16 0, .int .u16 0, .bool false, .int .u32 0, .int .u32 0, .int .u32 0, .int .u16 0, .int .u16 0, .bool false, .int .u32 0, .int .u32 0, .int .u32 0, .int .u16 0, .int .u16 0, .bool false, .int .u32 0, .int .u32 0, .int .u32 0, .int .u16 0, .int .u16 0, .bool false, .int .u32 0, .int .u32 0, .int .u32 0, .int .u16 0, .int .u16 0, .bool false, .int .u32 0, .int .u32 0, .int .u32 0, .int .u16 0, .int .u16 0, .bool false, .int .u32 0, .int .u32 0, .int .u32 0, .int .u16 0, .int .u16 0, .bool false, .int .u32 0, .int .u32 0, .int .u32 0, .int .u16 0, .int .u16 0, .bool false, .int .u32 0, .int .u32 0, .int .u32 0, .int .u16 0, .int .u16 0, .bool false, .int .u32 0, .int .u32 0, .int .u32 0, .int .u16 0, .int .u16 0, .bool false, .int .u32 0, .int .u32 0, .int .u32 0, .int .u16 0, .int .u16 0, .bool false, .int .u32 0, .int .u32 0, .int .u32 0, .int .u16 0, .int .u16 0, .bool false, .int .u32 0, .int .u32 0, .int .u32 0, .int .u16 0, .int .u16 0, .bool false, .int .u32 0, .int .u32 0, .int .u32 0, .int .u16 0, .int .u16 0, .bool false, .int .u32 0, .int .u32 0, .int .u32 0, .int .u16 0, .int .u16 0] t)) (fun j hj => by simpa using (ht j (by omega)).1) (fun j hj => by simp) (fun v hv => (Array.all_eq_true_iff_forall_mem.1 (fileC_one c)) v (Array.mem_toList_iff.1 hv))
  exact ⟨_, hs, setCells_whole X (fileC_size c), setCells_below _ _ _ _ _ _ (ba (b0 w) _) (Nat.le_refl _)⟩

set_option maxHeartbeats 1000000 in
theorem twin_c (g : Nat) (c : Nat → Cp) (w : World) (hB : Blk w g (fileC c) 48) :
    Calls Try.prog 11 #[.pointer (some ⟨g, 0, none⟩)] w fun e w' => ∃ g', e = .returned (.pointer (some ⟨g', 0, none⟩)) ∧ w.heap.size ≤ g' ∧ Blk w' g' (fileC c) 48 ∧ Below w.heap.size w w' := by
  have zv := zv48
  have hl := hB.lt
  have hr := hB.range
  have hsz : (fileC c).toList.length = 96 := by rw [Array.length_toList]; exact fileC_size c
  have hi : (Try.prog.info? 48).map (·.size) = some (fileC c).toList.length := by rw [hsz]; exact info48
  obtain ⟨w2, hst, B2, bel2⟩ := store_new 48 c w
  clear hB
  go_enter Try.func11, Try.ntmps11
  go_wp2_with (first
    | (refine wpList_load_mid rfl 48 _ rfl g 0 rfl (fileC c).toList _ hr Try.underlying48 rfl hi ?_))
  go_ret
  exact ⟨_, rfl, Nat.le_refl _, B2, bel2⟩
theorem zv40 : ∀ w, (zeroValue 40).run Try.prog w = .ok (.agg #[.bool false, .int .u32 0, .int .u32 0, .int .u32 0, .int .u16 0, .int .u16 0, .bool false, .int .u32 0, .int .u32 0, .int .u32 0, .int .u16 0, .int .u16 0, .bool false, .int .u32 0, .int .u32 0, .int .u32 0, .int .u16 0, .int .u16 0, .bool false, .int .u32 0, .int .u32 0, .int .u32 0, .int .u16 0, .int .u16 0, .bool false, .int .u32 0, .int .u32 0, .int .u32 0, .int .u16 0, .int .u16 0, .bool false, .int .u32 0, .int .u32 0, .int .u32 0, .int .u16 0, .int .u16 0, .bool false, .int .u32 0, .int .u32 0, .int .u32 0, .int .u16 0, .int .u16 0, .bool false, .int .u32 0, .int .u32 0, .int .u32 0, .int .u16 0, .int .u16 0, .bool false, .int .u32 0, .int .u32 0, .int .u32 0, .int .u16 0, .int .u16 0, .bool false, .int .u32 0, .int .u32 0, .int .u32 0, .int .u16 0, .int .u16 0, .bool false, .int .u32 0, .int .u32 0, .int .u32 0, .int .u16 0, .int .u16 0, .bool false, .int .u32 0, .int .u32 0, .int .u32 0, .int .u16 0, .int .u16 0, .bool false, .int .u32 0, .int .u32 0, .int .u32 0, .int .u16 0, .int .u16 0, .bool false, .int .u32 0, .int .u32 0, .int .u32 0, .int .u16 0, .int .u16 0, .bool false, .int .u32 0, .int .u32 0, .int .u32 0, .int .u16 0, .int .u16 0, .bool false, .int .u32 0, .int .u32 0, .int .u32 0, .int .u16 0, .int .u16 0]) w := fun w => by kernel_rfl
set_option maxRecDepth 20000 in
set_option maxHeartbeats 1000000 in
theorem all_c (g : Nat) (c : Nat → Cp) (w : World) (hB : Blk w g (fileC c) 48) :
    Calls Try.prog 13 #[.pointer (some ⟨g, 0, none⟩)] w fun e w' => e = .returned (.agg (fileC c)) ∧ Below w.heap.size w w' := by
  have zv := zv40
  have hl := hB.lt
  have hr := (hB.alloc (.cells #[.bool false, .int .u32 0, .int .u32 0, .int .u32 0, .int .u16 0, .int .u16 0, .bool false, .int .u32 0, .int .u32 0, .int .u32 0, .int .u16 0, .int .u16 0, .bool false, .int .u32 0, .int .u32 0, .int .u32 0, .int .u16 0, .int .u16 0, .bool false, .int .u32 0, .int .u32 0, .int .u32 0, .int .u16 0, .int .u16 0, .bool false, .int .u32 0, .int .u32 0, .int .u32 0, .int .u16 0, .int .u16 0, .bool false, .int .u32 0, .int .u32 0, .int .u32 0, .int .u16 0, .int .u16 0, .bool false, .int .u32 0, .int .u32 0, .int .u32 0, .int .u16 0, .int .u16 0, .bool false, .int .u32 0, .int .u32 0, .int .u32 0, .int .u16 0, .int .u16 0, .bool false, .int .u32 0, .int .u32 0, .int .u32 0, .int .u16 0, .int .u16 0, .bool false, .int .u32 0, .int .u32 0, .int .u32 0, .int .u16 0, .int .u16 0, .bool false, .int .u32 0, .int .u32 0, .int .u32 0, .int .u16 0, .int .u16 0, .bool false, .int .u32 0, .int .u32 0, .int .u32 0, .int .u16 0, .int .u16 0, .bool false, .int .u32 0, .int .u32 0, .int .u32 0, .int .u16 0, .int .u16 0, .bool false, .int .u32 0, .int .u32 0, .int .u32 0, .int .u16 0, .int .u16 0, .bool false, .int .u32 0, .int .u32 0, .int .u32 0, .int .u16 0, .int .u16 0, .bool false, .int .u32 0, .int .u32 0, .int .u32 0, .int .u16 0, .int .u16 0] 40)).range
  have hsz : (fileC c).toList.length = 96 := by rw [Array.length_toList]; exact fileC_size c
  have hi : (Try.prog.info? 40).map (·.size) = some (fileC c).toList.length := by rw [hsz]; exact info40
  obtain ⟨w2, hst, B2, bel2⟩ := store_new 40 c w
  clear hB
  go_enter Try.func13, Try.ntmps13
  go_wp2_with (first
    | (refine wpList_load_mid rfl 40 _ rfl g 0 rfl (fileC c).toList _ hr Try.underlying40 rfl hi ?_))
  refine bodyPost_ret (v := .agg (fileC c)) (results_cell_row rfl _ _ _ _ _ _ _ rfl B2 Try.underlying40 rfl (by rw [info40, fileC_size])) rfl ⟨rfl, bel2⟩
end Go.Proofs.Ytfjknnhhgnnpaaa
