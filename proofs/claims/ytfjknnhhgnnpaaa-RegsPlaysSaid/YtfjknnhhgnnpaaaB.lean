/- The contracts of slices.Contains over integers, and of a file's Keep, over this translation. They ask that a list is short and that a file is a block of 96 cells. -/
import Derived.Test.YtfjknnhhgnnpaaaA
import Derived.Deep.RegionWith
namespace Go.Proofs.Ytfjknnhhgnnpaaa
open Go.RowKit
set_option linter.unusedVariables false
set_option linter.unusedSimpArgs false

/-- A list of integers that lies somewhere, or nowhere. -/
def Ints (w : World) (sv : Value) (xs : List Int) : Prop :=
  (sv = .slice none 0 0 ∧ xs = []) ∨ ∃ b off n cap, sv = .slice (some ⟨b, off, none⟩) n cap ∧ xs.length = n ∧ n ≤ 1000 ∧ ∀ j, j < n → w.cell? ⟨b, off + j, none⟩ = some (.int .i64 (xs.getD j 0))
theorem Ints.later {w w1 : World} {sv : Value} {xs : List Int} (h : Ints w sv xs) (hk : ∀ a v, w.cell? a = some v → w1.cell? a = some v) : Ints w1 sv xs := by
  rcases h with h | ⟨b, off, n, cap, h1, h2, h3, h4⟩
  · exact .inl h
  · exact .inr ⟨b, off, n, cap, h1, h2, h3, fun j hj => hk _ _ (h4 j hj)⟩

set_option maxHeartbeats 1000000 in
theorem index_c (sv : Value) (xs : List Int) (x : Int) (w : World) (hi : Ints w sv xs) :
    Calls Try.prog 17 #[sv, .int .i64 x] w fun e w' => ∃ r, e = .returned (.int .i64 r) ∧ decide (0 ≤ r) = xs.contains x ∧ w' = w := by
  rcases hi with ⟨rfl, rfl⟩ | ⟨b, off, n, cap, rfl, hl, hn, hc⟩
  · go_enter Try.func17, Try.ntmps17
    go_wp2
    go_rounds 1
    go_ret
    exact ⟨_, rfl, by simp, rfl⟩
  · go_enter Try.func17, Try.ntmps17
    go_wp2
    go_loopw [8] (fun i wr => ∃ k : Nat, i = .int .i64 (k : Int) ∧ k ≤ n ∧ wr = w ∧ ∀ j, j < k → xs.getD j 0 ≠ x) (fun i _ => ((n : Int) - intOf i).toNat)
    case atStart => exact ⟨0, rfl, by omega, rfl, fun j hj => by omega⟩
    case round =>
      obtain ⟨k, rfl, hk, rfl, hno⟩ := hrel
      by_cases h : k = n
      · subst h
        go_wp2
        go_ret
        refine ⟨_, rfl, ?_, rfl⟩
        have : xs.contains x = false := by
          rw [Bool.eq_false_iff]
          intro hx
          rw [List.contains_iff_mem] at hx
          obtain ⟨j, hj, he⟩ := List.getElem_of_mem hx
          exact hno j (by omega) (by rw [List.getD_eq_getElem?_getD, List.getElem?_eq_getElem hj]; exact he)
        rw [this]
        rfl
      · have h1 : (k : Int) < (n : Int) := by omega
        have h2 : (0 : Int) ≤ (k : Int) := by omega
        have hck := hc k (by omega)
        by_cases hx : x = xs.getD k 0
        · rw [← hx] at hck
          go_wp2
          go_ret
          refine ⟨_, rfl, ?_, rfl⟩
          have : xs.contains x = true := by
            rw [List.contains_iff_mem, hx, List.getD_eq_getElem?_getD, List.getElem?_eq_getElem (by omega)]
            exact List.getElem_mem _
          rw [this]
          simp
        · generalize hy : xs.getD k 0 = y at hck hx
          go_wp2
          exact ⟨⟨k + 1, by simp, by omega, trivial, fun j hj => by
            rcases Nat.lt_or_ge j k with h' | h'
            · exact hno j h'
            · obtain rfl : j = k := by omega
              exact fun e => hx (by rw [← hy, e])⟩, by simp [intOf]; omega⟩
theorem contains_c (sv : Value) (xs : List Int) (x : Int) (w : World) (hi : Ints w sv xs) :
    Calls Try.prog 16 #[sv, .int .i64 x] w fun e w' => e = .returned (.bool (xs.contains x)) ∧ w' = w := by
  go_enter Try.func16, Try.ntmps16
  go_wp2_with (go_at_call 17; (with_reducible refine (index_c _ xs _ _ hi).mono ?_); rintro e w1 ⟨r, rfl, hr, rfl⟩)
  go_ret
  exact ⟨by simp, rfl⟩

theorem Ints.grown {w w1 : World} {sv : Value} {xs : List Int} {g : Nat} (h : Ints w sv xs) (hg : w.grownBy w1 (some g)) (hne : sv.ownBlock ≠ some g) : Ints w1 sv xs := by
  rcases h with h | ⟨b, off, n, cap, rfl, h2, h3, h4⟩
  · exact .inl h
  · refine .inr ⟨b, off, n, cap, rfl, h2, h3, fun j hj => ?_⟩
    have hc := h4 j hj
    have hlt := World.block_lt_of_cell? w _ hc
    rw [World.cell?_of_block (a := ⟨b, off + j, none⟩) (hg.block b hlt (fun e => hne (by simp [Value.ownBlock]; simpa using e)))]
    exact hc
/-- What is kept, below k. -/
def keepC (c : Nat → Cp) (xs : List Int) (k : Nat) : Nat → Cp := fun m => if m < k ∧ xs.contains (m : Int) = false then Cp.int 0 else c m
theorem keepC_zero (c : Nat → Cp) (xs : List Int) : keepC c xs 0 = c := by
  funext m
  simp [keepC]
theorem keepC_yes (c : Nat → Cp) (xs : List Int) (k : Nat) (h : xs.contains (k : Int) = true) : keepC c xs (k + 1) = keepC c xs k := by
  funext m
  unfold keepC
  by_cases hm : m = k
  · subst hm
    rw [h]
    simp
  · have : m < k + 1 ↔ m < k := by omega
    simp only [this]
theorem keepC_no (c : Nat → Cp) (xs : List Int) (k : Nat) (h : xs.contains (k : Int) = false) : keepC c xs (k + 1) = upd (keepC c xs k) k (Cp.int 0) := by
  funext m
  unfold keepC upd
  by_cases hm : m = k
  · subst hm
    rw [h]
    simp
  · have : m < k + 1 ↔ m < k := by omega
    simp only [this, if_neg hm]

set_option maxHeartbeats 1000000 in
theorem keep_c (g : Nat) (sv : Value) (xs : List Int) (c : Nat → Cp) (w : World) (hB : Blk w g (fileC c) 48) (hi : Ints w sv xs) (hne : sv.ownBlock ≠ some g) :
    Calls Try.prog 9 #[.pointer (some ⟨g, 0, none⟩), sv] w fun e w' => e = .returned (.tuple #[]) ∧ Blk w' g (fileC (keepC c xs 16)) 48 ∧ w.grownBy w' (some g) := by
  have I12 := int_c 0
  unfold intC Cp.int Cp.val at I12
  go_enter Try.func9, Try.ntmps9
  go_wp2
  go_loopw [5] (fun i wr => ∃ k : Nat, i = .int .i64 (k : Int) ∧ k ≤ 16 ∧ Blk wr g (fileC (keepC c xs k)) 48 ∧ w.grownBy wr (some g)) (fun i _ => (16 - intOf i).toNat)
  case atStart => exact ⟨0, rfl, by omega, by rw [keepC_zero]; exact hB, gb_refl w g⟩
  case round =>
    obtain ⟨k, rfl, hk, B1, G1⟩ := hrel
    by_cases h : k = 16
    · subst h
      go_wp2
      refine bodyPost_end (results_none rfl _ _ _) rfl ⟨rfl, B1, G1⟩
    · have h1 : (k : Int) < 16 := by omega
      have h2 : (0 : Int) ≤ (k : Int) := by omega
      have hk16 : k < 16 := by omega
      have hi1 := hi.grown G1 hne
      rcases Bool.eq_false_or_eq_true (xs.contains (k : Int)) with hx | hx
      · have C16 := contains_c sv xs (k : Int) _ hi1
        rw [hx] at C16
        go_wp2_with (go_at_call 16; (with_reducible refine C16.mono ?_); rintro e w1 ⟨rfl, rfl⟩)
        exact ⟨⟨k + 1, by simp, by omega, by rw [keepC_yes c xs k hx]; exact B1, G1⟩, by simp [intOf]; omega⟩
      · have C16 := contains_c sv xs (k : Int) _ hi1
        rw [hx] at C16
        obtain ⟨f0, f1, f2, f3, f4, f5⟩ := fileC_get (keepC c xs k) k hk16
        have hset := fileC_set (keepC c xs k) k (Cp.int 0) hk16
        go_wp2_with (go_at_call 16; (with_reducible refine C16.mono ?_); rintro e w1 ⟨rfl, rfl⟩)
        go_region_with ((go_at_call 12; (with_reducible refine (I12 _).mono ?_); rintro e w2 ⟨rfl, hb2⟩; have D := Blk.later (w := w1.drew) B1 hb2; have d0 := (D.cell _).trans f0; have d1 := (D.cell _).trans f1; have d2 := (D.cell _).trans f2; have d3 := (D.cell _).trans f3; have d4 := (D.cell _).trans f4; have d5 := (D.cell _).trans f5; have ds := D.soft; have dl := D.lt))
        have BB := (((((D.set (k * 6) (.bool false)).set (k * 6 + 1) (.int .u32 0)).set (k * 6 + 2) (.int .u32 0)).set (k * 6 + 3) (.int .u32 0)).set (k * 6 + 4) (.int .u16 0)).set (k * 6 + 5) (.int .u16 0)
        change Blk _ g (wrC (fileC (keepC c xs k)) k (Cp.int 0)) 48 at BB
        rw [hset, ← keepC_no c xs k hx] at BB
        have GG := gb_set (gb_set (gb_set (gb_set (gb_set (gb_set (gb_below (gb_drew G1) hb2) (k * 6) (.bool false)) (k * 6 + 1) (.int .u32 0)) (k * 6 + 2) (.int .u32 0)) (k * 6 + 3) (.int .u32 0)) (k * 6 + 4) (.int .u16 0)) (k * 6 + 5) (.int .u16 0)
        clear d0 d1 d2 d3 d4 d5 ds dl D f0 f1 f2 f3 f4 f5 hset C16
        go_wp2
        exact ⟨⟨k + 1, by simp, by omega, BB, GG⟩, by simp [intOf]; omega⟩
end Go.Proofs.Ytfjknnhhgnnpaaa
