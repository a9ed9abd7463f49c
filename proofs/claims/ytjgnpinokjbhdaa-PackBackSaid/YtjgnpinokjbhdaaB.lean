/- The contract of pack's put over this translation: a number's lowest bytes behind a row of the call's own. It asks that the row is the call's own, and that it is short. -/
import Derived.Test.YtjgnpinokjbhdaaA
namespace Go.Proofs.Ytjgnpinokjbhdaa
open Go.RowKit
set_option linter.unusedVariables false
set_option linter.unusedSimpArgs false

theorem one_new (w : World) (x : Value) (t : TypeId) (n : Nat) (hn : w.heap.size = n) : ∀ j u, [x][j]? = some u → (w.alloc (.cells #[x] t)).cell? ((⟨n, 0, none⟩ : Addr).add j) = some u := by
  subst hn
  exact cell_one_new w x t
theorem oc (k : IntKind) (n : Int) : ∀ u ∈ [Value.int k n], u.oneCell' = true := by
  intro u hu
  rw [List.mem_singleton.1 hu]
  rfl
theorem le_max {n : Nat} (h : n ≤ 40) : n + 1 ≤ maxLen := by unfold maxLen; omega
theorem le_bytes {n : Nat} (h : n ≤ 40) : (n + 1) * 1 ≤ 140737488355328 := by omega
theorem le_alloc {B : Nat} {w : World} (h : B ≤ w.heap.size) (o : Obj) : B ≤ (w.alloc o).heap.size := by simp; omega
/-- What 'put' does to memory: the row is the call's own and reads so; all else is as it was. -/
structure PutPost (w w' : World) (B : Nat) (sv sv' : Value) (ys : List Int) : Prop where
  own : w'.ownsRow B 5 1 sv' ys.length (ys.map (Value.int .u8))
  grown : w.grownBy w' sv.ownBlock
  far : ∀ g, sv'.ownBlock = some g → sv.ownBlock = some g ∨ w.heap.size ≤ g
theorem PutPost.start {w : World} {B : Nat} {sv : Value} {xs : List Int} (h : w.ownsRow B 5 1 sv xs.length (xs.map (Value.int .u8))) : PutPost w w B sv sv xs :=
  ⟨h, ⟨rfl, rfl, rfl, Nat.le_refl _, fun _ _ _ => rfl⟩, fun _ h => .inl h⟩
theorem PutPost.step {w wr w' : World} {B : Nat} {sv v v' : Value} {ys us : List Int} {x : Int} {o : Obj} {n : Nat} {zs : List Value} (h : PutPost w wr B sv v ys) (hown : w'.ownsRow B 5 1 v' n zs) (hn : n = ys.length + 1) (hz : zs = ys.map (Value.int .u8) ++ [.int .u8 x])
    (hg : (wr.alloc o).grownBy w' v.ownBlock) (hf : v'.ownBlock = v.ownBlock ∨ v'.ownBlock = some (wr.alloc o).heap.size) (hu : us = ys ++ [x]) : PutPost w w' B sv v' us := by
  subst hn hz hu
  refine ⟨by simpa using hown, ⟨hg.os.trans h.grown.os, hg.tape.trans h.grown.tape, hg.output.trans h.grown.output, ?_, ?_⟩, ?_⟩
  · have h1 := h.grown.size
    have h2 := hg.size
    simp at h2
    omega
  · intro k hk hne
    have h1 := h.grown.size
    have hne' : some k ≠ v.ownBlock := by
      intro e
      rcases h.far k e.symm with h2 | h2
      · exact hne h2.symm
      · omega
    rw [hg.block k (by simp; omega) hne', Below.heap_alloc wr o k (by omega), h.grown.block k hk hne]
  · intro g hgv
    have h1 := h.grown.size
    rcases hf with hf | hf
    · rw [hf] at hgv
      exact h.far g hgv
    · rw [hf] at hgv
      simp at hgv
      exact .inr (by omega)

def by4 (v : Int) : List Int := [v % 256, v / 256 % 256, v / 65536 % 256, v / 16777216]
set_option maxHeartbeats 1000000 in
theorem put4_c (B : Nat) (sv : Value) (xs : List Int) (v : Int) (w : World) (hown : w.ownsRow B 5 1 sv xs.length (xs.map (Value.int .u8))) (hB : B ≤ w.heap.size) (hx : xs.length ≤ 16) (hv : U32 v) :
    Calls Try.prog 12 #[sv, .int .u32 v, .int .i64 4] w fun e w' => ∃ sv', e = .returned sv' ∧ PutPost w w' B sv sv' (xs ++ by4 v) := by
  obtain ⟨v0, v1⟩ := hv
  obtain ⟨i0, hi, hz0, hz1, hz2⟩ := info_parts Try.info5
  go_enter Try.func12, Try.ntmps12
  go_wp2
  go_loopw [0, 9] (fun bval i wr => ∃ (k : Nat) (m : Int), k ≤ 4 ∧ i = .int .i64 m ∧ m = (k : Int) ∧ PutPost w wr B sv bval (xs ++ (by4 v).take k)) (fun _ i _ => (4 - intOf i).toNat)
  case atStart => exact ⟨0, 0, by omega, rfl, rfl, by rw [List.take_zero, List.append_nil]; exact PutPost.start hown⟩
  case round =>
    obtain ⟨k, m, hk, rfl, hm, hp⟩ := hrel
    by_cases h8 : k = 4
    · subst h8
      obtain rfl : m = 4 := by omega
      clear hm hk
      go_wp2
      go_ret
      exact ⟨_, rfl, hp⟩
    · have hc : k = 0 ∨ k = 1 ∨ k = 2 ∨ k = 3 := by omega
      have hs2 := Nat.le_trans hB hp.grown.size
      have hlen : (xs ++ (by4 v).take k).length ≤ 40 := by rw [List.length_append, List.length_take]; omega
      obtain ⟨ys, hys⟩ : ∃ ys, ys = xs ++ (by4 v).take k := ⟨_, rfl⟩
      rw [← hys] at hp hlen
      have hs1 := hp.own
      have HY : Hid _ := hys
      clear hys
      rcases hc with rfl | rfl | rfl | rfl
      · obtain rfl : m = 0 := by omega
        clear hm hk h8
        go_wp2_with (at_builtin; refine wpList_append_own_at _ rfl _ _ 29 rfl B 5 i0 (.int .u8 0) 1 1 Try.underlying29 hi hz0 hz1 hz2 rfl (by decide) _ _ _ rfl (hs1.alloc _) ⟨_, 0, none⟩ 1 1 _ rfl rfl (one_new _ _ _ _ rfl) (oc _ _) (le_max hlen) (le_bytes hlen) (le_alloc hs2 _) ?_; intro v1 w1 hown1 hgrow1 hnil1 hfar1)
        exact ⟨⟨1, 1, by omega, rfl, by omega, hp.step hown1 rfl rfl hgrow1 hfar1 (by rw [HY.out]; simp [by4])⟩, by simp [intOf]⟩
      · obtain rfl : m = 1 := by omega
        clear hm hk h8
        go_wp2_with (at_builtin; refine wpList_append_own_at _ rfl _ _ 29 rfl B 5 i0 (.int .u8 0) 1 1 Try.underlying29 hi hz0 hz1 hz2 rfl (by decide) _ _ _ rfl (hs1.alloc _) ⟨_, 0, none⟩ 1 1 _ rfl rfl (one_new _ _ _ _ rfl) (oc _ _) (le_max hlen) (le_bytes hlen) (le_alloc hs2 _) ?_; intro v1 w1 hown1 hgrow1 hnil1 hfar1)
        exact ⟨⟨2, 2, by omega, rfl, by omega, hp.step hown1 rfl rfl hgrow1 hfar1 (by rw [HY.out]; simp [by4])⟩, by simp [intOf]⟩
      · obtain rfl : m = 2 := by omega
        clear hm hk h8
        go_wp2_with (at_builtin; refine wpList_append_own_at _ rfl _ _ 29 rfl B 5 i0 (.int .u8 0) 1 1 Try.underlying29 hi hz0 hz1 hz2 rfl (by decide) _ _ _ rfl (hs1.alloc _) ⟨_, 0, none⟩ 1 1 _ rfl rfl (one_new _ _ _ _ rfl) (oc _ _) (le_max hlen) (le_bytes hlen) (le_alloc hs2 _) ?_; intro v1 w1 hown1 hgrow1 hnil1 hfar1)
        exact ⟨⟨3, 3, by omega, rfl, by omega, hp.step hown1 rfl rfl hgrow1 hfar1 (by rw [HY.out]; simp [by4])⟩, by simp [intOf]⟩
      · obtain rfl : m = 3 := by omega
        clear hm hk h8
        go_wp2_with (at_builtin; refine wpList_append_own_at _ rfl _ _ 29 rfl B 5 i0 (.int .u8 0) 1 1 Try.underlying29 hi hz0 hz1 hz2 rfl (by decide) _ _ _ rfl (hs1.alloc _) ⟨_, 0, none⟩ 1 1 _ rfl rfl (one_new _ _ _ _ rfl) (oc _ _) (le_max hlen) (le_bytes hlen) (le_alloc hs2 _) ?_; intro v1 w1 hown1 hgrow1 hnil1 hfar1)
        exact ⟨⟨4, 4, by omega, rfl, by omega, hp.step hown1 rfl rfl hgrow1 hfar1 (by rw [HY.out]; simp [by4])⟩, by simp [intOf]⟩
def by2 (v : Int) : List Int := [v % 256, v / 256]
set_option maxHeartbeats 1000000 in
theorem put2_c (B : Nat) (sv : Value) (xs : List Int) (v : Int) (w : World) (hown : w.ownsRow B 5 1 sv xs.length (xs.map (Value.int .u8))) (hB : B ≤ w.heap.size) (hx : xs.length ≤ 16) (hv : U16 v) :
    Calls Try.prog 12 #[sv, .int .u32 v, .int .i64 2] w fun e w' => ∃ sv', e = .returned sv' ∧ PutPost w w' B sv sv' (xs ++ by2 v) := by
  obtain ⟨v0, v1⟩ := hv
  obtain ⟨i0, hi, hz0, hz1, hz2⟩ := info_parts Try.info5
  go_enter Try.func12, Try.ntmps12
  go_wp2
  go_loopw [0, 9] (fun bval i wr => ∃ (k : Nat) (m : Int), k ≤ 2 ∧ i = .int .i64 m ∧ m = (k : Int) ∧ PutPost w wr B sv bval (xs ++ (by2 v).take k)) (fun _ i _ => (2 - intOf i).toNat)
  case atStart => exact ⟨0, 0, by omega, rfl, rfl, by rw [List.take_zero, List.append_nil]; exact PutPost.start hown⟩
  case round =>
    obtain ⟨k, m, hk, rfl, hm, hp⟩ := hrel
    by_cases h8 : k = 2
    · subst h8
      obtain rfl : m = 2 := by omega
      clear hm hk
      go_wp2
      go_ret
      exact ⟨_, rfl, hp⟩
    · have hc : k = 0 ∨ k = 1 := by omega
      have hs2 := Nat.le_trans hB hp.grown.size
      have hlen : (xs ++ (by2 v).take k).length ≤ 40 := by rw [List.length_append, List.length_take]; omega
      obtain ⟨ys, hys⟩ : ∃ ys, ys = xs ++ (by2 v).take k := ⟨_, rfl⟩
      rw [← hys] at hp hlen
      have hs1 := hp.own
      have HY : Hid _ := hys
      clear hys
      rcases hc with rfl | rfl
      · obtain rfl : m = 0 := by omega
        clear hm hk h8
        go_wp2_with (at_builtin; refine wpList_append_own_at _ rfl _ _ 29 rfl B 5 i0 (.int .u8 0) 1 1 Try.underlying29 hi hz0 hz1 hz2 rfl (by decide) _ _ _ rfl (hs1.alloc _) ⟨_, 0, none⟩ 1 1 _ rfl rfl (one_new _ _ _ _ rfl) (oc _ _) (le_max hlen) (le_bytes hlen) (le_alloc hs2 _) ?_; intro v1 w1 hown1 hgrow1 hnil1 hfar1)
        exact ⟨⟨1, 1, by omega, rfl, by omega, hp.step hown1 rfl rfl hgrow1 hfar1 (by rw [HY.out]; simp [by2])⟩, by simp [intOf]⟩
      · obtain rfl : m = 1 := by omega
        clear hm hk h8
        go_wp2_with (at_builtin; refine wpList_append_own_at _ rfl _ _ 29 rfl B 5 i0 (.int .u8 0) 1 1 Try.underlying29 hi hz0 hz1 hz2 rfl (by decide) _ _ _ rfl (hs1.alloc _) ⟨_, 0, none⟩ 1 1 _ rfl rfl (one_new _ _ _ _ rfl) (oc _ _) (le_max hlen) (le_bytes hlen) (le_alloc hs2 _) ?_; intro v1 w1 hown1 hgrow1 hnil1 hfar1)
        exact ⟨⟨2, 2, by omega, rfl, by omega, hp.step hown1 rfl rfl hgrow1 hfar1 (by rw [HY.out]; simp [by2])⟩, by simp [intOf]⟩
end Go.Proofs.Ytjgnpinokjbhdaa
