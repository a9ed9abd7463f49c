/- The contract of the reference's Put over this translation: the same sixteen bytes, in a row of the call's own. No condition but that numbers fit their kinds. -/
import Derived.Test.YtjgnpinokjbhdaaD
import Derived.Deep.RegionHeld3
import Derived.Deep.AppendLies
namespace Go.Proofs.Ytjgnpinokjbhdaa
open Go.RowKit
set_option linter.unusedVariables false
set_option linter.unusedSimpArgs false

theorem Blk.grown {w w' : World} {b : Nat} {c : Array Value} {t : TypeId} {row : Option Nat} (h : Blk w b c t) (hg : w.grownBy w' row) (hne : some b ≠ row) : Blk w' b c t := (hg.block b h.lt hne).trans h
theorem bgrown {w0 w w' : World} {row : Option Nat} {B : Nat} (h : Below B w0 w) (hB : B ≤ w.heap.size) (hg : w.grownBy w' row) (hr : ∀ k, row = some k → B ≤ k) : Below B w0 w' :=
  ⟨hg.os.trans h.os, hg.tape.trans h.tape, hg.output.trans h.output, Nat.le_trans h.size hg.size, fun k hk => (hg.block k (by omega) (fun e => by have := hr k e.symm; omega)).trans (h.block k hk)⟩
theorem below_grown {w w' : World} (h : Below w.heap.size w w') : w.grownBy w' none := ⟨h.os, h.tape, h.output, h.size, fun k hk _ => h.block k hk⟩
theorem Blk.own {w : World} {g : Nat} {l : List Int} (h : Blk w g (l.map (Value.int .u8)).toArray 5) {base n : Nat} (hb : base ≤ g) (hn : l.length = n) (hm : n ≤ 40) : w.ownsRow base 5 1 (.slice (some ⟨g, 0, none⟩) n n) n (l.map (Value.int .u8)) :=
  ⟨by simp [hn], .inr ⟨g, n, _, rfl, hb, h, Nat.le_refl _, by unfold maxLen; omega, by simp [hn], by subst hn; simp [List.take_of_length_le]⟩⟩
theorem Blk.news {w : World} {g : Nat} {l : List Int} (h : Blk w g (l.map (Value.int .u8)).toArray 5) : ∀ j u, (l.map (Value.int .u8))[j]? = some u → w.cell? ((⟨g, 0, none⟩ : Addr).add j) = some u := by
  have := World.news_of_block (cs := (l.map (Value.int .u8)).toArray) (t := 5) (fr := (0, 0)) h
  simpa using this
theorem one_cell (l : List Int) : ∀ u ∈ l.map (Value.int .u8), u.oneCell' = true := by
  intro u hu
  obtain ⟨x, -, rfl⟩ := List.mem_map.1 hu
  rfl
theorem word_l (v : Int) (w : World) (hv : U32 v) : Calls Try.prog 13 #[.int .u32 v] w fun e w' => ∃ H, e = .returned (.slice (some ⟨H, 0, none⟩) 4 4) ∧ w.heap.size ≤ H ∧ Blk w' H ((by4 v).map (Value.int .u8)).toArray 5 ∧ Below w.heap.size w w' :=
  (word_c v w hv).mono fun e w' ⟨he, hw⟩ => ⟨w.heap.size, he, Nat.le_refl _, by rw [hw]; exact Blk.new _ _ _ _ rfl, by rw [hw]; exact ba (b0 _) _⟩

set_option maxHeartbeats 1000000 in
theorem rput_c (tg : Bool) (b t a p y : Int) (w : World) (hb : U32 b) (ht : U32 t) (ha : U32 a) (hp : U16 p) (hy : U16 y) :
    Calls Try.prog 8 #[.agg #[.bool tg, .int .u32 b, .int .u32 t, .int .u32 a, .int .u16 p, .int .u16 y]] w fun e w' => ∃ g cap, e = .returned (.slice (some ⟨g, 0, none⟩) 16 cap) ∧ w'.ownsRow (w.heap.size + 1) 5 1 (.slice (some ⟨g, 0, none⟩) 16 cap) 16 ((capI b t a p y).map (Value.int .u8)) ∧ Below w.heap.size w w' := by
  obtain ⟨i0, hi, hz0, hz1, hz2⟩ := info_parts Try.info5
  go_enter Try.func8, Try.ntmps8
  go_upto_region 1 with (fail)
  obtain ⟨w0, hw0⟩ : ∃ w0, w0 = w.alloc (.cells #[.bool tg, .int .u32 b, .int .u32 t, .int .u32 a, .int .u16 p, .int .u16 y] 31) := ⟨_, rfl⟩
  have X0 : Blk w0.drew w.heap.size #[.bool tg, .int .u32 b, .int .u32 t, .int .u32 a, .int .u16 p, .int .u16 y] 31 := by rw [hw0]; exact Blk.new _ _ _ _ rfl
  have bel0 : Below w.heap.size w w0.drew := by rw [hw0]; exact (ba (b0 _) _).drew
  rw [← hw0]
  clear hw0
  go_region_held3 (fun w' => Blk w' w.heap.size #[.bool tg, .int .u32 b, .int .u32 t, .int .u32 a, .int .u16 p, .int .u16 y] 31 ∧ ∀ o, w'.cell? ⟨w.heap.size, o, none⟩ = (#[.bool tg, .int .u32 b, .int .u32 t, .int .u32 a, .int .u16 p, .int .u16 y] : Array Value)[o]?)
    (first
      | exact ⟨X0, X0.cell⟩
      | exact ⟨X0.later hbA, (X0.later hbA).cell⟩
      | exact ⟨(X0.later hbA).later hbB, ((X0.later hbA).later hbB).cell⟩
      | exact ⟨X3, X3.cell⟩)
    (first
      | (have hB' := hbA; clear hB'; go_at_call 13; (with_reducible refine (word_l _ _ (by assumption)).mono ?_); rintro e wB ⟨HB, rfl, hHB, RB, hbB⟩)
      | (go_at_call 13; (with_reducible refine (word_l _ _ (by assumption)).mono ?_); rintro e wA ⟨HA, rfl, hHA, RA, hbA⟩)
      | (refine step_append_lies _ (by rfl) _ _ _ (by rfl) (w.heap.size + 1) 5 i0 _ 1 1 Try.underlying29 hi hz0 hz1 hz2 rfl (by omega) (.slice (some ⟨HA, 0, none⟩) 4 4) 4 ((by4 b).map (Value.int .u8)) (by rfl) ((RA.later hbB).own (by have := X0.lt; omega) rfl (by omega)) ⟨HB, 0, none⟩ 4 4 ((by4 t).map (Value.int .u8)) (by rfl) (by rfl) RB.news (one_cell _)
          (by omega) (by unfold maxLen; omega) (by omega) (by have := RB.lt; have := hbA.size; have := X0.lt; omega) _ rfl ?_
         intro g3 cap3 w3 own3 grow3 at3 lt3
         have X3 : Blk w3 w.heap.size #[.bool tg, .int .u32 b, .int .u32 t, .int .u32 a, .int .u16 p, .int .u16 y] 31 := ((X0.later hbA).later hbB).grown grow3 (by have := X0.lt; simp [Value.ownBlock]; omega)))
  have bel3 : Below w.heap.size w w3 := bgrown (bt (bt bel0 hbA) hbB) (by have := RB.lt; have := hbA.size; have := X0.lt; omega) grow3 (by intro k hk; have := X0.lt; simp [Value.ownBlock] at hk; omega)
  have C3 := X3.cell
  have L3 := X3.lt
  have own3' : w3.ownsRow (w.heap.size + 1) 5 1 (.slice (some ⟨g3, 0, none⟩) 8 cap3) 8 ((by4 b ++ by4 t).map (Value.int .u8)) := by rw [List.map_append]; exact own3
  have B3 := (own3'.lt g3 rfl).1
  clear own3 X0 RA RB hbA hbB hHA hHB at3 grow3 bel0
  have p0 := hp.1
  have p1 := hp.2
  have y0 := hy.1
  have y1 := hy.2
  go_upto_region 2 with (fail)
  go_wp2_with (first
    | (go_at_call 13; (with_reducible refine (word_l _ _ (by assumption)).mono ?_); rintro e w4 ⟨H4, rfl, hH4, R4, hb4⟩; have X4 := X3.later hb4; have own4 := own3'.kept (below_grown hb4) (.inr (by simp [Value.ownBlock])); have L4 := X4.lt; have bel4 := bt bel3 hb4)
    | (at_builtin; have hX4 := X4
       refine wpList_append_lies _ rfl _ _ 29 rfl (w.heap.size + 1) 5 i0 _ 1 1 Try.underlying29 hi hz0 hz1 hz2 rfl (by omega) (.slice (some ⟨g3, 0, none⟩) 8 cap3) 8 ((by4 b ++ by4 t).map (Value.int .u8)) (by rfl) own4 ⟨H4, 0, none⟩ 4 4 ((by4 a).map (Value.int .u8)) (by rfl) (by rfl) R4.news (one_cell _)
          (by omega) (by unfold maxLen; omega) (by omega) (by omega) _ rfl ?_
       intro g5 cap5 w5 own5 grow5 at5 lt5
       have X5 := X4.grown grow5 (by simp [Value.ownBlock]; omega)
       have bel5 := bgrown bel4 (by omega) grow5 (by intro k hk; simp [Value.ownBlock] at hk; omega)
       have C5 := X5.cell
       have L5 := X5.lt
       have own5' : w5.ownsRow (w.heap.size + 1) 5 1 (.slice (some ⟨g5, 0, none⟩) 12 cap5) 12 ((by4 b ++ by4 t ++ by4 a).map (Value.int .u8)) := own5
       have B5 := (own5'.lt g5 rfl).1
       clear X4 own4 R4 hb4 bel4 hX4 grow5 at5 own5)
    | (at_builtin; have hX5 := X5
       refine wpList_append_lies _ rfl _ _ 29 rfl (w.heap.size + 1) 5 i0 _ 1 1 Try.underlying29 hi hz0 hz1 hz2 rfl (by omega) (.slice (some ⟨g5, 0, none⟩) 12 cap5) 12 ((by4 b ++ by4 t ++ by4 a).map (Value.int .u8)) (by rfl) (own5'.alloc _) ⟨w5.heap.size, 0, none⟩ 4 4 ([p % 256, p / 256, y % 256, y / 256].map (Value.int .u8)) (by rfl) (by rfl) (Blk.news (l := [p % 256, p / 256, y % 256, y / 256]) (Blk.new w5 _ 5 _ rfl)) (one_cell _)
          (by omega) (by unfold maxLen; omega) (by omega) (by simp; omega) _ rfl ?_
       intro g6 cap6 w6 own6 grow6 at6 lt6
       have bel6 := bgrown (ba bel5 _) (by simp; omega) grow6 (by intro k hk; simp [Value.ownBlock] at hk; omega)))
  go_ret
  exact ⟨g6, cap6, rfl, own6, bel6⟩
end Go.Proofs.Ytjgnpinokjbhdaa
