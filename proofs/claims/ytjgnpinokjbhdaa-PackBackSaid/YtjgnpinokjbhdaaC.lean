/- The contract of pack.Put over this translation: a capability's sixteen bytes; nothing that was there is changed. No condition but that numbers fit their kinds. -/
import Derived.Test.YtjgnpinokjbhdaaB
namespace Go.Proofs.Ytjgnpinokjbhdaa
open Go.RowKit
set_option linter.unusedVariables false
set_option linter.unusedSimpArgs false

theorem PutPost.trans {w wr w' : World} {B : Nat} {sv v v' : Value} {ys zs : List Int} (h : PutPost w wr B sv v ys) (k : PutPost wr w' B v v' zs) : PutPost w w' B sv v' zs := by
  have h1 := h.grown.size
  refine ⟨k.own, ⟨k.grown.os.trans h.grown.os, k.grown.tape.trans h.grown.tape, k.grown.output.trans h.grown.output, Nat.le_trans h1 k.grown.size, fun i hi hne => ?_⟩, fun g hg => ?_⟩
  · have hne' : some i ≠ v.ownBlock := by
      intro e
      rcases h.far i e.symm with h2 | h2
      · exact hne h2.symm
      · omega
    rw [k.grown.block i (by omega) hne', h.grown.block i hi hne]
  · rcases k.far g hg with h2 | h2
    · exact h.far g h2
    · exact .inr (by omega)
theorem PutPost.cell {w w' : World} {B : Nat} {sv v : Value} {ys : List Int} (h : PutPost w w' B sv v ys) {b : Nat} (hb : b < w.heap.size) (hne : some b ≠ sv.ownBlock) : (∀ o, w'.cell? ⟨b, o, none⟩ = w.cell? ⟨b, o, none⟩) ∧ (∀ o, w'.frozen? ⟨b, o, none⟩ = w.frozen? ⟨b, o, none⟩) ∧ b < w'.heap.size :=
  ⟨fun o => World.cell?_of_block (a := ⟨b, o, none⟩) (h.grown.block b hb hne), fun o => World.frozen?_of_block (a := ⟨b, o, none⟩) (h.grown.block b hb hne), Nat.lt_of_lt_of_le hb h.grown.size⟩
theorem PutPost.below {w w' : World} {B : Nat} {sv v : Value} {ys : List Int} (h : PutPost w w' B sv v ys) {C : Nat} (hC : C ≤ w.heap.size) (hs : ∀ g, sv.ownBlock = some g → C ≤ g) : Below C w w' :=
  ⟨h.grown.os, h.grown.tape, h.grown.output, h.grown.size, fun k hk => h.grown.block k (by omega) (fun e => by have := hs k e.symm; omega)⟩
/-- A capability's bytes. -/
def capI (b t a p y : Int) : List Int := by4 b ++ by4 t ++ by4 a ++ by2 p ++ by2 y

set_option maxHeartbeats 2000000 in
theorem put_c (tg : Bool) (b t a p y : Int) (w : World) (hb : U32 b) (ht : U32 t) (ha : U32 a) (hp : U16 p) (hy : U16 y) :
    Calls Try.prog 7 #[.agg #[.bool tg, .int .u32 b, .int .u32 t, .int .u32 a, .int .u16 p, .int .u16 y]] w fun e w' => e = .returned (.agg ((capI b t a p y).map (Value.int .u8)).toArray) ∧ Below w.heap.size w w' := by
  go_enter Try.func7, Try.ntmps7
  go_wp2
  go_loopw [3, 16] (fun bval i wr => ∃ (k : Nat) (m : Int), k ≤ 3 ∧ i = .int .i64 m ∧ m = (k : Int) ∧ PutPost (((w.alloc (.cells #[.bool tg, .int .u32 b, .int .u32 t, .int .u32 a, .int .u16 p, .int .u16 y] 25)).alloc (.cells #[.int .u8 0, .int .u8 0, .int .u8 0, .int .u8 0, .int .u8 0, .int .u8 0, .int .u8 0, .int .u8 0, .int .u8 0, .int .u8 0, .int .u8 0, .int .u8 0, .int .u8 0, .int .u8 0, .int .u8 0, .int .u8 0] 27)).alloc (.cells #[.int .u32 b, .int .u32 t, .int .u32 a] 22)) wr (w.heap.size + 3) (.slice none 0 0) bval (([b, t, a].take k).flatMap by4)) (fun _ i _ => (3 - intOf i).toNat)
  case atStart => exact ⟨0, 0, by omega, rfl, rfl, PutPost.start (World.ownsRow_nil _ _ _ _)⟩
  case round =>
    obtain ⟨k, m, hk, rfl, hm, hq⟩ := hrel
    obtain ⟨c0, f0, z0⟩ := hq.cell (b := w.heap.size) (by simp; omega) (by simp [Value.ownBlock])
    obtain ⟨c1, f1, z1⟩ := hq.cell (b := w.heap.size + 1) (by simp) (by simp [Value.ownBlock])
    obtain ⟨c2, f2, z2⟩ := hq.cell (b := w.heap.size + 1 + 1) (by simp) (by simp [Value.ownBlock])
    have k0 : ∀ o, wr.cell? ⟨w.heap.size, o, none⟩ = (#[.bool tg, .int .u32 b, .int .u32 t, .int .u32 a, .int .u16 p, .int .u16 y] : Array Value)[o]? := fun o => (c0 o).trans (by rw [World.cell?_alloc_past _ _ _ (by simp; omega), World.cell?_alloc_past _ _ _ (by simp), World.cell?_alloc_at _ _ _ _ rfl])
    have k1 : ∀ o, wr.cell? ⟨w.heap.size + 1, o, none⟩ = (#[.int .u8 0, .int .u8 0, .int .u8 0, .int .u8 0, .int .u8 0, .int .u8 0, .int .u8 0, .int .u8 0, .int .u8 0, .int .u8 0, .int .u8 0, .int .u8 0, .int .u8 0, .int .u8 0, .int .u8 0, .int .u8 0] : Array Value)[o]? := fun o => (c1 o).trans (by rw [World.cell?_alloc_past _ _ _ (by simp), World.cell?_alloc_at _ _ _ _ (by simp)])
    have k2 : ∀ o, wr.cell? ⟨w.heap.size + 1 + 1, o, none⟩ = (#[.int .u32 b, .int .u32 t, .int .u32 a] : Array Value)[o]? := fun o => (c2 o).trans (World.cell?_alloc_at _ _ _ _ (by simp))
    have g1 : ∀ o, wr.frozen? ⟨w.heap.size + 1, o, none⟩ = false := fun o => (f1 o).trans (by simp [go_sem])
    have hB3 : w.heap.size + 3 ≤ wr.heap.size := by have := hq.grown.size; simp at this; omega
    have bel : Below w.heap.size w wr := (ba (ba (ba (b0 _) _) _) _).trans (hq.below (by simp; omega) (by simp [Value.ownBlock]))
    clear c0 c1 c2 f0 f1 f2
    by_cases h8 : k = 3
    · subst h8
      obtain rfl : m = 3 := by omega
      clear hm hk
      have own1 := hq.own
      have lt1 := own1.lt
      go_wp2
      obtain ⟨wo, rfl⟩ : ∃ wo : World, wo = wr := ⟨_, rfl⟩
      obtain ⟨uo, rfl⟩ : ∃ uo : Value, uo = u3 := ⟨_, rfl⟩
      have p0 := hp.1
      have p1 := hp.2
      have y0 := hy.1
      have y1 := hy.2
      go_loopw [3, 30] (fun bval i wq => ∃ (k : Nat) (m : Int), k ≤ 2 ∧ i = .int .i64 m ∧ m = (k : Int) ∧ PutPost (wo.alloc (.cells #[.int .u16 p, .int .u16 y] 23)) wq (w.heap.size + 3) uo bval (((List.take 3 [b, t, a]).flatMap by4) ++ (List.take k [p, y]).flatMap by2)) (fun _ i _ => (2 - intOf i).toNat)
      case atStart => exact ⟨0, 0, by omega, rfl, rfl, by rw [List.take_zero, List.flatMap_nil, List.append_nil]; exact PutPost.start (own1.alloc _)⟩
      case round =>
        obtain ⟨k, m, hk, rfl, hm, hq2⟩ := hrel
        have hw2 : w.heap.size + 3 ≤ wo.heap.size := hB3
        obtain ⟨d1, e1, s1⟩ := hq2.cell (b := w.heap.size + 1) (by simp; omega) (fun e => by have := lt1 _ e.symm; omega)
        obtain ⟨d3, e3, s3⟩ := hq2.cell (b := wo.heap.size) (by simp) (fun e => by have := lt1 _ e.symm; omega)
        have j1 : ∀ o, wr.cell? ⟨w.heap.size + 1, o, none⟩ = (#[.int .u8 0, .int .u8 0, .int .u8 0, .int .u8 0, .int .u8 0, .int .u8 0, .int .u8 0, .int .u8 0, .int .u8 0, .int .u8 0, .int .u8 0, .int .u8 0, .int .u8 0, .int .u8 0, .int .u8 0, .int .u8 0] : Array Value)[o]? := fun o => (d1 o).trans (by rw [World.cell?_alloc_past _ _ _ (by first | omega | (simp; omega)), k1])
        have j3 : ∀ o, wr.cell? ⟨wo.heap.size, o, none⟩ = (#[.int .u16 p, .int .u16 y] : Array Value)[o]? := fun o => (d3 o).trans (World.cell?_alloc_at _ _ _ _ rfl)
        have l1 : ∀ o, wr.frozen? ⟨w.heap.size + 1, o, none⟩ = false := fun o => (e1 o).trans (by rw [World.frozen?_alloc_past _ _ _ (by first | omega | (simp; omega)), g1])
        have hB4 : w.heap.size + 3 ≤ wr.heap.size := by have := hq2.grown.size; simp at this; omega
        have bel2 : Below w.heap.size w wr := (bel.alloc (by omega) _).trans (hq2.below (by simp; omega) (fun g hg => by have := lt1 g hg; omega))
        have own2 := hq2.own
        clear d1 e1 d3 e3 k0 k1 k2 g1 hq bel
        by_cases h8 : k = 2
        · subst h8
          obtain rfl : m = 2 := by omega
          clear hm hk hq2
          have own3 : wr.ownsRow (w.heap.size + 3) 5 1 u3 16 ((capI b t a p y).map (Value.int .u8)) := own2
          obtain ⟨g, cap, rfl⟩ : ∃ g cap, u3 = .slice (some ⟨g, 0, none⟩) 16 cap := by
            rcases own3.2 with h | ⟨g, cap, cur, h, _⟩
            · exact absurd h.2 (by omega)
            · exact ⟨g, cap, h⟩
          have cc : ∀ j (hj : j < 16), wr.cell? ⟨g, j, none⟩ = ((capI b t a p y).map (Value.int .u8))[j]? := fun j hj => own3.cellAt j (by omega)
          have m0 : wr.cell? ⟨g, 0, none⟩ = some (.int .u8 (b % 256)) := cc 0 (by omega)
          have m1 : wr.cell? ⟨g, 1, none⟩ = some (.int .u8 (b / 256 % 256)) := cc 1 (by omega)
          have m2 : wr.cell? ⟨g, 2, none⟩ = some (.int .u8 (b / 65536 % 256)) := cc 2 (by omega)
          have m3 : wr.cell? ⟨g, 3, none⟩ = some (.int .u8 (b / 16777216)) := cc 3 (by omega)
          have m4 : wr.cell? ⟨g, 4, none⟩ = some (.int .u8 (t % 256)) := cc 4 (by omega)
          have m5 : wr.cell? ⟨g, 5, none⟩ = some (.int .u8 (t / 256 % 256)) := cc 5 (by omega)
          have m6 : wr.cell? ⟨g, 6, none⟩ = some (.int .u8 (t / 65536 % 256)) := cc 6 (by omega)
          have m7 : wr.cell? ⟨g, 7, none⟩ = some (.int .u8 (t / 16777216)) := cc 7 (by omega)
          have m8 : wr.cell? ⟨g, 8, none⟩ = some (.int .u8 (a % 256)) := cc 8 (by omega)
          have m9 : wr.cell? ⟨g, 9, none⟩ = some (.int .u8 (a / 256 % 256)) := cc 9 (by omega)
          have m10 : wr.cell? ⟨g, 10, none⟩ = some (.int .u8 (a / 65536 % 256)) := cc 10 (by omega)
          have m11 : wr.cell? ⟨g, 11, none⟩ = some (.int .u8 (a / 16777216)) := cc 11 (by omega)
          have m12 : wr.cell? ⟨g, 12, none⟩ = some (.int .u8 (p % 256)) := cc 12 (by omega)
          have m13 : wr.cell? ⟨g, 13, none⟩ = some (.int .u8 (p / 256)) := cc 13 (by omega)
          have m14 : wr.cell? ⟨g, 14, none⟩ = some (.int .u8 (y % 256)) := cc 14 (by omega)
          have m15 : wr.cell? ⟨g, 15, none⟩ = some (.int .u8 (y / 256)) := cc 15 (by omega)
          have hat : ∀ w, (Instr.arrayAt 27 (.slice (some ⟨g, 0, none⟩) 16 cap)).run Try.prog w = .ok (.pointer (some ⟨g, 0, none⟩)) w := fun w => run_arrayAt w 27 _ 16 _ 16 cap Try.underlying27 (Nat.le_refl _)
          clear cc own2 own3 j3 own1 lt1
          go_wp2
          refine bodyPost_ret (v := .agg ((capI b t a p y).map (Value.int .u8)).toArray) (by simp [results, Try.results7, go_sem, j1, capI, by4, by2]) rfl ⟨rfl, ?_⟩
          repeat (first | (with_reducible exact bel2) | (with_reducible refine bs ?_ (by simp) _))
        · have hc : k = 0 ∨ k = 1 := by omega
          rcases hc with rfl | rfl
          · obtain rfl : m = 0 := by omega
            clear hm hk h8
            have hL : ((List.take 3 [b, t, a]).flatMap by4 ++ (List.take 0 [p, y]).flatMap by2).length ≤ 16 := by simp [by4]
            go_wp2_with (go_at_call 12; refine (put2_c _ _ _ _ _ hq2.own hB4 hL hp).mono ?_; rintro e w1 ⟨sv1, rfl, hq3⟩)
            exact ⟨⟨1, 1, by omega, rfl, by omega, hq2.trans hq3⟩, by simp [intOf]⟩
          · obtain rfl : m = 1 := by omega
            clear hm hk h8
            have hL : ((List.take 3 [b, t, a]).flatMap by4 ++ (List.take 1 [p, y]).flatMap by2).length ≤ 16 := by simp [by4, by2]
            go_wp2_with (go_at_call 12; refine (put2_c _ _ _ _ _ hq2.own hB4 hL hy).mono ?_; rintro e w1 ⟨sv1, rfl, hq3⟩)
            exact ⟨⟨2, 2, by omega, rfl, by omega, hq2.trans hq3⟩, by simp [intOf]⟩
    · have hc : k = 0 ∨ k = 1 ∨ k = 2 := by omega
      rcases hc with rfl | rfl | rfl
      · obtain rfl : m = 0 := by omega
        clear hm hk h8
        have hL : ((List.take 0 [b, t, a]).flatMap by4).length ≤ 16 := by simp [by4]
        go_wp2_with (go_at_call 12; refine (put4_c _ _ _ _ _ hq.own hB3 hL hb).mono ?_; rintro e w1 ⟨sv1, rfl, hq1⟩)
        exact ⟨⟨1, 1, by omega, rfl, by omega, hq.trans hq1⟩, by simp [intOf]⟩
      · obtain rfl : m = 1 := by omega
        clear hm hk h8
        have hL : ((List.take 1 [b, t, a]).flatMap by4).length ≤ 16 := by simp [by4]
        go_wp2_with (go_at_call 12; refine (put4_c _ _ _ _ _ hq.own hB3 hL ht).mono ?_; rintro e w1 ⟨sv1, rfl, hq1⟩)
        exact ⟨⟨2, 2, by omega, rfl, by omega, hq.trans hq1⟩, by simp [intOf]⟩
      · obtain rfl : m = 2 := by omega
        clear hm hk h8
        have hL : ((List.take 2 [b, t, a]).flatMap by4).length ≤ 16 := by simp [by4]
        go_wp2_with (go_at_call 12; refine (put4_c _ _ _ _ _ hq.own hB3 hL ha).mono ?_; rintro e w1 ⟨sv1, rfl, hq1⟩)
        exact ⟨⟨3, 3, by omega, rfl, by omega, hq.trans hq1⟩, by simp [intOf]⟩
end Go.Proofs.Ytjgnpinokjbhdaa
