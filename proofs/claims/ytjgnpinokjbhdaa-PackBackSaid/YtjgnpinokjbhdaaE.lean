/- The contracts of the reference's Get, of the law's own Of and known. No condition but that bytes are bytes. -/
import Derived.Test.YtjgnpinokjbhdaaD
import Derived.StillTailTactics
namespace Go.Proofs.Ytjgnpinokjbhdaa
open Go.RowKit
set_option linter.unusedVariables false
set_option linter.unusedSimpArgs false

theorem of_c (tg : Bool) (b t a p y : Int) (w : World) :
    Calls Try.prog 9 #[.agg #[.bool tg, .int .u32 b, .int .u32 t, .int .u32 a, .int .u16 p, .int .u16 y]] w fun e w' => e = .returned (.agg #[.bool tg, .int .u32 b, .int .u32 t, .int .u32 a, .int .u16 p, .int .u16 y]) ∧ Below w.heap.size w w' := by
  go_enter Try.func9, Try.ntmps9
  go_wp2
  refine bodyPost_ret (v := .agg #[.bool tg, .int .u32 b, .int .u32 t, .int .u32 a, .int .u16 p, .int .u16 y]) (by simp [results, Try.results9, go_sem]) rfl ⟨rfl, by repeat (first | (with_reducible exact b0 _) | (with_reducible refine bs ?_ (by first | (simp; done) | (simp; omega)) _) | (with_reducible refine ba ?_ _) | (with_reducible refine Below.drew ?_))⟩

theorem flip {P : Program} {f : FuncId} {args : Array Value} {w : World} {v : Value} (h : Calls P f args w fun e w' => e = .returned v ∧ w = w') : Calls P f args w fun e w' => e = .returned v ∧ w' = w :=
  h.mono fun _ _ ⟨a, b⟩ => ⟨a, b.symm⟩

set_option maxHeartbeats 1000000 in
theorem rget_c (g : Nat) (t : TypeId) (tg : Bool) (x0 x1 x2 x3 x4 x5 x6 x7 x8 x9 x10 x11 x12 x13 x14 x15 : Int) (w : World) (hB : Blk w g #[.int .u8 x0, .int .u8 x1, .int .u8 x2, .int .u8 x3, .int .u8 x4, .int .u8 x5, .int .u8 x6, .int .u8 x7, .int .u8 x8, .int .u8 x9, .int .u8 x10, .int .u8 x11, .int .u8 x12, .int .u8 x13, .int .u8 x14, .int .u8 x15] t) (h0 : U8 x0) (h1 : U8 x1) (h2 : U8 x2) (h3 : U8 x3) (h4 : U8 x4) (h5 : U8 x5) (h6 : U8 x6) (h7 : U8 x7) (h8 : U8 x8) (h9 : U8 x9) (h10 : U8 x10) (h11 : U8 x11) (h12 : U8 x12) (h13 : U8 x13) (h14 : U8 x14) (h15 : U8 x15) :
    Calls Try.prog 11 #[.slice (some ⟨g, 0, none⟩) 16 16, .bool tg] w fun e w' => e = .returned (.agg #[.bool tg, .int .u32 (le4 x0 x1 x2 x3), .int .u32 (le4 x4 x5 x6 x7), .int .u32 (le4 x8 x9 x10 x11), .int .u16 (le2 x12 x13), .int .u16 (le2 x14 x15)]) ∧ Below w.heap.size w w' := by
  have p12 := (le2_u h12 h13).1
  have q12 := (le2_u h12 h13).2
  have p14 := (le2_u h14 h15).1
  have q14 := (le2_u h14 h15).2
  go_enter Try.func11, Try.ntmps11
  go_upto_region 1 with (fail)
  obtain ⟨w0, hw0⟩ : ∃ w0, w0 = w.alloc (.cells #[.bool false, .int .u32 0, .int .u32 0, .int .u32 0, .int .u16 0, .int .u16 0] 31) := ⟨_, rfl⟩
  have B0 : Blk w0 g #[.int .u8 x0, .int .u8 x1, .int .u8 x2, .int .u8 x3, .int .u8 x4, .int .u8 x5, .int .u8 x6, .int .u8 x7, .int .u8 x8, .int .u8 x9, .int .u8 x10, .int .u8 x11, .int .u8 x12, .int .u8 x13, .int .u8 x14, .int .u8 x15] t := by rw [hw0]; exact hB.alloc _
  have B1 : Blk w0 w.heap.size #[.bool false, .int .u32 0, .int .u32 0, .int .u32 0, .int .u16 0, .int .u16 0] 31 := by rw [hw0]; exact Blk.new _ _ _ _ rfl
  have bel : Below w.heap.size w w0 := by rw [hw0]; exact ba (b0 _) _
  rw [← hw0]
  clear hw0
  refine wp_region_still_tail 19 (by kernel_rfl) (by kernel_rfl) ?_
  simp only [List.take_succ_cons, List.take_zero, List.drop_succ_cons, List.drop_zero]
  still_step
  still_step
  still_step
  still_call (flip (rWord4_c g 0 16 x0 x1 x2 x3 _ (B0.cell 0) (B0.cell 1) (B0.cell 2) (B0.cell 3) h0 h1 h2 h3))
  still_step
  still_step
  still_call (flip (rWord4_c g 4 12 x4 x5 x6 x7 _ (B0.cell 4) (B0.cell 5) (B0.cell 6) (B0.cell 7) h4 h5 h6 h7))
  still_step
  still_step
  still_call (flip (rWord4_c g 8 8 x8 x9 x10 x11 _ (B0.cell 8) (B0.cell 9) (B0.cell 10) (B0.cell 11) h8 h9 h10 h11))
  still_step
  still_step
  still_call (flip (rWord2_c g 12 4 x12 x13 _ (B0.cell 12) (B0.cell 13) h12 h13))
  still_step
  still_step
  still_step
  still_call (flip (rWord2_c g 14 2 x14 x15 _ (B0.cell 14) (B0.cell 15) h14 h15))
  still_step
  still_step
  refine wpStill_nil ?_
  change wpList _ _ _ _ _ w0.drew
  have B2 : Blk w0.drew w.heap.size #[.bool false, .int .u32 0, .int .u32 0, .int .u32 0, .int .u16 0, .int .u16 0] 31 := B1
  have bel2 : Below w.heap.size w w0.drew := bel.drew
  generalize w0.drew = w2 at B2 bel2 ⊢
  have C2 := B2.cell
  have S2 := B2.soft
  have L2 := B2.lt
  go_wp2
  refine bodyPost_ret (v := .agg #[.bool tg, .int .u32 (le4 x0 x1 x2 x3), .int .u32 (le4 x4 x5 x6 x7), .int .u32 (le4 x8 x9 x10 x11), .int .u16 (le2 x12 x13), .int .u16 (le2 x14 x15)]) (by simp [results, Try.results11, go_sem, C2, L2]) rfl ⟨rfl, ?_⟩
  repeat (first | (with_reducible exact bel2) | (with_reducible refine bs ?_ (by simp) _))

theorem fld0 (x0 x1 x2 x3 x4 x5 : Value) (w : World) : (Instr.field 25 (.agg #[x0, x1, x2, x3, x4, x5]) 0).run Try.prog w = .ok x0 w := by kernel_rfl
theorem cap_known : capI 1 512 3 4 5 = [1, 0, 0, 0, 0, 2, 0, 0, 3, 0, 0, 0, 4, 0, 5, 0] := by decide
set_option maxHeartbeats 1000000 in
theorem known_c (w : World) : Calls Try.prog 6 #[] w fun e w' => e = .returned (.bool true) ∧ Below w.heap.size w w' := by
  have e0 := cap_known
  have F0 := fld0
  have pk := fun W => put_c true 1 512 3 4 5 W ⟨by decide, by decide⟩ ⟨by decide, by decide⟩ ⟨by decide, by decide⟩ ⟨by decide, by decide⟩ ⟨by decide, by decide⟩
  rw [e0] at pk
  simp only [List.map_cons, List.map_nil] at pk
  have gk : ∀ (tg : Bool) (W : World), Calls Try.prog 10 #[.agg #[.int .u8 1, .int .u8 0, .int .u8 0, .int .u8 0, .int .u8 0, .int .u8 2, .int .u8 0, .int .u8 0, .int .u8 3, .int .u8 0, .int .u8 0, .int .u8 0, .int .u8 4, .int .u8 0, .int .u8 5, .int .u8 0], .bool tg] W fun e w' => e = .returned (.agg #[.bool tg, .int .u32 1, .int .u32 512, .int .u32 3, .int .u16 4, .int .u16 5]) ∧ Below W.heap.size W w' :=
    fun tg W => get_c tg 1 0 0 0 0 2 0 0 3 0 0 0 4 0 5 0 W ⟨by decide, by decide⟩ ⟨by decide, by decide⟩ ⟨by decide, by decide⟩ ⟨by decide, by decide⟩ ⟨by decide, by decide⟩ ⟨by decide, by decide⟩ ⟨by decide, by decide⟩ ⟨by decide, by decide⟩ ⟨by decide, by decide⟩ ⟨by decide, by decide⟩ ⟨by decide, by decide⟩ ⟨by decide, by decide⟩ ⟨by decide, by decide⟩ ⟨by decide, by decide⟩ ⟨by decide, by decide⟩ ⟨by decide, by decide⟩
  clear e0
  go_enter Try.func6, Try.ntmps6
  go_wp2_with fail
  ((with_reducible refine (pk _).mono ?_); rintro e w1 ⟨rfl, hb1⟩)
  have d1 := bt (ba (b0 w) (.cells (#[.bool true, .int .u32 1, .int .u32 512, .int .u32 3, .int .u16 4, .int .u16 5] : Array Value) 25)) hb1
  have X1 := ((Blk.new w (#[.bool true, .int .u32 1, .int .u32 512, .int .u32 3, .int .u16 4, .int .u16 5] : Array Value) 25 _ rfl).later hb1)
  go_upto_region 3 with (fail)
  try simp only [List.append_eq, List.cons_append, List.nil_append]
  refine reg_draw (by kernel_rfl) (by kernel_rfl) (fun W => Below w.heap.size w W ∧ Blk W w.heap.size #[.bool true, .int .u32 1, .int .u32 512, .int .u32 3, .int .u16 4, .int .u16 5] 25 ∧ Blk W w1.heap.size #[.int .u8 1, .int .u8 0, .int .u8 0, .int .u8 0, .int .u8 0, .int .u8 2, .int .u8 0, .int .u8 0, .int .u8 3, .int .u8 0, .int .u8 0, .int .u8 0, .int .u8 4, .int .u8 0, .int .u8 5, .int .u8 0] 27) ⟨ba d1 _, X1.alloc _, Blk.new _ _ _ _ rfl⟩ ?_
  rintro W ⟨D, Y0, Y1⟩
  have C0 := Y0.at_
  have C1 := Y1.at_
  repeat (go_big_quiet_step (first | (go_at_call 10; exact Later.call (gk _ _))))
  refine wpQuiet_nil ?_
  rintro _ ⟨u, rfl⟩
  go_wp2
  go_ret
  exact ⟨rfl, bt D u.below⟩
end Go.Proofs.Ytjgnpinokjbhdaa
