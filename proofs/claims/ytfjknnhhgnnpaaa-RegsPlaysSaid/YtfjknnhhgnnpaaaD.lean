/- The law's own 'known' answers true in every world; nothing that was there is changed. -/
import Derived.Test.YtfjknnhhgnnpaaaC
import Derived.BigQuiet
namespace Go.Proofs.Ytfjknnhhgnnpaaa
open Go.RowKit
set_option linter.unusedVariables false
set_option linter.unusedSimpArgs false

def c0 : Nat → Cp := fun _ => Cp.int 0
def c3 : Nat → Cp := upd c0 3 (Cp.int 7)
theorem c3_lit : fileC c3 = #[.bool false, .int .u32 0, .int .u32 0, .int .u32 0, .int .u16 0, .int .u16 0, .bool false, .int .u32 0, .int .u32 0, .int .u32 0, .int .u16 0, .int .u16 0, .bool false, .int .u32 0, .int .u32 0, .int .u32 0, .int .u16 0, .int .u16 0, .bool false, .int .u32 0, .int .u32 0, .int .u32 7, .int .u16 0, .int .u16 0, .bool false, .int .u32 0, .int .u32 0, .int .u32 0, .int .u16 0, .int .u16 0, .bool false, .int .u32 0, .int .u32 0, .int .u32 0, .int .u16 0, .int .u16 0, .bool false, .int .u32 0, .int .u32 0, .int .u32 0, .int .u16 0, .int .u16 0, .bool false, .int .u32 0, .int .u32 0, .int .u32 0, .int .u16 0, .int .u16 0, .bool false, .int .u32 0, .int .u32 0, .int .u32 0, .int .u16 0, .int .u16 0, .bool false, .int .u32 0, .int .u32 0, .int .u32 0, .int .u16 0, .int .u16 0, .bool false, .int .u32 0, .int .u32 0, .int .u32 0, .int .u16 0, .int .u16 0, .bool false, .int .u32 0, .int .u32 0, .int .u32 0, .int .u16 0, .int .u16 0, .bool false, .int .u32 0, .int .u32 0, .int .u32 0, .int .u16 0, .int .u16 0, .bool false, .int .u32 0, .int .u32 0, .int .u32 0, .int .u16 0, .int .u16 0, .bool false, .int .u32 0, .int .u32 0, .int .u32 0, .int .u16 0, .int .u16 0, .bool false, .int .u32 0, .int .u32 0, .int .u32 0, .int .u16 0, .int .u16 0] := by unfold fileC; rfl
theorem int_v (v : Int) (w : World) : Calls Try.prog 12 #[.int .u32 v] w fun e w' => e = .returned (Cp.int v).val ∧ Below w.heap.size w w' := int_c v w
theorem idx3 : ∀ w, (Instr.index 40 (.agg #[.bool false, .int .u32 0, .int .u32 0, .int .u32 0, .int .u16 0, .int .u16 0, .bool false, .int .u32 0, .int .u32 0, .int .u32 0, .int .u16 0, .int .u16 0, .bool false, .int .u32 0, .int .u32 0, .int .u32 0, .int .u16 0, .int .u16 0, .bool false, .int .u32 0, .int .u32 0, .int .u32 7, .int .u16 0, .int .u16 0, .bool false, .int .u32 0, .int .u32 0, .int .u32 0, .int .u16 0, .int .u16 0, .bool false, .int .u32 0, .int .u32 0, .int .u32 0, .int .u16 0, .int .u16 0, .bool false, .int .u32 0, .int .u32 0, .int .u32 0, .int .u16 0, .int .u16 0, .bool false, .int .u32 0, .int .u32 0, .int .u32 0, .int .u16 0, .int .u16 0, .bool false, .int .u32 0, .int .u32 0, .int .u32 0, .int .u16 0, .int .u16 0, .bool false, .int .u32 0, .int .u32 0, .int .u32 0, .int .u16 0, .int .u16 0, .bool false, .int .u32 0, .int .u32 0, .int .u32 0, .int .u16 0, .int .u16 0, .bool false, .int .u32 0, .int .u32 0, .int .u32 0, .int .u16 0, .int .u16 0, .bool false, .int .u32 0, .int .u32 0, .int .u32 0, .int .u16 0, .int .u16 0, .bool false, .int .u32 0, .int .u32 0, .int .u32 0, .int .u16 0, .int .u16 0, .bool false, .int .u32 0, .int .u32 0, .int .u32 0, .int .u16 0, .int .u16 0, .bool false, .int .u32 0, .int .u32 0, .int .u32 0, .int .u16 0, .int .u16 0]) (.int .i64 3)).run Try.prog w = .ok (.agg #[.bool false, .int .u32 0, .int .u32 0, .int .u32 7, .int .u16 0, .int .u16 0] : Value) w := fun w => by kernel_rfl
theorem fld3 (x0 x1 x2 x3 x4 x5 : Value) (w : World) : (Instr.field 31 (.agg #[x0, x1, x2, x3, x4, x5]) 3).run Try.prog w = .ok x3 w := by kernel_rfl

set_option maxRecDepth 20000 in
set_option maxHeartbeats 1000000 in
theorem known_c (w : World) : Calls Try.prog 5 #[] w fun e w' => e = .returned (.bool true) ∧ Below w.heap.size w w' := by
  have F3 := fld3
  have X3 := idx3
  have IZ : ∀ W, Calls Try.prog 12 #[.int .u32 0] W fun e w' => e = .returned (.agg #[.bool false, .int .u32 0, .int .u32 0, .int .u32 0, .int .u16 0, .int .u16 0] : Value) ∧ Below W.heap.size W w' := fun W => int_c 0 W
  have IV : ∀ W, Calls Try.prog 12 #[.int .u32 7] W fun e w' => e = .returned (.agg #[.bool false, .int .u32 0, .int .u32 0, .int .u32 7, .int .u16 0, .int .u16 0] : Value) ∧ Below W.heap.size W w' := fun W => int_c 7 W
  go_enter Try.func5, Try.ntmps5
  go_wp2_with fail
  ((with_reducible refine (new_c _).mono ?_); rintro e w1 ⟨g1, rfl, hg1, B1, hb1⟩)
  have L1 := B1.lt
  go_wp2_with fail
  ((with_reducible refine (int_v _ _).mono ?_); rintro e w2 ⟨rfl, hb2⟩)
  have B2 := B1.later hb2
  have d2 := bt hb1 hb2
  go_wp2_with fail
  (refine (set_c g1 3 c0 (Cp.int 7) _ B2 (by omega) (by omega)).mono ?_; rintro e w3 ⟨rfl, B3, G3⟩)
  have d3 := bgrown d2 (by have := d2.size; omega) G3 (by intro k hk; have := Option.some.inj hk; omega)
  clear B1 B2 hb1 hb2 d2 L1
  go_wp2_with fail
  ((with_reducible refine (int_v _ _).mono ?_); rintro e w4 ⟨rfl, hb4⟩)
  go_wp2_with fail
  (refine (set_no g1 0 (Cp.int 7) _ (by omega)).mono ?_; rintro e w5 ⟨rfl, hb5⟩)
  have B5 := (B3.later hb4).later hb5
  have d5 := bt (bt d3 hb4) hb5
  clear B3 G3 d3 hb4 hb5
  go_wp2_with fail
  ((with_reducible refine (int_v _ _).mono ?_); rintro e w6 ⟨rfl, hb6⟩)
  go_wp2_with fail
  (refine (set_no g1 16 (Cp.int 7) _ (by omega)).mono ?_; rintro e w7 ⟨rfl, hb7⟩)
  have B7 := (B5.later hb6).later hb7
  have d7 := bt (bt d5 hb6) hb7
  clear B5 d5 hb6 hb7
  go_wp2_with fail
  ((with_reducible refine (twin_c g1 _ _ B7).mono ?_); rintro e w8 ⟨g2, rfl, hg2, T8, hb8⟩)
  have B8 := B7.later hb8
  have d8 := bt d7 hb8
  have L7 := B7.lt
  clear B7 d7 hb8
  go_wp2_with fail
  have S8 := Blk.new w8 #[.int .i64 4] 3 _ rfl
  have I8 : Ints (w8.alloc (.cells #[.int .i64 4] 3)) (.slice (some ⟨w8.heap.size, 0, none⟩) 1 1) [4] := .inr ⟨_, _, _, _, rfl, rfl, by omega, fun j hj => by
    obtain rfl : j = 0 := by omega
    exact S8.cell 0⟩
  have L8 := B8.lt
  (refine (keep_c g1 _ [4] c3 _ (B8.alloc _) I8 (by intro e; have h : w8.heap.size = g1 := Option.some.inj e; omega)).mono ?_; rintro e w9 ⟨rfl, B9, G9⟩)
  have T9 := (T8.alloc (.cells #[.int .i64 4] 3)).grown G9 (by intro e; have := Option.some.inj e; omega)
  have d9 := bgrown (ba d8 (.cells #[.int .i64 4] 3)) (by have := d8.size; simp; omega) G9 (by intro k hk; have := Option.some.inj hk; omega)
  clear B8 T8 d8 S8 I8 G9 L7 L8
  go_upto_region 9 with (fail)
  try simp only [List.append_eq, List.cons_append, List.nil_append]
  refine reg_plain (fun W => Below w.heap.size w W ∧ Blk W g1 (fileC (keepC c3 [4] 16)) 48 ∧ Blk W g2 (fileC c3) 48) ⟨d9, B9, T9⟩ ?_
  clear B9 T9 d9
  rintro W ⟨D, Y1, Y2⟩
  have G1 : ∀ u : Later W, Calls Try.prog 14 #[.pointer (some ⟨g1, 0, none⟩), .int .i64 3] u.w fun e w' => e = .returned (.agg #[.bool false, .int .u32 0, .int .u32 0, .int .u32 0, .int .u16 0, .int .u16 0] : Value) ∧ Below u.w.heap.size u.w w' := fun u => get_c g1 3 _ u.w (Y1.later u.below) (by omega) (by omega)
  have G2 : ∀ u : Later W, Calls Try.prog 14 #[.pointer (some ⟨g2, 0, none⟩), .int .i64 3] u.w fun e w' => e = .returned (.agg #[.bool false, .int .u32 0, .int .u32 0, .int .u32 7, .int .u16 0, .int .u16 0] : Value) ∧ Below u.w.heap.size u.w w' := fun u => get_c g2 3 _ u.w (Y2.later u.below) (by omega) (by omega)
  have G3 : ∀ u : Later W, Calls Try.prog 14 #[.pointer (some ⟨g2, 0, none⟩), .int .i64 0] u.w fun e w' => e = .returned (.agg #[.bool false, .int .u32 0, .int .u32 0, .int .u32 0, .int .u16 0, .int .u16 0] : Value) ∧ Below u.w.heap.size u.w w' := fun u => get_no g2 0 u.w (by omega)
  have G4 : ∀ u : Later W, Calls Try.prog 13 #[.pointer (some ⟨g2, 0, none⟩)] u.w fun e w' => e = .returned (.agg #[.bool false, .int .u32 0, .int .u32 0, .int .u32 0, .int .u16 0, .int .u16 0, .bool false, .int .u32 0, .int .u32 0, .int .u32 0, .int .u16 0, .int .u16 0, .bool false, .int .u32 0, .int .u32 0, .int .u32 0, .int .u16 0, .int .u16 0, .bool false, .int .u32 0, .int .u32 0, .int .u32 7, .int .u16 0, .int .u16 0, .bool false, .int .u32 0, .int .u32 0, .int .u32 0, .int .u16 0, .int .u16 0, .bool false, .int .u32 0, .int .u32 0, .int .u32 0, .int .u16 0, .int .u16 0, .bool false, .int .u32 0, .int .u32 0, .int .u32 0, .int .u16 0, .int .u16 0, .bool false, .int .u32 0, .int .u32 0, .int .u32 0, .int .u16 0, .int .u16 0, .bool false, .int .u32 0, .int .u32 0, .int .u32 0, .int .u16 0, .int .u16 0, .bool false, .int .u32 0, .int .u32 0, .int .u32 0, .int .u16 0, .int .u16 0, .bool false, .int .u32 0, .int .u32 0, .int .u32 0, .int .u16 0, .int .u16 0, .bool false, .int .u32 0, .int .u32 0, .int .u32 0, .int .u16 0, .int .u16 0, .bool false, .int .u32 0, .int .u32 0, .int .u32 0, .int .u16 0, .int .u16 0, .bool false, .int .u32 0, .int .u32 0, .int .u32 0, .int .u16 0, .int .u16 0, .bool false, .int .u32 0, .int .u32 0, .int .u32 0, .int .u16 0, .int .u16 0, .bool false, .int .u32 0, .int .u32 0, .int .u32 0, .int .u16 0, .int .u16 0]) ∧ Below u.w.heap.size u.w w' := fun u => by
    have h := all_c g2 c3 u.w (Y2.later u.below)
    rw [c3_lit] at h
    exact h
  clear Y1 Y2
  repeat (go_big_quiet_step (first
    | (go_at_call 14; with_reducible exact Later.call (G1 _))
    | (go_at_call 14; with_reducible exact Later.call (G2 _))
    | (go_at_call 14; with_reducible exact Later.call (G3 _))
    | (go_at_call 12; with_reducible exact Later.call (IZ _))
    | (go_at_call 12; with_reducible exact Later.call (IV _))
    | (go_at_call 13; with_reducible exact Later.call (G4 _))))
  refine wpQuiet_nil ?_
  rintro _ ⟨u, rfl⟩
  go_wp2
  go_ret
  exact ⟨rfl, bt D u.below⟩
end Go.Proofs.Ytfjknnhhgnnpaaa
