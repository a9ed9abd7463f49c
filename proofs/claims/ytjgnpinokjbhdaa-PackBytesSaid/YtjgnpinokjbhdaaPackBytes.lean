/- Sixteen bytes, read and written again, are the same: the law answers true and leaves its arguments alone. No condition beyond the row's own. -/
import Derived.Test.YtjgnpinokjbhdaaF
namespace Go.Proofs.Ytjgnpinokjbhdaa.lawPackBytes
open Go.ChangeShapes Go.WideShapes Go.ChangeAt Go.RowKit
set_option linter.unusedVariables false
set_option linter.unusedSimpArgs false

theorem by4_le4 {x0 x1 x2 x3 : Int} (h0 : U8 x0) (h1 : U8 x1) (h2 : U8 x2) (h3 : U8 x3) : by4 (le4 x0 x1 x2 x3) = [x0, x1, x2, x3] := by
  unfold U8 at *
  simp [by4, le4]
  omega
theorem by2_le2 {x0 x1 : Int} (h0 : U8 x0) (h1 : U8 x1) : by2 (le2 x0 x1) = [x0, x1] := by
  unfold U8 at *
  simp [by2, le2]
  omega
theorem back {x0 x1 x2 x3 x4 x5 x6 x7 x8 x9 x10 x11 x12 x13 x14 x15 : Int} (h0 : U8 x0) (h1 : U8 x1) (h2 : U8 x2) (h3 : U8 x3) (h4 : U8 x4) (h5 : U8 x5) (h6 : U8 x6) (h7 : U8 x7) (h8 : U8 x8) (h9 : U8 x9) (h10 : U8 x10) (h11 : U8 x11) (h12 : U8 x12) (h13 : U8 x13) (h14 : U8 x14) (h15 : U8 x15) : capI (le4 x0 x1 x2 x3) (le4 x4 x5 x6 x7) (le4 x8 x9 x10 x11) (le2 x12 x13) (le2 x14 x15) = [x0, x1, x2, x3, x4, x5, x6, x7, x8, x9, x10, x11, x12, x13, x14, x15] := by
  unfold capI
  rw [by4_le4 h0 h1 h2 h3, by4_le4 h4 h5 h6 h7, by4_le4 h8 h9 h10 h11, by2_le2 h12 h13, by2_le2 h14 h15]
  rfl
theorem eqR (x0 x1 x2 x3 x4 x5 x6 x7 x8 x9 x10 x11 x12 x13 x14 x15 : Int) (w : World) : (binOp .eql 27 (.agg #[.int .u8 x0, .int .u8 x1, .int .u8 x2, .int .u8 x3, .int .u8 x4, .int .u8 x5, .int .u8 x6, .int .u8 x7, .int .u8 x8, .int .u8 x9, .int .u8 x10, .int .u8 x11, .int .u8 x12, .int .u8 x13, .int .u8 x14, .int .u8 x15]) (.agg #[.int .u8 x0, .int .u8 x1, .int .u8 x2, .int .u8 x3, .int .u8 x4, .int .u8 x5, .int .u8 x6, .int .u8 x7, .int .u8 x8, .int .u8 x9, .int .u8 x10, .int .u8 x11, .int .u8 x12, .int .u8 x13, .int .u8 x14, .int .u8 x15])).run Try.prog w = .ok (.bool true) w := by
  have h := run_eqlI (P := Try.prog) w 27 5 16 .u8 Try.underlying27 Try.underlying5 sz5 [x0, x1, x2, x3, x4, x5, x6, x7, x8, x9, x10, x11, x12, x13, x14, x15] [x0, x1, x2, x3, x4, x5, x6, x7, x8, x9, x10, x11, x12, x13, x14, x15] rfl rfl
  simpa using h

set_option maxHeartbeats 1000000 in
theorem walk (x0 x1 x2 x3 x4 x5 x6 x7 x8 x9 x10 x11 x12 x13 x14 x15 : Int) (tg : Bool) (w : World) (h0 : U8 x0) (h1 : U8 x1) (h2 : U8 x2) (h3 : U8 x3) (h4 : U8 x4) (h5 : U8 x5) (h6 : U8 x6) (h7 : U8 x7) (h8 : U8 x8) (h9 : U8 x9) (h10 : U8 x10) (h11 : U8 x11) (h12 : U8 x12) (h13 : U8 x13) (h14 : U8 x14) (h15 : U8 x15) :
    Calls Try.prog 4 #[.agg #[.int .u8 x0, .int .u8 x1, .int .u8 x2, .int .u8 x3, .int .u8 x4, .int .u8 x5, .int .u8 x6, .int .u8 x7, .int .u8 x8, .int .u8 x9, .int .u8 x10, .int .u8 x11, .int .u8 x12, .int .u8 x13, .int .u8 x14, .int .u8 x15], .bool tg] w fun e w' => e = .returned (.bool true) ∧ Below w.heap.size w w' := by
  have ER := eqR x0 x1 x2 x3 x4 x5 x6 x7 x8 x9 x10 x11 x12 x13 x14 x15
  have U0 : U32 (le4 x0 x1 x2 x3) := le4_u h0 h1 h2 h3
  have U1 : U32 (le4 x4 x5 x6 x7) := le4_u h4 h5 h6 h7
  have U2 : U32 (le4 x8 x9 x10 x11) := le4_u h8 h9 h10 h11
  have U3 : U16 (le2 x12 x13) := le2_u h12 h13
  have U4 : U16 (le2 x14 x15) := le2_u h14 h15
  have pk := fun W => put_c tg (le4 x0 x1 x2 x3) (le4 x4 x5 x6 x7) (le4 x8 x9 x10 x11) (le2 x12 x13) (le2 x14 x15) W U0 U1 U2 U3 U4
  rw [back h0 h1 h2 h3 h4 h5 h6 h7 h8 h9 h10 h11 h12 h13 h14 h15] at pk
  simp only [List.map_cons, List.map_nil] at pk
  have gk := fun W => get_c tg x0 x1 x2 x3 x4 x5 x6 x7 x8 x9 x10 x11 x12 x13 x14 x15 W h0 h1 h2 h3 h4 h5 h6 h7 h8 h9 h10 h11 h12 h13 h14 h15
  have rk := fun (W : World) (hB : Blk W w.heap.size #[.int .u8 x0, .int .u8 x1, .int .u8 x2, .int .u8 x3, .int .u8 x4, .int .u8 x5, .int .u8 x6, .int .u8 x7, .int .u8 x8, .int .u8 x9, .int .u8 x10, .int .u8 x11, .int .u8 x12, .int .u8 x13, .int .u8 x14, .int .u8 x15] 27) => rget_c w.heap.size 27 tg x0 x1 x2 x3 x4 x5 x6 x7 x8 x9 x10 x11 x12 x13 x14 x15 W hB h0 h1 h2 h3 h4 h5 h6 h7 h8 h9 h10 h11 h12 h13 h14 h15
  go_enter Try.func4, Try.ntmps4
  go_wp2_with fail
  ((with_reducible refine (known_c _).mono ?_); rintro e w1 ⟨rfl, hb1⟩)
  have d1 := bt (ba (b0 w) (.cells (#[.int .u8 x0, .int .u8 x1, .int .u8 x2, .int .u8 x3, .int .u8 x4, .int .u8 x5, .int .u8 x6, .int .u8 x7, .int .u8 x8, .int .u8 x9, .int .u8 x10, .int .u8 x11, .int .u8 x12, .int .u8 x13, .int .u8 x14, .int .u8 x15] : Array Value) 27)) hb1
  have X0 := (Blk.new w (#[.int .u8 x0, .int .u8 x1, .int .u8 x2, .int .u8 x3, .int .u8 x4, .int .u8 x5, .int .u8 x6, .int .u8 x7, .int .u8 x8, .int .u8 x9, .int .u8 x10, .int .u8 x11, .int .u8 x12, .int .u8 x13, .int .u8 x14, .int .u8 x15] : Array Value) 27 _ rfl).later hb1
  have C0 := X0.cell
  have L0 := X0.lt
  go_wp2_with fail
  ((with_reducible refine (gk _).mono ?_); rintro e w2 ⟨rfl, hb2⟩)
  have d2 := bt d1 hb2
  have X2 := X0.later hb2
  clear C0 L0
  go_upto_region 4 with (fail)
  try simp only [List.append_eq, List.cons_append, List.nil_append]
  refine reg_draw (by kernel_rfl) (by kernel_rfl) (fun W => Below w.heap.size w W ∧ Blk W w.heap.size #[.int .u8 x0, .int .u8 x1, .int .u8 x2, .int .u8 x3, .int .u8 x4, .int .u8 x5, .int .u8 x6, .int .u8 x7, .int .u8 x8, .int .u8 x9, .int .u8 x10, .int .u8 x11, .int .u8 x12, .int .u8 x13, .int .u8 x14, .int .u8 x15] 27 ∧ Blk W w2.heap.size #[.bool tg, .int .u32 (le4 x0 x1 x2 x3), .int .u32 (le4 x4 x5 x6 x7), .int .u32 (le4 x8 x9 x10 x11), .int .u16 (le2 x12 x13), .int .u16 (le2 x14 x15)] 25)
    ⟨ba d2 _, X2.alloc _, Blk.new _ _ _ _ rfl⟩ ?_
  rintro W ⟨D, Y0, Y1⟩
  have C0 := Y0.at_
  have C1 := Y1.at_
  have rk' := fun u : Later W => rk u.w (Y0.later u.below)
  repeat (go_big_quiet_step (first | (go_at_call 7; exact Later.call (pk _)) | (go_at_call 9; exact Later.call (of_c _ _ _ _ _ _ _)) | (go_at_call 11; exact Later.call (rk' _))))
  refine wpQuiet_nil ?_
  rintro _ ⟨u, rfl⟩
  go_wp2
  go_ret
  exact ⟨rfl, bt D u.below⟩

/-! ### The row -/
set_option maxRecDepth 100000 in
theorem lifted (os : Os) (started : os.Started) (H : Type) (enc : TypeId × Value → H) :
    ReturnsInHanded {} Try.checked os 4 .any (Rows.packBytesSpec.pre6 enc Try.prog Try.f4 Rows.packBytesRow.domain false) (Rows.packBytesSpec.post enc Try.prog Try.f4 false true false false) := by
  refine returnsInHanded_of_change (C := Try.checked) own started (by kernel_rfl) Try.func4
    (ChangeSpec.witness6 (enc := enc) (C := Try.checked) false ⟨#[], #[.agg #[.int .u8 0, .int .u8 0, .int .u8 0, .int .u8 0, .int .u8 0, .int .u8 0, .int .u8 0, .int .u8 0, .int .u8 0, .int .u8 0, .int .u8 0, .int .u8 0, .int .u8 0, .int .u8 0, .int .u8 0, .int .u8 0], .bool false], []⟩ 8 (by kernel_rfl) (by kernel_rfl) (by kernel_rfl) (by kernel_rfl)) ?_
  intro W base args ds gs before hval0 hW hcnd _
  have hval : ∀ (j : Nat) t v, Try.f4.params[j]? = some t → args[j]? = some v → Value.okWide Try.prog W .any base t v := hval0
  have hW' := hW
  obtain ⟨p, q, hA0, hV, rfl, hfz, hnd⟩ := hW
  have hA : DataW.TrodAll enc Try.prog W 0 (fun _ => true) true Try.f4.params.toList args.toList ds p := hA0
  rw [Try.params4] at hA hval
  obtain ⟨v0, vs0, d0, ds0, p0, q0, hargs, rfl, rfl, h0, r0⟩ := trodAll_cons hA
  obtain ⟨v1, vs1, d1, ds1, p1, q1, rfl, rfl, rfl, h1, r1⟩ := trodAll_cons r0
  obtain ⟨rfl, rfl, rfl⟩ := trodAll_nil r1
  obtain rfl : args = #[v0, v1] := by cases args; simp_all
  obtain ⟨rfl, rfl⟩ := trodVars_none hV
  have k0 := h0
  have l0 : ∀ x ∈ p0, x.block < W.heap.size := by obtain ⟨m, hm⟩ := k0; exact DataW.trod_lt m _ _ _ hm
  have k1 := h1
  have l1 : ∀ x ∈ p1, x.block < W.heap.size := by obtain ⟨m, hm⟩ := k1; exact DataW.trod_lt m _ _ _ hm
  obtain ⟨x0, x1, x2, x3, x4, x5, x6, x7, x8, x9, x10, x11, x12, x13, x14, x15, rfl, e0, e1, e2, e3, e4, e5, e6, e7, e8, e9, e10, e11, e12, e13, e14, e15⟩ := open_row (hval 0 27 v0 rfl rfl) h0
  obtain ⟨tg, rfl⟩ := okWide_bool Try.underlying4 (hval 1 4 v1 rfl rfl)
  clear hA0 hval0
  refine (walk x0 x1 x2 x3 x4 x5 x6 x7 x8 x9 x10 x11 x12 x13 x14 x15 tg W e0 e1 e2 e3 e4 e5 e6 e7 e8 e9 e10 e11 e12 e13 e14 e15).mono fun e W' ⟨he, bel⟩ => ?_
  subst he
  exact ⟨_, rfl, _, _, _, [], _, [], hW', trodAll_mk1 (shut_bool Try.underlying4 _), (trodAll_cons_mk (Below.trod laidOut (by kernel_rfl) (of_decide_eq_true (by kernel_rfl)) k0 bel l0) (trodAll_cons_mk (Below.trod laidOut (by kernel_rfl) (of_decide_eq_true (by kernel_rfl)) k1 bel l1) trodAll_mk0)), rfl, bel.frame _, fun h => by cases h⟩

theorem said : Rows.PackBytesSaid :=
  OpenClaim.holds_of_wide 4 Try.f4 rfl rfl rfl rfl rfl rfl rfl ⟨rfl, rfl, rfl, rfl, rfl⟩ rfl rfl rfl rfl rfl (by kernel_rfl) Try.func4 (by kernel_rfl)
    (of_decide_eq_true (by kernel_rfl)) (by unfold Func.isWrapper; first | (rw [if_pos (by decide +kernel)]; kernel_rfl) | (rw [if_neg (by decide +kernel)]; exact ⟨rfl, rfl⟩))
    (fun os started H enc _ => lifted os started H enc)
end Go.Proofs.Ytjgnpinokjbhdaa.lawPackBytes
