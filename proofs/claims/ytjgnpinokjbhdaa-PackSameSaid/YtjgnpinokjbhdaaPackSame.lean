/- Two capabilities of one and the same bytes are one, but for the tag: the law answers true and leaves its arguments alone. No condition beyond the row's own. -/
import Derived.Test.YtjgnpinokjbhdaaF
namespace Go.Proofs.Ytjgnpinokjbhdaa.lawPackSame
open Go.ChangeShapes Go.WideShapes Go.ChangeAt Go.RowKit
set_option linter.unusedVariables false
set_option linter.unusedSimpArgs false

set_option maxHeartbeats 1000000 in
theorem walk (ctg : Bool) (cb ct ca cp cy : Int) (dtg : Bool) (db dt da dp dy : Int) (w : World) (hcb : U32 cb) (hct : U32 ct) (hca : U32 ca) (hcp : U16 cp) (hcy : U16 cy) (hdb : U32 db) (hdt : U32 dt) (hda : U32 da) (hdp : U16 dp) (hdy : U16 dy) :
    Calls Try.prog 5 #[.agg #[.bool ctg, .int .u32 cb, .int .u32 ct, .int .u32 ca, .int .u16 cp, .int .u16 cy], .agg #[.bool dtg, .int .u32 db, .int .u32 dt, .int .u32 da, .int .u16 dp, .int .u16 dy]] w fun e w' => e = .returned (.bool true) ∧ Below w.heap.size w w' := by
  have EA := eqA
  have EC := eqC
  have IN := capI_inj hcb hct hca hcp hcy hdb hdt hda hdp hdy
  go_enter Try.func5, Try.ntmps5
  go_wp2_with fail
  ((with_reducible refine (known_c _).mono ?_); rintro e w1 ⟨rfl, hb1⟩)
  have d1 := bt (ba (ba (b0 w) (.cells (#[.bool ctg, .int .u32 cb, .int .u32 ct, .int .u32 ca, .int .u16 cp, .int .u16 cy] : Array Value) 25)) (.cells (#[.bool dtg, .int .u32 db, .int .u32 dt, .int .u32 da, .int .u16 dp, .int .u16 dy] : Array Value) 25)) hb1
  have X0 := ((Blk.new w (#[.bool ctg, .int .u32 cb, .int .u32 ct, .int .u32 ca, .int .u16 cp, .int .u16 cy] : Array Value) 25 _ rfl).alloc (.cells (#[.bool dtg, .int .u32 db, .int .u32 dt, .int .u32 da, .int .u16 dp, .int .u16 dy] : Array Value) 25)).later hb1
  have X1 := (Blk.new (w.alloc (.cells (#[.bool ctg, .int .u32 cb, .int .u32 ct, .int .u32 ca, .int .u16 cp, .int .u16 cy] : Array Value) 25)) (#[.bool dtg, .int .u32 db, .int .u32 dt, .int .u32 da, .int .u16 dp, .int .u16 dy] : Array Value) 25 (w.heap.size + 1) (by simp)).later hb1
  have C0 := X0.cell
  have C1 := X1.cell
  have L0 := X0.lt
  have L1 := X1.lt
  go_upto_region 5 with (fail)
  try simp only [List.append_eq, List.cons_append, List.nil_append]
  refine reg_draw (by kernel_rfl) (by kernel_rfl) (fun W => Below w.heap.size w W ∧ Blk W w.heap.size #[.bool ctg, .int .u32 cb, .int .u32 ct, .int .u32 ca, .int .u16 cp, .int .u16 cy] 25 ∧ Blk W (w.heap.size + 1) #[.bool dtg, .int .u32 db, .int .u32 dt, .int .u32 da, .int .u16 dp, .int .u16 dy] 25 ∧ Blk W w1.heap.size #[.bool dtg, .int .u32 cb, .int .u32 ct, .int .u32 ca, .int .u16 cp, .int .u16 cy] 25)
    ⟨ba d1 _, X0.alloc _, X1.alloc _, Blk.new _ _ _ _ rfl⟩ ?_
  clear C0 C1 L0 L1
  rintro W ⟨D, Y0, Y1, Y2⟩
  have C0 := Y0.at_
  have C1 := Y1.at_
  have C2 := Y2.at_
  repeat (go_big_quiet_step (first | (go_at_call 7; exact Later.call (put_c _ _ _ _ _ _ _ (by assumption) (by assumption) (by assumption) (by assumption) (by assumption)))))
  refine wpQuiet_nil ?_
  rintro _ ⟨u, rfl⟩
  go_wp2
  go_ret
  exact ⟨by simp [IN], bt D u.below⟩

/-! ### The row -/
set_option maxRecDepth 100000 in
theorem lifted (os : Os) (started : os.Started) (H : Type) (enc : TypeId × Value → H) :
    ReturnsInHanded {} Try.checked os 5 .any (Rows.packSameSpec.pre6 enc Try.prog Try.f5 Rows.packSameRow.domain false) (Rows.packSameSpec.post enc Try.prog Try.f5 false true false false) := by
  refine returnsInHanded_of_change (C := Try.checked) own started (by kernel_rfl) Try.func5
    (ChangeSpec.witness6 (enc := enc) (C := Try.checked) false ⟨#[], #[.agg #[.bool false, .int .u32 0, .int .u32 0, .int .u32 0, .int .u16 0, .int .u16 0], .agg #[.bool false, .int .u32 0, .int .u32 0, .int .u32 0, .int .u16 0, .int .u16 0]], []⟩ 8 (by kernel_rfl) (by kernel_rfl) (by kernel_rfl) (by kernel_rfl)) ?_
  intro W base args ds gs before hval0 hW hcnd _
  have hval : ∀ (j : Nat) t v, Try.f5.params[j]? = some t → args[j]? = some v → Value.okWide Try.prog W .any base t v := hval0
  have hW' := hW
  obtain ⟨p, q, hA0, hV, rfl, hfz, hnd⟩ := hW
  have hA : DataW.TrodAll enc Try.prog W 0 (fun _ => true) true Try.f5.params.toList args.toList ds p := hA0
  rw [Try.params5] at hA hval
  obtain ⟨v0, vs0, d0, ds0, p0, q0, hargs, rfl, rfl, h0, r0⟩ := trodAll_cons hA
  obtain ⟨v1, vs1, d1, ds1, p1, q1, rfl, rfl, rfl, h1, r1⟩ := trodAll_cons r0
  obtain ⟨rfl, rfl, rfl⟩ := trodAll_nil r1
  obtain rfl : args = #[v0, v1] := by cases args; simp_all
  obtain ⟨rfl, rfl⟩ := trodVars_none hV
  have k0 := h0
  have l0 : ∀ x ∈ p0, x.block < W.heap.size := by obtain ⟨m, hm⟩ := k0; exact DataW.trod_lt m _ _ _ hm
  have k1 := h1
  have l1 : ∀ x ∈ p1, x.block < W.heap.size := by obtain ⟨m, hm⟩ := k1; exact DataW.trod_lt m _ _ _ hm
  obtain ⟨ctg, cb, ct, ca, cp, cy, rfl, hcb, hct, hca, hcp, hcy⟩ := open_cap (hval 0 25 v0 rfl rfl) h0
  obtain ⟨dtg, db, dt, da, dp, dy, rfl, hdb, hdt, hda, hdp, hdy⟩ := open_cap (hval 1 25 v1 rfl rfl) h1
  clear hA0 hval0
  refine (walk ctg cb ct ca cp cy dtg db dt da dp dy W hcb hct hca hcp hcy hdb hdt hda hdp hdy).mono fun e W' ⟨he, bel⟩ => ?_
  subst he
  exact ⟨_, rfl, _, _, _, [], _, [], hW', trodAll_mk1 (shut_bool Try.underlying4 _), (trodAll_cons_mk (Below.trod laidOut (by kernel_rfl) (of_decide_eq_true (by kernel_rfl)) k0 bel l0) (trodAll_cons_mk (Below.trod laidOut (by kernel_rfl) (of_decide_eq_true (by kernel_rfl)) k1 bel l1) trodAll_mk0)), rfl, bel.frame _, fun h => by cases h⟩

theorem said : Rows.PackSameSaid :=
  OpenClaim.holds_of_wide 5 Try.f5 rfl rfl rfl rfl rfl rfl rfl ⟨rfl, rfl, rfl, rfl, rfl⟩ rfl rfl rfl rfl rfl (by kernel_rfl) Try.func5 (by kernel_rfl)
    (of_decide_eq_true (by kernel_rfl)) (by unfold Func.isWrapper; first | (rw [if_pos (by decide +kernel)]; kernel_rfl) | (rw [if_neg (by decide +kernel)]; exact ⟨rfl, rfl⟩))
    (fun os started H enc _ => lifted os started H enc)
end Go.Proofs.Ytjgnpinokjbhdaa.lawPackSame
