/- Whether bytes lie in bounds, whether one is less, its words, as the document says: the law answers true and leaves its arguments alone. No condition beyond the row's own. -/
import Derived.Test.YtfhmkmbdfeoegaaDoorCards
import Derived.Test.YtfhmkmbdfeoegaaDoorTie
import Derived.Test.YtfhmkmbdfeoegaaDoorM
import Derived.Deep.DeepHandedRow
namespace Go.Proofs.YtfhmkmbdfeoegaaDoor.lawCapAsks
open Go.ChangeShapes Go.WideShapes Go.ChangeAt Go.RowKit
set_option linter.unusedVariables false
set_option linter.unusedSimpArgs false

set_option maxHeartbeats 1000000 in
theorem walk (ctg : Bool) (cb ct ca cp cy : Int) (dtg : Bool) (db dt da dp dy : Int) (x : Int) (n : Int) (w : World) (htab : Tab w) (hcb : U32 cb) (hct : U32 ct) (hca : U32 ca) (hcp : U16 cp) (hcy : U16 cy) (hdb : U32 db) (hdt : U32 dt) (hda : U32 da) (hdp : U16 dp) (hdy : U16 dy) (hx : U32 x) (hn : U32 n) :
    Calls Tryd.prog 7 #[.agg #[.bool ctg, .int .u32 cb, .int .u32 ct, .int .u32 ca, .int .u16 cp, .int .u16 cy], .agg #[.bool dtg, .int .u32 db, .int .u32 dt, .int .u32 da, .int .u16 dp, .int .u16 dy], .int .u32 x, .int .u32 n] w fun e w' => e = .returned (.bool true) ∧ Below w.heap.size w w' := by
  go_enter Tryd.func7, Tryd.ntmps7
  go_wp2_with fail
  ((with_reducible refine (known_c _ (htab.later (ba (ba (b0 w) (.cells (#[.bool ctg, .int .u32 cb, .int .u32 ct, .int .u32 ca, .int .u16 cp, .int .u16 cy] : Array Value) 25)) (.cells (#[.bool dtg, .int .u32 db, .int .u32 dt, .int .u32 da, .int .u16 dp, .int .u16 dy] : Array Value) 25)))).mono ?_); rintro e w1 ⟨rfl, hb1⟩)
  have d1 := bt (ba (ba (b0 w) (.cells (#[.bool ctg, .int .u32 cb, .int .u32 ct, .int .u32 ca, .int .u16 cp, .int .u16 cy] : Array Value) 25)) (.cells (#[.bool dtg, .int .u32 db, .int .u32 dt, .int .u32 da, .int .u16 dp, .int .u16 dy] : Array Value) 25)) hb1
  have Xc1 := ((Box.alloc (Box.new_at w (#[.bool ctg, .int .u32 cb, .int .u32 ct, .int .u32 ca, .int .u16 cp, .int .u16 cy] : Array Value) 25 (w.heap.size) (by first | rfl | (simp; done) | (simp; omega))) (.cells (#[.bool dtg, .int .u32 db, .int .u32 dt, .int .u32 da, .int .u16 dp, .int .u16 dy] : Array Value) 25))).later hb1
  have kc1 := Xc1.2
  have lc1 := Xc1.1
  have Xd1 := (Box.new_at (w.alloc (.cells #[.bool ctg, .int .u32 cb, .int .u32 ct, .int .u32 ca, .int .u16 cp, .int .u16 cy] 25)) (#[.bool dtg, .int .u32 db, .int .u32 dt, .int .u32 da, .int .u16 dp, .int .u16 dy] : Array Value) 25 (w.heap.size + 1) (by first | rfl | (simp; done) | (simp; omega))).later hb1
  have kd1 := Xd1.2
  have ld1 := Xd1.1
  go_upto_region 3 with (fail)
  try simp only [List.append_eq, List.cons_append, List.nil_append]
  refine reg_draw (by kernel_rfl) (by kernel_rfl) (fun W => Tab W ∧ Below w.heap.size w W ∧ Box W (w.heap.size) #[.bool ctg, .int .u32 cb, .int .u32 ct, .int .u32 ca, .int .u16 cp, .int .u16 cy] ∧ Box W (w.heap.size + 1) #[.bool dtg, .int .u32 db, .int .u32 dt, .int .u32 da, .int .u16 dp, .int .u16 dy]) ⟨htab.later d1, d1, Xc1, Xd1⟩ ?_
  rintro W ⟨T, D, Yc, Yd⟩
  have Cc := Yc.at_
  have Cd := Yd.at_
  repeat (go_big_quiet_step (first | (go_at_call 22; exact Later.call (has_c _ _ _ _ _ _ _ _ _ (by assumption) (by assumption) (by assumption))) | (go_at_call 23; exact Later.call (of_c _ _ _ _ _ _ _)) | (go_at_call 34; exact Later.call (rhas_c _ _ _ _ _ _ _ _ _ (by assumption) (by assumption) (by assumption))) | (go_at_call 35; exact Later.call (sub_c _ _ _ _ _ _ _ _ _ _ _ _ _)) | (go_at_call 36; exact Later.call (rsub_c _ _ _ _ _ _ _ _ _ _ _ _ _)) | (go_at_call 37; exact Later.call (ctext_c _ _ _ _ _ _ _ (by assumption) (by assumption) (by assumption) (by assumption) (by assumption) (Tab.at' T _))) | (go_at_call 38; exact Later.call (rctext_c _ _ _ _ _ _ _ (by assumption) (by assumption) (by assumption) (by assumption) (by assumption)))))
  refine wpQuiet_nil ?_
  rintro _ ⟨u, rfl⟩
  go_wp2
  go_ret
  exact ⟨rfl, bt D u.below⟩

/-! ### The row -/
set_option maxRecDepth 100000 in
theorem contract (H : Type) (enc : TypeId × Value → H) (W : World) (base : Nat) (args : Array Value) (ds gs : List (DataW H)) (before : List MemPlace)
    (hval : ∀ (j : Nat) t v, Tryd.f7.params[j]? = some t → args[j]? = some v → Value.okWide Tryd.prog W .any base t v)
    (hW : DataW.Whole enc Tryd.prog Tryd.f7.params.toList Rows.capAsksSpec.vars false W args.toList ds gs before) (hL : laidMetH Tryd.prog Rows.capAsksRow.laid W) :
    Calls Tryd.prog 7 args W fun e W' => ∃ v, e = .returned v ∧ Rows.capAsksSpec.post enc Tryd.prog Tryd.f7 false true false false W args v W' := by
  have hW' := hW
  obtain ⟨p, q, hA0, hV, rfl, hfz, hnd⟩ := hW
  have hA : DataW.TrodAll enc Tryd.prog W 0 (fun _ => true) true Tryd.f7.params.toList args.toList ds p := hA0
  rw [Tryd.params7] at hA hval
  obtain ⟨v0, vs0, d0, ds0, p0, q0, hargs, rfl, rfl, h0, r0⟩ := trodAll_cons hA
  obtain ⟨v1, vs1, d1, ds1, p1, q1, rfl, rfl, rfl, h1, r1⟩ := trodAll_cons r0
  obtain ⟨v2, vs2, d2, ds2, p2, q2, rfl, rfl, rfl, h2, r2⟩ := trodAll_cons r1
  obtain ⟨v3, vs3, d3, ds3, p3, q3, rfl, rfl, rfl, h3, r3⟩ := trodAll_cons r2
  obtain ⟨rfl, rfl, rfl⟩ := trodAll_nil r3
  obtain rfl : args = #[v0, v1, v2, v3] := by cases args; simp_all
  obtain ⟨rfl, rfl⟩ := trodVars_none hV
  have k0 := h0
  have l0 : ∀ x ∈ p0, x.block < W.heap.size := by obtain ⟨m, hm⟩ := k0; exact DataW.trod_lt m _ _ _ hm
  obtain ⟨ctg, cb, ct, ca, cp, cy, rfl, hcb, hct, hca, hcp, hcy⟩ := open_cap (hval 0 25 v0 rfl rfl) h0
  have k1 := h1
  have l1 : ∀ x ∈ p1, x.block < W.heap.size := by obtain ⟨m, hm⟩ := k1; exact DataW.trod_lt m _ _ _ hm
  obtain ⟨dtg, db, dt, da, dp, dy, rfl, hdb, hdt, hda, hdp, hdy⟩ := open_cap (hval 1 25 v1 rfl rfl) h1
  have k2 := h2
  have l2 : ∀ x ∈ p2, x.block < W.heap.size := by obtain ⟨m, hm⟩ := k2; exact DataW.trod_lt m _ _ _ hm
  obtain ⟨x, rfl, -, -, w2⟩ := open_int Tryd.underlying22 (hval 2 22 v2 rfl rfl) h2
  have hx : U32 x := bounds_u32 w2
  have k3 := h3
  have l3 : ∀ x ∈ p3, x.block < W.heap.size := by obtain ⟨m, hm⟩ := k3; exact DataW.trod_lt m _ _ _ hm
  obtain ⟨n, rfl, -, -, w3⟩ := open_int Tryd.underlying22 (hval 3 22 v3 rfl rfl) h3
  have hn : U32 n := bounds_u32 w3
  clear hA0
  refine (walk ctg cb ct ca cp cy dtg db dt da dp dy x n W (tab_of hL) hcb hct hca hcp hcy hdb hdt hda hdp hdy hx hn).mono fun e W' ⟨he, bel⟩ => ?_
  subst he
  exact ⟨_, rfl, _, _, _, [], _, [], hW', trodAll_mk1 (shut_bool Tryd.underlying4 _), (trodAll_cons_mk (Below.trod laidOut (by kernel_rfl) (of_decide_eq_true (by kernel_rfl)) k0 bel l0) (trodAll_cons_mk (Below.trod laidOut (by kernel_rfl) (of_decide_eq_true (by kernel_rfl)) k1 bel l1) (trodAll_cons_mk (Below.trod laidOut (by kernel_rfl) (of_decide_eq_true (by kernel_rfl)) k2 bel l2) (trodAll_cons_mk (Below.trod laidOut (by kernel_rfl) (of_decide_eq_true (by kernel_rfl)) k3 bel l3) trodAll_mk0)))), rfl, bel.frame _, fun h => by cases h⟩

theorem laid_met (os : Os) : laidMet Tryd.prog Rows.capAsksRow.laid ((laidWorld os).forCall (fun _ _ => 0) ⟨#[], #[.agg #[.bool false, .int .u32 0, .int .u32 0, .int .u32 0, .int .u16 0, .int .u16 0], .agg #[.bool false, .int .u32 0, .int .u32 0, .int .u32 0, .int .u16 0, .int .u16 0], .int .u32 0, .int .u32 0], []⟩).memory :=
  laidMet_of_run' 8 (by kernel_rfl) (by kernel_rfl)
theorem reads (os : Os) {H : Type} (enc : TypeId × Value → H) : ∃ places, DataW.whole enc Tryd.prog ((laidWorld os).forCall (fun _ _ => 0) ⟨#[], #[.agg #[.bool false, .int .u32 0, .int .u32 0, .int .u32 0, .int .u16 0, .int .u16 0], .agg #[.bool false, .int .u32 0, .int .u32 0, .int .u32 0, .int .u16 0, .int .u16 0], .int .u32 0, .int .u32 0], []⟩).memory Tryd.f7.params.toList Rows.capAsksSpec.vars false (#[.agg #[.bool false, .int .u32 0, .int .u32 0, .int .u32 0, .int .u16 0, .int .u16 0], .agg #[.bool false, .int .u32 0, .int .u32 0, .int .u32 0, .int .u16 0, .int .u16 0], .int .u32 0, .int .u32 0] : Array Value).toList 8 = some ([.agg [.lit (.bool false), .lit (.int .u32 0), .lit (.int .u32 0), .lit (.int .u32 0), .lit (.int .u16 0), .lit (.int .u16 0)], .agg [.lit (.bool false), .lit (.int .u32 0), .lit (.int .u32 0), .lit (.int .u32 0), .lit (.int .u16 0), .lit (.int .u16 0)], .lit (.int .u32 0), .lit (.int .u32 0)], [], places) :=
  ⟨[], by kernel_rfl⟩

set_option maxRecDepth 100000 in
theorem lifted (os : Os) (started : os.Started) (H : Type) (enc : TypeId × Value → H) (F : Stop.Interp) :
    ReturnsInHanded {} Tryd.checked os 7 .any ((OpenSpec.ofChange Rows.capAsksSpec).preRow enc Tryd.prog Tryd.f7 Rows.capAsksRow.domain false Rows.capAsksRow.laid) (((OpenSpec.ofChange Rows.capAsksSpec).at F).post enc Tryd.prog Tryd.f7 false true false false) := by
  obtain ⟨places, hx⟩ := reads os enc
  refine returnsInHanded_of_row (C := Tryd.checked) (s := OpenSpec.ofChange Rows.capAsksSpec) own started (by kernel_rfl) Tryd.func7
    (witness_row_at (enc := enc) (C := Tryd.checked) false (laidWorld os) #[.agg #[.bool false, .int .u32 0, .int .u32 0, .int .u32 0, .int .u16 0, .int .u16 0], .agg #[.bool false, .int .u32 0, .int .u32 0, .int .u32 0, .int .u16 0, .int .u16 0], .int .u32 0, .int .u32 0] rfl (by kernel_rfl) (by kernel_rfl) (by kernel_rfl)
      (OpenSpec.preRow_of_cond 8 hx (by kernel_rfl) (fun k hk => by cases hk) (by kernel_rfl) (laid_met os))) ?_
  intro W base args ds gs before hval hW _ _ _ hL _ _
  exact contract H enc W base args ds gs before hval hW hL

theorem said : Rows.CapAsksSaid :=
  OpenClaim.holds_of_cond 7 Tryd.f7 rfl rfl rfl rfl rfl rfl rfl ⟨rfl, rfl, rfl, rfl, rfl⟩ rfl rfl rfl rfl rfl (by kernel_rfl) Tryd.func7 (by kernel_rfl)
    (of_decide_eq_true (by kernel_rfl)) (by unfold Func.isWrapper; first | (rw [if_pos (by decide +kernel)]; kernel_rfl) | (rw [if_neg (by decide +kernel)]; exact ⟨rfl, rfl⟩))
    (fun os started H enc _ F => by rw [OpenClaim.pre_eq_preRow]; exact lifted os started H enc F)

theorem plain (f : FuncId) (fn : Func) (hf : Tryd.pinned.checked.prog.funcNamed "hasp/hasplaw2.CapAsks" = some f) (hfn : Tryd.pinned.checked.prog.funcs[f]? = some fn) :
    false = Tryd.pinned.checked.prog.looks [] ∧ ∀ (j : Nat) t, fn.params[j]? = some t → Tryd.pinned.checked.prog.wantsStandIn t = false := by
  obtain rfl : f = 7 := Option.some.inj ((show Tryd.prog.funcNamed "hasp/hasplaw2.CapAsks" = some 7 by kernel_rfl).symm.trans hf) |>.symm
  obtain rfl : fn = Tryd.f7 := (Option.some.inj (Tryd.func7.symm.trans hfn)).symm
  refine ⟨by kernel_rfl, fun j t ht => ?_⟩
  rw [Tryd.params7] at ht
  have hm := Array.mem_of_getElem? ht
  simp only [List.mem_toArray, List.mem_cons, List.not_mem_nil, or_false] at hm
  rcases hm with rfl | rfl | rfl | rfl
  · exact (show Tryd.prog.wantsStandIn 25 = false by kernel_rfl)
  · exact (show Tryd.prog.wantsStandIn 25 = false by kernel_rfl)
  · exact (show Tryd.prog.wantsStandIn 22 = false by kernel_rfl)
  · exact (show Tryd.prog.wantsStandIn 22 = false by kernel_rfl)

/-- The card. -/
theorem card : Rows.CapAsksCardSaid :=
  Claim7.holds_tied_plain_at .later [] _ _ _ _ said (fun _ h => by cases h) (by kernel_rfl) (fun _ h => by cases h) capAsks_row_tie rfl ⟨rfl, rfl⟩ (by kernel_rfl) rfl plain (by kernel_rfl)
end Go.Proofs.YtfhmkmbdfeoegaaDoor.lawCapAsks
