/- The law's own 'known' answers true, in every world that holds the table of powers of ten; nothing that was there is changed. -/
import Derived.Test.YtfhmkmbdfeoegaaDoorB
import Derived.Test.YtfhmkmbdfeoegaaDoorE
import Derived.Deep.Cut
namespace Go.Proofs.YtfhmkmbdfeoegaaDoor
open Go.RowKit
set_option linter.unusedVariables false
set_option linter.unusedSimpArgs false

/-- A block that reads as the cells c. -/
def Box (w : World) (b : Nat) (c : Array Value) : Prop := b < w.heap.size ∧ ∀ o, w.cell? ⟨b, o, none⟩ = c[o]?
theorem Box.new (w : World) (c : Array Value) (t : TypeId) : Box (w.alloc (.cells c t)) w.heap.size c := ⟨by simp, fun o => World.cell?_alloc_mark w c t _ o⟩
theorem Box.alloc {w : World} {b : Nat} {c : Array Value} (h : Box w b c) (o : Obj) : Box (w.alloc o) b c := ⟨by have := h.1; simp; omega, fun i => by rw [World.cell?_alloc_past _ _ _ h.1, h.2]⟩
theorem Box.later {W w : World} {b : Nat} {c : Array Value} (h : Box W b c) (hb : Below W.heap.size W w) : Box w b c := ⟨Nat.lt_of_lt_of_le h.1 hb.size, fun o => by rw [hb.cell (p := ⟨b, o, none⟩) h.1, h.2]⟩
theorem Box.at_ {W : World} {b : Nat} {c : Array Value} (h : Box W b c) : ∀ (u : Later W) o, u.w.cell? ⟨b, o, none⟩ = c[o]? := fun u => (h.later u.below).2

theorem wpList_of_quiet {P : Program} {ops : Array Oper} {C : World → Prop} {Q : Exit → Act → World → Prop} : ∀ (l : List Oper) (a : Act) (w : World), C w →
    wpQuiet P ops C (fun a' => ∀ w', C w' → Q .normal a' w') l a → wpList P ops Q l a w
  | [], _, w, hw, h => h w hw
  | o :: l, a, w, hw, h => by
    unfold wpQuiet at h
    unfold wpList
    split at h
    · rename_i hg
      rw [if_pos hg]
      exact .inl (Oper.wp_of_quiet hw (fun a' w' hw' hk => wpList_of_quiet l a' w' hw' hk) h)
    · rename_i hg
      rw [if_neg hg]
      exact wpList_of_quiet l _ w hw h
/-- The rest of a region that keeps its order, walked in the class of the later worlds. F: what is known of the world at hand. -/
theorem wpList_later {P : Program} {ops : Array Oper} {Q : Exit → Act → World → Prop} {l : List Oper} {a : Act} {w : World} (F : World → Prop) (hF : F w)
    (h : ∀ W, F W → wpQuiet P ops (fun w' => ∃ u : Later W, w' = u.w) (fun a' => ∀ w', (∃ u : Later W, w' = u.w) → Q .normal a' w') l a) : wpList P ops Q l a w :=
  wpList_of_quiet (C := fun w' => ∃ u : Later w, w' = u.w) l a w ⟨⟨w, Below.refl _ _⟩, rfl⟩ (h w hF)

theorem fld0 (x0 x1 x2 x3 x4 x5 : Value) (w : World) : (Instr.field 25 (.agg #[x0, x1, x2, x3, x4, x5]) 0).run Tryd.prog w = .ok x0 w := by kernel_rfl
theorem fld3 (x0 x1 x2 x3 x4 x5 : Value) (w : World) : (Instr.field 25 (.agg #[x0, x1, x2, x3, x4, x5]) 3).run Tryd.prog w = .ok x3 w := by kernel_rfl
theorem fld4 (x0 x1 x2 x3 x4 x5 : Value) (w : World) : (Instr.field 25 (.agg #[x0, x1, x2, x3, x4, x5]) 4).run Tryd.prog w = .ok x4 w := by kernel_rfl
theorem u32d {x : Int} (h : 0 ≤ x ∧ x ≤ 4294967295) : U32 x := h
theorem u16d {x : Int} (h : 0 ≤ x ∧ x ≤ 65535) : U16 x := h
theorem known_txt : capTxt true 16 48 20 127 1 = ByteArray.mk #[33, 91, 48, 120, 48, 48, 48, 48, 48, 48, 49, 48, 44, 48, 120, 48, 48, 48, 48, 48, 48, 51, 48, 41, 32, 48, 120, 48, 48, 48, 48, 48, 48, 49, 52, 32, 112, 49, 50, 55, 32, 116, 49] := by
  have e1 : Lib.decDigits (127 : Int).toNat = [49, 50, 55] := by
    show Lib.decDigits 127 = _
    rw [Lib.decDigits, dif_neg (by decide), Lib.decDigits, dif_neg (by decide), Lib.decDigits, dif_pos (by decide)]
    decide
  have e2 : Lib.decDigits (1 : Int).toNat = [49] := by
    show Lib.decDigits 1 = _
    rw [Lib.decDigits, dif_pos (by decide)]
    decide
  unfold capTxt
  rw [e1, e2]
  decide

set_option maxHeartbeats 1000000 in
theorem known_c (w : World) (htab : Tab w) : Calls Tryd.prog 13 #[] w fun e w' => e = .returned (.bool true) ∧ Below w.heap.size w w' := by
  have e1 : hasB 0 64 16 32 = true := by decide
  have e2 : hasB 16 48 16 32 = true := by decide
  have e3 : hasB 16 48 16 33 = false := by decide
  have e4 : hasB 16 48 16 100 = false := by decide
  have e5 : permB 127 4 = true := by decide
  have e6 : bits .and .u16 127 1 = 1 := by decide
  have e7 : subB 16 48 127 0 64 127 = true := by decide
  have e8 : subB 0 64 127 16 48 127 = false := by decide
  have e9 := known_txt
  have s1 : sealB 0 true 0 1024 7 127 0 = true := by decide
  have s2 : unsealB 7 true 0 1024 7 127 0 = true := by decide
  go_enter Tryd.func13, Tryd.ntmps13
  go_wp2_with fail
  ((with_reducible refine (root_c 64 _).mono ?_); rintro e w1 ⟨rfl, hb1⟩)
  have d1 := hb1
  have rp := Box.new w1 (#[.bool true, .int .u32 0, .int .u32 64, .int .u32 0, .int .u16 127, .int .u16 0] : Array Value) 25
  have dp := ba d1 (.cells (#[.bool true, .int .u32 0, .int .u32 64, .int .u32 0, .int .u16 127, .int .u16 0] : Array Value) 25)
  go_wp2_with fail
  ((with_reducible refine (setAddr_c true 0 64 0 127 0 16 _).mono ?_); rintro e w2 ⟨rfl, hb2⟩)
  have d2 := bt dp hb2
  have r2 := rp.later hb2
  have cr2 := r2.2
  have lr2 := r2.1
  have rp := r2
  have dp := d2
  go_wp2_with fail
  ((with_reducible refine (bounds_c true 0 64 16 127 0 32 _ (u32d (by decide)) (u32d (by decide)) (u32d (by decide))).mono ?_); rintro e w3 ⟨rfl, hb3⟩)
  have d3 := bt dp hb3
  have r3 := rp.later hb3
  have cr3 := r3.2
  have lr3 := r3.1
  have rp := r3.alloc (.cells (#[.bool true, .int .u32 16, .int .u32 48, .int .u32 16, .int .u16 127, .int .u16 0] : Array Value) 25)
  have ap := Box.new w3 (#[.bool true, .int .u32 16, .int .u32 48, .int .u32 16, .int .u16 127, .int .u16 0] : Array Value) 25
  have dp := ba d3 (.cells (#[.bool true, .int .u32 16, .int .u32 48, .int .u32 16, .int .u16 127, .int .u16 0] : Array Value) 25)
  go_wp2_with fail
  ((with_reducible refine (setAddr_c true 16 48 16 127 0 20 _).mono ?_); rintro e w4 ⟨rfl, hb4⟩)
  have d4 := bt dp hb4
  have r4 := rp.later hb4
  have cr4 := r4.2
  have lr4 := r4.1
  have a4 := ap.later hb4
  have ca4 := a4.2
  have la4 := a4.1
  have rp := r4.alloc (.cells (#[.bool true, .int .u32 16, .int .u32 48, .int .u32 20, .int .u16 127, .int .u16 0] : Array Value) 25)
  have ap := a4.alloc (.cells (#[.bool true, .int .u32 16, .int .u32 48, .int .u32 20, .int .u16 127, .int .u16 0] : Array Value) 25)
  have bp := Box.new w4 (#[.bool true, .int .u32 16, .int .u32 48, .int .u32 20, .int .u16 127, .int .u16 0] : Array Value) 25
  have dp := ba d4 (.cells (#[.bool true, .int .u32 16, .int .u32 48, .int .u32 20, .int .u16 127, .int .u16 0] : Array Value) 25)
  go_wp2_with fail
  ((with_reducible refine (root_c 1024 _).mono ?_); rintro e w5 ⟨rfl, hb5⟩)
  have d5 := bt dp hb5
  have r5 := rp.later hb5
  have cr5 := r5.2
  have lr5 := r5.1
  have a5 := ap.later hb5
  have ca5 := a5.2
  have la5 := a5.1
  have b5 := bp.later hb5
  have cb5 := b5.2
  have lb5 := b5.1
  have rp := r5
  have ap := a5
  have bp := b5
  have dp := d5
  go_wp2_with fail
  ((with_reducible refine (setAddr_c true 0 1024 0 127 0 7 _).mono ?_); rintro e w6 ⟨rfl, hb6⟩)
  have d6 := bt dp hb6
  have r6 := rp.later hb6
  have cr6 := r6.2
  have lr6 := r6.1
  have a6 := ap.later hb6
  have ca6 := a6.2
  have la6 := a6.1
  have b6 := bp.later hb6
  have cb6 := b6.2
  have lb6 := b6.1
  have rp := r6.alloc (.cells (#[.bool true, .int .u32 0, .int .u32 1024, .int .u32 7, .int .u16 127, .int .u16 0] : Array Value) 25)
  have ap := a6.alloc (.cells (#[.bool true, .int .u32 0, .int .u32 1024, .int .u32 7, .int .u16 127, .int .u16 0] : Array Value) 25)
  have bp := b6.alloc (.cells (#[.bool true, .int .u32 0, .int .u32 1024, .int .u32 7, .int .u16 127, .int .u16 0] : Array Value) 25)
  have kp := Box.new w6 (#[.bool true, .int .u32 0, .int .u32 1024, .int .u32 7, .int .u16 127, .int .u16 0] : Array Value) 25
  have dp := ba d6 (.cells (#[.bool true, .int .u32 0, .int .u32 1024, .int .u32 7, .int .u16 127, .int .u16 0] : Array Value) 25)
  go_wp2_with fail
  ((with_reducible refine (seal_yes true 16 48 20 127 0 true 0 1024 7 127 0 _ (u32d (by decide)) (u32d (by decide)) s1).mono ?_); rintro e w7 ⟨rfl, hb7⟩)
  have d7 := bt dp hb7
  have r7 := rp.later hb7
  have cr7 := r7.2
  have lr7 := r7.1
  have a7 := ap.later hb7
  have ca7 := a7.2
  have la7 := a7.1
  have b7 := bp.later hb7
  have cb7 := b7.2
  have lb7 := b7.1
  have k7 := kp.later hb7
  have ck7 := k7.2
  have lk7 := k7.1
  have rp := r7.alloc (.cells (#[.bool true, .int .u32 16, .int .u32 48, .int .u32 20, .int .u16 127, .int .u16 7] : Array Value) 25)
  have ap := a7.alloc (.cells (#[.bool true, .int .u32 16, .int .u32 48, .int .u32 20, .int .u16 127, .int .u16 7] : Array Value) 25)
  have bp := b7.alloc (.cells (#[.bool true, .int .u32 16, .int .u32 48, .int .u32 20, .int .u16 127, .int .u16 7] : Array Value) 25)
  have kp := k7.alloc (.cells (#[.bool true, .int .u32 16, .int .u32 48, .int .u32 20, .int .u16 127, .int .u16 7] : Array Value) 25)
  have sp := Box.new w7 (#[.bool true, .int .u32 16, .int .u32 48, .int .u32 20, .int .u16 127, .int .u16 7] : Array Value) 25
  have dp := ba d7 (.cells (#[.bool true, .int .u32 16, .int .u32 48, .int .u32 20, .int .u16 127, .int .u16 7] : Array Value) 25)
  go_wp2_with fail
  ((with_reducible refine (unseal_yes true 16 48 20 127 7 true 0 1024 7 127 0 _ (u16d (by decide)) (u32d (by decide)) (u32d (by decide)) s2).mono ?_); rintro e w8 ⟨rfl, hb8⟩)
  have d8 := bt dp hb8
  have r8 := rp.later hb8
  have cr8 := r8.2
  have lr8 := r8.1
  have a8 := ap.later hb8
  have ca8 := a8.2
  have la8 := a8.1
  have b8 := bp.later hb8
  have cb8 := b8.2
  have lb8 := b8.1
  have k8 := kp.later hb8
  have ck8 := k8.2
  have lk8 := k8.1
  have s8 := sp.later hb8
  have cs8 := s8.2
  have ls8 := s8.1
  have rp := r8.alloc (.cells (#[.bool true, .int .u32 16, .int .u32 48, .int .u32 20, .int .u16 127, .int .u16 0] : Array Value) 25)
  have ap := a8.alloc (.cells (#[.bool true, .int .u32 16, .int .u32 48, .int .u32 20, .int .u16 127, .int .u16 0] : Array Value) 25)
  have bp := b8.alloc (.cells (#[.bool true, .int .u32 16, .int .u32 48, .int .u32 20, .int .u16 127, .int .u16 0] : Array Value) 25)
  have kp := k8.alloc (.cells (#[.bool true, .int .u32 16, .int .u32 48, .int .u32 20, .int .u16 127, .int .u16 0] : Array Value) 25)
  have sp := s8.alloc (.cells (#[.bool true, .int .u32 16, .int .u32 48, .int .u32 20, .int .u16 127, .int .u16 0] : Array Value) 25)
  have up := Box.new w8 (#[.bool true, .int .u32 16, .int .u32 48, .int .u32 20, .int .u16 127, .int .u16 0] : Array Value) 25
  have dp := ba d8 (.cells (#[.bool true, .int .u32 16, .int .u32 48, .int .u32 20, .int .u16 127, .int .u16 0] : Array Value) 25)
  go_wp2_with fail
  ((with_reducible refine (enter_c true 16 48 20 127 0 _).mono ?_); rintro e w9 ⟨rfl, hb9⟩)
  have d9 := bt dp hb9
  have r9 := rp.later hb9
  have cr9 := r9.2
  have lr9 := r9.1
  have a9 := ap.later hb9
  have ca9 := a9.2
  have la9 := a9.1
  have b9 := bp.later hb9
  have cb9 := b9.2
  have lb9 := b9.1
  have k9 := kp.later hb9
  have ck9 := k9.2
  have lk9 := k9.1
  have s9 := sp.later hb9
  have cs9 := s9.2
  have ls9 := s9.1
  have u9 := up.later hb9
  have cu9 := u9.2
  have lu9 := u9.1
  have rp := r9.alloc (.cells (#[.bool true, .int .u32 16, .int .u32 48, .int .u32 20, .int .u16 127, .int .u16 1] : Array Value) 25)
  have ap := a9.alloc (.cells (#[.bool true, .int .u32 16, .int .u32 48, .int .u32 20, .int .u16 127, .int .u16 1] : Array Value) 25)
  have bp := b9.alloc (.cells (#[.bool true, .int .u32 16, .int .u32 48, .int .u32 20, .int .u16 127, .int .u16 1] : Array Value) 25)
  have kp := k9.alloc (.cells (#[.bool true, .int .u32 16, .int .u32 48, .int .u32 20, .int .u16 127, .int .u16 1] : Array Value) 25)
  have sp := s9.alloc (.cells (#[.bool true, .int .u32 16, .int .u32 48, .int .u32 20, .int .u16 127, .int .u16 1] : Array Value) 25)
  have up := u9.alloc (.cells (#[.bool true, .int .u32 16, .int .u32 48, .int .u32 20, .int .u16 127, .int .u16 1] : Array Value) 25)
  have ep := Box.new w9 (#[.bool true, .int .u32 16, .int .u32 48, .int .u32 20, .int .u16 127, .int .u16 1] : Array Value) 25
  have dp := ba d9 (.cells (#[.bool true, .int .u32 16, .int .u32 48, .int .u32 20, .int .u16 127, .int .u16 1] : Array Value) 25)
  go_upto_region 8 with (fail)
  simp only [List.append_eq, List.cons_append, List.nil_append]
  refine wp_region_lit ?_
  refine wpList_later (fun W => Tab W ∧ Below w.heap.size w W ∧ Box W w1.heap.size #[.bool true, .int .u32 0, .int .u32 64, .int .u32 0, .int .u16 127, .int .u16 0] ∧ Box W w3.heap.size #[.bool true, .int .u32 16, .int .u32 48, .int .u32 16, .int .u16 127, .int .u16 0] ∧ Box W w4.heap.size #[.bool true, .int .u32 16, .int .u32 48, .int .u32 20, .int .u16 127, .int .u16 0] ∧ Box W w6.heap.size #[.bool true, .int .u32 0, .int .u32 1024, .int .u32 7, .int .u16 127, .int .u16 0] ∧ Box W w7.heap.size #[.bool true, .int .u32 16, .int .u32 48, .int .u32 20, .int .u16 127, .int .u16 7] ∧ Box W w8.heap.size #[.bool true, .int .u32 16, .int .u32 48, .int .u32 20, .int .u16 127, .int .u16 0] ∧ Box W w9.heap.size #[.bool true, .int .u32 16, .int .u32 48, .int .u32 20, .int .u16 127, .int .u16 1]) ⟨htab.later dp, dp, rp, ap, bp, kp, sp, up, ep⟩ ?_
  rintro W ⟨T, D, XR, XA, XB, XK, XS, XU, XE⟩
  have F0 := fld0
  have F3 := fld3
  have F4 := fld4
  have CR := XR.at_
  have CA := XA.at_
  have CB := XB.at_
  have CK := XK.at_
  have CS := XS.at_
  have CU := XU.at_
  have CE := XE.at_
  repeat (go_big_quiet_step (first | (go_at_call 15; exact Later.call (setAddr_c _ _ _ _ _ _ _ _)) | (go_at_call 16; exact Later.call (bounds_c _ _ _ _ _ _ _ _ (u32d (by decide)) (u32d (by decide)) (u32d (by decide)))) | (go_at_call 17; exact Later.call (andPerm_c _ _ _ _ _ _ _ _)) | (go_at_call 14; exact Later.call (clear_c _ _ _ _ _ _ _)) | (go_at_call 35; exact Later.call (sub_c _ _ _ _ _ _ _ _ _ _ _ _ _)) | (go_at_call 22; exact Later.call (has_c _ _ _ _ _ _ _ _ _ (u32d (by decide)) (u32d (by decide)) (u32d (by decide)))) | (go_at_call 21; exact Later.call (int_c _ _)) | (go_at_call 37; exact Later.call (ctext_c _ _ _ _ _ _ _ (u32d (by decide)) (u32d (by decide)) (u32d (by decide)) (u16d (by decide)) (u16d (by decide)) (T.at' _)))))
  refine wpQuiet_nil ?_
  rintro _ ⟨u, rfl⟩
  go_wp2
  go_ret
  exact ⟨rfl, bt D u.below⟩
end Go.Proofs.YtfhmkmbdfeoegaaDoor
