/- The contracts of the two texts of a capability, the program's and the reference's: one and the same bytes. They ask for the table of powers of ten and that numbers fit their kinds. -/
import Derived.Test.YtfhmkmbdfeoegaaDoorD
import Derived.BigQuiet
namespace Go.Proofs.YtfhmkmbdfeoegaaDoor
open Go.RowKit
set_option linter.unusedVariables false
set_option linter.unusedSimpArgs false

/-- A later world: what lay in w0 is as it was. -/
structure Later (w0 : World) where
  w : World
  below : Below w0.heap.size w0 w
instance Later.nonempty (w0 : World) : Nonempty (Later w0) := ⟨⟨w0, Below.refl _ _⟩⟩
theorem Later.call {P : Program} {f : FuncId} {args : Array Value} {w0 : World} {u : Later w0} {v : Value} (h : Calls P f args u.w fun e w' => e = .returned v ∧ Below u.w.heap.size u.w w') :
    Calls P f args u.w fun e w'' => e = .returned v ∧ ∃ u' : Later w0, w'' = u'.w :=
  h.mono fun _ w' ⟨he, hb⟩ => ⟨he, ⟨w', u.below.trans (hb.mono u.below.size)⟩, rfl⟩
theorem Later.cell {w0 : World} {b o : Nat} {v : Value} (h : w0.cell? ⟨b, o, none⟩ = some v) : ∀ u : Later w0, u.w.cell? ⟨b, o, none⟩ = some v := fun u => by
  have hb : b < w0.heap.size := by
    rcases Nat.lt_or_ge b w0.heap.size with h' | h'
    · exact h'
    · simp [World.cell?, Array.getElem?_eq_none h'] at h
  rw [u.below.cell (p := ⟨b, o, none⟩) hb, h]
theorem wp_later {P : Program} {id : Nat} {Q : Exit → Act → World → Prop} {a : Act} {w w0 : World} {l : List Oper} (hm : P.follows .mixedOrders = true) (hB : Region.lexB .any l.toArray = true) (hC : Below w0.heap.size w0 w)
    (h : wpQuiet P l.toArray (fun w' => ∃ u : Later w0, w' = u.w) (fun a' => ∀ w', (∃ u : Later w0, w' = u.w) → Q .normal a' w') l a) : (Code.region id l.toArray true).wp P Q a w :=
  wp_region_quiet (C := fun w' => ∃ u : Later w0, w' = u.w) hm hB ⟨⟨w.drew, hC.drew⟩, rfl⟩ (by simpa using h)
theorem Tab.at' {w0 : World} (h : Tab w0) (u : Later w0) : Tab u.w := h.later u.below

theorem dec_len (n : Int) (h0 : 0 ≤ n) (h1 : n ≤ 65535) : (Lib.decDigits n.toNat).length ≤ 5 := by
  rw [Lib.decDigits_length]
  have h2 : n.toNat < 100000 := by omega
  generalize n.toNat = u at h2
  by_cases a : u < 10
  · rw [Lib.nDigits_small a]; omega
  · rw [Lib.nDigits_big a]
    by_cases b : u / 10 < 10
    · rw [Lib.nDigits_small b]; omega
    · rw [Lib.nDigits_big b]
      by_cases c : u / 10 / 10 < 10
      · rw [Lib.nDigits_small c]; omega
      · rw [Lib.nDigits_big c]
        by_cases d : u / 10 / 10 / 10 < 10
        · rw [Lib.nDigits_small d]; omega
        · rw [Lib.nDigits_big d, Lib.nDigits_small (by omega)]; omega
theorem hexL_len (v : Int) (k : Nat) : (hexL v k).length = k := by
  induction k with
  | zero => rfl
  | succ k ih => simp [hexL, ih]
theorem txt_len (v : Int) : (txt v 8).length ≤ 10 := by unfold txt; rw [List.length_append, hexL_len]; decide

/-- The text of a capability. -/
def capTxt (tg : Bool) (b t a p y : Int) : ByteArray :=
  ByteArray.mk (if tg then #[33] else #[45]) ++ ByteArray.mk #[91] ++ ByteArray.mk (txt b 8).toArray ++ ByteArray.mk #[44] ++ ByteArray.mk (txt t 8).toArray ++ ByteArray.mk #[41, 32] ++ ByteArray.mk (txt a 8).toArray ++ ByteArray.mk #[32, 112] ++
    ByteArray.mk (Lib.decDigits p.toNat).toArray ++ ByteArray.mk #[32, 116] ++ ByteArray.mk (Lib.decDigits y.toNat).toArray

set_option maxHeartbeats 400000 in
theorem ctext_c_false (b t a p y : Int) (w : World) (hb : U32 b) (ht : U32 t) (ha : U32 a) (hp : U16 p) (hy : U16 y) (htab : Tab w) :
    Calls Tryd.prog 37 #[.agg #[.bool false, .int .u32 b, .int .u32 t, .int .u32 a, .int .u16 p, .int .u16 y]] w fun e w' => e = .returned (.string (capTxt false b t a p y)) ∧ Below w.heap.size w w' := by
  have T : Tab (w.alloc (.cells #[.bool false, .int .u32 b, .int .u32 t, .int .u32 a, .int .u16 p, .int .u16 y] 25)) := htab.later (ba (b0 _) _)
  have C1 := Later.cell (w0 := w.alloc (.cells #[.bool false, .int .u32 b, .int .u32 t, .int .u32 a, .int .u16 p, .int .u16 y] 25)) (b := w.heap.size) (o := 1) (v := .int .u32 b) (by simp [go_sem])
  have C2 := Later.cell (w0 := w.alloc (.cells #[.bool false, .int .u32 b, .int .u32 t, .int .u32 a, .int .u16 p, .int .u16 y] 25)) (b := w.heap.size) (o := 2) (v := .int .u32 t) (by simp [go_sem])
  have C3 := Later.cell (w0 := w.alloc (.cells #[.bool false, .int .u32 b, .int .u32 t, .int .u32 a, .int .u16 p, .int .u16 y] 25)) (b := w.heap.size) (o := 3) (v := .int .u32 a) (by simp [go_sem])
  have C4 := Later.cell (w0 := w.alloc (.cells #[.bool false, .int .u32 b, .int .u32 t, .int .u32 a, .int .u16 p, .int .u16 y] 25)) (b := w.heap.size) (o := 4) (v := .int .u16 p) (by simp [go_sem])
  have C5 := Later.cell (w0 := w.alloc (.cells #[.bool false, .int .u32 b, .int .u32 t, .int .u32 a, .int .u16 p, .int .u16 y] 25)) (b := w.heap.size) (o := 5) (v := .int .u16 y) (by simp [go_sem])
  have L1 := txt_len b
  have L2 := txt_len t
  have L3 := txt_len a
  have L4 := dec_len p hp.1 hp.2
  have L5 := dec_len y hy.1 hy.2
  have P0 := hp.1
  have P1 := hp.2
  have Y0 := hy.1
  have Y1 := hy.2
  go_enter Tryd.func37, Tryd.ntmps37
  go_wp2
  refine wp_later (w0 := w.alloc (.cells #[.bool false, .int .u32 b, .int .u32 t, .int .u32 a, .int .u16 p, .int .u16 y] 25)) (by kernel_rfl) (by kernel_rfl) (b0 _) ?_
  repeat (go_big_quiet_step (first | (go_at_call 44; exact Later.call (wtext_c _ _ ‹_›)) | (go_at_call 45; exact Later.call (itoa_c _ _ ‹_› ‹_› (Tab.at' T _)))))
  refine wpQuiet_nil ?_
  rintro _ ⟨u, rfl⟩
  go_wp2
  go_ret
  exact ⟨rfl, bt (ba (b0 _) _) u.below⟩

set_option maxHeartbeats 400000 in
theorem ctext_c_true (b t a p y : Int) (w : World) (hb : U32 b) (ht : U32 t) (ha : U32 a) (hp : U16 p) (hy : U16 y) (htab : Tab w) :
    Calls Tryd.prog 37 #[.agg #[.bool true, .int .u32 b, .int .u32 t, .int .u32 a, .int .u16 p, .int .u16 y]] w fun e w' => e = .returned (.string (capTxt true b t a p y)) ∧ Below w.heap.size w w' := by
  have T : Tab (w.alloc (.cells #[.bool true, .int .u32 b, .int .u32 t, .int .u32 a, .int .u16 p, .int .u16 y] 25)) := htab.later (ba (b0 _) _)
  have C1 := Later.cell (w0 := w.alloc (.cells #[.bool true, .int .u32 b, .int .u32 t, .int .u32 a, .int .u16 p, .int .u16 y] 25)) (b := w.heap.size) (o := 1) (v := .int .u32 b) (by simp [go_sem])
  have C2 := Later.cell (w0 := w.alloc (.cells #[.bool true, .int .u32 b, .int .u32 t, .int .u32 a, .int .u16 p, .int .u16 y] 25)) (b := w.heap.size) (o := 2) (v := .int .u32 t) (by simp [go_sem])
  have C3 := Later.cell (w0 := w.alloc (.cells #[.bool true, .int .u32 b, .int .u32 t, .int .u32 a, .int .u16 p, .int .u16 y] 25)) (b := w.heap.size) (o := 3) (v := .int .u32 a) (by simp [go_sem])
  have C4 := Later.cell (w0 := w.alloc (.cells #[.bool true, .int .u32 b, .int .u32 t, .int .u32 a, .int .u16 p, .int .u16 y] 25)) (b := w.heap.size) (o := 4) (v := .int .u16 p) (by simp [go_sem])
  have C5 := Later.cell (w0 := w.alloc (.cells #[.bool true, .int .u32 b, .int .u32 t, .int .u32 a, .int .u16 p, .int .u16 y] 25)) (b := w.heap.size) (o := 5) (v := .int .u16 y) (by simp [go_sem])
  have L1 := txt_len b
  have L2 := txt_len t
  have L3 := txt_len a
  have L4 := dec_len p hp.1 hp.2
  have L5 := dec_len y hy.1 hy.2
  have P0 := hp.1
  have P1 := hp.2
  have Y0 := hy.1
  have Y1 := hy.2
  go_enter Tryd.func37, Tryd.ntmps37
  go_wp2
  refine wp_later (w0 := w.alloc (.cells #[.bool true, .int .u32 b, .int .u32 t, .int .u32 a, .int .u16 p, .int .u16 y] 25)) (by kernel_rfl) (by kernel_rfl) (b0 _) ?_
  repeat (go_big_quiet_step (first | (go_at_call 44; exact Later.call (wtext_c _ _ ‹_›)) | (go_at_call 45; exact Later.call (itoa_c _ _ ‹_› ‹_› (Tab.at' T _)))))
  refine wpQuiet_nil ?_
  rintro _ ⟨u, rfl⟩
  go_wp2
  go_ret
  exact ⟨rfl, bt (ba (b0 _) _) u.below⟩

theorem ctext_c (tg : Bool) (b t a p y : Int) (w : World) (hb : U32 b) (ht : U32 t) (ha : U32 a) (hp : U16 p) (hy : U16 y) (htab : Tab w) :
    Calls Tryd.prog 37 #[.agg #[.bool tg, .int .u32 b, .int .u32 t, .int .u32 a, .int .u16 p, .int .u16 y]] w fun e w' => e = .returned (.string (capTxt tg b t a p y)) ∧ Below w.heap.size w w' := by
  cases tg
  · exact ctext_c_false b t a p y w hb ht ha hp hy htab
  · exact ctext_c_true b t a p y w hb ht ha hp hy htab

set_option maxHeartbeats 400000 in
theorem rctext_c_false (b t a p y : Int) (w : World) (hb : U32 b) (ht : U32 t) (ha : U32 a) (hp : U16 p) (hy : U16 y) :
    Calls Tryd.prog 38 #[.agg #[.bool false, .int .u32 b, .int .u32 t, .int .u32 a, .int .u16 p, .int .u16 y]] w fun e w' => e = .returned (.string (capTxt false b t a p y)) ∧ Below w.heap.size w w' := by
  have C1 := Later.cell (w0 := w.alloc (.cells #[.bool false, .int .u32 b, .int .u32 t, .int .u32 a, .int .u16 p, .int .u16 y] 35)) (b := w.heap.size) (o := 1) (v := .int .u32 b) (by simp [go_sem])
  have C2 := Later.cell (w0 := w.alloc (.cells #[.bool false, .int .u32 b, .int .u32 t, .int .u32 a, .int .u16 p, .int .u16 y] 35)) (b := w.heap.size) (o := 2) (v := .int .u32 t) (by simp [go_sem])
  have C3 := Later.cell (w0 := w.alloc (.cells #[.bool false, .int .u32 b, .int .u32 t, .int .u32 a, .int .u16 p, .int .u16 y] 35)) (b := w.heap.size) (o := 3) (v := .int .u32 a) (by simp [go_sem])
  have C4 := Later.cell (w0 := w.alloc (.cells #[.bool false, .int .u32 b, .int .u32 t, .int .u32 a, .int .u16 p, .int .u16 y] 35)) (b := w.heap.size) (o := 4) (v := .int .u16 p) (by simp [go_sem])
  have C5 := Later.cell (w0 := w.alloc (.cells #[.bool false, .int .u32 b, .int .u32 t, .int .u32 a, .int .u16 p, .int .u16 y] 35)) (b := w.heap.size) (o := 5) (v := .int .u16 y) (by simp [go_sem])
  have L1 := txt_len b
  have L2 := txt_len t
  have L3 := txt_len a
  have L4 := dec_len p hp.1 hp.2
  have L5 := dec_len y hy.1 hy.2
  have P0 := hp.1
  have P1 := hp.2
  have Y0 := hy.1
  have Y1 := hy.2
  go_enter Tryd.func38, Tryd.ntmps38
  go_wp2
  refine wp_later (w0 := w.alloc (.cells #[.bool false, .int .u32 b, .int .u32 t, .int .u32 a, .int .u16 p, .int .u16 y] 35)) (by kernel_rfl) (by kernel_rfl) (b0 _) ?_
  repeat (go_big_quiet_step (first | (go_at_call 46; exact Later.call (rtext_c _ _ ‹_›)) | (go_at_call 47; exact Later.call (rdec_c _ _ ‹_› ‹_›))))
  refine wpQuiet_nil ?_
  rintro _ ⟨u, rfl⟩
  go_wp2
  go_ret
  exact ⟨rfl, bt (ba (b0 _) _) u.below⟩

set_option maxHeartbeats 400000 in
theorem rctext_c_true (b t a p y : Int) (w : World) (hb : U32 b) (ht : U32 t) (ha : U32 a) (hp : U16 p) (hy : U16 y) :
    Calls Tryd.prog 38 #[.agg #[.bool true, .int .u32 b, .int .u32 t, .int .u32 a, .int .u16 p, .int .u16 y]] w fun e w' => e = .returned (.string (capTxt true b t a p y)) ∧ Below w.heap.size w w' := by
  have C1 := Later.cell (w0 := w.alloc (.cells #[.bool true, .int .u32 b, .int .u32 t, .int .u32 a, .int .u16 p, .int .u16 y] 35)) (b := w.heap.size) (o := 1) (v := .int .u32 b) (by simp [go_sem])
  have C2 := Later.cell (w0 := w.alloc (.cells #[.bool true, .int .u32 b, .int .u32 t, .int .u32 a, .int .u16 p, .int .u16 y] 35)) (b := w.heap.size) (o := 2) (v := .int .u32 t) (by simp [go_sem])
  have C3 := Later.cell (w0 := w.alloc (.cells #[.bool true, .int .u32 b, .int .u32 t, .int .u32 a, .int .u16 p, .int .u16 y] 35)) (b := w.heap.size) (o := 3) (v := .int .u32 a) (by simp [go_sem])
  have C4 := Later.cell (w0 := w.alloc (.cells #[.bool true, .int .u32 b, .int .u32 t, .int .u32 a, .int .u16 p, .int .u16 y] 35)) (b := w.heap.size) (o := 4) (v := .int .u16 p) (by simp [go_sem])
  have C5 := Later.cell (w0 := w.alloc (.cells #[.bool true, .int .u32 b, .int .u32 t, .int .u32 a, .int .u16 p, .int .u16 y] 35)) (b := w.heap.size) (o := 5) (v := .int .u16 y) (by simp [go_sem])
  have L1 := txt_len b
  have L2 := txt_len t
  have L3 := txt_len a
  have L4 := dec_len p hp.1 hp.2
  have L5 := dec_len y hy.1 hy.2
  have P0 := hp.1
  have P1 := hp.2
  have Y0 := hy.1
  have Y1 := hy.2
  go_enter Tryd.func38, Tryd.ntmps38
  go_wp2
  refine wp_later (w0 := w.alloc (.cells #[.bool true, .int .u32 b, .int .u32 t, .int .u32 a, .int .u16 p, .int .u16 y] 35)) (by kernel_rfl) (by kernel_rfl) (b0 _) ?_
  repeat (go_big_quiet_step (first | (go_at_call 46; exact Later.call (rtext_c _ _ ‹_›)) | (go_at_call 47; exact Later.call (rdec_c _ _ ‹_› ‹_›))))
  refine wpQuiet_nil ?_
  rintro _ ⟨u, rfl⟩
  go_wp2
  go_ret
  exact ⟨rfl, bt (ba (b0 _) _) u.below⟩

theorem rctext_c (tg : Bool) (b t a p y : Int) (w : World) (hb : U32 b) (ht : U32 t) (ha : U32 a) (hp : U16 p) (hy : U16 y) :
    Calls Tryd.prog 38 #[.agg #[.bool tg, .int .u32 b, .int .u32 t, .int .u32 a, .int .u16 p, .int .u16 y]] w fun e w' => e = .returned (.string (capTxt tg b t a p y)) ∧ Below w.heap.size w w' := by
  cases tg
  · exact rctext_c_false b t a p y w hb ht ha hp hy
  · exact rctext_c_true b t a p y w hb ht ha hp hy

end Go.Proofs.YtfhmkmbdfeoegaaDoor
