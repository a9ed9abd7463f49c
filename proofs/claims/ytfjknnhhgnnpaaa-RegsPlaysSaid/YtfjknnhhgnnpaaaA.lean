/- The contracts of the small functions of package regs over this translation: a register's number, an integer's capability, a new file, its Set and Get. No condition but that a file is a block of 96 cells. -/
import Derived.Test.YtfjknnhhgnnpaaaRows
import Derived.WalkKit
import Derived.WalkSpells
import Derived.WalkLawsBesides
import Derived.BigQuiet
import Derived.OpenShut
import Derived.Handy
import Derived.Maps.AppendAt
import Derived.Deep.Cut
import Derived.Deep.AppendLies
namespace Go.Proofs.Ytfjknnhhgnnpaaa
open Go.RowKit
set_option linter.unusedVariables false
set_option linter.unusedSimpArgs false

theorem b0 (w : World) : Below w.heap.size w w := Below.refl _ _
theorem ba {w w1 : World} (h : Below w.heap.size w w1) (o : Obj) : Below w.heap.size w (w1.alloc o) := h.alloc h.size o
theorem bs {w w1 : World} (h : Below w.heap.size w w1) {p : Addr} (hp : w.heap.size ≤ p.block) (u : Value) : Below w.heap.size w (w1.setCell p u) := h.setCell hp u
theorem bt {w w1 w2 : World} (h : Below w.heap.size w w1) (k : Below w1.heap.size w1 w2) : Below w.heap.size w w2 := h.trans (k.mono h.size)
/-- A later world: what lay in w0 is as it was. -/
structure Later (w0 : World) where
  w : World
  below : Below w0.heap.size w0 w
instance Later.nonempty (w0 : World) : Nonempty (Later w0) := ⟨⟨w0, Below.refl _ _⟩⟩
theorem Later.call {P : Program} {f : FuncId} {args : Array Value} {w0 : World} {u : Later w0} {v : Value} (h : Calls P f args u.w fun e w' => e = .returned v ∧ Below u.w.heap.size u.w w') :
    Calls P f args u.w fun e w'' => e = .returned v ∧ ∃ u' : Later w0, w'' = u'.w :=
  h.mono fun _ w' ⟨he, hb⟩ => ⟨he, ⟨w', u.below.trans (hb.mono u.below.size)⟩, rfl⟩
theorem wp_later {P : Program} {id : Nat} {Q : Exit → Act → World → Prop} {a : Act} {w w0 : World} {l : List Oper} (hm : P.follows .mixedOrders = true) (hB : Region.lexB .any l.toArray = true) (hC : Below w0.heap.size w0 w)
    (h : wpQuiet P l.toArray (fun w' => ∃ u : Later w0, w' = u.w) (fun a' => ∀ w', (∃ u : Later w0, w' = u.w) → Q .normal a' w') l a) : (Code.region id l.toArray true).wp P Q a w :=
  wp_region_quiet (C := fun w' => ∃ u : Later w0, w' = u.w) hm hB ⟨⟨w.drew, hC.drew⟩, rfl⟩ (by simpa using h)
theorem wpList_of_quiet {P : Program} {ops : Array Oper} {C : World → Prop} {Q : Exit → Act → World → Prop} : ∀ (l : List Oper) (a : Act) (w : World), C w →
    wpQuiet P ops C (fun a' => ∀ w', C w' → Q .normal a' w') l a → wpList P ops Q l a w
  | [], _, w, hw, h => h w hw
  | o :: l, a, w, hw, h => by
    unfold wpQuiet at h
    unfold wpList
    split at h
    · rename_i hg
      rw [if_pos hg]
      exact .inl (Oper.wp_of_quiet hw (fun a' w' hw' hk => wpList_of_quiet l a' w' hw' hk) h)
    · rename_i hg
      rw [if_neg hg]
      exact wpList_of_quiet l _ w hw h
section
variable {P : Program} {id : Nat} {Q : Exit → Act → World → Prop} {a : Act} {w : World} {l : List Oper}
theorem reg_plain (F : World → Prop) (hF : F w) (h : ∀ W, F W → wpQuiet P l.toArray (fun w' => ∃ u : Later W, w' = u.w) (fun a' => ∀ w', (∃ u : Later W, w' = u.w) → Q .normal a' w') l a) : (Code.region id l.toArray false).wp P Q a w :=
  wp_region_lit (wpList_of_quiet (C := fun w' => ∃ u : Later w, w' = u.w) l a w ⟨⟨w, Below.refl _ _⟩, rfl⟩ (h w hF))
theorem reg_draw (hm : P.follows .mixedOrders = true) (hB : Region.lexB .any l.toArray = true) (F : World → Prop) (hF : F w)
    (h : ∀ W, F W → wpQuiet P l.toArray (fun w' => ∃ u : Later W, w' = u.w) (fun a' => ∀ w', (∃ u : Later W, w' = u.w) → Q .normal a' w') l a) : (Code.region id l.toArray true).wp P Q a w :=
  wp_later (w0 := w) hm hB (Below.refl _ _) (h w hF)
end

/-- A block known whole. -/
def Blk (w : World) (b : Nat) (c : Array Value) (t : TypeId) : Prop := w.heap[b]? = some (.cells c t (0, 0))
theorem Blk.new (w : World) (c : Array Value) (t : TypeId) (n : Nat) (h : w.heap.size = n) : Blk (w.alloc (.cells c t)) n c t := by
  subst h
  show (w.heap.push _)[w.heap.size]? = _
  exact Array.getElem?_push_size
theorem Blk.lt {w : World} {b : Nat} {c : Array Value} {t : TypeId} (h : Blk w b c t) : b < w.heap.size := (Array.getElem?_eq_some_iff.1 h).1
theorem Blk.alloc {w : World} {b : Nat} {c : Array Value} {t : TypeId} (h : Blk w b c t) (o : Obj) : Blk (w.alloc o) b c t := by
  have := h.lt
  unfold Blk at h ⊢
  rw [Below.heap_alloc w o b this, h]
theorem Blk.later {w w1 : World} {b : Nat} {c : Array Value} {t : TypeId} (h : Blk w b c t) (hb : Below w.heap.size w w1) : Blk w1 b c t := (hb.block b h.lt).trans h
theorem Blk.cell {w : World} {b : Nat} {c : Array Value} {t : TypeId} (h : Blk w b c t) : ∀ o, w.cell? ⟨b, o, none⟩ = c[o]? := fun o => by
  unfold World.cell?
  unfold Blk at h
  rw [h]
  simp
theorem Blk.soft {w : World} {b : Nat} {c : Array Value} {t : TypeId} (h : Blk w b c t) : ∀ o, w.frozen? ⟨b, o, none⟩ = false := fun o => by
  unfold World.frozen?
  unfold Blk at h
  rw [h]
  simp
theorem Blk.set {w : World} {b : Nat} {c : Array Value} {t : TypeId} (h : Blk w b c t) (i : Nat) (v : Value) : Blk (w.setCell ⟨b, i, none⟩ v) b (c.setIfInBounds i v) t := by
  unfold Blk at h ⊢
  simp [World.setCell, Array.getElem?_modify, h]
theorem Blk.other {w : World} {b : Nat} {c : Array Value} {t : TypeId} (h : Blk w b c t) (a : Addr) (v : Value) (hne : a.block ≠ b) : Blk (w.setCell a v) b c t := by
  unfold Blk at h ⊢
  simp [World.setCell, Array.getElem?_modify, h, hne]
theorem Blk.at_ {W : World} {b : Nat} {c : Array Value} {t : TypeId} (h : Blk W b c t) : ∀ (u : Later W) o, u.w.cell? ⟨b, o, none⟩ = c[o]? := fun u => (h.later u.below).cell

theorem Blk.grown {w w' : World} {b : Nat} {c : Array Value} {t : TypeId} {row : Option Nat} (h : Blk w b c t) (hg : w.grownBy w' row) (hne : some b ≠ row) : Blk w' b c t := (hg.block b h.lt hne).trans h
theorem bgrown {w0 w w' : World} {row : Option Nat} {B : Nat} (h : Below B w0 w) (hB : B ≤ w.heap.size) (hg : w.grownBy w' row) (hr : ∀ k, row = some k → B ≤ k) : Below B w0 w' :=
  ⟨hg.os.trans h.os, hg.tape.trans h.tape, hg.output.trans h.output, Nat.le_trans h.size hg.size, fun k hk => (hg.block k (by omega) (fun e => by have := hr k e.symm; omega)).trans (h.block k hk)⟩
theorem below_grown {w w' : World} (h : Below w.heap.size w w') : w.grownBy w' none := ⟨h.os, h.tape, h.output, h.size, fun k hk _ => h.block k hk⟩

/-! A file of registers: a block of 96 cells -/
structure Cp where
  tg : Bool
  b : Int
  t : Int
  a : Int
  p : Int
  y : Int
def Cp.val (c : Cp) : Value := .agg #[.bool c.tg, .int .u32 c.b, .int .u32 c.t, .int .u32 c.a, .int .u16 c.p, .int .u16 c.y]
def Cp.int (v : Int) : Cp := ⟨false, 0, 0, v, 0, 0⟩
def Cp.cells (c : Cp) : List Value := [.bool c.tg, .int .u32 c.b, .int .u32 c.t, .int .u32 c.a, .int .u16 c.p, .int .u16 c.y]
def fileC (c : Nat → Cp) : Array Value := ((List.range 16).flatMap fun k => (c k).cells).toArray
def upd (c : Nat → Cp) (k : Nat) (v : Cp) : Nat → Cp := fun m => if m = k then v else c m
def wrC (C : Array Value) (k : Nat) (v : Cp) : Array Value := (((((C.setIfInBounds (k * 6) (.bool v.tg)).setIfInBounds (k * 6 + 1) (.int .u32 v.b)).setIfInBounds (k * 6 + 2) (.int .u32 v.t)).setIfInBounds (k * 6 + 3) (.int .u32 v.a)).setIfInBounds (k * 6 + 4) (.int .u16 v.p)).setIfInBounds (k * 6 + 5) (.int .u16 v.y)
theorem cases16 {k : Nat} (h : k < 16) : k = 0 ∨ k = 1 ∨ k = 2 ∨ k = 3 ∨ k = 4 ∨ k = 5 ∨ k = 6 ∨ k = 7 ∨ k = 8 ∨ k = 9 ∨ k = 10 ∨ k = 11 ∨ k = 12 ∨ k = 13 ∨ k = 14 ∨ k = 15 := by omega
theorem fileC_get (c : Nat → Cp) (k : Nat) (h : k < 16) : (fileC c)[k * 6]? = some (.bool (c k).tg) ∧ (fileC c)[k * 6 + 1]? = some (.int .u32 (c k).b) ∧ (fileC c)[k * 6 + 2]? = some (.int .u32 (c k).t) ∧ (fileC c)[k * 6 + 3]? = some (.int .u32 (c k).a) ∧ (fileC c)[k * 6 + 4]? = some (.int .u16 (c k).p) ∧ (fileC c)[k * 6 + 5]? = some (.int .u16 (c k).y) := by
  rcases cases16 h with rfl | rfl | rfl | rfl | rfl | rfl | rfl | rfl | rfl | rfl | rfl | rfl | rfl | rfl | rfl | rfl <;> exact ⟨rfl, rfl, rfl, rfl, rfl, rfl⟩
theorem upd_same (c : Nat → Cp) (k : Nat) (v : Cp) : upd c k v k = v := if_pos rfl
theorem upd_other (c : Nat → Cp) {k m : Nat} (v : Cp) (h : m ≠ k) : upd c k v m = c m := if_neg h
theorem fileC_size (c : Nat → Cp) : (fileC c).size = 96 := rfl
theorem zeroC_eq : #[.bool false, .int .u32 0, .int .u32 0, .int .u32 0, .int .u16 0, .int .u16 0, .bool false, .int .u32 0, .int .u32 0, .int .u32 0, .int .u16 0, .int .u16 0, .bool false, .int .u32 0, .int .u32 0, .int .u32 0, .int .u16 0, .int .u16 0, .bool false, .int .u32 0, .int .u32 0, .int .u32 0, .int .u16 0, .int .u16 0, .bool false, .int .u32 0, .int .u32 0, .int .u32 0, .int .u16 0, .int .u16 0, .bool false, .int .u32 0, .int .u32 0, .int .u32 0, .int .u16 0, .int .u16 0, .bool false, .int .u32 0, .int .u32 0, .int .u32 0, .int .u16 0, .int .u16 0, .bool false, .int .u32 0, .int .u32 0, .int .u32 0, .int .u16 0, .int .u16 0, .bool false, .int .u32 0, .int .u32 0, .int .u32 0, .int .u16 0, .int .u16 0, .bool false, .int .u32 0, .int .u32 0, .int .u32 0, .int .u16 0, .int .u16 0, .bool false, .int .u32 0, .int .u32 0, .int .u32 0, .int .u16 0, .int .u16 0, .bool false, .int .u32 0, .int .u32 0, .int .u32 0, .int .u16 0, .int .u16 0, .bool false, .int .u32 0, .int .u32 0, .int .u32 0, .int .u16 0, .int .u16 0, .bool false, .int .u32 0, .int .u32 0, .int .u32 0, .int .u16 0, .int .u16 0, .bool false, .int .u32 0, .int .u32 0, .int .u32 0, .int .u16 0, .int .u16 0, .bool false, .int .u32 0, .int .u32 0, .int .u32 0, .int .u16 0, .int .u16 0] = fileC (fun _ => Cp.int 0) := rfl
attribute [irreducible] fileC
theorem fileC_ext (C : Array Value) (c : Nat → Cp) (hs : C.size = 96) (h : ∀ m, m < 16 → C[m * 6]? = some (.bool (c m).tg) ∧ C[m * 6 + 1]? = some (.int .u32 (c m).b) ∧ C[m * 6 + 2]? = some (.int .u32 (c m).t) ∧ C[m * 6 + 3]? = some (.int .u32 (c m).a) ∧ C[m * 6 + 4]? = some (.int .u16 (c m).p) ∧ C[m * 6 + 5]? = some (.int .u16 (c m).y)) : C = fileC c := by
  apply Array.ext_getElem?
  intro o
  by_cases ho : o < 96
  · obtain ⟨a0, a1, a2, a3, a4, a5⟩ := h (o / 6) (by omega)
    obtain ⟨e0, e1, e2, e3, e4, e5⟩ := fileC_get c (o / 6) (by omega)
    have hj : o = o / 6 * 6 ∨ o = o / 6 * 6 + 1 ∨ o = o / 6 * 6 + 2 ∨ o = o / 6 * 6 + 3 ∨ o = o / 6 * 6 + 4 ∨ o = o / 6 * 6 + 5 := by omega
    generalize o / 6 = m at *
    rcases hj with rfl | rfl | rfl | rfl | rfl | rfl
    · rw [a0, e0]
    · rw [a1, e1]
    · rw [a2, e2]
    · rw [a3, e3]
    · rw [a4, e4]
    · rw [a5, e5]
  · rw [Array.getElem?_eq_none (by omega), Array.getElem?_eq_none (by rw [fileC_size]; omega)]
theorem fileC_congr {c d : Nat → Cp} (h : ∀ k, k < 16 → c k = d k) : fileC c = fileC d :=
  fileC_ext _ _ (fileC_size c) fun m hm => by rw [← h m hm]; exact fileC_get c m hm
theorem fileC_set (c : Nat → Cp) (k : Nat) (v : Cp) (h : k < 16) : wrC (fileC c) k v = fileC (upd c k v) := by
  refine fileC_ext _ _ (by simp [wrC, fileC_size]) fun m hm => ?_
  obtain ⟨e0, e1, e2, e3, e4, e5⟩ := fileC_get c m hm
  by_cases hk : m = k
  · subst hk
    rw [upd_same]
    have hsz := fileC_size c
    unfold wrC
    simp only [Array.getElem?_setIfInBounds, Array.size_setIfInBounds, hsz]
    refine ⟨?_, ?_, ?_, ?_, ?_, ?_⟩ <;> simp <;> omega
  · rw [upd_other c v hk]
    unfold wrC
    simp only [Array.getElem?_setIfInBounds, Array.size_setIfInBounds]
    refine ⟨?_, ?_, ?_, ?_, ?_, ?_⟩ <;> (rw [if_neg (by omega), if_neg (by omega), if_neg (by omega), if_neg (by omega), if_neg (by omega), if_neg (by omega)]; assumption)

def intC (v : Int) : Value := (Cp.int v).val

theorem gb_refl (w : World) (g : Nat) : w.grownBy w (some g) := ⟨rfl, rfl, rfl, Nat.le_refl _, fun _ _ _ => rfl⟩
theorem gb_set {w w1 : World} {g : Nat} (h : w.grownBy w1 (some g)) (i : Nat) (v : Value) : w.grownBy (w1.setCell ⟨g, i, none⟩ v) (some g) :=
  ⟨h.os, h.tape, h.output, by have := h.size; simp [World.setCell]; exact this, fun k hk hne => by
    rw [← h.block k hk hne]
    have hk' : g ≠ k := fun e => hne (by rw [e])
    simp [World.setCell, Array.getElem?_modify, hk']⟩
theorem gb_alloc {w w1 : World} {g : Nat} (h : w.grownBy w1 (some g)) (o : Obj) : w.grownBy (w1.alloc o) (some g) :=
  ⟨h.os, h.tape, h.output, by have := h.size; simp; omega, fun k hk hne => by rw [Below.heap_alloc w1 o k (by have := h.size; omega), h.block k hk hne]⟩
theorem gb_drew {w w1 : World} {g : Nat} (h : w.grownBy w1 (some g)) : w.grownBy w1.drew (some g) := ⟨h.os, h.tape, h.output, h.size, h.block⟩
theorem gb_trans {w w1 w2 : World} {g : Nat} (h : w.grownBy w1 (some g)) (k : w1.grownBy w2 (some g)) : w.grownBy w2 (some g) :=
  ⟨k.os.trans h.os, k.tape.trans h.tape, k.output.trans h.output, Nat.le_trans h.size k.size, fun i hi hne => (k.block i (by have := h.size; omega) hne).trans (h.block i hi hne)⟩
theorem gb_below {w w1 w2 : World} {g : Nat} (h : w.grownBy w1 (some g)) (k : Below w1.heap.size w1 w2) : w.grownBy w2 (some g) :=
  ⟨k.os.trans h.os, k.tape.trans h.tape, k.output.trans h.output, Nat.le_trans h.size k.size, fun i hi hne => (k.block i (by have := h.size; omega)).trans (h.block i hi hne)⟩
theorem zv48 : ∀ w, (zeroValue 48).run Try.prog w = .ok (.agg #[.bool false, .int .u32 0, .int .u32 0, .int .u32 0, .int .u16 0, .int .u16 0, .bool false, .int .u32 0, .int .u32 0, .int .u32 0, .int .u16 0, .int .u16 0, .bool false, .int .u32 0, .int .u32 0, .int .u32 0, .int .u16 0, .int .u16 0, .bool false, .int .u32 0, .int .u32 0, .int .u32 0, .int .u16 0, .int .u16 0, .bool false, .int .u32 0, .int .u32 0, .int .u32 0, .int .u16 0, .int .u16 0, .bool false, .int .u32 0, .int .u32 0, .int .u32 0, .int .u16 0, .int .u16 0, .bool false, .int .u32 0, .int .u32 0, .int .u32 0, .int .u16 0, .int .u16 0, .bool false, .int .u32 0, .int .u32 0, .int .u32 0, .int .u16 0, .int .u16 0, .bool false, .int .u32 0, .int .u32 0, .int .u32 0, .int .u16 0, .int .u16 0, .bool false, .int .u32 0, .int .u32 0, .int .u32 0, .int .u16 0, .int .u16 0, .bool false, .int .u32 0, .int .u32 0, .int .u32 0, .int .u16 0, .int .u16 0, .bool false, .int .u32 0, .int .u32 0, .int .u32 0, .int .u16 0, .int .u16 0, .bool false, .int .u32 0, .int .u32 0, .int .u32 0, .int .u16 0, .int .u16 0, .bool false, .int .u32 0, .int .u32 0, .int .u32 0, .int .u16 0, .int .u16 0, .bool false, .int .u32 0, .int .u32 0, .int .u32 0, .int .u16 0, .int .u16 0, .bool false, .int .u32 0, .int .u32 0, .int .u32 0, .int .u16 0, .int .u16 0]) w := fun w => by kernel_rfl
theorem which_c (i : Int) (w : World) : Calls Try.prog 15 #[.int .i64 i] w fun e w' => e = .returned (.bool (decide (0 < i ∧ i < 16))) ∧ w' = w := by
  by_cases h0 : i < 0
  · have e : decide (0 < i ∧ i < 16) = false := decide_eq_false (by omega)
    rw [e]
    go_enter Try.func15, Try.ntmps15
    go_wp2
    go_ret
    exact ⟨rfl, rfl⟩
  · by_cases h1 : 16 ≤ i
    · have e : decide (0 < i ∧ i < 16) = false := decide_eq_false (by omega)
      rw [e]
      go_enter Try.func15, Try.ntmps15
      go_wp2
      go_ret
      exact ⟨rfl, rfl⟩
    · by_cases h2 : i = 0
      · subst h2
        go_enter Try.func15, Try.ntmps15
        go_wp2
        go_ret
        exact ⟨rfl, rfl⟩
      · have e : decide (0 < i ∧ i < 16) = true := decide_eq_true (by omega)
        rw [e]
        go_enter Try.func15, Try.ntmps15
        go_wp2
        go_ret
        exact ⟨rfl, rfl⟩

theorem int_c (v : Int) (w : World) : Calls Try.prog 12 #[.int .u32 v] w fun e w' => e = .returned (intC v) ∧ Below w.heap.size w w' := by
  unfold intC Cp.int Cp.val
  go_enter Try.func12, Try.ntmps12
  go_wp2
  refine bodyPost_ret (v := .agg #[.bool false, .int .u32 0, .int .u32 0, .int .u32 v, .int .u16 0, .int .u16 0]) (by simp [results, Try.results12, go_sem]) rfl ⟨rfl, by repeat (first | (with_reducible exact b0 _) | (with_reducible refine bs ?_ (by first | (simp; done) | (simp; omega)) _) | (with_reducible refine ba ?_ _) | (with_reducible refine Below.drew ?_))⟩
theorem rint_c (v : Int) (w : World) : Calls Try.prog 10 #[.int .u32 v] w fun e w' => e = .returned (intC v) ∧ Below w.heap.size w w' := by
  unfold intC Cp.int Cp.val
  go_enter Try.func10, Try.ntmps10
  go_wp2
  refine bodyPost_ret (v := .agg #[.bool false, .int .u32 0, .int .u32 0, .int .u32 v, .int .u16 0, .int .u16 0]) (by simp [results, Try.results10, go_sem]) rfl ⟨rfl, by repeat (first | (with_reducible exact b0 _) | (with_reducible refine bs ?_ (by first | (simp; done) | (simp; omega)) _) | (with_reducible refine ba ?_ _) | (with_reducible refine Below.drew ?_))⟩

theorem new_c (w : World) : Calls Try.prog 6 #[] w fun e w' => ∃ g, e = .returned (.pointer (some ⟨g, 0, none⟩)) ∧ w.heap.size ≤ g ∧ Blk w' g (fileC fun _ => Cp.int 0) 48 ∧ Below w.heap.size w w' := by
  rw [← zeroC_eq]
  have zv := zv48
  go_enter Try.func6, Try.ntmps6
  go_wp2
  go_ret
  exact ⟨_, rfl, Nat.le_refl _, Blk.new _ _ _ _ rfl, ba (b0 _) _⟩

set_option maxHeartbeats 1000000 in
theorem get_c (g : Nat) (i : Nat) (c : Nat → Cp) (w : World) (hB : Blk w g (fileC c) 48) (h0 : 0 < i) (h1 : i < 16) :
    Calls Try.prog 14 #[.pointer (some ⟨g, 0, none⟩), .int .i64 i] w fun e w' => e = .returned (c i).val ∧ Below w.heap.size w w' := by
  have q0 : (0 : Int) < (i : Int) := by omega
  have q1 : (i : Int) < 16 := by omega
  have e15 : decide ((0 : Int) < (i : Int) ∧ (i : Int) < 16) = true := decide_eq_true ⟨q0, q1⟩
  have W15 := which_c (i : Int)
  rw [e15] at W15
  obtain ⟨f0, f1, f2, f3, f4, f5⟩ := fileC_get c i h1
  have c0 := (hB.cell _).trans f0
  have c1 := (hB.cell _).trans f1
  have c2 := (hB.cell _).trans f2
  have c3 := (hB.cell _).trans f3
  have c4 := (hB.cell _).trans f4
  have c5 := (hB.cell _).trans f5
  have hlt := hB.lt
  clear f0 f1 f2 f3 f4 f5 e15 hB
  generalize c i = x at *
  obtain ⟨x0, x1, x2, x3, x4, x5⟩ := x
  dsimp only at *
  go_enter Try.func14, Try.ntmps14
  go_wp2_with (go_at_call 15; (with_reducible refine (W15 _).mono ?_); rintro e w1 ⟨rfl, rfl⟩)
  refine bodyPost_ret (v := .agg #[.bool x0, .int .u32 x1, .int .u32 x2, .int .u32 x3, .int .u16 x4, .int .u16 x5]) (by simp [results, Try.results14, go_sem, Cp.val]) rfl ⟨rfl, by repeat (first | (with_reducible exact b0 _) | (with_reducible refine bs ?_ (by first | (simp; done) | (simp; omega)) _) | (with_reducible refine ba ?_ _) | (with_reducible refine Below.drew ?_))⟩
set_option maxHeartbeats 1000000 in
theorem get_no (g : Nat) (i : Int) (w : World) (h : ¬ (0 < i ∧ i < 16)) :
    Calls Try.prog 14 #[.pointer (some ⟨g, 0, none⟩), .int .i64 i] w fun e w' => e = .returned (Cp.int 0).val ∧ Below w.heap.size w w' := by
  have W15 := which_c i
  rw [decide_eq_false h] at W15
  have I12 := int_c 0
  unfold intC Cp.int Cp.val at I12
  clear h
  go_enter Try.func14, Try.ntmps14
  go_wp2_with (first
    | (go_at_call 15; (with_reducible refine (W15 _).mono ?_); rintro e w1 ⟨rfl, rfl⟩)
    | (go_at_call 12; (with_reducible refine (I12 _).mono ?_); rintro e w2 ⟨rfl, hb2⟩
       have X2 := (Blk.new w #[.bool false, .int .u32 0, .int .u32 0, .int .u32 0, .int .u16 0, .int .u16 0] 31 _ rfl).later hb2
       have C2 := X2.cell
       have S2 := X2.soft
       have L2 := X2.lt))
  have X3 := ((((((X2.set 0 (.bool false)).set 1 (.int .u32 0)).set 2 (.int .u32 0)).set 3 (.int .u32 0)).set 4 (.int .u16 0)).set 5 (.int .u16 0))
  have bel3 : Below w.heap.size w ((((((w2.setCell ⟨w.heap.size, 0, none⟩ (.bool false)).setCell ⟨w.heap.size, 1, none⟩ (.int .u32 0)).setCell ⟨w.heap.size, 2, none⟩ (.int .u32 0)).setCell ⟨w.heap.size, 3, none⟩ (.int .u32 0)).setCell ⟨w.heap.size, 4, none⟩ (.int .u16 0)).setCell ⟨w.heap.size, 5, none⟩ (.int .u16 0)) := (bs (bs (bs (bs (bs (bs (bt (ba (b0 _) _) hb2) (Nat.le_refl _) _) (Nat.le_refl _) _) (Nat.le_refl _) _) (Nat.le_refl _) _) (Nat.le_refl _) _) (Nat.le_refl _) _)
  clear X2 C2 S2 L2 hb2 W15 I12
  generalize ((((((w2.setCell ⟨w.heap.size, 0, none⟩ (.bool false)).setCell ⟨w.heap.size, 1, none⟩ (.int .u32 0)).setCell ⟨w.heap.size, 2, none⟩ (.int .u32 0)).setCell ⟨w.heap.size, 3, none⟩ (.int .u32 0)).setCell ⟨w.heap.size, 4, none⟩ (.int .u16 0)).setCell ⟨w.heap.size, 5, none⟩ (.int .u16 0)) = w3 at X3 bel3 ⊢
  have C3 : ∀ o, w3.cell? ⟨w.heap.size, o, none⟩ = (#[.bool false, .int .u32 0, .int .u32 0, .int .u32 0, .int .u16 0, .int .u16 0] : Array Value)[o]? := X3.cell
  refine bodyPost_ret (v := .agg #[.bool false, .int .u32 0, .int .u32 0, .int .u32 0, .int .u16 0, .int .u16 0]) (by simp [results, Try.results14, go_sem, C3]) rfl ⟨rfl, bel3⟩

set_option maxHeartbeats 1000000 in
theorem set_c (g : Nat) (i : Nat) (c : Nat → Cp) (v : Cp) (w : World) (hB : Blk w g (fileC c) 48) (h0 : 0 < i) (h1 : i < 16) :
    Calls Try.prog 7 #[.pointer (some ⟨g, 0, none⟩), .int .i64 i, v.val] w fun e w' => e = .returned (.tuple #[]) ∧ Blk w' g (fileC (upd c i v)) 48 ∧ w.grownBy w' (some g) := by
  have q0 : (0 : Int) < (i : Int) := by omega
  have q1 : (i : Int) < 16 := by omega
  have e15 : decide ((0 : Int) < (i : Int) ∧ (i : Int) < 16) = true := decide_eq_true ⟨q0, q1⟩
  have W15 := which_c (i : Int)
  rw [e15] at W15
  obtain ⟨f0, f1, f2, f3, f4, f5⟩ := fileC_get c i h1
  have c0 := (hB.cell _).trans f0
  have c1 := (hB.cell _).trans f1
  have c2 := (hB.cell _).trans f2
  have c3 := (hB.cell _).trans f3
  have c4 := (hB.cell _).trans f4
  have c5 := (hB.cell _).trans f5
  have hs := hB.soft
  have hlt := hB.lt
  have hset := fileC_set c i v h1
  clear f0 f1 f2 f3 f4 f5 e15
  generalize c i = x at *
  obtain ⟨x0, x1, x2, x3, x4, x5⟩ := x
  obtain ⟨v0, v1, v2, v3, v4, v5⟩ := v
  unfold Cp.val
  rw [← hset]
  unfold wrC
  clear hset
  dsimp only at *
  go_enter Try.func7, Try.ntmps7
  go_wp2_with (go_at_call 15; (with_reducible refine (W15 _).mono ?_); rintro e w1 ⟨rfl, rfl⟩)
  go_region
  go_wp2
  refine bodyPost_end (results_none rfl _ _ _) rfl ⟨rfl, ((((((hB.set _ _).set _ _).set _ _).set _ _).set _ _).set _ _).alloc _, gb_drew (gb_alloc (gb_set (gb_set (gb_set (gb_set (gb_set (gb_set (gb_refl w g) _ _) _ _) _ _) _ _) _ _) _ _) _)⟩
theorem set_no (g : Nat) (i : Int) (v : Cp) (w : World) (h : ¬ (0 < i ∧ i < 16)) :
    Calls Try.prog 7 #[.pointer (some ⟨g, 0, none⟩), .int .i64 i, v.val] w fun e w' => e = .returned (.tuple #[]) ∧ Below w.heap.size w w' := by
  have W15 := which_c i
  rw [decide_eq_false h] at W15
  clear h
  unfold Cp.val
  go_enter Try.func7, Try.ntmps7
  go_wp2_with (go_at_call 15; (with_reducible refine (W15 _).mono ?_); rintro e w1 ⟨rfl, rfl⟩)
  refine bodyPost_end (results_none rfl _ _ _) rfl ⟨rfl, ba (b0 _) _⟩
end Go.Proofs.Ytfjknnhhgnnpaaa
