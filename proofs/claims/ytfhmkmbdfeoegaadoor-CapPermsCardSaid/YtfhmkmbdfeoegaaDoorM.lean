/- What all laws over package cap share: a capability that came in, opened; laws on bits; the contract of the law's own 'less'. No condition but that numbers fit their kinds. -/
import Derived.Test.YtfhmkmbdfeoegaaDoorK
import Derived.ProofKit
import Derived.OpenShut
import Derived.ChangeOld
import Derived.Lib.LaidTab
namespace Go.Proofs.YtfhmkmbdfeoegaaDoor
open Go.RowKit Go.ChangeShapes Go.WideShapes
set_option linter.unusedVariables false
set_option linter.unusedSimpArgs false

theorem own : ownKnob Tryd.prog.godebug = none := by kernel_rfl
theorem laidOut : laidOutB Tryd.prog = true := by kernel_rfl
theorem cells25 : Tryd.prog.cellsOf 25 = 6 := by kernel_rfl
theorem cells4 : Tryd.prog.cellsOf 4 = 1 := by kernel_rfl
theorem cells22 : Tryd.prog.cellsOf 22 = 1 := by kernel_rfl
theorem cells23 : Tryd.prog.cellsOf 23 = 1 := by kernel_rfl

/-- A capability that came in: its six fields, each within its kind. -/
theorem open_cap {H : Type} {enc : TypeId × Value → H} {w : World} {base : Nat} {spare : Nat → Bool} {held : Bool} {r : Reach} {b0 : Nat} {v : Value} {d : DataW H} {q : List MemPlace}
    (hv : Value.okWide Tryd.prog w r b0 25 v) (h : DataW.Trod enc Tryd.prog w base spare held 25 v d q) :
    ∃ (tg : Bool) (b t a p y : Int), v = .agg #[.bool tg, .int .u32 b, .int .u32 t, .int .u32 a, .int .u16 p, .int .u16 y] ∧ U32 b ∧ U32 t ∧ U32 a ∧ U16 p ∧ U16 y := by
  obtain ⟨cs, rfl, hsz⟩ := okWide_struct Tryd.underlying25 hv
  rw [cells25] at hsz
  obtain ⟨l⟩ := cs
  obtain ⟨fuel, hf⟩ := h
  obtain ⟨xs, n, _, _, _, hlen, hg⟩ := DataW.trod_struct Tryd.underlying25 hf
  have hx : ∀ i, i < 6 → ∃ x, xs[i]? = some x := fun i hi => ⟨xs[i]'(by rw [hlen]; exact hi), List.getElem?_eq_getElem _⟩
  obtain ⟨x0, e0⟩ := hx 0 (by omega)
  obtain ⟨x1, e1⟩ := hx 1 (by omega)
  obtain ⟨x2, e2⟩ := hx 2 (by omega)
  obtain ⟨x3, e3⟩ := hx 3 (by omega)
  obtain ⟨x4, e4⟩ := hx 4 (by omega)
  obtain ⟨x5, e5⟩ := hx 5 (by omega)
  have h0 := (hg 0 _ rfl).trans e0
  have h1 := (hg 1 _ rfl).trans e1
  have h2 := (hg 2 _ rfl).trans e2
  have h3 := (hg 3 _ rfl).trans e3
  have h4 := (hg 4 _ rfl).trans e4
  have h5 := (hg 5 _ rfl).trans e5
  obtain ⟨tg, c0, -⟩ := DataW.trod_bool Tryd.underlying4 h0
  obtain ⟨b, c1, -, w1⟩ := DataW.trod_int Tryd.underlying22 h1
  obtain ⟨t, c2, -, w2⟩ := DataW.trod_int Tryd.underlying22 h2
  obtain ⟨a, c3, -, w3⟩ := DataW.trod_int Tryd.underlying22 h3
  obtain ⟨p, c4, -, w4⟩ := DataW.trod_int Tryd.underlying23 h4
  obtain ⟨y, c5, -, w5⟩ := DataW.trod_int Tryd.underlying23 h5
  change List.take (Tryd.prog.cellsOf 4) (List.drop 0 (Value.agg ⟨l⟩).cells.toList) = _ at c0
  change List.take (Tryd.prog.cellsOf 22) (List.drop 1 (Value.agg ⟨l⟩).cells.toList) = _ at c1
  change List.take (Tryd.prog.cellsOf 22) (List.drop 2 (Value.agg ⟨l⟩).cells.toList) = _ at c2
  change List.take (Tryd.prog.cellsOf 22) (List.drop 3 (Value.agg ⟨l⟩).cells.toList) = _ at c3
  change List.take (Tryd.prog.cellsOf 23) (List.drop 4 (Value.agg ⟨l⟩).cells.toList) = _ at c4
  change List.take (Tryd.prog.cellsOf 23) (List.drop 5 (Value.agg ⟨l⟩).cells.toList) = _ at c5
  rw [cells4] at c0
  rw [cells22] at c1 c2 c3
  rw [cells23] at c4 c5
  match l, hsz with
  | [v0, v1, v2, v3, v4, v5], _ =>
    simp [Value.cells] at c0 c1 c2 c3 c4 c5
    subst c0 c1 c2 c3 c4 c5
    exact ⟨tg, b, t, a, p, y, rfl, bounds_u32 w1, bounds_u32 w2, bounds_u32 w3, bounds_u16 w4, bounds_u16 w5⟩

theorem Box.new_at (w : World) (c : Array Value) (t : TypeId) (n : Nat) (h : w.heap.size = n) : Box (w.alloc (.cells c t)) n c := by subst h; exact Box.new w c t

/-! Bits of 16 -/
theorem and16 {x y : Int} (hx : U16 x) (hy : U16 y) : bits .and .u16 x y = ((x.toNat &&& y.toNat : Nat) : Int) := u16_and x y hx.1 (by have := hx.2; omega) hy.1 (by have := hy.2; omega)
theorem and16_u {x y : Int} (hx : U16 x) (hy : U16 y) : U16 (bits .and .u16 x y) := by
  rw [and16 hx hy]
  have h := Nat.and_le_left (n := x.toNat) (m := y.toNat)
  have := hx.2
  exact ⟨by omega, by omega⟩
theorem perm4 {p : Int} (hp : U16 p) : permB p 4 = (bits .and .u16 p 4 != 0) := by
  unfold permB
  rw [and16 hp ⟨by omega, by omega⟩]
  have h : p.toNat &&& 4 = 0 ∨ p.toNat &&& 4 = 4 := by
    have h1 : p.toNat &&& 4 ≤ 4 := Nat.and_le_right
    have h2 := Nat.and_mod_two_pow (a := p.toNat) (b := 4) (n := 3)
    rw [Nat.mod_eq_of_lt (show p.toNat &&& 4 < 2 ^ 3 by omega)] at h2
    rw [h2]
    have h3 : p.toNat % 2 ^ 3 < 8 := Nat.mod_lt _ (by decide)
    generalize p.toNat % 2 ^ 3 = m at h3
    have hall : ∀ m : Fin 8, m.val &&& 4 % 2 ^ 3 = 0 ∨ m.val &&& 4 % 2 ^ 3 = 4 := by decide
    exact hall ⟨m, h3⟩
  rcases h with h | h
  · rw [show (4 : Int).toNat = 4 from rfl, h]; decide
  · rw [show (4 : Int).toNat = 4 from rfl, h]; decide

/-- An entry by the reference, said as the program's. -/
theorem renter_c' (tg : Bool) (b t a p y : Int) (w : World) (hp : U16 p) :
    Calls Tryd.prog 28 #[.agg #[.bool tg, .int .u32 b, .int .u32 t, .int .u32 a, .int .u16 p, .int .u16 y]] w fun e w' =>
      e = .returned (.agg #[.bool (tg && (permB p 4 && (y == 0))), .int .u32 b, .int .u32 t, .int .u32 a, .int .u16 p, .int .u16 1]) ∧ Below w.heap.size w w' := by
  rw [perm4 hp, Bool.and_comm (bits .and .u16 p 4 != 0)]
  exact renter_c tg b t a p y w

/-! Sealing and opening, both ways in one -/
def sealY (y : Int) (ktg : Bool) (kb kt ka kp ky : Int) : Int := if sealB y ktg kb kt ka kp ky = true then ka else y
def unsealY (y : Int) (ktg : Bool) (kb kt ka kp ky : Int) : Int := if unsealB y ktg kb kt ka kp ky = true then 0 else y
theorem seal_any (tg : Bool) (b t a p y : Int) (ktg : Bool) (kb kt ka kp ky : Int) (w : World) (hkt : U32 kt) (hka : U32 ka) :
    Calls Tryd.prog 19 #[.agg #[.bool tg, .int .u32 b, .int .u32 t, .int .u32 a, .int .u16 p, .int .u16 y], .agg #[.bool ktg, .int .u32 kb, .int .u32 kt, .int .u32 ka, .int .u16 kp, .int .u16 ky]] w fun e w' =>
      e = .returned (.agg #[.bool (tg && sealB y ktg kb kt ka kp ky), .int .u32 b, .int .u32 t, .int .u32 a, .int .u16 p, .int .u16 (sealY y ktg kb kt ka kp ky)]) ∧ Below w.heap.size w w' := by
  unfold sealY
  rcases Bool.eq_false_or_eq_true (sealB y ktg kb kt ka kp ky) with h | h
  · rw [h, if_pos rfl, Bool.and_true]
    exact seal_yes tg b t a p y ktg kb kt ka kp ky w hkt hka h
  · rw [h, if_neg (by decide), Bool.and_false]
    exact seal_no tg b t a p y ktg kb kt ka kp ky w hkt hka h
theorem unseal_any (tg : Bool) (b t a p y : Int) (ktg : Bool) (kb kt ka kp ky : Int) (w : World) (hy : U16 y) (hkt : U32 kt) (hka : U32 ka) :
    Calls Tryd.prog 20 #[.agg #[.bool tg, .int .u32 b, .int .u32 t, .int .u32 a, .int .u16 p, .int .u16 y], .agg #[.bool ktg, .int .u32 kb, .int .u32 kt, .int .u32 ka, .int .u16 kp, .int .u16 ky]] w fun e w' =>
      e = .returned (.agg #[.bool (tg && unsealB y ktg kb kt ka kp ky), .int .u32 b, .int .u32 t, .int .u32 a, .int .u16 p, .int .u16 (unsealY y ktg kb kt ka kp ky)]) ∧ Below w.heap.size w w' := by
  unfold unsealY
  rcases Bool.eq_false_or_eq_true (unsealB y ktg kb kt ka kp ky) with h | h
  · rw [h, if_pos rfl, Bool.and_true]
    exact unseal_yes tg b t a p y ktg kb kt ka kp ky w hy hkt hka h
  · rw [h, if_neg (by decide), Bool.and_false]
    exact unseal_no tg b t a p y ktg kb kt ka kp ky w hy hkt hka h
theorem rseal_any (tg : Bool) (b t a p y : Int) (ktg : Bool) (kb kt ka kp ky : Int) (w : World) (hkt : U32 kt) (hka : U32 ka) :
    Calls Tryd.prog 32 #[.agg #[.bool tg, .int .u32 b, .int .u32 t, .int .u32 a, .int .u16 p, .int .u16 y], .agg #[.bool ktg, .int .u32 kb, .int .u32 kt, .int .u32 ka, .int .u16 kp, .int .u16 ky]] w fun e w' =>
      e = .returned (.agg #[.bool (tg && sealB y ktg kb kt ka kp ky), .int .u32 b, .int .u32 t, .int .u32 a, .int .u16 p, .int .u16 (sealY y ktg kb kt ka kp ky)]) ∧ Below w.heap.size w w' := by
  unfold sealY
  rcases Bool.eq_false_or_eq_true (sealB y ktg kb kt ka kp ky) with h | h
  · rw [h, if_pos rfl, Bool.and_true]
    exact rseal_yes tg b t a p y ktg kb kt ka kp ky w hkt hka h
  · rw [h, if_neg (by decide), Bool.and_false]
    exact rseal_no tg b t a p y ktg kb kt ka kp ky w hkt hka h
theorem runseal_any (tg : Bool) (b t a p y : Int) (ktg : Bool) (kb kt ka kp ky : Int) (w : World) (hy : U16 y) (hkt : U32 kt) (hka : U32 ka) :
    Calls Tryd.prog 33 #[.agg #[.bool tg, .int .u32 b, .int .u32 t, .int .u32 a, .int .u16 p, .int .u16 y], .agg #[.bool ktg, .int .u32 kb, .int .u32 kt, .int .u32 ka, .int .u16 kp, .int .u16 ky]] w fun e w' =>
      e = .returned (.agg #[.bool (tg && unsealB y ktg kb kt ka kp ky), .int .u32 b, .int .u32 t, .int .u32 a, .int .u16 p, .int .u16 (unsealY y ktg kb kt ka kp ky)]) ∧ Below w.heap.size w w' := by
  unfold unsealY
  rcases Bool.eq_false_or_eq_true (unsealB y ktg kb kt ka kp ky) with h | h
  · rw [h, if_pos rfl, Bool.and_true]
    exact runseal_yes tg b t a p y ktg kb kt ka kp ky w hy hkt hka h
  · rw [h, if_neg (by decide), Bool.and_false]
    exact runseal_no tg b t a p y ktg kb kt ka kp ky w hy hkt hka h

/-! The last statement of a law: walked once, in the class of the later worlds -/
section
variable {P : Program} {id : Nat} {Q : Exit → Act → World → Prop} {a : Act} {w : World} {l : List Oper}
theorem reg_plain (F : World → Prop) (hF : F w) (h : ∀ W, F W → wpQuiet P l.toArray (fun w' => ∃ u : Later W, w' = u.w) (fun a' => ∀ w', (∃ u : Later W, w' = u.w) → Q .normal a' w') l a) : (Code.region id l.toArray false).wp P Q a w :=
  wp_region_lit (wpList_later F hF h)
theorem reg_draw (hm : P.follows .mixedOrders = true) (hB : Region.lexB .any l.toArray = true) (F : World → Prop) (hF : F w)
    (h : ∀ W, F W → wpQuiet P l.toArray (fun w' => ∃ u : Later W, w' = u.w) (fun a' => ∀ w', (∃ u : Later W, w' = u.w) → Q .normal a' w') l a) : (Code.region id l.toArray true).wp P Q a w :=
  wp_later (w0 := w) hm hB (Below.refl _ _) (h w hF)
end

theorem gTabType : (Tryd.prog.globals[0]?).map (·.type) = some 69 := by kernel_rfl
theorem cells50 : Tryd.prog.cellsOf 50 = 1 := by kernel_rfl
theorem cells69 : Tryd.prog.cellsOf 69 = 20 := by kernel_rfl
/-- What a row's list gives: the table of powers of ten. -/
theorem tab_of {W : World} (h : laidMet Tryd.prog [("math/bits.deBruijn32tab", Rows.laid_math_bits_deBruijn32tab), ("math/bits.deBruijn64tab", Rows.laid_math_bits_deBruijn64tab), ("internal/strconv.uint64pow10", Rows.laid_internal_strconv_uint64pow10)] W) : Tab W := by
  obtain ⟨ps, hv, _⟩ := h
  obtain ⟨g1, t1, cs1, f1, p1, q1, _, _, _, _, hv2, _⟩ := hv
  obtain ⟨g2, t2, cs2, f2, p2, q2, _, _, _, _, hv3, _⟩ := hv2
  obtain ⟨g', t', cs, fuel, p, q, hg', ht', hvar, hd, _, _⟩ := hv3
  obtain rfl := Option.some.inj (gTab.symm.trans hg')
  obtain rfl := Option.some.inj (gTabType.symm.trans ht')
  unfold Tab Lib.TabIs
  rw [hvar, ← Lib.cells_of_tab (zs := Lib.pow10Tab) Tryd.underlying69 Tryd.underlying50 cells50 cells69 hd]
def putCells (cs : Array Value) : Obj → Obj
  | .cells _ t frozen => .cells cs t frozen
  | o => o
/-- A world for the witness: the settled one, the three tables holding what their initialisers lay. -/
noncomputable def laidWorld (os : Os) : World :=
  { World.holding Tryd.prog os ⟨#[], #[], []⟩ with
    heap := (((World.holding Tryd.prog os ⟨#[], #[], []⟩).heap.modify 0 (putCells (Lib.pow10Tab.map fun z => Value.int .u64 z).toArray)).modify 1 (putCells #[.int .u8 0, .int .u8 1, .int .u8 28, .int .u8 2, .int .u8 29, .int .u8 14, .int .u8 24, .int .u8 3, .int .u8 30, .int .u8 22, .int .u8 20, .int .u8 15, .int .u8 25, .int .u8 17, .int .u8 4, .int .u8 8, .int .u8 31, .int .u8 27, .int .u8 13, .int .u8 23, .int .u8 21, .int .u8 19, .int .u8 16, .int .u8 7, .int .u8 26, .int .u8 12, .int .u8 18, .int .u8 6, .int .u8 11, .int .u8 5, .int .u8 10, .int .u8 9])).modify 2 (putCells #[.int .u8 0, .int .u8 1, .int .u8 56, .int .u8 2, .int .u8 57, .int .u8 49, .int .u8 28, .int .u8 3, .int .u8 61, .int .u8 58, .int .u8 42, .int .u8 50, .int .u8 38, .int .u8 29, .int .u8 17, .int .u8 4, .int .u8 62, .int .u8 47, .int .u8 59, .int .u8 36, .int .u8 45, .int .u8 43, .int .u8 51, .int .u8 22, .int .u8 53, .int .u8 39, .int .u8 33, .int .u8 30, .int .u8 24, .int .u8 18, .int .u8 12, .int .u8 5, .int .u8 63, .int .u8 55, .int .u8 48, .int .u8 27, .int .u8 60, .int .u8 41, .int .u8 37, .int .u8 16, .int .u8 46, .int .u8 35, .int .u8 44, .int .u8 21, .int .u8 52, .int .u8 32, .int .u8 23, .int .u8 11, .int .u8 54, .int .u8 26, .int .u8 40, .int .u8 15, .int .u8 34, .int .u8 20, .int .u8 31, .int .u8 10, .int .u8 25, .int .u8 14, .int .u8 19, .int .u8 9, .int .u8 13, .int .u8 8, .int .u8 7, .int .u8 6]) }
end Go.Proofs.YtfhmkmbdfeoegaaDoor
