/- What the laws of package pack share: a capability and a row of sixteen bytes that came in, opened; a capability's bytes tell it. No condition but that numbers fit their kinds. -/
import Derived.Test.YtjgnpinokjbhdaaE
import Derived.ProofKit
import Derived.OpenShut
import Derived.ChangeOld
namespace Go.Proofs.Ytjgnpinokjbhdaa
open Go.RowKit Go.ChangeShapes Go.WideShapes
set_option linter.unusedVariables false
set_option linter.unusedSimpArgs false

theorem own : ownKnob Try.prog.godebug = none := by kernel_rfl
theorem laidOut : laidOutB Try.prog = true := by kernel_rfl
theorem cells25 : Try.prog.cellsOf 25 = 6 := by kernel_rfl
theorem cells27 : Try.prog.cellsOf 27 = 16 := by kernel_rfl
theorem cells5 : Try.prog.cellsOf 5 = 1 := by kernel_rfl
theorem cells4 : Try.prog.cellsOf 4 = 1 := by kernel_rfl
theorem cells22 : Try.prog.cellsOf 22 = 1 := by kernel_rfl
theorem cells23 : Try.prog.cellsOf 23 = 1 := by kernel_rfl

/-- A capability that came in: its six fields, each within its kind. -/
theorem open_cap {H : Type} {enc : TypeId × Value → H} {w : World} {base : Nat} {spare : Nat → Bool} {held : Bool} {r : Reach} {b0 : Nat} {v : Value} {d : DataW H} {q : List MemPlace}
    (hv : Value.okWide Try.prog w r b0 25 v) (h : DataW.Trod enc Try.prog w base spare held 25 v d q) :
    ∃ (tg : Bool) (b t a p y : Int), v = .agg #[.bool tg, .int .u32 b, .int .u32 t, .int .u32 a, .int .u16 p, .int .u16 y] ∧ U32 b ∧ U32 t ∧ U32 a ∧ U16 p ∧ U16 y := by
  obtain ⟨cs, rfl, hsz⟩ := okWide_struct Try.underlying25 hv
  rw [cells25] at hsz
  obtain ⟨l⟩ := cs
  obtain ⟨fuel, hf⟩ := h
  obtain ⟨xs, n, _, _, _, hlen, hg⟩ := DataW.trod_struct Try.underlying25 hf
  have hx : ∀ i, i < 6 → ∃ x, xs[i]? = some x := fun i hi => ⟨xs[i]'(by rw [hlen]; exact hi), List.getElem?_eq_getElem _⟩
  obtain ⟨x0, e0⟩ := hx 0 (by omega)
  obtain ⟨x1, e1⟩ := hx 1 (by omega)
  obtain ⟨x2, e2⟩ := hx 2 (by omega)
  obtain ⟨x3, e3⟩ := hx 3 (by omega)
  obtain ⟨x4, e4⟩ := hx 4 (by omega)
  obtain ⟨x5, e5⟩ := hx 5 (by omega)
  have h0 := (hg 0 _ rfl).trans e0
  have h1 := (hg 1 _ rfl).trans e1
  have h2 := (hg 2 _ rfl).trans e2
  have h3 := (hg 3 _ rfl).trans e3
  have h4 := (hg 4 _ rfl).trans e4
  have h5 := (hg 5 _ rfl).trans e5
  obtain ⟨tg, c0, -⟩ := DataW.trod_bool Try.underlying4 h0
  obtain ⟨b, c1, -, w1⟩ := DataW.trod_int Try.underlying22 h1
  obtain ⟨t, c2, -, w2⟩ := DataW.trod_int Try.underlying22 h2
  obtain ⟨a, c3, -, w3⟩ := DataW.trod_int Try.underlying22 h3
  obtain ⟨p, c4, -, w4⟩ := DataW.trod_int Try.underlying23 h4
  obtain ⟨y, c5, -, w5⟩ := DataW.trod_int Try.underlying23 h5
  change List.take (Try.prog.cellsOf 4) (List.drop 0 (Value.agg ⟨l⟩).cells.toList) = _ at c0
  change List.take (Try.prog.cellsOf 22) (List.drop 1 (Value.agg ⟨l⟩).cells.toList) = _ at c1
  change List.take (Try.prog.cellsOf 22) (List.drop 2 (Value.agg ⟨l⟩).cells.toList) = _ at c2
  change List.take (Try.prog.cellsOf 22) (List.drop 3 (Value.agg ⟨l⟩).cells.toList) = _ at c3
  change List.take (Try.prog.cellsOf 23) (List.drop 4 (Value.agg ⟨l⟩).cells.toList) = _ at c4
  change List.take (Try.prog.cellsOf 23) (List.drop 5 (Value.agg ⟨l⟩).cells.toList) = _ at c5
  rw [cells4] at c0
  rw [cells22] at c1 c2 c3
  rw [cells23] at c4 c5
  match l, hsz with
  | [v0, v1, v2, v3, v4, v5], _ =>
    simp [Value.cells] at c0 c1 c2 c3 c4 c5
    subst c0 c1 c2 c3 c4 c5
    exact ⟨tg, b, t, a, p, y, rfl, bounds_u32 w1, bounds_u32 w2, bounds_u32 w3, bounds_u16 w4, bounds_u16 w5⟩


theorem okWide_array {P : Program} {w : World} {r : Reach} {base : Nat} {t : TypeId} {v : Value} {n : Nat} {e : TypeId} (ht : P.underlying t = some (.array n e)) (h : Value.okWide P w r base t v) : ∃ cs, v = .agg cs ∧ cs.size = P.cellsOf t := by
  unfold Value.okWide at h
  rw [ht] at h
  cases v <;> simp_all
/-- Sixteen bytes that came in. -/
theorem open_row {H : Type} {enc : TypeId × Value → H} {w : World} {base : Nat} {spare : Nat → Bool} {held : Bool} {r : Reach} {b0 : Nat} {v : Value} {d : DataW H} {q : List MemPlace}
    (hv : Value.okWide Try.prog w r b0 27 v) (h : DataW.Trod enc Try.prog w base spare held 27 v d q) :
    ∃ (x0 x1 x2 x3 x4 x5 x6 x7 x8 x9 x10 x11 x12 x13 x14 x15 : Int), v = .agg #[.int .u8 x0, .int .u8 x1, .int .u8 x2, .int .u8 x3, .int .u8 x4, .int .u8 x5, .int .u8 x6, .int .u8 x7, .int .u8 x8, .int .u8 x9, .int .u8 x10, .int .u8 x11, .int .u8 x12, .int .u8 x13, .int .u8 x14, .int .u8 x15] ∧ U8 x0 ∧ U8 x1 ∧ U8 x2 ∧ U8 x3 ∧ U8 x4 ∧ U8 x5 ∧ U8 x6 ∧ U8 x7 ∧ U8 x8 ∧ U8 x9 ∧ U8 x10 ∧ U8 x11 ∧ U8 x12 ∧ U8 x13 ∧ U8 x14 ∧ U8 x15 := by
  obtain ⟨cs, rfl, hsz⟩ := okWide_array Try.underlying27 hv
  rw [cells27] at hsz
  obtain ⟨l⟩ := cs
  obtain ⟨fuel, hf⟩ := h
  obtain ⟨xs, n, _, _, _, hlen, hg⟩ := DataW.trod_array Try.underlying27 hf
  have key : ∀ i, i < 16 → ∃ x, l[i]? = some (.int .u8 x) ∧ U8 x := fun i hi => by
    have e0 := hg i hi
    rw [List.getElem?_eq_getElem (show i < xs.length by omega)] at e0
    obtain ⟨x, c0, -, w0⟩ := DataW.trod_int Try.underlying5 e0
    rw [cells5] at c0
    change List.take 1 (List.drop (i * 1) l) = _ at c0
    refine ⟨x, ?_, bounds_u8 w0⟩
    have h1 : (List.take 1 (List.drop (i * 1) l))[0]? = some (.int .u8 x) := by rw [c0]; rfl
    simpa using h1
  obtain ⟨x0, E0, H0⟩ := key 0 (by omega)
  obtain ⟨x1, E1, H1⟩ := key 1 (by omega)
  obtain ⟨x2, E2, H2⟩ := key 2 (by omega)
  obtain ⟨x3, E3, H3⟩ := key 3 (by omega)
  obtain ⟨x4, E4, H4⟩ := key 4 (by omega)
  obtain ⟨x5, E5, H5⟩ := key 5 (by omega)
  obtain ⟨x6, E6, H6⟩ := key 6 (by omega)
  obtain ⟨x7, E7, H7⟩ := key 7 (by omega)
  obtain ⟨x8, E8, H8⟩ := key 8 (by omega)
  obtain ⟨x9, E9, H9⟩ := key 9 (by omega)
  obtain ⟨x10, E10, H10⟩ := key 10 (by omega)
  obtain ⟨x11, E11, H11⟩ := key 11 (by omega)
  obtain ⟨x12, E12, H12⟩ := key 12 (by omega)
  obtain ⟨x13, E13, H13⟩ := key 13 (by omega)
  obtain ⟨x14, E14, H14⟩ := key 14 (by omega)
  obtain ⟨x15, E15, H15⟩ := key 15 (by omega)
  clear key hg hlen
  revert E0 E1 E2 E3 E4 E5 E6 E7 E8 E9 E10 E11 E12 E13 E14 E15
  match l, hsz with
  | [v0, v1, v2, v3, v4, v5, v6, v7, v8, v9, v10, v11, v12, v13, v14, v15], _ =>
    intro E0 E1 E2 E3 E4 E5 E6 E7 E8 E9 E10 E11 E12 E13 E14 E15
    simp at E0 E1 E2 E3 E4 E5 E6 E7 E8 E9 E10 E11 E12 E13 E14 E15
    subst E0 E1 E2 E3 E4 E5 E6 E7 E8 E9 E10 E11 E12 E13 E14 E15
    exact ⟨x0, x1, x2, x3, x4, x5, x6, x7, x8, x9, x10, x11, x12, x13, x14, x15, rfl, H0, H1, H2, H3, H4, H5, H6, H7, H8, H9, H10, H11, H12, H13, H14, H15⟩

theorem capI_len (b t a p y : Int) : (capI b t a p y).length = 16 := rfl
theorem eqA (b t a p y b' t' a' p' y' : Int) (w : World) : (binOp .eql 27 (.agg ((capI b t a p y).map (Value.int .u8)).toArray) (.agg ((capI b' t' a' p' y').map (Value.int .u8)).toArray)).run Try.prog w = .ok (.bool (capI b t a p y == capI b' t' a' p' y')) w :=
  run_eqlI w 27 5 16 .u8 Try.underlying27 Try.underlying5 sz5 _ _ rfl rfl
theorem capI_inj {b t a p y b' t' a' p' y' : Int} (hb : U32 b) (ht : U32 t) (ha : U32 a) (hp : U16 p) (hy : U16 y) (hb' : U32 b') (ht' : U32 t') (ha' : U32 a') (hp' : U16 p') (hy' : U16 y') :
    (capI b t a p y == capI b' t' a' p' y') = (b == b' && (t == t' && (a == a' && (p == p' && y == y')))) := by
  unfold U32 U16 at *
  rw [Bool.eq_iff_iff]
  simp only [beq_iff_eq, Bool.and_eq_true]
  constructor
  · intro h
    simp [capI, by4, by2] at h
    omega
  · rintro ⟨rfl, rfl, rfl, rfl, rfl⟩
    rfl
set_option maxHeartbeats 1000000 in
theorem eqC (s : Bool) (b t a p y : Int) (s' : Bool) (b' t' a' p' y' : Int) (w : World) : (binOp .eql 25 (.agg #[.bool s, .int .u32 b, .int .u32 t, .int .u32 a, .int .u16 p, .int .u16 y]) (.agg #[.bool s', .int .u32 b', .int .u32 t', .int .u32 a', .int .u16 p', .int .u16 y'])).run Try.prog w = .ok (.bool (s == s' && (b == b' && (t == t' && (a == a' && (p == p' && y == y')))))) w := by
  by_cases g0 : s = s'
  · subst g0
    by_cases g1 : b = b'
    · subst g1
      by_cases g2 : t = t'
      · subst g2
        by_cases g3 : a = a'
        · subst g3
          by_cases g4 : p = p'
          · subst g4
            by_cases g5 : y = y'
            · subst g5
              simp [go_sem]
            · simp [go_sem, g5]
          · simp [go_sem, g4]
        · simp [go_sem, g3]
      · simp [go_sem, g2]
    · simp [go_sem, g1]
  · simp [go_sem, g0]
end Go.Proofs.Ytjgnpinokjbhdaa
