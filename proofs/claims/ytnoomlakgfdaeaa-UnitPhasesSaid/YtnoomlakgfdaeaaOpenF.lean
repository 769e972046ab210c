/- What an argument by value looks like that is a struct of integers, whatever their number. No program in sight. -/
import Derived.ProofKit
import Derived.OpenShut
import Derived.Lib.SmallJoins
import Derived.Deep.Fields
import Derived.Deep.SlicePairs
namespace Go.Proofs.Ytnoomlakgfdaeaa
open Go.ChangeShapes Go.WideShapes Go.ChangeAt Go.RowKit Go.Joins Go.Deep

/-- are all fields of kind int64? -/
def allI64 (P : Program) (fs : Array Field) : Bool := fs.all fun f => match P.underlying f.type with
  | some (.int .i64) => true
  | _ => false
theorem allI64_of {P : Program} {fs : Array Field} (h : allI64 P fs = true) : ∀ (j : Nat) (f : Field), fs[j]? = some f → P.underlying f.type = some (.int .i64) := by
  intro j f hj
  obtain ⟨hl, rfl⟩ := Array.getElem?_eq_some_iff.1 hj
  have := (Array.all_eq_true.1 h) j hl
  revert this
  generalize P.underlying fs[j].type = o
  intro this
  match o, this with
  | some (.int .i64), _ => rfl

section
variable {H : Type} {enc : TypeId × Value → H} {P : Program} {w : World} {r : Reach} {b0 base : Nat} {t : TypeId} {v : Value} {d : DataW H} {p : List MemPlace}
theorem trod_intCells {fs : Array Field} {cs : List Value} {x : DataW H × List MemPlace} {fuel : Nat} {spare : Nat → Bool} (hs : P.underlying t = some (.struct fs)) (hone : oneCellFields P fs = true) (hC : P.cellsOf t = fs.size)
    (hint : ∀ (j : Nat) (f : Field), fs[j]? = some f → P.underlying f.type = some (.int .i64)) (h : DataW.trod enc P w base spare true fuel t cs = some x) :
    ∀ j, j < fs.size → ∃ z : Int, cs[j]? = some (.int .i64 z) ∧ (Lit.int .i64 z).wf = true := by
  obtain ⟨xs, n, _, hx, hl, hlen, hg⟩ := DataW.trod_struct hs h
  intro j hj
  have hfj := Array.getElem?_eq_getElem hj
  obtain ⟨o, k⟩ := hone_of hone j _ hfj
  have g := hg j _ hfj
  have hj' : j < cs.length := by rw [hl, hC]; exact hj
  have e : List.take (P.cellsOf fs[j].type) (List.drop fs[j].offset cs) = [cs[j]] := by
    rw [o, k, List.drop_eq_getElem_cons hj']
    rfl
  rw [e] at g
  have hxl : j < xs.length := by omega
  obtain ⟨x, e0, _, w0⟩ := DataW.trod_int (hint j _ hfj) (g.trans (List.getElem?_eq_getElem hxl))
  refine ⟨x, ?_, w0⟩
  rw [List.getElem?_eq_getElem hj']
  simp at e0
  rw [e0]

theorem open_intFields {fs : Array Field} (hs : P.underlying t = some (.struct fs)) (hone : oneCellFields P fs = true) (hC : P.cellsOf t = fs.size)
    (hint : ∀ (j : Nat) (f : Field), fs[j]? = some f → P.underlying f.type = some (.int .i64))
    (hv : Value.okWide P w r b0 t v) (h : DataW.Trod enc P w base (fun _ => true) true t v d p) :
    ∃ zs : List Int, zs.length = fs.size ∧ v = .agg (zs.map (Value.int .i64)).toArray ∧ ∀ z ∈ zs, (Lit.int .i64 z).wf = true := by
  obtain ⟨cs, rfl, hsz⟩ := okWide_struct hs hv
  obtain ⟨fuel, hf⟩ := h
  have each : ∀ j, j < fs.size → ∃ z : Int, cs[j]? = some (.int .i64 z) ∧ (Lit.int .i64 z).wf = true := fun j hj => by
    obtain ⟨z, hz, hw⟩ := trod_intCells hs hone hC hint hf j hj
    exact ⟨z, by simpa [Value.cells] using hz, hw⟩
  obtain ⟨q, hq⟩ := choose_lt each
  refine ⟨(List.range fs.size).map q, by simp, ?_, ?_⟩
  · congr 1
    apply Array.ext
    · simp; omega
    · intro j h1 h2
      have hj : j < fs.size := by rw [hsz, hC] at h1; exact h1
      have := (hq j hj).1
      rw [Array.getElem?_eq_getElem h1] at this
      simp at this
      simp [this]
  · intro z hz
    simp at hz
    obtain ⟨j, hj, rfl⟩ := hz
    exact (hq j hj).2
end

theorem open_st6 {H : Type} {enc : TypeId × Value → H} {P : Program} {w : World} {r : Reach} {b0 base : Nat} {t : TypeId} {v : Value} {d : DataW H} {p : List MemPlace} {fs : Array Field} (h6 : fs.size = 6) (hs : P.underlying t = some (.struct fs)) (hone : oneCellFields P fs = true) (hC : P.cellsOf t = fs.size)
    (hint : ∀ (j : Nat) (f : Field), fs[j]? = some f → P.underlying f.type = some (.int .i64))
    (hv : Value.okWide P w r b0 t v) (h : DataW.Trod enc P w base (fun _ => true) true t v d p) :
    ∃ a b c d e g : Int, v = .agg #[.int .i64 a, .int .i64 b, .int .i64 c, .int .i64 d, .int .i64 e, .int .i64 g] ∧ (Lit.int .i64 a).wf = true ∧ (Lit.int .i64 b).wf = true ∧ (Lit.int .i64 c).wf = true ∧ (Lit.int .i64 d).wf = true ∧ (Lit.int .i64 e).wf = true ∧ (Lit.int .i64 g).wf = true := by
  obtain ⟨zs, hl, rfl, hz⟩ := open_intFields hs hone hC hint hv h
  rw [h6] at hl
  match zs, hl with
  | [a, b, c, d, e, g], _ => exact ⟨a, b, c, d, e, g, rfl, hz a (by simp), hz b (by simp), hz c (by simp), hz d (by simp), hz e (by simp), hz g (by simp)⟩
theorem open_st3 {H : Type} {enc : TypeId × Value → H} {P : Program} {w : World} {r : Reach} {b0 base : Nat} {t : TypeId} {v : Value} {d : DataW H} {p : List MemPlace} {fs : Array Field} (h3 : fs.size = 3) (hs : P.underlying t = some (.struct fs)) (hone : oneCellFields P fs = true) (hC : P.cellsOf t = fs.size)
    (hint : ∀ (j : Nat) (f : Field), fs[j]? = some f → P.underlying f.type = some (.int .i64))
    (hv : Value.okWide P w r b0 t v) (h : DataW.Trod enc P w base (fun _ => true) true t v d p) :
    ∃ a b c : Int, v = .agg #[.int .i64 a, .int .i64 b, .int .i64 c] ∧ (Lit.int .i64 a).wf = true ∧ (Lit.int .i64 b).wf = true ∧ (Lit.int .i64 c).wf = true := by
  obtain ⟨zs, hl, rfl, hz⟩ := open_intFields hs hone hC hint hv h
  rw [h3] at hl
  match zs, hl with
  | [a, b, c], _ => exact ⟨a, b, c, rfl, hz a (by simp), hz b (by simp), hz c (by simp)⟩
end Go.Proofs.Ytnoomlakgfdaeaa
