/- Slices of Uses as arguments; new memories of the reference; its events. -/
import Derived.Test.YtcbipbnomgdklaaStep16
import Derived.Test.YtcbipbnomgdklaaArgsT
set_option linter.unusedSimpArgs false
set_option linter.unusedVariables false
namespace Go.Proofs.Ytcbipbnomgdklaa
open Go Go.RowKit Go.Maps Go.ChangeShapes Go.WideShapes Go.ChangeAt

def UsesAt (w : World) (v : Value) (L : List Us) : Prop := (∀ u, u ∈ L → u.wf) ∧ SlIs w v 9 (L.map Us.cells)

/-- What the slice reads at its elements. -/
theorem UsesAt.form {w : World} {v : Value} {L : List Us} (h : UsesAt w v L) : ∃ oa c, v = .slice oa L.length c ∧ L.length ≤ c ∧ c ≤ maxLen ∧
    ∀ k u, L[k]? = some u → u.wf ∧ ∃ g off, oa = some ⟨g, off, none⟩ ∧ ∀ w', Chg [] w w' →
      (w'.cell? ⟨g, off + k * 9, none⟩ = some (.int .i64 u.k) ∧ w'.cell? ⟨g, off + k * 9 + 1, none⟩ = some (.int .i64 u.who) ∧ w'.cell? ⟨g, off + k * 9 + 2, none⟩ = some (.int .i64 u.obj) ∧
       w'.cell? ⟨g, off + k * 9 + 3, none⟩ = some (.int .i64 u.i) ∧ w'.cell? ⟨g, off + k * 9 + 4, none⟩ = some (.int .u64 u.n) ∧ w'.cell? ⟨g, off + k * 9 + 5, none⟩ = some (.int .u64 u.m) ∧
       w'.cell? ⟨g, off + k * 9 + 6, none⟩ = some (.int .i64 u.flow) ∧ w'.cell? ⟨g, off + k * 9 + 7, none⟩ = some (.int .i64 u.len) ∧ w'.cell? ⟨g, off + k * 9 + 8, none⟩ = some (.int .i64 u.mark)) := by
  obtain ⟨hw, oa, c, hv, h1, h2, h3⟩ := h
  refine ⟨oa, c, by simpa using hv, by simpa using h1, h2, fun k u hk => ⟨hw u (List.mem_of_getElem? hk), ?_⟩⟩
  obtain ⟨g, off, h4, h5, h6⟩ := h3 (by intro e; simp at e; subst e; simp at hk)
  refine ⟨g, off, h4, fun w' hc => ?_⟩
  have h7 := h6 k u.cells (by simp [hk])
  exact ⟨hc.cell (h7 0 _ rfl) (by simp), hc.cell (h7 1 _ rfl) (by simp), hc.cell (h7 2 _ rfl) (by simp), hc.cell (h7 3 _ rfl) (by simp), hc.cell (h7 4 _ rfl) (by simp), hc.cell (h7 5 _ rfl) (by simp), hc.cell (h7 6 _ rfl) (by simp), hc.cell (h7 7 _ rfl) (by simp), hc.cell (h7 8 _ rfl) (by simp)⟩

section
variable {H : Type} {enc : TypeId × Value → H} {w : World} {base : Nat} {spare : Nat → Bool} {held : Bool} {v : Value} {d : DataW H} {p : List MemPlace} {b0 : Nat}
theorem flatUse : flatK Try.prog 4 52 = some [.i64, .i64, .i64, .i64, .u64, .u64, .i64, .i64, .i64] := by kernel_rfl
def usOf : List Int → Us
  | a :: b :: c :: d :: e :: f :: g :: h :: i :: _ => ⟨a, b, c, d, e, f, g, h, i⟩
  | _ => ⟨0, 0, 0, 0, 0, 0, 0, 0, 0⟩
theorem usOf_spec {ns : List Int} (h1 : ns.length = 9) (h3 : WfI [.i64, .i64, .i64, .i64, .u64, .u64, .i64, .i64, .i64] ns) : (usOf ns).wf ∧ List.zipWith Value.int [.i64, .i64, .i64, .i64, .u64, .u64, .i64, .i64, .i64] ns = (usOf ns).cells := by
  match ns, h1 with
  | [a, b, c, d, e, f, g, h, i], _ => exact ⟨⟨i64_of (h3 0 _ _ rfl rfl), i64_of (h3 1 _ _ rfl rfl), i64_of (h3 2 _ _ rfl rfl), i64_of (h3 3 _ _ rfl rfl), u64_of (h3 4 _ _ rfl rfl), u64_of (h3 5 _ _ rfl rfl), i64_of (h3 6 _ _ rfl rfl), i64_of (h3 7 _ _ rfl rfl), i64_of (h3 8 _ _ rfl rfl)⟩, rfl⟩
theorem open_use (hv : Value.okWide Try.prog w .any b0 52 v) (h : DataW.Trod enc Try.prog w base spare held 52 v d p) : ∃ u : Us, u.wf ∧ v = u.val := by
  obtain ⟨ns, h1, h2, h3⟩ := open_flat 4 flatUse Try.underlying52 hv h
  obtain ⟨h4, h5⟩ := usOf_spec h1 h3
  exact ⟨usOf ns, h4, by rw [h2, h5]; rfl⟩
theorem open_uses (hv : Value.okWide Try.prog w .any b0 43 v) (h : DataW.Trod enc Try.prog w base spare held 43 v d p) : ∃ L : List Us, True ∧ UsesAt w v L := by
  obtain ⟨L, h1, h2⟩ := open_flats (t := 43) 4 Try.underlying43 flatUse (by kernel_rfl) (by simp) (okWide_slice Try.underlying43 hv) h
  refine ⟨L.map usOf, trivial, ?_, ?_⟩
  · intro u hu
    obtain ⟨ns, hns, rfl⟩ := List.mem_map.1 hu
    exact (usOf_spec (h1 ns hns).1 (h1 ns hns).2).1
  · have e : (L.map fun ns => List.zipWith Value.int [.i64, .i64, .i64, .i64, .u64, .u64, .i64, .i64, .i64] ns) = (L.map usOf).map Us.cells := by
      rw [List.map_map]
      exact List.map_congr_left (fun ns hns => (usOf_spec (h1 ns hns).1 (h1 ns hns).2).2)
    rw [e] at h2
    exact h2
end

/-- A slice of numbers. -/
def NumsAt (k : IntKind) (w : World) (v : Value) (L : List Int) : Prop := SlIs w v 1 (L.map fun n => [.int k n])
theorem NumsAt.form {k : IntKind} {w : World} {v : Value} {L : List Int} (h : NumsAt k w v L) : ∃ oa c, v = .slice oa L.length c ∧ L.length ≤ c ∧ c ≤ maxLen ∧
    ∀ j n, L[j]? = some n → ∃ g off, oa = some ⟨g, off, none⟩ ∧ ∀ w', Chg [] w w' → w'.cell? ⟨g, off + j, none⟩ = some (.int k n) := by
  obtain ⟨oa, c, hv, h1, h2, h3⟩ := h
  refine ⟨oa, c, by simpa using hv, by simpa using h1, h2, fun j n hj => ?_⟩
  obtain ⟨g, off, h4, h5, h6⟩ := h3 (by intro e; simp at e; subst e; simp at hj)
  refine ⟨g, off, h4, fun w' hc => ?_⟩
  have h7 := h6 j [.int k n] (by simp [hj]) 0 _ rfl
  rw [show off + j * 1 + 0 = off + j from by omega] at h7
  exact hc.cell h7 (by simp)
theorem zip1 {k : IntKind} {ns : List Int} (h : ns.length = 1) : List.zipWith Value.int [k] ns = [.int k (ns.getD 0 0)] := by
  match ns, h with
  | [a], _ => rfl
theorem nums_of {k : IntKind} {L : List (List Int)} (h1 : ∀ ns, ns ∈ L → ns.length = 1 ∧ WfI [k] ns) {w : World} {v : Value} (h2 : SlIs w v 1 (L.map fun ns => List.zipWith Value.int [k] ns)) :
    (∀ n, n ∈ L.map (fun ns => ns.getD 0 0) → (Lit.int k n).wf = true) ∧ NumsAt k w v (L.map (fun ns => ns.getD 0 0)) := by
  constructor
  · intro n hn
    obtain ⟨ns, hns, rfl⟩ := List.mem_map.1 hn
    obtain ⟨h3, h4⟩ := h1 ns hns
    match ns, h3 with
    | [a], _ => exact h4 0 _ _ rfl rfl
  · have e : (L.map fun ns => List.zipWith Value.int [k] ns) = (L.map (fun ns => ns.getD 0 0)).map fun n => [.int k n] := by
      rw [List.map_map]
      exact List.map_congr_left (fun ns hns => zip1 (h1 ns hns).1)
    unfold NumsAt
    rw [← e]
    exact h2
section
variable {H : Type} {enc : TypeId × Value → H} {w : World} {base : Nat} {spare : Nat → Bool} {held : Bool} {v : Value} {d : DataW H} {p : List MemPlace} {b0 : Nat}
theorem flatU64 : flatK Try.prog 2 28 = some [.u64] := by kernel_rfl
theorem open_u64s (hv : Value.okWide Try.prog w .any b0 24 v) (h : DataW.Trod enc Try.prog w base spare held 24 v d p) : ∃ L : List Int, (∀ n, n ∈ L → U64 n) ∧ NumsAt .u64 w v L := by
  obtain ⟨L, h1, h2⟩ := open_flats (t := 24) 2 Try.underlying24 flatU64 (by kernel_rfl) (by simp) (okWide_slice Try.underlying24 hv) h
  obtain ⟨h3, h4⟩ := nums_of h1 h2
  exact ⟨_, fun n hn => u64_of (h3 n hn), h4⟩
end

theorem EvSlice.chg {w w' : World} {v : Value} {L : List Ev} (h : EvSlice w v L) (c : Chg [] w w') : EvSlice w' v L := by
  rcases h with h | ⟨g, off, k, h1, h2⟩
  · exact .inl h
  · exact .inr ⟨g, off, k, h1, fun j u hu => c.cell (h2 j u hu) (by simp)⟩
theorem RefAt.ev {w : World} {p : Nat} {fp : List Nat} {log : List Ev} {kv : List (Lc × Int)} (h : RefAt w p fp log kv) : ∃ oE cE, w.cell? ⟨p, 2, none⟩ = some (.slice oE log.length cE) ∧ EvSlice w (.slice oE log.length cE) log := by
  obtain ⟨vA, vV, vE, h1, h2, h3, h4, hfp⟩ := h
  have e := EvSlice.of_owns h4
  rcases ownsRow_form h4 with ⟨rfl, h0⟩ | ⟨g, cap, rfl, _⟩
  · exact ⟨none, 0, by rw [h0]; exact h1.cell rfl, by rw [h0]; exact e⟩
  · exact ⟨_, _, h1.cell rfl, e⟩

section
variable {S : List Nat} {w0 w : World} {X : HA} {As Bs : List HA}
theorem Scope.ev1 {p n : Nat} {σ : MS} (h : Scope S w0 w (X :: refA p n σ :: Bs)) : ∃ oE cE, w.cell? ⟨p, 2, none⟩ = some (.slice oE σ.log.length cE) ∧ EvSlice w (.slice oE σ.log.length cE) σ.log := by
  obtain ⟨f, ⟨kv, _, _, hR⟩, _⟩ := h.get 1 rfl
  exact hR.ev
/-- A new memory of the reference. -/
theorem ref_new (h : Scope S w0 w As) : Scope S w0 (w.alloc (.cells #[.slice none 0 0, .slice none 0 0, .slice none 0 0] 47)) (As ++ [refA w.heap.size 0 MS.zero]) := by
  refine h.join (g := [w.heap.size]) (stars_mk1 (A := refA _ _ _) ⟨[], by simp, rfl, .slice none 0 0, .slice none 0 0, .slice none 0 0, Row.new _ [.slice none 0 0, .slice none 0 0, .slice none 0 0] _, ?_, ?_, ?_, rfl⟩) ((Chg.refl _ _).alloc _) (by simp)
  · exact ⟨rfl, .inl ⟨rfl, rfl⟩⟩
  · exact ⟨rfl, .inl ⟨rfl, rfl⟩⟩
  · exact ⟨rfl, .inl ⟨rfl, rfl⟩⟩
/-- The events of a memory, copied; nothing that was there has turned. -/
theorem events0 {p : Nat} {σ : MS} (h : Scope S w0 w (memA p σ :: Bs)) (hn : σ.log.length ≤ 1000000) : Calls Try.prog 14 #[ptr p] w (Cloned w 33 5 σ.log.length (evs σ.log)) := by
  obtain ⟨f, hf, _⟩ := h.get 0 rfl
  exact events_any hf hn
theorem len0 {p : Nat} {σ : MS} (h : Scope S w0 w (memA p σ :: Bs)) (hn : σ.log.length ≤ 1000000) : Calls Try.prog 19 #[ptr p] w fun e w' => e = .returned (.int .i64 σ.log.length) ∧ w = w' := by
  obtain ⟨f, hf, _⟩ := h.get 0 rfl
  exact len_any hf hn
end
end Go.Proofs.Ytcbipbnomgdklaa
