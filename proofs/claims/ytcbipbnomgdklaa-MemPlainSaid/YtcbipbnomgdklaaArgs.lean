/- How the arguments of a law read: numbers, structs of numbers, slices of such; and what a law's row asks, from its walk. -/
import Derived.Test.YtcbipbnomgdklaaBase
import Derived.Test.YtcbipbnomgdklaaRows
import Derived.ProofKit
import Derived.OpenShut
import Derived.ChangeOld
import Derived.SizedLaws
import Derived.Deep.Slices
set_option linter.unusedSimpArgs false
set_option linter.unusedVariables false
namespace Go.Proofs.Ytcbipbnomgdklaa
open Go Go.RowKit Go.Maps
open Go.ChangeShapes Go.WideShapes Go.ChangeAt

/-! ### types that are rows of numbers -/
def flatFields (P : Program) (g : TypeId → Option (List IntKind)) : List Field → Nat → Option (List IntKind)
  | [], _ => some []
  | f :: r, pos => (g f.type).bind fun a => if f.offset = pos ∧ P.cellsOf f.type = a.length then (flatFields P g r (pos + a.length)).map (a ++ ·) else none
/-- The kinds of a type's cells, if all of them are numbers. -/
def flatK (P : Program) : Nat → TypeId → Option (List IntKind)
  | 0, _ => none
  | n + 1, t => match P.underlying t with
    | some (.int k) => some [k]
    | some (.struct fs) => (flatFields P (flatK P n) fs.toList 0).bind fun ks => if P.cellsOf t = ks.length then some ks else none
    | _ => none

def WfI (ks : List IntKind) (ns : List Int) : Prop := ∀ (i : Nat) (k : IntKind) (n : Int), ks[i]? = some k → ns[i]? = some n → (Lit.int k n).wf = true
/-- These cells are numbers of these kinds. -/
def Ints (ks : List IntKind) (ns : List Int) (cs : List Value) : Prop := ns.length = ks.length ∧ cs = List.zipWith Value.int ks ns ∧ WfI ks ns

theorem Ints.append {ks ks' : List IntKind} {ns ns' : List Int} {cs cs' : List Value} (h : Ints ks ns cs) (h' : Ints ks' ns' cs') : Ints (ks ++ ks') (ns ++ ns') (cs ++ cs') := by
  obtain ⟨a, b, c⟩ := h
  obtain ⟨a', b', c'⟩ := h'
  refine ⟨by simp [a, a'], by rw [b, b', List.zipWith_append a.symm], fun i k n hk hn => ?_⟩
  rcases Nat.lt_or_ge i ks.length with hi | hi
  · rw [List.getElem?_append_left hi] at hk
    rw [List.getElem?_append_left (by omega)] at hn
    exact c i k n hk hn
  · rw [List.getElem?_append_right hi] at hk
    rw [List.getElem?_append_right (by omega), a] at hn
    exact c' _ k n hk hn

theorem mapM_each {α β : Type} {f : α → Option β} : ∀ {l : List α} {xs : List β}, l.mapM f = some xs → ∀ a, a ∈ l → ∃ b, f a = some b := by
  intro l
  induction l with
  | nil => intro xs _ a ha; cases ha
  | cons x l ih =>
    intro xs h a ha
    simp only [List.mapM_cons, Option.bind_eq_bind, Option.bind_eq_some_iff] at h
    obtain ⟨b, hb, ys, hys, _⟩ := h
    rcases List.mem_cons.1 ha with rfl | ha
    · exact ⟨b, hb⟩
    · exact ih hys a ha

section
variable {H : Type} {enc : TypeId × Value → H} {P : Program} {w : World} {base : Nat} {spare : Nat → Bool} {held : Bool}

theorem flat_fields {g : TypeId → Option (List IntKind)} {cs : List Value} {fuel : Nat}
    (ih : ∀ t ks cs' x, g t = some ks → DataW.trod enc P w base spare held fuel t cs' = some x → ∃ ns, Ints ks ns cs') :
    ∀ (fs : List Field) (pos : Nat) (ks : List IntKind), flatFields P g fs pos = some ks → pos + ks.length ≤ cs.length → (∀ f, f ∈ fs → ∃ x, DataW.trod enc P w base spare held fuel f.type ((cs.drop f.offset).take (P.cellsOf f.type)) = some x) →
      ∃ ns, Ints ks ns ((cs.drop pos).take ks.length) := by
  intro fs
  induction fs with
  | nil =>
    intro pos ks h _ _
    simp [flatFields] at h
    subst h
    exact ⟨[], rfl, by simp, fun i k n hk => by simp at hk⟩
  | cons f r ihr =>
    intro pos ks h hl hx
    simp only [flatFields, Option.bind_eq_some_iff] at h
    obtain ⟨a, ha, h⟩ := h
    split at h
    · rename_i hc
      obtain ⟨hoff, hcells⟩ := hc
      simp only [Option.map_eq_some_iff] at h
      obtain ⟨b, hb, rfl⟩ := h
      simp only [List.length_append] at hl
      obtain ⟨x, hfx⟩ := hx f (by simp)
      rw [hoff, hcells] at hfx
      obtain ⟨ns, hns⟩ := ih f.type a _ x ha hfx
      obtain ⟨ms, hms⟩ := ihr (pos + a.length) b hb (by omega) (fun f' hf' => hx f' (by simp [hf']))
      refine ⟨ns ++ ms, ?_⟩
      have := hns.append hms
      rwa [← List.drop_drop, ← List.take_add, ← List.length_append] at this
    · cases h

theorem flat_trod : ∀ (n : Nat) (t : TypeId) (ks : List IntKind) (fuel : Nat) (cs : List Value) (x : DataW H × List MemPlace), flatK P n t = some ks → DataW.trod enc P w base spare held fuel t cs = some x → ∃ ns, Ints ks ns cs := by
  intro n
  induction n with
  | zero => intro t ks fuel cs x h; simp [flatK] at h
  | succ n ih =>
    intro t ks fuel cs x h hx
    cases fuel with
    | zero => simp [DataW.trod] at hx
    | succ fuel =>
      unfold flatK at h
      cases hu : P.underlying t with
      | none => simp [hu] at h
      | some d =>
        cases d
        case int k =>
          simp only [hu, Option.some.injEq] at h
          subst h
          unfold DataW.trod at hx
          simp only [hu] at hx
          split at hx <;> simp_all
          rename_i k' m hm
          obtain ⟨⟨rfl, hw⟩, _⟩ := hx
          refine ⟨[m], by simp, by simp, fun i k n hk hn => ?_⟩
          cases i with
          | zero => simp at hk hn; subst hk; subst hn; exact hw
          | succ i => simp at hk
        case struct fs =>
          simp only [hu, Option.bind_eq_some_iff] at h
          obtain ⟨ks', hks, h⟩ := h
          split at h
          · rename_i hc
            simp only [Option.some.injEq] at h
            subst h
            unfold DataW.trod at hx
            simp only [hu] at hx
            split at hx
            · rename_i hl
              simp only [Option.map_eq_some_iff] at hx
              obtain ⟨xs, hxs, _⟩ := hx
              obtain ⟨ns, hns⟩ := flat_fields (fun t ks cs' x h hx => ih t ks fuel cs' x h hx) fs.toList 0 ks' hks (by omega) (mapM_each hxs)
              refine ⟨ns, ?_⟩
              rw [List.drop_zero, List.take_of_length_le (by omega)] at hns
              exact hns
            · cases hx
          · cases h
        all_goals simp [hu] at h

/-- A struct of numbers by value. -/
theorem open_flat {t : TypeId} {fs : Array Field} {ks : List IntKind} {v : Value} {d : DataW H} {p : List MemPlace} (n : Nat) (hf : flatK P n t = some ks) (hs : P.underlying t = some (.struct fs)) {r : Reach} {b0 : Nat}
    (hv : Value.okWide P w r b0 t v) (h : DataW.Trod enc P w base spare held t v d p) : ∃ ns, ns.length = ks.length ∧ v = .agg (List.zipWith Value.int ks ns).toArray ∧ WfI ks ns := by
  obtain ⟨cs, rfl, hsz⟩ := okWide_struct hs hv
  obtain ⟨fuel, hf'⟩ := h
  obtain ⟨ns, h1, h2, h3⟩ := flat_trod n t ks fuel _ _ hf hf'
  refine ⟨ns, h1, ?_, h3⟩
  have : (Value.agg cs).cells = cs := rfl
  rw [this] at h2
  rw [← h2]

/-- A slice value that reads as rows of cells, each of that many. -/
def SlIs (w : World) (v : Value) (size : Nat) (rows : List (List Value)) : Prop :=
  ∃ oa c, v = .slice oa rows.length c ∧ rows.length ≤ c ∧ c ≤ maxLen ∧ (rows ≠ [] → ∃ g off, oa = some ⟨g, off, none⟩ ∧ g < w.heap.size ∧ ∀ i row, rows[i]? = some row → ∀ j u, row[j]? = some u → w.cell? ⟨g, off + i * size + j, none⟩ = some u)

theorem addr_add (a : Addr) (h : a.spot = none) (i : Nat) : a.add i = ⟨a.block, a.off + i, none⟩ := by
  obtain ⟨b, o, s⟩ := a
  simp only at h
  subst h
  unfold Addr.add
  split <;> simp_all

theorem cells_get {a : Addr} {n : Nat} {cs : List Value} (h : w.cells? base a n = some cs) : cs.length = n ∧ ∀ (j : Nat) (u : Value), cs[j]? = some u → w.cell? (a.add j) = some u := by
  obtain ⟨_, h1, h2⟩ := World.cells?_some h
  refine ⟨h1, fun j u hu => ?_⟩
  rw [h2 j (by have := (List.getElem?_eq_some_iff.1 hu).1; omega)]
  exact hu

/-- A slice of structs of numbers (or of numbers). -/
theorem open_flats {t e : TypeId} {ks : List IntKind} {v : Value} {d : DataW H} {p : List MemPlace} (n : Nat) (ht : P.underlying t = some (.slice e)) (hf : flatK P n e = some ks) (hce : P.cellsOf e = ks.length) (hpos : 0 < ks.length)
    (hv : ∃ a len cap, v = .slice a len cap) (h : DataW.Trod enc P w base spare held t v d p) : ∃ L : List (List Int), (∀ ns, ns ∈ L → ns.length = ks.length ∧ WfI ks ns) ∧ SlIs w v ks.length (L.map fun ns => List.zipWith Value.int ks ns) := by
  obtain ⟨a0, len0, cap0, rfl⟩ := hv
  obtain ⟨fuel, hx⟩ := h
  have hcs : (Value.slice a0 len0 cap0).cells.toList = [.slice a0 len0 cap0] := rfl
  rw [hcs] at hx
  rcases Deep.open_slice ht hx with ⟨h1, _⟩ | ⟨a, len, cap, m, nn, D, Pl, h1, hb, hl, hm, hmm, _, hel⟩
  · simp at h1
    obtain ⟨rfl, rfl, rfl⟩ := h1
    exact ⟨[], by simp, none, 0, by simp, by simp, by simp [maxLen], by simp⟩
  · simp at h1
    obtain ⟨rfl, rfl, rfl⟩ := h1
    have hlm : len0 ≤ m := by rw [hmm]; split <;> omega
    have hex : ∀ i, i < len0 → ∃ ns : List Int, (ns.length = ks.length ∧ WfI ks ns) ∧ ∀ j u, (List.zipWith Value.int ks ns)[j]? = some u → w.cell? ((a.add (i * ks.length)).add j) = some u := by
      intro i hi
      obtain ⟨cs', hc, ht'⟩ := hel i (by omega)
      rw [hce] at hc
      obtain ⟨ns, g1, g2, g3⟩ := flat_trod n e ks nn cs' _ hf ht'
      refine ⟨ns, ⟨g1, g3⟩, fun j u hu => ?_⟩
      rw [← g2] at hu
      exact (cells_get hc).2 j u hu
    obtain ⟨N, hN⟩ := Deep.choose_lt hex
    refine ⟨(List.range len0).map N, fun ns hns => ?_, some a, cap0, by simp, by simpa using hl, hm, fun hne => ?_⟩
    · obtain ⟨i, hi, rfl⟩ := List.mem_map.1 hns
      exact (hN i (List.mem_range.1 hi)).1
    · have hpos0 : 0 < len0 := by
        rcases Nat.eq_zero_or_pos len0 with h | h
        · subst h; simp at hne
        · exact h
      obtain ⟨⟨q1, q2⟩, q3⟩ := hN 0 hpos0
      have hz : (List.zipWith Value.int ks (N 0)).length = ks.length := by simp [q1]
      obtain ⟨u0, hu0⟩ : ∃ u, (List.zipWith Value.int ks (N 0))[0]? = some u := ⟨_, List.getElem?_eq_getElem (by omega)⟩
      have c0 := q3 0 u0 hu0
      have e0 : (a.add (0 * ks.length)).add 0 = a := by simp [Addr.add]
      rw [e0] at c0
      have hspot : a.spot = none := by
        unfold World.cell? at c0
        split at c0
        · split at c0
          · cases c0
          · rename_i hs; simpa using hs
        · cases c0
      refine ⟨a.block, a.off, by obtain ⟨b, o, s⟩ := a; simp only at hspot; subst hspot; rfl, World.block_lt_of_cell? w a c0, fun i row hrow j u hu => ?_⟩
      simp only [List.getElem?_map, Option.map_eq_some_iff] at hrow
      obtain ⟨ns, hns, rfl⟩ := hrow
      obtain ⟨i', hi', rfl⟩ := hns
      have hi2 : i < len0 ∧ i' = i := by
        rw [List.getElem?_eq_some_iff] at hi'
        obtain ⟨hlt, he⟩ := hi'
        exact ⟨by simpa using hlt, by simpa using he.symm⟩
      obtain ⟨hi2, rfl⟩ := hi2
      have := (hN i' hi2).2 j u hu
      rw [addr_add a hspot, addr_add _ rfl] at this
      exact this
end
end Go.Proofs.Ytcbipbnomgdklaa
