/- Arguments with slices within: results (Ret), calls, turns of layer 20. -/
import Derived.Test.YtjipjhmcpjffcacPk
set_option linter.unusedSimpArgs false
set_option linter.unusedVariables false
set_option maxRecDepth 20000
namespace Go.Proofs.Ytjipjhmcpjffcac
open Go Go.RowKit Go.Maps Go.ChangeShapes Go.WideShapes Go.ChangeAt

section
variable {H : Type} {enc : TypeId × Value → H} {P : Program} {w : World} {base : Nat} {spare : Nat → Bool} {held : Bool} {cs : List Value} {x : DataW H × List MemPlace} {fuel : Nat}
/-- A struct's fields, read. -/
theorem trod_fields {t : TypeId} {fs : Array Field} (hs : P.underlying t = some (.struct fs)) (h : DataW.trod enc P w base spare held fuel t cs = some x) :
    ∃ n xs, cs.length = P.cellsOf t ∧ x.1 = .agg (xs.map (·.1)) ∧ fs.toList.mapM (fun f => DataW.trod enc P w base spare held n f.type ((cs.drop f.offset).take (P.cellsOf f.type))) = some xs := by
  cases fuel with
  | zero => simp [DataW.trod] at h
  | succ n =>
    unfold DataW.trod at h
    simp only [hs] at h
    split at h
    · rename_i hl
      simp only [Option.map_eq_some_iff] at h
      obtain ⟨xs, h1, rfl⟩ := h
      exact ⟨n, xs, hl, rfl, h1⟩
    · cases h
def Wok (P : Program) (t : TypeId) (d : DataW H) : Prop := (d.weights P t).all (· ≤ reachBytes) = true
theorem weightsAll_mem {e : TypeId} : ∀ {l : List (DataW H)} {d : DataW H}, (DataW.weightsAll P e l).all (· ≤ reachBytes) = true → d ∈ l → Wok P e d := by
  intro l
  induction l with
  | nil => intro d _ hd; cases hd
  | cons y l ih =>
    intro d h hd
    unfold DataW.weightsAll at h
    rw [List.all_append, Bool.and_eq_true] at h
    rcases List.mem_cons.1 hd with rfl | hd
    · exact h.1
    · exact ih h.2 hd
theorem weightsEach_get : ∀ {ts : List TypeId} {ds : List (DataW H)} {t : TypeId} {d : DataW H}, (DataW.weightsEach P ts ds).all (· ≤ reachBytes) = true → ∀ i : Nat, ts[i]? = some t → ds[i]? = some d → Wok P t d := by
  intro ts
  induction ts with
  | nil => intro ds t d _ i ht; simp at ht
  | cons t0 ts ih =>
    intro ds t d h i ht hd
    cases ds with
    | nil => simp at hd
    | cons d0 ds =>
      unfold DataW.weightsEach at h
      rw [List.all_append, Bool.and_eq_true] at h
      cases i with
      | zero => simp at ht hd; subst ht; subst hd; exact h.1
      | succ i => exact ih h.2 i (by simpa using ht) (by simpa using hd)
/-- A slice whose elements read so: what lies at each. -/
theorem open_elems {t e : TypeId} {α : Type} (z : α) (R : List Value → α → Prop) (size : Nat) {v : Value} {d : DataW H} {p : List MemPlace} (ht : P.underlying t = some (.slice e)) (hce : P.cellsOf e = size) (hpos : 0 < size)
    (hR : ∀ n cs y, DataW.trod enc P w base spare held n e cs = some y → Wok P e y.1 → cs.length = size ∧ ∃ a, R cs a)
    (hv : ∃ a len cap, v = .slice a len cap) (h : DataW.Trod enc P w base spare held t v d p) (hw : Wok P t d) : ∃ (L : List α) (oa : Option Addr) (c : Nat), v = .slice oa L.length c ∧ L.length ≤ c ∧ c ≤ maxLen ∧ L.length * P.bytesOf e ≤ reachBytes ∧ (v = .slice none 0 0 ∨ ∃ ad, oa = some ad) ∧
      ∀ k a, L[k]? = some a → ∃ cs g off, R cs a ∧ oa = some ⟨g, off, none⟩ ∧ g < w.heap.size ∧ ∀ j u, cs[j]? = some u → w.cell? ⟨g, off + k * size + j, none⟩ = some u := by
  obtain ⟨a0, len0, cap0, rfl⟩ := hv
  obtain ⟨fuel, hx⟩ := h
  have hcs : (Value.slice a0 len0 cap0).cells.toList = [.slice a0 len0 cap0] := rfl
  rw [hcs] at hx
  rcases Deep.open_slice ht hx with ⟨h1, _⟩ | ⟨a, len, cap, m, nn, D, Pl, h1, hb, hl, hm, hmm, hxd, hel⟩
  · simp at h1
    obtain ⟨rfl, rfl, rfl⟩ := h1
    exact ⟨[], none, 0, by simp, by simp, by simp [maxLen], by simp, .inl rfl, by simp⟩
  · simp at h1
    obtain ⟨rfl, rfl, rfl⟩ := h1
    have hlm : len0 ≤ m := by rw [hmm]; split <;> omega
    have hd : d = .slice ((List.range len0).map D) ((List.range (m - len0)).map fun j => D (len0 + j)) := congrArg Prod.fst hxd
    subst hd
    unfold Wok DataW.weights at hw
    simp only [ht, List.all_cons, List.all_append, Bool.and_eq_true, decide_eq_true_eq, List.length_map, List.length_range] at hw
    obtain ⟨hw0, hw1, _⟩ := hw
    have hbytes : len0 * P.bytesOf e ≤ reachBytes := Nat.le_trans (Nat.mul_le_mul_right _ (Nat.le_add_right _ _)) hw0
    have hex : ∀ i, i < len0 → ∃ q : List Value × α, q.1.length = size ∧ R q.1 q.2 ∧ ∀ j u, q.1[j]? = some u → w.cell? ((a.add (i * size)).add j) = some u := by
      intro i hi
      obtain ⟨cs', hc, ht'⟩ := hel i (by omega)
      rw [hce] at hc
      obtain ⟨g0, y, g1⟩ := hR nn cs' _ ht' (weightsAll_mem hw1 (List.mem_map.2 ⟨i, by simpa using hi, rfl⟩))
      exact ⟨(cs', y), g0, g1, fun j u hu => (cells_get hc).2 j u hu⟩
    haveI : Inhabited α := ⟨z⟩
    obtain ⟨N, hN⟩ := Deep.choose_lt hex
    refine ⟨(List.range len0).map (fun i => (N i).2), some a, cap0, by simp, by simpa using hl, hm, by simpa using hbytes, .inr ⟨a, rfl⟩, fun k y hy => ?_⟩
    simp only [List.getElem?_map, Option.map_eq_some_iff] at hy
    obtain ⟨i, hi', rfl⟩ := hy
    have hi2 : k < len0 ∧ i = k := by
      rw [List.getElem?_eq_some_iff] at hi'
      obtain ⟨hlt, he⟩ := hi'
      exact ⟨by simpa using hlt, by simpa using he.symm⟩
    obtain ⟨hi2, rfl⟩ := hi2
    obtain ⟨q0, q1, q2⟩ := hN 0 (by omega)
    obtain ⟨u0, hu0⟩ : ∃ u, (N 0).1[0]? = some u := ⟨_, List.getElem?_eq_getElem (by omega)⟩
    have c0 := q2 0 u0 hu0
    have e0 : (a.add (0 * size)).add 0 = a := by simp [Addr.add]
    rw [e0] at c0
    have hspot : a.spot = none := by
      unfold World.cell? at c0
      split at c0
      · split at c0
        · cases c0
        · rename_i hs; simpa using hs
      · cases c0
    refine ⟨(N i).1, a.block, a.off, (hN i hi2).2.1, by obtain ⟨b, o, s⟩ := a; simp only at hspot; subst hspot; rfl, World.block_lt_of_cell? w a c0, fun j u hu => ?_⟩
    have := (hN i hi2).2.2 j u hu
    rw [addr_add a hspot, addr_add _ rfl] at this
    exact this
end

/-! ### packets, results, calls -/
section
variable {H : Type} {enc : TypeId × Value → H} {w : World} {base : Nat} {spare : Nat → Bool} {held : Bool} {v : Value} {d : DataW H} {p : List MemPlace} {b0 : Nat} {cs : List Value} {x : DataW H × List MemPlace} {fuel : Nat}
theorem flatPk : flatK Try.prog 3 48 = some [.i64, .i64, .i64] := by kernel_rfl
theorem read_pk (h : DataW.trod enc Try.prog w base spare held fuel 48 cs = some x) : ∃ q : Pk, cs = q.cells := by
  obtain ⟨ns, h1, h2, h3⟩ := flat_trod 3 _ _ _ _ _ flatPk h
  match ns, h1 with
  | [a, b, c], _ => exact ⟨⟨a, b, c⟩, h2⟩
/-- A calls's numbers. -/
structure Cl where
  op : Int
  flow : Int
  a : Int
  b : Int
  deriving DecidableEq
def Cl.zero : Cl := ⟨0, 0, 0, 0⟩
def Cl.cells (c : Cl) : List Value := [.int .i64 c.op, .int .i64 c.flow, .int .i64 c.a, .int .i64 c.b]
@[reducible] def Cl.val (c : Cl) : Value := .agg #[.int .i64 c.op, .int .i64 c.flow, .int .i64 c.a, .int .i64 c.b]
theorem flatCall : flatK Try.prog 3 32 = some [.i64, .i64, .i64, .i64] := by kernel_rfl
theorem read_cl (h : DataW.trod enc Try.prog w base spare held fuel 32 cs = some x) : ∃ q : Cl, cs = q.cells := by
  obtain ⟨ns, h1, h2, h3⟩ := flat_trod 3 _ _ _ _ _ flatCall h
  match ns, h1 with
  | [a, b, c, e], _ => exact ⟨⟨a, b, c, e⟩, h2⟩
theorem read_use (h : DataW.trod enc Try.prog w base spare held fuel 62 cs = some x) : ∃ q : Us, q.wf ∧ cs = q.cells := by
  obtain ⟨ns, h1, h2, h3⟩ := flat_trod 4 _ _ _ _ _ flatUse h
  obtain ⟨h4, h5⟩ := usOf_spec h1 h3
  exact ⟨usOf ns, h4, by rw [h2, h5]⟩
theorem bytesPk : Try.prog.bytesOf 48 = 24 := by kernel_rfl
/-- A slice of packets. -/
theorem open_pks (hv : ∃ a len cap, v = .slice a len cap) (h : DataW.Trod enc Try.prog w base spare held 39 v d p) (hw : Wok Try.prog 39 d) : ∃ L : List Pk, PkS w v L ∧ few' L := by
  obtain ⟨L, oa, c, rfl, h1, h2, h3, h4, h5⟩ := open_elems Pk.zero (fun cs (q : Pk) => cs = q.cells) 3 Try.underlying39 (by kernel_rfl) (by omega) (fun n cs y hy _ => by
    obtain ⟨q, rfl⟩ := read_pk hy
    exact ⟨rfl, q, rfl⟩) hv h hw
  rw [bytesPk] at h3
  refine ⟨L, ?_, by unfold few'; unfold reachBytes at h3; omega⟩
  by_cases h0 : L = []
  · subst h0
    rcases h4 with h4 | ⟨ad, rfl⟩
    · exact .inl ⟨h4, rfl⟩
    · exact .inr ⟨ad, c, rfl, fun h => absurd rfl h, fun j u hu => by simp [pks] at hu⟩
  · obtain ⟨q0, hq0⟩ : ∃ q, L[0]? = some q := ⟨_, List.getElem?_eq_getElem (List.length_pos_iff.2 h0)⟩
    obtain ⟨cs0, g, off, _, rfl, _, _⟩ := h5 0 q0 hq0
    refine .inr ⟨⟨g, off, none⟩, c, rfl, fun _ => rfl, fun j u hu => ?_⟩
    have hj : j < L.length * 3 := by rw [← pks_length]; exact (List.getElem?_eq_some_iff.1 hu).1
    obtain ⟨q, hq⟩ : ∃ q, L[j / 3]? = some q := ⟨_, List.getElem?_eq_getElem (by omega)⟩
    obtain ⟨cs, g', off', rfl, he, _, hc⟩ := h5 _ _ hq
    simp at he
    obtain ⟨rfl, rfl⟩ := he
    have hm : j % 3 < q.cells.length := by have : q.cells.length = 3 := rfl; omega
    have hu' := pks_get L _ _ hq (j % 3) _ (List.getElem?_eq_getElem hm)
    rw [show j / 3 * 3 + j % 3 = j by omega, hu] at hu'
    have hcc := hc (j % 3) _ (List.getElem?_eq_getElem hm)
    rw [show off + j / 3 * 3 + j % 3 = off + j by omega, ← hu'] at hcc
    rw [addr_add _ rfl]
    exact hcc
theorem read_int {t : TypeId} {k : IntKind} (ht : Try.prog.underlying t = some (.int k)) (h : DataW.trod enc Try.prog w base spare held fuel t cs = some x) : ∃ n, cs = [.int k n] ∧ (Lit.int k n).wf = true := by
  cases fuel with
  | zero => simp [DataW.trod] at h
  | succ n =>
    unfold DataW.trod at h
    simp only [ht] at h
    split at h <;> simp_all
theorem read_slice {t e : TypeId} (ht : Try.prog.underlying t = some (.slice e)) (h : DataW.trod enc Try.prog w base spare held fuel t cs = some x) : ∃ a len cap, cs = [.slice a len cap] := by
  rcases Deep.open_slice ht h with ⟨h1, _⟩ | ⟨a, len, cap, m, nn, D, Pl, h1, _⟩
  · exact ⟨_, _, _, h1⟩
  · exact ⟨_, _, _, h1⟩
/-- The numbers of a result are of their kinds. -/
def Rt.ok (r : Rt) : Prop := I64 r.n ∧ U64 r.v ∧ few' r.pk
theorem read_ret (h : DataW.trod enc Try.prog w base spare held fuel 41 cs = some x) (hw : Wok Try.prog 41 x.1) : ∃ (r : Rt) (s : Value), cs = [.int .i64 r.e, s, .int .i64 r.n, .int .u64 r.v] ∧ r.ok ∧ PkS w s r.pk := by
  obtain ⟨n, xs, hl, hx, hm⟩ := trod_fields Try.underlying41 h
  have hc : Try.prog.cellsOf 41 = 4 := by kernel_rfl
  rw [hc] at hl
  match cs, hl with
  | [c0, c1, c2, c3], _ =>
    simp only [List.mapM_cons, List.mapM_nil, Option.bind_eq_bind, Option.bind_eq_some_iff, Option.pure_def, Option.some.injEq] at hm
    obtain ⟨x0, h0, r0, ⟨x1, h1, r1, ⟨x2, h2, r2, ⟨x3, h3, r3, rfl, rfl⟩, rfl⟩, rfl⟩, rfl⟩ := hm
    have hce : Try.prog.cellsOf 38 = 1 := by kernel_rfl
    have hcp : Try.prog.cellsOf 39 = 1 := by kernel_rfl
    have hci : Try.prog.cellsOf 3 = 1 := by kernel_rfl
    have hcu : Try.prog.cellsOf 33 = 1 := by kernel_rfl
    simp only [hce, hcp, hci, hcu, List.drop_zero, List.drop_succ_cons, List.take_succ_cons, List.take_zero] at h0 h1 h2 h3
    obtain ⟨e, he, _⟩ := read_int Try.underlying38 h0
    obtain ⟨oa, len, cap, hs⟩ := read_slice Try.underlying39 h1
    obtain ⟨m, hmm, w2⟩ := read_int Try.underlying3 h2
    obtain ⟨u, huu, w3⟩ := read_int Try.underlying33 h3
    simp only [List.cons.injEq, and_true] at he hs hmm huu
    subst he
    subst hs
    subst hmm
    subst huu
    unfold Wok at hw
    rw [hx] at hw
    unfold DataW.weights at hw
    rw [Try.underlying41] at hw
    simp only [List.map_cons, List.map_nil, DataW.weightsEach, List.all_append, Bool.and_eq_true] at hw
    obtain ⟨L, hL, hf⟩ := open_pks (v := .slice oa len cap) ⟨oa, len, cap, rfl⟩ ⟨n, h1⟩ hw.2.1
    exact ⟨⟨e, L, m, u⟩, .slice oa len cap, rfl, ⟨i64_of w2, u64_of w3, hf⟩, hL⟩
end

def CallsAt (w : World) (v : Value) (L : List Cl) : Prop := ∃ oa c, v = .slice oa L.length c ∧ L.length ≤ c ∧ c ≤ maxLen ∧
    ∀ k a, L[k]? = some a → ∃ g off, oa = some ⟨g, off, none⟩ ∧ ∀ w', Chg [] w w' →
      (w'.cell? ⟨g, off + k * 4, none⟩ = some (.int .i64 a.op) ∧ w'.cell? ⟨g, off + k * 4 + 1, none⟩ = some (.int .i64 a.flow) ∧ w'.cell? ⟨g, off + k * 4 + 2, none⟩ = some (.int .i64 a.a) ∧ w'.cell? ⟨g, off + k * 4 + 3, none⟩ = some (.int .i64 a.b))
def RetsAt (w : World) (v : Value) (L : List Rt) : Prop := ∃ oa c, v = .slice oa L.length c ∧ L.length ≤ c ∧ c ≤ maxLen ∧
    ∀ k a, L[k]? = some a → a.ok ∧ ∃ g off s, oa = some ⟨g, off, none⟩ ∧ PkS w s a.pk ∧ ∀ w', Chg [] w w' →
      (w'.cell? ⟨g, off + k * 4, none⟩ = some (.int .i64 a.e) ∧ w'.cell? ⟨g, off + k * 4 + 1, none⟩ = some s ∧ w'.cell? ⟨g, off + k * 4 + 2, none⟩ = some (.int .i64 a.n) ∧ w'.cell? ⟨g, off + k * 4 + 3, none⟩ = some (.int .u64 a.v))
/-- A turn: what is done, with which call and result. -/
structure Tn where
  u : Us
  c : Cl
  r : Rt
def TurnsAt (w : World) (v : Value) (L : List Tn) : Prop := ∃ oa c, v = .slice oa L.length c ∧ L.length ≤ c ∧ c ≤ maxLen ∧
    ∀ k a, L[k]? = some a → a.u.wf ∧ a.r.ok ∧ ∃ g off s, oa = some ⟨g, off, none⟩ ∧ PkS w s a.r.pk ∧ ∀ w', Chg [] w w' →
      (w'.cell? ⟨g, off + k * 17, none⟩ = some (.int .i64 a.u.k) ∧ w'.cell? ⟨g, off + k * 17 + 1, none⟩ = some (.int .i64 a.u.who) ∧ w'.cell? ⟨g, off + k * 17 + 2, none⟩ = some (.int .i64 a.u.obj) ∧
       w'.cell? ⟨g, off + k * 17 + 3, none⟩ = some (.int .i64 a.u.i) ∧ w'.cell? ⟨g, off + k * 17 + 4, none⟩ = some (.int .u64 a.u.n) ∧ w'.cell? ⟨g, off + k * 17 + 5, none⟩ = some (.int .u64 a.u.m) ∧
       w'.cell? ⟨g, off + k * 17 + 6, none⟩ = some (.int .i64 a.u.flow) ∧ w'.cell? ⟨g, off + k * 17 + 7, none⟩ = some (.int .i64 a.u.len) ∧ w'.cell? ⟨g, off + k * 17 + 8, none⟩ = some (.int .i64 a.u.mark)) ∧
      (w'.cell? ⟨g, off + k * 17 + 9, none⟩ = some (.int .i64 a.c.op) ∧ w'.cell? ⟨g, off + k * 17 + 10, none⟩ = some (.int .i64 a.c.flow) ∧ w'.cell? ⟨g, off + k * 17 + 11, none⟩ = some (.int .i64 a.c.a) ∧ w'.cell? ⟨g, off + k * 17 + 12, none⟩ = some (.int .i64 a.c.b)) ∧
      (w'.cell? ⟨g, off + k * 17 + 13, none⟩ = some (.int .i64 a.r.e) ∧ w'.cell? ⟨g, off + k * 17 + 14, none⟩ = some s ∧ w'.cell? ⟨g, off + k * 17 + 15, none⟩ = some (.int .i64 a.r.n) ∧ w'.cell? ⟨g, off + k * 17 + 16, none⟩ = some (.int .u64 a.r.v))

section
variable {H : Type} {enc : TypeId × Value → H} {w : World} {base : Nat} {spare : Nat → Bool} {held : Bool} {v : Value} {d : DataW H} {p : List MemPlace} {b0 : Nat} {cs : List Value} {x : DataW H × List MemPlace} {fuel : Nat}
theorem open_calls (hv : Value.okWide Try.prog w .any b0 22 v) (h : DataW.Trod enc Try.prog w base spare held 22 v d p) (hw : Wok Try.prog 22 d) : ∃ L : List Cl, True ∧ CallsAt w v L := by
  obtain ⟨L, oa, c, hv', h1, h2, h3, h4, h5⟩ := open_elems Cl.zero (fun cs (q : Cl) => cs = q.cells) 4 Try.underlying22 (by kernel_rfl) (by omega) (fun n cs y hy _ => by
    obtain ⟨q, rfl⟩ := read_cl hy
    exact ⟨rfl, q, rfl⟩) (okWide_slice Try.underlying22 hv) h hw
  refine ⟨L, trivial, oa, c, hv', h1, h2, fun k a hk => ?_⟩
  obtain ⟨cs, g, off, rfl, he, _, hc⟩ := h5 k a hk
  exact ⟨g, off, he, fun w' ch => ⟨ch.cell (hc 0 _ rfl) (by simp), ch.cell (hc 1 _ rfl) (by simp), ch.cell (hc 2 _ rfl) (by simp), ch.cell (hc 3 _ rfl) (by simp)⟩⟩
theorem open_rets (hv : Value.okWide Try.prog w .any b0 23 v) (h : DataW.Trod enc Try.prog w base spare held 23 v d p) (hw : Wok Try.prog 23 d) : ∃ L : List Rt, True ∧ RetsAt w v L := by
  obtain ⟨L, oa, c, hv', h1, h2, h3, h4, h5⟩ := open_elems Rt.zero (fun cs (q : Rt) => ∃ s, cs = [.int .i64 q.e, s, .int .i64 q.n, .int .u64 q.v] ∧ q.ok ∧ PkS w s q.pk) 4 Try.underlying23 (by kernel_rfl) (by omega) (fun n cs y hy hwk => by
    obtain ⟨r, s, rfl, hr⟩ := read_ret hy hwk
    exact ⟨rfl, r, s, rfl, hr⟩) (okWide_slice Try.underlying23 hv) h hw
  refine ⟨L, trivial, oa, c, hv', h1, h2, fun k a hk => ?_⟩
  obtain ⟨cs, g, off, ⟨s, rfl, hok, hs⟩, he, _, hc⟩ := h5 k a hk
  exact ⟨hok, g, off, s, he, hs, fun w' ch => ⟨ch.cell (hc 0 _ rfl) (by simp), ch.cell (hc 1 _ rfl) (by simp), ch.cell (hc 2 _ rfl) (by simp), ch.cell (hc 3 _ rfl) (by simp)⟩⟩
theorem open_ret (hv : Value.okWide Try.prog w .any b0 41 v) (h : DataW.Trod enc Try.prog w base spare held 41 v d p) (hw : Wok Try.prog 41 d) : ∃ (r : Rt) (s : Value), v = r.val s ∧ r.ok ∧ PkS w s r.pk := by
  obtain ⟨cs, rfl, hsz⟩ := okWide_struct Try.underlying41 hv
  obtain ⟨n, hn⟩ := h
  obtain ⟨r, s, h1, h2⟩ := read_ret (x := (d, p)) hn hw
  have : (Value.agg cs).cells = cs := rfl
  rw [this] at h1
  refine ⟨r, s, ?_, h2⟩
  unfold Rt.val
  rw [← h1]
theorem read_turn (h : DataW.trod enc Try.prog w base spare held fuel 64 cs = some x) (hw : Wok Try.prog 64 x.1) : ∃ (q : Tn) (s : Value), cs = q.u.cells ++ q.c.cells ++ [.int .i64 q.r.e, s, .int .i64 q.r.n, .int .u64 q.r.v] ∧ q.u.wf ∧ q.r.ok ∧ PkS w s q.r.pk := by
  obtain ⟨n, xs, hl, hx, hm⟩ := trod_fields Try.underlying64 h
  have hc : Try.prog.cellsOf 64 = 17 := by kernel_rfl
  rw [hc] at hl
  simp only [List.mapM_cons, List.mapM_nil, Option.bind_eq_bind, Option.bind_eq_some_iff, Option.pure_def, Option.some.injEq] at hm
  obtain ⟨x0, h0, r0, ⟨x1, h1, r1, ⟨x2, h2, r2, rfl, rfl⟩, rfl⟩, rfl⟩ := hm
  have hcu : Try.prog.cellsOf 62 = 9 := by kernel_rfl
  have hcc : Try.prog.cellsOf 32 = 4 := by kernel_rfl
  have hcr : Try.prog.cellsOf 41 = 4 := by kernel_rfl
  simp only [hcu, hcc, hcr] at h0 h1 h2
  unfold Wok at hw
  rw [hx] at hw
  unfold DataW.weights at hw
  rw [Try.underlying64] at hw
  simp only [List.map_cons, List.map_nil, DataW.weightsEach, List.all_append, Bool.and_eq_true] at hw
  obtain ⟨u, hu, eu⟩ := read_use h0
  obtain ⟨c, ec⟩ := read_cl h1
  obtain ⟨r, s, er, hr⟩ := read_ret h2 hw.2.2.1
  refine ⟨⟨u, c, r⟩, s, ?_, hu, hr⟩
  show cs = u.cells ++ c.cells ++ [.int .i64 r.e, s, .int .i64 r.n, .int .u64 r.v]
  rw [← eu, ← ec, ← er, List.drop_zero]
  match cs, hl with
  | [a0, a1, a2, a3, a4, a5, a6, a7, a8, a9, a10, a11, a12, a13, a14, a15, a16], _ => rfl
theorem open_turns (hv : Value.okWide Try.prog w .any b0 55 v) (h : DataW.Trod enc Try.prog w base spare held 55 v d p) (hw : Wok Try.prog 55 d) : ∃ L : List Tn, True ∧ TurnsAt w v L := by
  obtain ⟨L, oa, c, hv', h1, h2, h3, h4, h5⟩ := open_elems ⟨⟨0, 0, 0, 0, 0, 0, 0, 0, 0⟩, Cl.zero, Rt.zero⟩ (fun cs (q : Tn) => ∃ s, cs = q.u.cells ++ q.c.cells ++ [.int .i64 q.r.e, s, .int .i64 q.r.n, .int .u64 q.r.v] ∧ q.u.wf ∧ q.r.ok ∧ PkS w s q.r.pk) 17 Try.underlying55 (by kernel_rfl) (by omega) (fun n cs y hy hwk => by
    obtain ⟨r, s, rfl, hr⟩ := read_turn hy hwk
    exact ⟨rfl, r, s, rfl, hr⟩) (okWide_slice Try.underlying55 hv) h hw
  refine ⟨L, trivial, oa, c, hv', h1, h2, fun k a hk => ?_⟩
  obtain ⟨cs, g, off, ⟨s, rfl, hu, hok, hs⟩, he, _, hc⟩ := h5 k a hk
  exact ⟨hu, hok, g, off, s, he, hs, fun w' ch => ⟨⟨ch.cell (hc 0 _ rfl) (by simp), ch.cell (hc 1 _ rfl) (by simp), ch.cell (hc 2 _ rfl) (by simp), ch.cell (hc 3 _ rfl) (by simp), ch.cell (hc 4 _ rfl) (by simp), ch.cell (hc 5 _ rfl) (by simp), ch.cell (hc 6 _ rfl) (by simp), ch.cell (hc 7 _ rfl) (by simp), ch.cell (hc 8 _ rfl) (by simp)⟩,
    ⟨ch.cell (hc 9 _ rfl) (by simp), ch.cell (hc 10 _ rfl) (by simp), ch.cell (hc 11 _ rfl) (by simp), ch.cell (hc 12 _ rfl) (by simp)⟩, ⟨ch.cell (hc 13 _ rfl) (by simp), ch.cell (hc 14 _ rfl) (by simp), ch.cell (hc 15 _ rfl) (by simp), ch.cell (hc 16 _ rfl) (by simp)⟩⟩⟩
end
end Go.Proofs.Ytjipjhmcpjffcac
