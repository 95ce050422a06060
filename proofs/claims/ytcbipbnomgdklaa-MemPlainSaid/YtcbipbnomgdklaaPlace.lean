/- place: where a place's number stands in the reference's memory; it is there then. -/
import Derived.Test.YtcbipbnomgdklaaRef
set_option linter.unusedSimpArgs false
set_option linter.unusedVariables false
namespace Go.Proofs.Ytcbipbnomgdklaa
open Go Go.RowKit Go.Maps

theorem keys_get (kv : List (Lc × Int)) : ∀ (k : Nat) (x : Lc × Int), kv[k]? = some x → (keys kv)[k * 3]? = some (.int .i64 x.1.k) ∧ (keys kv)[k * 3 + 1]? = some (.int .i64 x.1.a) ∧ (keys kv)[k * 3 + 2]? = some (.int .i64 x.1.b) := by
  induction kv with
  | nil => intro k x h; simp at h
  | cons y kv ih =>
    intro k x h
    have e : keys (y :: kv) = [.int .i64 y.1.k, .int .i64 y.1.a, .int .i64 y.1.b] ++ keys kv := by simp [keys, Lc.cells]
    rw [e]
    cases k with
    | zero =>
      simp at h
      subst h
      simp
    | succ k =>
      obtain ⟨h0, h1, h2⟩ := ih k x (by simpa using h)
      have e1 : (k + 1) * 3 = k * 3 + 3 := by omega
      rw [e1]
      refine ⟨?_, ?_, ?_⟩
      · rw [List.getElem?_append_right (by simp)]; simpa using h0
      · rw [List.getElem?_append_right (by simp)]; simpa using h1
      · rw [List.getElem?_append_right (by simp)]; simpa using h2

/-- No place before k is l. -/
def NotYet (kv : List (Lc × Int)) (l : Lc) (k : Nat) : Prop := ∀ (j : Nat) (x : Lc × Int), j < k → kv[j]? = some x → x.1 ≠ l
theorem NotYet.step {kv : List (Lc × Int)} {l : Lc} {k : Nat} {x : Lc × Int} (h : NotYet kv l k) (hx : kv[k]? = some x) (hne : x.1 ≠ l) : NotYet kv l (k + 1) := by
  intro j y hj hy
  rcases Nat.lt_or_ge j k with h1 | h1
  · exact h j y h1 hy
  · obtain rfl : j = k := by omega
    rw [hx] at hy
    cases hy
    exact hne

/-- Where the place is found. -/
def Found (w : World) (kv : List (Lc × Int)) (l : Lc) (e : Ending) (w' : World) : Prop := ∃ (k : Nat) (x : Int), kv[k]? = some (l, x) ∧ NotYet kv l k ∧ e = .returned (.int .i64 (k : Nat)) ∧ Chg [] w w'

set_option maxHeartbeats 1000000 in
theorem place_found {w : World} {p : Nat} {fp : List Nat} {log : List Ev} {kv : List (Lc × Int)} (h : RefAt w p fp log kv) (l : Lc) (hn : kv.length ≤ 1000000) (hin : ∃ (j : Nat) (x : Int), kv[j]? = some (l, x)) :
    Calls Try.prog 41 #[.pointer (some ⟨p, 0, none⟩), l.val] w (Found w kv l) := by
  obtain ⟨vA, vV, vE, h1, h2, h3, h5, hfp⟩ := h
  rcases ownsRow_form h2 with ⟨rfl, h0⟩ | ⟨g, cap, rfl, hg, hcap, hcm⟩
  · obtain ⟨j, x, hj⟩ := hin
    have := (List.getElem?_eq_some_iff.1 hj).1
    omega
  have c0 : w.cell? ⟨p, 0, none⟩ = some (.slice (some ⟨g, 0, none⟩) kv.length cap) := h1.cell rfl
  have cell : ∀ j u, (keys kv)[j]? = some u → w.cell? ⟨g, j, none⟩ = some u := fun j u hu => ownsRow_cell h2 rfl hu
  have rb := Row.new w [.int .i64 l.k, .int .i64 l.a, .int .i64 l.b] 23
  have C0 := Lib.hid c0; have Cell := Lib.hid cell; have Rb := Lib.hid rb; have Hin := Lib.hid hin; have Hcap := Lib.hid hcap
  obtain ⟨n, hnl⟩ : ∃ n, n = kv.length := ⟨_, rfl⟩
  clear h1 h2 h3 h5 hfp cell rb hin hcap
  have Hnl := Lib.hid hnl
  rw [← hnl] at c0 hn
  clear hnl
  unfold Lc.val
  go_enter Try.func41, Try.ntmps41
  go_wp2_with fail
  go_loopw [5] (fun i wr => ∃ k : Nat, k ≤ n ∧ i = .int .i64 k ∧ NotYet kv l k ∧ Chg [] (w.alloc (.cells #[.int .i64 l.k, .int .i64 l.a, .int .i64 l.b] 23)) wr) (fun i _ => n - (intOf i).toNat)
  case atStart => exact ⟨0, by omega, rfl, fun j x hj => by omega, Chg.refl _ _⟩
  case round =>
    obtain ⟨k, hk, rfl, ht, hc⟩ := hrel
    have lp : p < w.heap.size := World.block_lt_of_cell? w _ c0
    have c1 : wr.cell? ⟨p, 0, none⟩ = some (.slice (some ⟨g, 0, none⟩) n cap) := hc.cell (by rw [World.cell?_alloc_lt _ _ _ lp]; exact c0) (by simp)
    obtain ⟨d0, d1, d2⟩ := (Rb.out.chg hc (by simp)).cells3
    have Ht := Lib.hid ht; have Hc := Lib.hid hc
    clear ht hc
    by_cases hlt : k < n
    · obtain ⟨x, hx⟩ : ∃ x, kv[k]? = some x := ⟨_, List.getElem?_eq_getElem (by rw [← Hnl.out]; exact hlt)⟩
      obtain ⟨a0, a1, a2⟩ := keys_get kv k x hx
      have lg : g < w.heap.size := hg
      have b0 : wr.cell? ⟨g, k * 3, none⟩ = some (.int .i64 x.1.k) := Hc.out.cell (by rw [World.cell?_alloc_lt _ _ _ lg]; exact Cell.out _ _ a0) (by simp)
      have b1 : wr.cell? ⟨g, k * 3 + 1, none⟩ = some (.int .i64 x.1.a) := Hc.out.cell (by rw [World.cell?_alloc_lt _ _ _ lg]; exact Cell.out _ _ a1) (by simp)
      have b2 : wr.cell? ⟨g, k * 3 + 2, none⟩ = some (.int .i64 x.1.b) := Hc.out.cell (by rw [World.cell?_alloc_lt _ _ _ lg]; exact Cell.out _ _ a2) (by simp)
      have i1 : (k : Int) < (n : Int) := by omega
      have i0 : (0 : Int) ≤ (k : Int) := by omega
      have Hx := Lib.hid hx
      clear hx a0 a1 a2
      obtain ⟨y, v⟩ := x
      by_cases e : y = l
      · subst e
        go_wp2_with fail
        go_quiet (fail)
        go_wp2
        go_ret
        exact ⟨k, v, Hx.out, Ht.out, rfl, (((Chg.refl [] w).alloc _).quiet Hc.out).drewN _⟩
      · have heq := fun W => equal_loc_no (e : y ≠ l) W
        have He := Lib.hid e
        clear e
        go_wp2_with fail
        go_quiet (fail)
        go_wp2
        go_roundw
        case rel => exact ⟨k + 1, by omega, by go_num, Ht.out.step Hx.out He.out, Hc.out.drewN _⟩
        case measure => simp [intOf]; omega
    · exfalso
      obtain ⟨j, x, hj⟩ := Hin.out
      have hjn := (List.getElem?_eq_some_iff.1 hj).1
      rw [← Hnl.out] at hjn
      exact Ht.out j _ (by omega) hj rfl
end Go.Proofs.Ytcbipbnomgdklaa
