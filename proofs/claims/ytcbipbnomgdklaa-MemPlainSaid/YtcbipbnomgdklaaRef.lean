/- The reference's memory (package weighbridgeref16, Mem): what its block and its three lists hold (RefAt); Log. -/
import Derived.Test.YtcbipbnomgdklaaMemD
import Derived.Test.YtcbipbnomgdklaaRegion
set_option linter.unusedSimpArgs false
set_option linter.unusedVariables false
namespace Go.Proofs.Ytcbipbnomgdklaa
open Go Go.RowKit Go.Maps

def keys (kv : List (Lc × Int)) : List Value := kv.flatMap fun x => x.1.cells
def nums (kv : List (Lc × Int)) : List Value := kv.map fun x => .int .u64 x.2

/-- Block p of w is a reference's memory: its events, its places with their numbers. -/
def RefAt (w : World) (p : Nat) (fp : List Nat) (log : List Ev) (kv : List (Lc × Int)) : Prop :=
  ∃ vA vV vE, Row w p [vA, vV, vE] 47 ∧ w.ownsRow 0 23 3 vA kv.length (keys kv) ∧ w.ownsRow 0 28 1 vV kv.length (nums kv) ∧ w.ownsRow 0 33 5 vE log.length (evs log) ∧
    fp = p :: (vA.ownBlock.toList ++ (vV.ownBlock.toList ++ vE.ownBlock.toList))

theorem ownsRow_apart {w : World} {b1 b2 : Nat} {e1 e2 : TypeId} {s1 s2 n1 n2 : Nat} {v1 v2 : Value} {x1 x2 : List Value} (h1 : w.ownsRow b1 e1 s1 v1 n1 x1) (h2 : w.ownsRow b2 e2 s2 v2 n2 x2) (hne : e1 ≠ e2) : ∀ k, v1.ownBlock = some k → v2.ownBlock ≠ some k := by
  intro k hk hk'
  rcases h1.2 with ⟨rfl, _⟩ | ⟨g, cap, cur, rfl, _, hg, _⟩
  · simp [Value.ownBlock] at hk
  rcases h2.2 with ⟨rfl, _⟩ | ⟨g', cap', cur', rfl, _, hg', _⟩
  · simp [Value.ownBlock] at hk'
  simp [Value.ownBlock] at hk hk'
  subst hk
  subst hk'
  rw [hg] at hg'
  simp at hg'
  exact hne hg'.2

section
variable {w w' : World} {p : Nat} {fp : List Nat} {log : List Ev} {kv : List (Lc × Int)}
theorem RefAt.lt (h : RefAt w p fp log kv) : ∀ k, k ∈ fp → k < w.heap.size := by
  obtain ⟨vA, vV, vE, h1, h2, h3, h4, rfl⟩ := h
  intro k hk
  simp only [List.mem_cons, List.mem_append, Option.mem_toList] at hk
  rcases hk with rfl | hk | hk | hk
  · exact h1.lt
  · exact (h2.lt k hk).2
  · exact (h3.lt k hk).2
  · exact (h4.lt k hk).2
theorem RefAt.chg {S : List Nat} (h : RefAt w p fp log kv) (c : Chg S w w') (hn : ∀ k, k ∈ fp → k ∉ S) : RefAt w' p fp log kv := by
  obtain ⟨vA, vV, vE, h1, h2, h3, h4, rfl⟩ := h
  exact ⟨vA, vV, vE, h1.chg c (hn p (by simp)), ownsRow_chg h2 c (fun k hk => hn k (by simp [hk])), ownsRow_chg h3 c (fun k hk => hn k (by simp [hk])), ownsRow_chg h4 c (fun k hk => hn k (by simp [hk])), rfl⟩
end
def refB (p : Nat) (log : List Ev) (kv : List (Lc × Int)) : HA := ⟨fun w fp => RefAt w p fp log kv, fun h => h.lt, fun h c hn => h.chg c hn⟩

theorem log_done {w W w1 : World} {p gg cap : Nat} {vA vV vE : Value} {log : List Ev} {kv : List (Lc × Int)} {fp : List Nat} {who kind : Int} {l : Lc} (hW : Chg [] w W)
    (h1 : Row w p [vA, vV, vE] 47) (h2 : w.ownsRow 0 23 3 vA kv.length (keys kv)) (h3 : w.ownsRow 0 28 1 vV kv.length (nums kv)) (h4 : w.ownsRow 0 33 5 vE log.length (evs log))
    (hfp : fp = p :: (vA.ownBlock.toList ++ (vV.ownBlock.toList ++ vE.ownBlock.toList))) (hgrow : W.grownBy w1 vE.ownBlock)
    (hown : w1.ownsRow 0 33 5 (.slice (some ⟨gg, 0, none⟩) (log.length + 1) cap) (log.length + 1) (evs log ++ [.int .i64 who, .int .i64 kind, .int .i64 l.k, .int .i64 l.a, .int .i64 l.b]))
    (hat : vE.ownBlock = some gg ∨ gg = W.heap.size) : After (refB p (log ++ [⟨who, kind, l⟩]) kv) w fp (w1.setCell ⟨p, 2, none⟩ (.slice (some ⟨gg, 0, none⟩) (log.length + 1) cap)) := by
  have np : vE.ownBlock ≠ some p := ownsRow_not_row h4 h1 (by decide)
  have nA := ownsRow_apart h2 h4 (by decide)
  have nV := ownsRow_apart h3 h4 (by decide)
  have pA : vA.ownBlock ≠ some p := ownsRow_not_row h2 h1 (by decide)
  have pV : vV.ownBlock ≠ some p := ownsRow_not_row h3 h1 (by decide)
  have hWg : Chg vE.ownBlock.toList w w1 := ((Chg.refl _ w).quiet hW).grown hgrow (fun k hk => .inl (by simp [hk]))
  have r1 : Row w1 p [vA, vV, vE] 47 := h1.chg hWg (by simpa using np)
  have ng : gg ≠ p := fun e => by
    have := ownsRow_not_row hown r1 (by decide)
    exact this (by simp [Value.ownBlock, e])
  have cset : ∀ v, Chg [p] w1 (w1.setCell ⟨p, 2, none⟩ v) := fun v => (Chg.refl _ _).setCell (.inl (by simp)) v
  refine ⟨p :: (vA.ownBlock.toList ++ (vV.ownBlock.toList ++ [gg])), ⟨vA, vV, _, r1.set 2 _, ?_, ?_, ?_, rfl⟩, ?_, ?_⟩
  · exact ownsRow_chg (ownsRow_chg h2 hWg (fun k hk => by simpa using nA k hk)) (cset _) (fun k hk => by simp; intro e; exact pA (by rw [hk, e]))
  · exact ownsRow_chg (ownsRow_chg h3 hWg (fun k hk => by simpa using nV k hk)) (cset _) (fun k hk => by simp; intro e; exact pV (by rw [hk, e]))
  · have e : (log ++ [(⟨who, kind, l⟩ : Ev)]).length = log.length + 1 := by simp
    have e2 : evs (log ++ [⟨who, kind, l⟩]) = evs log ++ [.int .i64 who, .int .i64 kind, .int .i64 l.k, .int .i64 l.a, .int .i64 l.b] := by simp [evs_append, Ev.cells]
    rw [e, e2]
    exact ownsRow_chg hown (cset _) (fun k hk => by simp [Value.ownBlock] at hk; subst hk; simpa using ng)
  · rw [hfp]
    exact (hWg.mono (fun k hk _ => by simp at hk; simp [hk])).setCell (.inl (by simp)) _
  · intro k hk
    simp only [List.mem_cons, List.mem_append, Option.mem_toList, List.not_mem_nil, or_false] at hk
    rw [hfp]
    simp only [List.mem_cons, List.mem_append, Option.mem_toList]
    rcases hk with rfl | hk | hk | rfl
    · simp
    · simp [hk]
    · simp [hk]
    · rcases hat with h | h
      · simp [h]
      · right; rw [h]; exact hW.size

theorem After.from_alloc {A : HA} {w w' : World} {fp : List Nat} {o : Obj} (h : After A (w.alloc o) fp w') : After A w fp w' := by
  obtain ⟨fp', h1, h2, h3⟩ := h
  exact ⟨fp', h1, ((Chg.refl fp w).alloc o).same h2, h3.up (by simp)⟩

set_option maxHeartbeats 1000000 in
/-- Log: an event more. -/
theorem rlog_any {w : World} {p : Nat} {fp : List Nat} {log : List Ev} {kv : List (Lc × Int)} (h : RefAt w p fp log kv) (who kind : Int) (l : Lc) (hn : log.length ≤ 1000000) :
    Calls Try.prog 38 #[.pointer (some ⟨p, 0, none⟩), .int .i64 who, .int .i64 kind, l.val] w fun e w' => e = .returned (.tuple #[]) ∧ After (refB p (log ++ [⟨who, kind, l⟩]) kv) w fp w' := by
  obtain ⟨vA, vV, vE, h1, h2, h3, h5, hfp⟩ := h
  obtain ⟨i0, hi, hz0, hz1, hz2⟩ := info_parts infoEvent
  have c0 : w.cell? ⟨p, 2, none⟩ = some vE := h1.cell rfl
  have lp := h1.lt
  have np : vE.ownBlock ≠ some p := ownsRow_not_row h5 h1 (by decide)
  have r2 : ∀ o1 o2, Row ((w.alloc o1).alloc o2).drew p [vA, vV, vE] 47 := fun o1 o2 => ((h1.alloc o1).alloc o2).drew
  have fin := fun W w1 gg cap => log_done (W := W) (w1 := w1) (gg := gg) (cap := cap) (who := who) (kind := kind) (l := l) (hfp := hfp) (h1 := h1) (h2 := h2) (h3 := h3) (h4 := h5)
  have R2 := Lib.hid r2; have Fin := Lib.hid fin; have Hnp := Lib.hid np
  clear h1 h2 h3 hfp np r2 fin
  unfold Lc.val
  go_enter Try.func38, Try.ntmps38
  go_wp2
  go_region_law
    ((refine step_append_lies _ (by rfl) _ _ _ (by rfl) 0 33 i0 _ 5 40 Try.underlying29 hi hz0 hz1 hz2 rfl (by omega) vE log.length (evs log) (by rfl) ((h5.alloc _).alloc _).drew
        ⟨w.heap.size + 1, 0, none⟩ 1 1 [.int .i64 who, .int .i64 kind, .int .i64 l.k, .int .i64 l.a, .int .i64 l.b] (by rfl) (by rfl) (World.news_of_block (cs := #[.int .i64 who, .int .i64 kind, .int .i64 l.k, .int .i64 l.a, .int .i64 l.b]) (t := 33) (fr := (0, 0)) (heap_alloc_at (by simp) _)) (by simp [Value.oneCell'])
        (by omega) (by unfold maxLen; omega) (by omega) (by omega) (w.heap.size + 2) (by simp) ?_; intro gg cap w1 hown1 hgrow hat hlt; have r1 := (R2.out _ _).grown hgrow Hnp.out; have hc1 := r1.cell (j := 2) rfl; have hf1 := r1.free 2; have Hown := Lib.hid hown1; have Hg := Lib.hid hgrow; have Hat := Lib.hid hat; clear r1 hown1 hgrow hat))
  all_goals (go_wp2; go_end0; exact ⟨rfl, Fin.out _ _ _ _ ((((Chg.refl _ _).alloc _).alloc _).drew) Hg.out Hown.out (by simpa using Hat.out)⟩)
end Go.Proofs.Ytcbipbnomgdklaa
