/- place, where the place is not there yet: it is put behind the others, with the number 0. -/
import Derived.Test.YtcbipbnomgdklaaPlace
set_option linter.unusedSimpArgs false
set_option linter.unusedVariables false
namespace Go.Proofs.Ytcbipbnomgdklaa
open Go Go.RowKit Go.Maps

/-- What the loads of place's last statement read. -/
def SS (p B : Nat) (vA vV : Value) (l : Lc) (w : World) : Prop :=
  w.cell? ⟨p, 0, none⟩ = some vA ∧ w.cell? ⟨p, 1, none⟩ = some vV ∧ w.cell? ⟨B, 0, none⟩ = some (.int .i64 l.k) ∧ w.cell? ⟨B, 1, none⟩ = some (.int .i64 l.a) ∧ w.cell? ⟨B, 2, none⟩ = some (.int .i64 l.b)
theorem SS.chg {p B : Nat} {vA vV : Value} {l : Lc} {w w' : World} {S : List Nat} (h : SS p B vA vV l w) (c : Chg S w w') (hp : p ∉ S) (hB : B ∉ S) : SS p B vA vV l w' := by
  obtain ⟨a, b, d, e, f⟩ := h
  exact ⟨c.cell a hp, c.cell b hp, c.cell d hB, c.cell e hB, c.cell f hB⟩
theorem SS.alloc {p B : Nat} {vA vV : Value} {l : Lc} {w : World} (h : SS p B vA vV l w) (o : Obj) : SS p B vA vV l (w.alloc o) := h.chg (S := []) ((Chg.refl _ _).alloc o) (by simp) (by simp)

theorem grown_chg {w w' : World} {row : Option Nat} (h : w.grownBy w' row) : Chg row.toList w w' := (Chg.refl _ w).grown h (fun k hk => .inl (by simp [hk]))
theorem infoLoc : (Try.prog.info? 23).map (fun i => (i.zero, i.size, i.bytes)) = some (some (.agg #[.int .i64 0, .int .i64 0, .int .i64 0]), 3, 24) := by kernel_rfl
theorem infoU64 : (Try.prog.info? 28).map (fun i => (i.zero, i.size, i.bytes)) = some (some (.int .u64 0), 1, 8) := by kernel_rfl
theorem row_news {w : World} {k : Nat} {vs : List Value} {t : TypeId} (h : Row w k vs t) : ∀ j u, vs[j]? = some u → w.cell? ((⟨k, 0, none⟩ : Addr).add j) = some u := fun j u hu => by
  have e : (⟨k, 0, none⟩ : Addr).add j = ⟨k, j, none⟩ := by unfold Addr.add; split <;> simp_all
  rw [e]
  exact h.cell hu

theorem place_done {w w2 : World} {p gA cA gV cV : Nat} {vA vV vE : Value} {log : List Ev} {kv : List (Lc × Int)} {fp : List Nat} {l : Lc} {n : Nat} (hnl : n = kv.length)
    (h1 : Row w p [vA, vV, vE] 47) (h2 : w.ownsRow 0 23 3 vA kv.length (keys kv)) (h3 : w.ownsRow 0 28 1 vV kv.length (nums kv)) (h4 : w.ownsRow 0 33 5 vE log.length (evs log))
    (hfp : fp = p :: (vA.ownBlock.toList ++ (vV.ownBlock.toList ++ vE.ownBlock.toList))) (hc : Chg (vA.ownBlock.toList ++ vV.ownBlock.toList) w w2)
    (oA : w2.ownsRow 0 23 3 (.slice (some ⟨gA, 0, none⟩) (n + 1) cA) (n + 1) (keys kv ++ [.int .i64 l.k, .int .i64 l.a, .int .i64 l.b]))
    (oV : w2.ownsRow 0 28 1 (.slice (some ⟨gV, 0, none⟩) (n + 1) cV) (n + 1) (nums kv ++ [.int .u64 0]))
    (aA : vA.ownBlock = some gA ∨ w.heap.size ≤ gA) (aV : vV.ownBlock = some gV ∨ w.heap.size ≤ gV) :
    After (refB p log (kv ++ [(l, 0)])) w fp ((w2.setCell ⟨p, 0, none⟩ (.slice (some ⟨gA, 0, none⟩) (n + 1) cA)).setCell ⟨p, 1, none⟩ (.slice (some ⟨gV, 0, none⟩) (n + 1) cV)) := by
  subst hnl
  have pA : vA.ownBlock ≠ some p := ownsRow_not_row h2 h1 (by decide)
  have pV : vV.ownBlock ≠ some p := ownsRow_not_row h3 h1 (by decide)
  have pE : vE.ownBlock ≠ some p := ownsRow_not_row h4 h1 (by decide)
  have eA := ownsRow_apart h4 h2 (by decide)
  have eV := ownsRow_apart h4 h3 (by decide)
  have r2 : Row w2 p [vA, vV, vE] 47 := h1.chg hc (by simp [pA, pV])
  have e2 := ownsRow_chg h4 hc (fun k hk => by simp [eA k hk, eV k hk])
  have nA : gA ≠ p := fun e => (ownsRow_not_row oA r2 (by decide)) (by simp [Value.ownBlock, e])
  have nV : gV ≠ p := fun e => (ownsRow_not_row oV r2 (by decide)) (by simp [Value.ownBlock, e])
  have cset : ∀ W j v, Chg [p] W (W.setCell ⟨p, j, none⟩ v) := fun W j v => (Chg.refl _ _).setCell (.inl (by simp)) v
  have c2 := fun v v' => (cset w2 0 v).same (cset _ 1 v')
  have k1 : keys (kv ++ [(l, 0)]) = keys kv ++ [.int .i64 l.k, .int .i64 l.a, .int .i64 l.b] := by simp [keys, Lc.cells]
  have k2 : nums (kv ++ [(l, 0)]) = nums kv ++ [.int .u64 0] := by simp [nums]
  have k3 : (kv ++ [(l, (0 : Int))]).length = kv.length + 1 := by simp
  refine ⟨p :: ([gA] ++ ([gV] ++ vE.ownBlock.toList)), ⟨_, _, vE, (r2.set 0 _).set 1 _, ?_, ?_, ?_, rfl⟩, ?_, ?_⟩
  · rw [k1, k3]; exact ownsRow_chg oA (c2 _ _) (fun k hk => by simp [Value.ownBlock] at hk; subst hk; simpa using nA)
  · rw [k2, k3]; exact ownsRow_chg oV (c2 _ _) (fun k hk => by simp [Value.ownBlock] at hk; subst hk; simpa using nV)
  · exact ownsRow_chg e2 (c2 _ _) (fun k hk => by simp; intro e; exact pE (by rw [hk, e]))
  · rw [hfp]
    exact (hc.mono (fun k hk _ => by simp at hk; rcases hk with h | h <;> simp [h])).trans (c2 _ _) (fun i hi => .inl (by simp at hi; simp [hi]))
  · intro k hk
    simp only [List.mem_cons, List.mem_append, Option.mem_toList, List.not_mem_nil, or_false] at hk
    rw [hfp]
    simp only [List.mem_cons, List.mem_append, Option.mem_toList]
    rcases hk with rfl | rfl | rfl | hk
    · simp
    · rcases aA with h | h
      · simp [h]
      · exact .inr h
    · rcases aV with h | h
      · simp [h]
      · exact .inr h
    · simp [hk]

set_option maxHeartbeats 4000000 in
set_option maxRecDepth 100000 in
theorem place_new {w : World} {p : Nat} {fp : List Nat} {log : List Ev} {kv : List (Lc × Int)} (h : RefAt w p fp log kv) (l : Lc) (hn : kv.length ≤ 1000000) (hno : ∀ x, x ∈ kv → x.1 ≠ l) :
    Calls Try.prog 41 #[.pointer (some ⟨p, 0, none⟩), l.val] w fun e w' => e = .returned (.int .i64 kv.length) ∧ After (refB p log (kv ++ [(l, 0)])) w fp w' := by
  obtain ⟨vA, vV, vE, h1, h2, h3, h5, hfp⟩ := h
  obtain ⟨n, hnl⟩ : ∃ n, n = kv.length := ⟨_, rfl⟩
  obtain ⟨oa, cA, rfl, hoa⟩ : ∃ oa c, vA = .slice oa n c ∧ (0 < n → ∃ g, oa = some ⟨g, 0, none⟩ ∧ g < w.heap.size ∧ ∀ j u, (keys kv)[j]? = some u → w.cell? ⟨g, j, none⟩ = some u) := by
    rcases ownsRow_form h2 with ⟨rfl, h0⟩ | ⟨g, cap, rfl, hg, hcap, hcm⟩
    · exact ⟨none, 0, by rw [hnl, h0], fun h => by omega⟩
    · exact ⟨some ⟨g, 0, none⟩, cap, by rw [hnl], fun _ => ⟨g, rfl, hg, fun j u hu => ownsRow_cell h2 rfl hu⟩⟩
  have c0 : w.cell? ⟨p, 0, none⟩ = some (.slice oa n cA) := h1.cell rfl
  have cV : w.cell? ⟨p, 1, none⟩ = some vV := h1.cell rfl
  have rb := Row.new w [.int .i64 l.k, .int .i64 l.a, .int .i64 l.b] 23
  have H1 := Lib.hid h1; have H2 := Lib.hid h2; have H3 := Lib.hid h3; have H5 := Lib.hid h5; have Hfp := Lib.hid hfp
  have C0 := Lib.hid c0; have CV := Lib.hid cV; have Rb := Lib.hid rb; have Hno := Lib.hid hno; have Hoa := Lib.hid hoa
  clear h1 h2 h3 h5 hfp rb hno hoa cV
  have Hnl := Lib.hid hnl
  rw [← hnl] at hn
  clear hnl
  unfold Lc.val
  go_enter Try.func41, Try.ntmps41
  go_wp2_with fail
  go_loopw [5] (fun i wr => ∃ k : Nat, k ≤ n ∧ i = .int .i64 k ∧ Chg [] (w.alloc (.cells #[.int .i64 l.k, .int .i64 l.a, .int .i64 l.b] 23)) wr) (fun i _ => n - (intOf i).toNat)
  case atStart => exact ⟨0, by omega, rfl, Chg.refl _ _⟩
  case round =>
    obtain ⟨k, hk, rfl, hc⟩ := hrel
    have lp : p < w.heap.size := World.block_lt_of_cell? w _ C0.out
    have c1 : wr.cell? ⟨p, 0, none⟩ = some (.slice oa n cA) := hc.cell (by rw [World.cell?_alloc_lt _ _ _ lp]; exact C0.out) (by simp)
    obtain ⟨d0, d1, d2⟩ := (Rb.out.chg hc (by simp)).cells3
    have c2 : wr.cell? ⟨p, 1, none⟩ = some vV := hc.cell (by rw [World.cell?_alloc_lt _ _ _ lp]; exact CV.out) (by simp)
    have Hc := Lib.hid hc
    clear hc c0
    by_cases hlt : k < n
    · obtain ⟨x, hx⟩ : ∃ x, kv[k]? = some x := ⟨_, List.getElem?_eq_getElem (by rw [← Hnl.out]; exact hlt)⟩
      obtain ⟨a0, a1, a2⟩ := keys_get kv k x hx
      obtain ⟨g, rfl, lg, cell⟩ := Hoa.out (by omega)
      have b0 : wr.cell? ⟨g, k * 3, none⟩ = some (.int .i64 x.1.k) := Hc.out.cell (by rw [World.cell?_alloc_lt _ _ _ lg]; exact cell _ _ a0) (by simp)
      have b1 : wr.cell? ⟨g, k * 3 + 1, none⟩ = some (.int .i64 x.1.a) := Hc.out.cell (by rw [World.cell?_alloc_lt _ _ _ lg]; exact cell _ _ a1) (by simp)
      have b2 : wr.cell? ⟨g, k * 3 + 2, none⟩ = some (.int .i64 x.1.b) := Hc.out.cell (by rw [World.cell?_alloc_lt _ _ _ lg]; exact cell _ _ a2) (by simp)
      have i1 : (k : Int) < (n : Int) := by omega
      have i0 : (0 : Int) ≤ (k : Int) := by omega
      have heq := fun W => equal_loc_no (Hno.out x (List.mem_of_getElem? hx)) W
      clear hx a0 a1 a2 cell
      go_wp2_with fail
      go_quiet (fail)
      go_wp2
      go_roundw
      case rel => exact ⟨k + 1, by omega, by go_num, Hc.out.drewN _⟩
      case measure => simp [intOf]; omega
    · go_wp2_with fail
      refine wp_region_any (by kernel_rfl) ?_
      change wpAny _ _ _ _ _ _ _ wr.drew
      obtain ⟨i1, hi1, hx0, hx1, hx2⟩ := info_parts infoLoc
      obtain ⟨i2, hi2, hy0, hy1, hy2⟩ := info_parts infoU64
      have cw : Chg [] w wr.drew := (((Chg.refl _ w).alloc _).quiet Hc.out).drew
      have hs0 : SS p w.heap.size (.slice oa n cA) vV l wr.drew := ⟨c1, c2, d0, d1, d2⟩
      have npA : (Value.slice oa n cA).ownBlock ≠ some p := ownsRow_not_row H2.out H1.out (by decide)
      have npV : vV.ownBlock ≠ some p := ownsRow_not_row H3.out H1.out (by decide)
      have nbA : ∀ k, (Value.slice oa n cA).ownBlock = some k → k < w.heap.size := fun k hk => (H2.out.lt k hk).2
      have nbV : ∀ k, vV.ownBlock = some k → k < w.heap.size := fun k hk => (H3.out.lt k hk).2
      have bA : w.heap.size ∉ (Value.slice oa n cA).ownBlock.toList := fun h => by have := nbA _ (by simpa using h); omega
      have bV : w.heap.size ∉ vV.ownBlock.toList := fun h => by have := nbV _ (by simpa using h); omega
      have hA0 := ownsRow_chg H2.out cw (fun k _ => by simp)
      have hV0 := ownsRow_chg H3.out cw (fun k _ => by simp)
      have hk0 : Chg ((Value.slice oa n cA).ownBlock.toList ++ vV.ownBlock.toList) w wr.drew := cw.mono (fun k hk => by cases hk)
      have hz0 := cw.size
      have HnpA := Lib.hid npA; have HnpV := Lib.hid npV; have HbA := Lib.hid bA; have HbV := Lib.hid bV
      clear npA npV nbA nbV bA bV c1 c2 d0 d1 d2 cw
      rw [← Hnl.out] at hA0 hV0
      have A0 := Lib.hid hA0; have V0 := Lib.hid hV0; have S0 := Lib.hid hs0; have K0 := Lib.hid hk0
      clear hA0 hV0 hs0 hk0
      generalize wr.drew = c0 at A0 V0 S0 K0 hz0 ⊢
      refine wpAny_take (i := 0) (v := .pointer (some ⟨p, 0, none⟩)) rfl (by kernel_rfl) (by kernel_rfl) (by kernel_rfl) (fun _ _ _ h => h) (Or.inl ⟨by rfl, fun w' => by go_simp⟩) ?_
      simp only [Act.put, List.setIfInBounds_toArray, List.set_cons_zero, List.set_cons_succ]
      refine wpAny_take (i := 1) (v := .pointer (some ⟨p, 0, none⟩)) rfl (by kernel_rfl) (by kernel_rfl) (by kernel_rfl) (fun _ _ _ h => h) (Or.inl ⟨by rfl, fun w' => by go_simp⟩) ?_
      simp only [Act.put, List.setIfInBounds_toArray, List.set_cons_zero, List.set_cons_succ]
      refine wpAny_take (i := 2) (v := .pointer (some ⟨p, 0, none⟩)) rfl (by kernel_rfl) (by kernel_rfl) (by kernel_rfl) (fun _ _ _ h => h) (Or.inl ⟨by rfl, fun w' => by go_simp⟩) ?_
      simp only [Act.put, List.setIfInBounds_toArray, List.set_cons_zero, List.set_cons_succ]
      refine wpAny_take (i := 3) (v := .pointer (some ⟨p, 0, none⟩)) rfl (by kernel_rfl) (by kernel_rfl) (by kernel_rfl) (fun _ _ _ h => h) (Or.inl ⟨by rfl, fun w' => by go_simp⟩) ?_
      simp only [Act.put, List.setIfInBounds_toArray, List.set_cons_zero, List.set_cons_succ]
      refine wpAny_take (i := 4) (v := .pointer (some ⟨p, 0, none⟩)) rfl (by kernel_rfl) (by kernel_rfl) (by kernel_rfl) (fun _ _ _ h => h) (Or.inl ⟨by rfl, fun w' => by go_simp⟩) ?_
      simp only [Act.put, List.setIfInBounds_toArray, List.set_cons_zero, List.set_cons_succ]
      refine wpAny_take (i := 9) (v := .pointer (some ⟨p, 0, none⟩)) rfl (by kernel_rfl) (by kernel_rfl) (by kernel_rfl) (fun _ _ _ h => h) (Or.inl ⟨by rfl, fun w' => by go_simp⟩) ?_
      simp only [Act.put, List.setIfInBounds_toArray, List.set_cons_zero, List.set_cons_succ]
      refine wpAny_take (i := 10) (v := .pointer (some ⟨p, 0, none⟩)) rfl (by kernel_rfl) (by kernel_rfl) (by kernel_rfl) (fun _ _ _ h => h) (Or.inl ⟨by rfl, fun w' => by go_simp⟩) ?_
      simp only [Act.put, List.setIfInBounds_toArray, List.set_cons_zero, List.set_cons_succ]
      refine wpAny_take (i := 11) (v := .pointer (some ⟨p, 1, none⟩)) rfl (by kernel_rfl) (by kernel_rfl) (by kernel_rfl) (fun _ _ _ h => h) (Or.inl ⟨by rfl, fun w' => by go_simp⟩) ?_
      simp only [Act.put, List.setIfInBounds_toArray, List.set_cons_zero, List.set_cons_succ]
      refine wpAny_of_U (S := SS p w.heap.size (.slice oa n cA) vV l) (U := [5, 6, 7, 8, 12, 13, 14]) _ _ _ _ ?_
      refine wpAnyU_take (i := 5) (v := .slice oa n cA) rfl (by kernel_rfl) (by kernel_rfl) (by kernel_rfl) (by kernel_rfl) (fun _ _ _ h => h) (Or.inl ⟨by rfl, fun w' hS => by (obtain ⟨s0, s1, s2, s3, s4⟩ := hS; go_simp)⟩) S0.out ?_
      try simp only [Act.put, List.setIfInBounds_toArray, List.set_cons_zero, List.set_cons_succ]
      refine wpAnyU_take (i := 6) (v := .agg #[.int .i64 l.k, .int .i64 l.a, .int .i64 l.b]) rfl (by kernel_rfl) (by kernel_rfl) (by kernel_rfl) (by kernel_rfl) (fun _ _ _ h => h) (Or.inl ⟨by rfl, fun w' hS => by (obtain ⟨s0, s1, s2, s3, s4⟩ := hS; go_simp)⟩) S0.out ?_
      try simp only [Act.put, List.setIfInBounds_toArray, List.set_cons_zero, List.set_cons_succ]
      refine wpAnyU_take (i := 12) (v := vV) rfl (by kernel_rfl) (by kernel_rfl) (by kernel_rfl) (by kernel_rfl) (fun _ _ _ h => h) (Or.inl ⟨by rfl, fun w' hS => by (obtain ⟨s0, s1, s2, s3, s4⟩ := hS; go_simp)⟩) S0.out ?_
      try simp only [Act.put, List.setIfInBounds_toArray, List.set_cons_zero, List.set_cons_succ]
      refine wpAnyU_all (rs := [7, 13]) (by kernel_rfl) (by simp) (fun i hi => ?_)
      simp only [List.mem_cons, List.not_mem_nil, or_false] at hi
      rcases hi with rfl | rfl
      · refine wpOpU_step rfl rfl (fun K hK => ?_)
        go_simp
        refine hK _ _ ⟨fun _ => S0.out.alloc _, ?_⟩
        clear hK K
        have A1 := Lib.hid (A0.out.alloc (.cells ([.int .i64 l.k, .int .i64 l.a, .int .i64 l.b] : List Value).toArray 23))
        have V1 := Lib.hid (V0.out.alloc (.cells ([.int .i64 l.k, .int .i64 l.a, .int .i64 l.b] : List Value).toArray 23))
        have S1 := Lib.hid (S0.out.alloc (.cells ([.int .i64 l.k, .int .i64 l.a, .int .i64 l.b] : List Value).toArray 23))
        have K1 := Lib.hid (K0.out.alloc (.cells ([.int .i64 l.k, .int .i64 l.a, .int .i64 l.b] : List Value).toArray 23))
        have R1 := Lib.hid (Row.new c0 [.int .i64 l.k, .int .i64 l.a, .int .i64 l.b] 23)
        have z1 : w.heap.size ≤ (c0.alloc (.cells ([.int .i64 l.k, .int .i64 l.a, .int .i64 l.b] : List Value).toArray 23)).heap.size := by simp; omega
        generalize c0.alloc (.cells ([.int .i64 l.k, .int .i64 l.a, .int .i64 l.b] : List Value).toArray 23) = c1 at A1 V1 S1 K1 R1 z1 ⊢
        generalize c0.heap.size = b1 at R1 ⊢
        try simp only [Act.put, List.setIfInBounds_toArray, List.set_cons_zero, List.set_cons_succ]
        refine wpAnyU_all (rs := [8, 13]) (by kernel_rfl) (by simp) (fun i hi => ?_)
        simp only [List.mem_cons, List.not_mem_nil, or_false] at hi
        rcases hi with rfl | rfl
        · refine wpOpU_step rfl rfl (fun K hK => ?_)
          refine wp_append_lies _ (.tmp 30) (.tmp 32) 45 rfl 0 23 i1 _ 3 24 Try.underlying45 hi1 hx0 hx1 hx2 rfl (by omega) (.slice oa n cA) n (keys kv) rfl A1.out ⟨b1, 0, none⟩ 1 1 [.int .i64 l.k, .int .i64 l.a, .int .i64 l.b] rfl rfl (row_news R1.out) (by simp [Value.oneCell']) (by omega) (by unfold maxLen; omega) (by omega) (by omega) _ rfl ?_
          intro gA capA c2 own2 gro2 at2 lt2
          have C2 := grown_chg gro2
          have hsn := S1.out.chg C2 (by simpa using HnpA.out) HbA.out
          refine hK _ _ ⟨fun _ => hsn, ?_⟩
          clear hK K
          have A2 := Lib.hid own2
          have V2 := Lib.hid (ownsRow_chg V1.out C2 (fun k hk => by simpa using ownsRow_apart V1.out A1.out (by decide) k hk))
          have S2 := Lib.hid hsn
          have K2 := Lib.hid (K1.out.trans C2 (fun i hi => .inl (by simp at hi; simp [hi])))
          have T2 := Lib.hid at2
          have z2 : w.heap.size ≤ c2.heap.size := Nat.le_trans z1 C2.size
          clear own2 gro2 at2 lt2 hsn C2
          try simp only [Act.put, List.setIfInBounds_toArray, List.set_cons_zero, List.set_cons_succ]
          refine wpAnyU_all (rs := [13]) (by kernel_rfl) (by simp) (fun i hi => ?_)
          obtain rfl : i = 13 := by simpa using hi
          refine wpOpU_step rfl rfl (fun K hK => ?_)
          go_simp
          refine hK _ _ ⟨fun _ => S2.out.alloc _, ?_⟩
          clear hK K
          have A3 := Lib.hid (A2.out.alloc (.cells ([.int .u64 0] : List Value).toArray 28))
          have V3 := Lib.hid (V2.out.alloc (.cells ([.int .u64 0] : List Value).toArray 28))
          have S3 := Lib.hid (S2.out.alloc (.cells ([.int .u64 0] : List Value).toArray 28))
          have K3 := Lib.hid (K2.out.alloc (.cells ([.int .u64 0] : List Value).toArray 28))
          have R3 := Lib.hid (Row.new c2 [.int .u64 0] 28)
          have L3 := Lib.hid (R1.out.alloc (.cells ([.int .u64 0] : List Value).toArray 28))
          have z3 : w.heap.size ≤ (c2.alloc (.cells ([.int .u64 0] : List Value).toArray 28)).heap.size := by simp; omega
          generalize c2.alloc (.cells ([.int .u64 0] : List Value).toArray 28) = c3 at A3 V3 S3 K3 R3 L3 z3 ⊢
          generalize c2.heap.size = b3 at R3 ⊢
          try simp only [Act.put, List.setIfInBounds_toArray, List.set_cons_zero, List.set_cons_succ]
          refine wpAnyU_all (rs := [14]) (by kernel_rfl) (by simp) (fun i hi => ?_)
          obtain rfl : i = 14 := by simpa using hi
          refine wpOpU_step rfl rfl (fun K hK => ?_)
          refine wp_append_lies _ (.tmp 37) (.tmp 38) 24 rfl 0 28 i2 _ 1 8 Try.underlying24 hi2 hy0 hy1 hy2 rfl (by omega) vV n (nums kv) rfl V3.out ⟨b3, 0, none⟩ 1 1 [.int .u64 0] rfl rfl (row_news R3.out) (by simp [Value.oneCell']) (by omega) (by unfold maxLen; omega) (by omega) (by omega) _ rfl ?_
          intro gV capV c4 own4 gro4 at4 lt4
          have C4 := grown_chg gro4
          have hsn := S3.out.chg C4 (by simpa using HnpV.out) HbV.out
          refine hK _ _ ⟨fun _ => hsn, ?_⟩
          clear hK K
          have A4 := Lib.hid (ownsRow_chg A3.out C4 (fun k hk => by simpa using ownsRow_apart A3.out V3.out (by decide) k hk))
          have V4 := Lib.hid own4
          have K4 := Lib.hid (K3.out.trans C4 (fun i hi => .inl (by simp at hi; simp [hi])))
          have T4 := Lib.hid at4
          have p0 : c4.cell? ⟨p, 0, none⟩ = some (.slice oa n cA) := hsn.1
          have p1 : c4.cell? ⟨p, 1, none⟩ = some vV := hsn.2.1
          have hrow : Row c4 p [.slice oa n cA, vV, vE] 47 := H1.out.chg K4.out (by simpa using ⟨HnpA.out, HnpV.out⟩)
          have f0 := hrow.free 0
          have f1 := hrow.free 1
          clear own4 gro4 at4 lt4 hsn C4 hrow
          try simp only [Act.put, List.setIfInBounds_toArray, List.set_cons_zero, List.set_cons_succ]
          refine wpAnyU_rest _ _ _ _ (fun j hj => ?_) ?_
          · simp at hj; rcases hj with rfl | rfl | rfl | rfl | rfl | rfl | rfl <;> rfl
          refine wpAny_take (i := 15) (v := .pointer (some ⟨p, 0, none⟩)) rfl (by kernel_rfl) (by kernel_rfl) (by kernel_rfl) (fun _ _ _ h => h) (Or.inl ⟨by rfl, fun w' => by go_simp⟩) ?_
          try simp only [Act.put, List.setIfInBounds_toArray, List.set_cons_zero, List.set_cons_succ]
          refine wpAny_take (i := 16) (v := .pointer (some ⟨p, 0, none⟩)) rfl (by kernel_rfl) (by kernel_rfl) (by kernel_rfl) (fun _ _ _ h => h) (Or.inl ⟨by rfl, fun w' => by go_simp⟩) ?_
          try simp only [Act.put, List.setIfInBounds_toArray, List.set_cons_zero, List.set_cons_succ]
          refine wpAny_all (rs := [17]) (by kernel_rfl) (by simp) (fun i hi => ?_)
          obtain rfl : i = 17 := by simpa using hi
          refine wpOpU_step rfl rfl (fun K hK => ?_)
          go_simp
          refine hK _ _ ?_
          clear hK K
          try simp only [Act.put, List.setIfInBounds_toArray, List.set_cons_zero, List.set_cons_succ]
          refine wpAny_take (i := 18) (v := .pointer (some ⟨p, 0, none⟩)) rfl (by kernel_rfl) (by kernel_rfl) (by kernel_rfl) (fun _ _ _ h => h) (Or.inl ⟨by rfl, fun w' => by go_simp⟩) ?_
          try simp only [Act.put, List.setIfInBounds_toArray, List.set_cons_zero, List.set_cons_succ]
          refine wpAny_take (i := 19) (v := .pointer (some ⟨p, 1, none⟩)) rfl (by kernel_rfl) (by kernel_rfl) (by kernel_rfl) (fun _ _ _ h => h) (Or.inl ⟨by rfl, fun w' => by go_simp⟩) ?_
          try simp only [Act.put, List.setIfInBounds_toArray, List.set_cons_zero, List.set_cons_succ]
          refine wpAny_all (rs := [20]) (by kernel_rfl) (by simp) (fun i hi => ?_)
          obtain rfl : i = 20 := by simpa using hi
          refine wpOpU_step rfl rfl (fun K hK => ?_)
          go_simp
          refine hK _ _ ?_
          clear hK K
          try simp only [Act.put, List.setIfInBounds_toArray, List.set_cons_zero, List.set_cons_succ]
          refine wpAny_done (by kernel_rfl) ?_ _
          go_wp2
          go_ret
          exact ⟨ret_int (by rw [← Hnl.out]), place_done Hnl.out H1.out H2.out H3.out H5.out Hfp.out K4.out A4.out V4.out (T2.out.imp id (fun h => by rw [h]; exact z1)) (T4.out.imp id (fun h => by rw [h]; exact z3))⟩
        · refine wpOpU_step rfl rfl (fun K hK => ?_)
          go_simp
          refine hK _ _ ⟨fun _ => S1.out.alloc _, ?_⟩
          clear hK K
          have A5 := Lib.hid (A1.out.alloc (.cells ([.int .u64 0] : List Value).toArray 28))
          have V5 := Lib.hid (V1.out.alloc (.cells ([.int .u64 0] : List Value).toArray 28))
          have S5 := Lib.hid (S1.out.alloc (.cells ([.int .u64 0] : List Value).toArray 28))
          have K5 := Lib.hid (K1.out.alloc (.cells ([.int .u64 0] : List Value).toArray 28))
          have R5 := Lib.hid (Row.new c1 [.int .u64 0] 28)
          have L5 := Lib.hid (R1.out.alloc (.cells ([.int .u64 0] : List Value).toArray 28))
          have z5 : w.heap.size ≤ (c1.alloc (.cells ([.int .u64 0] : List Value).toArray 28)).heap.size := by simp; omega
          generalize c1.alloc (.cells ([.int .u64 0] : List Value).toArray 28) = c5 at A5 V5 S5 K5 R5 L5 z5 ⊢
          generalize c1.heap.size = b5 at R5 ⊢
          try simp only [Act.put, List.setIfInBounds_toArray, List.set_cons_zero, List.set_cons_succ]
          refine wpAnyU_all (rs := [8]) (by kernel_rfl) (by simp) (fun i hi => ?_)
          obtain rfl : i = 8 := by simpa using hi
          refine wpOpU_step rfl rfl (fun K hK => ?_)
          refine wp_append_lies _ (.tmp 30) (.tmp 32) 45 rfl 0 23 i1 _ 3 24 Try.underlying45 hi1 hx0 hx1 hx2 rfl (by omega) (.slice oa n cA) n (keys kv) rfl A5.out ⟨b1, 0, none⟩ 1 1 [.int .i64 l.k, .int .i64 l.a, .int .i64 l.b] rfl rfl (row_news L5.out) (by simp [Value.oneCell']) (by omega) (by unfold maxLen; omega) (by omega) (by omega) _ rfl ?_
          intro gA capA c6 own6 gro6 at6 lt6
          have C6 := grown_chg gro6
          have hsn := S5.out.chg C6 (by simpa using HnpA.out) HbA.out
          refine hK _ _ ⟨fun _ => hsn, ?_⟩
          clear hK K
          have A6 := Lib.hid own6
          have V6 := Lib.hid (ownsRow_chg V5.out C6 (fun k hk => by simpa using ownsRow_apart V5.out A5.out (by decide) k hk))
          have S6 := Lib.hid hsn
          have K6 := Lib.hid (K5.out.trans C6 (fun i hi => .inl (by simp at hi; simp [hi])))
          have T6 := Lib.hid at6
          have N6 := Lib.hid (R5.out.chg C6 (fun h => (ownsRow_not_row A5.out R5.out (by decide)) (by simpa using h)))
          have z6 : w.heap.size ≤ c6.heap.size := Nat.le_trans z5 C6.size
          clear own6 gro6 at6 lt6 hsn C6
          try simp only [Act.put, List.setIfInBounds_toArray, List.set_cons_zero, List.set_cons_succ]
          refine wpAnyU_all (rs := [14]) (by kernel_rfl) (by simp) (fun i hi => ?_)
          obtain rfl : i = 14 := by simpa using hi
          refine wpOpU_step rfl rfl (fun K hK => ?_)
          refine wp_append_lies _ (.tmp 37) (.tmp 38) 24 rfl 0 28 i2 _ 1 8 Try.underlying24 hi2 hy0 hy1 hy2 rfl (by omega) vV n (nums kv) rfl V6.out ⟨b5, 0, none⟩ 1 1 [.int .u64 0] rfl rfl (row_news N6.out) (by simp [Value.oneCell']) (by omega) (by unfold maxLen; omega) (by omega) (by omega) _ rfl ?_
          intro gV capV c7 own7 gro7 at7 lt7
          have C7 := grown_chg gro7
          have hsn := S6.out.chg C7 (by simpa using HnpV.out) HbV.out
          refine hK _ _ ⟨fun _ => hsn, ?_⟩
          clear hK K
          have A7 := Lib.hid (ownsRow_chg A6.out C7 (fun k hk => by simpa using ownsRow_apart A6.out V6.out (by decide) k hk))
          have V7 := Lib.hid own7
          have K7 := Lib.hid (K6.out.trans C7 (fun i hi => .inl (by simp at hi; simp [hi])))
          have T7 := Lib.hid at7
          have p0 : c7.cell? ⟨p, 0, none⟩ = some (.slice oa n cA) := hsn.1
          have p1 : c7.cell? ⟨p, 1, none⟩ = some vV := hsn.2.1
          have hrow : Row c7 p [.slice oa n cA, vV, vE] 47 := H1.out.chg K7.out (by simpa using ⟨HnpA.out, HnpV.out⟩)
          have f0 := hrow.free 0
          have f1 := hrow.free 1
          clear own7 gro7 at7 lt7 hsn C7 hrow
          try simp only [Act.put, List.setIfInBounds_toArray, List.set_cons_zero, List.set_cons_succ]
          refine wpAnyU_rest _ _ _ _ (fun j hj => ?_) ?_
          · simp at hj; rcases hj with rfl | rfl | rfl | rfl | rfl | rfl | rfl <;> rfl
          refine wpAny_take (i := 15) (v := .pointer (some ⟨p, 0, none⟩)) rfl (by kernel_rfl) (by kernel_rfl) (by kernel_rfl) (fun _ _ _ h => h) (Or.inl ⟨by rfl, fun w' => by go_simp⟩) ?_
          try simp only [Act.put, List.setIfInBounds_toArray, List.set_cons_zero, List.set_cons_succ]
          refine wpAny_take (i := 16) (v := .pointer (some ⟨p, 0, none⟩)) rfl (by kernel_rfl) (by kernel_rfl) (by kernel_rfl) (fun _ _ _ h => h) (Or.inl ⟨by rfl, fun w' => by go_simp⟩) ?_
          try simp only [Act.put, List.setIfInBounds_toArray, List.set_cons_zero, List.set_cons_succ]
          refine wpAny_all (rs := [17]) (by kernel_rfl) (by simp) (fun i hi => ?_)
          obtain rfl : i = 17 := by simpa using hi
          refine wpOpU_step rfl rfl (fun K hK => ?_)
          go_simp
          refine hK _ _ ?_
          clear hK K
          try simp only [Act.put, List.setIfInBounds_toArray, List.set_cons_zero, List.set_cons_succ]
          refine wpAny_take (i := 18) (v := .pointer (some ⟨p, 0, none⟩)) rfl (by kernel_rfl) (by kernel_rfl) (by kernel_rfl) (fun _ _ _ h => h) (Or.inl ⟨by rfl, fun w' => by go_simp⟩) ?_
          try simp only [Act.put, List.setIfInBounds_toArray, List.set_cons_zero, List.set_cons_succ]
          refine wpAny_take (i := 19) (v := .pointer (some ⟨p, 1, none⟩)) rfl (by kernel_rfl) (by kernel_rfl) (by kernel_rfl) (fun _ _ _ h => h) (Or.inl ⟨by rfl, fun w' => by go_simp⟩) ?_
          try simp only [Act.put, List.setIfInBounds_toArray, List.set_cons_zero, List.set_cons_succ]
          refine wpAny_all (rs := [20]) (by kernel_rfl) (by simp) (fun i hi => ?_)
          obtain rfl : i = 20 := by simpa using hi
          refine wpOpU_step rfl rfl (fun K hK => ?_)
          go_simp
          refine hK _ _ ?_
          clear hK K
          try simp only [Act.put, List.setIfInBounds_toArray, List.set_cons_zero, List.set_cons_succ]
          refine wpAny_done (by kernel_rfl) ?_ _
          go_wp2
          go_ret
          exact ⟨ret_int (by rw [← Hnl.out]), place_done Hnl.out H1.out H2.out H3.out H5.out Hfp.out K7.out A7.out V7.out (T6.out.imp id (fun h => by rw [h]; exact z5)) (T7.out.imp id (fun h => by rw [h]; exact z6))⟩
      · refine wpOpU_step rfl rfl (fun K hK => ?_)
        go_simp
        refine hK _ _ ⟨fun _ => S0.out.alloc _, ?_⟩
        clear hK K
        have A8 := Lib.hid (A0.out.alloc (.cells ([.int .u64 0] : List Value).toArray 28))
        have V8 := Lib.hid (V0.out.alloc (.cells ([.int .u64 0] : List Value).toArray 28))
        have S8 := Lib.hid (S0.out.alloc (.cells ([.int .u64 0] : List Value).toArray 28))
        have K8 := Lib.hid (K0.out.alloc (.cells ([.int .u64 0] : List Value).toArray 28))
        have R8 := Lib.hid (Row.new c0 [.int .u64 0] 28)
        have z8 : w.heap.size ≤ (c0.alloc (.cells ([.int .u64 0] : List Value).toArray 28)).heap.size := by simp; omega
        generalize c0.alloc (.cells ([.int .u64 0] : List Value).toArray 28) = c8 at A8 V8 S8 K8 R8 z8 ⊢
        generalize c0.heap.size = b8 at R8 ⊢
        try simp only [Act.put, List.setIfInBounds_toArray, List.set_cons_zero, List.set_cons_succ]
        refine wpAnyU_all (rs := [7]) (by kernel_rfl) (by simp) (fun i hi => ?_)
        obtain rfl : i = 7 := by simpa using hi
        refine wpOpU_step rfl rfl (fun K hK => ?_)
        go_simp
        refine hK _ _ ⟨fun _ => S8.out.alloc _, ?_⟩
        clear hK K
        have A9 := Lib.hid (A8.out.alloc (.cells ([.int .i64 l.k, .int .i64 l.a, .int .i64 l.b] : List Value).toArray 23))
        have V9 := Lib.hid (V8.out.alloc (.cells ([.int .i64 l.k, .int .i64 l.a, .int .i64 l.b] : List Value).toArray 23))
        have S9 := Lib.hid (S8.out.alloc (.cells ([.int .i64 l.k, .int .i64 l.a, .int .i64 l.b] : List Value).toArray 23))
        have K9 := Lib.hid (K8.out.alloc (.cells ([.int .i64 l.k, .int .i64 l.a, .int .i64 l.b] : List Value).toArray 23))
        have R9 := Lib.hid (Row.new c8 [.int .i64 l.k, .int .i64 l.a, .int .i64 l.b] 23)
        have N9 := Lib.hid (R8.out.alloc (.cells ([.int .i64 l.k, .int .i64 l.a, .int .i64 l.b] : List Value).toArray 23))
        have z9 : w.heap.size ≤ (c8.alloc (.cells ([.int .i64 l.k, .int .i64 l.a, .int .i64 l.b] : List Value).toArray 23)).heap.size := by simp; omega
        generalize c8.alloc (.cells ([.int .i64 l.k, .int .i64 l.a, .int .i64 l.b] : List Value).toArray 23) = c9 at A9 V9 S9 K9 R9 N9 z9 ⊢
        generalize c8.heap.size = b9 at R9 ⊢
        try simp only [Act.put, List.setIfInBounds_toArray, List.set_cons_zero, List.set_cons_succ]
        refine wpAnyU_all (rs := [8]) (by kernel_rfl) (by simp) (fun i hi => ?_)
        obtain rfl : i = 8 := by simpa using hi
        refine wpOpU_step rfl rfl (fun K hK => ?_)
        refine wp_append_lies _ (.tmp 30) (.tmp 32) 45 rfl 0 23 i1 _ 3 24 Try.underlying45 hi1 hx0 hx1 hx2 rfl (by omega) (.slice oa n cA) n (keys kv) rfl A9.out ⟨b9, 0, none⟩ 1 1 [.int .i64 l.k, .int .i64 l.a, .int .i64 l.b] rfl rfl (row_news R9.out) (by simp [Value.oneCell']) (by omega) (by unfold maxLen; omega) (by omega) (by omega) _ rfl ?_
        intro gA capA c10 own10 gro10 at10 lt10
        have C10 := grown_chg gro10
        have hsn := S9.out.chg C10 (by simpa using HnpA.out) HbA.out
        refine hK _ _ ⟨fun _ => hsn, ?_⟩
        clear hK K
        have A10 := Lib.hid own10
        have V10 := Lib.hid (ownsRow_chg V9.out C10 (fun k hk => by simpa using ownsRow_apart V9.out A9.out (by decide) k hk))
        have S10 := Lib.hid hsn
        have K10 := Lib.hid (K9.out.trans C10 (fun i hi => .inl (by simp at hi; simp [hi])))
        have T10 := Lib.hid at10
        have N10 := Lib.hid (N9.out.chg C10 (fun h => (ownsRow_not_row A9.out N9.out (by decide)) (by simpa using h)))
        have z10 : w.heap.size ≤ c10.heap.size := Nat.le_trans z9 C10.size
        clear own10 gro10 at10 lt10 hsn C10
        try simp only [Act.put, List.setIfInBounds_toArray, List.set_cons_zero, List.set_cons_succ]
        refine wpAnyU_all (rs := [14]) (by kernel_rfl) (by simp) (fun i hi => ?_)
        obtain rfl : i = 14 := by simpa using hi
        refine wpOpU_step rfl rfl (fun K hK => ?_)
        refine wp_append_lies _ (.tmp 37) (.tmp 38) 24 rfl 0 28 i2 _ 1 8 Try.underlying24 hi2 hy0 hy1 hy2 rfl (by omega) vV n (nums kv) rfl V10.out ⟨b8, 0, none⟩ 1 1 [.int .u64 0] rfl rfl (row_news N10.out) (by simp [Value.oneCell']) (by omega) (by unfold maxLen; omega) (by omega) (by omega) _ rfl ?_
        intro gV capV c11 own11 gro11 at11 lt11
        have C11 := grown_chg gro11
        have hsn := S10.out.chg C11 (by simpa using HnpV.out) HbV.out
        refine hK _ _ ⟨fun _ => hsn, ?_⟩
        clear hK K
        have A11 := Lib.hid (ownsRow_chg A10.out C11 (fun k hk => by simpa using ownsRow_apart A10.out V10.out (by decide) k hk))
        have V11 := Lib.hid own11
        have K11 := Lib.hid (K10.out.trans C11 (fun i hi => .inl (by simp at hi; simp [hi])))
        have T11 := Lib.hid at11
        have p0 : c11.cell? ⟨p, 0, none⟩ = some (.slice oa n cA) := hsn.1
        have p1 : c11.cell? ⟨p, 1, none⟩ = some vV := hsn.2.1
        have hrow : Row c11 p [.slice oa n cA, vV, vE] 47 := H1.out.chg K11.out (by simpa using ⟨HnpA.out, HnpV.out⟩)
        have f0 := hrow.free 0
        have f1 := hrow.free 1
        clear own11 gro11 at11 lt11 hsn C11 hrow
        try simp only [Act.put, List.setIfInBounds_toArray, List.set_cons_zero, List.set_cons_succ]
        refine wpAnyU_rest _ _ _ _ (fun j hj => ?_) ?_
        · simp at hj; rcases hj with rfl | rfl | rfl | rfl | rfl | rfl | rfl <;> rfl
        refine wpAny_take (i := 15) (v := .pointer (some ⟨p, 0, none⟩)) rfl (by kernel_rfl) (by kernel_rfl) (by kernel_rfl) (fun _ _ _ h => h) (Or.inl ⟨by rfl, fun w' => by go_simp⟩) ?_
        try simp only [Act.put, List.setIfInBounds_toArray, List.set_cons_zero, List.set_cons_succ]
        refine wpAny_take (i := 16) (v := .pointer (some ⟨p, 0, none⟩)) rfl (by kernel_rfl) (by kernel_rfl) (by kernel_rfl) (fun _ _ _ h => h) (Or.inl ⟨by rfl, fun w' => by go_simp⟩) ?_
        try simp only [Act.put, List.setIfInBounds_toArray, List.set_cons_zero, List.set_cons_succ]
        refine wpAny_all (rs := [17]) (by kernel_rfl) (by simp) (fun i hi => ?_)
        obtain rfl : i = 17 := by simpa using hi
        refine wpOpU_step rfl rfl (fun K hK => ?_)
        go_simp
        refine hK _ _ ?_
        clear hK K
        try simp only [Act.put, List.setIfInBounds_toArray, List.set_cons_zero, List.set_cons_succ]
        refine wpAny_take (i := 18) (v := .pointer (some ⟨p, 0, none⟩)) rfl (by kernel_rfl) (by kernel_rfl) (by kernel_rfl) (fun _ _ _ h => h) (Or.inl ⟨by rfl, fun w' => by go_simp⟩) ?_
        try simp only [Act.put, List.setIfInBounds_toArray, List.set_cons_zero, List.set_cons_succ]
        refine wpAny_take (i := 19) (v := .pointer (some ⟨p, 1, none⟩)) rfl (by kernel_rfl) (by kernel_rfl) (by kernel_rfl) (fun _ _ _ h => h) (Or.inl ⟨by rfl, fun w' => by go_simp⟩) ?_
        try simp only [Act.put, List.setIfInBounds_toArray, List.set_cons_zero, List.set_cons_succ]
        refine wpAny_all (rs := [20]) (by kernel_rfl) (by simp) (fun i hi => ?_)
        obtain rfl : i = 20 := by simpa using hi
        refine wpOpU_step rfl rfl (fun K hK => ?_)
        go_simp
        refine hK _ _ ?_
        clear hK K
        try simp only [Act.put, List.setIfInBounds_toArray, List.set_cons_zero, List.set_cons_succ]
        refine wpAny_done (by kernel_rfl) ?_ _
        go_wp2
        go_ret
        exact ⟨ret_int (by rw [← Hnl.out]), place_done Hnl.out H1.out H2.out H3.out H5.out Hfp.out K11.out A11.out V11.out (T10.out.imp id (fun h => by rw [h]; exact z9)) (T11.out.imp id (fun h => by rw [h]; exact z10))⟩
end Go.Proofs.Ytcbipbnomgdklaa
