/- Tick and Join of package weighbridgeref12. -/
import Derived.Test.YtjipjhmcpjffcacOrdB
set_option linter.unusedSimpArgs false
set_option linter.unusedVariables false
set_option maxRecDepth 20000
namespace Go.Proofs.Ytjipjhmcpjffcac
open Go Go.RowKit Go.Maps

/-- A clock: not too long, of small numbers. -/
def clk (L : List Int) (B : Nat) : Prop := L.length ≤ 64 ∧ ∀ n, n ∈ L → 0 ≤ n ∧ n ≤ (B : Int)
theorem clk.get {L : List Int} {B : Nat} (h : clk L B) (t : Nat) : 0 ≤ L.getD t 0 ∧ L.getD t 0 ≤ (B : Int) := by
  unfold List.getD
  cases hx : L[t]? with
  | none => simp
  | some n => simpa using h.2 n (List.mem_of_getElem? hx)
theorem clk.mono {L : List Int} {B B' : Nat} (h : clk L B) (hb : B ≤ B') : clk L B' := ⟨h.1, fun n hn => ⟨(h.2 n hn).1, by have := (h.2 n hn).2; omega⟩⟩
def NewInts (w : World) (P : List Int → Prop) (e : Ending) (w' : World) : Prop := ∃ v L, e = .returned v ∧ w'.ownsRow 0 3 1 v L.length (ints L) ∧ Chg [] w w' ∧ (∀ k, v.ownBlock = some k → w.heap.size ≤ k) ∧ P L
def slLen : Value → Nat
  | .slice _ n _ => n
  | _ => 0
theorem wp_max2 {P : Program} {w : World} {o : Oper} {act : Act} {K : Act → World → Prop} {Q : Exit → Act → World → Prop} (x y : Operand) (ts : Array TypeId)
    (hop : o.op = .call { callee := .builtin .max, args := #[x, y], argTypes := ts }) (a b m : Int) (hx : act.eval x = .int .i64 a) (hy : act.eval y = .int .i64 b)
    (hm : max a b = m) (hK : K (act.put o.dst (.int .i64 m)) w) : o.wp P act w K Q := by
  have hr : (Builtin.max_ ts o.type #[.int .i64 a, .int .i64 b]).run P w = .ok (.int .i64 m) w := by
    rw [← hm]
    simp [Builtin.max_, Builtin.max2, List.foldlM, go_sem]
    split <;> omega
  unfold Oper.wp execOp
  simp only [hop, resolve, invoke, builtin, Sem.run_bind, Sem.run_pure, Result.andThen_ok, List.map_toArray, List.map_cons, List.map_nil, hx, hy, hr]
  exact hK
/-- 'append(nil, s...)' of numbers: a copy. -/
theorem wpList_copy_ints {w : World} {ops : Array Oper} {rest : List Oper} {o : Oper} {a : Act} {Q : Exit → Act → World → Prop} (hg : o.guard = none) (s x : Operand)
    (hop : o.op = .call { callee := .builtin .append, args := #[s, x], argTypes := #[52, 52] }) (v : Value) (L : List Int) (hs : a.eval s = .slice none 0 0) (hx : a.eval x = v) (h : NS w v L) (hL : L.length ≤ 64)
    (hK : ∀ v' w', w'.ownsRow 0 3 1 v' L.length (ints L) → Chg [] w w' → (∀ k, v'.ownBlock = some k → w.heap.size ≤ k) → wpList Try.prog ops Q rest (a.put o.dst v') w') : wpList Try.prog ops Q (o :: rest) a w := by
  obtain ⟨i0, hi, hz0, hz1, hz2⟩ := info_parts infoInt
  have o0 : w.ownsRow 0 3 1 (.slice none 0 0) 0 [] := ⟨rfl, .inl ⟨rfl, rfl⟩⟩
  rcases h with ⟨rfl, rfl⟩ | ⟨g, cap, rfl, hc⟩
  · refine wpList_plain hg fun K hK' => ?_
    have hrun := run_append_owned_none (P := Try.prog) w 0 52 o.type 3 i0 1 Try.underlying52 hi _ 0 [] o0
    unfold Oper.wp
    simp [execOp, hop, resolve, invoke, builtin, hs, hx, hrun, Result.andThen]
    exact hK' _ _ (hK _ w o0 (Chg.refl _ _) (fun k hk => by simp [Value.ownBlock] at hk))
  · refine wpList_append_own_at w hg s x 52 hop 0 3 i0 _ 1 8 Try.underlying52 hi hz0 hz1 hz2 rfl (by decide) (.slice none 0 0) 0 [] hs o0 ⟨g, 0, none⟩ L.length cap (ints L) hx (by rw [ints_length]; omega) (fun j u hu => ?_) (ints_one L) (by unfold maxLen; omega) (by omega) (by omega) ?_
    · rw [add0]
      unfold ints at hu
      rw [List.getElem?_map, Option.map_eq_some_iff] at hu
      obtain ⟨n, hn, rfl⟩ := hu
      exact hc j n hn
    · intro v' w1 ho hgrow hnil hat
      refine hK v' w1 (by simpa using ho) ((Chg.refl [] w).grown hgrow (fun k hk => by simp [Value.ownBlock] at hk)) (fun k hk => ?_)
      rcases hat with h | h
      · rw [h] at hk; simp [Value.ownBlock] at hk
      · rw [h] at hk; simp at hk; omega
theorem ints_snoc (L : List Int) (n : Int) : ints (L ++ [n]) = ints L ++ [.int .i64 n] := by simp [ints]
theorem ints_set (L : List Int) (i : Nat) (n : Int) : ints (L.set i n) = (ints L).set i (.int .i64 n) := by simp [ints, List.map_set]
theorem getD_snoc (L : List Int) (n : Int) (t : Nat) : (L ++ [n]).getD t 0 = if t < L.length then L.getD t 0 else if t = L.length then n else 0 := by
  unfold List.getD
  by_cases h : t < L.length
  · rw [if_pos h, List.getElem?_append_left h]
  · rw [if_neg h, List.getElem?_append_right (by omega)]
    by_cases e : t = L.length
    · subst e; simp
    · rw [if_neg e, List.getElem?_eq_none (by simp; omega)]; rfl
theorem getD_ge (L : List Int) (t : Nat) (h : L.length ≤ t) : L.getD t 0 = 0 := by simp [List.getD, List.getElem?_eq_none h]

set_option maxHeartbeats 2000000 in
theorem tick_any {w : World} {v : Value} {L : List Int} {B : Nat} (h : NS w v L) (i : Nat) (hi : i ≤ 63) (hb : clk L B) (hB : B ≤ 100000) : Calls Try.prog 75 #[v, .int .i64 i] w (NewInts w fun L' => clk L' (B + 1) ∧ le' L L') := by
  obtain ⟨i1, hi1, hx0, hx1, hx2⟩ := info_parts infoInt
  have H := Lib.hid h; have Hb := Lib.hid hb
  clear h hb
  have j0 : (0 : Int) ≤ (i : Int) := by omega
  have j1 : (i : Int) ≤ 63 := by omega
  go_enter Try.func75, Try.ntmps75
  go_wp2_with (at_builtin; refine wpList_copy_ints rfl _ _ rfl _ L rfl rfl H.out Hb.out.1 ?_; intro v1 w1 o1 c1 n1; have O1 := Lib.hid o1; have C1 := Lib.hid c1; have N1 := Lib.hid n1; clear o1 c1 n1)
  go_loopw [5] (fun o wr => ∃ L1 : List Int, wr.ownsRow 0 3 1 o L1.length (ints L1) ∧ Chg [] w wr ∧ (∀ k, o.ownBlock = some k → w.heap.size ≤ k) ∧ clk L1 B ∧ le' L L1) (fun o _ => 64 - slLen o)
  case atStart => exact ⟨L, O1.out, C1.out, N1.out, Hb.out, le'.refl _⟩
  case round =>
    obtain ⟨L1, ho, hc, hn, hk, hle⟩ := hrel
    obtain ⟨oa, cp, ev, hcp, hget⟩ := own_formS ho
    obtain ⟨n, hnl⟩ : ∃ n, n = L1.length := ⟨_, rfl⟩
    rw [← hnl] at ev ho
    have O2 := Lib.hid ho; have C2 := Lib.hid hc; have N2 := Lib.hid hn; have K2 := Lib.hid hk; have E2 := Lib.hid hle; have L2 := Lib.hid hnl; have G2 := Lib.hid hget
    have n64 : n ≤ 64 := by have := hk.1; omega
    clear ho hc hn hk hle O1 C1 N1 hnl hget
    subst ev
    by_cases hlt : n ≤ i
    · have k1 : (n : Int) ≤ (i : Int) := by omega
      have hal := O2.out.alloc (.cells #[.int .i64 0] 3)
      have Hal := Lib.hid hal
      clear hal
      go_wp2_with (at_builtin; refine wpList_append_own_at _ rfl _ _ 52 rfl 0 3 i1 _ 1 8 Try.underlying52 hi1 hx0 hx1 hx2 rfl (by decide) (.slice oa n cp) n (ints L1) rfl Hal.out ⟨wr.heap.size, 0, none⟩ 1 1 [.int .i64 0] rfl rfl (row_news (Row.new wr [.int .i64 0] 3)) (by simp [Value.oneCell']) (by unfold maxLen; omega) (by omega) (by omega) ?_; intro v3 w3 o3 g3 nil3 a3; have O3 := Lib.hid o3; have G3 := Lib.hid g3; have A3 := Lib.hid a3; obtain ⟨ob, cq, e3, _, _⟩ := own_formS o3; clear o3 g3 nil3 a3 Hal; subst e3)
      go_roundw
      case rel =>
        have hne : ∀ k, (Value.slice oa n cp).ownBlock = some k → w.heap.size ≤ k := N2.out
        refine ⟨L1 ++ [0], ?_, ?_, ?_, ⟨by rw [List.length_append, ← L2.out]; simp; omega, fun x hx => ?_⟩, fun t => ?_⟩
        · rw [ints_snoc, List.length_append, ← L2.out]
          exact O3.out
        · exact (C2.out.alloc _).grown G3.out (fun k hk => .inr (hne k hk))
        · intro k hk
          rcases A3.out with h | h
          · rw [h] at hk; exact hne k hk
          · rw [h] at hk
            simp at hk
            have := C2.out.size
            omega
        · rcases List.mem_append.1 hx with hx | hx
          · exact K2.out.2 x hx
          · simp at hx; subst hx; omega
        · rw [getD_snoc]
          have := E2.out t
          split
          · exact this
          · rename_i h
            rw [getD_ge L1 t (by omega)] at this
            split <;> omega
      case measure => simp [slLen]; omega
    · have k1 : (i : Int) < (n : Int) := by omega
      obtain ⟨x, hx⟩ : ∃ x, L1[i]? = some x := ⟨_, List.getElem?_eq_getElem (by rw [← L2.out]; omega)⟩
      obtain ⟨g, rfl, z0⟩ := G2.out i _ (ints_get hx)
      have f0 := ownsRow_free O2.out rfl i
      have hxb := K2.out.2 x (List.mem_of_getElem? hx)
      have wx : IntKind.i64.wrap (x + 1) = x + 1 := by rw [IntKind.wrap_i64]; omega
      have Hx := Lib.hid hx
      obtain ⟨xb0, xb1⟩ := hxb
      clear hx
      go_wp2
      go_ret
      refine ⟨_, L1.set i (x + 1), rfl, ?_, C2.out.setCell (.inr (N2.out g rfl)) _, fun k hk => N2.out k (by simpa [Value.ownBlock] using hk), ⟨by rw [List.length_set]; exact K2.out.1, fun y hy => ?_⟩, fun t => ?_⟩
      · rw [ints_set, List.length_set, ← L2.out]
        exact ownsRow_put O2.out rfl (by omega) _
      · rcases List.mem_or_eq_of_mem_set hy with hy | hy
        · have := K2.out.2 y hy; omega
        · subst hy; omega
      · have h1 := E2.out t
        unfold List.getD at h1 ⊢
        rw [List.getElem?_set]
        by_cases e : i = t
        · subst e
          rw [if_pos rfl, if_pos (by rw [← L2.out]; omega)]
          rw [Hx.out] at h1
          simp at h1 ⊢
          omega
        · rw [if_neg e]
          exact h1

def JoinInv (A B L : List Int) (k : Nat) (M : Nat) : Prop := L.length = k ∧ (∀ n, n ∈ L → 0 ≤ n ∧ n ≤ (M : Int)) ∧ ∀ t : Nat, t < k → A.getD t 0 ≤ L.getD t 0 ∧ B.getD t 0 ≤ L.getD t 0
theorem JoinInv.snoc {A B L : List Int} {k M : Nat} (h : JoinInv A B L k M) {z : Int} (h0 : 0 ≤ z) (h1 : z ≤ (M : Int)) (ha : A.getD k 0 ≤ z) (hb : B.getD k 0 ≤ z) : JoinInv A B (L ++ [z]) (k + 1) M := by
  obtain ⟨q1, q2, q3⟩ := h
  refine ⟨by simp [q1], fun n hn => ?_, fun t ht => ?_⟩
  · rcases List.mem_append.1 hn with hn | hn
    · exact q2 n hn
    · simp at hn; subst hn; exact ⟨h0, h1⟩
  · rw [getD_snoc, q1]
    by_cases e : t < k
    · rw [if_pos e]; exact q3 t e
    · rw [if_neg e, if_pos (by omega)]
      obtain rfl : t = k := by omega
      exact ⟨ha, hb⟩
set_option maxHeartbeats 4000000 in
theorem join_any {w : World} {va vb : Value} {A B : List Int} {M : Nat} (ha : NS w va A) (hb : NS w vb B) (hka : clk A M) (hkb : clk B M) (hM : M ≤ 100000) : Calls Try.prog 74 #[va, vb] w (NewInts w fun L' => clk L' M ∧ le' A L' ∧ le' B L') := by
  obtain ⟨i1, hi1, hx0, hx1, hx2⟩ := info_parts infoInt
  obtain ⟨oa, c, ea, ga⟩ := ha.form
  obtain ⟨ob, d, eb, gb⟩ := hb.form
  obtain ⟨n, hn⟩ : ∃ n, n = A.length := ⟨_, rfl⟩
  obtain ⟨k, hk⟩ : ∃ n, n = B.length := ⟨_, rfl⟩
  obtain ⟨m, hm⟩ : ∃ m : Nat, max (n : Int) (k : Int) = (m : Int) := ⟨max n k, by omega⟩
  have hn64 : n ≤ 64 := by rw [hn]; exact hka.1
  have hk64 : k ≤ 64 := by rw [hk]; exact hkb.1
  have hm1 : n ≤ m := by omega
  have hm2 : k ≤ m := by omega
  have hm3 : m = n ∨ m = k := by omega
  have Ga := Lib.hid ga; have Gb := Lib.hid gb; have Hm := Lib.hid hm; have HNa := Lib.hid hn; have HNb := Lib.hid hk; have KA := Lib.hid hka; have KB := Lib.hid hkb
  rw [← hn] at ea
  rw [← hk] at eb
  clear ha hb hm hn hk ga gb hka hkb
  subst ea
  subst eb
  go_enter Try.func74, Try.ntmps74
  go_wp2_with fail
  go_loopw [5, 6] (fun o i wr => ∃ (t : Nat) (L1 : List Int), t ≤ m ∧ i = .int .i64 t ∧ wr.ownsRow 0 3 1 o L1.length (ints L1) ∧ Chg [] w wr ∧ (∀ k, o.ownBlock = some k → w.heap.size ≤ k) ∧ JoinInv A B L1 t M) (fun _ i _ => m - (intOf i).toNat)
  case atStart => exact ⟨0, [], by omega, rfl, ⟨rfl, .inl ⟨rfl, rfl⟩⟩, Chg.refl _ _, fun k hk => by simp [Value.ownBlock] at hk, ⟨rfl, by simp, fun t ht => absurd ht (by omega)⟩⟩
  case round =>
    obtain ⟨t, L1, htm, rfl, ho, hc, hnw, hinv⟩ := hrel
    obtain ⟨oo, cp, ev, _, _⟩ := own_formS ho
    have hlen := hinv.1
    rw [hlen] at ev ho
    have O2 := Lib.hid ho; have C2 := Lib.hid hc; have N2 := Lib.hid hnw; have J2 := Lib.hid hinv
    clear ho hc hnw hinv hlen
    subst ev
    have t0 : (0 : Int) ≤ (t : Int) := by omega
    have hal := fun x : Int => O2.out.alloc (.cells #[.int .i64 x] 3)
    have Hal := Lib.hid hal
    clear hal
    have fin : ∀ (z : Int) (v3 : Value) (w3 : World), w3.ownsRow 0 3 1 v3 (t + 1) (ints L1 ++ [.int .i64 z]) → (wr.alloc (.cells #[.int .i64 z] 3)).grownBy w3 (Value.slice oo t cp).ownBlock → (v3.ownBlock = (Value.slice oo t cp).ownBlock ∨ v3.ownBlock = some (wr.alloc (.cells #[.int .i64 z] 3)).heap.size) → 0 ≤ z → z ≤ (M : Int) → A.getD t 0 ≤ z → B.getD t 0 ≤ z →
        w3.ownsRow 0 3 1 v3 (L1 ++ [z]).length (ints (L1 ++ [z])) ∧ Chg [] w w3 ∧ (∀ k, v3.ownBlock = some k → w.heap.size ≤ k) ∧ JoinInv A B (L1 ++ [z]) (t + 1) M := by
      intro z v3 w3 o3 g3 a3 h0 h1 h2 h3
      have j3 := J2.out.snoc h0 h1 h2 h3
      refine ⟨by rw [ints_snoc, j3.1]; exact o3, (C2.out.alloc _).grown g3 (fun k hk => .inr (N2.out k hk)), fun k hk => ?_, j3⟩
      rcases a3 with h | h
      · rw [h] at hk; exact N2.out k hk
      · rw [h] at hk
        simp at hk
        have := C2.out.size
        omega
    have Fin := Lib.hid fin
    clear fin
    by_cases hlt : t < m
    · have i1' : (t : Int) < (m : Int) := by omega
      by_cases h1 : n ≤ t
      · have k1 : (n : Int) ≤ (t : Int) := by omega
        have k2 : (t : Int) < (k : Int) := by omega
        obtain ⟨y, hy⟩ : ∃ y, B[t]? = some y := ⟨_, List.getElem?_eq_getElem (by rw [← HNb.out]; omega)⟩
        obtain ⟨g, rfl, z⟩ := Gb.out t y hy
        have z0 := z wr C2.out
        obtain ⟨y0, y1⟩ := KB.out.2 y (List.mem_of_getElem? hy)
        have ym : max y 0 = y := by omega
        have Ym := Lib.hid ym
        have HA0 := Lib.hid (getD_ge A t (by rw [← HNa.out]; exact h1)); have HB0 := Lib.hid (show B.getD t 0 = y by simp [List.getD, hy])
        clear z hy ym
        go_wp2_with (first | (refine wpList_max2 rfl _ _ _ rfl _ _ (m : Int) rfl rfl Hm.out ?_) | (refine wpList_max2 rfl _ _ _ rfl _ _ y rfl rfl Ym.out ?_) | (at_builtin; refine wpList_append_own_at _ rfl _ _ 52 rfl 0 3 i1 _ 1 8 Try.underlying52 hi1 hx0 hx1 hx2 rfl (by decide) (.slice oo t cp) t (ints L1) rfl (Hal.out y) ⟨wr.heap.size, 0, none⟩ 1 1 [.int .i64 y] rfl rfl (row_news (Row.new wr [.int .i64 y] 3)) (by simp [Value.oneCell']) (by unfold maxLen; omega) (by omega) (by omega) ?_; intro v3 w3 o3 g3 nil3 a3; have F3 := Lib.hid (Fin.out y v3 w3 o3 g3 a3); obtain ⟨ob3, cq3, e3, _, _⟩ := own_formS o3; clear o3 g3 nil3 a3; subst e3))
        go_roundw
        case rel => exact ⟨t + 1, L1 ++ [y], by omega, by go_num, (F3.out y0 y1 (by rw [HA0.out]; exact y0) (by rw [HB0.out]; exact Int.le_refl _))⟩
        case measure => simp [intOf]; omega
      · by_cases h2 : k ≤ t
        · have k1 : (t : Int) < (n : Int) := by omega
          have k2 : (k : Int) ≤ (t : Int) := by omega
          obtain ⟨y, hy⟩ : ∃ y, A[t]? = some y := ⟨_, List.getElem?_eq_getElem (by rw [← HNa.out]; omega)⟩
          obtain ⟨g, rfl, z⟩ := Ga.out t y hy
          have z0 := z wr C2.out
          obtain ⟨y0, y1⟩ := KA.out.2 y (List.mem_of_getElem? hy)
          have ym : max y 0 = y := by omega
          have Ym := Lib.hid ym
          have HB0 := Lib.hid (getD_ge B t (by rw [← HNb.out]; exact h2)); have HA0 := Lib.hid (show A.getD t 0 = y by simp [List.getD, hy])
          clear z hy ym
          go_wp2_with (first | (refine wpList_max2 rfl _ _ _ rfl _ _ (m : Int) rfl rfl Hm.out ?_) | (refine wpList_max2 rfl _ _ _ rfl _ _ y rfl rfl Ym.out ?_) | (at_builtin; refine wpList_append_own_at _ rfl _ _ 52 rfl 0 3 i1 _ 1 8 Try.underlying52 hi1 hx0 hx1 hx2 rfl (by decide) (.slice oo t cp) t (ints L1) rfl (Hal.out y) ⟨wr.heap.size, 0, none⟩ 1 1 [.int .i64 y] rfl rfl (row_news (Row.new wr [.int .i64 y] 3)) (by simp [Value.oneCell']) (by unfold maxLen; omega) (by omega) (by omega) ?_; intro v3 w3 o3 g3 nil3 a3; have F3 := Lib.hid (Fin.out y v3 w3 o3 g3 a3); obtain ⟨ob3, cq3, e3, _, _⟩ := own_formS o3; clear o3 g3 nil3 a3; subst e3))
          go_roundw
          case rel => exact ⟨t + 1, L1 ++ [y], by omega, by go_num, (F3.out y0 y1 (by rw [HA0.out]; exact Int.le_refl _) (by rw [HB0.out]; exact y0))⟩
          case measure => simp [intOf]; omega
        · have k1 : (t : Int) < (n : Int) := by omega
          have k2 : (t : Int) < (k : Int) := by omega
          obtain ⟨x, hx⟩ : ∃ y, A[t]? = some y := ⟨_, List.getElem?_eq_getElem (by rw [← HNa.out]; omega)⟩
          obtain ⟨g, rfl, zx⟩ := Ga.out t x hx
          have z0 := zx wr C2.out
          obtain ⟨x0, x1⟩ := KA.out.2 x (List.mem_of_getElem? hx)
          obtain ⟨y, hy⟩ : ∃ y, B[t]? = some y := ⟨_, List.getElem?_eq_getElem (by rw [← HNb.out]; omega)⟩
          obtain ⟨g', rfl, zy⟩ := Gb.out t y hy
          have z1 := zy wr C2.out
          obtain ⟨y0, y1⟩ := KB.out.2 y (List.mem_of_getElem? hy)
          obtain ⟨z, hz⟩ : ∃ z, max x y = z := ⟨_, rfl⟩
          have Zm := Lib.hid hz
          have zz0 : 0 ≤ z := by omega
          have zz1 : z ≤ (M : Int) := by omega
          have HA0 := Lib.hid (show A.getD t 0 ≤ z by simp [List.getD, hx]; omega); have HB0 := Lib.hid (show B.getD t 0 ≤ z by simp [List.getD, hy]; omega)
          clear zx zy hx hy hz
          go_wp2_with (refine wpList_max2 rfl _ _ _ rfl _ _ (m : Int) rfl rfl Hm.out ?_)
          refine wp_region_any (by kernel_rfl) ?_
          change wpAny _ _ _ _ _ _ _ wr.drew
          have h0 : wr.drew.cell? ⟨g, t, none⟩ = some (.int .i64 x) ∧ wr.drew.cell? ⟨g', t, none⟩ = some (.int .i64 y) := ⟨z0, z1⟩
          refine wpAny_take (i := 0) (v := ?_) rfl (by kernel_rfl) (by kernel_rfl) (by kernel_rfl) (fun _ _ _ h => h) (Or.inl ⟨by rfl, ?_⟩) ?_
          rotate_left 1
          · (intro w'; (try simp only [List.getElem_toArray, List.getElem_cons_succ, List.getElem_cons_zero]); go_simp; (try with_reducible rfl))
          try simp only [Act.put, List.getElem_toArray, List.getElem_cons_succ, List.getElem_cons_zero, List.setIfInBounds_toArray, List.set_cons_zero, List.set_cons_succ]
          refine wpAny_take (i := 1) (v := ?_) rfl (by kernel_rfl) (by kernel_rfl) (by kernel_rfl) (fun _ _ _ h => h) (Or.inl ⟨by rfl, ?_⟩) ?_
          rotate_left 1
          · (intro w'; (try simp only [List.getElem_toArray, List.getElem_cons_succ, List.getElem_cons_zero]); go_simp; (try with_reducible rfl))
          try simp only [Act.put, List.getElem_toArray, List.getElem_cons_succ, List.getElem_cons_zero, List.setIfInBounds_toArray, List.set_cons_zero, List.set_cons_succ]
          refine wpAny_take (i := 2) (v := ?_) rfl (by kernel_rfl) (by kernel_rfl) (by kernel_rfl) (fun _ _ _ h => h) (Or.inl ⟨by rfl, ?_⟩) ?_
          rotate_left 1
          · (intro w'; (try simp only [List.getElem_toArray, List.getElem_cons_succ, List.getElem_cons_zero]); go_simp; (try with_reducible rfl))
          try simp only [Act.put, List.getElem_toArray, List.getElem_cons_succ, List.getElem_cons_zero, List.setIfInBounds_toArray, List.set_cons_zero, List.set_cons_succ]
          refine wpAny_take (i := 3) (v := ?_) rfl (by kernel_rfl) (by kernel_rfl) (by kernel_rfl) (fun _ _ _ h => h) (Or.inl ⟨by rfl, ?_⟩) ?_
          rotate_left 1
          · (intro w'; (try simp only [List.getElem_toArray, List.getElem_cons_succ, List.getElem_cons_zero]); go_simp; (try with_reducible rfl))
          try simp only [Act.put, List.getElem_toArray, List.getElem_cons_succ, List.getElem_cons_zero, List.setIfInBounds_toArray, List.set_cons_zero, List.set_cons_succ]
          refine wpAny_take (i := 5) (v := ?_) rfl (by kernel_rfl) (by kernel_rfl) (by kernel_rfl) (fun _ _ _ h => h) (Or.inl ⟨by rfl, ?_⟩) ?_
          rotate_left 1
          · (intro w'; (try simp only [List.getElem_toArray, List.getElem_cons_succ, List.getElem_cons_zero]); go_simp; (try with_reducible rfl))
          try simp only [Act.put, List.getElem_toArray, List.getElem_cons_succ, List.getElem_cons_zero, List.setIfInBounds_toArray, List.set_cons_zero, List.set_cons_succ]
          refine wpAny_take (i := 6) (v := ?_) rfl (by kernel_rfl) (by kernel_rfl) (by kernel_rfl) (fun _ _ _ h => h) (Or.inl ⟨by rfl, ?_⟩) ?_
          rotate_left 1
          · (intro w'; (try simp only [List.getElem_toArray, List.getElem_cons_succ, List.getElem_cons_zero]); go_simp; (try with_reducible rfl))
          try simp only [Act.put, List.getElem_toArray, List.getElem_cons_succ, List.getElem_cons_zero, List.setIfInBounds_toArray, List.set_cons_zero, List.set_cons_succ]
          refine wpAny_take (i := 7) (v := ?_) rfl (by kernel_rfl) (by kernel_rfl) (by kernel_rfl) (fun _ _ _ h => h) (Or.inl ⟨by rfl, ?_⟩) ?_
          rotate_left 1
          · (intro w'; (try simp only [List.getElem_toArray, List.getElem_cons_succ, List.getElem_cons_zero]); go_simp; (try with_reducible rfl))
          try simp only [Act.put, List.getElem_toArray, List.getElem_cons_succ, List.getElem_cons_zero, List.setIfInBounds_toArray, List.set_cons_zero, List.set_cons_succ]
          refine wpAny_of_U (S := fun w' => w'.cell? ⟨g, t, none⟩ = some (.int .i64 x) ∧ w'.cell? ⟨g', t, none⟩ = some (.int .i64 y)) (U := [4, 8]) _ _ _ _ ?_
          refine wpAnyU_takeD [9, 10, 11, 12] (i := 4) (v := ?_) rfl (by kernel_rfl) (by kernel_rfl) (by kernel_rfl) (by kernel_rfl) (by kernel_rfl) (by kernel_rfl) (fun _ _ _ h => h) (Or.inl ⟨by rfl, ?_⟩) h0 ?_
          rotate_left 1
          · (intro w' hS; (try dsimp only at hS); (try simp only [List.getElem_toArray, List.getElem_cons_succ, List.getElem_cons_zero]); go_simp; (try with_reducible rfl))
          try simp only [Act.put, List.getElem_toArray, List.getElem_cons_succ, List.getElem_cons_zero, List.setIfInBounds_toArray, List.set_cons_zero, List.set_cons_succ]
          refine wpAnyU_takeD [9, 10, 11, 12] (i := 8) (v := ?_) rfl (by kernel_rfl) (by kernel_rfl) (by kernel_rfl) (by kernel_rfl) (by kernel_rfl) (by kernel_rfl) (fun _ _ _ h => h) (Or.inl ⟨by rfl, ?_⟩) h0 ?_
          rotate_left 1
          · (intro w' hS; (try dsimp only at hS); (try simp only [List.getElem_toArray, List.getElem_cons_succ, List.getElem_cons_zero]); go_simp; (try with_reducible rfl))
          try simp only [Act.put, List.getElem_toArray, List.getElem_cons_succ, List.getElem_cons_zero, List.setIfInBounds_toArray, List.set_cons_zero, List.set_cons_succ]
          refine wpAnyU_rest _ _ _ _ (fun j hj => ?_) ?_
          · simp at hj; rcases hj with rfl | rfl <;> rfl
          clear h0
          refine wpAny_all (rs := [9]) (by kernel_rfl) (by simp) (fun i hi => ?_)
          obtain rfl : i = 9 := by simpa using hi
          refine wpOpU_step rfl rfl (fun K hK => ?_)
          refine wp_max2 _ _ _ rfl x y z rfl rfl Zm.out ?_
          refine hK _ _ ?_
          clear hK K
          try simp only [Act.put, List.getElem_toArray, List.getElem_cons_succ, List.getElem_cons_zero, List.setIfInBounds_toArray, List.set_cons_zero, List.set_cons_succ]
          refine wpAny_all (rs := [10]) (by kernel_rfl) (by simp) (fun i hi => ?_)
          obtain rfl : i = 10 := by simpa using hi
          refine wpOpU_step rfl rfl (fun K hK => ?_)
          go_simp
          refine hK _ _ ?_
          clear hK K
          try simp only [Act.put, List.getElem_toArray, List.getElem_cons_succ, List.getElem_cons_zero, List.setIfInBounds_toArray, List.set_cons_zero, List.set_cons_succ]
          refine wpAny_all (rs := [11]) (by kernel_rfl) (by simp) (fun i hi => ?_)
          obtain rfl : i = 11 := by simpa using hi
          refine wpOpU_step rfl rfl (fun K hK => ?_)
          refine wp_append_lies _ _ _ 52 rfl 0 3 i1 _ 1 8 Try.underlying52 hi1 hx0 hx1 hx2 rfl (by omega) (.slice oo t cp) t (ints L1) rfl (Hal.out z) ⟨wr.heap.size, 0, none⟩ 1 1 [.int .i64 z] rfl rfl (row_news (Row.new wr [.int .i64 z] 3)) (by simp [Value.oneCell']) (by omega) (by unfold maxLen; omega) (by omega) (by omega) _ rfl ?_
          intro g3 p3 w3 o3 gr3 a3 _
          have F3 := Lib.hid (Fin.out z _ w3 o3 ⟨gr3.os, gr3.tape, gr3.output, gr3.size, gr3.block⟩ (a3.elim (fun h => Or.inl h.symm) (fun h => Or.inr (by rw [h]; rfl))))
          clear o3 gr3 a3
          refine hK _ _ ?_
          clear hK K
          try simp only [Act.put, List.getElem_toArray, List.getElem_cons_succ, List.getElem_cons_zero, List.setIfInBounds_toArray, List.set_cons_zero, List.set_cons_succ]
          refine wpAny_all (rs := [12]) (by kernel_rfl) (by simp) (fun i hi => ?_)
          obtain rfl : i = 12 := by simpa using hi
          refine wpOpU_stepG rfl (by rfl) (fun K hK => ?_)
          go_simp
          refine hK _ _ ?_
          clear hK K
          try simp only [Act.put, List.getElem_toArray, List.getElem_cons_succ, List.getElem_cons_zero, List.setIfInBounds_toArray, List.set_cons_zero, List.set_cons_succ]
          refine wpAny_done (by kernel_rfl) ?_ _
          go_wp2
          go_roundw
          case rel => exact ⟨t + 1, L1 ++ [z], by omega, by go_num, (F3.out zz0 zz1 HA0.out HB0.out)⟩
          case measure => simp [intOf]; omega
    · have et : (m : Int) ≤ (t : Int) := by omega
      go_wp2_with (refine wpList_max2 rfl _ _ _ rfl _ _ (m : Int) rfl rfl Hm.out ?_)
      go_ret
      have hL := J2.out
      refine ⟨_, L1, rfl, by rw [hL.1]; exact O2.out, C2.out, N2.out, ⟨by rw [hL.1]; omega, hL.2.1⟩, fun u => ?_, fun u => ?_⟩
      · by_cases e : u < t
        · exact (hL.2.2 u e).1
        · rw [getD_ge A u (by rw [← HNa.out]; omega), getD_ge L1 u (by rw [hL.1]; omega)]; exact Int.le_refl _
      · by_cases e : u < t
        · exact (hL.2.2 u e).2
        · rw [getD_ge B u (by rw [← HNb.out]; omega), getD_ge L1 u (by rw [hL.1]; omega)]; exact Int.le_refl _
end Go.Proofs.Ytjipjhmcpjffcac
