/- InboxPiles: objects that are linked and pushed one behind the other are grabbed all at once, and walked through the last one first; other shards' lists stay. -/
import Derived.Test.YtjipjhmcpjffcaaInboxRaces
set_option linter.unusedSimpArgs false
set_option linter.unusedVariables false
namespace Go.Proofs.Ytjipjhmcpjffcaa
open Go Go.RowKit Go.Maps

def iv (K : List Int) : List Value := K.map fun k => .int .i64 k
theorem iv_get {K : List Int} {j : Nat} {k : Int} (h : K[j]? = some k) : (iv K)[j]? = some (.int .i64 k) := by simp [iv, h]
theorem first_in {K : List Int} {k : Int} (h : k ∈ K) : ∃ j : Nat, K[j]? = some k ∧ ∀ (i : Nat) (y : Int), i < j → K[i]? = some y → y ≠ k := by
  induction K with
  | nil => cases h
  | cons x K ih =>
    by_cases e : x = k
    · exact ⟨0, by simp [e], fun i y hi => by omega⟩
    · have : k ∈ K := (List.mem_cons.1 h).resolve_left (fun h => e h.symm)
      obtain ⟨j, h1, h2⟩ := ih this
      refine ⟨j + 1, by simpa using h1, fun i y hi hy => ?_⟩
      cases i with
      | zero => simp at hy; subst hy; exact e
      | succ i => exact h2 i y (by omega) (by simpa using hy)
set_option maxHeartbeats 1000000 in
theorem in_any {w : World} {v : Value} {K : List Int} (k : Int) (h : w.ownsRow 0 3 1 v K.length (iv K)) (hK : K.length ≤ 1000000) :
    Calls Try.prog 17 #[v, .int .i64 k] w fun e w' => e = .returned (.bool (decide (k ∈ K))) ∧ w = w' := by
  obtain ⟨oa, cp, rfl, hcp, hc⟩ := own_form h
  obtain ⟨n, hn⟩ : ∃ n, n = K.length := ⟨_, rfl⟩
  rw [← hn] at hK hcp ⊢
  have Hn := Lib.hid hn; have Hc := Lib.hid hc
  clear hn hc h
  by_cases hin : k ∈ K
  · obtain ⟨m, h1, h2⟩ := first_in hin
    have hmn : m < n := by rw [Hn.out]; exact (List.getElem?_eq_some_iff.1 h1).1
    obtain ⟨g, rfl, hg⟩ := Hc.out m _ (iv_get h1)
    have H2 := Lib.hid h2; have Hg := Lib.hid hg
    rw [decide_eq_true hin]
    clear h1 h2 hin hg
    go_enter Try.func17, Try.ntmps17
    go_wp2_with fail
    go_loop [5] (fun i => ∃ j : Nat, j ≤ m ∧ i = .int .i64 j) (fun i => n - (intOf i).toNat)
    case atStart => exact ⟨0, by omega, rfl⟩
    case round =>
      obtain ⟨j, hj, rfl⟩ := hrel
      have i1 : (j : Int) < (n : Int) := by omega
      have i0 : (0 : Int) ≤ (j : Int) := by omega
      by_cases hlt : j < m
      · obtain ⟨y, hy⟩ : ∃ y, K[j]? = some y := ⟨_, List.getElem?_eq_getElem (by rw [← Hn.out]; omega)⟩
        obtain ⟨g', hg', cy⟩ := Hc.out j _ (iv_get hy)
        simp at hg'
        subst hg'
        have ne : (y == k) = false := by simpa using H2.out j y hlt hy
        clear hy
        go_wp2
        go_round
        case rel => exact ⟨j + 1, by omega, by go_num⟩
        case measure => simp [intOf]; omega
      · obtain rfl : j = m := by omega
        have cy := Hg.out
        clear hlt
        go_wp2
        go_ret
        exact ⟨rfl, rfl⟩
  · have hno : ∀ y, y ∈ K → y ≠ k := fun y hy e => hin (e ▸ hy)
    have Hno := Lib.hid hno
    rw [decide_eq_false hin]
    clear hno hin
    go_enter Try.func17, Try.ntmps17
    go_wp2_with fail
    go_loop [5] (fun i => ∃ j : Nat, j ≤ n ∧ i = .int .i64 j) (fun i => n - (intOf i).toNat)
    case atStart => exact ⟨0, by omega, rfl⟩
    case round =>
      obtain ⟨j, hj, rfl⟩ := hrel
      by_cases hlt : j < n
      · have i1 : (j : Int) < (n : Int) := by omega
        have i0 : (0 : Int) ≤ (j : Int) := by omega
        obtain ⟨y, hy⟩ : ∃ y, K[j]? = some y := ⟨_, List.getElem?_eq_getElem (by rw [← Hn.out]; omega)⟩
        obtain ⟨g', rfl, cy⟩ := Hc.out j _ (iv_get hy)
        have ne : (y == k) = false := by simpa using Hno.out y (List.mem_of_getElem? hy)
        clear hy
        go_wp2
        go_round
        case rel => exact ⟨j + 1, by omega, by go_num⟩
        case measure => simp [intOf]; omega
      · go_wp2
        go_ret
        exact ⟨rfl, rfl⟩

/-- The word of the last one. -/
def hd (K : List Int) : Int := match K.getLast? with | none => 0 | some k => k + 1
theorem hd_snoc (K : List Int) (k : Int) : hd (K ++ [k]) = k + 1 := by simp [hd]
/-- Each one's next one is the one ahead of it; all are small. -/
def Piled (nx : Int → Int) (K : List Int) : Prop := (∀ (j : Nat) k, K[j]? = some k → nx k = hd (K.take j)) ∧ ∀ k, k ∈ K → 0 ≤ k ∧ k < 1000
theorem hd_b {K : List Int} (h : ∀ k, k ∈ K → 0 ≤ k ∧ k < 1000) : 0 ≤ hd K ∧ hd K ≤ 1000 := by
  unfold hd
  cases e : K.getLast? with
  | none => simp
  | some k =>
    have := h k (List.mem_of_getLast? e)
    simp only
    omega
theorem Piled.snoc {nx : Int → Int} {K : List Int} {k : Int} (h : Piled nx K) (hk : ¬ k ∈ K) (k0 : 0 ≤ k) (k1 : k < 1000) : Piled (nxset nx k (hd K)) (K ++ [k]) := by
  refine ⟨fun j y hy => ?_, fun y hy => ?_⟩
  · rcases Nat.lt_trichotomy j K.length with hj | hj | hj
    · rw [List.getElem?_append_left hj] at hy
      have ne : y ≠ k := fun e => hk (e ▸ List.mem_of_getElem? hy)
      unfold nxset
      rw [if_neg ne, h.1 j y hy, List.take_append_of_le_length (by omega)]
    · subst hj
      simp at hy
      subst hy
      unfold nxset
      rw [if_pos rfl]
      simp
    · rw [List.getElem?_eq_none (by simp; omega)] at hy
      cases hy
  · rcases List.mem_append.1 hy with hy | hy
    · exact h.2 y hy
    · simp at hy; subst hy; exact ⟨k0, k1⟩
theorem hd_take {K : List Int} {j : Nat} {k : Int} (h : K[j]? = some k) : hd (K.take (j + 1)) = k + 1 := by
  rw [List.take_add_one, h]
  exact hd_snoc _ _

set_option maxHeartbeats 8000000 in
set_option maxRecDepth 20000 in
theorem inboxPiles_row {w : World} (a : Int) (v : Value) (L : List Int) (c d : Int) (_ : I64 a) (_ : ∀ n, n ∈ L → I64 n) (h : NumsAt .i64 w v L) (_ : I64 c) (_ : I64 d) :
    Calls Try.prog 5 #[.int .i64 a, v, .int .i64 c, .int .i64 d] w fun e w' => e = .returned (.bool true) ∧ Below w.heap.size w w' := by
  obtain ⟨oa, cp, rfl, hlc, hcm, hel⟩ := h.form
  obtain ⟨N, hN⟩ : ∃ N, N = L.length := ⟨_, rfl⟩
  rw [← hN] at hlc ⊢
  obtain ⟨i1', hi1, hx0, hx1, hx2⟩ := info_parts infoInt
  have Hel := Lib.hid hel; have HN := Lib.hid hN; have S0 := Lib.hid (Scope.empty w)
  clear hel hN h
  go_enter Try.func5, Try.ntmps5
  go_wp2_with fail
  refine (made18_scope S0.out a).mono ?_
  rintro e w1 ⟨m, p, b, q, x, rfl, s1⟩
  have S1 := Lib.hid s1
  clear s1
  generalize cl a = sh at S1 ⊢
  go_wp2_with fail
  refine (awake18_scope S1.out).mono ?_
  rintro e w2 ⟨rfl, s2⟩
  have S2 := Lib.hid s2
  clear s2 S1
  have a0 := (mod_lt c (n := 4) (by omega)).1; have a1 := (mod_lt c (n := 4) (by omega)).2
  have b0 := (mod_lt d (n := 3) (by omega)).1; have b1 := (mod_lt d (n := 3) (by omega)).2
  go_wp2_with fail
  refine (mod_any (v := c) (n := 4) (by omega) (by omega) _).mono ?_
  rintro e w3 ⟨rfl, rfl⟩
  go_wp2_with fail
  refine (mod_any (v := d) (n := 3) (by omega) (by omega) _).mono ?_
  rintro e w4 ⟨rfl, rfl⟩
  generalize mod c 4 = s at a0 a1 ⊢
  generalize mod d 3 = r at b0 b1 ⊢
  have hso : (s + 1 + r) % 4 ≠ s := by omega
  have o0 : 0 ≤ (s + 1 + r) % 4 := by omega
  have o1 : (s + 1 + r) % 4 < 4 := by omega
  have ps : 0 ≤ s + 1 + r := by omega
  go_wp2_with fail
  generalize (s + 1 + r) % 4 = o at hso o0 o1 ⊢
  have Hs := Lib.hid (show I64 s by unfold I64; omega); have Ho := Lib.hid (show I64 o by unfold I64; omega); have Hso := Lib.hid hso
  clear hso b0 b1 ps
  refine ((ipush_does 9 o 0 77 Ho.out (by decide)).at0 S2.out).mono ?_
  rintro e w5 ⟨he, s5⟩
  rw [decide_eq_true (show MS.zero.num (inbL o) = 0 from rfl)] at he
  subst he
  rw [sw_yes (show MS.zero.num (inbL o) = 0 from rfl), show objW 77 = 78 from by decide] at s5
  have n5 : ((MS.zero.put 9 3 (inbL o)).set (inbL o) 78).num (inbL o) = 78 := by simp [MS.set]
  have m5 : ((MS.zero.put 9 3 (inbL o)).set (inbL o) 78).num (inbL s) = 0 := by
    have ne : inbL s ≠ inbL o := fun h => Hso.out (congrArg Lc.a h).symm
    simp only [MS.set, if_neg ne]
    rfl
  have l5 : ((MS.zero.put 9 3 (inbL o)).set (inbL o) 78).log.length = 1 := by simp [MS.put, MS.set, MS.zero]
  generalize (MS.zero.put 9 3 (inbL o)).set (inbL o) 78 = σ5 at s5 n5 m5 l5
  have q5 := s5.joinL (Bs := [ownA (.slice none 0 0) 3 1 0 (iv [])]) (stars_nil ⟨⟨rfl, .inl ⟨rfl, rfl⟩⟩, rfl⟩ rfl) (Chg.refl _ _) (by simp)
  have S5 := Lib.hid q5; have N5 := Lib.hid n5; have M5 := Lib.hid m5; have L5 := Lib.hid l5
  clear s5 q5 S2 n5 m5 l5
  go_wp2_with fail
  go_loopw [14, 15] (fun in' i wr => ∃ (k : Nat) (σ : MS) (nx : Int → Int) (K : List Int), k ≤ N ∧ k ≤ 40 ∧ i = .int .i64 k ∧ K.length ≤ k ∧ σ.log.length ≤ 4 * k + 1 ∧ σ.num (inbL o) = 78 ∧ σ.num (inbL s) = hd K ∧ Piled nx K ∧ Scope [] w wr [ownA in' 3 1 K.length (iv K), inA p m b sh σ nx, rinA q x 0 0 sh MS.zero (fun _ => 0)]) (fun _ i _ => N - (intOf i).toNat)
  case atStart => exact ⟨0, σ5, fun _ => 0, [], by omega, by omega, rfl, by simp, by rw [L5.out]; omega, N5.out, M5.out, ⟨fun j k h => by simp at h, fun k h => by cases h⟩, S5.out⟩
  case round =>
    obtain ⟨k, σ, nx, K, hk, hk2, rfl, hKl, hlg, hno, hns, hpl, hs⟩ := hrel
    have Sr := Lib.hid hs; have No := Lib.hid hno; have Ns := Lib.hid hns; have Pl := Lib.hid hpl
    clear hs S5 N5 M5 L5 hno hns hpl
    by_cases hlt : k < N ∧ k < 40
    · obtain ⟨hlt, h40⟩ := hlt
      obtain ⟨z, hz⟩ : ∃ z, L[k]? = some z := ⟨_, List.getElem?_eq_getElem (by rw [← HN.out]; exact hlt)⟩
      obtain ⟨g, off, rfl, hc⟩ := Hel.out k z hz
      have d0 := hc wr Sr.out.1
      clear hc hz
      have j1 : (k : Int) < (N : Int) := by omega
      have j0 : (0 : Int) ≤ (k : Int) := by omega
      have z0 := (mod_lt z (n := 1000) (by omega)).1; have z1 := (mod_lt z (n := 1000) (by omega)).2
      go_wp2_with fail
      refine (mod_any (v := z) (n := 1000) (by omega) (by omega) _).mono ?_
      rintro e w6 ⟨rfl, rfl⟩
      generalize mod z 1000 = y at z0 z1 ⊢
      go_wp2_with fail
      refine (in_any y (Sr.out.owned 0 rfl) (by omega)).mono ?_
      rintro e w7 ⟨he, rfl⟩
      by_cases hin : y ∈ K
      · rw [decide_eq_true hin] at he
        subst he
        clear hin d0
        go_wp2
        go_roundw
        case rel => exact ⟨k + 1, σ, nx, K, by omega, by omega, by go_num, by omega, by omega, No.out, Ns.out, Pl.out, Sr.out⟩
        case measure => simp [intOf]; omega
      · rw [decide_eq_false hin] at he
        subst he
        have Hin := Lib.hid hin; have Hy := Lib.hid (show I64 y by unfold I64; omega)
        obtain ⟨T, hT⟩ : ∃ T, T = hd K := ⟨_, rfl⟩
        have tb := hd_b Pl.out.2
        rw [← hT] at tb
        have t0 := tb.1; have t1 := tb.2
        have HT := Lib.hid hT
        have NsT := Lib.hid (show σ.num (inbL s) = T by rw [Ns.out, hT])
        clear hin tb hT d0
        go_wp2_with fail
        refine ((itop_does k s Hs.out (by omega)).at1 Sr.out).mono ?_
        rintro e w8 ⟨he, s8⟩
        rw [NsT.out] at he
        subst he
        have S8 := Lib.hid s8
        clear s8
        go_wp2_with fail
        refine ((ilink_does k y T Hy.out (by simp [MS.put]; omega)).at1 S8.out).mono ?_
        rintro e w9 ⟨rfl, s9⟩
        have S9 := Lib.hid s9
        clear s9 S8
        go_wp2_with fail
        refine ((ipush_does k s (T + 1) y Hs.out (by simp [MS.put]; omega)).at1 S9.out).mono ?_
        rintro e w10 ⟨he, s10⟩
        have e10 : ¬ ((σ.put k 1 (inbL s)).put k 6 (nxtL y)).num (inbL s) = T + 1 := by rw [show ((σ.put k 1 (inbL s)).put k 6 (nxtL y)).num (inbL s) = T from NsT.out]; omega
        rw [decide_eq_false e10] at he
        subst he
        rw [sw_no e10] at s10
        have S10 := Lib.hid s10
        clear s10 S9 e10
        go_wp2_with fail
        refine ((ipush_does k s T y Hs.out (by simp [MS.put]; omega)).at1 S10.out).mono ?_
        rintro e w11 ⟨he, s11⟩
        have e11 : (((σ.put k 1 (inbL s)).put k 6 (nxtL y)).put k 4 (inbL s)).num (inbL s) = T := NsT.out
        rw [decide_eq_true e11] at he
        subst he
        rw [sw_yes e11, objW_small z0 (by omega)] at s11
        have lg : ((((((σ.put k 1 (inbL s)).put k 6 (nxtL y)).put k 4 (inbL s)).put k 3 (inbL s)).set (inbL s) (y + 1))).log.length ≤ 4 * (k + 1) + 1 := by simp [MS.put, MS.set]; omega
        have ns : ((((((σ.put k 1 (inbL s)).put k 6 (nxtL y)).put k 4 (inbL s)).put k 3 (inbL s)).set (inbL s) (y + 1))).num (inbL s) = hd (K ++ [y]) := by rw [hd_snoc]; simp [MS.set]
        have no : ((((((σ.put k 1 (inbL s)).put k 6 (nxtL y)).put k 4 (inbL s)).put k 3 (inbL s)).set (inbL s) (y + 1))).num (inbL o) = 78 := by
          have ne : inbL o ≠ inbL s := fun h => Hso.out (congrArg Lc.a h)
          simp only [MS.set, if_neg ne]
          exact No.out
        generalize ((((σ.put k 1 (inbL s)).put k 6 (nxtL y)).put k 4 (inbL s)).put k 3 (inbL s)).set (inbL s) (y + 1) = τ at s11 lg ns no
        have S11 := Lib.hid s11; have Ns' := Lib.hid ns; have No' := Lib.hid no
        have q12 := s11.box [.int .i64 y] 3
        have S12 := Lib.hid q12
        clear s11 S10 e11 ns no q12
        go_wp2_with (at_builtin; go_must (refine wpList_append_lies _ rfl (.tmp 91) (.tmp 93) 28 rfl 0 3 i1' _ 1 8 Try.underlying28 hi1 hx0 hx1 hx2 rfl (by omega) _ K.length (iv K) rfl (S12.out.owned 0 rfl) ⟨w11.heap.size, 0, none⟩ 1 1 [.int .i64 y] rfl rfl (row_news (Row.new w11 [.int .i64 y] 3)) (by simp [Value.oneCell']) (by omega) (by unfold maxLen; omega) (by omega) (by omega) _ rfl ?_); intro gg cap w13 own gro hat hlt13; have S13 := Lib.hid (Scope.appended S12.out own gro hat); clear own gro hat hlt13)
        go_roundw
        case rel =>
          have el : (K ++ [y]).length = K.length + 1 := by simp
          have ei : iv (K ++ [y]) = iv K ++ [.int .i64 y] := by simp [iv]
          have hp := Pl.out.snoc Hin.out z0 z1
          rw [← HT.out] at hp
          exact ⟨k + 1, τ, nxset nx y T, K ++ [y], by omega, by omega, by go_num, by omega, lg, No'.out, Ns'.out, hp, by rw [el, ei]; exact Scope.drop (As := [ownA _ 3 1 _ _, inA p m b sh τ _, rinA q x 0 0 sh MS.zero _]) (Bs := [box _ _ _]) S13.out⟩
        case measure => simp [intOf]; omega
    · have done : ¬ ((k : Int) < (N : Int) ∧ (k : Int) < 40) := by omega
      by_cases hkN : k < N
      · have k40 : k = 40 := by omega
        clear done hlt
        go_wp2_with fail
        refine ((igrab_does 0 s Hs.out (by omega)).at1 Sr.out).mono ?_
        rintro e w8 ⟨he, s8⟩
        rw [Ns.out] at he
        subst he
        have n8 : ((σ.put 0 3 (inbL s)).set (inbL s) 0).num (inbL s) = 0 := by simp [MS.set]
        have m8 : ((σ.put 0 3 (inbL s)).set (inbL s) 0).num (inbL o) = 78 := by
          have ne : inbL o ≠ inbL s := fun h => Hso.out (congrArg Lc.a h)
          simp only [MS.set, if_neg ne]
          exact No.out
        have l8 : ((σ.put 0 3 (inbL s)).set (inbL s) 0).log.length ≤ 200 := by simp [MS.put, MS.set]; omega
        generalize (σ.put 0 3 (inbL s)).set (inbL s) 0 = τ at s8 n8 m8 l8
        obtain ⟨oI, cI, eI, hcI, gI⟩ := own_form (s8.owned 0 rfl)
        obtain ⟨M, hM⟩ : ∃ M, M = K.length := ⟨_, rfl⟩
        have HM := Lib.hid hM
        have e1 : hd K = hd (K.take M) := by rw [hM, List.take_length]
        have S8 := Lib.hid s8; have N8 := Lib.hid n8; have M8 := Lib.hid m8
        rw [e1]
        subst eI
        clear s8 gI n8 m8 e1 Sr
        rw [← hM] at hcI
        have hMb : M ≤ 40 := by omega
        have wl : IntKind.i64.wrap ((M : Int) - 1) = (M : Int) - 1 := by rw [IntKind.wrap_i64]; omega
        have eK : (K.length : Int) = (M : Int) := by omega
        clear hM
        go_wp2_with fail
        go_loopw [18, 19] (fun n' i wr => ∃ (j : Nat) (τ' : MS), j ≤ M ∧ i = .int .i64 ((j : Int) - 1) ∧ n' = .int .u64 (hd (K.take j)) ∧ τ'.log.length + j ≤ 200 + M ∧ τ'.num = τ.num ∧ Scope [] w wr [ownA (.slice oI K.length cI) 3 1 K.length (iv K), inA p m b sh τ' nx, rinA q x 0 0 sh MS.zero (fun _ => 0)]) (fun _ i _ => ((intOf i) + 1).toNat)
        case atStart => exact ⟨M, τ, by omega, (by first | rfl | (rw [eK])), rfl, by omega, rfl, S8.out⟩
        case round =>
          obtain ⟨j, τ', hj, rfl, rfl, hlg', hnum, hs⟩ := hrel
          have Sq := Lib.hid hs; have Nq := Lib.hid hnum
          clear hs hnum S8
          by_cases hj0 : 0 < j
          · obtain ⟨i, rfl⟩ : ∃ i, j = i + 1 := ⟨j - 1, by omega⟩
            obtain ⟨y, hy⟩ : ∃ y, K[i]? = some y := ⟨_, List.getElem?_eq_getElem (by rw [← HM.out]; omega)⟩
            obtain ⟨oJ, cJ, eJ, _, gJ⟩ := own_form (Sq.out.owned 0 rfl)
            obtain ⟨gg, hgg, cy⟩ := gJ i _ (iv_get hy)
            have hyb := Pl.out.2 y (List.mem_of_getElem? hy)
            have y0 := hyb.1; have y1 := hyb.2
            have hnx := Pl.out.1 i y hy
            have hdt := hd_take hy
            have Hnx := Lib.hid hnx; have Hy := Lib.hid (show I64 y by unfold I64; omega)
            simp at eJ
            obtain ⟨rfl, rfl⟩ := eJ
            subst hgg
            have ii : ((i + 1 : Nat) : Int) - 1 = (i : Int) := by omega
            rw [ii, hdt]
            have i0 : (0 : Int) ≤ (i : Int) := by omega
            have i1 : (i : Int) < (K.length : Int) := by omega
            clear gJ hyb hnx hdt hy eK
            go_wp2_with fail
            refine ((inext_does 0 y Hy.out (by omega)).at1 Sq.out).mono ?_
            rintro e w9 ⟨he, s9⟩
            rw [Hnx.out] at he
            subst he
            have S9 := Lib.hid s9
            clear s9 cy
            go_wp2
            go_roundw
            case rel => exact ⟨i, τ'.put 0 5 (nxtL y), by omega, rfl, rfl, (by simp [MS.put]; omega), Nq.out, S9.out⟩
            case measure => simp [intOf] <;> omega
          · obtain rfl : j = 0 := by omega
            have h0 : hd (K.take 0) = 0 := rfl
            rw [h0]
            go_wp2_with fail
            refine ((igrab_does 0 s Hs.out (by omega)).at1 Sq.out).mono ?_
            rintro e w9 ⟨he, s9⟩
            rw [Nq.out, N8.out] at he
            subst he
            have S9 := Lib.hid s9
            clear s9
            go_wp2_with fail
            refine ((itop_does 0 s Hs.out (by simp [MS.put, MS.set]; omega)).at1 S9.out).mono ?_
            rintro e w10 ⟨he, s10⟩
            rw [show ((τ'.put 0 3 (inbL s)).set (inbL s) 0).num (inbL s) = 0 from by simp [MS.set]] at he
            subst he
            have S10 := Lib.hid s10
            clear s10
            go_wp2_with fail
            refine ((igrab_does 0 o Ho.out (by simp [MS.put, MS.set]; omega)).at1 S10.out).mono ?_
            rintro e w11 ⟨he, s11⟩
            have e11 : (((τ'.put 0 3 (inbL s)).set (inbL s) 0).put 0 1 (inbL s)).num (inbL o) = 78 := by
              have ne : inbL o ≠ inbL s := fun h => Hso.out (congrArg Lc.a h)
              show (if inbL o = inbL s then (0 : Int) else τ'.num (inbL o)) = 78
              rw [if_neg ne, Nq.out]
              exact M8.out
            rw [e11] at he
            subst he
            have S11 := Lib.hid s11
            clear s11 e11
            go_wp2
            go_ret
            exact ⟨rfl, S11.out.below⟩
      · clear done hlt
        have kN : k = N := by omega
        go_wp2_with fail
        refine ((igrab_does 0 s Hs.out (by omega)).at1 Sr.out).mono ?_
        rintro e w8 ⟨he, s8⟩
        rw [Ns.out] at he
        subst he
        have n8 : ((σ.put 0 3 (inbL s)).set (inbL s) 0).num (inbL s) = 0 := by simp [MS.set]
        have m8 : ((σ.put 0 3 (inbL s)).set (inbL s) 0).num (inbL o) = 78 := by
          have ne : inbL o ≠ inbL s := fun h => Hso.out (congrArg Lc.a h)
          simp only [MS.set, if_neg ne]
          exact No.out
        have l8 : ((σ.put 0 3 (inbL s)).set (inbL s) 0).log.length ≤ 200 := by simp [MS.put, MS.set]; omega
        generalize (σ.put 0 3 (inbL s)).set (inbL s) 0 = τ at s8 n8 m8 l8
        obtain ⟨oI, cI, eI, hcI, gI⟩ := own_form (s8.owned 0 rfl)
        obtain ⟨M, hM⟩ : ∃ M, M = K.length := ⟨_, rfl⟩
        have HM := Lib.hid hM
        have e1 : hd K = hd (K.take M) := by rw [hM, List.take_length]
        have S8 := Lib.hid s8; have N8 := Lib.hid n8; have M8 := Lib.hid m8
        rw [e1]
        subst eI
        clear s8 gI n8 m8 e1 Sr
        rw [← hM] at hcI
        have hMb : M ≤ 40 := by omega
        have wl : IntKind.i64.wrap ((M : Int) - 1) = (M : Int) - 1 := by rw [IntKind.wrap_i64]; omega
        have eK : (K.length : Int) = (M : Int) := by omega
        clear hM
        go_wp2_with fail
        go_loopw [18, 19] (fun n' i wr => ∃ (j : Nat) (τ' : MS), j ≤ M ∧ i = .int .i64 ((j : Int) - 1) ∧ n' = .int .u64 (hd (K.take j)) ∧ τ'.log.length + j ≤ 200 + M ∧ τ'.num = τ.num ∧ Scope [] w wr [ownA (.slice oI K.length cI) 3 1 K.length (iv K), inA p m b sh τ' nx, rinA q x 0 0 sh MS.zero (fun _ => 0)]) (fun _ i _ => ((intOf i) + 1).toNat)
        case atStart => exact ⟨M, τ, by omega, (by first | rfl | (rw [eK])), rfl, by omega, rfl, S8.out⟩
        case round =>
          obtain ⟨j, τ', hj, rfl, rfl, hlg', hnum, hs⟩ := hrel
          have Sq := Lib.hid hs; have Nq := Lib.hid hnum
          clear hs hnum S8
          by_cases hj0 : 0 < j
          · obtain ⟨i, rfl⟩ : ∃ i, j = i + 1 := ⟨j - 1, by omega⟩
            obtain ⟨y, hy⟩ : ∃ y, K[i]? = some y := ⟨_, List.getElem?_eq_getElem (by rw [← HM.out]; omega)⟩
            obtain ⟨oJ, cJ, eJ, _, gJ⟩ := own_form (Sq.out.owned 0 rfl)
            obtain ⟨gg, hgg, cy⟩ := gJ i _ (iv_get hy)
            have hyb := Pl.out.2 y (List.mem_of_getElem? hy)
            have y0 := hyb.1; have y1 := hyb.2
            have hnx := Pl.out.1 i y hy
            have hdt := hd_take hy
            have Hnx := Lib.hid hnx; have Hy := Lib.hid (show I64 y by unfold I64; omega)
            simp at eJ
            obtain ⟨rfl, rfl⟩ := eJ
            subst hgg
            have ii : ((i + 1 : Nat) : Int) - 1 = (i : Int) := by omega
            rw [ii, hdt]
            have i0 : (0 : Int) ≤ (i : Int) := by omega
            have i1 : (i : Int) < (K.length : Int) := by omega
            clear gJ hyb hnx hdt hy eK
            go_wp2_with fail
            refine ((inext_does 0 y Hy.out (by omega)).at1 Sq.out).mono ?_
            rintro e w9 ⟨he, s9⟩
            rw [Hnx.out] at he
            subst he
            have S9 := Lib.hid s9
            clear s9 cy
            go_wp2
            go_roundw
            case rel => exact ⟨i, τ'.put 0 5 (nxtL y), by omega, rfl, rfl, (by simp [MS.put]; omega), Nq.out, S9.out⟩
            case measure => simp [intOf] <;> omega
          · obtain rfl : j = 0 := by omega
            have h0 : hd (K.take 0) = 0 := rfl
            rw [h0]
            go_wp2_with fail
            refine ((igrab_does 0 s Hs.out (by omega)).at1 Sq.out).mono ?_
            rintro e w9 ⟨he, s9⟩
            rw [Nq.out, N8.out] at he
            subst he
            have S9 := Lib.hid s9
            clear s9
            go_wp2_with fail
            refine ((itop_does 0 s Hs.out (by simp [MS.put, MS.set]; omega)).at1 S9.out).mono ?_
            rintro e w10 ⟨he, s10⟩
            rw [show ((τ'.put 0 3 (inbL s)).set (inbL s) 0).num (inbL s) = 0 from by simp [MS.set]] at he
            subst he
            have S10 := Lib.hid s10
            clear s10
            go_wp2_with fail
            refine ((igrab_does 0 o Ho.out (by simp [MS.put, MS.set]; omega)).at1 S10.out).mono ?_
            rintro e w11 ⟨he, s11⟩
            have e11 : (((τ'.put 0 3 (inbL s)).set (inbL s) 0).put 0 1 (inbL s)).num (inbL o) = 78 := by
              have ne : inbL o ≠ inbL s := fun h => Hso.out (congrArg Lc.a h)
              show (if inbL o = inbL s then (0 : Int) else τ'.num (inbL o)) = 78
              rw [if_neg ne, Nq.out]
              exact M8.out
            rw [e11] at he
            subst he
            have S11 := Lib.hid s11
            clear s11 e11
            go_wp2
            go_ret
            exact ⟨rfl, S11.out.below⟩
end Go.Proofs.Ytjipjhmcpjffcaa
