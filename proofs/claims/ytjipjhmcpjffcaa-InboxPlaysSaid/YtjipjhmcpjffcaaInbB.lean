/- Link, Next, New of package inbox and of the reference's Inbox. -/
import Derived.Test.YtjipjhmcpjffcaaInb
set_option linter.unusedSimpArgs false
set_option linter.unusedVariables false
namespace Go.Proofs.Ytjipjhmcpjffcaa
open Go Go.RowKit Go.Maps

def nxset (nx : Int → Int) (o v : Int) : Int → Int := fun j => if j = o then v else nx j
theorem zeroU64 (w : World) : (zeroValue 22).run Try.prog w = .ok (.int .u64 0) w := by kernel_rfl
section
variable {S : List Nat} {w0 w : World} {A X : HA} {Bs : List HA} {b : Nat} {nx : Int → Int}
/-- An object's next one, told. -/
theorem Scope.next_get (h : Scope S w0 w (A :: X :: nextA b nx :: Bs)) {obj : Int} (ho : I64 obj) : (Instr.lookup 69 (.map (some b)) (.int .i64 obj) false).run Try.prog w = .ok (.int .u64 (nx obj)) w := by
  obtain ⟨f, ⟨⟨n, g, h1, h2, h3⟩, _⟩, _⟩ := h.get 2 rfl
  obtain ⟨l, hl⟩ := keyOf_int ho
  have h4 := h1.lookup (t := 69) lawInt Try.underlying69 (zeroU64 w) hl
  have h5 : (g (.int .i64 obj)).getD (.int .u64 0) = .int .u64 (nx obj) := by
    rw [← h3 obj ho]
    cases hg : g (.int .i64 obj) with
    | none => rfl
    | some y => obtain ⟨a, rfl⟩ := h2 _ _ hg; rfl
  rw [h5] at h4
  exact h4
/-- An object's next one, set. -/
theorem Scope.next_put (h : Scope S w0 w (A :: X :: nextA b nx :: Bs)) {obj : Int} (ho : I64 obj) (next : Int) : ∃ n g, MapIs Try.prog 3 w b n g ∧
    ∀ w3, MapIs Try.prog 3 w3 b (n + 1) (fun x => open Classical in if x = .int .i64 obj then some (.int .u64 next) else g x) → Chg [b] w w3 → Scope S w0 w3 (A :: X :: nextA b (nxset nx obj next) :: Bs) := by
  have h' : Scope S w0 w ([A, X] ++ ([nextA b nx] ++ Bs)) := h
  obtain ⟨f, hf, hd⟩ := h'.swap.does
  obtain ⟨⟨n, g, h1, h2, h3⟩, rfl⟩ := stars_one hf
  refine ⟨n, g, h1, fun w3 m3 c3 => ?_⟩
  have h4 : Scope S w0 w3 ([nextA b (nxset nx obj next)] ++ ([A, X] ++ Bs)) := hd _ _ (After.intro1 (A := nextA b (nxset nx obj next)) ⟨[b], ⟨⟨n + 1, _, m3, fun x y hx => ?_, fun o hO => ?_⟩, rfl⟩, c3, Own.refl _ _⟩)
  · exact h4.swap
  · by_cases e : x = .int .i64 obj
    · have hx := (if_pos e).symm.trans hx
      exact ⟨next, by simpa using hx.symm⟩
    · have hx := (if_neg e).symm.trans hx
      exact h2 x y hx
  · unfold nxset
    by_cases e : o = obj
    · subst e; simp [numN]
    · have ne : (Value.int .i64 o) ≠ .int .i64 obj := fun h => e (by simpa using h)
      simp only [if_neg e, if_neg ne]
      exact h3 o hO
/-- A row that is appended to. -/
theorem Scope.appended {v : Value} {t : TypeId} {size n : Nat} {xs cs : List Value} (h : Scope S w0 w (ownA v t size n xs :: Bs)) {w1 : World} {gg cap : Nat} (own : w1.ownsRow 0 t size (.slice (some ⟨gg, 0, none⟩) (n + 1) cap) (n + 1) (xs ++ cs))
    (gro : w.grownBy w1 v.ownBlock) (hat : v.ownBlock = some gg ∨ gg = w.heap.size) : Scope S w0 w1 (ownA (.slice (some ⟨gg, 0, none⟩) (n + 1) cap) t size (n + 1) (xs ++ cs) :: Bs) := by
  have h' : Scope S w0 w ([ownA v t size n xs] ++ Bs) := h
  obtain ⟨f, hf, hd⟩ := h'.does
  obtain ⟨h1, rfl⟩ := stars_one hf
  refine hd [ownA (.slice (some ⟨gg, 0, none⟩) (n + 1) cap) t size (n + 1) (xs ++ cs)] w1 (After.intro1 ⟨[gg], ⟨own, by simp [Value.ownBlock]⟩, grown_chg gro, fun k hk => ?_⟩)
  simp at hk
  subst hk
  rcases hat with h | h
  · exact .inl (by simp [h])
  · exact .inr (by omega)
end

section
variable {p m b q x n kb : Nat} {sh : Int} {σ : MS} {nx : Int → Int} {vK vV : Value} {kv : List (Int × Int)}
set_option maxHeartbeats 1000000 in
theorem ilink_does (who obj next : Int) (ho : I64 obj) (hl : σ.log.length ≤ 1000000) :
    Does Try.prog [inA p m b sh σ nx] 19 #[ptr p, .int .i64 who, .int .i64 obj, .int .u64 next] (.tuple #[]) [inA p m b sh (σ.put who 6 (nxtL obj)) (nxset nx obj next)] := Does.pack fun S w0 w h => by
  have g0 : w.cell? ⟨p, 0, none⟩ = some (ptr m) := (h.row 1 rfl).cell rfl
  have g1 : w.cell? ⟨p, 4, none⟩ = some (.func (.func 31) #[.int .i64 14] #[]) := (h.row 1 rfl).cell rfl
  have g2 : w.cell? ⟨p, 2, none⟩ = some (.map (some b)) := (h.row 1 rfl).cell rfl
  have H0 := Lib.hid h.drew
  clear h
  go_enter Try.func19, Try.ntmps19
  go_wp2_with fail
  go_region_held3 (fun w' => w'.cell? ⟨p, 0, none⟩ = some (ptr m) ∧ w'.cell? ⟨p, 4, none⟩ = some (.func (.func 31) #[.int .i64 14] #[])) (go_keep)
    (first
      | (go_at_call 31
         refine ((site_pure 14 obj).at (Hid.out (by assumption))).mono ?_
         rintro e wq ⟨rfl, sq⟩
         have g0 : wq.cell? ⟨p, 0, none⟩ = some (ptr m) := (sq.row 1 rfl).cell rfl
         have g1 : wq.cell? ⟨p, 4, none⟩ = some (.func (.func 31) #[.int .i64 14] #[]) := (sq.row 1 rfl).cell rfl
         have g2 : wq.cell? ⟨p, 2, none⟩ = some (.map (some b)) := (sq.row 1 rfl).cell rfl
         have Hq := Lib.hid sq
         clear sq)
      | (go_at_call 34
         refine ((write_does who (nxtL obj) hl).at0 (Hid.out (by assumption))).mono ?_
         rintro e wz ⟨rfl, sz⟩
         have g0 : wz.cell? ⟨p, 0, none⟩ = some (ptr m) := (sz.row 1 rfl).cell rfl
         have g1 : wz.cell? ⟨p, 4, none⟩ = some (.func (.func 31) #[.int .i64 14] #[]) := (sz.row 1 rfl).cell rfl
         have g2 : wz.cell? ⟨p, 2, none⟩ = some (.map (some b)) := (sz.row 1 rfl).cell rfl
         have Hz := Lib.hid sz
         clear sz))
  obtain ⟨k, g, hm, hp⟩ := Hz.out.next_put ho next
  have Hp := Lib.hid hp
  obtain ⟨l, hk⟩ := keyOf_int ho
  clear hp
  go_wp2_with (at_mapUpdate; refine wpList_mapUpdate_is _ rfl _ _ _ 69 rfl 3 22 lawInt Try.underlying69 b k g rfl hm _ _ l rfl rfl hk ?_; intro w3 m3 c3; have P3 := Lib.hid (Hp.out w3 m3 c3); clear m3 c3)
  go_end0
  exact Ends.mk [] (by simpa using P3.out)
set_option maxHeartbeats 1000000 in
theorem inext_does (who obj : Int) (ho : I64 obj) (hl : σ.log.length ≤ 1000000) :
    Does Try.prog [inA p m b sh σ nx] 21 #[ptr p, .int .i64 who, .int .i64 obj] (.int .u64 (nx obj)) [inA p m b sh (σ.put who 5 (nxtL obj)) nx] := Does.pack fun S w0 w h => by
  have g0 : w.cell? ⟨p, 0, none⟩ = some (ptr m) := (h.row 1 rfl).cell rfl
  have g1 : w.cell? ⟨p, 4, none⟩ = some (.func (.func 31) #[.int .i64 14] #[]) := (h.row 1 rfl).cell rfl
  have g2 : w.cell? ⟨p, 2, none⟩ = some (.map (some b)) := (h.row 1 rfl).cell rfl
  have H0 := Lib.hid h.drew
  clear h
  go_enter Try.func21, Try.ntmps21
  go_wp2_with fail
  go_region_held3 (fun w' => w'.cell? ⟨p, 0, none⟩ = some (ptr m) ∧ w'.cell? ⟨p, 4, none⟩ = some (.func (.func 31) #[.int .i64 14] #[])) (go_keep)
    (first
      | (go_at_call 31
         refine ((site_pure 14 obj).at (Hid.out (by assumption))).mono ?_
         rintro e wq ⟨rfl, sq⟩
         have g0 : wq.cell? ⟨p, 0, none⟩ = some (ptr m) := (sq.row 1 rfl).cell rfl
         have g1 : wq.cell? ⟨p, 4, none⟩ = some (.func (.func 31) #[.int .i64 14] #[]) := (sq.row 1 rfl).cell rfl
         have g2 : wq.cell? ⟨p, 2, none⟩ = some (.map (some b)) := (sq.row 1 rfl).cell rfl
         have Hq := Lib.hid sq
         clear sq)
      | (go_at_call 36
         refine ((read_does who (nxtL obj) hl).at0 (Hid.out (by assumption))).mono ?_
         rintro e wz ⟨rfl, sz⟩
         have g0 : wz.cell? ⟨p, 0, none⟩ = some (ptr m) := (sz.row 1 rfl).cell rfl
         have g1 : wz.cell? ⟨p, 4, none⟩ = some (.func (.func 31) #[.int .i64 14] #[]) := (sz.row 1 rfl).cell rfl
         have g2 : wz.cell? ⟨p, 2, none⟩ = some (.map (some b)) := (sz.row 1 rfl).cell rfl
         have Hz := Lib.hid sz
         clear sz))
  have hrun := Hz.out.next_get ho
  go_wp2
  go_ret
  exact Ends.mk [] (by simpa using Hz.out)
theorem ishards_does : Does Try.prog [inA p m b sh σ nx] 23 #[ptr p] (.int .i64 sh) [inA p m b sh σ nx] := Does.pack fun S w0 w h => by
  have c0 : w.cell? ⟨p, 1, none⟩ = some (.int .i64 sh) := (h.row 1 rfl).cell rfl
  have H0 := Lib.hid h
  clear h
  go_enter Try.func23, Try.ntmps23
  go_wp2
  go_ret
  exact Ends.mk [] (by simpa using H0.out)

/-! ### the reference's list of next ones -/
def NotYetN (kv : List (Int × Int)) (o : Int) (k : Nat) : Prop := ∀ j y, j < k → kv[j]? = some y → y.1 ≠ o
theorem lookN_at : ∀ {kv : List (Int × Int)} {o : Int} {k : Nat} {v : Int}, kv[k]? = some (o, v) → NotYetN kv o k → lookN kv o = v := by
  intro kv
  induction kv with
  | nil => intro o k v h; simp at h
  | cons y kv ih =>
    intro o k v h hn
    cases k with
    | zero => simp at h; subst h; simp [lookN]
    | succ k =>
      have h1 := hn 0 y (by omega) rfl
      simp only [lookN, if_neg h1]
      exact ih (by simpa using h) (fun j z hj hz => hn (j + 1) z (by omega) (by simpa using hz))
theorem lookN_none : ∀ {kv : List (Int × Int)} {o : Int}, (∀ y, y ∈ kv → y.1 ≠ o) → lookN kv o = 0 := by
  intro kv
  induction kv with
  | nil => intro o _; rfl
  | cons y kv ih => intro o h; simp only [lookN, if_neg (h y (by simp))]; exact ih (fun z hz => h z (by simp [hz]))
theorem lookN_snoc : ∀ {kv : List (Int × Int)} {o v : Int}, (∀ y, y ∈ kv → y.1 ≠ o) → lookN (kv ++ [(o, v)]) = nxset (lookN kv) o v := by
  intro kv
  induction kv with
  | nil => intro o v _; funext j; by_cases e : j = o <;> simp [lookN, nxset, e]; intro h; exact absurd h.symm e
  | cons y kv ih =>
    intro o v h
    funext j
    have h1 := h y (by simp)
    simp only [List.cons_append, lookN, ih (fun z hz => h z (by simp [hz])), nxset]
    by_cases e : j = o
    · subst e; simp [h1]
    · simp [e]
theorem lookN_set : ∀ {kv : List (Int × Int)} {o v u : Int} {k : Nat}, kv[k]? = some (o, u) → NotYetN kv o k → lookN (kv.set k (o, v)) = nxset (lookN kv) o v := by
  intro kv
  induction kv with
  | nil => intro o v u k h; simp at h
  | cons y kv ih =>
    intro o v u k h hn
    funext j
    cases k with
    | zero =>
      simp at h
      subst h
      simp only [List.set_cons_zero, lookN, nxset]
      by_cases e : j = o
      · subst e; simp
      · simp only [if_neg e, if_neg (fun h : o = j => e h.symm)]
    | succ k =>
      have h1 := hn 0 y (by omega) rfl
      simp only [List.set_cons_succ, lookN, ih (by simpa using h) (fun j z hj hz => hn (j + 1) z (by omega) (by simpa using hz)), nxset]
      by_cases e : j = o
      · subst e; simp [h1]
      · simp [e]
theorem first_of {kv : List (Int × Int)} {o : Int} (h : ∃ y, y ∈ kv ∧ y.1 = o) : ∃ k v, kv[k]? = some (o, v) ∧ NotYetN kv o k := by
  induction kv with
  | nil => obtain ⟨y, hy, _⟩ := h; cases hy
  | cons y kv ih =>
    by_cases e : y.1 = o
    · exact ⟨0, y.2, by rw [← e]; rfl, fun j z hj => by omega⟩
    · obtain ⟨z, hz, hzo⟩ := h
      have : z ∈ kv := by
        rcases List.mem_cons.1 hz with rfl | h
        · exact absurd hzo e
        · exact h
      obtain ⟨k, v, h1, h2⟩ := ih ⟨z, this, hzo⟩
      refine ⟨k + 1, v, by simpa using h1, fun j u hj hu => ?_⟩
      cases j with
      | zero => simp at hu; subst hu; exact e
      | succ j => exact h2 j u (by omega) (by simpa using hu)
theorem nkeys_get {kv : List (Int × Int)} {k : Nat} {y : Int × Int} (h : kv[k]? = some y) : (nkeys kv)[k]? = some (.int .i64 y.1) := by simp [nkeys, h]
theorem nvals_get {kv : List (Int × Int)} {k : Nat} {y : Int × Int} (h : kv[k]? = some y) : (nvals kv)[k]? = some (.int .u64 y.2) := by simp [nvals, h]
theorem nkeys_set {kv : List (Int × Int)} {k : Nat} {o u v : Int} (h : kv[k]? = some (o, u)) : nkeys (kv.set k (o, v)) = nkeys kv := by
  unfold nkeys
  rw [List.map_set]
  exact List.ext_getElem? (fun i => by
    rw [List.getElem?_set]
    split
    · rename_i e; subst e; simp [h]; exact (List.getElem?_eq_some_iff.1 h).1
    · rfl)
theorem nvals_set (kv : List (Int × Int)) (k : Nat) (o v : Int) : nvals (kv.set k (o, v)) = (nvals kv).set k (.int .u64 v) := by simp [nvals, List.map_set]

/-- Where an object's next one stands, or -1. -/
def AtIs (kv : List (Int × Int)) (o : Int) (r : Int) : Prop := (∃ (k : Nat) (v : Int), r = k ∧ kv[k]? = some (o, v) ∧ NotYetN kv o k) ∨ (r = -1 ∧ ∀ y, y ∈ kv → y.1 ≠ o)
def AtTold (w : World) (kv : List (Int × Int)) (o : Int) (e : Ending) (w' : World) : Prop := ∃ r, e = .returned (.int .i64 r) ∧ AtIs kv o r ∧ w = w'
set_option maxHeartbeats 1000000 in
theorem rat_any {w : World} {q cp : Nat} {oa : Option Addr} (obj : Int) (c2 : w.cell? ⟨q, 2, none⟩ = some (.slice oa kv.length cp)) (hk : kv.length ≤ 1000000)
    (hc : ∀ j y, kv[j]? = some y → ∃ g, oa = some ⟨g, 0, none⟩ ∧ w.cell? ⟨g, j, none⟩ = some (.int .i64 y.1)) : Calls Try.prog 61 #[ptr q, .int .i64 obj] w (AtTold w kv obj) := by
  obtain ⟨n, hn⟩ : ∃ n, n = kv.length := ⟨_, rfl⟩
  rw [← hn] at c2 hk
  have Hn := Lib.hid hn; have Hc := Lib.hid hc
  clear hn hc
  by_cases hin : ∃ y, y ∈ kv ∧ y.1 = obj
  · obtain ⟨k, v, h1, h2⟩ := first_of hin
    have hkn : k < n := by rw [Hn.out]; exact (List.getElem?_eq_some_iff.1 h1).1
    obtain ⟨g, rfl, hg⟩ := Hc.out k _ h1
    have H1 := Lib.hid h1; have H2 := Lib.hid h2; have Hg := Lib.hid hg
    clear h1 h2 hin hg
    go_enter Try.func61, Try.ntmps61
    go_wp2_with fail
    go_loop [5] (fun i => ∃ j : Nat, j ≤ k ∧ i = .int .i64 j) (fun i => n - (intOf i).toNat)
    case atStart => exact ⟨0, by omega, rfl⟩
    case round =>
      obtain ⟨j, hj, rfl⟩ := hrel
      have i1 : (j : Int) < (n : Int) := by omega
      have i0 : (0 : Int) ≤ (j : Int) := by omega
      by_cases hlt : j < k
      · obtain ⟨y, hy⟩ : ∃ y, kv[j]? = some y := ⟨_, List.getElem?_eq_getElem (by rw [← Hn.out]; omega)⟩
        obtain ⟨g', hg', cy⟩ := Hc.out j y hy
        simp at hg'
        subst hg'
        have ne : (y.1 == obj) = false := by simpa using H2.out j y hlt hy
        clear hy
        go_wp2
        go_round
        case rel => exact ⟨j + 1, by omega, by go_num⟩
        case measure => simp [intOf]; omega
      · obtain rfl : j = k := by omega
        have cy := Hg.out
        clear hlt
        go_wp2
        go_ret
        exact ⟨j, rfl, .inl ⟨j, v, rfl, H1.out, H2.out⟩, rfl⟩
  · have hno : ∀ y, y ∈ kv → y.1 ≠ obj := fun y hy e => hin ⟨y, hy, e⟩
    have Hno := Lib.hid hno
    clear hno hin
    go_enter Try.func61, Try.ntmps61
    go_wp2_with fail
    go_loop [5] (fun i => ∃ j : Nat, j ≤ n ∧ i = .int .i64 j) (fun i => n - (intOf i).toNat)
    case atStart => exact ⟨0, by omega, rfl⟩
    case round =>
      obtain ⟨j, hj, rfl⟩ := hrel
      by_cases hlt : j < n
      · have i1 : (j : Int) < (n : Int) := by omega
        have i0 : (0 : Int) ≤ (j : Int) := by omega
        obtain ⟨y, hy⟩ : ∃ y, kv[j]? = some y := ⟨_, List.getElem?_eq_getElem (by rw [← Hn.out]; omega)⟩
        obtain ⟨g', rfl, cy⟩ := Hc.out j y hy
        have ne : (y.1 == obj) = false := by simpa using Hno.out y (List.mem_of_getElem? hy)
        clear hy
        go_wp2
        go_round
        case rel => exact ⟨j + 1, by omega, by go_num⟩
        case measure => simp [intOf]; omega
      · go_wp2
        go_ret
        exact ⟨-1, rfl, .inr ⟨rfl, Hno.out⟩, rfl⟩
end

def EndsX {β : Type} (S : List Nat) (w0 : World) (r : Value) (Gl : β → List HA) (e : Ending) (w' : World) : Prop := e = .returned r ∧ ∃ b Js, Scope S w0 w' (Gl b ++ Js)
theorem EndsX.mk {β : Type} {S : List Nat} {w0 w' : World} {r : Value} {Gl : β → List HA} (b : β) (Js : List HA) (h : Scope S w0 w' (Gl b ++ Js)) : EndsX S w0 r Gl (.returned r) w' := ⟨rfl, b, Js, h⟩
theorem EndsX.mk' {β : Type} {S : List Nat} {w0 w' : World} {r r' : Value} {Gl : β → List HA} (he : r = r') (b : β) (Js : List HA) (h : Scope S w0 w' (Gl b ++ Js)) : EndsX S w0 r' Gl (.returned r) w' := by subst he; exact ⟨rfl, b, Js, h⟩
theorem Does.packX {P : Program} {α β : Type} {Fl : α → List HA} {Gl : β → List HA} {f : FuncId} {args : Array Value} {r : Value} (d : ∀ a (S : List Nat) (w0 w : World), Scope S w0 w (Fl a) → Calls P f args w (EndsX S w0 r Gl)) :
    Does P [exA fun a => stars (Fl a)] f args r [exA fun b => stars (Gl b)] := fun w fp h => by
  obtain ⟨a, h1⟩ := stars_one h
  refine (d a fp w w (Scope.start h1)).mono fun _ _ ⟨he, b, Js, hs⟩ => ⟨he, ?_⟩
  obtain ⟨f', k1, k2, k3⟩ := hs.drop.after
  exact ⟨f', stars_mk1 (A := exA fun b => stars (Gl b)) ⟨b, k1⟩, k2, k3⟩
theorem Scope.owned {S : List Nat} {w0 w : World} {As : List HA} (h : Scope S w0 w As) {v : Value} {t : TypeId} {size n : Nat} {xs : List Value} (i : Nat) (hi : As[i]? = some (ownA v t size n xs)) : w.ownsRow 0 t size v n xs := by
  obtain ⟨f, h1, _⟩ := h.get i hi
  exact h1.1
theorem own_form {w : World} {v : Value} {t : TypeId} {n : Nat} {xs : List Value} (h : w.ownsRow 0 t 1 v n xs) : ∃ oa cp, v = .slice oa n cp ∧ n ≤ cp ∧ ∀ j u, xs[j]? = some u → ∃ g, oa = some ⟨g, 0, none⟩ ∧ w.cell? ⟨g, j, none⟩ = some u := by
  rcases ownsRow_form h with ⟨rfl, rfl⟩ | ⟨g, cap, rfl, _, hc, _⟩
  · refine ⟨none, 0, rfl, by omega, fun j u hu => ?_⟩
    have := (List.getElem?_eq_some_iff.1 hu).1
    rw [h.1] at this
    omega
  · exact ⟨_, cap, rfl, hc, fun j u hu => ⟨g, rfl, ownsRow_cell h rfl hu⟩⟩
/-- A store into an owned row. -/
theorem Scope.setown {S : List Nat} {w0 w : World} {Bs : List HA} {g n cap size : Nat} {t : TypeId} {xs : List Value} (h : Scope S w0 w (ownA (.slice (some ⟨g, 0, none⟩) n cap) t size n xs :: Bs)) {j : Nat} (hj : j < n * size) (u : Value) :
    Scope S w0 (w.setCell ⟨g, j, none⟩ u) (ownA (.slice (some ⟨g, 0, none⟩) n cap) t size n (xs.set j u) :: Bs) := by
  have h' : Scope S w0 w ([ownA (.slice (some ⟨g, 0, none⟩) n cap) t size n xs] ++ Bs) := h
  obtain ⟨f, hf, hd⟩ := h'.does
  obtain ⟨h1, rfl⟩ := stars_one hf
  exact hd [ownA (.slice (some ⟨g, 0, none⟩) n cap) t size n (xs.set j u)] _ (After.intro1 ⟨[g], ⟨ownsRow_put h1 rfl hj u, by simp [Value.ownBlock]⟩, (Chg.refl _ _).setCell (.inl (by simp [Value.ownBlock])) _, fun k hk => .inl (by simpa [Value.ownBlock] using hk)⟩)

@[reducible] def rinL (q x n kb : Nat) (sh : Int) (σ : MS) (nx : Int → Int) (c : Value × Value × List (Int × Int)) : List HA := [refA x n σ, box q [ptr x, .int .i64 sh, c.1, c.2.1] 48, ownA c.1 3 1 c.2.2.length (nkeys c.2.2), ownA c.2.1 22 1 c.2.2.length (nvals c.2.2), fact (lookN c.2.2 = nx ∧ c.2.2.length ≤ kb)]
theorem infoInt : (Try.prog.info? 3).map (fun i => (i.zero, i.size, i.bytes)) = some (some (.int .i64 0), 1, 8) := by kernel_rfl
theorem mkfact {P : Prop} (h : P) (w : World) : (stars [fact P]).holds w [] := stars_mk1 (A := fact P) ⟨h, rfl⟩

/-- Both lists are one longer. -/
theorem link_done {S : List Nat} {w0 w : World} {Js : List HA} {q x n kb N gA pA gB pB : Nat} {sh : Int} {τ : MS} {nx : Int → Int} {kv : List (Int × Int)} {obj next : Int} {vK vV : Value}
    (h : Scope S w0 w (ownA (.slice (some ⟨gA, 0, none⟩) (N + 1) pA) 3 1 (N + 1) (nkeys kv ++ [.int .i64 obj]) :: ownA (.slice (some ⟨gB, 0, none⟩) (N + 1) pB) 22 1 (N + 1) (nvals kv ++ [.int .u64 next]) :: box q [ptr x, .int .i64 sh, vK, vV] 48 :: refA x n τ :: Js))
    (hN : N = kv.length) (hno : ∀ y, y ∈ kv → y.1 ≠ obj) (hnx : lookN kv = nx) (hk : kv.length ≤ kb) :
    EndsX S w0 (.tuple #[]) (rinL q x n (kb + 1) sh τ (nxset nx obj next)) (.returned (.tuple #[])) ((w.setCell ⟨q, 2, none⟩ (.slice (some ⟨gA, 0, none⟩) (N + 1) pA)).setCell ⟨q, 3, none⟩ (.slice (some ⟨gB, 0, none⟩) (N + 1) pB)) := by
  subst hN
  have q1 := Scope.setbox (As := [ownA _ _ _ _ _, ownA _ _ _ _ _]) (Bs := refA x n τ :: Js) h 2 (.slice (some ⟨gA, 0, none⟩) (kv.length + 1) pA)
  have q2 := Scope.setbox (As := [ownA _ _ _ _ _, ownA _ _ _ _ _]) (Bs := refA x n τ :: Js) q1 3 (.slice (some ⟨gB, 0, none⟩) (kv.length + 1) pB)
  have q3 := Scope.swap (As := [ownA _ _ _ _ _, ownA _ _ _ _ _]) (Bs := [box q _ _]) (Cs := refA x n τ :: Js) q2
  have q4 := Scope.swap (As := [box q _ _, ownA _ _ _ _ _, ownA _ _ _ _ _]) (Bs := [refA x n τ]) (Cs := Js) q3
  have q5 := Scope.drop (As := [refA x n τ, box q _ _, ownA _ _ _ _ _, ownA _ _ _ _ _]) (Bs := Js) q4
  have e1 : nkeys (kv ++ [(obj, next)]) = nkeys kv ++ [.int .i64 obj] := by simp [nkeys]
  have e2 : nvals (kv ++ [(obj, next)]) = nvals kv ++ [.int .u64 next] := by simp [nvals]
  have e3 : (kv ++ [(obj, next)]).length = kv.length + 1 := by simp
  have q6 := q5.join (mkfact (show lookN (kv ++ [(obj, next)]) = nxset nx obj next ∧ (kv ++ [(obj, next)]).length ≤ kb + 1 from ⟨by rw [lookN_snoc hno, hnx], by rw [e3]; omega⟩) _) (Chg.refl _ _) (by simp)
  refine EndsX.mk (.slice (some ⟨gA, 0, none⟩) (kv.length + 1) pA, .slice (some ⟨gB, 0, none⟩) (kv.length + 1) pB, kv ++ [(obj, next)]) [] ?_
  unfold rinL
  rw [List.append_nil]
  simp only [e1, e2, e3]
  simp only [e3] at q6
  exact q6

section
variable {p m b q x n kb : Nat} {sh : Int} {σ : MS} {nx : Int → Int}
set_option maxHeartbeats 4000000 in
theorem rilink_does (who obj next : Int) (ho : I64 obj) (hn : n ≤ 1000000) (hkb : kb ≤ 900000) (hl : σ.log.length ≤ 1000000) :
    Does Try.prog [rinA q x n kb sh σ nx] 46 #[ptr q, .int .i64 who, .int .i64 obj, .int .u64 next] (.tuple #[]) [rinA q x n (kb + 1) sh (σ.put who 6 (nxtL obj)) (nxset nx obj next)] := by
  refine Does.packX (Fl := rinL q x n kb sh σ nx) (Gl := rinL q x n (kb + 1) sh (σ.put who 6 (nxtL obj)) (nxset nx obj next)) fun ⟨vK, vV, kv⟩ S w0 w h => ?_
  obtain ⟨hnx, hkv⟩ := h.fact 4 rfl
  simp only at hnx hkv
  have c0 : w.cell? ⟨q, 0, none⟩ = some (ptr x) := (h.row 1 rfl).cell rfl
  have H0 := Lib.hid h.drew; have Hnx := Lib.hid hnx
  clear h hnx
  go_enter Try.func46, Try.ntmps46
  go_wp2_with fail
  go_region_held3 (fun w' => w'.cell? ⟨q, 0, none⟩ = some (ptr x)) (go_keep)
    (first
      | (go_at_call 48
         refine ((rloc_pure 14 obj 0).at H0.out).mono ?_
         rintro e wq ⟨rfl, sq⟩
         have g0 : wq.cell? ⟨q, 0, none⟩ = some (ptr x) := (sq.row 1 rfl).cell rfl
         have Hq := Lib.hid sq
         clear sq)
      | (go_at_call 60
         refine ((rlog_does who 6 (nxtL obj) hl).at0 Hq.out).mono ?_
         rintro e wz ⟨rfl, sz⟩
         have g0 : wz.cell? ⟨q, 0, none⟩ = some (ptr x) := (sz.row 1 rfl).cell rfl
         have Hz := Lib.hid sz
         clear sz))
  obtain ⟨oK, cK, eK, hcK, gK⟩ := own_form (Hz.out.owned 2 rfl)
  obtain ⟨oV, cV, eV, hcV, gV⟩ := own_form (Hz.out.owned 3 rfl)
  have c2 : wz.cell? ⟨q, 2, none⟩ = some vK := (Hz.out.row 1 rfl).cell rfl
  have c3 : wz.cell? ⟨q, 3, none⟩ = some vV := (Hz.out.row 1 rfl).cell rfl
  rw [eK] at c2
  have at0 := rat_any obj c2 (by omega) (fun j y hy => gK j _ (nkeys_get hy))
  have At0 := Lib.hid at0; have EK := Lib.hid eK; have EV := Lib.hid eV; have GV := Lib.hid gV
  clear at0 gK gV eK eV c2
  go_wp2_with fail
  refine At0.out.mono ?_
  rintro e w1 ⟨r, rfl, hr, rfl⟩
  rcases hr with ⟨k, v, rfl, hk, hny⟩ | ⟨rfl, hno⟩
  · have hkl : k < kv.length := (List.getElem?_eq_some_iff.1 hk).1
    obtain ⟨g, rfl, zV⟩ := GV.out k _ (nvals_get hk)
    have eV := EV.out
    subst eV
    have fV := ownsRow_free (Hz.out.owned 3 rfl) rfl k
    have Hk := Lib.hid hk; have Hny := Lib.hid hny
    clear hk hny
    have i1 : (k : Int) < (kv.length : Int) := by omega
    have i0 : (0 : Int) ≤ (k : Int) := by omega
    go_wp2
    go_end0
    have q1 := Scope.swap (As := [refA x n _, box q _ _, ownA vK _ _ _ _]) (Bs := [ownA _ _ _ _ _]) (Cs := [fact _]) Hz.out
    have q2 := Scope.setown q1 (j := k) (by omega) (.int .u64 next)
    have q3 := Scope.swap (As := [ownA _ _ _ _ _]) (Bs := [refA x n _, box q _ _, ownA vK _ _ _ _]) (Cs := [fact _]) q2
    have q4 := Scope.drop (As := [refA x n _, box q _ _, ownA vK _ _ _ _, ownA _ _ _ _ _]) (Bs := [fact _]) q3
    rw [← nvals_set kv k obj next, ← nkeys_set (v := next) Hk.out] at q4
    have el : (kv.set k (obj, next)).length = kv.length := by simp
    rw [← el] at q4
    have q5 := q4.join (mkfact (show lookN (kv.set k (obj, next)) = nxset nx obj next ∧ (kv.set k (obj, next)).length ≤ kb + 1 from ⟨by rw [lookN_set Hk.out Hny.out, Hnx.out], by simp; omega⟩) _) (Chg.refl _ _) (by simp)
    refine EndsX.mk (Gl := rinL q x n (kb + 1) sh (σ.put who 6 (nxtL obj)) (nxset nx obj next)) (vK, .slice (some ⟨g, 0, none⟩) kv.length cV, kv.set k (obj, next)) [] ?_
    unfold rinL
    rw [List.append_nil]
    simp only [el] at q5 ⊢
    exact q5
  · have Hno := Lib.hid hno
    clear hno
    obtain ⟨i1, hi1, hx0, hx1, hx2⟩ := info_parts infoInt
    obtain ⟨i2, hi2, hy0, hy1, hy2⟩ := info_parts infoU64
    have eK := EK.out; have eV := EV.out
    obtain ⟨N, hN⟩ : ∃ N, N = kv.length := ⟨_, rfl⟩
    have HN := Lib.hid hN
    have hNb : N ≤ 900000 := by omega
    have Z0 := Lib.hid (show Scope S w0 wz.drew ([ownA vK 3 1 N (nkeys kv), ownA vV 22 1 N (nvals kv), box q [ptr x, .int .i64 sh, vK, vV] 48, refA x n (σ.put who 6 (nxtL obj)), fact (lookN kv = nx ∧ kv.length ≤ kb)]) from by
      rw [hN]
      have q1 := Scope.swap (As := [refA x n _, box q _ _]) (Bs := [ownA vK _ _ _ _, ownA vV _ _ _ _]) (Cs := [fact _]) Hz.out.drew
      exact Scope.swap (As := [ownA vK _ _ _ _, ownA vV _ _ _ _, refA x n _]) (Bs := [box q _ _]) (Cs := [fact _]) q1 |> Scope.swap (As := [box q _ _]) (Bs := [ownA vK _ _ _ _, ownA vV _ _ _ _]) (Cs := [refA x n _, fact _]))
    clear hN c3 g0
    subst eK
    subst eV
    go_wp2_with fail
    refine wp_region_any (by kernel_rfl) ?_
    change wpAny _ _ _ _ _ _ _ (wz.drew)
    have h0 : (wz.drew).cell? ⟨q, 2, none⟩ = some (.slice oK kv.length cK) ∧ (wz.drew).cell? ⟨q, 3, none⟩ = some (.slice oV kv.length cV) := ⟨(Z0.out.rowm (k := q) (vs := [ptr x, .int .i64 sh, .slice oK kv.length cK, .slice oV kv.length cV]) (t := 48) (by simp)).cell rfl, (Z0.out.rowm (k := q) (vs := [ptr x, .int .i64 sh, .slice oK kv.length cK, .slice oV kv.length cV]) (t := 48) (by simp)).cell rfl⟩
    have D0 := Z0
    generalize wz.drew = d0 at D0 h0 ⊢
    refine wpAny_take (i := 0) (v := ?_) rfl (by kernel_rfl) (by kernel_rfl) (by kernel_rfl) (fun _ _ _ h => h) (Or.inl ⟨by rfl, ?_⟩) ?_
    rotate_left 1
    · (intro w'; (try simp only [List.getElem_toArray, List.getElem_cons_succ, List.getElem_cons_zero]); go_simp; (try with_reducible rfl))
    try simp only [Act.put, List.getElem_toArray, List.getElem_cons_succ, List.getElem_cons_zero, List.setIfInBounds_toArray, List.set_cons_zero, List.set_cons_succ]
    refine wpAny_take (i := 1) (v := ?_) rfl (by kernel_rfl) (by kernel_rfl) (by kernel_rfl) (fun _ _ _ h => h) (Or.inl ⟨by rfl, ?_⟩) ?_
    rotate_left 1
    · (intro w'; (try simp only [List.getElem_toArray, List.getElem_cons_succ, List.getElem_cons_zero]); go_simp; (try with_reducible rfl))
    try simp only [Act.put, List.getElem_toArray, List.getElem_cons_succ, List.getElem_cons_zero, List.setIfInBounds_toArray, List.set_cons_zero, List.set_cons_succ]
    refine wpAny_take (i := 2) (v := ?_) rfl (by kernel_rfl) (by kernel_rfl) (by kernel_rfl) (fun _ _ _ h => h) (Or.inl ⟨by rfl, ?_⟩) ?_
    rotate_left 1
    · (intro w'; (try simp only [List.getElem_toArray, List.getElem_cons_succ, List.getElem_cons_zero]); go_simp; (try with_reducible rfl))
    try simp only [Act.put, List.getElem_toArray, List.getElem_cons_succ, List.getElem_cons_zero, List.setIfInBounds_toArray, List.set_cons_zero, List.set_cons_succ]
    refine wpAny_take (i := 3) (v := ?_) rfl (by kernel_rfl) (by kernel_rfl) (by kernel_rfl) (fun _ _ _ h => h) (Or.inl ⟨by rfl, ?_⟩) ?_
    rotate_left 1
    · (intro w'; (try simp only [List.getElem_toArray, List.getElem_cons_succ, List.getElem_cons_zero]); go_simp; (try with_reducible rfl))
    try simp only [Act.put, List.getElem_toArray, List.getElem_cons_succ, List.getElem_cons_zero, List.setIfInBounds_toArray, List.set_cons_zero, List.set_cons_succ]
    refine wpAny_take (i := 4) (v := ?_) rfl (by kernel_rfl) (by kernel_rfl) (by kernel_rfl) (fun _ _ _ h => h) (Or.inl ⟨by rfl, ?_⟩) ?_
    rotate_left 1
    · (intro w'; (try simp only [List.getElem_toArray, List.getElem_cons_succ, List.getElem_cons_zero]); go_simp; (try with_reducible rfl))
    try simp only [Act.put, List.getElem_toArray, List.getElem_cons_succ, List.getElem_cons_zero, List.setIfInBounds_toArray, List.set_cons_zero, List.set_cons_succ]
    refine wpAny_take (i := 6) (v := ?_) rfl (by kernel_rfl) (by kernel_rfl) (by kernel_rfl) (fun _ _ _ h => h) (Or.inl ⟨by rfl, ?_⟩) ?_
    rotate_left 1
    · (intro w'; (try simp only [List.getElem_toArray, List.getElem_cons_succ, List.getElem_cons_zero]); go_simp; (try with_reducible rfl))
    try simp only [Act.put, List.getElem_toArray, List.getElem_cons_succ, List.getElem_cons_zero, List.setIfInBounds_toArray, List.set_cons_zero, List.set_cons_succ]
    refine wpAny_take (i := 9) (v := ?_) rfl (by kernel_rfl) (by kernel_rfl) (by kernel_rfl) (fun _ _ _ h => h) (Or.inl ⟨by rfl, ?_⟩) ?_
    rotate_left 1
    · (intro w'; (try simp only [List.getElem_toArray, List.getElem_cons_succ, List.getElem_cons_zero]); go_simp; (try with_reducible rfl))
    try simp only [Act.put, List.getElem_toArray, List.getElem_cons_succ, List.getElem_cons_zero, List.setIfInBounds_toArray, List.set_cons_zero, List.set_cons_succ]
    refine wpAny_take (i := 10) (v := ?_) rfl (by kernel_rfl) (by kernel_rfl) (by kernel_rfl) (fun _ _ _ h => h) (Or.inl ⟨by rfl, ?_⟩) ?_
    rotate_left 1
    · (intro w'; (try simp only [List.getElem_toArray, List.getElem_cons_succ, List.getElem_cons_zero]); go_simp; (try with_reducible rfl))
    try simp only [Act.put, List.getElem_toArray, List.getElem_cons_succ, List.getElem_cons_zero, List.setIfInBounds_toArray, List.set_cons_zero, List.set_cons_succ]
    refine wpAny_take (i := 11) (v := ?_) rfl (by kernel_rfl) (by kernel_rfl) (by kernel_rfl) (fun _ _ _ h => h) (Or.inl ⟨by rfl, ?_⟩) ?_
    rotate_left 1
    · (intro w'; (try simp only [List.getElem_toArray, List.getElem_cons_succ, List.getElem_cons_zero]); go_simp; (try with_reducible rfl))
    try simp only [Act.put, List.getElem_toArray, List.getElem_cons_succ, List.getElem_cons_zero, List.setIfInBounds_toArray, List.set_cons_zero, List.set_cons_succ]
    refine wpAny_take (i := 13) (v := ?_) rfl (by kernel_rfl) (by kernel_rfl) (by kernel_rfl) (fun _ _ _ h => h) (Or.inl ⟨by rfl, ?_⟩) ?_
    rotate_left 1
    · (intro w'; (try simp only [List.getElem_toArray, List.getElem_cons_succ, List.getElem_cons_zero]); go_simp; (try with_reducible rfl))
    try simp only [Act.put, List.getElem_toArray, List.getElem_cons_succ, List.getElem_cons_zero, List.setIfInBounds_toArray, List.set_cons_zero, List.set_cons_succ]
    refine wpAny_of_U (S := fun w' => w'.cell? ⟨q, 2, none⟩ = some (.slice oK kv.length cK) ∧ w'.cell? ⟨q, 3, none⟩ = some (.slice oV kv.length cV)) (U := [5, 7, 8, 12, 14, 15]) _ _ _ _ ?_
    refine wpAnyU_take (i := 5) (v := ?_) rfl (by kernel_rfl) (by kernel_rfl) (by kernel_rfl) (by kernel_rfl) (fun _ _ _ h => h) (Or.inl ⟨by rfl, ?_⟩) h0 ?_
    rotate_left 1
    · (intro w' hS; (try dsimp only at hS); (try simp only [List.getElem_toArray, List.getElem_cons_succ, List.getElem_cons_zero]); go_simp; (try with_reducible rfl))
    try simp only [Act.put, List.getElem_toArray, List.getElem_cons_succ, List.getElem_cons_zero, List.setIfInBounds_toArray, List.set_cons_zero, List.set_cons_succ]
    refine wpAnyU_take (i := 12) (v := ?_) rfl (by kernel_rfl) (by kernel_rfl) (by kernel_rfl) (by kernel_rfl) (fun _ _ _ h => h) (Or.inl ⟨by rfl, ?_⟩) h0 ?_
    rotate_left 1
    · (intro w' hS; (try dsimp only at hS); (try simp only [List.getElem_toArray, List.getElem_cons_succ, List.getElem_cons_zero]); go_simp; (try with_reducible rfl))
    try simp only [Act.put, List.getElem_toArray, List.getElem_cons_succ, List.getElem_cons_zero, List.setIfInBounds_toArray, List.set_cons_zero, List.set_cons_succ]
    refine wpAnyU_all (rs := [7, 14]) (by kernel_rfl) (by simp) (fun i hi => ?_)
    simp only [List.mem_cons, List.not_mem_nil, or_false] at hi
    rcases hi with rfl | rfl
    · refine wpOpU_step rfl rfl (fun K hK => ?_)
      go_simp
      have D1 := Lib.hid (D0.out.box [.int .i64 obj] 3)
      have h1 : (d0.alloc (.cells ([.int .i64 obj] : List Value).toArray 3)).cell? ⟨q, 2, none⟩ = some (.slice oK kv.length cK) ∧ (d0.alloc (.cells ([.int .i64 obj] : List Value).toArray 3)).cell? ⟨q, 3, none⟩ = some (.slice oV kv.length cV) := ⟨(D1.out.rowm (k := q) (vs := [ptr x, .int .i64 sh, .slice oK kv.length cK, .slice oV kv.length cV]) (t := 48) (by simp)).cell rfl, (D1.out.rowm (k := q) (vs := [ptr x, .int .i64 sh, .slice oK kv.length cK, .slice oV kv.length cV]) (t := 48) (by simp)).cell rfl⟩
      refine hK _ _ ⟨fun _ => h1, ?_⟩
      clear hK K
      generalize d0.alloc (.cells ([.int .i64 obj] : List Value).toArray 3) = d1 at D1 h1 ⊢
      generalize d0.heap.size = x1 at D1 ⊢
      try simp only [Act.put, List.getElem_toArray, List.getElem_cons_succ, List.getElem_cons_zero, List.setIfInBounds_toArray, List.set_cons_zero, List.set_cons_succ]
      refine wpAnyU_all (rs := [8, 14]) (by kernel_rfl) (by simp) (fun i hi => ?_)
      simp only [List.mem_cons, List.not_mem_nil, or_false] at hi
      rcases hi with rfl | rfl
      · refine wpOpU_step rfl rfl (fun K hK => ?_)
        refine wp_append_lies _ (.tmp 27) (.tmp 29) 28 rfl 0 3 i1 _ 1 8 Try.underlying28 hi1 hx0 hx1 hx2 rfl (by omega) (.slice oK kv.length cK) N (nkeys kv) rfl (D1.out.owned 0 rfl) ⟨x1, 0, none⟩ 1 1 [.int .i64 obj] rfl rfl (row_news (D1.out.rowm (k := x1) (vs := [.int .i64 obj]) (t := 3) (by simp))) (by simp [Value.oneCell']) (by omega) (by unfold maxLen; omega) (by omega) (by omega) _ rfl ?_
        intro g2 p2 d2 own gro hat hlt
        have D2 := Lib.hid (Scope.appended (D1.out) own gro hat)
        have h2 : d2.cell? ⟨q, 2, none⟩ = some (.slice oK kv.length cK) ∧ d2.cell? ⟨q, 3, none⟩ = some (.slice oV kv.length cV) := ⟨(D2.out.rowm (k := q) (vs := [ptr x, .int .i64 sh, .slice oK kv.length cK, .slice oV kv.length cV]) (t := 48) (by simp)).cell rfl, (D2.out.rowm (k := q) (vs := [ptr x, .int .i64 sh, .slice oK kv.length cK, .slice oV kv.length cV]) (t := 48) (by simp)).cell rfl⟩
        refine hK _ _ ⟨fun _ => h2, ?_⟩
        clear hK K own gro hat hlt
        try simp only [Act.put, List.getElem_toArray, List.getElem_cons_succ, List.getElem_cons_zero, List.setIfInBounds_toArray, List.set_cons_zero, List.set_cons_succ]
        refine wpAnyU_all (rs := [14]) (by kernel_rfl) (by simp) (fun i hi => ?_)
        obtain rfl : i = 14 := by simpa using hi
        refine wpOpU_step rfl rfl (fun K hK => ?_)
        go_simp
        have D3 := Lib.hid (D2.out.box [.int .u64 next] 22)
        have h3 : (d2.alloc (.cells ([.int .u64 next] : List Value).toArray 22)).cell? ⟨q, 2, none⟩ = some (.slice oK kv.length cK) ∧ (d2.alloc (.cells ([.int .u64 next] : List Value).toArray 22)).cell? ⟨q, 3, none⟩ = some (.slice oV kv.length cV) := ⟨(D3.out.rowm (k := q) (vs := [ptr x, .int .i64 sh, .slice oK kv.length cK, .slice oV kv.length cV]) (t := 48) (by simp)).cell rfl, (D3.out.rowm (k := q) (vs := [ptr x, .int .i64 sh, .slice oK kv.length cK, .slice oV kv.length cV]) (t := 48) (by simp)).cell rfl⟩
        refine hK _ _ ⟨fun _ => h3, ?_⟩
        clear hK K
        generalize d2.alloc (.cells ([.int .u64 next] : List Value).toArray 22) = d3 at D3 h3 ⊢
        generalize d2.heap.size = x3 at D3 ⊢
        try simp only [Act.put, List.getElem_toArray, List.getElem_cons_succ, List.getElem_cons_zero, List.setIfInBounds_toArray, List.set_cons_zero, List.set_cons_succ]
        refine wpAnyU_all (rs := [15]) (by kernel_rfl) (by simp) (fun i hi => ?_)
        obtain rfl : i = 15 := by simpa using hi
        refine wpOpU_step rfl rfl (fun K hK => ?_)
        refine wp_append_lies _ (.tmp 34) (.tmp 36) 46 rfl 0 22 i2 _ 1 8 Try.underlying46 hi2 hy0 hy1 hy2 rfl (by omega) (.slice oV kv.length cV) N (nvals kv) rfl (D3.out.owned 1 rfl) ⟨x3, 0, none⟩ 1 1 [.int .u64 next] rfl rfl (row_news (D3.out.rowm (k := x3) (vs := [.int .u64 next]) (t := 22) (by simp))) (by simp [Value.oneCell']) (by omega) (by unfold maxLen; omega) (by omega) (by omega) _ rfl ?_
        intro g4 p4 d4 own gro hat hlt
        have D4 := Lib.hid ((Scope.appended (D3.out.swap2) own gro hat).swap2)
        have h4 : d4.cell? ⟨q, 2, none⟩ = some (.slice oK kv.length cK) ∧ d4.cell? ⟨q, 3, none⟩ = some (.slice oV kv.length cV) := ⟨(D4.out.rowm (k := q) (vs := [ptr x, .int .i64 sh, .slice oK kv.length cK, .slice oV kv.length cV]) (t := 48) (by simp)).cell rfl, (D4.out.rowm (k := q) (vs := [ptr x, .int .i64 sh, .slice oK kv.length cK, .slice oV kv.length cV]) (t := 48) (by simp)).cell rfl⟩
        refine hK _ _ ⟨fun _ => h4, ?_⟩
        clear hK K own gro hat hlt
        try simp only [Act.put, List.getElem_toArray, List.getElem_cons_succ, List.getElem_cons_zero, List.setIfInBounds_toArray, List.set_cons_zero, List.set_cons_succ]
        have rq := D4.out.rowm (k := q) (vs := [ptr x, .int .i64 sh, .slice oK kv.length cK, .slice oV kv.length cV]) (t := 48) (by simp)
        have fA := rq.free 2
        have fB := rq.free 3
        have zA : d4.cell? ⟨q, 2, none⟩ = some (.slice oK kv.length cK) := rq.cell rfl
        have zB : d4.cell? ⟨q, 3, none⟩ = some (.slice oV kv.length cV) := rq.cell rfl
        clear rq h4
        refine wpAnyU_rest _ _ _ _ (fun j hj => ?_) ?_
        · simp at hj; rcases hj with rfl | rfl | rfl | rfl | rfl | rfl <;> rfl
        refine wpAny_take (i := 16) (v := ?_) rfl (by kernel_rfl) (by kernel_rfl) (by kernel_rfl) (fun _ _ _ h => h) (Or.inl ⟨by rfl, ?_⟩) ?_
        rotate_left 1
        · (intro w'; (try simp only [List.getElem_toArray, List.getElem_cons_succ, List.getElem_cons_zero]); go_simp; (try with_reducible rfl))
        try simp only [Act.put, List.getElem_toArray, List.getElem_cons_succ, List.getElem_cons_zero, List.setIfInBounds_toArray, List.set_cons_zero, List.set_cons_succ]
        refine wpAny_take (i := 17) (v := ?_) rfl (by kernel_rfl) (by kernel_rfl) (by kernel_rfl) (fun _ _ _ h => h) (Or.inl ⟨by rfl, ?_⟩) ?_
        rotate_left 1
        · (intro w'; (try simp only [List.getElem_toArray, List.getElem_cons_succ, List.getElem_cons_zero]); go_simp; (try with_reducible rfl))
        try simp only [Act.put, List.getElem_toArray, List.getElem_cons_succ, List.getElem_cons_zero, List.setIfInBounds_toArray, List.set_cons_zero, List.set_cons_succ]
        refine wpAny_all (rs := [18]) (by kernel_rfl) (by simp) (fun i hi => ?_)
        obtain rfl : i = 18 := by simpa using hi
        refine wpOpU_stepG rfl (by rfl) (fun K hK => ?_)
        go_simp
        refine hK _ _ ?_
        clear hK K
        try simp only [Act.put, List.getElem_toArray, List.getElem_cons_succ, List.getElem_cons_zero, List.setIfInBounds_toArray, List.set_cons_zero, List.set_cons_succ]
        refine wpAny_take (i := 19) (v := ?_) rfl (by kernel_rfl) (by kernel_rfl) (by kernel_rfl) (fun _ _ _ h => h) (Or.inl ⟨by rfl, ?_⟩) ?_
        rotate_left 1
        · (intro w'; (try simp only [List.getElem_toArray, List.getElem_cons_succ, List.getElem_cons_zero]); go_simp; (try with_reducible rfl))
        try simp only [Act.put, List.getElem_toArray, List.getElem_cons_succ, List.getElem_cons_zero, List.setIfInBounds_toArray, List.set_cons_zero, List.set_cons_succ]
        refine wpAny_take (i := 20) (v := ?_) rfl (by kernel_rfl) (by kernel_rfl) (by kernel_rfl) (fun _ _ _ h => h) (Or.inl ⟨by rfl, ?_⟩) ?_
        rotate_left 1
        · (intro w'; (try simp only [List.getElem_toArray, List.getElem_cons_succ, List.getElem_cons_zero]); go_simp; (try with_reducible rfl))
        try simp only [Act.put, List.getElem_toArray, List.getElem_cons_succ, List.getElem_cons_zero, List.setIfInBounds_toArray, List.set_cons_zero, List.set_cons_succ]
        refine wpAny_all (rs := [21]) (by kernel_rfl) (by simp) (fun i hi => ?_)
        obtain rfl : i = 21 := by simpa using hi
        refine wpOpU_stepG rfl (by rfl) (fun K hK => ?_)
        go_simp
        refine hK _ _ ?_
        clear hK K
        try simp only [Act.put, List.getElem_toArray, List.getElem_cons_succ, List.getElem_cons_zero, List.setIfInBounds_toArray, List.set_cons_zero, List.set_cons_succ]
        refine wpAny_done (by kernel_rfl) ?_ _
        go_wp2
        go_end0
        exact link_done D4.out HN.out Hno.out Hnx.out (by omega)
      · refine wpOpU_step rfl rfl (fun K hK => ?_)
        go_simp
        have D5 := Lib.hid (D1.out.box [.int .u64 next] 22)
        have h5 : (d1.alloc (.cells ([.int .u64 next] : List Value).toArray 22)).cell? ⟨q, 2, none⟩ = some (.slice oK kv.length cK) ∧ (d1.alloc (.cells ([.int .u64 next] : List Value).toArray 22)).cell? ⟨q, 3, none⟩ = some (.slice oV kv.length cV) := ⟨(D5.out.rowm (k := q) (vs := [ptr x, .int .i64 sh, .slice oK kv.length cK, .slice oV kv.length cV]) (t := 48) (by simp)).cell rfl, (D5.out.rowm (k := q) (vs := [ptr x, .int .i64 sh, .slice oK kv.length cK, .slice oV kv.length cV]) (t := 48) (by simp)).cell rfl⟩
        refine hK _ _ ⟨fun _ => h5, ?_⟩
        clear hK K
        generalize d1.alloc (.cells ([.int .u64 next] : List Value).toArray 22) = d5 at D5 h5 ⊢
        generalize d1.heap.size = x5 at D5 ⊢
        try simp only [Act.put, List.getElem_toArray, List.getElem_cons_succ, List.getElem_cons_zero, List.setIfInBounds_toArray, List.set_cons_zero, List.set_cons_succ]
        refine wpAnyU_all (rs := [8]) (by kernel_rfl) (by simp) (fun i hi => ?_)
        obtain rfl : i = 8 := by simpa using hi
        refine wpOpU_step rfl rfl (fun K hK => ?_)
        refine wp_append_lies _ (.tmp 27) (.tmp 29) 28 rfl 0 3 i1 _ 1 8 Try.underlying28 hi1 hx0 hx1 hx2 rfl (by omega) (.slice oK kv.length cK) N (nkeys kv) rfl (D5.out.owned 0 rfl) ⟨x1, 0, none⟩ 1 1 [.int .i64 obj] rfl rfl (row_news (D5.out.rowm (k := x1) (vs := [.int .i64 obj]) (t := 3) (by simp))) (by simp [Value.oneCell']) (by omega) (by unfold maxLen; omega) (by omega) (by omega) _ rfl ?_
        intro g6 p6 d6 own gro hat hlt
        have D6 := Lib.hid (Scope.appended (D5.out) own gro hat)
        have h6 : d6.cell? ⟨q, 2, none⟩ = some (.slice oK kv.length cK) ∧ d6.cell? ⟨q, 3, none⟩ = some (.slice oV kv.length cV) := ⟨(D6.out.rowm (k := q) (vs := [ptr x, .int .i64 sh, .slice oK kv.length cK, .slice oV kv.length cV]) (t := 48) (by simp)).cell rfl, (D6.out.rowm (k := q) (vs := [ptr x, .int .i64 sh, .slice oK kv.length cK, .slice oV kv.length cV]) (t := 48) (by simp)).cell rfl⟩
        refine hK _ _ ⟨fun _ => h6, ?_⟩
        clear hK K own gro hat hlt
        try simp only [Act.put, List.getElem_toArray, List.getElem_cons_succ, List.getElem_cons_zero, List.setIfInBounds_toArray, List.set_cons_zero, List.set_cons_succ]
        refine wpAnyU_all (rs := [15]) (by kernel_rfl) (by simp) (fun i hi => ?_)
        obtain rfl : i = 15 := by simpa using hi
        refine wpOpU_step rfl rfl (fun K hK => ?_)
        refine wp_append_lies _ (.tmp 34) (.tmp 36) 46 rfl 0 22 i2 _ 1 8 Try.underlying46 hi2 hy0 hy1 hy2 rfl (by omega) (.slice oV kv.length cV) N (nvals kv) rfl (D6.out.owned 1 rfl) ⟨x5, 0, none⟩ 1 1 [.int .u64 next] rfl rfl (row_news (D6.out.rowm (k := x5) (vs := [.int .u64 next]) (t := 22) (by simp))) (by simp [Value.oneCell']) (by omega) (by unfold maxLen; omega) (by omega) (by omega) _ rfl ?_
        intro g7 p7 d7 own gro hat hlt
        have D7 := Lib.hid ((Scope.appended (D6.out.swap2) own gro hat).swap2)
        have h7 : d7.cell? ⟨q, 2, none⟩ = some (.slice oK kv.length cK) ∧ d7.cell? ⟨q, 3, none⟩ = some (.slice oV kv.length cV) := ⟨(D7.out.rowm (k := q) (vs := [ptr x, .int .i64 sh, .slice oK kv.length cK, .slice oV kv.length cV]) (t := 48) (by simp)).cell rfl, (D7.out.rowm (k := q) (vs := [ptr x, .int .i64 sh, .slice oK kv.length cK, .slice oV kv.length cV]) (t := 48) (by simp)).cell rfl⟩
        refine hK _ _ ⟨fun _ => h7, ?_⟩
        clear hK K own gro hat hlt
        try simp only [Act.put, List.getElem_toArray, List.getElem_cons_succ, List.getElem_cons_zero, List.setIfInBounds_toArray, List.set_cons_zero, List.set_cons_succ]
        have rq := D7.out.rowm (k := q) (vs := [ptr x, .int .i64 sh, .slice oK kv.length cK, .slice oV kv.length cV]) (t := 48) (by simp)
        have fA := rq.free 2
        have fB := rq.free 3
        have zA : d7.cell? ⟨q, 2, none⟩ = some (.slice oK kv.length cK) := rq.cell rfl
        have zB : d7.cell? ⟨q, 3, none⟩ = some (.slice oV kv.length cV) := rq.cell rfl
        clear rq h7
        refine wpAnyU_rest _ _ _ _ (fun j hj => ?_) ?_
        · simp at hj; rcases hj with rfl | rfl | rfl | rfl | rfl | rfl <;> rfl
        refine wpAny_take (i := 16) (v := ?_) rfl (by kernel_rfl) (by kernel_rfl) (by kernel_rfl) (fun _ _ _ h => h) (Or.inl ⟨by rfl, ?_⟩) ?_
        rotate_left 1
        · (intro w'; (try simp only [List.getElem_toArray, List.getElem_cons_succ, List.getElem_cons_zero]); go_simp; (try with_reducible rfl))
        try simp only [Act.put, List.getElem_toArray, List.getElem_cons_succ, List.getElem_cons_zero, List.setIfInBounds_toArray, List.set_cons_zero, List.set_cons_succ]
        refine wpAny_take (i := 17) (v := ?_) rfl (by kernel_rfl) (by kernel_rfl) (by kernel_rfl) (fun _ _ _ h => h) (Or.inl ⟨by rfl, ?_⟩) ?_
        rotate_left 1
        · (intro w'; (try simp only [List.getElem_toArray, List.getElem_cons_succ, List.getElem_cons_zero]); go_simp; (try with_reducible rfl))
        try simp only [Act.put, List.getElem_toArray, List.getElem_cons_succ, List.getElem_cons_zero, List.setIfInBounds_toArray, List.set_cons_zero, List.set_cons_succ]
        refine wpAny_all (rs := [18]) (by kernel_rfl) (by simp) (fun i hi => ?_)
        obtain rfl : i = 18 := by simpa using hi
        refine wpOpU_stepG rfl (by rfl) (fun K hK => ?_)
        go_simp
        refine hK _ _ ?_
        clear hK K
        try simp only [Act.put, List.getElem_toArray, List.getElem_cons_succ, List.getElem_cons_zero, List.setIfInBounds_toArray, List.set_cons_zero, List.set_cons_succ]
        refine wpAny_take (i := 19) (v := ?_) rfl (by kernel_rfl) (by kernel_rfl) (by kernel_rfl) (fun _ _ _ h => h) (Or.inl ⟨by rfl, ?_⟩) ?_
        rotate_left 1
        · (intro w'; (try simp only [List.getElem_toArray, List.getElem_cons_succ, List.getElem_cons_zero]); go_simp; (try with_reducible rfl))
        try simp only [Act.put, List.getElem_toArray, List.getElem_cons_succ, List.getElem_cons_zero, List.setIfInBounds_toArray, List.set_cons_zero, List.set_cons_succ]
        refine wpAny_take (i := 20) (v := ?_) rfl (by kernel_rfl) (by kernel_rfl) (by kernel_rfl) (fun _ _ _ h => h) (Or.inl ⟨by rfl, ?_⟩) ?_
        rotate_left 1
        · (intro w'; (try simp only [List.getElem_toArray, List.getElem_cons_succ, List.getElem_cons_zero]); go_simp; (try with_reducible rfl))
        try simp only [Act.put, List.getElem_toArray, List.getElem_cons_succ, List.getElem_cons_zero, List.setIfInBounds_toArray, List.set_cons_zero, List.set_cons_succ]
        refine wpAny_all (rs := [21]) (by kernel_rfl) (by simp) (fun i hi => ?_)
        obtain rfl : i = 21 := by simpa using hi
        refine wpOpU_stepG rfl (by rfl) (fun K hK => ?_)
        go_simp
        refine hK _ _ ?_
        clear hK K
        try simp only [Act.put, List.getElem_toArray, List.getElem_cons_succ, List.getElem_cons_zero, List.setIfInBounds_toArray, List.set_cons_zero, List.set_cons_succ]
        refine wpAny_done (by kernel_rfl) ?_ _
        go_wp2
        go_end0
        exact link_done D7.out HN.out Hno.out Hnx.out (by omega)
    · refine wpOpU_step rfl rfl (fun K hK => ?_)
      go_simp
      have D8 := Lib.hid (D0.out.box [.int .u64 next] 22)
      have h8 : (d0.alloc (.cells ([.int .u64 next] : List Value).toArray 22)).cell? ⟨q, 2, none⟩ = some (.slice oK kv.length cK) ∧ (d0.alloc (.cells ([.int .u64 next] : List Value).toArray 22)).cell? ⟨q, 3, none⟩ = some (.slice oV kv.length cV) := ⟨(D8.out.rowm (k := q) (vs := [ptr x, .int .i64 sh, .slice oK kv.length cK, .slice oV kv.length cV]) (t := 48) (by simp)).cell rfl, (D8.out.rowm (k := q) (vs := [ptr x, .int .i64 sh, .slice oK kv.length cK, .slice oV kv.length cV]) (t := 48) (by simp)).cell rfl⟩
      refine hK _ _ ⟨fun _ => h8, ?_⟩
      clear hK K
      generalize d0.alloc (.cells ([.int .u64 next] : List Value).toArray 22) = d8 at D8 h8 ⊢
      generalize d0.heap.size = x8 at D8 ⊢
      try simp only [Act.put, List.getElem_toArray, List.getElem_cons_succ, List.getElem_cons_zero, List.setIfInBounds_toArray, List.set_cons_zero, List.set_cons_succ]
      refine wpAnyU_all (rs := [7]) (by kernel_rfl) (by simp) (fun i hi => ?_)
      obtain rfl : i = 7 := by simpa using hi
      refine wpOpU_step rfl rfl (fun K hK => ?_)
      go_simp
      have D9 := Lib.hid (D8.out.box [.int .i64 obj] 3)
      have h9 : (d8.alloc (.cells ([.int .i64 obj] : List Value).toArray 3)).cell? ⟨q, 2, none⟩ = some (.slice oK kv.length cK) ∧ (d8.alloc (.cells ([.int .i64 obj] : List Value).toArray 3)).cell? ⟨q, 3, none⟩ = some (.slice oV kv.length cV) := ⟨(D9.out.rowm (k := q) (vs := [ptr x, .int .i64 sh, .slice oK kv.length cK, .slice oV kv.length cV]) (t := 48) (by simp)).cell rfl, (D9.out.rowm (k := q) (vs := [ptr x, .int .i64 sh, .slice oK kv.length cK, .slice oV kv.length cV]) (t := 48) (by simp)).cell rfl⟩
      refine hK _ _ ⟨fun _ => h9, ?_⟩
      clear hK K
      generalize d8.alloc (.cells ([.int .i64 obj] : List Value).toArray 3) = d9 at D9 h9 ⊢
      generalize d8.heap.size = x9 at D9 ⊢
      try simp only [Act.put, List.getElem_toArray, List.getElem_cons_succ, List.getElem_cons_zero, List.setIfInBounds_toArray, List.set_cons_zero, List.set_cons_succ]
      refine wpAnyU_all (rs := [8]) (by kernel_rfl) (by simp) (fun i hi => ?_)
      obtain rfl : i = 8 := by simpa using hi
      refine wpOpU_step rfl rfl (fun K hK => ?_)
      refine wp_append_lies _ (.tmp 27) (.tmp 29) 28 rfl 0 3 i1 _ 1 8 Try.underlying28 hi1 hx0 hx1 hx2 rfl (by omega) (.slice oK kv.length cK) N (nkeys kv) rfl (D9.out.owned 0 rfl) ⟨x9, 0, none⟩ 1 1 [.int .i64 obj] rfl rfl (row_news (D9.out.rowm (k := x9) (vs := [.int .i64 obj]) (t := 3) (by simp))) (by simp [Value.oneCell']) (by omega) (by unfold maxLen; omega) (by omega) (by omega) _ rfl ?_
      intro g10 p10 d10 own gro hat hlt
      have D10 := Lib.hid (Scope.appended (D9.out) own gro hat)
      have h10 : d10.cell? ⟨q, 2, none⟩ = some (.slice oK kv.length cK) ∧ d10.cell? ⟨q, 3, none⟩ = some (.slice oV kv.length cV) := ⟨(D10.out.rowm (k := q) (vs := [ptr x, .int .i64 sh, .slice oK kv.length cK, .slice oV kv.length cV]) (t := 48) (by simp)).cell rfl, (D10.out.rowm (k := q) (vs := [ptr x, .int .i64 sh, .slice oK kv.length cK, .slice oV kv.length cV]) (t := 48) (by simp)).cell rfl⟩
      refine hK _ _ ⟨fun _ => h10, ?_⟩
      clear hK K own gro hat hlt
      try simp only [Act.put, List.getElem_toArray, List.getElem_cons_succ, List.getElem_cons_zero, List.setIfInBounds_toArray, List.set_cons_zero, List.set_cons_succ]
      refine wpAnyU_all (rs := [15]) (by kernel_rfl) (by simp) (fun i hi => ?_)
      obtain rfl : i = 15 := by simpa using hi
      refine wpOpU_step rfl rfl (fun K hK => ?_)
      refine wp_append_lies _ (.tmp 34) (.tmp 36) 46 rfl 0 22 i2 _ 1 8 Try.underlying46 hi2 hy0 hy1 hy2 rfl (by omega) (.slice oV kv.length cV) N (nvals kv) rfl (D10.out.owned 1 rfl) ⟨x8, 0, none⟩ 1 1 [.int .u64 next] rfl rfl (row_news (D10.out.rowm (k := x8) (vs := [.int .u64 next]) (t := 22) (by simp))) (by simp [Value.oneCell']) (by omega) (by unfold maxLen; omega) (by omega) (by omega) _ rfl ?_
      intro g11 p11 d11 own gro hat hlt
      have D11 := Lib.hid ((Scope.appended (D10.out.swap2) own gro hat).swap2)
      have h11 : d11.cell? ⟨q, 2, none⟩ = some (.slice oK kv.length cK) ∧ d11.cell? ⟨q, 3, none⟩ = some (.slice oV kv.length cV) := ⟨(D11.out.rowm (k := q) (vs := [ptr x, .int .i64 sh, .slice oK kv.length cK, .slice oV kv.length cV]) (t := 48) (by simp)).cell rfl, (D11.out.rowm (k := q) (vs := [ptr x, .int .i64 sh, .slice oK kv.length cK, .slice oV kv.length cV]) (t := 48) (by simp)).cell rfl⟩
      refine hK _ _ ⟨fun _ => h11, ?_⟩
      clear hK K own gro hat hlt
      try simp only [Act.put, List.getElem_toArray, List.getElem_cons_succ, List.getElem_cons_zero, List.setIfInBounds_toArray, List.set_cons_zero, List.set_cons_succ]
      have rq := D11.out.rowm (k := q) (vs := [ptr x, .int .i64 sh, .slice oK kv.length cK, .slice oV kv.length cV]) (t := 48) (by simp)
      have fA := rq.free 2
      have fB := rq.free 3
      have zA : d11.cell? ⟨q, 2, none⟩ = some (.slice oK kv.length cK) := rq.cell rfl
      have zB : d11.cell? ⟨q, 3, none⟩ = some (.slice oV kv.length cV) := rq.cell rfl
      clear rq h11
      refine wpAnyU_rest _ _ _ _ (fun j hj => ?_) ?_
      · simp at hj; rcases hj with rfl | rfl | rfl | rfl | rfl | rfl <;> rfl
      refine wpAny_take (i := 16) (v := ?_) rfl (by kernel_rfl) (by kernel_rfl) (by kernel_rfl) (fun _ _ _ h => h) (Or.inl ⟨by rfl, ?_⟩) ?_
      rotate_left 1
      · (intro w'; (try simp only [List.getElem_toArray, List.getElem_cons_succ, List.getElem_cons_zero]); go_simp; (try with_reducible rfl))
      try simp only [Act.put, List.getElem_toArray, List.getElem_cons_succ, List.getElem_cons_zero, List.setIfInBounds_toArray, List.set_cons_zero, List.set_cons_succ]
      refine wpAny_take (i := 17) (v := ?_) rfl (by kernel_rfl) (by kernel_rfl) (by kernel_rfl) (fun _ _ _ h => h) (Or.inl ⟨by rfl, ?_⟩) ?_
      rotate_left 1
      · (intro w'; (try simp only [List.getElem_toArray, List.getElem_cons_succ, List.getElem_cons_zero]); go_simp; (try with_reducible rfl))
      try simp only [Act.put, List.getElem_toArray, List.getElem_cons_succ, List.getElem_cons_zero, List.setIfInBounds_toArray, List.set_cons_zero, List.set_cons_succ]
      refine wpAny_all (rs := [18]) (by kernel_rfl) (by simp) (fun i hi => ?_)
      obtain rfl : i = 18 := by simpa using hi
      refine wpOpU_stepG rfl (by rfl) (fun K hK => ?_)
      go_simp
      refine hK _ _ ?_
      clear hK K
      try simp only [Act.put, List.getElem_toArray, List.getElem_cons_succ, List.getElem_cons_zero, List.setIfInBounds_toArray, List.set_cons_zero, List.set_cons_succ]
      refine wpAny_take (i := 19) (v := ?_) rfl (by kernel_rfl) (by kernel_rfl) (by kernel_rfl) (fun _ _ _ h => h) (Or.inl ⟨by rfl, ?_⟩) ?_
      rotate_left 1
      · (intro w'; (try simp only [List.getElem_toArray, List.getElem_cons_succ, List.getElem_cons_zero]); go_simp; (try with_reducible rfl))
      try simp only [Act.put, List.getElem_toArray, List.getElem_cons_succ, List.getElem_cons_zero, List.setIfInBounds_toArray, List.set_cons_zero, List.set_cons_succ]
      refine wpAny_take (i := 20) (v := ?_) rfl (by kernel_rfl) (by kernel_rfl) (by kernel_rfl) (fun _ _ _ h => h) (Or.inl ⟨by rfl, ?_⟩) ?_
      rotate_left 1
      · (intro w'; (try simp only [List.getElem_toArray, List.getElem_cons_succ, List.getElem_cons_zero]); go_simp; (try with_reducible rfl))
      try simp only [Act.put, List.getElem_toArray, List.getElem_cons_succ, List.getElem_cons_zero, List.setIfInBounds_toArray, List.set_cons_zero, List.set_cons_succ]
      refine wpAny_all (rs := [21]) (by kernel_rfl) (by simp) (fun i hi => ?_)
      obtain rfl : i = 21 := by simpa using hi
      refine wpOpU_stepG rfl (by rfl) (fun K hK => ?_)
      go_simp
      refine hK _ _ ?_
      clear hK K
      try simp only [Act.put, List.getElem_toArray, List.getElem_cons_succ, List.getElem_cons_zero, List.setIfInBounds_toArray, List.set_cons_zero, List.set_cons_succ]
      refine wpAny_done (by kernel_rfl) ?_ _
      go_wp2
      go_end0
      exact link_done D11.out HN.out Hno.out Hnx.out (by omega)

set_option maxHeartbeats 1000000 in
theorem rinext_does (who obj : Int) (ho : I64 obj) (hkb : kb ≤ 900000) (hl : σ.log.length ≤ 1000000) :
    Does Try.prog [rinA q x n kb sh σ nx] 51 #[ptr q, .int .i64 who, .int .i64 obj] (.int .u64 (nx obj)) [rinA q x n kb sh (σ.put who 5 (nxtL obj)) nx] := by
  refine Does.packX (Fl := rinL q x n kb sh σ nx) (Gl := rinL q x n kb sh (σ.put who 5 (nxtL obj)) nx) fun ⟨vK, vV, kv⟩ S w0 w h => ?_
  obtain ⟨hnx, hkv⟩ := h.fact 4 rfl
  simp only at hnx hkv
  have c0 : w.cell? ⟨q, 0, none⟩ = some (ptr x) := (h.row 1 rfl).cell rfl
  have H0 := Lib.hid h.drew; have Hnx := Lib.hid hnx
  clear h hnx
  have hv : nx obj = lookN kv obj := by rw [Hnx.out]
  rw [hv]
  clear hv
  go_enter Try.func51, Try.ntmps51
  go_wp2_with fail
  go_region_held3 (fun w' => w'.cell? ⟨q, 0, none⟩ = some (ptr x)) (go_keep)
    (first
      | (go_at_call 48
         refine ((rloc_pure 14 obj 0).at H0.out).mono ?_
         rintro e wq ⟨rfl, sq⟩
         have g0 : wq.cell? ⟨q, 0, none⟩ = some (ptr x) := (sq.row 1 rfl).cell rfl
         have Hq := Lib.hid sq
         clear sq)
      | (go_at_call 60
         refine ((rlog_does who 5 (nxtL obj) hl).at0 Hq.out).mono ?_
         rintro e wz ⟨rfl, sz⟩
         have g0 : wz.cell? ⟨q, 0, none⟩ = some (ptr x) := (sz.row 1 rfl).cell rfl
         have Hz := Lib.hid sz
         clear sz))
  obtain ⟨oK, cK, eK, hcK, gK⟩ := own_form (Hz.out.owned 2 rfl)
  obtain ⟨oV, cV, eV, hcV, gV⟩ := own_form (Hz.out.owned 3 rfl)
  have c2 : wz.cell? ⟨q, 2, none⟩ = some vK := (Hz.out.row 1 rfl).cell rfl
  have c3 : wz.cell? ⟨q, 3, none⟩ = some vV := (Hz.out.row 1 rfl).cell rfl
  rw [eK] at c2
  have at0 := rat_any obj c2 (by omega) (fun j y hy => gK j _ (nkeys_get hy))
  have At0 := Lib.hid at0; have EV := Lib.hid eV; have GV := Lib.hid gV
  clear at0 gK gV eK eV c2
  go_wp2_with fail
  refine At0.out.mono ?_
  rintro e w1 ⟨r, rfl, hr, rfl⟩
  rcases hr with ⟨k, v, rfl, hk, hny⟩ | ⟨rfl, hno⟩
  · have hkl : k < kv.length := (List.getElem?_eq_some_iff.1 hk).1
    obtain ⟨g, rfl, zV⟩ := GV.out k _ (nvals_get hk)
    have eV := EV.out
    subst eV
    have ev := lookN_at hk hny
    have Hk := Lib.hid ev
    clear hk hny ev
    have i1 : (k : Int) < (kv.length : Int) := by omega
    have i0 : (0 : Int) ≤ (k : Int) := by omega
    go_wp2
    go_ret
    exact EndsX.mk' (Gl := rinL q x n kb sh (σ.put who 5 (nxtL obj)) nx) (by rw [Hk.out]; rfl) (vK, .slice (some ⟨g, 0, none⟩) kv.length cV, kv) [] (by rw [List.append_nil]; exact Hz.out)
  · have ev := lookN_none hno
    have Hk := Lib.hid ev
    clear hno ev
    go_wp2
    go_ret
    exact EndsX.mk' (Gl := rinL q x n kb sh (σ.put who 5 (nxtL obj)) nx) (by rw [Hk.out]; rfl) (vK, vV, kv) [] (by rw [List.append_nil]; exact Hz.out)
end
end Go.Proofs.Ytjipjhmcpjffcaa
