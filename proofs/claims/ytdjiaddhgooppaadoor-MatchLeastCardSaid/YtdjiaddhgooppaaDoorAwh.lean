/- A small logic over the walk's rules: rows that are let go while other rows hold slices of them. The nodes with a canonical form's numbers embed it. The search finds the least embedding. What match.Embed answers: with all roots given, with nothing given, and for a pattern of two nodes. The walk of the law MatchLeast. -/
import Derived.Test.YtdjiaddhgooppaaDoorAwg
set_option linter.unusedVariables false
set_option linter.unusedSimpArgs false
namespace Go.Aw
open Go.RowKit
inductive ThawL (h h' : Heap) : List AV → List AV → Prop where
  | nil : ThawL h h' [] []
  | cons {x y xs ys} : Thaw h h' x y → ThawL h h' xs ys → ThawL h h' (x :: xs) (y :: ys)
/-- Some rows are let go; the cells of those that stay are what they become. -/
structure Thin (h' h : Heap) : Prop where
  row : ∀ (id : Nat) (r' : Row), h'[id]? = some (some r') → ∃ r : Row, h[id]? = some (some r) ∧ r.gen = r'.gen ∧ r.s = r'.s ∧ r'.els.length ≤ r.els.length ∧ ∀ (i : Nat) (e' : List AV), r'.els[i]? = some e' → ∃ e, r.els[i]? = some e ∧ ThawL h h' e e'
section
variable {K : Ctx} {L : Link} {h h' : Heap} {w : World}
theorem own_thin (hs : Thin h' h) {b : Nat} (ho : Own h' (L.cut h') b) : Own h L b := by
  obtain ⟨id, r, tot, hi, hl⟩ := ho
  simp only [Link.cut] at hl
  rw [if_pos (has_of hi)] at hl
  obtain ⟨r0, hr0, hg0, _⟩ := hs.row id r hi
  exact ⟨id, r0, tot, hr0, hg0 ▸ hl⟩
theorem bar_thin (hs : Thin h' h) : ∀ b, b < w.heap.size → Bar K h' (L.cut h') b → Bar K h L b := by
  rintro b _ (hx | ho)
  · exact .inl hx
  · exact .inr (own_thin hs ho)
theorem dead_not_ownT (hh : HSim K L h w) (hs : Thin h' h) {id : Nat} {r : Row} {b tot : Nat} (hr : h[id]? = some (some r)) (hd : h'[id]?.join = none) (hL : L id r.gen = some (b, tot)) : ¬ Bar K h' (L.cut h') b := by
  rintro (hx | ⟨id', r', tot', hi, hl⟩)
  · obtain ⟨b2, t2, _, _, hl2, _, hX, _⟩ := hh.live id r hr
    rw [hL] at hl2; cases hl2; exact hX hx
  · simp only [Link.cut] at hl
    rw [if_pos (has_of hi)] at hl
    obtain ⟨r0, hr0, hg0, _⟩ := hs.row _ _ hi
    have := hh.inj _ _ _ _ _ _ _ hr hr0 hL (hg0 ▸ hl)
    subst this
    rw [hi] at hd; simp at hd

theorem lst_frozenT (hh : HSim K L h w) (hs : Thin h' h) {id gen s i n : Nat} {xs : List (List FV)} (hr : h[id]? = some (some ⟨gen, s, fz xs⟩)) (hd : h'[id]?.join = none) (hin : i + n ≤ xs.length) (hxs : ∀ e, e ∈ xs → e.length = s) {v : Value}
    (hv : (AV.row id gen s i n).rep w (Bar K h L) L v) : (FV.lst s ((xs.drop i).take n)).rep w (Bar K h' (L.cut h')) v := by
  obtain ⟨b, tot, hL, rfl, hit⟩ := hv
  have hno := dead_not_ownT hh hs hr hd hL
  obtain ⟨b2, t2, c, e, hL2, _, _, hc, hsz, hlen, hat⟩ := hh.live id _ hr
  rw [hL] at hL2; cases hL2
  have hb := (Array.getElem?_eq_some_iff.1 hc).1
  have hn : ((xs.drop i).take n).length = n := by simp; omega
  refine ⟨some ⟨b, i * s, none⟩, tot - i, by rw [hn], by rw [hn]; omega, .inr ⟨b, i * s, rfl, hb, hno, FV.repEls_of ?_⟩⟩
  intro j cs hj
  rw [List.getElem?_take] at hj
  split at hj
  · rename_i hjn
    rw [List.getElem?_drop] at hj
    refine ⟨hxs _ (List.mem_of_getElem? hj), ?_⟩
    have he : (fz xs)[i + j]? = some (cs.map .f) := by simp [fz, List.getElem?_map, hj]
    have h1 := hat _ _ he
    refine FV.repCells_of (L := L) (vs := (c.toList.drop ((i + j) * s)).take s) (AV.repL_stays (Stays.refl _ _) (bar_thin hs) (fun _ _ _ h => h) h1) ?_
    intro k y hk
    rw [List.getElem?_take] at hk
    split at hk
    · rw [List.getElem?_drop] at hk
      rw [cell_block hc, show i * s + j * s + k = (i + j) * s + k from by rw [Nat.add_mul]]; simpa using hk
    · simp at hk
  · simp at hj

theorem Thaw.repT (hh : HSim K L h w) (hs : Thin h' h) {x y : AV} (ht : Thaw h h' x y) : ∀ {v : Value}, x.rep w (Bar K h L) L v → y.rep w (Bar K h' (L.cut h')) (L.cut h') v := by
  induction ht with
  | any => intro v _; trivial
  | nil => intro v hv; exact ⟨none, 0, hv, Nat.le_refl _, .inl rfl⟩
  | same hl => intro v hv; exact AV.rep_lo (bar_thin hs) (cut_ext _) hl hv
  | lst hr hd hin hxs => intro v hv; exact lst_frozenT hh hs hr hd hin hxs hv
  | @whole id gen s n xs hr hd hn hxs =>
    intro v hv
    have := lst_frozenT hh hs (i := 0) (n := n) hr hd (by omega) hxs hv
    subst hn
    simp only [List.drop_zero, List.take_length] at this
    exact this
  | @ref id gen s i o cs xs hr hd hcs =>
    intro v hv
    obtain ⟨b, tot, hL, rfl⟩ := hv
    have hno := dead_not_ownT hh hs hr hd hL
    obtain ⟨b2, t2, c, e, hL2, _, _, hc, hsz, hlen, hat⟩ := hh.live id _ hr
    rw [hL] at hL2; cases hL2
    have hb := (Array.getElem?_eq_some_iff.1 hc).1
    have he : (fz xs)[i]? = some (cs.map .f) := by simp [fz, List.getElem?_map, hcs]
    have h1 := hat _ _ he
    refine ⟨b, i * s + o, rfl, hb, hno, FV.repCells_drop (FV.repCells_of (L := L) (vs := (c.toList.drop (i * s)).take s) (AV.repL_stays (Stays.refl _ _) (bar_thin hs) (fun _ _ _ h => h) h1) ?_) o⟩
    intro k y hk
    rw [List.getElem?_take] at hk
    split at hk
    · rw [List.getElem?_drop] at hk
      rw [cell_block hc]; simpa using hk
    · simp at hk
  | agg0 => intro v hv; obtain ⟨vs, e, hR⟩ := hv; cases hvs : vs.toList with
    | nil => exact ⟨vs, e, by rw [hvs]; trivial⟩
    | cons => rw [hvs] at hR; exact hR.elim
  | tup0 => intro v hv; obtain ⟨vs, e, hR⟩ := hv; cases hvs : vs.toList with
    | nil => exact ⟨vs, e, by rw [hvs]; trivial⟩
    | cons => rw [hvs] at hR; exact hR.elim
  | agg _ _ ih1 ih2 =>
    intro v hv
    obtain ⟨vs, e, hR⟩ := hv
    cases hvs : vs.toList with
    | nil => rw [hvs] at hR; exact hR.elim
    | cons y ys =>
      rw [hvs] at hR
      obtain ⟨vs', e', hR'⟩ := ih2 (v := .agg ys.toArray) ⟨ys.toArray, rfl, hR.2⟩
      cases e'
      exact ⟨vs, e, by rw [hvs]; exact ⟨ih1 hR.1, hR'⟩⟩
  | tup _ _ ih1 ih2 =>
    intro v hv
    obtain ⟨vs, e, hR⟩ := hv
    cases hvs : vs.toList with
    | nil => rw [hvs] at hR; exact hR.elim
    | cons y ys =>
      rw [hvs] at hR
      obtain ⟨vs', e', hR'⟩ := ih2 (v := .tuple ys.toArray) ⟨ys.toArray, rfl, hR.2⟩
      cases e'
      exact ⟨vs, e, by rw [hvs]; exact ⟨ih1 hR.1, hR'⟩⟩
theorem ThawL.rep (hh : HSim K L h w) (hs : Thin h' h) : ∀ {xs ys : List AV} {vs : List Value}, ThawL h h' xs ys → AV.repL w (Bar K h L) L xs vs → AV.repL w (Bar K h' (L.cut h')) (L.cut h') ys vs
  | [], [], [], _, _ => trivial
  | x :: xs, y :: ys, v :: vs, .cons h1 h2, hr => ⟨h1.repT hh hs hr.1, ThawL.rep hh hs h2 hr.2⟩
  | [], [], _ :: _, _, hr => hr.elim
  | _ :: _, _, [], _, hr => hr.elim
end
section
variable {K : Ctx} {m : Nat} {Q : Post} {S : St}
end
end Go.Aw
namespace Go.Aw
open Go.RowKit Go.Proofs

def encIs (l : List Int) : List FV := [.ints l]
def encNs (g : List Nd) : List FV := [.nodes g]
theorem gA_some {α : Type} [Inhabited α] {l : List α} {j : Nat} {a : α} (h : l[j]? = some a) : gA l (j : Int) = a := by
  have hl := (List.getElem?_eq_some_iff.1 h).1
  have := gA_nat hl
  rw [h] at this; exact (Option.some.inj this).symm
/-- What is known of a canonical form of nodes that there are. -/
structure CanonOk (g : List Nd) (p : List Nd) (to l : List Int) : Prop where
  wf : WFG p
  plen : p.length = l.length
  tlen : to.length = g.length
  le : l.length ≤ g.length
  at_ : ∀ j : Nat, j < l.length → (0 ≤ gA l j ∧ gA l j < (g.length : Int)) ∧ gA to (gA l j) = j
  num : ∀ x : Int, 0 ≤ x → x < g.length → gA to x = -1 ∨ (0 ≤ gA to x ∧ gA to x < (l.length : Int) ∧ gA l (gA to x) = x)
  valid : validE p g l = 0
/-- The list of nodes by their numbers, as it is filled. -/
def MOk (to ms : List Int) (i : Int) : Prop := ∀ x : Nat, x < i.toNat → 0 ≤ gA to x → gA ms (gA to x) = x
theorem MOk.set {g p : List Nd} {to l ms : List Int} {i : Int} (hc : CanonOk g p to l) (hml : ms.length = p.length) (h0 : 0 ≤ i) (h1 : i < g.length) (ht : 0 ≤ gA to i) (hm : MOk to ms i) : MOk to (ms.set (gA to i).toNat i) (i + 1) := by
  have hi := (hc.num i h0 h1).resolve_left (by omega)
  have hpl := hc.plen
  intro x hx hx0
  by_cases hxi : (x : Int) = i
  · rw [hxi, gA_set_same rfl (by omega)]
  · have hxn := (hc.num (x : Int) (by omega) (by omega)).resolve_left (by omega)
    have hne : gA to x ≠ gA to i := fun he => hxi (by rw [← hxn.2.2, he, hi.2.2])
    rw [gA_set_ne (by omega)]
    exact hm x (by omega) hx0
theorem MOk.skip {to ms : List Int} {i : Int} (h0 : 0 ≤ i) (ht : gA to i < 0) (hm : MOk to ms i) : MOk to ms (i + 1) := by
  intro x hx hx0
  by_cases hxi : (x : Int) = i
  · rw [hxi] at hx0; omega
  · exact hm x (by omega) hx0
theorem MOk.end {g p : List Nd} {to l ms : List Int} {i : Int} (hc : CanonOk g p to l) (hml : ms.length = p.length) (hi : (g.length : Int) ≤ i) (hm : MOk to ms i) : ms = l := by
  have hpl := hc.plen
  apply List.ext_getElem?
  intro j
  by_cases hj : j < l.length
  · obtain ⟨h1, h2⟩ := hc.at_ j hj
    have e : ((gA l j).toNat : Int) = gA l j := by omega
    have := hm (gA l j).toNat (by omega) (by rw [e, h2]; omega)
    rw [e, h2] at this
    rw [gA_nat (show j < ms.length by omega), gA_nat hj, this]
  · rw [List.getElem?_eq_none (by omega), List.getElem?_eq_none (by omega)]
end Go.Aw
namespace Go.Aw
open Go.RowKit Go.Proofs

/-- What is given stays. -/
def Holds (L M : List Int) : Prop := ∀ j : Nat, j < L.length → gA L j = -1 ∨ gA L j = gA M j
theorem Holds.refl (L : List Int) : Holds L L := fun j _ => .inr rfl
theorem Holds.trans {A B C : List Int} (hl : B.length = A.length) (h : Holds A B) (h' : Holds B C) : Holds A C := fun j hj => by
  rcases h j hj with h1 | h1
  · exact .inl h1
  · rcases h' j (by omega) with h2 | h2
    · exact .inl (by rw [h1, h2])
    · exact .inr (by rw [h1, h2])
theorem Holds.keep {A B : List Int} (h : Holds A B) {j : Nat} (hj : j < A.length) (hn : gA A j ≠ -1) : gA B j = gA A j := ((h j hj).resolve_left hn).symm
/-- The list embeds the pattern. -/
structure Emb (p g : List Nd) (M : List Int) : Prop where
  len : M.length = p.length
  rng : ∀ x, x ∈ M → 0 ≤ x ∧ x < (g.length : Int)
  fine : ∀ j : Nat, j < p.length → nodeErr p g M j = 0
theorem firstErr_all {f : Nat → Int} : ∀ {n : Nat}, firstErr f n = 0 → ∀ j, j < n → f j = 0
  | 0, _, j, hj => by omega
  | n + 1, h, j, hj => by
    rw [firstErr] at h
    split at h
    · rename_i h0
      by_cases hjn : j = n
      · rw [hjn]; exact h
      · exact firstErr_all h0 j (by omega)
    · rename_i h0; exact absurd h h0
theorem validE_iff {p g : List Nd} {M : List Int} : validE p g M = 0 ↔ Emb p g M := by
  constructor
  · intro h
    rw [validE] at h
    split at h
    · omega
    · rename_i hl
      split at h
      · rename_i hr; exact ⟨by omega, hr, firstErr_all h⟩
      · omega
  · intro h
    rw [validE, if_neg (by have := h.len; omega), if_pos h.rng]
    exact firstErr_zero h.fine
theorem Emb.at_ {p g : List Nd} {M : List Int} (h : Emb p g M) {j : Nat} (hj : j < p.length) : 0 ≤ gA M j ∧ gA M j < (g.length : Int) :=
  h.rng _ (gA_mem (l := M) (i := (j : Int)) (by omega) (by have := h.len; omega))
theorem gA_ext {A B : List Int} (hl : A.length = B.length) (h : ∀ j : Nat, j < A.length → gA A j = gA B j) : A = B := by
  apply List.ext_getElem?
  intro j
  by_cases hj : j < A.length
  · rw [gA_nat hj, gA_nat (show j < B.length by omega), h j hj]
  · rw [List.getElem?_eq_none (by omega), List.getElem?_eq_none (by omega)]

/-! ### What is given and taken back -/
structure Giv (L L' G : List Int) : Prop where
  len : L'.length = L.length
  given : ∀ k, k ∈ G → 0 ≤ k ∧ k < (L.length : Int) ∧ gA L k = -1 ∧ gA L' k ≠ -1
  same : ∀ j : Nat, j < L.length → (j : Int) ∉ G → gA L' j = gA L j
theorem Giv.nil (L : List Int) : Giv L L [] := ⟨rfl, fun k hk => by simp at hk, fun _ _ _ => rfl⟩
theorem Giv.ext {L L' G : List Int} (h : Giv L L' G) : Holds L L' := fun j hj => by
  by_cases hm : (j : Int) ∈ G
  · exact .inl (h.given _ hm).2.2.1
  · exact .inr (h.same j hj hm).symm
theorem undoF_len : ∀ (G L : List Int), (undoF G L).length = L.length
  | [], L => rfl
  | k :: G, L => by show (undoF G (L.set k.toNat (-1))).length = _; rw [undoF_len, List.length_set]
theorem undoF_in : ∀ (G L : List Int) (j : Nat), j < L.length → (∀ k, k ∈ G → 0 ≤ k) → gA L j = -1 → gA (undoF G L) j = -1
  | [], L, j, _, _, h => h
  | k :: G, L, j, hj, hG, h => by
    show gA (undoF G (L.set k.toNat (-1))) j = -1
    refine undoF_in G _ j (by rw [List.length_set]; exact hj) (fun x hx => hG x (List.mem_cons_of_mem _ hx)) ?_
    by_cases hk : k.toNat = j
    · exact gA_set_same (by omega) (by omega)
    · rw [gA_set_ne (by omega)]; exact h
theorem undoF_gA : ∀ (G L : List Int) (j : Nat), j < L.length → (∀ k, k ∈ G → 0 ≤ k) → gA (undoF G L) j = if (j : Int) ∈ G then -1 else gA L j
  | [], L, j, _, _ => by simp [undoF]
  | k :: G, L, j, hj, hG => by
    have hk0 := hG k (List.mem_cons_self ..)
    show gA (undoF G (L.set k.toNat (-1))) j = _
    by_cases hk : (j : Int) = k
    · rw [if_pos (by rw [hk]; exact List.mem_cons_self ..)]
      exact undoF_in G _ j (by rw [List.length_set]; exact hj) (fun x hx => hG x (List.mem_cons_of_mem _ hx)) (gA_set_same (by omega) (by omega))
    · rw [undoF_gA G _ j (by rw [List.length_set]; exact hj) (fun x hx => hG x (List.mem_cons_of_mem _ hx)), gA_set_ne (by omega)]
      simp only [List.mem_cons, hk, false_or]
theorem Giv.undo {L L' G : List Int} (h : Giv L L' G) : undoF G L' = L := by
  refine gA_ext (by rw [undoF_len, h.len]) fun j hj => ?_
  rw [undoF_len, h.len] at hj
  rw [undoF_gA G L' j (by rw [h.len]; exact hj) (fun k hk => (h.given k hk).1)]
  split
  · rename_i hm; exact (h.given _ hm).2.2.1.symm
  · rename_i hm; exact h.same j hj hm
theorem giveF_spec {L L1 G : List Int} (h : Giv L L1 G) {i n : Int} (h0 : 0 ≤ i) (h1 : i < L.length) (hn : 0 ≤ n) :
    Giv L (giveF i n L1 G).1 (giveF i n L1 G).2.1 ∧ Holds L1 (giveF i n L1 G).1 ∧ ((giveF i n L1 G).2.2 = true → gA (giveF i n L1 G).1 i = n) ∧ ∀ M, Holds L1 M → gA M i = n → (giveF i n L1 G).2.2 = true ∧ Holds (giveF i n L1 G).1 M := by
  have ei : ((i.toNat : Nat) : Int) = i := by omega
  have hl := h.len
  rw [giveF]
  split
  · rename_i hm
    have hs : gA (L1.set i.toNat n) i = n := gA_set_same rfl (by omega)
    have hLi : gA L i = -1 := by
      rcases h.ext i.toNat (by omega) with h2 | h2
      · rw [ei] at h2; exact h2
      · rw [ei] at h2; rw [h2]; exact hm
    refine ⟨⟨by rw [List.length_set]; exact hl, fun k hk => ?_, fun j hj hjm => ?_⟩, fun j hj => ?_, fun _ => hs, fun M hM hMi => ⟨by simp [hs], fun j hj => ?_⟩⟩
    · rcases List.mem_append.1 hk with hk | hk
      · obtain ⟨a, b, c, d⟩ := h.given k hk
        refine ⟨a, b, c, ?_⟩
        by_cases hki : k = i
        · subst hki; rw [hs]; omega
        · rw [gA_set_ne (by omega)]; exact d
      · rw [List.mem_singleton.1 hk, hs]; exact ⟨h0, h1, hLi, by omega⟩
    · simp only [List.mem_append, List.mem_singleton, not_or] at hjm
      rw [gA_set_ne (by omega)]; exact h.same j hj hjm.1
    · by_cases hji : j = i.toNat
      · rw [hji, ei]; exact .inl hm
      · rw [gA_set_ne (by omega)]; exact .inr rfl
    · rw [List.length_set] at hj
      by_cases hji : j = i.toNat
      · rw [hji, ei, hs, hMi]; exact .inr rfl
      · rw [gA_set_ne (by omega)]; exact hM j hj
  · rename_i hm
    refine ⟨h, Holds.refl _, fun hd => by simpa using hd, fun M hM hMi => ⟨?_, hM⟩⟩
    have := hM.keep (j := i.toNat) (by omega) (by rw [ei]; exact hm)
    rw [ei] at this
    simp [← this, hMi]
theorem kidsF_spec {L : List Int} : ∀ (r : List (Int × Int)) {L1 G : List Int}, (∀ x, x ∈ r → (0 ≤ x.1 ∧ x.1 < (L.length : Int)) ∧ 0 ≤ x.2) → Giv L L1 G →
    Giv L (kidsF r L1 G).1 (kidsF r L1 G).2.1 ∧ Holds L1 (kidsF r L1 G).1 ∧ ((kidsF r L1 G).2.2 = true → ∀ x, x ∈ r → gA (kidsF r L1 G).1 x.1 = x.2) ∧ ∀ M, Holds L1 M → (∀ x, x ∈ r → gA M x.1 = x.2) → (kidsF r L1 G).2.2 = true ∧ Holds (kidsF r L1 G).1 M
  | [], L1, G, _, h => ⟨h, Holds.refl _, fun _ x hx => by simp at hx, fun M hM _ => ⟨rfl, hM⟩⟩
  | (k, n) :: r, L1, G, hr, h => by
    have h1 := hr (k, n) (List.mem_cons_self ..)
    obtain ⟨a1, a2, a3, a4⟩ := giveF_spec h (i := k) (n := n) h1.1.1 h1.1.2 h1.2
    have ek : ((k.toNat : Nat) : Int) = k := by have := h1.1.1; omega
    have hkl : k < L.length := h1.1.2
    rw [kidsF]
    split
    · rename_i hc
      obtain ⟨b1, b2, b3, b4⟩ := kidsF_spec r (fun x hx => hr x (List.mem_cons_of_mem _ hx)) a1
      refine ⟨b1, Holds.trans (by rw [a1.len, h.len]) a2 b2, fun hk x hx => ?_, fun M hM hx => ?_⟩
      · rcases List.mem_cons.1 hx with rfl | hx
        · have e := a3 hc
          have h10 : (0 : Int) ≤ k := h1.1.1
          have h2 : 0 ≤ n := h1.2
          have := b2.keep (j := k.toNat) (by rw [a1.len]; omega) (by rw [ek, e]; omega)
          rw [ek] at this
          show gA _ k = n
          rw [this, e]
        · exact b3 hk x hx
      · have h4 := a4 M hM (hx (k, n) (List.mem_cons_self ..))
        exact b4 M h4.2 (fun x hm => hx x (List.mem_cons_of_mem _ hm))
    · rename_i hc
      refine ⟨a1, a2, fun hk => by simp at hk, fun M hM hx => ?_⟩
      exact absurd (a4 M hM (hx (k, n) (List.mem_cons_self ..))).1 hc

/-! ### A node of the pattern -/
theorem map_zip {f : Int → Int} : ∀ (ks ks' : List Int), ks.length = ks'.length → (ks.map f = ks' ↔ ∀ x, x ∈ ks.zip ks' → f x.1 = x.2)
  | [], [], _ => by simp
  | [], _ :: _, h => by simp at h
  | _ :: _, [], h => by simp at h
  | k :: ks, q :: qs, h => by
    have ih := map_zip (f := f) ks qs (by simpa using h)
    simp only [List.map_cons, List.cons.injEq, List.zip_cons_cons, List.mem_cons, forall_eq_or_imp, ih]
theorem nodeErr_iff {p g : List Nd} {M : List Int} {i : Nat} : nodeErr p g M i = 0 ↔ ((gA p i).op = 0 ∧ (gA p i).sort = (gA g (gA M i)).sort) ∨ ((gA p i).op ≠ 0 ∧ fits (gA p i) (gA g (gA M i)) = true ∧ (gA p i).kids.map (fun k => gA M k) = (gA g (gA M i)).kids) := by
  rw [nodeErr]
  by_cases ho : (gA p i).op = 0
  · rw [if_pos ho]
    by_cases hs : (gA p i).sort = (gA g (gA M i)).sort
    · rw [if_pos hs]; simp [ho, hs]
    · rw [if_neg hs]; simp [ho, hs]
  · rw [if_neg ho]
    show (if fits (gA p i) (gA g (gA M i)) = false then (18 : Int) else _) = 0 ↔ _
    by_cases hf : fits (gA p i) (gA g (gA M i)) = true
    · rw [if_neg (by rw [hf]; simp)]
      by_cases hk : (gA p i).kids.map (fun k => gA M k) = (gA g (gA M i)).kids
      · rw [if_pos hk]; simp [ho, hf, hk]
      · rw [if_neg hk]; simp [ho, hk]
    · rw [if_pos (by simpa using hf)]; simp [ho, hf]
theorem kids_given {p g : List Nd} (hg : WFG g) {M : List Int} {i : Nat} (h0 : 0 ≤ gA M i) (h1 : gA M i < (g.length : Int)) (h : nodeErr p g M i = 0) (ho : (gA p i).op ≠ 0) {k : Int} (hk : k ∈ (gA p i).kids) : gA M k ≠ -1 := by
  rcases nodeErr_iff.1 h with h2 | h2
  · exact absurd h2.1 ho
  · have hm : gA M k ∈ (gA g (gA M i)).kids := by rw [← h2.2.2]; exact List.mem_map_of_mem hk
    have := (hg.node _ _ (gA_at h0 h1)).2 _ hm
    omega
theorem nodeErr_ext {p g : List Nd} (hp : WFG p) (hg : WFG g) {L M : List Int} (hl : L.length = p.length) {i : Nat} (hi : i < p.length) (h0 : 0 ≤ gA L i) (h1 : gA L i < (g.length : Int)) (h : nodeErr p g L i = 0) (hE : Holds L M) : nodeErr p g M i = 0 := by
  have e := hE.keep (j := i) (by omega) (by omega)
  rcases nodeErr_iff.1 h with h2 | h2
  · exact nodeErr_iff.2 (.inl (by rw [e]; exact h2))
  · refine nodeErr_iff.2 (.inr ⟨h2.1, by rw [e]; exact h2.2.1, ?_⟩)
    rw [e, ← h2.2.2]
    refine List.map_congr_left fun k hk => ?_
    have hkr := (hp.node _ _ (gA_at (l := p) (i := (i : Int)) (by omega) (by omega))).2 k hk
    have ek : ((k.toNat : Nat) : Int) = k := by omega
    have := hE.keep (j := k.toNat) (by omega) (by rw [ek]; exact kids_given hg h0 h1 h h2.1 hk)
    rw [ek] at this; exact this
/-- The nodes from a place on are given and fit. -/
def Done (p g : List Nd) (i : Nat) (L : List Int) : Prop := ∀ j : Nat, i ≤ j → j < p.length → gA L j ≠ -1 ∧ nodeErr p g L j = 0
theorem LOk.at_ {p g : List Nd} {L : List Int} (h : LOk p g L) {j : Nat} (hj : j < p.length) (hn : gA L j ≠ -1) : 0 ≤ gA L j ∧ gA L j < (g.length : Int) :=
  (h.2 _ (gA_mem (l := L) (i := (j : Int)) (by omega) (by have := h.1; omega))).resolve_left hn
theorem Done.ext {p g : List Nd} (hp : WFG p) (hg : WFG g) {i : Nat} {L M : List Int} (hL : LOk p g L) (hD : Done p g i L) (hE : Holds L M) : Done p g i M := fun j hj hjp => by
  obtain ⟨a, b⟩ := hD j hj hjp
  have hr := hL.at_ hjp a
  exact ⟨by rw [hE.keep (by rw [hL.1]; exact hjp) a]; exact a, nodeErr_ext hp hg hL.1 hjp hr.1 hr.2 b hE⟩
/-- One node of the pattern is tried with one node of the graph. -/
theorem exam_step {p g : List Nd} (hp : WFG p) (hg : WFG g) {i : Nat} (hi : i < p.length) {n : Int} (hn0 : 0 ≤ n) (hn1 : n < g.length) {L : List Int} (hL : LOk p g L) (hLi : gA L i = -1 ∨ gA L i = n) :
    (∃ L2 G, (∀ fr F sp, examF fr p g i n L F sp = backF G (fr L2 F sp)) ∧ undoF G L2 = L ∧ LOk p g L2 ∧ Holds L L2 ∧ gA L2 i = n ∧ nodeErr p g L2 i = 0 ∧ (∀ M, Emb p g M → Holds L M → gA M i = n → Holds L2 M)) ∨
    ((∀ fr F sp, examF fr p g i n L F sp = ⟨false, L, F, sp⟩) ∧ ∀ M, Emb p g M → Holds L M → gA M i ≠ n) := by
  have hlen := hL.1
  have hLl : (i : Int) < L.length := by omega
  obtain ⟨a1, a2, a3⟩ := giveF_ok (p := p) (g := g) (i := i) (n := n) hL GOk.nil (by omega) (by omega) hn0 hn1
  have hpr := pairs_ok hp hg (i := i) (n := n) (by omega) (by omega) hn0 hn1
  obtain ⟨b1, b2, b3⟩ := kidsF_ok (pairs p g i n) hpr a1 a2
  obtain ⟨c1, c2, c3, c4⟩ := giveF_spec (Giv.nil L) (i := i) (n := n) (by omega) hLl hn0
  have hgi : gA (giveF i n L []).1 i = n := by
    rw [giveF]; split
    · exact gA_set_same (by omega) (by omega)
    · rename_i hne; exact hLi.resolve_left hne
  obtain ⟨d1, d2, d3, d4⟩ := kidsF_spec (pairs p g i n) (fun x hx => ⟨⟨(hpr x hx).1.1, by have := (hpr x hx).1.2; omega⟩, (hpr x hx).2.1⟩) c1
  by_cases ho : (gA p i).op = 0
  · by_cases hs : (gA p i).sort = (gA g n).sort
    · refine .inl ⟨_, _, fun fr F sp => by rw [examF, if_pos ho, if_pos hs], c1.undo, a1, c1.ext, hgi, nodeErr_iff.2 (.inl ⟨ho, by rw [hgi]; exact hs⟩), fun M _ hE hM => (c4 M hE hM).2⟩
    · refine .inr ⟨fun fr F sp => by rw [examF, if_pos ho, if_neg hs, backF]; simp only [Bool.false_eq_true, if_false]; rw [c1.undo], fun M hM hE hMi => ?_⟩
      rcases nodeErr_iff.1 (hM.fine i hi) with h | h
      · rw [hMi] at h; exact hs h.2
      · exact h.1 ho
  · by_cases hf : fits (gA p i) (gA g n) = true
    · have hfl : (gA p i).kids.length = (gA g n).kids.length := by
        simp only [fits, Bool.and_eq_true, decide_eq_true_eq] at hf; exact hf.2
      by_cases hk : (kidsF (pairs p g i n) (giveF i n L []).1 (giveF i n L []).2.1).2.2 = true
      · have hi2 : gA (kidsF (pairs p g i n) (giveF i n L []).1 (giveF i n L []).2.1).1 i = n := by
          rw [d2.keep (j := i) (by rw [c1.len]; omega) (by rw [hgi]; omega), hgi]
        refine .inl ⟨_, _, fun fr F sp => by rw [examF, if_neg ho, if_pos hf, if_pos hk], d1.undo, b1, d1.ext, hi2, nodeErr_iff.2 (.inr ⟨ho, by rw [hi2]; exact hf, ?_⟩), fun M hM hE hMi => ?_⟩
        · rw [hi2]; exact (map_zip _ _ hfl).2 (d3 hk)
        · rcases nodeErr_iff.1 (hM.fine i hi) with h | h
          · exact absurd h.1 ho
          · have := h.2.2
            rw [hMi] at this
            exact (d4 M (c4 M hE hMi).2 ((map_zip _ _ hfl).1 this)).2
      · refine .inr ⟨fun fr F sp => by rw [examF, if_neg ho, if_pos hf, if_neg hk, backF]; simp only [Bool.false_eq_true, if_false]; rw [d1.undo], fun M hM hE hMi => ?_⟩
        rcases nodeErr_iff.1 (hM.fine i hi) with h | h
        · exact absurd h.1 ho
        · have := h.2.2
          rw [hMi] at this
          exact hk (d4 M (c4 M hE hMi).2 ((map_zip _ _ hfl).1 this)).1
    · refine .inr ⟨fun fr F sp => by rw [examF, if_neg ho, if_neg hf, backF]; simp only [Bool.false_eq_true, if_false]; rw [c1.undo], fun M hM hE hMi => ?_⟩
      rcases nodeErr_iff.1 (hM.fine i hi) with h | h
      · exact absurd h.1 ho
      · rw [hMi] at h; exact hf h.2.1

/-! ### The search -/
/-- Not greater, compared from the end. -/
def LeE (A B : List Int) : Prop := A = B ∨ ∃ i : Nat, i < A.length ∧ gA A i < gA B i ∧ ∀ j : Nat, i < j → j < A.length → gA A j = gA B j
structure Spec (p g : List Nd) (L : List Int) (C : List Int → Prop) (x : FR) : Prop where
  sp : x.ok = true → x.sp = false
  good : x.ok = true → Emb p g x.L ∧ Holds L x.L ∧ C x.L ∧ ∀ M, Emb p g M → Holds L M → C M → LeE x.L M
  bad : x.ok = false → x.sp = false → x.L = L ∧ ∀ M, Emb p g M → Holds L M → ¬ C M
theorem Spec.mono {p g : List Nd} {L : List Int} {C C' : List Int → Prop} {x : FR} (h : Spec p g L C x) (hc : ∀ M, Emb p g M → Holds L M → (C M ↔ C' M)) : Spec p g L C' x :=
  ⟨h.sp, fun ho => by
    obtain ⟨a, b, c, d⟩ := h.good ho
    exact ⟨a, b, (hc _ a b).1 c, fun M h1 h2 h3 => d M h1 h2 ((hc M h1 h2).2 h3)⟩, fun ho hs => by
    obtain ⟨a, b⟩ := h.bad ho hs
    exact ⟨a, fun M h1 h2 h3 => b M h1 h2 ((hc M h1 h2).2 h3)⟩⟩
theorem exam_spec {p g : List Nd} (hp : WFG p) (hg : WFG g) {fr : List Int → Int → Bool → FR} {i : Nat} (hi : i < p.length) (hfr : ∀ L F, LOk p g L → Done p g i L → Spec p g L (fun _ => True) (fr L F false)) {n : Int} (hn0 : 0 ≤ n) (hn1 : n < g.length) {L : List Int} (hL : LOk p g L) (hLi : gA L i = -1 ∨ gA L i = n) (hD : Done p g (i + 1) L) (F : Int) : Spec p g L (fun M => gA M i = n) (examF fr p g i n L F false) := by
  rcases exam_step hp hg hi hn0 hn1 hL hLi with ⟨L2, G, h1, h2, h3, h4, h5, h6, h7⟩ | ⟨h1, h2⟩
  · rw [h1]
    have hD2 : Done p g i L2 := fun j hj hjp => by
      by_cases hji : j = i
      · rw [hji, h5]; exact ⟨by omega, h6⟩
      · exact hD.ext hp hg hL h4 j (by omega) hjp
    have hx := hfr L2 F h3 hD2
    refine ⟨hx.sp, fun ho => ?_, fun ho hs => ?_⟩
    · have ho' : (fr L2 F false).ok = true := ho
      obtain ⟨a, b, _, d⟩ := hx.good ho'
      simp only [backF, ho', if_true]
      exact ⟨a, Holds.trans (by rw [h3.1, hL.1]) h4 b, by rw [b.keep (by rw [h3.1]; exact hi) (by rw [h5]; omega), h5], fun M e1 e2 e3 => d M e1 (h7 M e1 e2 e3) trivial⟩
    · have ho' : (fr L2 F false).ok = false := ho
      obtain ⟨a, b⟩ := hx.bad ho' hs
      refine ⟨?_, fun M e1 e2 e3 => b M e1 (h7 M e1 e2 e3) trivial⟩
      show (if (fr L2 F false).ok = true then _ else undoF G (fr L2 F false).L) = L
      rw [ho', if_neg (by simp), a, h2]
  · rw [h1]
    exact ⟨fun ho => by simp at ho, fun ho => by simp at ho, fun _ _ => ⟨rfl, h2⟩⟩
theorem loop_spec {p g : List Nd} {ex : Int → List Int → Int → Bool → FR} {i : Nat} (hi : i < p.length) {L : List Int} (hL : LOk p g L) (hD : Done p g (i + 1) L) (hex : ∀ (n F : Int), 0 ≤ n → n < g.length → Spec p g L (fun M => gA M i = n) (ex n L F false)) : ∀ (k : Nat) (n F : Int), 0 ≤ n → n + k = g.length → Spec p g L (fun M => n ≤ gA M i) (loopF ex k n L F false)
  | 0, n, F, h0, h1 => ⟨fun ho => by simp [loopF] at ho, fun ho => by simp [loopF] at ho, fun _ _ => ⟨rfl, fun M hM _ hn => by have h2 := hM.at_ hi; have h3 : n ≤ gA M i := hn; omega⟩⟩
  | k + 1, n, F, h0, h1 => by
    rw [loopF]
    split
    · exact ⟨fun ho => by simp at ho, fun ho => by simp at ho, fun _ hs => by simp at hs⟩
    · have hy := hex n (F - 1) h0 (by omega)
      generalize ex n L (F - 1) false = y at hy ⊢
      split
      · rename_i ho
        obtain ⟨a, b, c, d⟩ := hy.good ho
        refine ⟨hy.sp, fun _ => ⟨a, b, by show n ≤ gA y.L i; have : gA y.L i = n := c; omega, fun M e1 e2 e3 => ?_⟩, fun h => by rw [ho] at h; simp at h⟩
        have c' : gA y.L i = n := c
        have e3' : n ≤ gA M i := e3
        by_cases hMi : gA M i = n
        · exact d M e1 e2 hMi
        · refine .inr ⟨i, by rw [a.len]; exact hi, by omega, fun j hij hj => ?_⟩
          rw [a.len] at hj
          have hgv := (hD j (by omega) hj).1
          rw [b.keep (by rw [hL.1]; exact hj) hgv, e2.keep (by rw [hL.1]; exact hj) hgv]
      · rename_i ho
        have ho' : y.ok = false := by simpa using ho
        split
        · rename_i hs
          exact ⟨fun h => absurd h ho, fun h => absurd h ho, fun _ h => by rw [hs] at h; simp at h⟩
        · rename_i hs
          have hs' : y.sp = false := by simpa using hs
          obtain ⟨a, b⟩ := hy.bad ho' hs'
          rw [a, hs']
          refine (loop_spec hi hL hD hex k (n + 1) y.F (by omega) (by omega)).mono fun M e1 e2 => ?_
          have h3 : ¬ gA M i = n := b M e1 e2
          constructor <;> intro h4
          · have h5 : n + 1 ≤ gA M i := h4
            show n ≤ gA M i; omega
          · have h5 : n ≤ gA M i := h4
            show n + 1 ≤ gA M i; omega
theorem from_spec {p g : List Nd} (hp : WFG p) (hg : WFG g) : ∀ (i : Nat) (L : List Int) (F : Int), i ≤ p.length → LOk p g L → Done p g i L → Spec p g L (fun _ => True) (fromF p g i L F false)
  | 0, L, F, _, hL, hD => by
    have he : ∀ M, Emb p g M → Holds L M → L = M := fun M hM hE => gA_ext (by rw [hL.1, hM.len]) fun j hj => by
      rw [hL.1] at hj; exact (hE.keep (by rw [hL.1]; exact hj) (hD j (by omega) hj).1).symm
    refine ⟨fun _ => rfl, fun _ => ⟨⟨hL.1, fun x hx => ?_, fun j hj => (hD j (by omega) hj).2⟩, Holds.refl _, trivial, fun M h1 h2 _ => .inl (he M h1 h2)⟩, fun ho => by simp [fromF] at ho⟩
    obtain ⟨j, hj⟩ := List.mem_iff_getElem?.1 hx
    have hjl : j < L.length := (List.getElem?_eq_some_iff.1 hj).1
    have hj : L[j]? = some x := hj
    rw [gA_nat hjl] at hj
    have hjl' : j < p.length := by have := hL.1; omega
    have := hL.at_ hjl' (hD j (by omega) hjl').1
    rw [← Option.some.inj hj]; exact this
  | i + 1, L, F, hi, hL, hD => by
    have ih : ∀ L F, LOk p g L → Done p g i L → Spec p g L (fun _ => True) (fromF p g i L F false) := fun L F h1 h2 => from_spec hp hg i L F (by omega) h1 h2
    rw [fromF]
    split
    · rename_i hm
      refine (loop_spec (by omega) hL hD (fun n F h0 h1 => exam_spec hp hg (by omega) ih h0 h1 hL (.inl hm) hD F) g.length 0 F (by omega) (by omega)).mono fun M h1 h2 => ?_
      have := h1.at_ (j := i) (by omega)
      exact ⟨fun _ => trivial, fun _ => this.1⟩
    · rename_i hm
      have hr := hL.at_ (j := i) (by omega) hm
      refine (exam_spec hp hg (by omega) ih hr.1 hr.2 hL (.inr rfl) hD F).mono fun M h1 h2 => ?_
      exact ⟨fun _ => trivial, fun _ => h2.keep (by rw [hL.1]; omega) hm⟩
end Go.Aw
namespace Go.Aw
open Go.RowKit Go.Proofs

/-- Each node is wanted, or a kid of a later one. -/
def Cov (g : List Nd) (A : Int → Prop) (l : List Int) : Prop := ∀ j : Nat, j < l.length → A (gA l j) ∨ ∃ j' : Nat, j < j' ∧ j' < l.length ∧ gA l j ∈ (gA g (gA l j')).kids
theorem Cov.mono {g : List Nd} {A B : Int → Prop} {l : List Int} (h : Cov g A l) (hab : ∀ x, A x → B x) : Cov g B l := fun j hj => (h j hj).elim (fun h => .inl (hab _ h)) .inr
/-! ### With the roots given -/
theorem gA_repl {n : Nat} {j : Nat} (h : j < n) : gA (List.replicate n (-1 : Int)) (j : Int) = -1 := gA_some (by rw [List.getElem?_replicate, if_pos h])
theorem repl_ok (p g : List Nd) : LOk p g (List.replicate p.length (-1)) := ⟨by simp, fun x hx => .inl (List.eq_of_mem_replicate hx)⟩
theorem Holds.repl (n : Nat) (M : List Int) : Holds (List.replicate n (-1)) M := fun j hj => .inl (gA_repl (by simpa using hj))
/-- The pairs that give the roots. -/
abbrev givenOf (to roots : List Int) : List (Int × Int) := roots.map fun r => (gA to r, r)
/-! ### With nothing given -/
theorem embedF_nil (p g : List Nd) (F : Int) : embedF p g [] F = endF (fromF p g p.length (List.replicate p.length (-1)) F false) := by
  rw [embedF, if_pos (fun x hx => by simp at hx), if_pos (fun x hx => by simp at hx)]; rfl
theorem nil_spec {p g : List Nd} (hp : WFG p) (hg : WFG g) (F : Int) : Spec p g (List.replicate p.length (-1)) (fun _ => True) (fromF p g p.length (List.replicate p.length (-1)) F false) :=
  from_spec hp hg p.length _ F (Nat.le_refl _) (repl_ok p g) (fun j h1 h2 => by omega)
/-! ### A pattern of two nodes -/
theorem two_fuel {p g : List Nd} (hp : WFG p) (hg : WFG g) (h2 : p.length = 2) {L : List Int} (hL : LOk p g L) (hm : gA L (0 : Nat) ≠ -1) (F : Int) (sp : Bool) : (fromF p g 1 L F sp).F = F ∧ (fromF p g 1 L F sp).sp = sp := by
  have hr := hL.at_ (j := 0) (by omega) hm
  rw [fromF, if_neg hm]
  rcases exam_step hp hg (i := 0) (by omega) hr.1 hr.2 hL (.inr rfl) with ⟨L2, G, h1, _⟩ | ⟨h1, _⟩
  · rw [h1]; exact ⟨rfl, rfl⟩
  · rw [h1]; exact ⟨rfl, rfl⟩
theorem exam_fuel {p g : List Nd} (hp : WFG p) (hg : WFG g) (h2 : p.length = 2) (ho : (gA p (1 : Nat)).op ≠ 0) (hk : (0 : Int) ∈ (gA p (1 : Nat)).kids) {n : Int} (hn0 : 0 ≤ n) (hn1 : n < g.length) {L : List Int} (hL : LOk p g L) (hm : gA L (1 : Nat) = -1) (F : Int) (sp : Bool) : (examF (fromF p g 1) p g (1 : Nat) n L F sp).F = F ∧ (examF (fromF p g 1) p g (1 : Nat) n L F sp).sp = sp := by
  rcases exam_step hp hg (i := 1) (by omega) hn0 hn1 hL (.inl hm) with ⟨L2, G, h1, e2, h3, h4, h5, h6, h7⟩ | ⟨h1, _⟩
  · have hk0 : gA L2 (0 : Nat) ≠ -1 := kids_given hg (i := 1) (by rw [h5]; exact hn0) (by rw [h5]; exact hn1) h6 ho hk
    obtain ⟨a, b⟩ := two_fuel hp hg h2 h3 hk0 F sp
    rw [h1]; exact ⟨a, b⟩
  · rw [h1]; exact ⟨rfl, rfl⟩
theorem loop_fuel {p g : List Nd} (hp : WFG p) (hg : WFG g) (h2 : p.length = 2) (ho : (gA p (1 : Nat)).op ≠ 0) (hk : (0 : Int) ∈ (gA p (1 : Nat)).kids) {L : List Int} (hL : LOk p g L) (hm : gA L (1 : Nat) = -1) : ∀ (k : Nat) (n F : Int), 0 ≤ n → n + k = g.length → k < F → (loopF (fun n => examF (fromF p g 1) p g (1 : Nat) n) k n L F false).sp = false
  | 0, n, F, _, _, _ => rfl
  | k + 1, n, F, h0, h1, hF => by
    obtain ⟨a, b⟩ := exam_fuel hp hg h2 ho hk h0 (by omega) hL hm (F - 1) false
    have hs := exam_spec hp hg (i := 1) (by omega) (fun L F h1 h2 => from_spec hp hg 1 L F (by omega) h1 h2) h0 (by omega) hL (.inl hm) (fun j h1 h2 => by omega) (F - 1)
    rw [loopF, if_neg (by omega)]
    split
    · exact b
    · rename_i hok
      rw [if_neg (by rw [b]; simp)]
      rw [(hs.bad (by simpa using hok) b).1, a, b]
      exact loop_fuel hp hg h2 ho hk hL hm k (n + 1) (F - 1) (by omega) (by omega) (by omega)
theorem two_list {M : List Int} (h : M.length = 2) : M = [gA M (0 : Nat), gA M (1 : Nat)] := by
  match M, h with
  | [a, b], _ => rfl
/-- What Embed answers for a pattern of two nodes. -/
theorem embed_two {p g : List Nd} (hp : WFG p) (hg : WFG g) (h2 : p.length = 2) (ho : (gA p (1 : Nat)).op ≠ 0) (hk : (0 : Int) ∈ (gA p (1 : Nat)).kids) {F : Int} (hF : g.length < F) :
    ((embedF p g [] F).2.2 = 0 ∧ ∃ k n : Int, (embedF p g [] F).1 = [k, n] ∧ validE p g [k, n] = 0 ∧ ∀ k' n' : Int, validE p g [k', n'] = 0 → n < n' ∨ (n = n' ∧ k ≤ k')) ∨ ((embedF p g [] F).2.2 = 18 ∧ ∀ k' n' : Int, validE p g [k', n'] ≠ 0) := by
  have hs := nil_spec hp hg F
  have hL := repl_ok p g
  have hsp : (fromF p g p.length (List.replicate p.length (-1)) F false).sp = false := by
    rw [h2] at hL ⊢
    have hm : gA (List.replicate 2 (-1)) ((1 : Nat) : Int) = -1 := rfl
    rw [fromF, if_pos hm]
    exact loop_fuel hp hg h2 ho hk hL hm g.length 0 F (by omega) (by omega) hF
  rw [embedF_nil]
  generalize fromF p g p.length (List.replicate p.length (-1)) F false = x at hs hsp ⊢
  rw [endF, if_neg (by rw [hsp]; simp)]
  by_cases hok : x.ok = true
  · obtain ⟨a, b, _, d⟩ := hs.good hok
    rw [if_pos hok]
    have hx := two_list (by rw [a.len]; exact h2)
    refine .inl ⟨rfl, _, _, hx, ?_, fun k' n' hv => ?_⟩
    · rw [← hx]; exact validE_iff.2 a
    · have e0 : gA [k', n'] ((0 : Nat) : Int) = k' := rfl
      have e1 : gA [k', n'] ((1 : Nat) : Int) = n' := rfl
      rcases d [k', n'] (validE_iff.1 hv) (Holds.repl _ _) trivial with h | ⟨i, hi, h3, h4⟩
      · right
        rw [h, e0, e1]; exact ⟨rfl, Int.le_refl _⟩
      · rw [a.len, h2] at hi h4
        have hi' : i = 0 ∨ i = 1 := by omega
        rcases hi' with rfl | rfl
        · right
          have := h4 1 (by omega) (by omega)
          rw [e1] at this
          rw [e0] at h3
          exact ⟨this, by omega⟩
        · left
          rw [e1] at h3; exact h3
  · rw [if_neg hok]
    exact .inr ⟨rfl, fun k' n' hv => absurd trivial ((hs.bad (by simpa using hok) hsp).2 _ (validE_iff.1 hv) (Holds.repl _ _))⟩
end Go.Aw
namespace Go.Aw
open Go.RowKit Go.Proofs

theorem ops3 {j : Int} (h0 : 0 ≤ j) (h1 : j < 3) : gA ([4, 5, 27] : List Int) j ≠ 0 := by
  have : j = 0 ∨ j = 1 ∨ j = 2 := by omega
  rcases this with rfl | rfl | rfl <;> decide
theorem add_two {a n : Nd} {g' : List Nd} {q : Int} (ha : a.op = 0) (hn : n.op ≠ 0) (hk : (0 : Int) ∈ n.kids) (h : WFG g' ∧ 0 ≤ q ∧ q < g'.length ∧ g'.length ≤ [a].length + 1 ∧ [a].length ≤ g'.length ∧ (g' = [a] ∧ (gA [a] q).op = n.op ∨ KidsIn [a] n ∧ q = [a].length ∧ ∃ s, g' = [a] ++ [{ n with sort := s }])) :
    WFG g' ∧ g'.length = 2 ∧ (gA g' (1 : Nat)).op ≠ 0 ∧ (0 : Int) ∈ (gA g' (1 : Nat)).kids := by
  obtain ⟨h1, h2, h3, _, _, h | ⟨_, _, s, h⟩⟩ := h
  · obtain ⟨rfl, ho⟩ := h
    have : q = 0 := by simp at h3; omega
    subst this
    exact absurd (ho.symm.trans ha) hn
  · subst h; exact ⟨h1, rfl, hn, hk⟩
/-- No pair before this one embeds the pattern. -/
def Bef (p g : List Nd) (n k : Int) : Prop := ∀ k' n' : Int, 0 ≤ k' → k' < g.length → 0 ≤ n' → (n' < n ∨ n' = n ∧ k' < k) → validE p g [k', n'] ≠ 0
theorem Bef.zero {p g : List Nd} : Bef p g 0 0 := fun k' n' h0 _ h1 h => by omega
theorem Bef.step {p g : List Nd} {n k : Int} (h : Bef p g n k) (hv : ¬ validE p g [k, n] = 0) : Bef p g n (k + 1) := fun k' n' h0 h1 h2 hc => by
  by_cases he : k' = k ∧ n' = n
  · rw [he.1, he.2]; exact hv
  · exact h k' n' h0 h1 h2 (by omega)
theorem Bef.row {p g : List Nd} {n k : Int} (h : Bef p g n k) (hk : (g.length : Int) ≤ k) : Bef p g (n + 1) 0 := fun k' n' h0 h1 h2 hc => h k' n' h0 h1 h2 (by omega)
abbrev Two (p g : List Nd) (E : List Int × Int × Int) : Prop := (E.2.2 = 0 ∧ ∃ k n : Int, E.1 = [k, n] ∧ validE p g [k, n] = 0 ∧ ∀ k' n' : Int, validE p g [k', n'] = 0 → n < n' ∨ (n = n' ∧ k ≤ k')) ∨ (E.2.2 = 18 ∧ ∀ k' n' : Int, validE p g [k', n'] ≠ 0)
theorem valid_rng {p g : List Nd} {k n : Int} (h : validE p g [k, n] = 0) : (0 ≤ k ∧ k < (g.length : Int)) ∧ 0 ≤ n ∧ n < (g.length : Int) :=
  ⟨(validE_iff.1 h).rng k (by simp), (validE_iff.1 h).rng n (by simp)⟩
theorem least_at {p g : List Nd} {E : List Int × Int × Int} {k n : Int} (he : Two p g E) (hb : Bef p g n k) (hv : validE p g [k, n] = 0) : E.2.2 = 0 ∧ E.1 = [k, n] := by
  rcases he with ⟨h0, k0, n0, h1, h2, h3⟩ | ⟨_, h⟩
  · have hr := valid_rng h2
    have h4 := h3 k n hv
    have h5 : ¬ (n0 < n ∨ n0 = n ∧ k0 < k) := fun hc => hb k0 n0 hr.1.1 hr.1.2 hr.2.1 hc h2
    have e1 : k0 = k := by omega
    have e2 : n0 = n := by omega
    exact ⟨h0, by rw [h1, e1, e2]⟩
  · exact absurd hv (h k n)
theorem least_none {p g : List Nd} {E : List Int × Int × Int} {n : Int} (he : Two p g E) (hb : Bef p g n 0) (hn : (g.length : Int) ≤ n) : E.2.2 = 18 := by
  rcases he with ⟨h0, k0, n0, h1, h2, h3⟩ | ⟨h, _⟩
  · have hr := valid_rng h2
    exact absurd h2 (hb k0 n0 hr.1.1 hr.1.2 hr.2.1 (by omega))
  · exact h

-- enthymemelaw13.MatchLeast
set_option maxHeartbeats 1000000 in
theorem c_MatchLeast (W0 : World) (N : Nat) (l : List Int) (hl : l.length ≤ 1152921504606846975) (hi : ∀ x, x ∈ l → I6 x) (kind : Int) (hk : I6 kind) (at_ : Int) (hat : I6 at_) : AC (En W0 N) 5 [.f (.ints l), .i kind, .i at_] [] (fun r h => h = [] ∧ r = .b true) := by
  refine AC.enter Tryd.func5 rfl Tryd.ntmps5 (bl rfl) fun X => ?_
  refine sr ?_
  refine WL.v (Val.assign Ev.const) rfl ?_
  refine WL.norm 104 [(0, _), (1, _), (2, _)] [] rfl ⟨rfl, rfl, rfl, trivial⟩ rfl rfl ?_
  refine wn ?_
  refine sr ?_
  refine mv rfl rfl ?_
  refine mv rfl rfl ?_
  refine WL.callV ca8 (evc (tm rfl) (evc Ev.const evn)) (lo1 (lo1 lo0)) rfl (c_Around W0 N _ _ (by assumption) (by omega)) ?_
  rintro _ rfl
  refine WL.callV ca7 (evc (tm rfl) (evc (tm rfl) (evc Ev.const evn))) (lo1 (lo1 (lo1 lo0))) rfl (c_Made W0 N _ _ _ hl hi (by omega) (by omega)) ?_
  rintro _ ⟨g_, rfl, hg_1, hg_2, hg_3⟩
  refine asg rfl rfl ?_
  refine WL.norm 104 [(2, _), (7, _)] [] rfl ⟨rfl, rfl, trivial⟩ rfl rfl ?_
  refine wn ?_
  refine sr ?_
  refine mv rfl rfl ?_
  refine mv rfl rfl ?_
  refine mv rfl rfl ?_
  refine WL.v (Val.ln (enc := Nd.cells) Tryd.underlying23 (tm rfl)) rfl ?_
  refine WL.callV ca8 (evc (tm rfl) (evc (tm rfl) evn)) (lo1 (lo1 lo0)) rfl (c_Around W0 N _ _ hat (by omega)) ?_
  rintro _ rfl
  have har := around_range (n := at_) (most := (g_.length : Int)) (by omega)
  refine WL.v (Val.ix (enc := Nd.cells) Tryd.underlying23 zs35 (tm rfl) (tm rfl) (by omega) (gA_at (by omega) (by omega))) rfl ?_
  refine WL.v (Val.fa (off := 6) Tryd.underlying35 rfl rfl zs33 (tm rfl)) rfl ?_
  refine WL.v (Val.loadAgg Tryd.underlying33 rfl zs33 (tm rfl) (bl rfl)) rfl ?_
  refine WL.v (Val.le (Val.build (vs := [(0, _), (5, _), (6, _)]) Tryd.underlying35 zz35 rfl rfl pl35 rfl ⟨Ev.const, rfl, rfl, rfl, ⟨Ev.const, rfl, rfl, rfl, ⟨(tm rfl), rfl, rfl, rfl, trivial⟩⟩⟩) (Le.agg (ys := [_, .f (.lst 1 []), _, _, _, _, _, _, _]) (LeL.cons (Le.refl _) (LeL.cons Le.nil (LeL.cons (Le.refl _) (LeL.cons (Le.refl _) (LeL.cons (Le.refl _) (LeL.cons (Le.refl _) (LeL.cons (Le.refl _) (LeL.cons (Le.refl _) (LeL.cons (Le.refl _) LeL.nil))))))))))) rfl ?_
  refine WL.stp rfl (Stp.buildFrozen (xs := [_]) (fs := ([⟨0, [], 0, 0, 0, bV0, (gA g_ (around at_ g_.length)).sort⟩] : List Nd).map Nd.cells) Tryd.underlying23 zs35 zz35 rfl rfl (evc (tm rfl) evn) fitL (bl rfl) rfl rfl) ?_
  refine asg rfl rfl ?_
  refine WL.norm 104 [(2, _), (7, _), (8, _)] [] rfl ⟨rfl, rfl, rfl, trivial⟩ rfl rfl ?_
  refine wn ?_
  refine W.seq ?_
  have hwP : WFG ([⟨0, [], 0, 0, 0, bV0, (gA g_ (around at_ g_.length)).sort⟩] : List Nd) := WFG.vars (bl rfl) (fun n hn => by rw [List.mem_singleton.1 hn])
  refine W.region ?_
  refine mv rfl rfl ?_
  refine WL.stp rfl (Stp.buildFrozen (xs := [_, _, _]) (fs := ([4, 5, 27] : List Int).map encI) Tryd.underlying22 zs3 zz3 rfl rfl (evc Ev.const (evc Ev.const (evc Ev.const evn))) fitL (bl rfl) rfl rfl) ?_
  refine mv rfl rfl ?_
  refine WL.v (Val.quo (tm rfl) Ev.const (by omega) rfl) rfl ?_
  refine WL.callV ca8 (evc (tm rfl) (evc Ev.const evn)) (lo1 (lo1 lo0)) rfl (c_Around W0 N _ 3 (I6.wrap _) (by decide)) ?_
  rintro _ rfl
  have ha3 := around_range (n := IntKind.i64.wrap (at_.tdiv 64)) (most := 3) (by omega)
  refine WL.v (Val.ix (enc := encI) Tryd.underlying22 zs3 (tm rfl) (tm rfl) (by omega) (gA_at (by omega) (by simp; omega))) rfl ?_
  refine WL.v (Val.load Tryd.underlying3 rfl (tm rfl)) rfl ?_
  refine WL.stp rfl (Stp.buildFrozen (xs := [_]) (fs := ([0] : List Int).map encI) Tryd.underlying22 zs3 zz3 rfl rfl (evc Ev.const evn) fitL (bl rfl) rfl rfl) ?_
  refine WL.v (Val.build (vs := [(0, _), (1, _)]) Tryd.underlying35 zz35 rfl rfl pl35 rfl ⟨(tm rfl), rfl, rfl, rfl, ⟨(tm rfl), rfl, rfl, rfl, trivial⟩⟩) rfl ?_
  refine WL.callV ca19 (evc (tm rfl) (evc (tm rfl) evn)) (lo1 (lo2 rfl lo0)) rfl (c_Add W0 N ([⟨0, [], 0, 0, 0, bV0, (gA g_ (around at_ g_.length)).sort⟩] : List Nd) hwP (bl rfl) ⟨(gA ([4, 5, 27] : List Int) (around (IntKind.i64.wrap (at_.tdiv 64)) 3)), [0], 0, 0, 0, ByteArray.empty, ⟨0, 0, 0⟩⟩ (bl rfl)) ?_
  rintro _ ⟨g1, q1, e1, rfl, ha1, hb1⟩
  refine mv rfl rfl ?_
  refine WL.v (Val.extract (tm rfl) rfl) rfl ?_
  refine WL.v (Val.extract (tm rfl) rfl) rfl ?_
  refine WL.v (Val.extract (tm rfl) rfl) rfl ?_
  refine asg rfl rfl ?_
  refine asg rfl rfl ?_
  refine asg rfl rfl ?_
  refine WL.norm 104 [(7, _), (8, _), (9, _), (11, _)] [] rfl ⟨rfl, rfl, rfl, rfl, trivial⟩ rfl rfl ?_
  refine wn ?_
  refine W.join (fun S => ∃ (g2 : List Nd) (e : Int), S = ⟨104, [(7, .f (.nodes g_)), (9, .f (.nodes g2)), (11, .i e)], [], []⟩ ∧ (e = 0) ∧ (WFG g2) ∧ (g2.length = 2) ∧ ((gA g2 (1 : Nat)).op ≠ 0) ∧ ((0 : Int) ∈ (gA g2 (1 : Nat)).kids)) ?_ ?_
  · refine sr ?_
    refine mv rfl rfl ?_
    refine WL.v (Val.neq (tm rfl) Ev.const) rfl ?_
    refine WL.norm 104 [(7, _), (8, _), (9, _), (11, _), (46, _)] [] rfl ⟨rfl, rfl, rfl, rfl, rfl, trivial⟩ rfl rfl ?_
    refine wn ?_
    refine W.condP rfl (fun hc4 => ?_) (fun hc4 => ?_)
    · try simp only [td] at hc4
      refine W.region ?_
      refine mv rfl rfl ?_
      refine WL.stp rfl (Stp.buildFrozen (xs := [_, _]) (fs := ([0, 0] : List Int).map encI) Tryd.underlying22 zs3 zz3 rfl rfl (evc Ev.const (evc Ev.const evn)) fitL (bl rfl) rfl rfl) ?_
      refine WL.v (Val.build (vs := [(0, _), (1, _)]) Tryd.underlying35 zz35 rfl rfl pl35 rfl ⟨Ev.const, rfl, rfl, rfl, ⟨(tm rfl), rfl, rfl, rfl, trivial⟩⟩) rfl ?_
      refine WL.callV ca19 (evc (tm rfl) (evc (tm rfl) evn)) (lo1 (lo2 rfl lo0)) rfl (c_Add W0 N ([⟨0, [], 0, 0, 0, bV0, (gA g_ (around at_ g_.length)).sort⟩] : List Nd) hwP (bl rfl) ⟨18, [0, 0], 0, 0, 0, ByteArray.empty, ⟨0, 0, 0⟩⟩ (bl rfl)) ?_
      rintro _ ⟨g4, q4, e4, rfl, ha4, hb4⟩
      refine mv rfl rfl ?_
      refine WL.v (Val.extract (tm rfl) rfl) rfl ?_
      refine WL.v (Val.extract (tm rfl) rfl) rfl ?_
      refine WL.v (Val.extract (tm rfl) rfl) rfl ?_
      refine asg rfl rfl ?_
      refine asg rfl rfl ?_
      refine WL.norm 104 [(7, _), (9, _), (11, _)] [] rfl ⟨rfl, rfl, rfl, trivial⟩ rfl rfl ?_
      refine wn ?_
      exact (by have h0 := hb4 ⟨rfl, rfl, rfl, rfl, rfl, 0, 0, rfl, by decide, by simp, by decide, by simp, rfl⟩; have hA := add_two (a := ⟨0, [], 0, 0, 0, bV0, (gA g_ (around at_ g_.length)).sort⟩) rfl (by decide) (by simp) (ha4 h0); exact ⟨_, _, rfl, h0, hA.1, hA.2.1, hA.2.2.1, hA.2.2.2⟩)
    try simp only [td] at hc4
    refine W.norm 104 [(7, _), (9, _), (11, _)] [] rfl ⟨rfl, rfl, rfl, trivial⟩ rfl rfl ?_
    refine W.skip (nm ?_)
    exact (by have hA := add_two (a := ⟨0, [], 0, 0, 0, bV0, (gA g_ (around at_ g_.length)).sort⟩) rfl (ops3 ha3.1 ha3.2) (by simp) (ha1 hc4); exact ⟨_, _, rfl, hc4, hA.1, hA.2.1, hA.2.2.1, hA.2.2.2⟩)
  rintro S ⟨g2, e, rfl, he0, hw2, hl2, ho2, hk2⟩
  refine W.seq ?_
  refine sr ?_
  refine mv rfl rfl ?_
  refine WL.v (Val.neq (tm rfl) Ev.const) rfl ?_
  refine WL.norm 104 [(7, _), (9, _), (56, _)] [] rfl ⟨rfl, rfl, rfl, trivial⟩ rfl rfl ?_
  refine wn ?_
  refine W.condP rfl (fun hc6 => ?_) (fun hc6 => ?_)
  · try simp only [td] at hc6
    exact absurd he0 hc6
  try simp only [td] at hc6
  refine W.skip (nm ?_)
  refine sr ?_
  refine mv rfl rfl ?_
  refine WL.callV ca13 (evc (tm rfl) evn) (lo1 lo0) rfl (c_graph W0 N _) ?_
  rintro _ rfl
  refine mv rfl rfl ?_
  refine WL.callV ca13 (evc (tm rfl) evn) (lo1 lo0) rfl (c_graph W0 N _) ?_
  rintro _ rfl
  refine WL.callV ca17 (evc (tm rfl) (evc (tm rfl) (evc (Ev.nilL Ev.const) (evc Ev.const evn)))) (lo2 rfl (lo2 rfl (lo1 (lo1 lo0)))) rfl (c_Embed W0 N g2 g_ hw2 hg_1 [] (by decide) 1000 (by decide) (by decide)) ?_
  rintro _ rfl
  refine mv rfl rfl ?_
  refine WL.v (Val.extract (tm rfl) rfl) rfl ?_
  refine WL.v (Val.extract (tm rfl) rfl) rfl ?_
  refine WL.v (Val.extract (tm rfl) rfl) rfl ?_
  refine asg rfl rfl ?_
  refine asg rfl rfl ?_
  refine asg rfl rfl ?_
  refine WL.norm 104 [(7, _), (9, _), (12, _), (14, _)] [] rfl ⟨rfl, rfl, rfl, rfl, trivial⟩ rfl rfl ?_
  refine wn ?_
  refine W.seq ?_
  refine W.seq ?_
  have he := embed_two hw2 hg_1 hl2 ho2 hk2 (F := 1000) (by omega)
  refine W.region ?_
  refine WL.v (Val.assign Ev.const) rfl ?_
  refine WL.norm 104 [(7, _), (9, _), (12, _), (14, _), (15, _)] [] rfl ⟨rfl, rfl, rfl, rfl, rfl, trivial⟩ rfl rfl ?_
  refine wn ?_
  refine W.norm 104 [(7, _), (9, _), (12, _), (14, _), (15, _)] [] rfl ⟨rfl, rfl, rfl, rfl, rfl, trivial⟩ rfl rfl ?_
  refine W.block (W.loop (fun nn S => ∃ (n : Int), S = ⟨104, [(7, .f (.nodes g_)), (9, .f (.nodes g2)), (12, .f (.ints (embedF g2 g_ [] 1000).1)), (14, .i (embedF g2 g_ [] 1000).2.2), (15, .i n)], [], []⟩ ∧ nn = ((g_.length - n).toNat) ∧ (0 ≤ n) ∧ (n ≤ g_.length) ∧ (Bef g2 g_ n 0)) ⟨0, rfl, rfl, by omega, by omega, Bef.zero⟩ ?_)
  rintro nn S ⟨n, rfl, rfl, hn0, hn1, hbn⟩
  refine W.seq ?_
  refine sr ?_
  refine mv rfl rfl ?_
  refine mv rfl rfl ?_
  refine WL.v (Val.ln (enc := Nd.cells) Tryd.underlying23 (tm rfl)) rfl ?_
  refine WL.v (Val.lss (tm rfl) (tm rfl)) rfl ?_
  refine WL.norm 104 [(7, _), (9, _), (12, _), (14, _), (15, _), (69, _)] [] rfl ⟨rfl, rfl, rfl, rfl, rfl, rfl, trivial⟩ rfl rfl ?_
  refine wn ?_
  refine W.condP rfl (fun hc10 => ?_) (fun hc10 => ?_)
  · try simp only [td] at hc10
    refine W.skip (nm ?_)
    refine W.seq ?_
    refine W.block ?_
    refine sr ?_
    refine WL.v (Val.assign Ev.const) rfl ?_
    refine WL.norm 104 [(7, _), (9, _), (12, _), (14, _), (15, _), (16, _)] [] rfl ⟨rfl, rfl, rfl, rfl, rfl, rfl, trivial⟩ rfl rfl ?_
    refine wn ?_
    refine W.norm 104 [(7, _), (9, _), (12, _), (14, _), (15, _), (16, _)] [] rfl ⟨rfl, rfl, rfl, rfl, rfl, rfl, trivial⟩ rfl rfl ?_
    refine W.block (W.loop (fun nn S => ∃ (k : Int), S = ⟨104, [(7, .f (.nodes g_)), (9, .f (.nodes g2)), (12, .f (.ints (embedF g2 g_ [] 1000).1)), (14, .i (embedF g2 g_ [] 1000).2.2), (15, .i n), (16, .i k)], [], []⟩ ∧ nn = ((g_.length - k).toNat) ∧ (0 ≤ k) ∧ (k ≤ g_.length) ∧ (Bef g2 g_ n k)) ⟨0, rfl, rfl, by omega, by omega, hbn⟩ ?_)
    rintro nn S ⟨k, rfl, rfl, hk0, hk1, hbk⟩
    refine W.seq ?_
    refine sr ?_
    refine mv rfl rfl ?_
    refine mv rfl rfl ?_
    refine WL.v (Val.ln (enc := Nd.cells) Tryd.underlying23 (tm rfl)) rfl ?_
    refine WL.v (Val.lss (tm rfl) (tm rfl)) rfl ?_
    refine WL.norm 104 [(7, _), (9, _), (12, _), (14, _), (15, _), (16, _), (75, _)] [] rfl ⟨rfl, rfl, rfl, rfl, rfl, rfl, rfl, trivial⟩ rfl rfl ?_
    refine wn ?_
    refine W.condP rfl (fun hc13 => ?_) (fun hc13 => ?_)
    · try simp only [td] at hc13
      refine W.skip (nm ?_)
      refine W.seq ?_
      refine W.block ?_
      refine sr ?_
      refine mv rfl rfl ?_
      refine WL.callV ca13 (evc (tm rfl) evn) (lo1 lo0) rfl (c_graph W0 N _) ?_
      rintro _ rfl
      refine mv rfl rfl ?_
      refine WL.callV ca13 (evc (tm rfl) evn) (lo1 lo0) rfl (c_graph W0 N _) ?_
      rintro _ rfl
      refine mv rfl rfl ?_
      refine mv rfl rfl ?_
      refine WL.stp rfl (Stp.buildFrozen (xs := [_, _]) (fs := ([k, n] : List Int).map encI) Tryd.underlying22 zs3 zz3 rfl rfl (evc (tm rfl) (evc (tm rfl) evn)) fitL (bl rfl) rfl rfl) ?_
      refine WL.callV ca12 (evc (tm rfl) (evc (tm rfl) (evc (tm rfl) evn))) (lo2 rfl (lo2 rfl (lo1 lo0))) rfl (c_ValidM W0 N _ _ hw2 (by omega) _ (by simp)) ?_
      rintro _ rfl
      refine WL.v (Val.eql (tm rfl) Ev.const) rfl ?_
      refine WL.norm 104 [(7, _), (9, _), (12, _), (14, _), (15, _), (16, _), (86, _)] [] rfl ⟨rfl, rfl, rfl, rfl, rfl, rfl, rfl, trivial⟩ rfl rfl ?_
      refine wn ?_
      refine W.condP rfl (fun hc15 => ?_) (fun hc15 => ?_)
      · try simp only [td] at hc15
        refine W.seq ?_
        have hE := least_at he hbk hc15
        rw [hE.1, hE.2]
        refine W.region ?_
        refine mv rfl rfl ?_
        refine WL.v (Val.eql (tm rfl) Ev.const) rfl ?_
        refine mv rfl rfl ?_
        refine WL.unguard (Grd.t rfl rfl rfl) (by simp) ?_
        refine mv rfl rfl ?_
        refine WL.unguard (Grd.t rfl rfl rfl) (by simp) ?_
        refine mv rfl rfl ?_
        refine WL.unguard (Grd.t rfl rfl rfl) (by simp) ?_
        refine mv rfl rfl ?_
        refine WL.unguard (Grd.t rfl rfl rfl) (by simp) ?_
        refine WL.stp rfl (Stp.buildFrozen (xs := [_, _]) (fs := ([k, n] : List Int).map encI) Tryd.underlying22 zs3 zz3 rfl rfl (evc (tm rfl) (evc (tm rfl) evn)) fitL (bl rfl) rfl rfl) ?_
        refine WL.unguard (Grd.t rfl rfl rfl) (by simp) ?_
        refine WL.callV ca18 (evc (tm rfl) (evc (tm rfl) evn)) (lo1 (lo1 lo0)) rfl (c_SameInts W0 N _ _ (by simp)) ?_
        rintro _ rfl
        refine WL.v (Val.and (tm rfl) (fun _ => (tm rfl))) rfl ?_
        refine mv rfl rfl ?_
        refine WL.unguard (Grd.t rfl rfl rfl) (by simp) ?_
        refine WL.callV ca15 evn lo0 rfl (c_lives W0 N) ?_
        rintro _ rfl
        refine WL.v (Val.and (tm rfl) (fun _ => (tm rfl))) rfl ?_
        refine asg rfl rfl ?_
        refine WL.norm 104 [(6, _)] [] rfl ⟨rfl, trivial⟩ rfl rfl ?_
        refine wn ?_
        refine W.ret (rt2 (rt1 (rt1 (rt2 (rt2 (rt1 (rt1 (rt2 (rt1 ?_)))))))))
        exact Ret.of (.inr rfl) rfl (res1 rfl rfl) (Fewer.nil _) (.inr trivial) (fun id h => absurd h (Nat.not_lt_zero _)) (.same rfl) ⟨rfl, by simp⟩
      try simp only [td] at hc15
      refine W.skip (nb (nm ?_))
      refine W.region ?_
      refine mv rfl rfl ?_
      refine WL.v (Val.add (tm rfl) Ev.const (IntWalk.i64_in _ (by omega))) rfl ?_
      refine asg rfl rfl ?_
      refine WL.norm 104 [(7, _), (9, _), (12, _), (14, _), (15, _), (16, _)] [] rfl ⟨rfl, rfl, rfl, rfl, rfl, rfl, trivial⟩ rfl rfl ?_
      refine wn ?_
      exact ⟨_, by omega, k + 1, rfl, rfl, by omega, by omega, hbk.step hc15⟩
    try simp only [td] at hc13
    refine W.exit (ex1 (ex1 (ex2 (nb (nm ?_)))))
    refine W.region ?_
    refine mv rfl rfl ?_
    refine WL.v (Val.add (tm rfl) Ev.const (IntWalk.i64_in _ (by omega))) rfl ?_
    refine asg rfl rfl ?_
    refine WL.norm 104 [(7, _), (9, _), (12, _), (14, _), (15, _)] [] rfl ⟨rfl, rfl, rfl, rfl, rfl, trivial⟩ rfl rfl ?_
    refine wn ?_
    exact ⟨_, by omega, n + 1, rfl, rfl, by omega, by omega, hbk.row (by omega)⟩
  try simp only [td] at hc10
  refine W.exit (ex1 (ex1 (ex2 (nm ?_))))
  refine W.seq ?_
  have hE := least_none he hbn (by omega)
  rw [hE]
  refine W.region ?_
  refine mv rfl rfl ?_
  refine WL.v (Val.eql (tm rfl) Ev.const) rfl ?_
  refine mv rfl rfl ?_
  refine WL.unguard (Grd.t rfl rfl rfl) (by simp) ?_
  refine WL.callV ca15 evn lo0 rfl (c_lives W0 N) ?_
  rintro _ rfl
  refine WL.v (Val.and (tm rfl) (fun _ => (tm rfl))) rfl ?_
  refine asg rfl rfl ?_
  refine WL.norm 104 [(6, _)] [] rfl ⟨rfl, trivial⟩ rfl rfl ?_
  refine wn ?_
  refine W.ret ?_
  exact Ret.of (.inr rfl) rfl (res1 rfl rfl) (Fewer.nil _) (.inr trivial) (fun id h => absurd h (Nat.not_lt_zero _)) (.same rfl) ⟨rfl, by simp⟩
end Go.Aw
