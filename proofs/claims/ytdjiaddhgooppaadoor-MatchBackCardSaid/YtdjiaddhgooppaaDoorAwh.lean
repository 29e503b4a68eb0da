/- A small logic over the walk's rules: rows that are let go while other rows hold slices of them. The nodes with a canonical form's numbers embed it. The search finds the least embedding. What match.Embed answers: with all roots given, with nothing given, and for a pattern of two nodes. The walk of the law MatchBack. -/
import Derived.Test.YtdjiaddhgooppaaDoorAwg
set_option linter.unusedVariables false
set_option linter.unusedSimpArgs false
namespace Go.Aw
open Go.RowKit
inductive ThawL (h h' : Heap) : List AV → List AV → Prop where
  | nil : ThawL h h' [] []
  | cons {x y xs ys} : Thaw h h' x y → ThawL h h' xs ys → ThawL h h' (x :: xs) (y :: ys)
/-- Some rows are let go; the cells of those that stay are what they become. -/
structure Thin (h' h : Heap) : Prop where
  row : ∀ (id : Nat) (r' : Row), h'[id]? = some (some r') → ∃ r : Row, h[id]? = some (some r) ∧ r.gen = r'.gen ∧ r.s = r'.s ∧ r'.els.length ≤ r.els.length ∧ ∀ (i : Nat) (e' : List AV), r'.els[i]? = some e' → ∃ e, r.els[i]? = some e ∧ ThawL h h' e e'
section
variable {K : Ctx} {L : Link} {h h' : Heap} {w : World}
theorem own_thin (hs : Thin h' h) {b : Nat} (ho : Own h' (L.cut h') b) : Own h L b := by
  obtain ⟨id, r, tot, hi, hl⟩ := ho
  simp only [Link.cut] at hl
  rw [if_pos (has_of hi)] at hl
  obtain ⟨r0, hr0, hg0, _⟩ := hs.row id r hi
  exact ⟨id, r0, tot, hr0, hg0 ▸ hl⟩
theorem bar_thin (hs : Thin h' h) : ∀ b, b < w.heap.size → Bar K h' (L.cut h') b → Bar K h L b := by
  rintro b _ (hx | ho)
  · exact .inl hx
  · exact .inr (own_thin hs ho)
theorem dead_not_ownT (hh : HSim K L h w) (hs : Thin h' h) {id : Nat} {r : Row} {b tot : Nat} (hr : h[id]? = some (some r)) (hd : h'[id]?.join = none) (hL : L id r.gen = some (b, tot)) : ¬ Bar K h' (L.cut h') b := by
  rintro (hx | ⟨id', r', tot', hi, hl⟩)
  · obtain ⟨b2, t2, _, _, hl2, _, hX, _⟩ := hh.live id r hr
    rw [hL] at hl2; cases hl2; exact hX hx
  · simp only [Link.cut] at hl
    rw [if_pos (has_of hi)] at hl
    obtain ⟨r0, hr0, hg0, _⟩ := hs.row _ _ hi
    have := hh.inj _ _ _ _ _ _ _ hr hr0 hL (hg0 ▸ hl)
    subst this
    rw [hi] at hd; simp at hd

theorem lst_frozenT (hh : HSim K L h w) (hs : Thin h' h) {id gen s i n : Nat} {xs : List (List FV)} (hr : h[id]? = some (some ⟨gen, s, fz xs⟩)) (hd : h'[id]?.join = none) (hin : i + n ≤ xs.length) (hxs : ∀ e, e ∈ xs → e.length = s) {v : Value}
    (hv : (AV.row id gen s i n).rep w (Bar K h L) L v) : (FV.lst s ((xs.drop i).take n)).rep w (Bar K h' (L.cut h')) v := by
  obtain ⟨b, tot, hL, rfl, hit⟩ := hv
  have hno := dead_not_ownT hh hs hr hd hL
  obtain ⟨b2, t2, c, e, hL2, _, _, hc, hsz, hlen, hat⟩ := hh.live id _ hr
  rw [hL] at hL2; cases hL2
  have hb := (Array.getElem?_eq_some_iff.1 hc).1
  have hn : ((xs.drop i).take n).length = n := by simp; omega
  refine ⟨some ⟨b, i * s, none⟩, tot - i, by rw [hn], by rw [hn]; omega, .inr ⟨b, i * s, rfl, hb, hno, FV.repEls_of ?_⟩⟩
  intro j cs hj
  rw [List.getElem?_take] at hj
  split at hj
  · rename_i hjn
    rw [List.getElem?_drop] at hj
    refine ⟨hxs _ (List.mem_of_getElem? hj), ?_⟩
    have he : (fz xs)[i + j]? = some (cs.map .f) := by simp [fz, List.getElem?_map, hj]
    have h1 := hat _ _ he
    refine FV.repCells_of (L := L) (vs := (c.toList.drop ((i + j) * s)).take s) (AV.repL_stays (Stays.refl _ _) (bar_thin hs) (fun _ _ _ h => h) h1) ?_
    intro k y hk
    rw [List.getElem?_take] at hk
    split at hk
    · rw [List.getElem?_drop] at hk
      rw [cell_block hc, show i * s + j * s + k = (i + j) * s + k from by rw [Nat.add_mul]]; simpa using hk
    · simp at hk
  · simp at hj

theorem Thaw.repT (hh : HSim K L h w) (hs : Thin h' h) {x y : AV} (ht : Thaw h h' x y) : ∀ {v : Value}, x.rep w (Bar K h L) L v → y.rep w (Bar K h' (L.cut h')) (L.cut h') v := by
  induction ht with
  | any => intro v _; trivial
  | nil => intro v hv; exact ⟨none, 0, hv, Nat.le_refl _, .inl rfl⟩
  | same hl => intro v hv; exact AV.rep_lo (bar_thin hs) (cut_ext _) hl hv
  | lst hr hd hin hxs => intro v hv; exact lst_frozenT hh hs hr hd hin hxs hv
  | @whole id gen s n xs hr hd hn hxs =>
    intro v hv
    have := lst_frozenT hh hs (i := 0) (n := n) hr hd (by omega) hxs hv
    subst hn
    simp only [List.drop_zero, List.take_length] at this
    exact this
  | @ref id gen s i o cs xs hr hd hcs =>
    intro v hv
    obtain ⟨b, tot, hL, rfl⟩ := hv
    have hno := dead_not_ownT hh hs hr hd hL
    obtain ⟨b2, t2, c, e, hL2, _, _, hc, hsz, hlen, hat⟩ := hh.live id _ hr
    rw [hL] at hL2; cases hL2
    have hb := (Array.getElem?_eq_some_iff.1 hc).1
    have he : (fz xs)[i]? = some (cs.map .f) := by simp [fz, List.getElem?_map, hcs]
    have h1 := hat _ _ he
    refine ⟨b, i * s + o, rfl, hb, hno, FV.repCells_drop (FV.repCells_of (L := L) (vs := (c.toList.drop (i * s)).take s) (AV.repL_stays (Stays.refl _ _) (bar_thin hs) (fun _ _ _ h => h) h1) ?_) o⟩
    intro k y hk
    rw [List.getElem?_take] at hk
    split at hk
    · rw [List.getElem?_drop] at hk
      rw [cell_block hc]; simpa using hk
    · simp at hk
  | agg0 => intro v hv; obtain ⟨vs, e, hR⟩ := hv; cases hvs : vs.toList with
    | nil => exact ⟨vs, e, by rw [hvs]; trivial⟩
    | cons => rw [hvs] at hR; exact hR.elim
  | tup0 => intro v hv; obtain ⟨vs, e, hR⟩ := hv; cases hvs : vs.toList with
    | nil => exact ⟨vs, e, by rw [hvs]; trivial⟩
    | cons => rw [hvs] at hR; exact hR.elim
  | agg _ _ ih1 ih2 =>
    intro v hv
    obtain ⟨vs, e, hR⟩ := hv
    cases hvs : vs.toList with
    | nil => rw [hvs] at hR; exact hR.elim
    | cons y ys =>
      rw [hvs] at hR
      obtain ⟨vs', e', hR'⟩ := ih2 (v := .agg ys.toArray) ⟨ys.toArray, rfl, hR.2⟩
      cases e'
      exact ⟨vs, e, by rw [hvs]; exact ⟨ih1 hR.1, hR'⟩⟩
  | tup _ _ ih1 ih2 =>
    intro v hv
    obtain ⟨vs, e, hR⟩ := hv
    cases hvs : vs.toList with
    | nil => rw [hvs] at hR; exact hR.elim
    | cons y ys =>
      rw [hvs] at hR
      obtain ⟨vs', e', hR'⟩ := ih2 (v := .tuple ys.toArray) ⟨ys.toArray, rfl, hR.2⟩
      cases e'
      exact ⟨vs, e, by rw [hvs]; exact ⟨ih1 hR.1, hR'⟩⟩
theorem ThawL.rep (hh : HSim K L h w) (hs : Thin h' h) : ∀ {xs ys : List AV} {vs : List Value}, ThawL h h' xs ys → AV.repL w (Bar K h L) L xs vs → AV.repL w (Bar K h' (L.cut h')) (L.cut h') ys vs
  | [], [], [], _, _ => trivial
  | x :: xs, y :: ys, v :: vs, .cons h1 h2, hr => ⟨h1.repT hh hs hr.1, ThawL.rep hh hs h2 hr.2⟩
  | [], [], _ :: _, _, hr => hr.elim
  | _ :: _, _, [], _, hr => hr.elim
end
section
variable {K : Ctx} {m : Nat} {Q : Post} {S : St}
end
end Go.Aw
namespace Go.Aw
open Go.RowKit Go.Proofs

def encIs (l : List Int) : List FV := [.ints l]
def encNs (g : List Nd) : List FV := [.nodes g]
theorem rootsOf_ok {g : List Nd} (hg : 1 ≤ g.length) (l : List Int) : (∀ r, r ∈ rootsOf g l → 0 ≤ r ∧ r < (g.length : Int)) ∧ (rootsOf g l).length ≤ 3 := by
  refine ⟨fun r hr => ?_, by rw [rootsOf, List.length_map, List.length_take]; omega⟩
  obtain ⟨x, _, rfl⟩ := List.mem_map.1 hr
  have := around_range (n := x) (most := (g.length : Int)) (by omega)
  omega
theorem gA_some {α : Type} [Inhabited α] {l : List α} {j : Nat} {a : α} (h : l[j]? = some a) : gA l (j : Int) = a := by
  have hl := (List.getElem?_eq_some_iff.1 h).1
  have := gA_nat hl
  rw [h] at this; exact (Option.some.inj this).symm
theorem canon_gA (g : List Nd) (l : List Int) {j : Nat} (hj : j < l.length) : gA (canonAt g l l.length).2.1 (j : Int) = nodeOf g l j :=
  gA_some (by rw [canonAt_nodes, List.getElem?_map, List.getElem?_range hj]; rfl)
theorem nodeOf_op (g : List Nd) (l : List Int) (j : Nat) : (nodeOf g l j).op = (gA g (gA l j)).op ∧ (nodeOf g l j).sort = (gA g (gA l j)).sort := by
  rw [nodeOf]; split <;> exact ⟨rfl, rfl⟩
theorem nodeOf_like {g : List Nd} {l : List Int} {j : Nat} (h : ¬ (gA g (gA l j)).op = 0) : (nodeOf g l j).like (gA g (gA l j)) = true := by
  rw [nodeOf, if_neg h]; simp [Nd.like]
theorem canon_kids {g : List Nd} {l : List Int} (hl : VOk g l) (ho : OrdOk g l) {j : Nat} (hj : j < l.length) : (nodeOf g l j).kids.map (fun k => gA l k) = (gA g (gA l j)).kids := by
  rw [nodeOf_kids, List.map_map]
  have : ∀ q, q ∈ (gA g (gA l j)).kids → ((fun k => gA l k) ∘ fun q => gA ((canonAt g l j).1.set (gA l j).toNat j) q) q = q := by
    intro q hq
    obtain ⟨i, _, h2, h3⟩ := canon_kid hl ho hj hq
    show gA l (gA ((canonAt g l j).1.set (gA l j).toNat j) q) = q
    rw [h3, h2]
  exact (List.map_congr_left this).trans (List.map_id _)
theorem valid_canon {g : List Nd} {l : List Int} (hl : VOk g l) (ho : OrdOk g l) : validE (canonAt g l l.length).2.1 g l = 0 := by
  have hlen := (canonAt_ok g l l.length).2.1
  rw [validE, if_neg (by simp [hlen]), if_pos hl.2]
  refine firstErr_zero fun j hj => ?_
  have hj' : j < l.length := by omega
  have e := canon_gA g l hj'
  obtain ⟨h1, h2⟩ := nodeOf_op g l j
  rw [nodeErr, e, h1]
  by_cases hop : (gA g (gA l j)).op = 0
  · rw [if_pos hop, if_pos h2]
  · rw [if_neg hop]
    have hk : (nodeOf g l j).kids.length = (gA g (gA l j)).kids.length := by rw [nodeOf_kids, List.length_map]
    rw [nodeOf_like hop, hk, if_neg (by simp), if_pos (canon_kids hl ho hj')]
/-- What is known of a canonical form of nodes that there are. -/
structure CanonOk (g : List Nd) (p : List Nd) (to l : List Int) : Prop where
  wf : WFG p
  plen : p.length = l.length
  tlen : to.length = g.length
  le : l.length ≤ g.length
  at_ : ∀ j : Nat, j < l.length → (0 ≤ gA l j ∧ gA l j < (g.length : Int)) ∧ gA to (gA l j) = j
  num : ∀ x : Int, 0 ≤ x → x < g.length → gA to x = -1 ∨ (0 ≤ gA to x ∧ gA to x < (l.length : Int) ∧ gA l (gA to x) = x)
  valid : validE p g l = 0
theorem canonR_all {g : List Nd} (hg : WFG g) {roots : List Int} (hr : ∀ r, r ∈ roots → 0 ≤ r ∧ r < (g.length : Int)) : (canonR g roots).2.2 = 0 ∧ CanonOk g (canonR g roots).1 (canonR g roots).2.1 (canonL g roots) := by
  obtain ⟨hl, ho, _⟩ := canonL_all hg hr
  rw [canonR, if_pos hr]
  refine ⟨rfl, canon_wf hg hl ho, (canonAt_ok g _ _).2.1, (canonAt_ok g _ _).1, hl.len, fun j hj => ?_, fun x h0 h1 => ?_, valid_canon hl ho⟩
  · exact ⟨hl.2 _ (gA_mem (l := canonL g roots) (i := (j : Int)) (by omega) (by omega)), (canonAt_num hl _ (Nat.le_refl _)).1 j hj⟩
  · obtain ⟨n1, n2⟩ := canonAt_num hl (canonL g roots).length (Nat.le_refl _)
    by_cases hx : x ∈ (canonL g roots).take (canonL g roots).length
    · obtain ⟨i, hi, _, hix⟩ := mem_take hx
      right
      have := n1 i hi
      rw [hix] at this
      rw [this]; exact ⟨by omega, by omega, hix⟩
    · exact .inl (n2 x h0 h1 hx)
/-- The list of nodes by their numbers, as it is filled. -/
def MOk (to ms : List Int) (i : Int) : Prop := ∀ x : Nat, x < i.toNat → 0 ≤ gA to x → gA ms (gA to x) = x
theorem MOk.set {g p : List Nd} {to l ms : List Int} {i : Int} (hc : CanonOk g p to l) (hml : ms.length = p.length) (h0 : 0 ≤ i) (h1 : i < g.length) (ht : 0 ≤ gA to i) (hm : MOk to ms i) : MOk to (ms.set (gA to i).toNat i) (i + 1) := by
  have hi := (hc.num i h0 h1).resolve_left (by omega)
  have hpl := hc.plen
  intro x hx hx0
  by_cases hxi : (x : Int) = i
  · rw [hxi, gA_set_same rfl (by omega)]
  · have hxn := (hc.num (x : Int) (by omega) (by omega)).resolve_left (by omega)
    have hne : gA to x ≠ gA to i := fun he => hxi (by rw [← hxn.2.2, he, hi.2.2])
    rw [gA_set_ne (by omega)]
    exact hm x (by omega) hx0
theorem MOk.skip {to ms : List Int} {i : Int} (h0 : 0 ≤ i) (ht : gA to i < 0) (hm : MOk to ms i) : MOk to ms (i + 1) := by
  intro x hx hx0
  by_cases hxi : (x : Int) = i
  · rw [hxi] at hx0; omega
  · exact hm x (by omega) hx0
theorem MOk.end {g p : List Nd} {to l ms : List Int} {i : Int} (hc : CanonOk g p to l) (hml : ms.length = p.length) (hi : (g.length : Int) ≤ i) (hm : MOk to ms i) : ms = l := by
  have hpl := hc.plen
  apply List.ext_getElem?
  intro j
  by_cases hj : j < l.length
  · obtain ⟨h1, h2⟩ := hc.at_ j hj
    have e : ((gA l j).toNat : Int) = gA l j := by omega
    have := hm (gA l j).toNat (by omega) (by rw [e, h2]; omega)
    rw [e, h2] at this
    rw [gA_nat (show j < ms.length by omega), gA_nat hj, this]
  · rw [List.getElem?_eq_none (by omega), List.getElem?_eq_none (by omega)]
end Go.Aw
namespace Go.Aw
open Go.RowKit Go.Proofs

/-- What is given stays. -/
def Holds (L M : List Int) : Prop := ∀ j : Nat, j < L.length → gA L j = -1 ∨ gA L j = gA M j
theorem Holds.refl (L : List Int) : Holds L L := fun j _ => .inr rfl
theorem Holds.trans {A B C : List Int} (hl : B.length = A.length) (h : Holds A B) (h' : Holds B C) : Holds A C := fun j hj => by
  rcases h j hj with h1 | h1
  · exact .inl h1
  · rcases h' j (by omega) with h2 | h2
    · exact .inl (by rw [h1, h2])
    · exact .inr (by rw [h1, h2])
theorem Holds.keep {A B : List Int} (h : Holds A B) {j : Nat} (hj : j < A.length) (hn : gA A j ≠ -1) : gA B j = gA A j := ((h j hj).resolve_left hn).symm
/-- The list embeds the pattern. -/
structure Emb (p g : List Nd) (M : List Int) : Prop where
  len : M.length = p.length
  rng : ∀ x, x ∈ M → 0 ≤ x ∧ x < (g.length : Int)
  fine : ∀ j : Nat, j < p.length → nodeErr p g M j = 0
theorem firstErr_all {f : Nat → Int} : ∀ {n : Nat}, firstErr f n = 0 → ∀ j, j < n → f j = 0
  | 0, _, j, hj => by omega
  | n + 1, h, j, hj => by
    rw [firstErr] at h
    split at h
    · rename_i h0
      by_cases hjn : j = n
      · rw [hjn]; exact h
      · exact firstErr_all h0 j (by omega)
    · rename_i h0; exact absurd h h0
theorem validE_iff {p g : List Nd} {M : List Int} : validE p g M = 0 ↔ Emb p g M := by
  constructor
  · intro h
    rw [validE] at h
    split at h
    · omega
    · rename_i hl
      split at h
      · rename_i hr; exact ⟨by omega, hr, firstErr_all h⟩
      · omega
  · intro h
    rw [validE, if_neg (by have := h.len; omega), if_pos h.rng]
    exact firstErr_zero h.fine
theorem Emb.at_ {p g : List Nd} {M : List Int} (h : Emb p g M) {j : Nat} (hj : j < p.length) : 0 ≤ gA M j ∧ gA M j < (g.length : Int) :=
  h.rng _ (gA_mem (l := M) (i := (j : Int)) (by omega) (by have := h.len; omega))
theorem gA_ext {A B : List Int} (hl : A.length = B.length) (h : ∀ j : Nat, j < A.length → gA A j = gA B j) : A = B := by
  apply List.ext_getElem?
  intro j
  by_cases hj : j < A.length
  · rw [gA_nat hj, gA_nat (show j < B.length by omega), h j hj]
  · rw [List.getElem?_eq_none (by omega), List.getElem?_eq_none (by omega)]

/-! ### What is given and taken back -/
structure Giv (L L' G : List Int) : Prop where
  len : L'.length = L.length
  given : ∀ k, k ∈ G → 0 ≤ k ∧ k < (L.length : Int) ∧ gA L k = -1 ∧ gA L' k ≠ -1
  same : ∀ j : Nat, j < L.length → (j : Int) ∉ G → gA L' j = gA L j
theorem Giv.nil (L : List Int) : Giv L L [] := ⟨rfl, fun k hk => by simp at hk, fun _ _ _ => rfl⟩
theorem Giv.ext {L L' G : List Int} (h : Giv L L' G) : Holds L L' := fun j hj => by
  by_cases hm : (j : Int) ∈ G
  · exact .inl (h.given _ hm).2.2.1
  · exact .inr (h.same j hj hm).symm
theorem undoF_len : ∀ (G L : List Int), (undoF G L).length = L.length
  | [], L => rfl
  | k :: G, L => by show (undoF G (L.set k.toNat (-1))).length = _; rw [undoF_len, List.length_set]
theorem undoF_in : ∀ (G L : List Int) (j : Nat), j < L.length → (∀ k, k ∈ G → 0 ≤ k) → gA L j = -1 → gA (undoF G L) j = -1
  | [], L, j, _, _, h => h
  | k :: G, L, j, hj, hG, h => by
    show gA (undoF G (L.set k.toNat (-1))) j = -1
    refine undoF_in G _ j (by rw [List.length_set]; exact hj) (fun x hx => hG x (List.mem_cons_of_mem _ hx)) ?_
    by_cases hk : k.toNat = j
    · exact gA_set_same (by omega) (by omega)
    · rw [gA_set_ne (by omega)]; exact h
theorem undoF_gA : ∀ (G L : List Int) (j : Nat), j < L.length → (∀ k, k ∈ G → 0 ≤ k) → gA (undoF G L) j = if (j : Int) ∈ G then -1 else gA L j
  | [], L, j, _, _ => by simp [undoF]
  | k :: G, L, j, hj, hG => by
    have hk0 := hG k (List.mem_cons_self ..)
    show gA (undoF G (L.set k.toNat (-1))) j = _
    by_cases hk : (j : Int) = k
    · rw [if_pos (by rw [hk]; exact List.mem_cons_self ..)]
      exact undoF_in G _ j (by rw [List.length_set]; exact hj) (fun x hx => hG x (List.mem_cons_of_mem _ hx)) (gA_set_same (by omega) (by omega))
    · rw [undoF_gA G _ j (by rw [List.length_set]; exact hj) (fun x hx => hG x (List.mem_cons_of_mem _ hx)), gA_set_ne (by omega)]
      simp only [List.mem_cons, hk, false_or]
theorem Giv.undo {L L' G : List Int} (h : Giv L L' G) : undoF G L' = L := by
  refine gA_ext (by rw [undoF_len, h.len]) fun j hj => ?_
  rw [undoF_len, h.len] at hj
  rw [undoF_gA G L' j (by rw [h.len]; exact hj) (fun k hk => (h.given k hk).1)]
  split
  · rename_i hm; exact (h.given _ hm).2.2.1.symm
  · rename_i hm; exact h.same j hj hm
theorem giveF_spec {L L1 G : List Int} (h : Giv L L1 G) {i n : Int} (h0 : 0 ≤ i) (h1 : i < L.length) (hn : 0 ≤ n) :
    Giv L (giveF i n L1 G).1 (giveF i n L1 G).2.1 ∧ Holds L1 (giveF i n L1 G).1 ∧ ((giveF i n L1 G).2.2 = true → gA (giveF i n L1 G).1 i = n) ∧ ∀ M, Holds L1 M → gA M i = n → (giveF i n L1 G).2.2 = true ∧ Holds (giveF i n L1 G).1 M := by
  have ei : ((i.toNat : Nat) : Int) = i := by omega
  have hl := h.len
  rw [giveF]
  split
  · rename_i hm
    have hs : gA (L1.set i.toNat n) i = n := gA_set_same rfl (by omega)
    have hLi : gA L i = -1 := by
      rcases h.ext i.toNat (by omega) with h2 | h2
      · rw [ei] at h2; exact h2
      · rw [ei] at h2; rw [h2]; exact hm
    refine ⟨⟨by rw [List.length_set]; exact hl, fun k hk => ?_, fun j hj hjm => ?_⟩, fun j hj => ?_, fun _ => hs, fun M hM hMi => ⟨by simp [hs], fun j hj => ?_⟩⟩
    · rcases List.mem_append.1 hk with hk | hk
      · obtain ⟨a, b, c, d⟩ := h.given k hk
        refine ⟨a, b, c, ?_⟩
        by_cases hki : k = i
        · subst hki; rw [hs]; omega
        · rw [gA_set_ne (by omega)]; exact d
      · rw [List.mem_singleton.1 hk, hs]; exact ⟨h0, h1, hLi, by omega⟩
    · simp only [List.mem_append, List.mem_singleton, not_or] at hjm
      rw [gA_set_ne (by omega)]; exact h.same j hj hjm.1
    · by_cases hji : j = i.toNat
      · rw [hji, ei]; exact .inl hm
      · rw [gA_set_ne (by omega)]; exact .inr rfl
    · rw [List.length_set] at hj
      by_cases hji : j = i.toNat
      · rw [hji, ei, hs, hMi]; exact .inr rfl
      · rw [gA_set_ne (by omega)]; exact hM j hj
  · rename_i hm
    refine ⟨h, Holds.refl _, fun hd => by simpa using hd, fun M hM hMi => ⟨?_, hM⟩⟩
    have := hM.keep (j := i.toNat) (by omega) (by rw [ei]; exact hm)
    rw [ei] at this
    simp [← this, hMi]
theorem kidsF_spec {L : List Int} : ∀ (r : List (Int × Int)) {L1 G : List Int}, (∀ x, x ∈ r → (0 ≤ x.1 ∧ x.1 < (L.length : Int)) ∧ 0 ≤ x.2) → Giv L L1 G →
    Giv L (kidsF r L1 G).1 (kidsF r L1 G).2.1 ∧ Holds L1 (kidsF r L1 G).1 ∧ ((kidsF r L1 G).2.2 = true → ∀ x, x ∈ r → gA (kidsF r L1 G).1 x.1 = x.2) ∧ ∀ M, Holds L1 M → (∀ x, x ∈ r → gA M x.1 = x.2) → (kidsF r L1 G).2.2 = true ∧ Holds (kidsF r L1 G).1 M
  | [], L1, G, _, h => ⟨h, Holds.refl _, fun _ x hx => by simp at hx, fun M hM _ => ⟨rfl, hM⟩⟩
  | (k, n) :: r, L1, G, hr, h => by
    have h1 := hr (k, n) (List.mem_cons_self ..)
    obtain ⟨a1, a2, a3, a4⟩ := giveF_spec h (i := k) (n := n) h1.1.1 h1.1.2 h1.2
    have ek : ((k.toNat : Nat) : Int) = k := by have := h1.1.1; omega
    have hkl : k < L.length := h1.1.2
    rw [kidsF]
    split
    · rename_i hc
      obtain ⟨b1, b2, b3, b4⟩ := kidsF_spec r (fun x hx => hr x (List.mem_cons_of_mem _ hx)) a1
      refine ⟨b1, Holds.trans (by rw [a1.len, h.len]) a2 b2, fun hk x hx => ?_, fun M hM hx => ?_⟩
      · rcases List.mem_cons.1 hx with rfl | hx
        · have e := a3 hc
          have h10 : (0 : Int) ≤ k := h1.1.1
          have h2 : 0 ≤ n := h1.2
          have := b2.keep (j := k.toNat) (by rw [a1.len]; omega) (by rw [ek, e]; omega)
          rw [ek] at this
          show gA _ k = n
          rw [this, e]
        · exact b3 hk x hx
      · have h4 := a4 M hM (hx (k, n) (List.mem_cons_self ..))
        exact b4 M h4.2 (fun x hm => hx x (List.mem_cons_of_mem _ hm))
    · rename_i hc
      refine ⟨a1, a2, fun hk => by simp at hk, fun M hM hx => ?_⟩
      exact absurd (a4 M hM (hx (k, n) (List.mem_cons_self ..))).1 hc

/-! ### A node of the pattern -/
theorem map_zip {f : Int → Int} : ∀ (ks ks' : List Int), ks.length = ks'.length → (ks.map f = ks' ↔ ∀ x, x ∈ ks.zip ks' → f x.1 = x.2)
  | [], [], _ => by simp
  | [], _ :: _, h => by simp at h
  | _ :: _, [], h => by simp at h
  | k :: ks, q :: qs, h => by
    have ih := map_zip (f := f) ks qs (by simpa using h)
    simp only [List.map_cons, List.cons.injEq, List.zip_cons_cons, List.mem_cons, forall_eq_or_imp, ih]
theorem nodeErr_iff {p g : List Nd} {M : List Int} {i : Nat} : nodeErr p g M i = 0 ↔ ((gA p i).op = 0 ∧ (gA p i).sort = (gA g (gA M i)).sort) ∨ ((gA p i).op ≠ 0 ∧ fits (gA p i) (gA g (gA M i)) = true ∧ (gA p i).kids.map (fun k => gA M k) = (gA g (gA M i)).kids) := by
  rw [nodeErr]
  by_cases ho : (gA p i).op = 0
  · rw [if_pos ho]
    by_cases hs : (gA p i).sort = (gA g (gA M i)).sort
    · rw [if_pos hs]; simp [ho, hs]
    · rw [if_neg hs]; simp [ho, hs]
  · rw [if_neg ho]
    show (if fits (gA p i) (gA g (gA M i)) = false then (18 : Int) else _) = 0 ↔ _
    by_cases hf : fits (gA p i) (gA g (gA M i)) = true
    · rw [if_neg (by rw [hf]; simp)]
      by_cases hk : (gA p i).kids.map (fun k => gA M k) = (gA g (gA M i)).kids
      · rw [if_pos hk]; simp [ho, hf, hk]
      · rw [if_neg hk]; simp [ho, hk]
    · rw [if_pos (by simpa using hf)]; simp [ho, hf]
theorem kids_given {p g : List Nd} (hg : WFG g) {M : List Int} {i : Nat} (h0 : 0 ≤ gA M i) (h1 : gA M i < (g.length : Int)) (h : nodeErr p g M i = 0) (ho : (gA p i).op ≠ 0) {k : Int} (hk : k ∈ (gA p i).kids) : gA M k ≠ -1 := by
  rcases nodeErr_iff.1 h with h2 | h2
  · exact absurd h2.1 ho
  · have hm : gA M k ∈ (gA g (gA M i)).kids := by rw [← h2.2.2]; exact List.mem_map_of_mem hk
    have := (hg.node _ _ (gA_at h0 h1)).2 _ hm
    omega
theorem nodeErr_ext {p g : List Nd} (hp : WFG p) (hg : WFG g) {L M : List Int} (hl : L.length = p.length) {i : Nat} (hi : i < p.length) (h0 : 0 ≤ gA L i) (h1 : gA L i < (g.length : Int)) (h : nodeErr p g L i = 0) (hE : Holds L M) : nodeErr p g M i = 0 := by
  have e := hE.keep (j := i) (by omega) (by omega)
  rcases nodeErr_iff.1 h with h2 | h2
  · exact nodeErr_iff.2 (.inl (by rw [e]; exact h2))
  · refine nodeErr_iff.2 (.inr ⟨h2.1, by rw [e]; exact h2.2.1, ?_⟩)
    rw [e, ← h2.2.2]
    refine List.map_congr_left fun k hk => ?_
    have hkr := (hp.node _ _ (gA_at (l := p) (i := (i : Int)) (by omega) (by omega))).2 k hk
    have ek : ((k.toNat : Nat) : Int) = k := by omega
    have := hE.keep (j := k.toNat) (by omega) (by rw [ek]; exact kids_given hg h0 h1 h h2.1 hk)
    rw [ek] at this; exact this
/-- The nodes from a place on are given and fit. -/
def Done (p g : List Nd) (i : Nat) (L : List Int) : Prop := ∀ j : Nat, i ≤ j → j < p.length → gA L j ≠ -1 ∧ nodeErr p g L j = 0
theorem LOk.at_ {p g : List Nd} {L : List Int} (h : LOk p g L) {j : Nat} (hj : j < p.length) (hn : gA L j ≠ -1) : 0 ≤ gA L j ∧ gA L j < (g.length : Int) :=
  (h.2 _ (gA_mem (l := L) (i := (j : Int)) (by omega) (by have := h.1; omega))).resolve_left hn
theorem Done.ext {p g : List Nd} (hp : WFG p) (hg : WFG g) {i : Nat} {L M : List Int} (hL : LOk p g L) (hD : Done p g i L) (hE : Holds L M) : Done p g i M := fun j hj hjp => by
  obtain ⟨a, b⟩ := hD j hj hjp
  have hr := hL.at_ hjp a
  exact ⟨by rw [hE.keep (by rw [hL.1]; exact hjp) a]; exact a, nodeErr_ext hp hg hL.1 hjp hr.1 hr.2 b hE⟩
/-- One node of the pattern is tried with one node of the graph. -/
theorem exam_step {p g : List Nd} (hp : WFG p) (hg : WFG g) {i : Nat} (hi : i < p.length) {n : Int} (hn0 : 0 ≤ n) (hn1 : n < g.length) {L : List Int} (hL : LOk p g L) (hLi : gA L i = -1 ∨ gA L i = n) :
    (∃ L2 G, (∀ fr F sp, examF fr p g i n L F sp = backF G (fr L2 F sp)) ∧ undoF G L2 = L ∧ LOk p g L2 ∧ Holds L L2 ∧ gA L2 i = n ∧ nodeErr p g L2 i = 0 ∧ (∀ M, Emb p g M → Holds L M → gA M i = n → Holds L2 M)) ∨
    ((∀ fr F sp, examF fr p g i n L F sp = ⟨false, L, F, sp⟩) ∧ ∀ M, Emb p g M → Holds L M → gA M i ≠ n) := by
  have hlen := hL.1
  have hLl : (i : Int) < L.length := by omega
  obtain ⟨a1, a2, a3⟩ := giveF_ok (p := p) (g := g) (i := i) (n := n) hL GOk.nil (by omega) (by omega) hn0 hn1
  have hpr := pairs_ok hp hg (i := i) (n := n) (by omega) (by omega) hn0 hn1
  obtain ⟨b1, b2, b3⟩ := kidsF_ok (pairs p g i n) hpr a1 a2
  obtain ⟨c1, c2, c3, c4⟩ := giveF_spec (Giv.nil L) (i := i) (n := n) (by omega) hLl hn0
  have hgi : gA (giveF i n L []).1 i = n := by
    rw [giveF]; split
    · exact gA_set_same (by omega) (by omega)
    · rename_i hne; exact hLi.resolve_left hne
  obtain ⟨d1, d2, d3, d4⟩ := kidsF_spec (pairs p g i n) (fun x hx => ⟨⟨(hpr x hx).1.1, by have := (hpr x hx).1.2; omega⟩, (hpr x hx).2.1⟩) c1
  by_cases ho : (gA p i).op = 0
  · by_cases hs : (gA p i).sort = (gA g n).sort
    · refine .inl ⟨_, _, fun fr F sp => by rw [examF, if_pos ho, if_pos hs], c1.undo, a1, c1.ext, hgi, nodeErr_iff.2 (.inl ⟨ho, by rw [hgi]; exact hs⟩), fun M _ hE hM => (c4 M hE hM).2⟩
    · refine .inr ⟨fun fr F sp => by rw [examF, if_pos ho, if_neg hs, backF]; simp only [Bool.false_eq_true, if_false]; rw [c1.undo], fun M hM hE hMi => ?_⟩
      rcases nodeErr_iff.1 (hM.fine i hi) with h | h
      · rw [hMi] at h; exact hs h.2
      · exact h.1 ho
  · by_cases hf : fits (gA p i) (gA g n) = true
    · have hfl : (gA p i).kids.length = (gA g n).kids.length := by
        simp only [fits, Bool.and_eq_true, decide_eq_true_eq] at hf; exact hf.2
      by_cases hk : (kidsF (pairs p g i n) (giveF i n L []).1 (giveF i n L []).2.1).2.2 = true
      · have hi2 : gA (kidsF (pairs p g i n) (giveF i n L []).1 (giveF i n L []).2.1).1 i = n := by
          rw [d2.keep (j := i) (by rw [c1.len]; omega) (by rw [hgi]; omega), hgi]
        refine .inl ⟨_, _, fun fr F sp => by rw [examF, if_neg ho, if_pos hf, if_pos hk], d1.undo, b1, d1.ext, hi2, nodeErr_iff.2 (.inr ⟨ho, by rw [hi2]; exact hf, ?_⟩), fun M hM hE hMi => ?_⟩
        · rw [hi2]; exact (map_zip _ _ hfl).2 (d3 hk)
        · rcases nodeErr_iff.1 (hM.fine i hi) with h | h
          · exact absurd h.1 ho
          · have := h.2.2
            rw [hMi] at this
            exact (d4 M (c4 M hE hMi).2 ((map_zip _ _ hfl).1 this)).2
      · refine .inr ⟨fun fr F sp => by rw [examF, if_neg ho, if_pos hf, if_neg hk, backF]; simp only [Bool.false_eq_true, if_false]; rw [d1.undo], fun M hM hE hMi => ?_⟩
        rcases nodeErr_iff.1 (hM.fine i hi) with h | h
        · exact absurd h.1 ho
        · have := h.2.2
          rw [hMi] at this
          exact hk (d4 M (c4 M hE hMi).2 ((map_zip _ _ hfl).1 this)).1
    · refine .inr ⟨fun fr F sp => by rw [examF, if_neg ho, if_neg hf, backF]; simp only [Bool.false_eq_true, if_false]; rw [c1.undo], fun M hM hE hMi => ?_⟩
      rcases nodeErr_iff.1 (hM.fine i hi) with h | h
      · exact absurd h.1 ho
      · rw [hMi] at h; exact hf h.2.1

/-! ### The search -/
/-- Not greater, compared from the end. -/
def LeE (A B : List Int) : Prop := A = B ∨ ∃ i : Nat, i < A.length ∧ gA A i < gA B i ∧ ∀ j : Nat, i < j → j < A.length → gA A j = gA B j
structure Spec (p g : List Nd) (L : List Int) (C : List Int → Prop) (x : FR) : Prop where
  sp : x.ok = true → x.sp = false
  good : x.ok = true → Emb p g x.L ∧ Holds L x.L ∧ C x.L ∧ ∀ M, Emb p g M → Holds L M → C M → LeE x.L M
  bad : x.ok = false → x.sp = false → x.L = L ∧ ∀ M, Emb p g M → Holds L M → ¬ C M
theorem Spec.mono {p g : List Nd} {L : List Int} {C C' : List Int → Prop} {x : FR} (h : Spec p g L C x) (hc : ∀ M, Emb p g M → Holds L M → (C M ↔ C' M)) : Spec p g L C' x :=
  ⟨h.sp, fun ho => by
    obtain ⟨a, b, c, d⟩ := h.good ho
    exact ⟨a, b, (hc _ a b).1 c, fun M h1 h2 h3 => d M h1 h2 ((hc M h1 h2).2 h3)⟩, fun ho hs => by
    obtain ⟨a, b⟩ := h.bad ho hs
    exact ⟨a, fun M h1 h2 h3 => b M h1 h2 ((hc M h1 h2).2 h3)⟩⟩
theorem exam_spec {p g : List Nd} (hp : WFG p) (hg : WFG g) {fr : List Int → Int → Bool → FR} {i : Nat} (hi : i < p.length) (hfr : ∀ L F, LOk p g L → Done p g i L → Spec p g L (fun _ => True) (fr L F false)) {n : Int} (hn0 : 0 ≤ n) (hn1 : n < g.length) {L : List Int} (hL : LOk p g L) (hLi : gA L i = -1 ∨ gA L i = n) (hD : Done p g (i + 1) L) (F : Int) : Spec p g L (fun M => gA M i = n) (examF fr p g i n L F false) := by
  rcases exam_step hp hg hi hn0 hn1 hL hLi with ⟨L2, G, h1, h2, h3, h4, h5, h6, h7⟩ | ⟨h1, h2⟩
  · rw [h1]
    have hD2 : Done p g i L2 := fun j hj hjp => by
      by_cases hji : j = i
      · rw [hji, h5]; exact ⟨by omega, h6⟩
      · exact hD.ext hp hg hL h4 j (by omega) hjp
    have hx := hfr L2 F h3 hD2
    refine ⟨hx.sp, fun ho => ?_, fun ho hs => ?_⟩
    · have ho' : (fr L2 F false).ok = true := ho
      obtain ⟨a, b, _, d⟩ := hx.good ho'
      simp only [backF, ho', if_true]
      exact ⟨a, Holds.trans (by rw [h3.1, hL.1]) h4 b, by rw [b.keep (by rw [h3.1]; exact hi) (by rw [h5]; omega), h5], fun M e1 e2 e3 => d M e1 (h7 M e1 e2 e3) trivial⟩
    · have ho' : (fr L2 F false).ok = false := ho
      obtain ⟨a, b⟩ := hx.bad ho' hs
      refine ⟨?_, fun M e1 e2 e3 => b M e1 (h7 M e1 e2 e3) trivial⟩
      show (if (fr L2 F false).ok = true then _ else undoF G (fr L2 F false).L) = L
      rw [ho', if_neg (by simp), a, h2]
  · rw [h1]
    exact ⟨fun ho => by simp at ho, fun ho => by simp at ho, fun _ _ => ⟨rfl, h2⟩⟩
theorem loop_spec {p g : List Nd} {ex : Int → List Int → Int → Bool → FR} {i : Nat} (hi : i < p.length) {L : List Int} (hL : LOk p g L) (hD : Done p g (i + 1) L) (hex : ∀ (n F : Int), 0 ≤ n → n < g.length → Spec p g L (fun M => gA M i = n) (ex n L F false)) : ∀ (k : Nat) (n F : Int), 0 ≤ n → n + k = g.length → Spec p g L (fun M => n ≤ gA M i) (loopF ex k n L F false)
  | 0, n, F, h0, h1 => ⟨fun ho => by simp [loopF] at ho, fun ho => by simp [loopF] at ho, fun _ _ => ⟨rfl, fun M hM _ hn => by have h2 := hM.at_ hi; have h3 : n ≤ gA M i := hn; omega⟩⟩
  | k + 1, n, F, h0, h1 => by
    rw [loopF]
    split
    · exact ⟨fun ho => by simp at ho, fun ho => by simp at ho, fun _ hs => by simp at hs⟩
    · have hy := hex n (F - 1) h0 (by omega)
      generalize ex n L (F - 1) false = y at hy ⊢
      split
      · rename_i ho
        obtain ⟨a, b, c, d⟩ := hy.good ho
        refine ⟨hy.sp, fun _ => ⟨a, b, by show n ≤ gA y.L i; have : gA y.L i = n := c; omega, fun M e1 e2 e3 => ?_⟩, fun h => by rw [ho] at h; simp at h⟩
        have c' : gA y.L i = n := c
        have e3' : n ≤ gA M i := e3
        by_cases hMi : gA M i = n
        · exact d M e1 e2 hMi
        · refine .inr ⟨i, by rw [a.len]; exact hi, by omega, fun j hij hj => ?_⟩
          rw [a.len] at hj
          have hgv := (hD j (by omega) hj).1
          rw [b.keep (by rw [hL.1]; exact hj) hgv, e2.keep (by rw [hL.1]; exact hj) hgv]
      · rename_i ho
        have ho' : y.ok = false := by simpa using ho
        split
        · rename_i hs
          exact ⟨fun h => absurd h ho, fun h => absurd h ho, fun _ h => by rw [hs] at h; simp at h⟩
        · rename_i hs
          have hs' : y.sp = false := by simpa using hs
          obtain ⟨a, b⟩ := hy.bad ho' hs'
          rw [a, hs']
          refine (loop_spec hi hL hD hex k (n + 1) y.F (by omega) (by omega)).mono fun M e1 e2 => ?_
          have h3 : ¬ gA M i = n := b M e1 e2
          constructor <;> intro h4
          · have h5 : n + 1 ≤ gA M i := h4
            show n ≤ gA M i; omega
          · have h5 : n ≤ gA M i := h4
            show n + 1 ≤ gA M i; omega
theorem from_spec {p g : List Nd} (hp : WFG p) (hg : WFG g) : ∀ (i : Nat) (L : List Int) (F : Int), i ≤ p.length → LOk p g L → Done p g i L → Spec p g L (fun _ => True) (fromF p g i L F false)
  | 0, L, F, _, hL, hD => by
    have he : ∀ M, Emb p g M → Holds L M → L = M := fun M hM hE => gA_ext (by rw [hL.1, hM.len]) fun j hj => by
      rw [hL.1] at hj; exact (hE.keep (by rw [hL.1]; exact hj) (hD j (by omega) hj).1).symm
    refine ⟨fun _ => rfl, fun _ => ⟨⟨hL.1, fun x hx => ?_, fun j hj => (hD j (by omega) hj).2⟩, Holds.refl _, trivial, fun M h1 h2 _ => .inl (he M h1 h2)⟩, fun ho => by simp [fromF] at ho⟩
    obtain ⟨j, hj⟩ := List.mem_iff_getElem?.1 hx
    have hjl : j < L.length := (List.getElem?_eq_some_iff.1 hj).1
    have hj : L[j]? = some x := hj
    rw [gA_nat hjl] at hj
    have hjl' : j < p.length := by have := hL.1; omega
    have := hL.at_ hjl' (hD j (by omega) hjl').1
    rw [← Option.some.inj hj]; exact this
  | i + 1, L, F, hi, hL, hD => by
    have ih : ∀ L F, LOk p g L → Done p g i L → Spec p g L (fun _ => True) (fromF p g i L F false) := fun L F h1 h2 => from_spec hp hg i L F (by omega) h1 h2
    rw [fromF]
    split
    · rename_i hm
      refine (loop_spec (by omega) hL hD (fun n F h0 h1 => exam_spec hp hg (by omega) ih h0 h1 hL (.inl hm) hD F) g.length 0 F (by omega) (by omega)).mono fun M h1 h2 => ?_
      have := h1.at_ (j := i) (by omega)
      exact ⟨fun _ => trivial, fun _ => this.1⟩
    · rename_i hm
      have hr := hL.at_ (j := i) (by omega) hm
      refine (exam_spec hp hg (by omega) ih hr.1 hr.2 hL (.inr rfl) hD F).mono fun M h1 h2 => ?_
      exact ⟨fun _ => trivial, fun _ => h2.keep (by rw [hL.1]; omega) hm⟩
/-- What is given leads to all. -/
theorem from_given {p g : List Nd} (hp : WFG p) (hg : WFG g) {l : List Int} (hl : Emb p g l) : ∀ (i : Nat) (L : List Int) (F : Int) (sp : Bool), i ≤ p.length → LOk p g L → Done p g i L → Holds L l → (∀ j : Nat, j < i → gA L j ≠ -1 ∨ ∃ j' : Nat, j < j' ∧ j' < i ∧ (j : Int) ∈ (gA p j').kids ∧ (gA p j').op ≠ 0) → fromF p g i L F sp = ⟨true, l, F, sp⟩
  | 0, L, F, sp, _, hL, hD, hE, _ => by
    have : L = l := gA_ext (by rw [hL.1, hl.len]) fun j hj => by
      rw [hL.1] at hj; exact (hE.keep (by rw [hL.1]; exact hj) (hD j (by omega) hj).1).symm
    rw [fromF, this]
  | i + 1, L, F, sp, hi, hL, hD, hE, hc => by
    have hm : gA L i ≠ -1 := by
      rcases hc i (by omega) with h | ⟨j', h1, h2, _⟩
      · exact h
      · omega
    have hr := hL.at_ (j := i) (by omega) hm
    rw [fromF, if_neg hm]
    rcases exam_step hp hg (i := i) (by omega) hr.1 hr.2 hL (.inr rfl) with ⟨L2, G, h1, h2, h3, h4, h5, h6, h7⟩ | ⟨h1, h2⟩
    · have hD2 : Done p g i L2 := fun j hj hjp => by
        by_cases hji : j = i
        · rw [hji, h5]; exact ⟨hm, h6⟩
        · exact hD.ext hp hg hL h4 j (by omega) hjp
      rw [h1, from_given hp hg hl i L2 F sp (by omega) h3 hD2 (h7 l hl hE (hE.keep (by rw [hL.1]; omega) hm)) (fun j hj => ?_)]
      · rfl
      · rcases hc j (by omega) with h | ⟨j', e1, e2, e3, e4⟩
        · exact .inl (by rw [h4.keep (by rw [hL.1]; omega) h]; exact h)
        · by_cases hji : j' = i
          · subst hji
            refine .inl (kids_given hg (i := j') (by rw [h5]; exact hr.1) (by rw [h5]; exact hr.2) h6 e4 e3)
          · exact .inr ⟨j', e1, by omega, e3, e4⟩
    · exact absurd (hE.keep (by rw [hL.1]; omega) hm) (h2 l hl hE)
end Go.Aw
namespace Go.Aw
open Go.RowKit Go.Proofs

/-- Each node is wanted, or a kid of a later one. -/
def Cov (g : List Nd) (A : Int → Prop) (l : List Int) : Prop := ∀ j : Nat, j < l.length → A (gA l j) ∨ ∃ j' : Nat, j < j' ∧ j' < l.length ∧ gA l j ∈ (gA g (gA l j')).kids
theorem Cov.mono {g : List Nd} {A B : Int → Prop} {l : List Int} (h : Cov g A l) (hab : ∀ x, A x → B x) : Cov g B l := fun j hj => (h j hj).elim (fun h => .inl (hab _ h)) .inr
theorem gA_end {l : List Int} {i : Int} : gA (l ++ [i]) (l.length : Int) = i := by simp [gA, List.getD]
theorem visitF_cov {g : List Nd} : ∀ (b : Nat) (i : Int) (l : List Int) (A : Int → Prop), Cov g A l → Cov g (fun x => x = i ∨ A x) (visitF g b i l)
  | 0, i, l, A, h => h.mono fun x hx => .inr hx
  | b + 1, i, l, A, h => by
    rw [visitF]
    split
    · exact h.mono fun x hx => .inr hx
    · have key : ∀ (ks : List Int) (l' : List Int) (A : Int → Prop), Cov g A l' → Cov g (fun x => x ∈ ks ∨ A x) (ks.foldl (fun l k => visitF g b k l) l') := by
        intro ks
        induction ks with
        | nil => intro l' A h; exact h.mono fun x hx => .inr hx
        | cons k ks ih =>
          intro l' A h
          refine (ih (visitF g b k l') _ (visitF_cov b k l' A h)).mono fun x hx => ?_
          rcases hx with hx | hx | hx
          · exact .inl (List.mem_cons_of_mem _ hx)
          · exact .inl (by rw [hx]; exact List.mem_cons_self ..)
          · exact .inr hx
      have hk := key (gA g i).kids l A h
      generalize (gA g i).kids.foldl (fun l k => visitF g b k l) l = l2 at hk ⊢
      intro j hj
      rw [List.length_append, List.length_cons, List.length_nil] at hj
      by_cases hjl : j < l2.length
      · rw [gA_app hjl]
        rcases hk j hjl with (h1 | h1) | ⟨j', h1, h2, h3⟩
        · exact .inr ⟨l2.length, hjl, by simp, by rw [gA_end]; exact h1⟩
        · exact .inl (.inr h1)
        · exact .inr ⟨j', h1, by simp; omega, by rw [gA_app h2]; exact h3⟩
      · have : j = l2.length := by omega
        rw [this, gA_end]; exact .inl (.inl rfl)
theorem canonL_cov (g : List Nd) (roots : List Int) : Cov g (fun x => x ∈ roots) (canonL g roots) := by
  have key : ∀ (ks : List Int) (l' : List Int) (A : Int → Prop), Cov g A l' → Cov g (fun x => x ∈ ks ∨ A x) (ks.foldl (fun l k => visitF g g.length k l) l') := by
    intro ks
    induction ks with
    | nil => intro l' A h; exact h.mono fun x hx => .inr hx
    | cons k ks ih =>
      intro l' A h
      refine (ih (visitF g g.length k l') _ (visitF_cov g.length k l' A h)).mono fun x hx => ?_
      rcases hx with hx | hx | hx
      · exact .inl (List.mem_cons_of_mem _ hx)
      · exact .inl (by rw [hx]; exact List.mem_cons_self ..)
      · exact .inr hx
  refine (key roots [] (fun _ => False) (fun j hj => absurd hj (by simp))).mono fun x hx => ?_
  exact hx.elim id False.elim
theorem gA_inj {l : List Int} (hn : l.Nodup) {i j : Nat} (hi : i < l.length) (hj : j < l.length) (h : gA l i = gA l j) : i = j := by
  have h1 := gA_nat hj
  have h2 := gA_nat hi
  have h3 : l[i]? = l[j]? := by rw [h1, h2, h]
  exact (List.getElem?_inj hi hn).1 h3
theorem canon_kid_in {g : List Nd} {l : List Int} (hl : VOk g l) (ho : OrdOk g l) {j j' : Nat} (hj : j < l.length) (hj' : j' < l.length) (hm : gA l j ∈ (gA g (gA l j')).kids) : (j : Int) ∈ (gA (canonAt g l l.length).2.1 (j' : Int)).kids := by
  rw [canon_gA g l hj', nodeOf_kids]
  obtain ⟨i, h1, h2, h3⟩ := canon_kid hl ho hj' hm
  have : i = j := gA_inj hl.1 (by omega) hj h2
  subst this
  exact List.mem_map.2 ⟨_, hm, h3⟩

/-! ### With the roots given -/
theorem placeF_spec {l : List Int} : ∀ (given : List (Int × Int)) (L : List Int), L.length = l.length → Holds L l → (∀ x, x ∈ given → (0 ≤ x.1 ∧ x.1 < (l.length : Int)) ∧ gA l x.1 = x.2 ∧ 0 ≤ x.2) → ∃ L', placeF given L = some L' ∧ L'.length = l.length ∧ Holds L' l ∧ Holds L L' ∧ ∀ x, x ∈ given → gA L' x.1 = x.2
  | [], L, hl, hh, _ => ⟨L, rfl, hl, hh, Holds.refl _, fun x hx => by simp at hx⟩
  | (k, n) :: r, L, hl, hh, hg => by
    obtain ⟨⟨h0, h1⟩, h2, h3⟩ := hg (k, n) (List.mem_cons_self ..)
    have h0 : 0 ≤ k := h0
    have h1 : k < (l.length : Int) := h1
    have h2 : gA l k = n := h2
    have h3 : 0 ≤ n := h3
    have ek : ((k.toNat : Nat) : Int) = k := by omega
    have hL := hh k.toNat (by omega)
    rw [ek] at hL
    have hs : gA (L.set k.toNat n) k = n := gA_set_same rfl (by omega)
    have e : placeF ((k, n) :: r) L = placeF r (L.set k.toNat n) := by
      rw [placeF, if_neg]
      intro hc
      have h4 : gA L k ≠ -1 := hc.1
      have h5 : gA L k ≠ n := hc.2
      rcases hL with hL | hL
      · exact h4 hL
      · exact h5 (by rw [hL, h2])
    obtain ⟨L', a1, a2, a3, a4, a5⟩ := placeF_spec r (L.set k.toNat n) (by rw [List.length_set]; exact hl) (fun j hj => by
      rw [List.length_set] at hj
      by_cases hjk : j = k.toNat
      · rw [hjk, ek, hs, h2]; exact .inr rfl
      · rw [gA_set_ne (by omega)]; exact hh j hj) (fun x hx => hg x (List.mem_cons_of_mem _ hx))
    have hkk : gA L' k = n := by
      have := a4.keep (j := k.toNat) (by rw [List.length_set]; omega) (by rw [ek, hs]; omega)
      rw [ek, hs] at this; exact this
    refine ⟨L', by rw [e, a1], a2, a3, Holds.trans (by rw [List.length_set]) (fun j hj => ?_) a4, fun x hx => ?_⟩
    · by_cases hjk : j = k.toNat
      · rw [hjk, ek, hs]
        rcases hL with hL | hL
        · exact .inl hL
        · exact .inr (by rw [hL, h2])
      · rw [gA_set_ne (by omega)]; exact .inr rfl
    · rcases List.mem_cons.1 hx with rfl | hx
      · exact hkk
      · exact a5 x hx
theorem gA_repl {n : Nat} {j : Nat} (h : j < n) : gA (List.replicate n (-1 : Int)) (j : Int) = -1 := gA_some (by rw [List.getElem?_replicate, if_pos h])
theorem repl_ok (p g : List Nd) : LOk p g (List.replicate p.length (-1)) := ⟨by simp, fun x hx => .inl (List.eq_of_mem_replicate hx)⟩
theorem Holds.repl (n : Nat) (M : List Int) : Holds (List.replicate n (-1)) M := fun j hj => .inl (gA_repl (by simpa using hj))
/-- The pairs that give the roots. -/
abbrev givenOf (to roots : List Int) : List (Int × Int) := roots.map fun r => (gA to r, r)
theorem embed_given {g : List Nd} (hg : WFG g) {roots : List Int} (hr : ∀ r, r ∈ roots → 0 ≤ r ∧ r < (g.length : Int)) (F : Int) : embedF (canonR g roots).1 g (givenOf (canonR g roots).2.1 roots) F = (canonL g roots, F, 0) := by
  obtain ⟨hl, ho, hin⟩ := canonL_all hg hr
  obtain ⟨_, hc⟩ := canonR_all hg hr
  have hcov := canonL_cov g roots
  have hp : (canonR g roots).1 = (canonAt g (canonL g roots) (canonL g roots).length).2.1 := by rw [canonR, if_pos hr]
  have hkid : ∀ j j' : Nat, j < (canonL g roots).length → j' < (canonL g roots).length → gA (canonL g roots) j ∈ (gA g (gA (canonL g roots) j')).kids → (j : Int) ∈ (gA (canonR g roots).1 (j' : Int)).kids := fun j j' h1 h2 h3 => by rw [hp]; exact canon_kid_in hl ho h1 h2 h3
  clear hp
  generalize (canonR g roots).1 = p at hc hkid ⊢
  generalize (canonR g roots).2.1 = to at hc ⊢
  generalize canonL g roots = l at *
  have hpl := hc.plen
  have hgv : ∀ x, x ∈ givenOf to roots → (0 ≤ x.1 ∧ x.1 < (l.length : Int)) ∧ gA l x.1 = x.2 ∧ 0 ≤ x.2 ∧ x.2 < (g.length : Int) := by
    intro x hx
    obtain ⟨r, hrm, rfl⟩ := List.mem_map.1 hx
    have h1 := hr r hrm
    obtain ⟨j, hj⟩ := List.mem_iff_getElem?.1 (hin r hrm)
    have hjl := (List.getElem?_eq_some_iff.1 hj).1
    have hjr := gA_some hj
    have h2 := (hc.at_ j hjl).2
    rw [hjr] at h2
    show (0 ≤ gA to r ∧ gA to r < (l.length : Int)) ∧ gA l (gA to r) = r ∧ 0 ≤ r ∧ r < (g.length : Int)
    rw [h2]
    exact ⟨⟨by omega, by omega⟩, hjr, h1⟩
  obtain ⟨L, a1, a2, a3, a4, a5⟩ := placeF_spec (l := l) (givenOf to roots) (List.replicate p.length (-1)) (by simp [hpl]) (Holds.repl _ _) (fun x hx => ⟨(hgv x hx).1, (hgv x hx).2.1, (hgv x hx).2.2.1⟩)
  have hL : LOk p g L := ⟨by omega, fun x hx => by
    obtain ⟨j, hj⟩ := List.mem_iff_getElem?.1 hx
    have hjl : j < L.length := (List.getElem?_eq_some_iff.1 hj).1
    have hjx := gA_some hj
    rcases a3 j hjl with h | h
    · exact .inl (by rw [← hjx]; exact h)
    · refine .inr ?_
      rw [← hjx, h]
      exact (hc.at_ j (by omega)).1⟩
  have he := validE_iff.1 hc.valid
  have hf := from_given hc.wf hg he p.length L F false (Nat.le_refl _) hL (fun j h1 h2 => by omega) a3 (fun j hj => by
    rcases hcov j (by omega) with h | ⟨j', h1, h2, h3⟩
    · refine .inl ?_
      have h2 := (hc.at_ j (by omega)).2
      have := a5 (gA to (gA l j), gA l j) (List.mem_map.2 ⟨_, h, rfl⟩)
      have h5 : gA L (gA to (gA l j)) = gA l j := this
      rw [h2] at h5
      rw [h5]
      have := (hc.at_ j (by omega)).1
      omega
    · have hk := hkid j j' (by omega) h2 h3
      refine .inr ⟨j', h1, by omega, hk, fun h0 => ?_⟩
      rw [hc.wf.var _ (gA_mem (l := p) (i := (j' : Int)) (by omega) (by omega)) h0] at hk
      simp at hk)
  rw [embedF, if_pos (fun x hx => by have := (hgv x hx).1; omega), if_pos (fun x hx => (hgv x hx).2.2), a1]
  show endF (fromF p g p.length L F false) = _
  rw [hf]; rfl

/-! ### With nothing given -/
theorem embedF_nil (p g : List Nd) (F : Int) : embedF p g [] F = endF (fromF p g p.length (List.replicate p.length (-1)) F false) := by
  rw [embedF, if_pos (fun x hx => by simp at hx), if_pos (fun x hx => by simp at hx)]; rfl
theorem nil_spec {p g : List Nd} (hp : WFG p) (hg : WFG g) (F : Int) : Spec p g (List.replicate p.length (-1)) (fun _ => True) (fromF p g p.length (List.replicate p.length (-1)) F false) :=
  from_spec hp hg p.length _ F (Nat.le_refl _) (repl_ok p g) (fun j h1 h2 => by omega)
theorem embed_nil {p g : List Nd} (hp : WFG p) (hg : WFG g) {F : Int} (hF : 0 ≤ F) {l : List Int} (hl : Emb p g l) : (embedF p g [] F).2.2 = 19 ∨ ((embedF p g [] F).2.2 = 0 ∧ 0 ≤ (embedF p g [] F).2.1 ∧ (embedF p g [] F).2.1 ≤ F ∧ Emb p g (embedF p g [] F).1 ∧ LeE (embedF p g [] F).1 l) := by
  have hs := nil_spec hp hg F
  have hf := fromF_ok hp hg p.length _ F false (Nat.le_refl _) (repl_ok p g) hF
  rw [embedF_nil]
  generalize fromF p g p.length (List.replicate p.length (-1)) F false = x at hs hf ⊢
  by_cases hsp : x.sp = true
  · exact .inl (by rw [endF, if_pos hsp])
  · by_cases ho : x.ok = true
    · obtain ⟨a, b, _, d⟩ := hs.good ho
      refine .inr ?_
      rw [endF, if_neg hsp, if_pos ho]
      exact ⟨rfl, hf.2.1, hf.2.2, a, d l hl (Holds.repl _ _) trivial⟩
    · exact absurd trivial ((hs.bad (by simpa using ho) (by simpa using hsp)).2 l hl (Holds.repl _ _))

/-! ### A pattern of two nodes -/
end Go.Aw
namespace Go.Aw
open Go.RowKit Go.Proofs

abbrev Prs := List (Int × Int)
theorem fill_congr {f g : Nat → Option (Nat × Nat)} : ∀ (ps : List (Nat × Value)) (c : Array Value), (∀ p, p ∈ ps → f p.1 = g p.1) → Instr.fill f c ps = Instr.fill g c ps
  | [], c, _ => rfl
  | (i, v) :: ps, c, h => by
    have h1 := h (i, v) (List.mem_cons_self ..)
    have h1 : f i = g i := h1
    simp only [Instr.fill, h1]
    cases g i with
    | none => rfl
    | some x =>
      obtain ⟨o, n⟩ := x
      simp only
      split
      · rfl
      · exact fill_congr ps _ (fun p hp => h p (List.mem_cons_of_mem _ hp))
theorem Val.buildArr {K : Ctx} {S : St} {d : Option Nat} {ty : TypeId} {pos : String} {af : Array Edge} {gd : Option (Nat × Bool)} {T E : TypeId} {len k : Nat} {z : Value} {zs : List Value} {pl : Array (Nat × Nat)} {ps : Array (Nat × Operand)} {psl : List (Nat × Operand)} {vs : List (Nat × AV)} {n : Nat} (hT : K.P.underlying T = some (.array len E)) (hz : (K.P.info? T).map (·.zero) = some (some z)) (hzs : z.cells.toList = zs) (hn : zs.length = n)
    (hE : (K.P.info? E).map (·.size) = some k) (hps : ps.toList = psl) (hpp : (psl.all fun p => pl[p.1]? == some (p.1 * k, k)) = true) (hp : PartsOk K S pl n psl vs) :
    Val K S ⟨d, .build T ps, ty, pos, af, gd⟩ (.agg (fillA (zs.map fun v => .f (.v v)) vs)) := fun L a w hs => by
  subst hps
  obtain ⟨c', hf, hr⟩ := fill_parts hs hp (cs := zs.map fun v => .f (.v v)) (c := z.cells) (by rw [hzs]; exact repL_consts zs) (by rw [← hn, ← hzs]; simp)
  refine ⟨.agg c', ?_, c', rfl, hr⟩
  have e1 := run_und (P := K.P) (w := w) hT
  have e2 := run_zero (P := K.P) (w := w) hz
  have e3 := run_size (P := K.P) (w := w) hE
  generalize a.eval = ρ at hf
  rw [fill_congr (g := fun i => some (i * k, k)) _ _ (fun p hp => by
    obtain ⟨q, hq, rfl⟩ := List.mem_map.1 hp
    exact eq_of_beq (List.all_eq_true.1 hpp q hq))] at hf
  simp only [execOp, Instr.build, Sem.run_bind, e1, e2, e3, Result.andThen_ok, Array.toList_map, hf, Sem.run_pure]
theorem Acc.some'' {α : Type} {enc : α → List FV} {l : List α} {j s : Nat} {v : AV} {o : Option Row} (ha : Acc j s (fz (l.map enc)) v o) (hl : ¬ l.length = 0) : ∃ gen, v = .row j gen s 0 l.length ∧ o = Option.some ⟨gen, s, fz (l.map enc)⟩ := by
  rcases ha with ⟨he, _, _⟩ | ⟨gen, hv, ho⟩
  · exfalso; apply hl; cases l with | nil => rfl | cons => simp [fz] at he
  · exact ⟨gen, by rw [hv]; simp [fz], ho⟩
theorem le_at {A B : List Int} (h : LeE A B) {i : Int} (h0 : 0 ≤ i) (h1 : i < A.length) (hq : ∀ j : Nat, i < j → j < A.length → gA A j = gA B j) (hn : ¬ gA A i = gA B i) : gA A i < gA B i := by
  rcases h with rfl | ⟨k, hk, h2, h3⟩
  · exact absurd rfl hn
  · by_cases hki : (k : Int) = i
    · rw [← hki]; exact h2
    · by_cases hlt : i < k
      · have := hq k hlt hk; omega
      · have := h3 i.toNat (by omega) (by omega)
        rw [show ((i.toNat : Nat) : Int) = i from by omega] at this
        exact absurd this hn
theorem given_step {to R : List Int} {q : Int} (h0 : 0 ≤ q) (h1 : q < R.length) : givenOf to (R.take q.toNat) ++ [(gA to (gA R q), gA R q)] = givenOf to (R.take (q + 1).toNat) := by
  rw [show (q + 1).toNat = q.toNat + 1 from by omega, List.take_add_one, gA_at h0 h1]
  simp
theorem down_step {A B : List Int} {i : Int} {n : Nat} (hi : 0 ≤ i) (hq : ∀ j : Nat, i < j → j < n → gA A j = gA B j) (he : gA A i = gA B i) : ∀ j : Nat, i - 1 < j → j < n → gA A j = gA B j := fun j h1 h2 => by
  by_cases hj : (j : Int) = i
  · rw [hj]; exact he
  · exact hq j (by omega) h2

-- enthymemelaw13.MatchBack
set_option maxHeartbeats 1000000 in
theorem c_MatchBack (W0 : World) (N : Nat) (l : List Int) (hl : l.length ≤ 1152921504606846975) (hi : ∀ x, x ∈ l → I6 x) (kind : Int) (hk : I6 kind) (roots : List Int) (hrl : roots.length ≤ 1152921504606846975) (hri : ∀ x, x ∈ roots → I6 x) : AC (En W0 N) 4 [.f (.ints l), .i kind, .f (.ints roots)] [] (fun r h => h = [] ∧ r = .b true) := by
  refine AC.enter Tryd.func4 rfl Tryd.ntmps4 (bl rfl) fun X => ?_
  refine sr ?_
  refine WL.v (Val.assign Ev.const) rfl ?_
  refine WL.norm 187 [(0, _), (1, _), (2, _)] [] rfl ⟨rfl, rfl, rfl, trivial⟩ rfl rfl ?_
  refine wn ?_
  refine sr ?_
  refine mv rfl rfl ?_
  refine mv rfl rfl ?_
  refine WL.callV ca8 (evc (tm rfl) (evc Ev.const evn)) (lo1 (lo1 lo0)) rfl (c_Around W0 N _ _ (by assumption) (by omega)) ?_
  rintro _ rfl
  refine WL.callV ca7 (evc (tm rfl) (evc (tm rfl) (evc Ev.const evn))) (lo1 (lo1 (lo1 lo0))) rfl (c_Made W0 N _ _ _ hl hi (by omega) (by omega)) ?_
  rintro _ ⟨g_, rfl, hg_1, hg_2, hg_3⟩
  refine asg rfl rfl ?_
  refine WL.norm 187 [(2, _), (7, _)] [] rfl ⟨rfl, rfl, trivial⟩ rfl rfl ?_
  refine wn ?_
  refine W.seq ?_
  obtain ⟨hr1, hr2⟩ := rootsOf_ok (g := g_) (by omega) roots
  refine W.region ?_
  refine mv rfl rfl ?_
  refine mv rfl rfl ?_
  refine WL.callV ca10 (evc (tm rfl) (evc (tm rfl) evn)) (lo1 (lo1 lo0)) rfl (c_Roots W0 N _ (by omega) (by omega) _ (by assumption) (by assumption)) ?_
  rintro _ rfl
  refine asg rfl rfl ?_
  refine WL.norm 187 [(7, _), (8, _)] [] rfl ⟨rfl, rfl, trivial⟩ rfl rfl ?_
  refine wn ?_
  refine sr ?_
  refine mv rfl rfl ?_
  refine WL.callV ca13 (evc (tm rfl) evn) (lo1 lo0) rfl (c_graph W0 N _) ?_
  rintro _ rfl
  refine mv rfl rfl ?_
  refine WL.callV ca16 (evc (tm rfl) (evc (tm rfl) evn)) (lo2 rfl (lo1 lo0)) rfl (c_CanonM W0 N g_ hg_1 (by omega) _ (by omega)) ?_
  rintro _ rfl
  refine mv rfl rfl ?_
  refine WL.v (Val.extract (tm rfl) rfl) rfl ?_
  refine WL.v (Val.extract (tm rfl) rfl) rfl ?_
  refine WL.v (Val.extract (tm rfl) rfl) rfl ?_
  refine WL.stp rfl (Stp.alloc zz39 rfl rfl) ?_
  refine WL.stp rfl (Stp.st (tm rfl) (tm rfl) zs39 rfl rfl rfl rfl rfl rfl rfl rfl) ?_
  refine asg rfl rfl ?_
  refine asg rfl rfl ?_
  refine WL.norm 187 [(7, _), (8, _), (9, _), (10, _), (11, _)] [some ⟨_, _, [[_]]⟩] rfl ⟨rfl, rfl, rfl, rfl, rfl, trivial⟩ rfl rfl ?_
  refine wn ?_
  refine W.seq ?_
  refine W.seq ?_
  obtain ⟨hce, hco⟩ := canonR_all hg_1 hr1
  have hpl := hco.plen
  have htl := hco.tlen
  have hle := hco.le
  refine W.region ?_
  refine mv rfl rfl ?_
  refine WL.v (Val.neq (tm rfl) Ev.const) rfl ?_
  refine mv rfl rfl ?_
  refine WL.g (Grd.f rfl rfl rfl) (fun hG => Val.move (tm rfl)) rfl ?_
  refine WL.g (Grd.f rfl rfl rfl) (fun hG => Val.ln (enc := encI) Tryd.underlying22 (Ev.opt rfl hG)) rfl ?_
  refine WL.g (Grd.f rfl rfl rfl) (fun hG => Val.move (tm rfl)) rfl ?_
  refine WL.g (Grd.f rfl rfl rfl) (fun hG => Val.ln (enc := Nd.cells) Tryd.underlying23 (Ev.opt rfl hG)) rfl ?_
  refine WL.g (Grd.f rfl rfl rfl) (fun hG => Val.neq (Ev.opt rfl hG) (Ev.opt rfl hG)) rfl ?_
  refine WL.v (Val.or (tm rfl) (fun hb => Ev.opt rfl (nt hb))) rfl ?_
  refine WL.norm 187 [(7, _), (8, _), (9, _), (10, _), (46, _)] [some ⟨_, _, [[_]]⟩] rfl ⟨rfl, rfl, rfl, rfl, rfl, trivial⟩ rfl rfl ?_
  refine wn ?_
  refine W.condP rfl (fun hc4 => ?_) (fun hc4 => ?_)
  · exfalso; simp [hce, htl] at hc4
  try simp only [td] at hc4
  refine W.skip (nm ?_)
  refine sr ?_
  refine WL.v (Val.fal (off := 0) Tryd.underlying39 rfl rfl zs23 (tm rfl)) rfl ?_
  refine WL.v (Val.loadLive Tryd.underlying23 rfl (tm rfl) rfl rfl rfl rfl rfl) rfl ?_
  refine WL.v (Val.ln (enc := Nd.cells) Tryd.underlying23 (tm rfl)) rfl ?_
  refine WL.stp rfl (Stp.makeI Tryd.underlying22 zs3 zb3 zz3 (tm rfl) (tm rfl) (by omega) (by omega) rfl) ?_
  refine asg rfl rfl ?_
  refine WL.norm 187 [(7, _), (8, _), (9, _), (10, _), (12, _)] [some ⟨_, _, [[_]]⟩, some ⟨_, _, _⟩] rfl ⟨rfl, rfl, rfl, rfl, rfl, trivial⟩ rfl rfl ?_
  refine wn ?_
  refine W.seq ?_
  refine sr ?_
  refine WL.v (Val.assign Ev.const) rfl ?_
  refine WL.norm 187 [(7, _), (8, _), (9, _), (10, _), (12, _), (13, _)] [some ⟨_, _, [[_]]⟩, some ⟨_, _, _⟩] rfl ⟨rfl, rfl, rfl, rfl, rfl, rfl, trivial⟩ rfl rfl ?_
  refine wn ?_
  refine W.norm 187 [(7, _), (8, _), (9, _), (10, _), (12, _), (13, _)] [some ⟨_, _, [[_]]⟩, some ⟨_, _, _⟩] rfl ⟨rfl, rfl, rfl, rfl, rfl, rfl, trivial⟩ rfl rfl ?_
  refine W.block (W.loop (fun nn S => ∃ (i : Int) (ms : List Int), S = ⟨187, [(7, .f (.nodes g_)), (8, .f (.ints (rootsOf g_ roots))), (9, .ptr 0 0 1 0 0), (10, .f (.ints (canonR g_ (rootsOf g_ roots)).2.1)), (12, .row 1 0 1 0 (canonR g_ (rootsOf g_ roots)).1.length), (13, .i i)], [some ⟨0, 1, [[.f (.nodes (canonR g_ (rootsOf g_ roots)).1)]]⟩, some ⟨0, 1, fz (ms.map encI)⟩], []⟩ ∧ nn = ((g_.length - i).toNat) ∧ (0 ≤ i) ∧ (i ≤ g_.length) ∧ (ms.length = (canonR g_ (rootsOf g_ roots)).1.length) ∧ (MOk (canonR g_ (rootsOf g_ roots)).2.1 ms i)) ⟨0, _, rfl, rfl, by omega, by omega, by simp, fun x hx => by simp at hx⟩ ?_)
  rintro nn S ⟨i, ms, rfl, rfl, hi0, hi1, hml, hm⟩
  refine W.seq ?_
  refine sr ?_
  refine mv rfl rfl ?_
  refine mv rfl rfl ?_
  refine WL.v (Val.ln (enc := encI) Tryd.underlying22 (tm rfl)) rfl ?_
  refine WL.v (Val.lss (tm rfl) (tm rfl)) rfl ?_
  refine WL.norm 187 [(7, _), (8, _), (9, _), (10, _), (12, _), (13, _), (54, _)] [some ⟨_, _, [[_]]⟩, some ⟨_, _, _⟩] rfl ⟨rfl, rfl, rfl, rfl, rfl, rfl, rfl, trivial⟩ rfl rfl ?_
  refine wn ?_
  refine W.condP rfl (fun hc8 => ?_) (fun hc8 => ?_)
  · try simp only [td] at hc8
    refine W.skip (nm ?_)
    refine W.seq ?_
    refine W.block ?_
    refine W.seq ?_
    refine W.seq ?_
    have hig : i < g_.length := by omega
    have hnum := hco.num i hi0 hig
    refine W.region ?_
    refine mv rfl rfl ?_
    refine mv rfl rfl ?_
    refine WL.v (Val.ix (enc := encI) Tryd.underlying22 zs3 (tm rfl) (tm rfl) (by omega) (gA_at (by omega) (by omega))) rfl ?_
    refine WL.v (Val.load Tryd.underlying3 rfl (tm rfl)) rfl ?_
    refine mv rfl rfl ?_
    refine WL.v (Val.lenRow Tryd.underlying22 (tm rfl)) rfl ?_
    refine WL.v (Val.geq (tm rfl) (tm rfl)) rfl ?_
    refine WL.norm 187 [(7, _), (8, _), (9, _), (10, _), (12, _), (13, _), (63, _)] [some ⟨_, _, [[_]]⟩, some ⟨_, _, _⟩] rfl ⟨rfl, rfl, rfl, rfl, rfl, rfl, rfl, trivial⟩ rfl rfl ?_
    refine wn ?_
    refine W.condP rfl (fun hc10 => ?_) (fun hc10 => ?_)
    · try simp only [td] at hc10
      exfalso; omega
    try simp only [td] at hc10
    refine W.skip (nm ?_)
    refine sr ?_
    refine mv rfl rfl ?_
    refine mv rfl rfl ?_
    refine WL.v (Val.ix (enc := encI) Tryd.underlying22 zs3 (tm rfl) (tm rfl) (by omega) (gA_at (by omega) (by omega))) rfl ?_
    refine WL.v (Val.load Tryd.underlying3 rfl (tm rfl)) rfl ?_
    refine WL.v (Val.geq (tm rfl) Ev.const) rfl ?_
    refine WL.norm 187 [(7, _), (8, _), (9, _), (10, _), (12, _), (13, _), (68, _)] [some ⟨_, _, [[_]]⟩, some ⟨_, _, _⟩] rfl ⟨rfl, rfl, rfl, rfl, rfl, rfl, rfl, trivial⟩ rfl rfl ?_
    refine wn ?_
    refine W.condP rfl (fun hc12 => ?_) (fun hc12 => ?_)
    · try simp only [td] at hc12
      refine W.region ?_
      refine mv rfl rfl ?_
      refine mv rfl rfl ?_
      refine mv rfl rfl ?_
      refine WL.v (Val.ix (enc := encI) Tryd.underlying22 zs3 (tm rfl) (tm rfl) (by omega) (gA_at (by omega) (by omega))) rfl ?_
      refine WL.v (Val.load Tryd.underlying3 rfl (tm rfl)) rfl ?_
      refine mv rfl rfl ?_
      refine WL.v (Val.indexAddrLive Tryd.underlying22 zs3 (tm rfl) (tm rfl) (by omega) (by omega)) rfl ?_
      refine WL.stp rfl (Stp.storeI zs3 (tm rfl) (tm rfl) rfl (by omega) (by omega) rfl) ?_
      refine WL.norm 187 [(7, _), (8, _), (9, _), (10, _), (12, _), (13, _)] [some ⟨_, _, [[_]]⟩, some ⟨_, _, _⟩] rfl ⟨rfl, rfl, rfl, rfl, rfl, rfl, trivial⟩ rfl rfl ?_
      refine WL.nil (nb (nm ?_))
      refine W.region ?_
      refine mv rfl rfl ?_
      refine WL.v (Val.add (tm rfl) Ev.const (IntWalk.i64_in _ (by omega))) rfl ?_
      refine asg rfl rfl ?_
      refine WL.norm 187 [(7, _), (8, _), (9, _), (10, _), (12, _), (13, _)] [some ⟨_, _, [[_]]⟩, some ⟨_, _, _⟩] rfl ⟨rfl, rfl, rfl, rfl, rfl, rfl, trivial⟩ rfl rfl ?_
      refine wn ?_
      exact ⟨_, by omega, i + 1, _, rfl, rfl, by omega, by omega, by first | exact hml | (rw [List.length_set]; exact hml), by first | exact MOk.skip hi0 hc12 hm | exact MOk.set hco hml hi0 hig hc12 hm⟩
    try simp only [td] at hc12
    refine W.skip (nb (nm ?_))
    refine W.region ?_
    refine mv rfl rfl ?_
    refine WL.v (Val.add (tm rfl) Ev.const (IntWalk.i64_in _ (by omega))) rfl ?_
    refine asg rfl rfl ?_
    refine WL.norm 187 [(7, _), (8, _), (9, _), (10, _), (12, _), (13, _)] [some ⟨_, _, [[_]]⟩, some ⟨_, _, _⟩] rfl ⟨rfl, rfl, rfl, rfl, rfl, rfl, trivial⟩ rfl rfl ?_
    refine wn ?_
    exact ⟨_, by omega, i + 1, _, rfl, rfl, by omega, by omega, by first | exact hml | (rw [List.length_set]; exact hml), by first | exact MOk.skip hi0 hc12 hm | exact MOk.set hco hml hi0 hig hc12 hm⟩
  try simp only [td] at hc8
  refine W.exit (ex1 (ex1 (ex2 (nm ?_))))
  refine W.seq ?_
  have hmL := MOk.end hco hml (by omega) hm
  subst hmL
  refine W.region ?_
  refine WL.v (Val.assign Ev.const) rfl ?_
  refine WL.norm 187 [(7, _), (8, _), (9, _), (10, _), (12, _), (14, _)] [some ⟨_, _, [[_]]⟩, some ⟨_, _, _⟩] rfl ⟨rfl, rfl, rfl, rfl, rfl, rfl, trivial⟩ rfl rfl ?_
  refine wn ?_
  refine W.seq ?_
  refine sr ?_
  refine WL.v (Val.assign Ev.const) rfl ?_
  refine WL.norm 187 [(7, _), (8, _), (9, _), (10, _), (12, _), (14, _), (15, _)] [some ⟨_, _, [[_]]⟩, some ⟨_, _, _⟩] rfl ⟨rfl, rfl, rfl, rfl, rfl, rfl, rfl, trivial⟩ rfl rfl ?_
  refine wn ?_
  refine W.reserve ?_
  refine W.norm 187 [(7, _), (8, _), (9, _), (10, _), (12, _), (14, _), (15, _)] [some ⟨_, _, [[_]]⟩, some ⟨_, _, _⟩, _] rfl ⟨rfl, rfl, rfl, rfl, rfl, rfl, rfl, trivial⟩ rfl rfl ?_
  refine W.block (W.loop (fun nn S => ∃ (q : Int) (gv : Prs) (v : AV) (o : Option Row), S = ⟨187, [(7, .f (.nodes g_)), (8, .f (.ints (rootsOf g_ roots))), (9, .ptr 0 0 1 0 0), (10, .f (.ints (canonR g_ (rootsOf g_ roots)).2.1)), (12, .row 1 0 1 0 (canonR g_ (rootsOf g_ roots)).1.length), (14, v), (15, .i q)], [some ⟨0, 1, [[.f (.nodes (canonR g_ (rootsOf g_ roots)).1)]]⟩, some ⟨0, 1, fz ((canonL g_ (rootsOf g_ roots)).map encI)⟩, o], []⟩ ∧ nn = (((rootsOf g_ roots).length - q).toNat) ∧ (0 ≤ q) ∧ (q ≤ (rootsOf g_ roots).length) ∧ (gv = givenOf (canonR g_ (rootsOf g_ roots)).2.1 ((rootsOf g_ roots).take q.toNat)) ∧ (Acc 2 2 (fz (gv.map encP)) v o) ∧ (gv = [] → v = .nil ∧ o = none)) ⟨0, [], _, _, rfl, rfl, by omega, by omega, rfl, Acc.zero, fun _ => ⟨rfl, rfl⟩⟩ ?_)
  rintro nn S ⟨q, gv, v, o, rfl, rfl, hq0, hq1, hgv, ha, hnil⟩
  refine W.seq ?_
  refine sr ?_
  refine mv rfl rfl ?_
  refine mv rfl rfl ?_
  refine WL.v (Val.ln (enc := encI) Tryd.underlying22 (tm rfl)) rfl ?_
  refine WL.v (Val.lss (tm rfl) (tm rfl)) rfl ?_
  refine WL.norm 187 [(7, _), (8, _), (9, _), (10, _), (12, _), (14, _), (15, _), (79, _)] [some ⟨_, _, [[_]]⟩, some ⟨_, _, _⟩, _] rfl ⟨rfl, rfl, rfl, rfl, rfl, rfl, rfl, rfl, trivial⟩ rfl rfl ?_
  refine wn ?_
  refine W.condP rfl (fun hc16 => ?_) (fun hc16 => ?_)
  · try simp only [td] at hc16
    refine W.skip (nm ?_)
    refine W.seq ?_
    refine W.block ?_
    have hcq : q < (rootsOf g_ roots).length := by omega
    have hrq := hr1 _ (gA_mem (l := (rootsOf g_ roots)) hq0 hcq)
    by_cases hz : gv = []
    · subst hz
      obtain ⟨rfl, rfl⟩ := hnil rfl
      refine W.drawE (fun k => ([([], []), ([], []), ([], []), ([], []), ([], []), ([], []), ([], []), ([], []), ([], []), ([], []), ([], []), ([], []), ([], []), ([], []), ([2], [2]), ([], [])] : List (List Nat × List Nat)).getD k ([], [])) rfl (by kernel_rfl) (bl rfl) ?_
      refine LexE.val rfl rfl rfl (fun h' ha => Val.move (tm rfl)) ?_
      refine LexE.val rfl rfl rfl (fun h' ha => Val.move (tm rfl)) ?_
      refine LexE.val rfl rfl rfl (fun h' ha => Val.move (tm rfl)) ?_
      refine LexE.val rfl rfl rfl (fun h' ha => Val.move (tm rfl)) ?_
      refine LexE.val rfl rfl rfl (fun h' ha => Val.ix (enc := encI) Tryd.underlying22 zs3 (tm rfl) (tm rfl) (by omega) (gA_at (by omega) (by omega))) ?_
      refine LexE.val rfl rfl rfl (fun h' ha => Val.load Tryd.underlying3 rfl (tm rfl)) ?_
      refine LexE.val rfl rfl rfl (fun h' ha => Val.ix (enc := encI) Tryd.underlying22 zs3 (tm rfl) (tm rfl) (by omega) (gA_at (by omega) (by omega))) ?_
      refine LexE.val rfl rfl rfl (fun h' ha => Val.load Tryd.underlying3 rfl (tm rfl)) ?_
      refine LexE.val rfl rfl rfl (fun h' ha => Val.move (tm rfl)) ?_
      refine LexE.val rfl rfl rfl (fun h' ha => Val.move (tm rfl)) ?_
      refine LexE.val rfl rfl rfl (fun h' ha => Val.ix (enc := encI) Tryd.underlying22 zs3 (tm rfl) (tm rfl) (by omega) (gA_at (by omega) (by omega))) ?_
      refine LexE.val rfl rfl rfl (fun h' ha => Val.load Tryd.underlying3 rfl (tm rfl)) ?_
      refine LexE.val rfl rfl rfl (fun h' ha => Val.buildArr (pl := #[(0, 1), (1, 1)]) (vs := [(0, _), (1, _)]) Tryd.underlying47 zz47 rfl rfl zs3 rfl rfl ⟨(tm rfl), rfl, rfl, rfl, ⟨(tm rfl), rfl, rfl, rfl, trivial⟩⟩) ?_
      refine LexE.stp (U := []) rfl rfl rfl rfl (fun h => by first | rfl | cases h) (fun h' ha m' => Stp.buildFrozen (xs := [_]) (fs := ([(gA (canonR g_ (rootsOf g_ roots)).2.1 (gA (rootsOf g_ roots) q), gA (rootsOf g_ roots) q)] : List (Int × Int)).map encP) Tryd.underlying46 zs47 zz47 rfl rfl (evc (tm rfl) evn) fitL (bl rfl) rfl rfl) ?_
      refine LexE.stp (U := [(2, _)]) rfl rfl rfl rfl (fun h => by first | rfl | cases h) (fun h' ha m' => Stp.appendPlant ap46_46 (tm rfl) ((ha.at_ 2 (by decide)).trans rfl) (ArgE.lst (enc := encP) (tm rfl) (by intro x; first | rfl | exact rxLen x)) (by simp [fz]) (by simp [fz]) rfl) ?_
      refine LexE.val rfl rfl rfl (fun h' ha => Val.assign (tm rfl)) ?_
      refine LexE.nil (nb (nm ?_))
      refine W.norm 187 [(7, _), (8, _), (9, _), (10, _), (12, _), (14, _), (15, _)] [some ⟨_, _, [[_]]⟩, some ⟨_, _, _⟩, some ⟨_, _, _⟩] rfl ⟨rfl, rfl, rfl, rfl, rfl, rfl, rfl, trivial⟩ rfl rfl ?_
      refine W.region ?_
      refine mv rfl rfl ?_
      refine WL.v (Val.add (tm rfl) Ev.const (IntWalk.i64_in _ (by omega))) rfl ?_
      refine asg rfl rfl ?_
      refine WL.norm 187 [(7, _), (8, _), (9, _), (10, _), (12, _), (14, _), (15, _)] [some ⟨_, _, [[_]]⟩, some ⟨_, _, _⟩, some ⟨_, _, _⟩] rfl ⟨rfl, rfl, rfl, rfl, rfl, rfl, rfl, trivial⟩ rfl rfl ?_
      refine wn ?_
      exact ⟨_, by omega, _, [(gA (canonR g_ (rootsOf g_ roots)).2.1 (gA (rootsOf g_ roots) q), gA (rootsOf g_ roots) q)], _, _, rfl, rfl, by omega, by omega, by rw [← given_step hq0 hcq, ← hgv]; rfl, Acc.row (by simp [fz]), fun h => by simp at h⟩
    obtain ⟨gen', rfl, rfl⟩ := Acc.some'' ha (by intro h; exact hz (List.length_eq_zero_iff.1 h))
    have hgl : gv.length ≤ (rootsOf g_ roots).length := by rw [hgv, List.length_map, List.length_take]; omega
    refine W.drawE (fun k => ([([], []), ([], []), ([], []), ([], []), ([], []), ([], []), ([], []), ([], []), ([], []), ([], []), ([], []), ([], []), ([], []), ([], []), ([2], [2]), ([], [])] : List (List Nat × List Nat)).getD k ([], [])) rfl (by kernel_rfl) (bl rfl) ?_
    refine LexE.val rfl rfl rfl (fun h' ha => Val.move (tm rfl)) ?_
    refine LexE.val rfl rfl rfl (fun h' ha => Val.move (tm rfl)) ?_
    refine LexE.val rfl rfl rfl (fun h' ha => Val.move (tm rfl)) ?_
    refine LexE.val rfl rfl rfl (fun h' ha => Val.move (tm rfl)) ?_
    refine LexE.val rfl rfl rfl (fun h' ha => Val.ix (enc := encI) Tryd.underlying22 zs3 (tm rfl) (tm rfl) (by omega) (gA_at (by omega) (by omega))) ?_
    refine LexE.val rfl rfl rfl (fun h' ha => Val.load Tryd.underlying3 rfl (tm rfl)) ?_
    refine LexE.val rfl rfl rfl (fun h' ha => Val.ix (enc := encI) Tryd.underlying22 zs3 (tm rfl) (tm rfl) (by omega) (gA_at (by omega) (by omega))) ?_
    refine LexE.val rfl rfl rfl (fun h' ha => Val.load Tryd.underlying3 rfl (tm rfl)) ?_
    refine LexE.val rfl rfl rfl (fun h' ha => Val.move (tm rfl)) ?_
    refine LexE.val rfl rfl rfl (fun h' ha => Val.move (tm rfl)) ?_
    refine LexE.val rfl rfl rfl (fun h' ha => Val.ix (enc := encI) Tryd.underlying22 zs3 (tm rfl) (tm rfl) (by omega) (gA_at (by omega) (by omega))) ?_
    refine LexE.val rfl rfl rfl (fun h' ha => Val.load Tryd.underlying3 rfl (tm rfl)) ?_
    refine LexE.val rfl rfl rfl (fun h' ha => Val.buildArr (pl := #[(0, 1), (1, 1)]) (vs := [(0, _), (1, _)]) Tryd.underlying47 zz47 rfl rfl zs3 rfl rfl ⟨(tm rfl), rfl, rfl, rfl, ⟨(tm rfl), rfl, rfl, rfl, trivial⟩⟩) ?_
    refine LexE.stp (U := []) rfl rfl rfl rfl (fun h => by first | rfl | cases h) (fun h' ha m' => Stp.buildFrozen (xs := [_]) (fs := ([(gA (canonR g_ (rootsOf g_ roots)).2.1 (gA (rootsOf g_ roots) q), gA (rootsOf g_ roots) q)] : List (Int × Int)).map encP) Tryd.underlying46 zs47 zz47 rfl rfl (evc (tm rfl) evn) fitL (bl rfl) rfl rfl) ?_
    refine LexE.stp (U := [(2, _)]) rfl rfl rfl rfl (fun h => by first | rfl | cases h) (fun h' ha m' => Stp.appendE (enc := encP) (l := _) ap46_46 (tm rfl) ((ha.at_ 2 (by decide)).trans rfl) (by simp [fz]) (ArgE.lst (enc := encP) (tm rfl) (by intro x; first | rfl | exact rxLen x)) (by simp only [List.length_cons, List.length_nil]; omega) rfl) ?_
    refine LexE.val rfl rfl rfl (fun h' ha => Val.assign (tm rfl)) ?_
    refine LexE.nil (nb (nm ?_))
    refine W.norm 187 [(7, _), (8, _), (9, _), (10, _), (12, _), (14, _), (15, _)] [some ⟨_, _, [[_]]⟩, some ⟨_, _, _⟩, some ⟨_, _, _⟩] rfl ⟨rfl, rfl, rfl, rfl, rfl, rfl, rfl, trivial⟩ rfl rfl ?_
    refine W.region ?_
    refine mv rfl rfl ?_
    refine WL.v (Val.add (tm rfl) Ev.const (IntWalk.i64_in _ (by omega))) rfl ?_
    refine asg rfl rfl ?_
    refine WL.norm 187 [(7, _), (8, _), (9, _), (10, _), (12, _), (14, _), (15, _)] [some ⟨_, _, [[_]]⟩, some ⟨_, _, _⟩, some ⟨_, _, _⟩] rfl ⟨rfl, rfl, rfl, rfl, rfl, rfl, rfl, trivial⟩ rfl rfl ?_
    refine wn ?_
    exact ⟨_, by omega, _, gv ++ [(gA (canonR g_ (rootsOf g_ roots)).2.1 (gA (rootsOf g_ roots) q), gA (rootsOf g_ roots) q)], _, _, rfl, rfl, by omega, by omega, by rw [← given_step hq0 hcq, ← hgv], Acc.row (by simp [fz]), fun h => by simp at h⟩
  try simp only [td] at hc16
  refine W.exit (ex1 (ex1 (ex2 (nm ?_))))
  refine W.seq ?_
  obtain rfl : gv = givenOf (canonR g_ (rootsOf g_ roots)).2.1 (rootsOf g_ roots) := by rw [hgv, List.take_of_length_le (by omega)]
  refine W.cut (env := [(7, _), (9, _), (12, _), (14, _)]) (h' := [some ⟨_, _, [[_]]⟩]) (Fewer.pre _ rfl) (.inr (HLo.box (lo1 lo0) HLo.nil)) (fun id h => absurd h (Nat.not_lt_zero _)) ⟨⟨_, rfl, (.same rfl)⟩, ⟨_, rfl, (.same rfl)⟩, ⟨_, rfl, (.whole rfl rfl (by first | (simp; done) | (simp only [List.length_map]; omega)) (encL (by intro x; first | rfl | exact rxLen x)))⟩, ⟨_, rfl, (Acc.thaw ha rfl rfl (encL (by intro x; first | rfl | exact rxLen x)))⟩, trivial⟩ ?_
  refine W.drawE (fun k => ([([0], []), ([], []), ([], []), ([], []), ([], []), ([], []), ([], []), ([], []), ([], []), ([], []), ([], []), ([], [])] : List (List Nat × List Nat)).getD k ([], [])) rfl (by kernel_rfl) (bl rfl) ?_
  refine LexE.val rfl rfl rfl (fun h' ha => Val.loadLiveAgg Tryd.underlying39 rfl zs39 (tm rfl) ((ha.at_ 0 (by decide)).trans rfl) rfl rfl rfl (bl rfl)) ?_
  refine LexE.val rfl rfl rfl (fun h' ha => Val.move (tm rfl)) ?_
  refine LexE.call ca13 (fun h' ha => (evc (tm rfl) evn)) (lo1 lo0) rfl (c_graph W0 N _) rfl ?_
  refine LexE.val rfl rfl rfl (fun h' ha => Val.move (tm rfl)) ?_
  refine LexE.call ca17 (fun h' ha => (evc (tm rfl) (evc (tm rfl) (evc (tm rfl) (evc Ev.const evn))))) (lo2 rfl (lo2 rfl (lo1 (lo1 lo0)))) rfl ((by have h := c_Embed W0 N (canonR g_ (rootsOf g_ roots)).1 g_ hco.wf hg_1 (givenOf (canonR g_ (rootsOf g_ roots)).2.1 (rootsOf g_ roots)) (by rw [List.length_map]; omega) 0 (by decide) (by decide); rw [embed_given hg_1 hr1 0] at h; exact h)) rfl ?_
  refine LexE.val rfl rfl rfl (fun h' ha => Val.move (tm rfl)) ?_
  refine LexE.val rfl rfl rfl (fun h' ha => Val.extract (tm rfl) rfl) ?_
  refine LexE.val rfl rfl rfl (fun h' ha => Val.extract (tm rfl) rfl) ?_
  refine LexE.val rfl rfl rfl (fun h' ha => Val.extract (tm rfl) rfl) ?_
  refine LexE.val rfl rfl rfl (fun h' ha => Val.assign (tm rfl)) ?_
  refine LexE.val rfl rfl rfl (fun h' ha => Val.assign (tm rfl)) ?_
  refine LexE.val rfl rfl rfl (fun h' ha => Val.assign (tm rfl)) ?_
  refine LexE.nil (nm ?_)
  refine W.norm 187 [(7, _), (9, _), (12, _), (16, _), (18, _)] [some ⟨_, _, [[_]]⟩] rfl ⟨rfl, rfl, rfl, rfl, rfl, trivial⟩ rfl rfl ?_
  refine W.seq ?_
  refine W.seq ?_
  refine W.drawE (fun k => ([([], []), ([], []), ([], []), ([0], []), ([], []), ([], []), ([], []), ([], []), ([], []), ([], []), ([], []), ([], []), ([], []), ([], []), ([], []), ([], [])] : List (List Nat × List Nat)).getD k ([], [])) rfl (by kernel_rfl) (bl rfl) ?_
  refine LexE.val rfl rfl rfl (fun h' ha => Val.move (tm rfl)) ?_
  refine LexE.val rfl rfl rfl (fun h' ha => Val.neq (tm rfl) Ev.const) ?_
  refine LexE.val rfl rfl rfl (fun h' ha => Val.move (tm rfl)) ?_
  refine LexE.gval rfl (fun h' => (Grd.f rfl rfl rfl)) rfl (fun hG h' ha => Val.loadLiveAgg Tryd.underlying39 rfl zs39 (tm rfl) ((ha.at_ 0 (by decide)).trans rfl) rfl rfl rfl (bl rfl)) ?_
  refine LexE.gval rfl (fun h' => (Grd.f rfl rfl rfl)) rfl (fun hG h' ha => Val.move (tm rfl)) ?_
  refine LexE.gcall (fun h' => (Grd.f rfl rfl rfl)) ca13 (fun hG h' ha => (evc (Ev.opt rfl hG) evn)) (lo1 lo0) rfl (fun hG => c_graph W0 N _) rfl ?_
  refine LexE.gval rfl (fun h' => (Grd.f rfl rfl rfl)) rfl (fun hG h' ha => Val.move (tm rfl)) ?_
  refine LexE.gcall (fun h' => (Grd.f rfl rfl rfl)) ca12 (fun hG h' ha => (evc (Ev.opt rfl hG) (evc (Ev.opt rfl hG) (evc (Ev.opt rfl hG) evn)))) (lo2 rfl (lo2 rfl (lo1 lo0))) rfl (fun hG => c_ValidM W0 N _ _ hco.wf (by omega) _ (by omega)) rfl ?_
  refine LexE.gval rfl (fun h' => (Grd.f rfl rfl rfl)) rfl (fun hG h' ha => Val.neq (Ev.opt rfl hG) Ev.const) ?_
  refine LexE.val rfl rfl rfl (fun h' ha => Val.or (tm rfl) (fun hb => Ev.opt rfl (nt hb))) ?_
  refine LexE.val rfl rfl rfl (fun h' ha => Val.move (tm rfl)) ?_
  refine LexE.gval rfl (fun h' => (Grd.f rfl rfl rfl)) rfl (fun hG h' ha => Val.move (tm rfl)) ?_
  refine LexE.gval rfl (fun h' => (Grd.f rfl rfl rfl)) rfl (fun hG h' ha => Val.move (tm rfl)) ?_
  refine LexE.gcall (fun h' => (Grd.f rfl rfl rfl)) ca18 (fun hG h' ha => (evc (Ev.opt rfl hG) (evc (Ev.opt rfl hG) evn))) (lo1 (lo1 lo0)) rfl (fun hG => c_SameInts W0 N _ _ (by show ((canonL g_ (rootsOf g_ roots))).length ≤ 1000000; omega)) rfl ?_
  refine LexE.gval rfl (fun h' => (Grd.f rfl rfl rfl)) rfl (fun hG h' ha => Val.not (Ev.opt rfl hG)) ?_
  refine LexE.val rfl rfl rfl (fun h' ha => Val.or (tm rfl) (fun hb => Ev.opt rfl (nt hb))) ?_
  refine LexE.nil (nm ?_)
  refine W.norm 187 [(7, _), (9, _), (12, _), (121, _)] [some ⟨_, _, [[_]]⟩] rfl ⟨rfl, rfl, rfl, rfl, trivial⟩ rfl rfl ?_
  refine W.condP rfl (fun hc20 => ?_) (fun hc20 => ?_)
  · exfalso; simp [hco.valid] at hc20
  try simp only [td] at hc20
  refine W.skip (nm ?_)
  refine W.seq ?_
  refine W.drawE (fun k => ([([0], []), ([], []), ([], []), ([], []), ([], []), ([], []), ([], []), ([], []), ([], []), ([], []), ([], [])] : List (List Nat × List Nat)).getD k ([], [])) rfl (by kernel_rfl) (bl rfl) ?_
  refine LexE.val rfl rfl rfl (fun h' ha => Val.loadLiveAgg Tryd.underlying39 rfl zs39 (tm rfl) ((ha.at_ 0 (by decide)).trans rfl) rfl rfl rfl (bl rfl)) ?_
  refine LexE.val rfl rfl rfl (fun h' ha => Val.move (tm rfl)) ?_
  refine LexE.call ca13 (fun h' ha => (evc (tm rfl) evn)) (lo1 lo0) rfl (c_graph W0 N _) rfl ?_
  refine LexE.call ca17 (fun h' ha => (evc (tm rfl) (evc (tm rfl) (evc (Ev.nilL Ev.const) (evc Ev.const evn))))) (lo2 rfl (lo2 rfl (lo1 (lo1 lo0)))) rfl (c_Embed W0 N (canonR g_ (rootsOf g_ roots)).1 g_ hco.wf hg_1 [] (by decide) 600 (by decide) (by decide)) rfl ?_
  refine LexE.val rfl rfl rfl (fun h' ha => Val.move (tm rfl)) ?_
  refine LexE.val rfl rfl rfl (fun h' ha => Val.extract (tm rfl) rfl) ?_
  refine LexE.val rfl rfl rfl (fun h' ha => Val.extract (tm rfl) rfl) ?_
  refine LexE.val rfl rfl rfl (fun h' ha => Val.extract (tm rfl) rfl) ?_
  refine LexE.val rfl rfl rfl (fun h' ha => Val.assign (tm rfl)) ?_
  refine LexE.val rfl rfl rfl (fun h' ha => Val.assign (tm rfl)) ?_
  refine LexE.val rfl rfl rfl (fun h' ha => Val.assign (tm rfl)) ?_
  refine LexE.nil (nm ?_)
  refine W.norm 187 [(7, _), (9, _), (12, _), (19, _), (20, _), (21, _)] [some ⟨_, _, [[_]]⟩] rfl ⟨rfl, rfl, rfl, rfl, rfl, rfl, trivial⟩ rfl rfl ?_
  refine W.seq ?_
  refine sr ?_
  refine mv rfl rfl ?_
  refine WL.v (Val.eql (tm rfl) Ev.const) rfl ?_
  refine WL.norm 187 [(7, _), (9, _), (12, _), (19, _), (20, _), (21, _), (131, _)] [some ⟨_, _, [[_]]⟩] rfl ⟨rfl, rfl, rfl, rfl, rfl, rfl, rfl, trivial⟩ rfl rfl ?_
  refine wn ?_
  refine W.condP rfl (fun hc23 => ?_) (fun hc23 => ?_)
  · try simp only [td] at hc23
    refine sr ?_
    refine WL.callV ca15 evn lo0 rfl (c_lives W0 N) ?_
    rintro _ rfl
    refine asg rfl rfl ?_
    refine WL.norm 187 [(6, _)] [some ⟨_, _, [[_]]⟩] rfl ⟨rfl, trivial⟩ rfl rfl ?_
    refine wn ?_
    refine W.ret (rt1 ?_)
    exact Ret.of (.inr rfl) rfl (res1 rfl rfl) (Fewer.nil _) (.inr trivial) (fun id h => absurd h (Nat.not_lt_zero _)) (.same rfl) ⟨rfl, rfl⟩
  try simp only [td] at hc23
  refine W.skip (nm ?_)
  refine W.seq ?_
  refine W.seq ?_
  have hE := (embed_nil hco.wf hg_1 (F := 600) (by decide) (validE_iff.1 hco.valid)).resolve_left hc23
  have hEl := hE.2.2.2.1.len
  have hEv := validE_iff.2 hE.2.2.2.1
  have hE1 : ¬ (embedF (canonR g_ (rootsOf g_ roots)).1 g_ [] 600).2.1 < 0 := by omega
  have hE2 : ¬ 600 < (embedF (canonR g_ (rootsOf g_ roots)).1 g_ [] 600).2.1 := by omega
  have hE3 : ((embedF (canonR g_ (rootsOf g_ roots)).1 g_ [] 600).1.length : Int) = (canonL g_ (rootsOf g_ roots)).length := by omega
  refine W.drawE (fun k => ([([], []), ([], []), ([], []), ([], []), ([], []), ([], []), ([], []), ([], []), ([], []), ([], []), ([], []), ([0], []), ([], []), ([], []), ([], []), ([], []), ([], []), ([], []), ([], []), ([], []), ([], []), ([], []), ([], []), ([], []), ([], [])] : List (List Nat × List Nat)).getD k ([], [])) rfl (by kernel_rfl) (bl rfl) ?_
  refine LexE.val rfl rfl rfl (fun h' ha => Val.move (tm rfl)) ?_
  refine LexE.val rfl rfl rfl (fun h' ha => Val.neq (tm rfl) Ev.const) ?_
  refine LexE.val rfl rfl rfl (fun h' ha => Val.move (tm rfl)) ?_
  refine LexE.gval rfl (fun h' => (Grd.f rfl rfl rfl)) rfl (fun hG h' ha => Val.move (tm rfl)) ?_
  refine LexE.gval rfl (fun h' => (Grd.f rfl rfl rfl)) rfl (fun hG h' ha => Val.lss (Ev.opt rfl hG) Ev.const) ?_
  refine LexE.val rfl rfl rfl (fun h' ha => Val.or (tm rfl) (fun hb => Ev.opt rfl (nt hb))) ?_
  refine LexE.val rfl rfl rfl (fun h' ha => Val.move (tm rfl)) ?_
  refine LexE.gval rfl (fun h' => (Grd.f rfl rfl rfl)) rfl (fun hG h' ha => Val.move (tm rfl)) ?_
  refine LexE.gval rfl (fun h' => (Grd.f rfl rfl rfl)) rfl (fun hG h' ha => Val.gtr (Ev.opt rfl hG) Ev.const) ?_
  refine LexE.val rfl rfl rfl (fun h' ha => Val.or (tm rfl) (fun hb => Ev.opt rfl (nt hb))) ?_
  refine LexE.val rfl rfl rfl (fun h' ha => Val.move (tm rfl)) ?_
  refine LexE.gval rfl (fun h' => (Grd.f rfl rfl rfl)) rfl (fun hG h' ha => Val.loadLiveAgg Tryd.underlying39 rfl zs39 (tm rfl) ((ha.at_ 0 (by decide)).trans rfl) rfl rfl rfl (bl rfl)) ?_
  refine LexE.gval rfl (fun h' => (Grd.f rfl rfl rfl)) rfl (fun hG h' ha => Val.move (tm rfl)) ?_
  refine LexE.gcall (fun h' => (Grd.f rfl rfl rfl)) ca13 (fun hG h' ha => (evc (Ev.opt rfl hG) evn)) (lo1 lo0) rfl (fun hG => c_graph W0 N _) rfl ?_
  refine LexE.gval rfl (fun h' => (Grd.f rfl rfl rfl)) rfl (fun hG h' ha => Val.move (tm rfl)) ?_
  refine LexE.gcall (fun h' => (Grd.f rfl rfl rfl)) ca12 (fun hG h' ha => (evc (Ev.opt rfl hG) (evc (Ev.opt rfl hG) (evc (Ev.opt rfl hG) evn)))) (lo2 rfl (lo2 rfl (lo1 lo0))) rfl (fun hG => c_ValidM W0 N _ _ hco.wf (by omega) _ (by omega)) rfl ?_
  refine LexE.gval rfl (fun h' => (Grd.f rfl rfl rfl)) rfl (fun hG h' ha => Val.neq (Ev.opt rfl hG) Ev.const) ?_
  refine LexE.val rfl rfl rfl (fun h' ha => Val.or (tm rfl) (fun hb => Ev.opt rfl (nt hb))) ?_
  refine LexE.val rfl rfl rfl (fun h' ha => Val.move (tm rfl)) ?_
  refine LexE.gval rfl (fun h' => (Grd.f rfl rfl rfl)) rfl (fun hG h' ha => Val.move (tm rfl)) ?_
  refine LexE.gval rfl (fun h' => (Grd.f rfl rfl rfl)) rfl (fun hG h' ha => Val.ln (enc := encI) Tryd.underlying22 (Ev.opt rfl hG)) ?_
  refine LexE.gval rfl (fun h' => (Grd.f rfl rfl rfl)) rfl (fun hG h' ha => Val.move (tm rfl)) ?_
  refine LexE.gval rfl (fun h' => (Grd.f rfl rfl rfl)) rfl (fun hG h' ha => Val.ln (enc := encI) Tryd.underlying22 (Ev.opt rfl hG)) ?_
  refine LexE.gval rfl (fun h' => (Grd.f rfl rfl rfl)) rfl (fun hG h' ha => Val.neq (Ev.opt rfl hG) (Ev.opt rfl hG)) ?_
  refine LexE.val rfl rfl rfl (fun h' ha => Val.or (tm rfl) (fun hb => Ev.opt rfl (nt hb))) ?_
  refine LexE.nil (nm ?_)
  refine W.norm 187 [(12, _), (19, _), (157, _)] [some ⟨_, _, [[_]]⟩] rfl ⟨rfl, rfl, rfl, trivial⟩ rfl rfl ?_
  refine W.condP rfl (fun hc25 => ?_) (fun hc25 => ?_)
  · exfalso; simp [hE.1, hE1, hE2, hEv, hE3] at hc25
  try simp only [td] at hc25
  refine W.skip (nm ?_)
  refine W.seq ?_
  refine W.seq ?_
  refine W.cut (env := [(12, _), (19, _)]) (h' := []) (Fewer.pre _ rfl) (.inr HLo.nil) (fun id h => absurd h (Nat.not_lt_zero _)) ⟨⟨_, rfl, (.same rfl)⟩, ⟨_, rfl, (.same rfl)⟩, trivial⟩ ?_
  refine W.region ?_
  refine mv rfl rfl ?_
  refine WL.v (Val.ln (enc := encI) Tryd.underlying22 (tm rfl)) rfl ?_
  refine WL.v (Val.sub (tm rfl) Ev.const (IntWalk.i64_in _ (by omega))) rfl ?_
  refine asg rfl rfl ?_
  refine WL.norm 187 [(12, _), (19, _), (22, _)] [] rfl ⟨rfl, rfl, rfl, trivial⟩ rfl rfl ?_
  refine wn ?_
  refine W.norm 187 [(12, _), (19, _), (22, _)] [] rfl ⟨rfl, rfl, rfl, trivial⟩ rfl rfl ?_
  refine W.block (W.loop (fun nn S => ∃ (i : Int), S = ⟨187, [(12, .f (.ints (canonL g_ (rootsOf g_ roots)))), (19, .f (.ints (embedF (canonR g_ (rootsOf g_ roots)).1 g_ [] 600).1)), (22, .i i)], [], []⟩ ∧ nn = ((i + 1).toNat) ∧ (-1 ≤ i) ∧ (i < (canonL g_ (rootsOf g_ roots)).length) ∧ (∀ j : Nat, i < j → j < (embedF (canonR g_ (rootsOf g_ roots)).1 g_ [] 600).1.length → gA (embedF (canonR g_ (rootsOf g_ roots)).1 g_ [] 600).1 j = gA (canonL g_ (rootsOf g_ roots)) j)) ⟨_, rfl, rfl, by omega, by omega, fun j h1 h2 => by omega⟩ ?_)
  rintro nn S ⟨i, rfl, rfl, hd0, hd1, hdq⟩
  refine W.seq ?_
  refine sr ?_
  refine mv rfl rfl ?_
  refine WL.v (Val.geq (tm rfl) Ev.const) rfl ?_
  refine WL.norm 187 [(12, _), (19, _), (22, _), (162, _)] [] rfl ⟨rfl, rfl, rfl, rfl, trivial⟩ rfl rfl ?_
  refine wn ?_
  refine W.condP rfl (fun hc28 => ?_) (fun hc28 => ?_)
  · try simp only [td] at hc28
    refine W.skip (nm ?_)
    refine W.seq ?_
    refine W.block ?_
    refine W.seq ?_
    refine W.drawE (fun _ => ([], [])) rfl (by kernel_rfl) (bl rfl) ?_
    refine LexE.val rfl rfl rfl (fun h' ha => Val.move (tm rfl)) ?_
    refine LexE.val rfl rfl rfl (fun h' ha => Val.move (tm rfl)) ?_
    refine LexE.val rfl rfl rfl (fun h' ha => Val.ix (enc := encI) Tryd.underlying22 zs3 (tm rfl) (tm rfl) (by omega) (gA_at (by omega) (by omega))) ?_
    refine LexE.val rfl rfl rfl (fun h' ha => Val.load Tryd.underlying3 rfl (tm rfl)) ?_
    refine LexE.val rfl rfl rfl (fun h' ha => Val.move (tm rfl)) ?_
    refine LexE.val rfl rfl rfl (fun h' ha => Val.move (tm rfl)) ?_
    refine LexE.val rfl rfl rfl (fun h' ha => Val.ix (enc := encI) Tryd.underlying22 zs3 (tm rfl) (tm rfl) (by omega) (gA_at (by omega) (by omega))) ?_
    refine LexE.val rfl rfl rfl (fun h' ha => Val.load Tryd.underlying3 rfl (tm rfl)) ?_
    refine LexE.val rfl rfl rfl (fun h' ha => Val.neq (tm rfl) (tm rfl)) ?_
    refine LexE.nil (nm ?_)
    refine W.norm 187 [(12, _), (19, _), (22, _), (173, _)] [] rfl ⟨rfl, rfl, rfl, rfl, trivial⟩ rfl rfl ?_
    refine W.condP rfl (fun hc30 => ?_) (fun hc30 => ?_)
    · try simp only [td] at hc30
      refine W.seq ?_
      have hlt := le_at hE.2.2.2.2 hc28 (by omega) hdq hc30
      refine W.drawE (fun _ => ([], [])) rfl (by kernel_rfl) (bl rfl) ?_
      refine LexE.val rfl rfl rfl (fun h' ha => Val.move (tm rfl)) ?_
      refine LexE.val rfl rfl rfl (fun h' ha => Val.move (tm rfl)) ?_
      refine LexE.val rfl rfl rfl (fun h' ha => Val.ix (enc := encI) Tryd.underlying22 zs3 (tm rfl) (tm rfl) (by omega) (gA_at (by omega) (by omega))) ?_
      refine LexE.val rfl rfl rfl (fun h' ha => Val.load Tryd.underlying3 rfl (tm rfl)) ?_
      refine LexE.val rfl rfl rfl (fun h' ha => Val.move (tm rfl)) ?_
      refine LexE.val rfl rfl rfl (fun h' ha => Val.move (tm rfl)) ?_
      refine LexE.val rfl rfl rfl (fun h' ha => Val.ix (enc := encI) Tryd.underlying22 zs3 (tm rfl) (tm rfl) (by omega) (gA_at (by omega) (by omega))) ?_
      refine LexE.val rfl rfl rfl (fun h' ha => Val.load Tryd.underlying3 rfl (tm rfl)) ?_
      refine LexE.val rfl rfl rfl (fun h' ha => Val.lss (tm rfl) (tm rfl)) ?_
      refine LexE.val rfl rfl rfl (fun h' ha => Val.move (tm rfl)) ?_
      refine LexE.gcall (fun h' => (Grd.t rfl rfl rfl)) ca15 (fun hG h' ha => evn) lo0 rfl (fun hG => c_lives W0 N) rfl ?_
      refine LexE.val rfl rfl rfl (fun h' ha => Val.and (tm rfl) (fun hb => Ev.opt rfl hb)) ?_
      refine LexE.val rfl rfl rfl (fun h' ha => Val.assign (tm rfl)) ?_
      refine LexE.nil (nm ?_)
      refine W.norm 187 [(6, _)] [] rfl ⟨rfl, trivial⟩ rfl rfl ?_
      refine W.ret (rt2 (rt1 (rt1 (rt2 (rt1 ?_)))))
      exact Ret.of (.inr rfl) rfl (res1 rfl rfl) (Fewer.nil _) (.inr trivial) (fun id h => absurd h (Nat.not_lt_zero _)) (.same rfl) ⟨rfl, by rw [decide_eq_true hlt]; rfl⟩
    try simp only [td] at hc30
    refine W.skip (nb (nm ?_))
    refine W.region ?_
    refine mv rfl rfl ?_
    refine WL.v (Val.sub (tm rfl) Ev.const (IntWalk.i64_in _ (by omega))) rfl ?_
    refine asg rfl rfl ?_
    refine WL.norm 187 [(12, _), (19, _), (22, _)] [] rfl ⟨rfl, rfl, rfl, trivial⟩ rfl rfl ?_
    refine wn ?_
    exact ⟨_, by omega, i - 1, rfl, rfl, by omega, by omega, down_step hc28 hdq hc30⟩
  try simp only [td] at hc28
  refine W.exit (ex1 (ex1 (ex2 (nm ?_))))
  refine sr ?_
  refine WL.callV ca15 evn lo0 rfl (c_lives W0 N) ?_
  rintro _ rfl
  refine asg rfl rfl ?_
  refine WL.norm 187 [(6, _)] [] rfl ⟨rfl, trivial⟩ rfl rfl ?_
  refine wn ?_
  refine W.ret ?_
  exact Ret.of (.inr rfl) rfl (res1 rfl rfl) (Fewer.nil _) (.inr trivial) (fun id h => absurd h (Nat.not_lt_zero _)) (.same rfl) ⟨rfl, rfl⟩
end Go.Aw
