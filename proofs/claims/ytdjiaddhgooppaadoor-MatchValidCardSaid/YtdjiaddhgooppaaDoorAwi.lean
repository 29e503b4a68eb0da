/- A small logic over the walk's rules: rows that are let go while other rows hold slices of them. The nodes with a canonical form's numbers embed it. The walk of the law MatchValid. -/
import Derived.Test.YtdjiaddhgooppaaDoorAwh
set_option linter.unusedVariables false
set_option linter.unusedSimpArgs false
namespace Go.Aw
open Go.RowKit
inductive ThawL (h h' : Heap) : List AV → List AV → Prop where
  | nil : ThawL h h' [] []
  | cons {x y xs ys} : Thaw h h' x y → ThawL h h' xs ys → ThawL h h' (x :: xs) (y :: ys)
/-- Some rows are let go; the cells of those that stay are what they become. -/
structure Thin (h' h : Heap) : Prop where
  row : ∀ (id : Nat) (r' : Row), h'[id]? = some (some r') → ∃ r : Row, h[id]? = some (some r) ∧ r.gen = r'.gen ∧ r.s = r'.s ∧ r'.els.length ≤ r.els.length ∧ ∀ (i : Nat) (e' : List AV), r'.els[i]? = some e' → ∃ e, r.els[i]? = some e ∧ ThawL h h' e e'
section
variable {K : Ctx} {L : Link} {h h' : Heap} {w : World}
theorem own_thin (hs : Thin h' h) {b : Nat} (ho : Own h' (L.cut h') b) : Own h L b := by
  obtain ⟨id, r, tot, hi, hl⟩ := ho
  simp only [Link.cut] at hl
  rw [if_pos (has_of hi)] at hl
  obtain ⟨r0, hr0, hg0, _⟩ := hs.row id r hi
  exact ⟨id, r0, tot, hr0, hg0 ▸ hl⟩
theorem bar_thin (hs : Thin h' h) : ∀ b, b < w.heap.size → Bar K h' (L.cut h') b → Bar K h L b := by
  rintro b _ (hx | ho)
  · exact .inl hx
  · exact .inr (own_thin hs ho)
theorem dead_not_ownT (hh : HSim K L h w) (hs : Thin h' h) {id : Nat} {r : Row} {b tot : Nat} (hr : h[id]? = some (some r)) (hd : h'[id]?.join = none) (hL : L id r.gen = some (b, tot)) : ¬ Bar K h' (L.cut h') b := by
  rintro (hx | ⟨id', r', tot', hi, hl⟩)
  · obtain ⟨b2, t2, _, _, hl2, _, hX, _⟩ := hh.live id r hr
    rw [hL] at hl2; cases hl2; exact hX hx
  · simp only [Link.cut] at hl
    rw [if_pos (has_of hi)] at hl
    obtain ⟨r0, hr0, hg0, _⟩ := hs.row _ _ hi
    have := hh.inj _ _ _ _ _ _ _ hr hr0 hL (hg0 ▸ hl)
    subst this
    rw [hi] at hd; simp at hd

theorem lst_frozenT (hh : HSim K L h w) (hs : Thin h' h) {id gen s i n : Nat} {xs : List (List FV)} (hr : h[id]? = some (some ⟨gen, s, fz xs⟩)) (hd : h'[id]?.join = none) (hin : i + n ≤ xs.length) (hxs : ∀ e, e ∈ xs → e.length = s) {v : Value}
    (hv : (AV.row id gen s i n).rep w (Bar K h L) L v) : (FV.lst s ((xs.drop i).take n)).rep w (Bar K h' (L.cut h')) v := by
  obtain ⟨b, tot, hL, rfl, hit⟩ := hv
  have hno := dead_not_ownT hh hs hr hd hL
  obtain ⟨b2, t2, c, e, hL2, _, _, hc, hsz, hlen, hat⟩ := hh.live id _ hr
  rw [hL] at hL2; cases hL2
  have hb := (Array.getElem?_eq_some_iff.1 hc).1
  have hn : ((xs.drop i).take n).length = n := by simp; omega
  refine ⟨some ⟨b, i * s, none⟩, tot - i, by rw [hn], by rw [hn]; omega, .inr ⟨b, i * s, rfl, hb, hno, FV.repEls_of ?_⟩⟩
  intro j cs hj
  rw [List.getElem?_take] at hj
  split at hj
  · rename_i hjn
    rw [List.getElem?_drop] at hj
    refine ⟨hxs _ (List.mem_of_getElem? hj), ?_⟩
    have he : (fz xs)[i + j]? = some (cs.map .f) := by simp [fz, List.getElem?_map, hj]
    have h1 := hat _ _ he
    refine FV.repCells_of (L := L) (vs := (c.toList.drop ((i + j) * s)).take s) (AV.repL_stays (Stays.refl _ _) (bar_thin hs) (fun _ _ _ h => h) h1) ?_
    intro k y hk
    rw [List.getElem?_take] at hk
    split at hk
    · rw [List.getElem?_drop] at hk
      rw [cell_block hc, show i * s + j * s + k = (i + j) * s + k from by rw [Nat.add_mul]]; simpa using hk
    · simp at hk
  · simp at hj

theorem Thaw.repT (hh : HSim K L h w) (hs : Thin h' h) {x y : AV} (ht : Thaw h h' x y) : ∀ {v : Value}, x.rep w (Bar K h L) L v → y.rep w (Bar K h' (L.cut h')) (L.cut h') v := by
  induction ht with
  | any => intro v _; trivial
  | nil => intro v hv; exact ⟨none, 0, hv, Nat.le_refl _, .inl rfl⟩
  | same hl => intro v hv; exact AV.rep_lo (bar_thin hs) (cut_ext _) hl hv
  | lst hr hd hin hxs => intro v hv; exact lst_frozenT hh hs hr hd hin hxs hv
  | @whole id gen s n xs hr hd hn hxs =>
    intro v hv
    have := lst_frozenT hh hs (i := 0) (n := n) hr hd (by omega) hxs hv
    subst hn
    simp only [List.drop_zero, List.take_length] at this
    exact this
  | @ref id gen s i o cs xs hr hd hcs =>
    intro v hv
    obtain ⟨b, tot, hL, rfl⟩ := hv
    have hno := dead_not_ownT hh hs hr hd hL
    obtain ⟨b2, t2, c, e, hL2, _, _, hc, hsz, hlen, hat⟩ := hh.live id _ hr
    rw [hL] at hL2; cases hL2
    have hb := (Array.getElem?_eq_some_iff.1 hc).1
    have he : (fz xs)[i]? = some (cs.map .f) := by simp [fz, List.getElem?_map, hcs]
    have h1 := hat _ _ he
    refine ⟨b, i * s + o, rfl, hb, hno, FV.repCells_drop (FV.repCells_of (L := L) (vs := (c.toList.drop (i * s)).take s) (AV.repL_stays (Stays.refl _ _) (bar_thin hs) (fun _ _ _ h => h) h1) ?_) o⟩
    intro k y hk
    rw [List.getElem?_take] at hk
    split at hk
    · rw [List.getElem?_drop] at hk
      rw [cell_block hc]; simpa using hk
    · simp at hk
  | agg0 => intro v hv; obtain ⟨vs, e, hR⟩ := hv; cases hvs : vs.toList with
    | nil => exact ⟨vs, e, by rw [hvs]; trivial⟩
    | cons => rw [hvs] at hR; exact hR.elim
  | tup0 => intro v hv; obtain ⟨vs, e, hR⟩ := hv; cases hvs : vs.toList with
    | nil => exact ⟨vs, e, by rw [hvs]; trivial⟩
    | cons => rw [hvs] at hR; exact hR.elim
  | agg _ _ ih1 ih2 =>
    intro v hv
    obtain ⟨vs, e, hR⟩ := hv
    cases hvs : vs.toList with
    | nil => rw [hvs] at hR; exact hR.elim
    | cons y ys =>
      rw [hvs] at hR
      obtain ⟨vs', e', hR'⟩ := ih2 (v := .agg ys.toArray) ⟨ys.toArray, rfl, hR.2⟩
      cases e'
      exact ⟨vs, e, by rw [hvs]; exact ⟨ih1 hR.1, hR'⟩⟩
  | tup _ _ ih1 ih2 =>
    intro v hv
    obtain ⟨vs, e, hR⟩ := hv
    cases hvs : vs.toList with
    | nil => rw [hvs] at hR; exact hR.elim
    | cons y ys =>
      rw [hvs] at hR
      obtain ⟨vs', e', hR'⟩ := ih2 (v := .tuple ys.toArray) ⟨ys.toArray, rfl, hR.2⟩
      cases e'
      exact ⟨vs, e, by rw [hvs]; exact ⟨ih1 hR.1, hR'⟩⟩
theorem ThawL.rep (hh : HSim K L h w) (hs : Thin h' h) : ∀ {xs ys : List AV} {vs : List Value}, ThawL h h' xs ys → AV.repL w (Bar K h L) L xs vs → AV.repL w (Bar K h' (L.cut h')) (L.cut h') ys vs
  | [], [], [], _, _ => trivial
  | x :: xs, y :: ys, v :: vs, .cons h1 h2, hr => ⟨h1.repT hh hs hr.1, ThawL.rep hh hs h2 hr.2⟩
  | [], [], _ :: _, _, hr => hr.elim
  | _ :: _, _, [], _, hr => hr.elim
theorem HSim.thin (hh : HSim K L h w) (hs : Thin h' h) : HSim K (L.cut h') h' w := by
  refine ⟨?_, ?_, ?_, ?_, hh.foreign⟩
  · intro id r' hi
    obtain ⟨r, hr, hg, hss, hle, hels⟩ := hs.row id r' hi
    obtain ⟨b, tot, c, e, h1, h2, h3, h4, h5, h6, h7⟩ := hh.live id r hr
    refine ⟨b, tot, c, e, cut_ext _ _ _ _ (has_of hi) (hg ▸ h1), h2, h3, h4, by rw [← hss]; exact h5, by omega, fun i e' he => ?_⟩
    obtain ⟨e0, he0, ht⟩ := hels i e' he
    have := h7 i e0 he0
    rw [hss] at this
    exact ThawL.rep hh hs ht this
  · intro id r id' r' b t t' hi hi' hl hl'
    simp only [Link.cut] at hl hl'
    rw [if_pos (has_of hi)] at hl; rw [if_pos (has_of hi')] at hl'
    obtain ⟨r1, hr1, hg1, _⟩ := hs.row _ _ hi
    obtain ⟨r2, hr2, hg2, _⟩ := hs.row _ _ hi'
    exact hh.inj _ _ _ _ _ _ _ hr1 hr2 (hg1 ▸ hl) (hg2 ▸ hl')
  · intro id r g hi hg
    obtain ⟨r1, hr1, hg1, _⟩ := hs.row _ _ hi
    simp only [Link.cut]; rw [if_pos (has_of hi)]; exact hh.later id r1 g hr1 (by rw [hg1]; exact hg)
  · intro id g hid
    simp only [Link.cut]; rw [if_neg (by simp [Heap.has, hid])]
theorem Ext.thin {m : Nat} (hh : HSim K L h w) (hm : ∀ id, id < m → Heap.has h' id = true ∨ h[id]?.join = none) (hs : Thin h' h) : Ext K m h L w h' (L.cut h') w := by
  refine ⟨fun id g x hi hx => ?_, Stays.refl _ _, fun b _ ho => own_thin hs ho⟩
  rcases hm id hi with hm | hm
  · exact cut_ext _ _ _ _ hm hx
  · rw [hh.past id g hm] at hx; cases hx
end
section
variable {K : Ctx} {m : Nat} {Q : Post} {S : St}
theorem Sim.thin {L : Link} {a : Act} {w : World} {env : List (Nat × AV)} {h' : Heap} (hs : Sim K L S a w) (hsub : Thin h' S.heap) (he : HasT S h' env) :
    Sim K (L.cut h') { S with env := env, heap := h' } a w :=
  ⟨hs.hs.thin hsub, hs.base, hs.big, fun t y hy => by
    obtain ⟨x, hx, ht⟩ := he.get hy
    exact ht.repT hs.hs hsub (hs.slots t x hx), hs.size, hs.defers⟩
theorem W.thin {c : Code} {env : List (Nat × AV)} {h' : Heap} (hsub : Thin h' S.heap) (hm : ∀ id, id < m → Heap.has h' id = true ∨ S.heap[id]?.join = none) (he : HasT S h' env) (hw : W K m c Q { S with env := env, heap := h' }) : W K m c Q S :=
  fun L a w hs => wp_mono (hw _ a w (hs.thin hsub he)) (lift_trans (Ext.thin hs.hs hm hsub))
end
end Go.Aw
namespace Go.Aw
open Go.RowKit Go.Proofs

def encIs (l : List Int) : List FV := [.ints l]
def encNs (g : List Nd) : List FV := [.nodes g]
theorem rootsOf_ok {g : List Nd} (hg : 1 ≤ g.length) (l : List Int) : (∀ r, r ∈ rootsOf g l → 0 ≤ r ∧ r < (g.length : Int)) ∧ (rootsOf g l).length ≤ 3 := by
  refine ⟨fun r hr => ?_, by rw [rootsOf, List.length_map, List.length_take]; omega⟩
  obtain ⟨x, _, rfl⟩ := List.mem_map.1 hr
  have := around_range (n := x) (most := (g.length : Int)) (by omega)
  omega
theorem canonR_num {g : List Nd} (roots : List Int) : (canonR g roots).2.1.length ≤ g.length := by
  rw [canonR]
  split
  · rw [(canonAt_ok g _ _).1]; exact Nat.le_refl _
  · simp
theorem gA_some {α : Type} [Inhabited α] {l : List α} {j : Nat} {a : α} (h : l[j]? = some a) : gA l (j : Int) = a := by
  have hl := (List.getElem?_eq_some_iff.1 h).1
  have := gA_nat hl
  rw [h] at this; exact (Option.some.inj this).symm
theorem canon_gA (g : List Nd) (l : List Int) {j : Nat} (hj : j < l.length) : gA (canonAt g l l.length).2.1 (j : Int) = nodeOf g l j :=
  gA_some (by rw [canonAt_nodes, List.getElem?_map, List.getElem?_range hj]; rfl)
theorem nodeOf_op (g : List Nd) (l : List Int) (j : Nat) : (nodeOf g l j).op = (gA g (gA l j)).op ∧ (nodeOf g l j).sort = (gA g (gA l j)).sort := by
  rw [nodeOf]; split <;> exact ⟨rfl, rfl⟩
theorem nodeOf_like {g : List Nd} {l : List Int} {j : Nat} (h : ¬ (gA g (gA l j)).op = 0) : (nodeOf g l j).like (gA g (gA l j)) = true := by
  rw [nodeOf, if_neg h]; simp [Nd.like]
theorem canon_kids {g : List Nd} {l : List Int} (hl : VOk g l) (ho : OrdOk g l) {j : Nat} (hj : j < l.length) : (nodeOf g l j).kids.map (fun k => gA l k) = (gA g (gA l j)).kids := by
  rw [nodeOf_kids, List.map_map]
  have : ∀ q, q ∈ (gA g (gA l j)).kids → ((fun k => gA l k) ∘ fun q => gA ((canonAt g l j).1.set (gA l j).toNat j) q) q = q := by
    intro q hq
    obtain ⟨i, _, h2, h3⟩ := canon_kid hl ho hj hq
    show gA l (gA ((canonAt g l j).1.set (gA l j).toNat j) q) = q
    rw [h3, h2]
  exact (List.map_congr_left this).trans (List.map_id _)
theorem valid_canon {g : List Nd} {l : List Int} (hl : VOk g l) (ho : OrdOk g l) : validE (canonAt g l l.length).2.1 g l = 0 := by
  have hlen := (canonAt_ok g l l.length).2.1
  rw [validE, if_neg (by simp [hlen]), if_pos hl.2]
  refine firstErr_zero fun j hj => ?_
  have hj' : j < l.length := by omega
  have e := canon_gA g l hj'
  obtain ⟨h1, h2⟩ := nodeOf_op g l j
  rw [nodeErr, e, h1]
  by_cases hop : (gA g (gA l j)).op = 0
  · rw [if_pos hop, if_pos h2]
  · rw [if_neg hop]
    have hk : (nodeOf g l j).kids.length = (gA g (gA l j)).kids.length := by rw [nodeOf_kids, List.length_map]
    rw [nodeOf_like hop, hk, if_neg (by simp), if_pos (canon_kids hl ho hj')]
/-- What is known of a canonical form of nodes that there are. -/
structure CanonOk (g : List Nd) (p : List Nd) (to l : List Int) : Prop where
  wf : WFG p
  plen : p.length = l.length
  tlen : to.length = g.length
  le : l.length ≤ g.length
  at_ : ∀ j : Nat, j < l.length → (0 ≤ gA l j ∧ gA l j < (g.length : Int)) ∧ gA to (gA l j) = j
  num : ∀ x : Int, 0 ≤ x → x < g.length → gA to x = -1 ∨ (0 ≤ gA to x ∧ gA to x < (l.length : Int) ∧ gA l (gA to x) = x)
  valid : validE p g l = 0
theorem canonR_all {g : List Nd} (hg : WFG g) {roots : List Int} (hr : ∀ r, r ∈ roots → 0 ≤ r ∧ r < (g.length : Int)) : (canonR g roots).2.2 = 0 ∧ CanonOk g (canonR g roots).1 (canonR g roots).2.1 (canonL g roots) := by
  obtain ⟨hl, ho, _⟩ := canonL_all hg hr
  rw [canonR, if_pos hr]
  refine ⟨rfl, canon_wf hg hl ho, (canonAt_ok g _ _).2.1, (canonAt_ok g _ _).1, hl.len, fun j hj => ?_, fun x h0 h1 => ?_, valid_canon hl ho⟩
  · exact ⟨hl.2 _ (gA_mem (l := canonL g roots) (i := (j : Int)) (by omega) (by omega)), (canonAt_num hl _ (Nat.le_refl _)).1 j hj⟩
  · obtain ⟨n1, n2⟩ := canonAt_num hl (canonL g roots).length (Nat.le_refl _)
    by_cases hx : x ∈ (canonL g roots).take (canonL g roots).length
    · obtain ⟨i, hi, _, hix⟩ := mem_take hx
      right
      have := n1 i hi
      rw [hix] at this
      rw [this]; exact ⟨by omega, by omega, hix⟩
    · exact .inl (n2 x h0 h1 hx)
/-- The list of nodes by their numbers, as it is filled. -/
def MOk (to ms : List Int) (i : Int) : Prop := ∀ x : Nat, x < i.toNat → 0 ≤ gA to x → gA ms (gA to x) = x
theorem MOk.set {g p : List Nd} {to l ms : List Int} {i : Int} (hc : CanonOk g p to l) (hml : ms.length = p.length) (h0 : 0 ≤ i) (h1 : i < g.length) (ht : 0 ≤ gA to i) (hm : MOk to ms i) : MOk to (ms.set (gA to i).toNat i) (i + 1) := by
  have hi := (hc.num i h0 h1).resolve_left (by omega)
  have hpl := hc.plen
  intro x hx hx0
  by_cases hxi : (x : Int) = i
  · rw [hxi, gA_set_same rfl (by omega)]
  · have hxn := (hc.num (x : Int) (by omega) (by omega)).resolve_left (by omega)
    have hne : gA to x ≠ gA to i := fun he => hxi (by rw [← hxn.2.2, he, hi.2.2])
    rw [gA_set_ne (by omega)]
    exact hm x (by omega) hx0
theorem MOk.skip {to ms : List Int} {i : Int} (h0 : 0 ≤ i) (ht : gA to i < 0) (hm : MOk to ms i) : MOk to ms (i + 1) := by
  intro x hx hx0
  by_cases hxi : (x : Int) = i
  · rw [hxi] at hx0; omega
  · exact hm x (by omega) hx0
theorem MOk.end {g p : List Nd} {to l ms : List Int} {i : Int} (hc : CanonOk g p to l) (hml : ms.length = p.length) (hi : (g.length : Int) ≤ i) (hm : MOk to ms i) : ms = l := by
  have hpl := hc.plen
  apply List.ext_getElem?
  intro j
  by_cases hj : j < l.length
  · obtain ⟨h1, h2⟩ := hc.at_ j hj
    have e : ((gA l j).toNat : Int) = gA l j := by omega
    have := hm (gA l j).toNat (by omega) (by rw [e, h2]; omega)
    rw [e, h2] at this
    rw [gA_nat (show j < ms.length by omega), gA_nat hj, this]
  · rw [List.getElem?_eq_none (by omega), List.getElem?_eq_none (by omega)]
end Go.Aw
namespace Go.Aw
open Go.RowKit Go.Proofs

theorem ArgE.row {α : Type} {enc : α → List FV} {K : Ctx} {S : St} {l : List α} {x : Operand} {id gen s n : Nat} (hx : Ev K S x (.row id gen s 0 n)) (hr : S.heap[id]? = some (some ⟨gen, s, fz (l.map enc)⟩)) (hn : n = l.length) (h : ∀ x, ((enc x).map AV.f).all AV.one = true) : Arg K S x s (fz (l.map enc)) := by
  have := Arg.row hx hr rfl rfl (by simp [fz]; omega) (oneE h)
  rw [List.drop_zero, List.take_of_length_le (by simp [fz]; omega)] at this
  exact this
theorem max_ok (n : Nat) : 0 ≤ max (0 : Int) ((n : Int) - 1) ∧ max (0 : Int) ((n : Int) - 1) ≤ n := by omega
theorem thin2 {x1 x2 x3 x4 ys : List Int} {g0 : Nat} : Thin [none, some ⟨0, 1, fz (([x1, x2, x3, x4, ys] : List (List Int)).map encIs)⟩] [some ⟨g0, 1, fz (ys.map encI)⟩, some ⟨0, 1, elsOf [.f (.ints x1), .f (.ints x2), .f (.ints x3), .f (.ints x4), .row 0 g0 1 0 ys.length]⟩] := by
  refine ⟨fun id r' h => ?_⟩
  match id, h with
  | 0, h => cases h
  | 1, h =>
    cases h
    refine ⟨_, rfl, rfl, rfl, Nat.le_refl _, fun i e' he => ?_⟩
    match i, he with
    | 0, he => cases he; exact ⟨_, rfl, .cons (.same rfl) .nil⟩
    | 1, he => cases he; exact ⟨_, rfl, .cons (.same rfl) .nil⟩
    | 2, he => cases he; exact ⟨_, rfl, .cons (.same rfl) .nil⟩
    | 3, he => cases he; exact ⟨_, rfl, .cons (.same rfl) .nil⟩
    | 4, he => cases he; exact ⟨_, rfl, .cons (.whole rfl rfl (by simp) (encL (by intro x; rfl))) .nil⟩
    | n + 5, he => simp [fz] at he
  | n + 2, h => simp at h

-- enthymemelaw13.MatchValid
set_option maxHeartbeats 1000000 in
theorem c_MatchValid (W0 : World) (N : Nat) (l : List Int) (hl : l.length ≤ 1152921504606846975) (hi : ∀ x, x ∈ l → I6 x) (kind : Int) (hk : I6 kind) (roots : List Int) (hrl : roots.length ≤ 1152921504606846975) (hri : ∀ x, x ∈ roots → I6 x) (at_ : Int) (hat : I6 at_) (by_ : Int) (hby : I6 by_) : AC (En W0 N) 3 [.f (.ints l), .i kind, .f (.ints roots), .i at_, .i by_] [] (fun r h => h = [] ∧ r = .b true) := by
  refine AC.enter Tryd.func3 rfl Tryd.ntmps3 (bl rfl) fun X => ?_
  refine sr ?_
  refine WL.v (Val.assign Ev.const) rfl ?_
  refine WL.norm 134 [(0, _), (1, _), (2, _), (3, _), (4, _)] [] rfl ⟨rfl, rfl, rfl, rfl, rfl, trivial⟩ rfl rfl ?_
  refine wn ?_
  refine sr ?_
  refine mv rfl rfl ?_
  refine mv rfl rfl ?_
  refine WL.callV ca8 (evc (tm rfl) (evc Ev.const evn)) (lo1 (lo1 lo0)) rfl (c_Around W0 N _ _ (by assumption) (by omega)) ?_
  rintro _ rfl
  refine WL.callV ca7 (evc (tm rfl) (evc (tm rfl) (evc Ev.const evn))) (lo1 (lo1 (lo1 lo0))) rfl (c_Made W0 N _ _ _ hl hi (by omega) (by omega)) ?_
  rintro _ ⟨g_, rfl, hg_1, hg_2, hg_3⟩
  refine asg rfl rfl ?_
  refine WL.norm 134 [(2, _), (3, _), (4, _), (11, _)] [] rfl ⟨rfl, rfl, rfl, rfl, trivial⟩ rfl rfl ?_
  refine wn ?_
  refine W.seq ?_
  obtain ⟨hr1, hr2⟩ := rootsOf_ok (g := g_) (by omega) roots
  refine W.region ?_
  refine mv rfl rfl ?_
  refine mv rfl rfl ?_
  refine mv rfl rfl ?_
  refine WL.callV ca10 (evc (tm rfl) (evc (tm rfl) evn)) (lo1 (lo1 lo0)) rfl (c_Roots W0 N _ (by omega) (by omega) _ (by assumption) (by assumption)) ?_
  rintro _ rfl
  refine WL.callV ca9 (evc (tm rfl) (evc (tm rfl) evn)) (lo1 (lo1 lo0)) rfl (c_CanonR W0 N g_ hg_1 (by omega) _ (by omega)) ?_
  rintro _ rfl
  refine mv rfl rfl ?_
  refine WL.v (Val.extract (tm rfl) rfl) rfl ?_
  refine WL.v (Val.extract (tm rfl) rfl) rfl ?_
  refine WL.v (Val.extract (tm rfl) rfl) rfl ?_
  refine asg rfl rfl ?_
  refine asg rfl rfl ?_
  refine asg rfl rfl ?_
  refine WL.norm 134 [(3, _), (4, _), (11, _), (12, _), (13, _), (14, _)] [] rfl ⟨rfl, rfl, rfl, rfl, rfl, rfl, trivial⟩ rfl rfl ?_
  refine wn ?_
  refine W.seq ?_
  refine W.seq ?_
  obtain ⟨hce, hco⟩ := canonR_all hg_1 hr1
  have hpl := hco.plen
  have htl := hco.tlen
  have hle := hco.le
  refine W.region ?_
  refine mv rfl rfl ?_
  refine WL.v (Val.neq (tm rfl) Ev.const) rfl ?_
  refine WL.norm 134 [(3, _), (4, _), (11, _), (12, _), (13, _), (36, _)] [] rfl ⟨rfl, rfl, rfl, rfl, rfl, rfl, trivial⟩ rfl rfl ?_
  refine wn ?_
  refine W.condP rfl (fun hc3 => ?_) (fun hc3 => ?_)
  · try simp only [td] at hc3
    exact absurd hce hc3
  try simp only [td] at hc3
  refine W.skip (nm ?_)
  refine sr ?_
  refine mv rfl rfl ?_
  refine WL.v (Val.ln (enc := Nd.cells) Tryd.underlying23 (tm rfl)) rfl ?_
  refine WL.stp rfl (Stp.makeI Tryd.underlying22 zs3 zb3 zz3 (tm rfl) (tm rfl) (by omega) (by omega) rfl) ?_
  refine asg rfl rfl ?_
  refine WL.norm 134 [(3, _), (4, _), (11, _), (12, _), (13, _), (15, _)] [some ⟨_, _, _⟩] rfl ⟨rfl, rfl, rfl, rfl, rfl, rfl, trivial⟩ rfl rfl ?_
  refine wn ?_
  refine W.seq ?_
  refine sr ?_
  refine WL.v (Val.assign Ev.const) rfl ?_
  refine WL.norm 134 [(3, _), (4, _), (11, _), (12, _), (13, _), (15, _), (16, _)] [some ⟨_, _, _⟩] rfl ⟨rfl, rfl, rfl, rfl, rfl, rfl, rfl, trivial⟩ rfl rfl ?_
  refine wn ?_
  refine W.norm 134 [(3, _), (4, _), (11, _), (12, _), (13, _), (15, _), (16, _)] [some ⟨_, _, _⟩] rfl ⟨rfl, rfl, rfl, rfl, rfl, rfl, rfl, trivial⟩ rfl rfl ?_
  refine W.block (W.loop (fun nn S => ∃ (i : Int) (ms : List Int), S = ⟨134, [(3, .i at_), (4, .i by_), (11, .f (.nodes g_)), (12, .f (.nodes (canonR g_ (rootsOf g_ roots)).1)), (13, .f (.ints (canonR g_ (rootsOf g_ roots)).2.1)), (15, .row 0 0 1 0 (canonR g_ (rootsOf g_ roots)).1.length), (16, .i i)], [some ⟨0, 1, fz (ms.map encI)⟩], []⟩ ∧ nn = ((g_.length - i).toNat) ∧ (0 ≤ i) ∧ (i ≤ g_.length) ∧ (ms.length = (canonR g_ (rootsOf g_ roots)).1.length) ∧ (MOk (canonR g_ (rootsOf g_ roots)).2.1 ms i)) ⟨0, _, rfl, rfl, by omega, by omega, by simp, fun x hx => by simp at hx⟩ ?_)
  rintro nn S ⟨i, ms, rfl, rfl, hi0, hi1, hml, hm⟩
  refine W.seq ?_
  refine sr ?_
  refine mv rfl rfl ?_
  refine mv rfl rfl ?_
  refine WL.v (Val.ln (enc := encI) Tryd.underlying22 (tm rfl)) rfl ?_
  refine WL.v (Val.lss (tm rfl) (tm rfl)) rfl ?_
  refine WL.norm 134 [(3, _), (4, _), (11, _), (12, _), (13, _), (15, _), (16, _), (43, _)] [some ⟨_, _, _⟩] rfl ⟨rfl, rfl, rfl, rfl, rfl, rfl, rfl, rfl, trivial⟩ rfl rfl ?_
  refine wn ?_
  refine W.condP rfl (fun hc7 => ?_) (fun hc7 => ?_)
  · try simp only [td] at hc7
    refine W.skip (nm ?_)
    refine W.seq ?_
    refine W.block ?_
    refine W.seq ?_
    have hig : i < g_.length := by omega
    refine W.region ?_
    refine mv rfl rfl ?_
    refine mv rfl rfl ?_
    refine WL.v (Val.ix (enc := encI) Tryd.underlying22 zs3 (tm rfl) (tm rfl) (by omega) (gA_at (by omega) (by omega))) rfl ?_
    refine WL.v (Val.load Tryd.underlying3 rfl (tm rfl)) rfl ?_
    refine WL.v (Val.geq (tm rfl) Ev.const) rfl ?_
    refine WL.norm 134 [(3, _), (4, _), (11, _), (12, _), (13, _), (15, _), (16, _), (50, _)] [some ⟨_, _, _⟩] rfl ⟨rfl, rfl, rfl, rfl, rfl, rfl, rfl, rfl, trivial⟩ rfl rfl ?_
    refine wn ?_
    refine W.condP rfl (fun hc9 => ?_) (fun hc9 => ?_)
    · try simp only [td] at hc9
      have hnum := (hco.num i hi0 hig).resolve_left (by omega)
      refine W.region ?_
      refine mv rfl rfl ?_
      refine mv rfl rfl ?_
      refine mv rfl rfl ?_
      refine WL.v (Val.ix (enc := encI) Tryd.underlying22 zs3 (tm rfl) (tm rfl) (by omega) (gA_at (by omega) (by omega))) rfl ?_
      refine WL.v (Val.load Tryd.underlying3 rfl (tm rfl)) rfl ?_
      refine mv rfl rfl ?_
      refine WL.v (Val.indexAddrLive Tryd.underlying22 zs3 (tm rfl) (tm rfl) (by omega) (by omega)) rfl ?_
      refine WL.stp rfl (Stp.storeI zs3 (tm rfl) (tm rfl) rfl (by omega) (by omega) rfl) ?_
      refine WL.norm 134 [(3, _), (4, _), (11, _), (12, _), (13, _), (15, _), (16, _)] [some ⟨_, _, _⟩] rfl ⟨rfl, rfl, rfl, rfl, rfl, rfl, rfl, trivial⟩ rfl rfl ?_
      refine WL.nil (nb (nm ?_))
      refine W.region ?_
      refine mv rfl rfl ?_
      refine WL.v (Val.add (tm rfl) Ev.const (IntWalk.i64_in _ (by omega))) rfl ?_
      refine asg rfl rfl ?_
      refine WL.norm 134 [(3, _), (4, _), (11, _), (12, _), (13, _), (15, _), (16, _)] [some ⟨_, _, _⟩] rfl ⟨rfl, rfl, rfl, rfl, rfl, rfl, rfl, trivial⟩ rfl rfl ?_
      refine wn ?_
      exact ⟨_, by omega, i + 1, _, rfl, rfl, by omega, by omega, by first | exact hml | (rw [List.length_set]; exact hml), by first | exact MOk.skip hi0 hc9 hm | exact MOk.set hco hml hi0 hig hc9 hm⟩
    try simp only [td] at hc9
    refine W.skip (nb (nm ?_))
    refine W.region ?_
    refine mv rfl rfl ?_
    refine WL.v (Val.add (tm rfl) Ev.const (IntWalk.i64_in _ (by omega))) rfl ?_
    refine asg rfl rfl ?_
    refine WL.norm 134 [(3, _), (4, _), (11, _), (12, _), (13, _), (15, _), (16, _)] [some ⟨_, _, _⟩] rfl ⟨rfl, rfl, rfl, rfl, rfl, rfl, rfl, trivial⟩ rfl rfl ?_
    refine wn ?_
    exact ⟨_, by omega, i + 1, _, rfl, rfl, by omega, by omega, by first | exact hml | (rw [List.length_set]; exact hml), by first | exact MOk.skip hi0 hc9 hm | exact MOk.set hco hml hi0 hig hc9 hm⟩
  try simp only [td] at hc7
  refine W.exit (ex1 (ex1 (ex2 (nm ?_))))
  refine W.seq ?_
  have hmL := MOk.end hco hml (by omega) hm
  subst hmL
  refine W.region ?_
  refine WL.stp rfl (Stp.buildSlice (xs := []) Tryd.underlying22 zs3 zz3 rfl rfl evn fitL (bl rfl) rfl) ?_
  refine mv rfl rfl ?_
  refine WL.stp rfl (Stp.appendE (enc := encI) (l := ([] : List Int)) ap22_22 (tm rfl) rfl rfl (ArgE.row (enc := encI) (l := (canonL g_ (rootsOf g_ roots))) (tm rfl) rfl (by omega) (by intro x; rfl)) (by simp only [List.length_nil]; omega) rfl) ?_
  refine asg rfl rfl ?_
  refine WL.norm 134 [(3, _), (4, _), (11, _), (12, _), (15, _), (17, _)] [some ⟨_, _, _⟩, some ⟨_, _, _⟩] rfl ⟨rfl, rfl, rfl, rfl, rfl, rfl, trivial⟩ rfl rfl ?_
  refine wn ?_
  refine sr ?_
  refine WL.stp rfl (Stp.buildSlice (xs := []) Tryd.underlying22 zs3 zz3 rfl rfl evn fitL (bl rfl) rfl) ?_
  refine mv rfl rfl ?_
  refine WL.stp rfl (Stp.appendE (enc := encI) (l := ([] : List Int)) ap22_22 (tm rfl) rfl rfl (ArgE.row (enc := encI) (l := (canonL g_ (rootsOf g_ roots))) (tm rfl) rfl (by omega) (by intro x; rfl)) (by simp only [List.length_nil]; omega) rfl) ?_
  refine asg rfl rfl ?_
  refine WL.norm 134 [(3, _), (4, _), (11, _), (12, _), (15, _), (17, _), (18, _)] [some ⟨_, _, _⟩, some ⟨_, _, _⟩, some ⟨_, _, _⟩] rfl ⟨rfl, rfl, rfl, rfl, rfl, rfl, rfl, trivial⟩ rfl rfl ?_
  refine wn ?_
  refine W.join (fun S => ∃ (bs ss : List Int), S = ⟨134, [(11, .f (.nodes g_)), (12, .f (.nodes (canonR g_ (rootsOf g_ roots)).1)), (15, .row 0 0 1 0 (canonR g_ (rootsOf g_ roots)).1.length), (17, .row 1 1 1 0 (canonL g_ (rootsOf g_ roots)).length), (18, .row 2 1 1 0 (canonL g_ (rootsOf g_ roots)).length)], [some ⟨0, 1, fz ((canonL g_ (rootsOf g_ roots)).map encI)⟩, some ⟨1, 1, fz (bs.map encI)⟩, some ⟨1, 1, fz (ss.map encI)⟩], []⟩ ∧ (bs.length = (canonL g_ (rootsOf g_ roots)).length) ∧ (ss.length = (canonL g_ (rootsOf g_ roots)).length)) ?_ ?_
  · refine sr ?_
    refine mv rfl rfl ?_
    refine WL.v (Val.lenRow Tryd.underlying22 (tm rfl)) rfl ?_
    refine WL.v (Val.gtr (tm rfl) Ev.const) rfl ?_
    refine WL.norm 134 [(3, _), (4, _), (11, _), (12, _), (15, _), (17, _), (18, _), (66, _)] [some ⟨_, _, _⟩, some ⟨_, _, _⟩, some ⟨_, _, _⟩] rfl ⟨rfl, rfl, rfl, rfl, rfl, rfl, rfl, rfl, trivial⟩ rfl rfl ?_
    refine wn ?_
    refine W.condP rfl (fun hc13 => ?_) (fun hc13 => ?_)
    · try simp only [td] at hc13
      refine sr ?_
      refine mv rfl rfl ?_
      refine mv rfl rfl ?_
      refine WL.v (Val.lenRow Tryd.underlying22 (tm rfl)) rfl ?_
      refine WL.callV ca8 (evc (tm rfl) (evc (tm rfl) evn)) (lo1 (lo1 lo0)) rfl (c_Around W0 N _ _ hat (by omega)) ?_
      rintro _ rfl
      refine asg rfl rfl ?_
      refine WL.norm 134 [(4, _), (11, _), (12, _), (15, _), (17, _), (18, _), (19, _)] [some ⟨_, _, _⟩, some ⟨_, _, _⟩, some ⟨_, _, _⟩] rfl ⟨rfl, rfl, rfl, rfl, rfl, rfl, rfl, trivial⟩ rfl rfl ?_
      refine wn ?_
      refine W.seq ?_
      have har := around_range (n := at_) (most := ((canonR g_ (rootsOf g_ roots)).1.length : Int)) (by omega)
      have hapl : (([] : List Int) ++ (canonL g_ (rootsOf g_ roots))).length = (canonL g_ (rootsOf g_ roots)).length := rfl
      refine W.region ?_
      refine mv rfl rfl ?_
      refine mv rfl rfl ?_
      refine mv rfl rfl ?_
      refine WL.v (Val.indexAddrLive Tryd.underlying22 zs3 (tm rfl) (tm rfl) (by omega) (by omega)) rfl ?_
      refine WL.stp rfl (Stp.storeI zs3 (tm rfl) (tm rfl) rfl (by omega) (by omega) rfl) ?_
      refine WL.norm 134 [(4, _), (11, _), (12, _), (15, _), (17, _), (18, _), (19, _)] [some ⟨_, _, _⟩, some ⟨_, _, _⟩, some ⟨_, _, _⟩] rfl ⟨rfl, rfl, rfl, rfl, rfl, rfl, rfl, trivial⟩ rfl rfl ?_
      refine wn ?_
      have har := around_range (n := at_) (most := ((canonR g_ (rootsOf g_ roots)).1.length : Int)) (by omega)
      have hapl : (([] : List Int) ++ (canonL g_ (rootsOf g_ roots))).length = (canonL g_ (rootsOf g_ roots)).length := rfl
      refine W.region ?_
      refine mv rfl rfl ?_
      refine mv rfl rfl ?_
      refine mv rfl rfl ?_
      refine mv rfl rfl ?_
      refine mv rfl rfl ?_
      refine WL.v (Val.ix (enc := Nd.cells) Tryd.underlying23 zs35 (tm rfl) (tm rfl) (by omega) (gA_at (by omega) (by omega))) rfl ?_
      refine WL.v (Val.fa (off := 6) Tryd.underlying35 rfl rfl zs33 (tm rfl)) rfl ?_
      refine WL.v (Val.loadAgg Tryd.underlying33 rfl zs33 (tm rfl) (bl rfl)) rfl ?_
      refine mv rfl rfl ?_
      refine WL.callV ca11 (evc (tm rfl) (evc (tm rfl) (evc (tm rfl) evn))) (lo1 (lo2 rfl (lo1 lo0))) rfl (c_Like W0 N _ hg_1 _ _ hby) ?_
      rintro _ ⟨q_, rfl, hq_0, hq_1⟩
      refine WL.v (Val.indexAddrLive Tryd.underlying22 zs3 (tm rfl) (tm rfl) (by omega) (by omega)) rfl ?_
      refine WL.stp rfl (Stp.storeI zs3 (tm rfl) (tm rfl) rfl (by omega) (by omega) rfl) ?_
      refine WL.norm 134 [(11, _), (12, _), (15, _), (17, _), (18, _)] [some ⟨_, _, _⟩, some ⟨_, _, _⟩, some ⟨_, _, _⟩] rfl ⟨rfl, rfl, rfl, rfl, rfl, trivial⟩ rfl rfl ?_
      refine wn ?_
      exact ⟨_, _, rfl, by simp, by simp⟩
    try simp only [td] at hc13
    refine W.norm 134 [(11, _), (12, _), (15, _), (17, _), (18, _)] [some ⟨_, _, _⟩, some ⟨_, _, _⟩, some ⟨_, _, _⟩] rfl ⟨rfl, rfl, rfl, rfl, rfl, trivial⟩ rfl rfl ?_
    refine W.skip (nm ?_)
    exact ⟨_, _, rfl, by simp, by simp⟩
  rintro S ⟨bs, ss, rfl, hbs, hss⟩
  refine W.seq ?_
  refine W.cut (env := [(11, _), (12, _), (15, _), (17, _), (18, _)]) (h' := []) (Fewer.pre _ rfl) (.inr HLo.nil) (fun id h => absurd h (Nat.not_lt_zero _)) ⟨⟨_, rfl, (.same rfl)⟩, ⟨_, rfl, (.same rfl)⟩, ⟨_, rfl, (.whole rfl rfl (by first | (simp; done) | (simp only [List.length_map]; omega)) (encL (by intro x; first | rfl | exact rxLen x)))⟩, ⟨_, rfl, (.whole rfl rfl (by first | (simp; done) | (simp only [List.length_map]; omega)) (encL (by intro x; first | rfl | exact rxLen x)))⟩, ⟨_, rfl, (.whole rfl rfl (by first | (simp; done) | (simp only [List.length_map]; omega)) (encL (by intro x; first | rfl | exact rxLen x)))⟩, trivial⟩ ?_
  refine W.reserve ?_
  refine W.reserve ?_
  refine W.drawE (fun k => ([([], []), ([], []), ([], []), ([], []), ([], []), ([], []), ([], []), ([], []), ([], []), ([0], [0]), ([], []), ([0], [0]), ([], []), ([0], [0]), ([1], [1]), ([], [])] : List (List Nat × List Nat)).getD k ([], [])) rfl (by kernel_rfl) (bl rfl) ?_
  refine LexE.val rfl rfl rfl (fun h' ha => Val.move (tm rfl)) ?_
  refine LexE.val rfl rfl rfl (fun h' ha => Val.move (tm rfl)) ?_
  refine LexE.val rfl rfl rfl (fun h' ha => Val.move (tm rfl)) ?_
  refine LexE.val rfl rfl rfl (fun h' ha => Val.move (tm rfl)) ?_
  refine LexE.val rfl rfl rfl (fun h' ha => Val.move (tm rfl)) ?_
  refine LexE.val rfl rfl rfl (fun h' ha => Val.ln (enc := encI) Tryd.underlying22 (tm rfl)) ?_
  refine LexE.val rfl rfl rfl (fun h' ha => Val.sub (tm rfl) Ev.const (IntWalk.i64_in _ (by omega))) ?_
  refine LexE.val rfl rfl rfl (fun h' ha => Val.max Ev.const (tm rfl)) ?_
  refine LexE.val rfl rfl rfl (fun h' ha => Val.sliceLI (enc := encI) Tryd.underlying22 zs3 (tm rfl) rfl ⟨_, (tm rfl)⟩ (by omega) (max_ok _).1 (max_ok _).2) ?_
  refine LexE.stp (U := [(0, _)]) rfl rfl rfl rfl (fun h => by first | rfl | cases h) (fun h' ha m' => Stp.buildAt (xs := []) Tryd.underlying22 zs3 zz3 rfl rfl evn fitL (bl rfl) ((ha.at_ 0 (by decide)).trans rfl) rfl) ?_
  refine LexE.val rfl rfl rfl (fun h' ha => Val.move (tm rfl)) ?_
  refine LexE.stp (U := [(0, _)]) rfl rfl rfl rfl (fun h => by first | rfl | cases h) (fun h' ha m' => Stp.appendE (enc := encI) (l := ([] : List Int)) ap22_22 (tm rfl) ((ha.at_ 0 (by decide)).trans rfl) rfl (ArgE.lst (enc := encI) (tm rfl) (by intro x; rfl)) (by simp only [List.length_append, List.length_map, List.length_cons, List.length_nil]; omega) rfl) ?_
  refine LexE.stp (U := []) rfl rfl rfl rfl (fun h => by first | rfl | cases h) (fun h' ha m' => Stp.buildFrozen (xs := [_]) (fs := ([0] : List Int).map encI) Tryd.underlying22 zs3 zz3 rfl rfl (evc Ev.const evn) fitL (bl rfl) rfl rfl) ?_
  refine LexE.stp (U := [(0, _)]) rfl rfl rfl rfl (fun h => by first | rfl | cases h) (fun h' ha m' => Stp.appendE (enc := encI) (l := (([] : List Int) ++ (canonL g_ (rootsOf g_ roots)))) ap22_22 (tm rfl) ((ha.at_ 0 (by decide)).trans rfl) rfl (ArgE.lst (enc := encI) (tm rfl) (by intro x; first | rfl | exact rxLen x)) (by simp only [List.length_append, List.length_cons, List.length_nil]; omega) rfl) ?_
  refine LexE.stp (U := [(1, _)]) rfl rfl rfl rfl (fun h => by first | rfl | cases h) (fun h' ha m' => Stp.buildAt (xs := [_, _, _, _, _]) Tryd.underlying36 zs22 zz22 rfl rfl (evc (tm rfl) (evc (tm rfl) (evc (tm rfl) (evc (tm rfl) (evc (tm rfl) evn))))) fitL (bl rfl) ((ha.at_ 1 (by decide)).trans rfl) rfl) ?_
  refine LexE.val rfl rfl rfl (fun h' ha => Val.assign (tm rfl)) ?_
  refine LexE.nil (nm ?_)
  refine W.norm 134 [(11, _), (12, _), (15, _), (20, _)] [some ⟨_, _, _⟩, some ⟨_, _, _⟩] rfl ⟨rfl, rfl, rfl, rfl, trivial⟩ rfl rfl ?_
  refine W.seq ?_
  refine W.seq ?_
  refine W.thin (env := [(11, _), (12, _), (15, _), (20, _)]) (h' := [none, some ⟨0, 1, fz (([(canonL g_ (rootsOf g_ roots)), bs, ss, (((canonL g_ (rootsOf g_ roots)).drop (0 : Nat)).take ((max (0 : Int) (((canonL g_ (rootsOf g_ roots)).length : Int) - 1)).toNat - 0)), ([] : List Int) ++ (canonL g_ (rootsOf g_ roots)) ++ [0]] : List (List Int)).map encIs)⟩]) thin2 (fun id h => absurd h (Nat.not_lt_zero _)) ⟨⟨_, rfl, .same rfl⟩, ⟨_, rfl, .same rfl⟩, ⟨_, rfl, .same rfl⟩, ⟨_, rfl, .same rfl⟩, trivial⟩ ?_
  refine W.cut (env := [(11, _), (12, _), (15, _), (20, _)]) (h' := []) (Fewer.pre _ rfl) (.inr HLo.nil) (fun id h => absurd h (Nat.not_lt_zero _)) ⟨⟨_, rfl, (.same rfl)⟩, ⟨_, rfl, (.same rfl)⟩, ⟨_, rfl, (.same rfl)⟩, ⟨_, rfl, (.whole rfl rfl (by first | (simp; done) | (simp only [List.length_map]; omega)) (encL (by intro x; first | rfl | exact rxLen x)))⟩, trivial⟩ ?_
  have hLS : ∀ x, x ∈ ([(canonL g_ (rootsOf g_ roots)), bs, ss, (((canonL g_ (rootsOf g_ roots)).drop (0 : Nat)).take ((max (0 : Int) (((canonL g_ (rootsOf g_ roots)).length : Int) - 1)).toNat - 0)), ([] : List Int) ++ (canonL g_ (rootsOf g_ roots)) ++ [0]] : List (List Int)) → x.length ≤ 1000000 := by intro x hx; simp only [List.mem_cons, List.not_mem_nil, or_false] at hx; rcases hx with rfl | rfl | rfl | rfl | rfl; omega; omega; omega; simp; omega; simp; omega
  refine W.region ?_
  refine WL.v (Val.assign Ev.const) rfl ?_
  refine WL.norm 134 [(11, _), (12, _), (15, _), (20, _), (21, _)] [] rfl ⟨rfl, rfl, rfl, rfl, rfl, trivial⟩ rfl rfl ?_
  refine wn ?_
  refine W.norm 134 [(11, _), (12, _), (15, _), (20, _), (21, _)] [] rfl ⟨rfl, rfl, rfl, rfl, rfl, trivial⟩ rfl rfl ?_
  refine W.block (W.loop (fun nn S => ∃ (i : Int), S = ⟨134, [(11, .f (.nodes g_)), (12, .f (.nodes (canonR g_ (rootsOf g_ roots)).1)), (15, .f (.ints (canonL g_ (rootsOf g_ roots)))), (20, .f (.lst 1 (([(canonL g_ (rootsOf g_ roots)), bs, ss, (((canonL g_ (rootsOf g_ roots)).drop (0 : Nat)).take ((max (0 : Int) (((canonL g_ (rootsOf g_ roots)).length : Int) - 1)).toNat - 0)), ([] : List Int) ++ (canonL g_ (rootsOf g_ roots)) ++ [0]] : List (List Int)).map encIs))), (21, .i i)], [], []⟩ ∧ nn = ((5 - i).toNat) ∧ (0 ≤ i) ∧ (i ≤ 5)) ⟨0, rfl, rfl, by omega, by omega⟩ ?_)
  rintro nn S ⟨i, rfl, rfl, hq0, hq1⟩
  refine W.seq ?_
  refine sr ?_
  refine mv rfl rfl ?_
  refine mv rfl rfl ?_
  refine WL.v (Val.ln (enc := encIs) Tryd.underlying36 (tm rfl)) rfl ?_
  refine WL.v (Val.lss (tm rfl) (tm rfl)) rfl ?_
  refine WL.norm 134 [(11, _), (12, _), (15, _), (20, _), (21, _), (104, _)] [] rfl ⟨rfl, rfl, rfl, rfl, rfl, rfl, trivial⟩ rfl rfl ?_
  refine wn ?_
  refine W.condP rfl (fun hc19 => ?_) (fun hc19 => ?_)
  · try simp only [td] at hc19
    refine W.skip (nm ?_)
    refine W.seq ?_
    refine W.block ?_
    refine W.seq ?_
    have hi5 : i < (5 : Int) := hc19
    have hLk := hLS _ (gA_mem (l := ([(canonL g_ (rootsOf g_ roots)), bs, ss, (((canonL g_ (rootsOf g_ roots)).drop (0 : Nat)).take ((max (0 : Int) (((canonL g_ (rootsOf g_ roots)).length : Int) - 1)).toNat - 0)), ([] : List Int) ++ (canonL g_ (rootsOf g_ roots)) ++ [0]] : List (List Int))) hq0 (by show i < (5 : Int); omega))
    refine W.drawE (fun _ => ([], [])) rfl (by kernel_rfl) (bl rfl) ?_
    refine LexE.val rfl rfl rfl (fun h' ha => Val.move (tm rfl)) ?_
    refine LexE.call ca13 (fun h' ha => (evc (tm rfl) evn)) (lo1 lo0) rfl (c_graph W0 N _) rfl ?_
    refine LexE.val rfl rfl rfl (fun h' ha => Val.move (tm rfl)) ?_
    refine LexE.call ca13 (fun h' ha => (evc (tm rfl) evn)) (lo1 lo0) rfl (c_graph W0 N _) rfl ?_
    refine LexE.val rfl rfl rfl (fun h' ha => Val.move (tm rfl)) ?_
    refine LexE.val rfl rfl rfl (fun h' ha => Val.move (tm rfl)) ?_
    refine LexE.val rfl rfl rfl (fun h' ha => Val.ix (enc := encIs) Tryd.underlying36 zs22 (tm rfl) (tm rfl) (by omega) (gA_at (by omega) (by omega))) ?_
    refine LexE.val rfl rfl rfl (fun h' ha => Val.load Tryd.underlying22 rfl (tm rfl)) ?_
    refine LexE.call ca12 (fun h' ha => (evc (tm rfl) (evc (tm rfl) (evc (tm rfl) evn)))) (lo2 rfl (lo2 rfl (lo1 lo0))) rfl (c_ValidM W0 N _ _ hco.wf (by omega) _ hLk) rfl ?_
    refine LexE.val rfl rfl rfl (fun h' ha => Val.move (tm rfl)) ?_
    refine LexE.val rfl rfl rfl (fun h' ha => Val.move (tm rfl)) ?_
    refine LexE.val rfl rfl rfl (fun h' ha => Val.move (tm rfl)) ?_
    refine LexE.val rfl rfl rfl (fun h' ha => Val.move (tm rfl)) ?_
    refine LexE.val rfl rfl rfl (fun h' ha => Val.ix (enc := encIs) Tryd.underlying36 zs22 (tm rfl) (tm rfl) (by omega) (gA_at (by omega) (by omega))) ?_
    refine LexE.val rfl rfl rfl (fun h' ha => Val.load Tryd.underlying22 rfl (tm rfl)) ?_
    refine LexE.call ca14 (fun h' ha => (evc (tm rfl) (evc (tm rfl) (evc (tm rfl) evn)))) (lo1 (lo1 (lo1 lo0))) rfl (c_ValidR W0 N _ _ hco.wf (by omega) _ hLk) rfl ?_
    refine LexE.val rfl rfl rfl (fun h' ha => Val.neq (tm rfl) (tm rfl)) ?_
    refine LexE.nil (nm ?_)
    refine W.norm 134 [(11, _), (12, _), (15, _), (20, _), (21, _), (123, _)] [] rfl ⟨rfl, rfl, rfl, rfl, rfl, rfl, trivial⟩ rfl rfl ?_
    refine W.condP rfl (fun hc21 => ?_) (fun hc21 => ?_)
    · exfalso; simp at hc21
    try simp only [td] at hc21
    refine W.skip (nb (nm ?_))
    refine W.region ?_
    refine mv rfl rfl ?_
    refine WL.v (Val.add (tm rfl) Ev.const (IntWalk.i64_in _ (by omega))) rfl ?_
    refine asg rfl rfl ?_
    refine WL.norm 134 [(11, _), (12, _), (15, _), (20, _), (21, _)] [] rfl ⟨rfl, rfl, rfl, rfl, rfl, trivial⟩ rfl rfl ?_
    refine wn ?_
    exact ⟨_, by omega, i + 1, rfl, rfl, by omega, by omega⟩
  try simp only [td] at hc19
  refine W.exit (ex1 (ex1 (ex2 (nm ?_))))
  refine sr ?_
  refine mv rfl rfl ?_
  refine WL.callV ca13 (evc (tm rfl) evn) (lo1 lo0) rfl (c_graph W0 N _) ?_
  rintro _ rfl
  refine mv rfl rfl ?_
  refine WL.callV ca13 (evc (tm rfl) evn) (lo1 lo0) rfl (c_graph W0 N _) ?_
  rintro _ rfl
  refine mv rfl rfl ?_
  refine WL.callV ca12 (evc (tm rfl) (evc (tm rfl) (evc (tm rfl) evn))) (lo2 rfl (lo2 rfl (lo1 lo0))) rfl (c_ValidM W0 N _ _ hco.wf (by omega) _ (by omega)) ?_
  rintro _ rfl
  refine WL.v (Val.eql (tm rfl) Ev.const) rfl ?_
  refine mv rfl rfl ?_
  refine WL.gcall (Grd.t rfl rfl rfl) ca15 (fun hG => evn) lo0 rfl (fun hG => c_lives W0 N) ?_
  refine WL.v (Val.and (tm rfl) (fun hb => Ev.opt rfl hb)) rfl ?_
  refine asg rfl rfl ?_
  refine WL.norm 134 [(10, _)] [] rfl ⟨rfl, trivial⟩ rfl rfl ?_
  refine wn ?_
  refine W.ret ?_
  exact Ret.of (.inr rfl) rfl (res1 rfl rfl) (Fewer.nil _) (.inr trivial) (fun id h => absurd h (Nat.not_lt_zero _)) (.same rfl) ⟨rfl, by rw [decide_eq_true hco.valid]; rfl⟩
end Go.Aw
