/- The walks of the functions on patterns. The walks of the functions on canonical forms. The walks of the reference's canonical forms. The walks of small functions under match. The visit of match.Canon. The call of match.Canon's closure from outside. The walk of match.Canon. What a canonical form is: its nodes and numbers, in plain words. The search for an embedding, as a function, and what keeps it within bounds. The walks of Canonical, EqualFunc and small functions of the law. -/
import Derived.Test.YtdjiaddhgooppaaDoorAwe
set_option linter.unusedVariables false
set_option linter.unusedSimpArgs false
namespace Go.Aw
open Go.RowKit Go.Proofs

/-! ### What the functions on patterns compute -/
/-- The first thing that is not 0. -/
def firstErr (f : Nat → Int) : Nat → Int
  | 0 => 0
  | n + 1 => if firstErr f n = 0 then f n else firstErr f n
theorem firstErr_zero {f : Nat → Int} : ∀ {n : Nat}, (∀ j, j < n → f j = 0) → firstErr f n = 0
  | 0, _ => rfl
  | n + 1, h => by rw [firstErr, firstErr_zero (fun j hj => h j (by omega)), if_pos rfl]; exact h n (by omega)
theorem firstErr_at {f : Nat → Int} {i : Nat} {e : Int} (h : ∀ j, j < i → f j = 0) (hi : f i = e) (he : e ≠ 0) : ∀ {n : Nat}, i < n → firstErr f n = e
  | 0, hn => by omega
  | n + 1, hn => by
    by_cases hin : i = n
    · subst hin; rw [firstErr, firstErr_zero h, if_pos rfl, hi]
    · rw [firstErr, firstErr_at h hi he (n := n) (by omega), if_neg he]
def nodeErr (p g : List Nd) (m : List Int) (i : Nat) : Int :=
  if (gA p i).op = 0 then (if (gA p i).sort = (gA g (gA m i)).sort then 0 else 9)
  else if ((gA p i).like (gA g (gA m i)) && decide ((gA p i).kids.length = (gA g (gA m i)).kids.length)) = false then 18
  else if (gA p i).kids.map (fun k => gA m k) = (gA g (gA m i)).kids then 0 else 18
/-- Whether nodes of a graph can stand for all nodes of a pattern. -/
def validE (p g : List Nd) (m : List Int) : Int :=
  if m.length ≠ p.length then 1
  else if (∀ x, x ∈ m → 0 ≤ x ∧ x < (g.length : Int)) then firstErr (nodeErr p g m) p.length else 7
theorem i_nat {i : Int} (h : 0 ≤ i) : ((i.toNat : Nat) : Int) = i := by omega
def Nd.kidsIn (g : List Nd) (n : Nd) : Prop := ∀ k, k ∈ n.kids → 0 ≤ k ∧ k < (g.length : Int)
theorem WFG.kidsIn {p : List Nd} (hp : WFG p) {i j : Int} (h0 : 0 ≤ i) (h1 : i < p.length) (h2 : 0 ≤ j) (h3 : j < (gA p i).kids.length) : 0 ≤ gA (gA p i).kids j ∧ gA (gA p i).kids j < p.length := by
  have := hp.kid h0 h1 h2 h3; omega
theorem map_same {l to m : List Int} (hl : l.length = m.length) (h : ∀ j : Nat, j < l.length → gA to (gA l j) = gA m j) : l.map (fun k => gA to k) = m := by
  apply List.ext_getElem?
  intro j
  by_cases hj : j < l.length
  · have e1 := gA_at (l := l) (i := (j : Int)) (by omega) (by omega)
    have e2 := gA_at (l := m) (i := (j : Int)) (by omega) (by omega)
    simp only [Int.toNat_natCast] at e1 e2
    rw [List.getElem?_map, e1, e2, Option.map_some, h j hj]
  · rw [List.getElem?_eq_none (by simp; omega), List.getElem?_eq_none (by omega)]
theorem map_diff {l to m : List Int} {j : Int} (h0 : 0 ≤ j) (h1 : j < l.length) (h : gA to (gA l j) ≠ gA m j) : l.map (fun k => gA to k) ≠ m := by
  rintro rfl
  apply h
  have e1 := gA_at (l := l) h0 h1
  have : (l.map fun k => gA to k)[j.toNat]? = some (gA to (gA l j)) := by rw [List.getElem?_map, e1]; rfl
  show _ = (l.map _).getD j.toNat default
  rw [List.getD, this]; rfl
theorem zero_step {f : Nat → Int} {i : Int} (h0 : 0 ≤ i) (h : ∀ j : Nat, j < i.toNat → f j = 0) (hi : f i.toNat = 0) : ∀ j : Nat, j < (i + 1).toNat → f j = 0 := by
  intro j hj
  by_cases hji : j < i.toNat
  · exact h j hji
  · have : j = i.toNat := by omega
    rw [this]; exact hi
theorem eq_step {f g : Nat → Int} {i : Int} (h0 : 0 ≤ i) (h : ∀ j : Nat, j < i.toNat → f j = g j) (hi : f i.toNat = g i.toNat) : ∀ j : Nat, j < (i + 1).toNat → f j = g j := by
  intro j hj
  by_cases hji : j < i.toNat
  · exact h j hji
  · have : j = i.toNat := by omega
    rw [this]; exact hi
theorem ne_var {p g : List Nd} {m : List Int} {i : Int} (h0 : 0 ≤ i) (ho : (gA p i).op = 0) (hs : (gA p i).sort = (gA g (gA m i)).sort) : nodeErr p g m i.toNat = 0 := by
  rw [nodeErr, i_nat h0, if_pos ho, if_pos hs]
theorem ne_var9 {p g : List Nd} {m : List Int} {i : Int} (h0 : 0 ≤ i) (ho : (gA p i).op = 0) (hs : ¬ (gA p i).sort = (gA g (gA m i)).sort) : nodeErr p g m i.toNat = 9 := by
  rw [nodeErr, i_nat h0, if_pos ho, if_neg hs]
theorem ne_like {p g : List Nd} {m : List Int} {i : Int} (h0 : 0 ≤ i) (ho : ¬ (gA p i).op = 0) (hl : (!((gA p i).like (gA g (gA m i)) && decide ((gA p i).kids.length = (gA g (gA m i)).kids.length))) = true) : nodeErr p g m i.toNat = 18 := by
  rw [Bool.not_eq_true'] at hl
  rw [nodeErr, i_nat h0, if_neg ho, if_pos hl]
theorem ne_len {p g : List Nd} {m : List Int} {i : Int} (hl : (!((gA p i).like (gA g (gA m i)) && decide ((gA p i).kids.length = (gA g (gA m i)).kids.length))) = false) : (gA p i).kids.length = (gA g (gA m i)).kids.length := by
  simp only [Bool.not_eq_false', Bool.and_eq_true, decide_eq_true_eq] at hl; exact hl.2
theorem ne_kid {p g : List Nd} {m : List Int} {i j : Int} (h0 : 0 ≤ i) (ho : ¬ (gA p i).op = 0) (hl : (!((gA p i).like (gA g (gA m i)) && decide ((gA p i).kids.length = (gA g (gA m i)).kids.length))) = false) (hj0 : 0 ≤ j) (hj1 : j < (gA p i).kids.length) (hne : ¬ gA (gA g (gA m i)).kids j = gA m (gA (gA p i).kids j)) : nodeErr p g m i.toNat = 18 := by
  rw [nodeErr, i_nat h0, if_neg ho, if_neg (by simpa using hl), if_neg (map_diff hj0 hj1 (fun h => hne h.symm))]
theorem ne_ok {p g : List Nd} {m : List Int} {i j : Int} (h0 : 0 ≤ i) (ho : ¬ (gA p i).op = 0) (hl : (!((gA p i).like (gA g (gA m i)) && decide ((gA p i).kids.length = (gA g (gA m i)).kids.length))) = false) (hj : (gA p i).kids.length ≤ j) (h : ∀ q : Nat, q < j.toNat → gA m (gA (gA p i).kids q) = gA (gA g (gA m i)).kids q) : nodeErr p g m i.toNat = 0 := by
  rw [nodeErr, i_nat h0, if_neg ho, if_neg (by simpa using hl), if_pos (map_same (ne_len hl) (fun q hq => h q (by omega)))]
theorem like_or (l : Bool) (a b : Nat) : ((!l) || decide (¬ (a : Int) = b)) = !(l && decide (a = b)) := by
  cases l <;> simp [Int.natCast_inj]
/-- The roots that are made of numbers. -/
def rootsOf (g : List Nd) (l : List Int) : List Int := (l.take 3).map fun x => (g.length : Int) - 1 - around x g.length
theorem roots_step {g : List Nd} {l : List Int} {k : Int} (h0 : 0 ≤ k) (h1 : k < l.length) : (l.take k.toNat).map (fun x => (g.length : Int) - 1 - around x g.length) ++ [(g.length : Int) - 1 - around (gA l k) g.length] = (l.take (k + 1).toNat).map (fun x => (g.length : Int) - 1 - around x g.length) := by
  have : (k + 1).toNat = k.toNat + 1 := by omega
  rw [this, List.take_add_one, gA_at h0 h1]
  simp
theorem roots_end {l : List Int} {k : Int} (h0 : 0 ≤ k) (h3 : k ≤ 3) (h : l.length ≤ k ∨ 3 ≤ k) : l.take k.toNat = l.take 3 := by
  rcases h with h | h
  · rw [List.take_of_length_le (by omega), List.take_of_length_le (by omega)]
  · have : k.toNat = 3 := by omega
    rw [this]

-- enthymemeref13.alike
set_option maxHeartbeats 1000000 in
theorem c_alike (W0 : World) (N : Nat) (a b : Nd) : AC (En W0 N) 32 [a.agg, b.agg] [] (fun r h => h = [] ∧ r = .b (a.like b && decide (a.kids.length = b.kids.length))) := by
  refine AC.enter Tryd.func32 rfl Tryd.ntmps32 (bl rfl) fun X => ?_
  refine sr ?_
  refine WL.stp rfl (Stp.box (tm rfl) rfl rfl) ?_
  refine WL.stp rfl (Stp.box (tm rfl) rfl rfl) ?_
  refine WL.v (Val.assign Ev.const) rfl ?_
  refine WL.norm 54 [(2, _), (3, _)] [some ⟨_, _, [[_, _, _, _, _, _, _, _, _]]⟩, some ⟨_, _, [[_, _, _, _, _, _, _, _, _]]⟩] rfl ⟨rfl, rfl, trivial⟩ rfl rfl ?_
  refine wn ?_
  refine sr ?_
  refine WL.v (Val.fal (off := 0) Tryd.underlying35 rfl rfl zs3 (tm rfl)) rfl ?_
  refine WL.v (Val.loadLive Tryd.underlying3 rfl (tm rfl) rfl rfl rfl rfl rfl) rfl ?_
  refine WL.v (Val.fal (off := 0) Tryd.underlying35 rfl rfl zs3 (tm rfl)) rfl ?_
  refine WL.v (Val.loadLive Tryd.underlying3 rfl (tm rfl) rfl rfl rfl rfl rfl) rfl ?_
  refine WL.v (Val.eql (tm rfl) (tm rfl)) rfl ?_
  refine mv rfl rfl ?_
  refine WL.g (Grd.t rfl rfl rfl) (fun hG => Val.fal (off := 2) Tryd.underlying35 rfl rfl zs3 (tm rfl)) rfl ?_
  refine WL.g (Grd.t rfl rfl rfl) (fun hG => Val.loadLive Tryd.underlying3 rfl (Ev.opt rfl hG) rfl rfl rfl rfl rfl) rfl ?_
  refine WL.g (Grd.t rfl rfl rfl) (fun hG => Val.fal (off := 2) Tryd.underlying35 rfl rfl zs3 (tm rfl)) rfl ?_
  refine WL.g (Grd.t rfl rfl rfl) (fun hG => Val.loadLive Tryd.underlying3 rfl (Ev.opt rfl hG) rfl rfl rfl rfl rfl) rfl ?_
  refine WL.g (Grd.t rfl rfl rfl) (fun hG => Val.eql (Ev.opt rfl hG) (Ev.opt rfl hG)) rfl ?_
  refine WL.v (Val.and (tm rfl) (fun hb => Ev.opt rfl hb)) rfl ?_
  refine mv rfl rfl ?_
  refine WL.g (Grd.t rfl rfl rfl) (fun hG => Val.fal (off := 3) Tryd.underlying35 rfl rfl zs3 (tm rfl)) rfl ?_
  refine WL.g (Grd.t rfl rfl rfl) (fun hG => Val.loadLive Tryd.underlying3 rfl (Ev.opt rfl hG) rfl rfl rfl rfl rfl) rfl ?_
  refine WL.g (Grd.t rfl rfl rfl) (fun hG => Val.fal (off := 3) Tryd.underlying35 rfl rfl zs3 (tm rfl)) rfl ?_
  refine WL.g (Grd.t rfl rfl rfl) (fun hG => Val.loadLive Tryd.underlying3 rfl (Ev.opt rfl hG) rfl rfl rfl rfl rfl) rfl ?_
  refine WL.g (Grd.t rfl rfl rfl) (fun hG => Val.eql (Ev.opt rfl hG) (Ev.opt rfl hG)) rfl ?_
  refine WL.v (Val.and (tm rfl) (fun hb => Ev.opt rfl hb)) rfl ?_
  refine mv rfl rfl ?_
  refine WL.g (Grd.t rfl rfl rfl) (fun hG => Val.fal (off := 4) Tryd.underlying35 rfl rfl zs31 (tm rfl)) rfl ?_
  refine WL.g (Grd.t rfl rfl rfl) (fun hG => Val.loadLive Tryd.underlying31 rfl (Ev.opt rfl hG) rfl rfl rfl rfl rfl) rfl ?_
  refine WL.g (Grd.t rfl rfl rfl) (fun hG => Val.fal (off := 4) Tryd.underlying35 rfl rfl zs31 (tm rfl)) rfl ?_
  refine WL.g (Grd.t rfl rfl rfl) (fun hG => Val.loadLive Tryd.underlying31 rfl (Ev.opt rfl hG) rfl rfl rfl rfl rfl) rfl ?_
  refine WL.g (Grd.t rfl rfl rfl) (fun hG => Val.eql (Ev.opt rfl hG) (Ev.opt rfl hG)) rfl ?_
  refine WL.v (Val.and (tm rfl) (fun hb => Ev.opt rfl hb)) rfl ?_
  refine mv rfl rfl ?_
  refine WL.g (Grd.t rfl rfl rfl) (fun hG => Val.fal (off := 5) Tryd.underlying35 rfl rfl zs9 (tm rfl)) rfl ?_
  refine WL.g (Grd.t rfl rfl rfl) (fun hG => Val.loadLive Tryd.underlying9 rfl (Ev.opt rfl hG) rfl rfl rfl rfl rfl) rfl ?_
  refine WL.g (Grd.t rfl rfl rfl) (fun hG => Val.fal (off := 5) Tryd.underlying35 rfl rfl zs9 (tm rfl)) rfl ?_
  refine WL.g (Grd.t rfl rfl rfl) (fun hG => Val.loadLive Tryd.underlying9 rfl (Ev.opt rfl hG) rfl rfl rfl rfl rfl) rfl ?_
  refine WL.g (Grd.t rfl rfl rfl) (fun hG => Val.eqlS (Ev.opt rfl hG) (Ev.opt rfl hG)) rfl ?_
  refine WL.v (Val.and (tm rfl) (fun hb => Ev.opt rfl hb)) rfl ?_
  refine mv rfl rfl ?_
  refine WL.g (Grd.t rfl rfl rfl) (fun hG => Val.fal (off := 6) Tryd.underlying35 rfl rfl zs33 (tm rfl)) rfl ?_
  refine WL.g (Grd.t rfl rfl rfl) (fun hG => Val.loadLiveAgg Tryd.underlying33 rfl zs33 (Ev.opt rfl hG) rfl rfl rfl rfl (bl rfl)) rfl ?_
  refine WL.g (Grd.t rfl rfl rfl) (fun hG => Val.fal (off := 6) Tryd.underlying35 rfl rfl zs33 (tm rfl)) rfl ?_
  refine WL.g (Grd.t rfl rfl rfl) (fun hG => Val.loadLiveAgg Tryd.underlying33 rfl zs33 (Ev.opt rfl hG) rfl rfl rfl rfl (bl rfl)) rfl ?_
  refine WL.g (Grd.t rfl rfl rfl) (fun hG => Val.eqlSrt is33 (Ev.opt rfl hG) (Ev.opt rfl hG)) rfl ?_
  refine WL.v (Val.and (tm rfl) (fun hb => Ev.opt rfl hb)) rfl ?_
  refine mv rfl rfl ?_
  refine WL.g (Grd.t rfl rfl rfl) (fun hG => Val.fal (off := 1) Tryd.underlying35 rfl rfl zs22 (tm rfl)) rfl ?_
  refine WL.g (Grd.t rfl rfl rfl) (fun hG => Val.loadLive Tryd.underlying22 rfl (Ev.opt rfl hG) rfl rfl rfl rfl rfl) rfl ?_
  refine WL.g (Grd.t rfl rfl rfl) (fun hG => Val.ln (enc := encI) Tryd.underlying22 (Ev.opt rfl hG)) rfl ?_
  refine WL.g (Grd.t rfl rfl rfl) (fun hG => Val.fal (off := 1) Tryd.underlying35 rfl rfl zs22 (tm rfl)) rfl ?_
  refine WL.g (Grd.t rfl rfl rfl) (fun hG => Val.loadLive Tryd.underlying22 rfl (Ev.opt rfl hG) rfl rfl rfl rfl rfl) rfl ?_
  refine WL.g (Grd.t rfl rfl rfl) (fun hG => Val.ln (enc := encI) Tryd.underlying22 (Ev.opt rfl hG)) rfl ?_
  refine WL.g (Grd.t rfl rfl rfl) (fun hG => Val.eql (Ev.opt rfl hG) (Ev.opt rfl hG)) rfl ?_
  refine WL.v (Val.and (tm rfl) (fun hb => Ev.opt rfl hb)) rfl ?_
  refine asg rfl rfl ?_
  refine WL.norm 54 [(4, _)] [some ⟨_, _, [[_, _, _, _, _, _, _, _, _]]⟩, some ⟨_, _, [[_, _, _, _, _, _, _, _, _]]⟩] rfl ⟨rfl, trivial⟩ rfl rfl ?_
  refine wn ?_
  refine W.ret ?_
  exact Ret.of (.inr rfl) rfl (res1 rfl rfl) (Fewer.nil _) (.inr trivial) (fun id h => absurd h (Nat.not_lt_zero _)) (.same rfl) ⟨rfl, by simp only [Nd.like, Bool.and_assoc, Int.natCast_inj]⟩
-- match.shapeOf
set_option maxHeartbeats 1000000 in
theorem c_shapeOf (W0 : World) (N : Nat) (n : Nd) : AC (En W0 N) 31 [n.agg] [] (fun r h => h = [] ∧ r = Nd.shape n) := by
  refine AC.enter Tryd.func31 rfl Tryd.ntmps31 (bl rfl) fun X => ?_
  refine sr ?_
  refine WL.stp rfl (Stp.box (tm rfl) rfl rfl) ?_
  refine WL.stp rfl (Stp.alloc zz70 rfl rfl) ?_
  refine WL.norm 16 [(1, _), (2, _)] [some ⟨_, _, [[_, _, _, _, _, _, _, _, _]]⟩, some ⟨_, _, [[_, _, _, _, _, _, _, _]]⟩] rfl ⟨rfl, rfl, trivial⟩ rfl rfl ?_
  refine wn ?_
  refine sr ?_
  refine WL.v (Val.fal (off := 0) Tryd.underlying35 rfl rfl zs3 (tm rfl)) rfl ?_
  refine WL.v (Val.loadLive Tryd.underlying3 rfl (tm rfl) rfl rfl rfl rfl rfl) rfl ?_
  refine WL.v (Val.fal (off := 2) Tryd.underlying35 rfl rfl zs3 (tm rfl)) rfl ?_
  refine WL.v (Val.loadLive Tryd.underlying3 rfl (tm rfl) rfl rfl rfl rfl rfl) rfl ?_
  refine WL.v (Val.fal (off := 3) Tryd.underlying35 rfl rfl zs3 (tm rfl)) rfl ?_
  refine WL.v (Val.loadLive Tryd.underlying3 rfl (tm rfl) rfl rfl rfl rfl rfl) rfl ?_
  refine WL.v (Val.fal (off := 4) Tryd.underlying35 rfl rfl zs31 (tm rfl)) rfl ?_
  refine WL.v (Val.loadLive Tryd.underlying31 rfl (tm rfl) rfl rfl rfl rfl rfl) rfl ?_
  refine WL.v (Val.fal (off := 5) Tryd.underlying35 rfl rfl zs9 (tm rfl)) rfl ?_
  refine WL.v (Val.loadLive Tryd.underlying9 rfl (tm rfl) rfl rfl rfl rfl rfl) rfl ?_
  refine WL.v (Val.fal (off := 6) Tryd.underlying35 rfl rfl zs33 (tm rfl)) rfl ?_
  refine WL.v (Val.loadLiveAgg Tryd.underlying33 rfl zs33 (tm rfl) rfl rfl rfl rfl (bl rfl)) rfl ?_
  refine WL.v (Val.build (vs := [(0, _), (1, _), (2, _), (3, _), (4, _), (5, _)]) Tryd.underlying70 zz70 rfl rfl pl70 rfl ⟨(tm rfl), rfl, rfl, rfl, ⟨(tm rfl), rfl, rfl, rfl, ⟨(tm rfl), rfl, rfl, rfl, ⟨(tm rfl), rfl, rfl, rfl, ⟨(tm rfl), rfl, rfl, rfl, ⟨(tm rfl), rfl, rfl, rfl, trivial⟩⟩⟩⟩⟩⟩) rfl ?_
  refine WL.stp rfl (Stp.st (tm rfl) (tm rfl) zs70 rfl rfl rfl rfl rfl rfl rfl rfl) ?_
  refine WL.norm 16 [(2, _)] [some ⟨_, _, [[_, _, _, _, _, _, _, _, _]]⟩, some ⟨_, _, [[_, _, _, _, _, _, _, _]]⟩] rfl ⟨rfl, trivial⟩ rfl rfl ?_
  refine wn ?_
  refine W.ret ?_
  exact Ret.of (.inr rfl) rfl (resCell rfl Tryd.underlying70 rfl zs70 rfl rfl rfl rfl rfl rfl) (Fewer.nil _) (.inr trivial) (fun id h => absurd h (Nat.not_lt_zero _)) (.same rfl) ⟨rfl, rfl⟩
-- enthymemelaw13.graph
set_option maxHeartbeats 1000000 in
theorem c_graph (W0 : World) (N : Nat) (g : List Nd) : AC (En W0 N) 13 [.f (.nodes g)] [] (fun r h => h = [] ∧ r = .agg [.f (.nodes g)]) := by
  refine AC.enter Tryd.func13 rfl Tryd.ntmps13 (bl rfl) fun X => ?_
  refine sr ?_
  refine WL.stp rfl (Stp.alloc zz39 rfl rfl) ?_
  refine WL.norm 5 [(0, _), (2, _)] [some ⟨_, _, [[_]]⟩] rfl ⟨rfl, rfl, trivial⟩ rfl rfl ?_
  refine wn ?_
  refine sr ?_
  refine mv rfl rfl ?_
  refine WL.v (Val.build (vs := [(0, _)]) Tryd.underlying39 zz39 rfl rfl pl39 rfl ⟨(tm rfl), rfl, rfl, rfl, trivial⟩) rfl ?_
  refine WL.stp rfl (Stp.st (tm rfl) (tm rfl) zs39 rfl rfl rfl rfl rfl rfl rfl rfl) ?_
  refine WL.norm 5 [(2, _)] [some ⟨_, _, [[_]]⟩] rfl ⟨rfl, trivial⟩ rfl rfl ?_
  refine wn ?_
  refine W.ret ?_
  exact Ret.of (.inr rfl) rfl (resCell rfl Tryd.underlying39 rfl zs39 rfl rfl rfl rfl rfl rfl) (Fewer.nil _) (.inr trivial) (fun id h => absurd h (Nat.not_lt_zero _)) (.same rfl) ⟨rfl, rfl⟩
-- enthymemeref13.Roots
set_option maxHeartbeats 1000000 in
theorem c_Roots (W0 : World) (N : Nat) (g : List Nd) (hg1 : 1 ≤ g.length) (hg : g.length ≤ 1000) (l : List Int) (hl : l.length ≤ 1152921504606846975) (hi : ∀ x, x ∈ l → I6 x) : AC (En W0 N) 10 [.f (.nodes g), .f (.ints l)] [] (fun r h => h = [] ∧ r = .f (.ints (rootsOf g l))) := by
  refine AC.enter Tryd.func10 rfl Tryd.ntmps10 (bl rfl) fun X => ?_
  refine sr ?_
  refine WL.v (Val.assign Ev.const) rfl ?_
  refine WL.norm 37 [(0, _), (1, _)] [] rfl ⟨rfl, rfl, trivial⟩ rfl rfl ?_
  refine wn ?_
  refine sr ?_
  refine WL.v (Val.assign Ev.const) rfl ?_
  refine WL.norm 37 [(0, _), (1, _), (5, _)] [] rfl ⟨rfl, rfl, rfl, trivial⟩ rfl rfl ?_
  refine wn ?_
  refine W.seq ?_
  refine sr ?_
  refine WL.v (Val.assign Ev.const) rfl ?_
  refine WL.norm 37 [(0, _), (1, _), (5, _), (6, _)] [] rfl ⟨rfl, rfl, rfl, rfl, trivial⟩ rfl rfl ?_
  refine wn ?_
  refine W.reserve ?_
  refine W.norm 37 [(0, _), (1, _), (5, _), (6, _)] [_] rfl ⟨rfl, rfl, rfl, rfl, trivial⟩ rfl rfl ?_
  refine W.block (W.loop (fun nn S => ∃ (k : Int) (v : AV) (o : Option Row), S = ⟨37, [(0, .f (.nodes g)), (1, .f (.ints l)), (5, v), (6, .i k)], [o], []⟩ ∧ nn = ((3 - k).toNat) ∧ (0 ≤ k) ∧ (k ≤ 3) ∧ (k ≤ l.length) ∧ (Acc 0 1 (fz (((l.take k.toNat).map fun x => (g.length : Int) - 1 - around x g.length).map encI)) v o)) ⟨0, _, _, rfl, rfl, by omega, by omega, by omega, Acc.zero⟩ ?_)
  rintro nn S ⟨k, v, o, rfl, rfl, hk0, hk3, hk1, ha⟩
  refine W.seq ?_
  refine sr ?_
  refine mv rfl rfl ?_
  refine mv rfl rfl ?_
  refine WL.v (Val.ln (enc := encI) Tryd.underlying22 (tm rfl)) rfl ?_
  refine WL.v (Val.lss (tm rfl) (tm rfl)) rfl ?_
  refine mv rfl rfl ?_
  refine WL.g (Grd.t rfl rfl rfl) (fun hG => Val.move (tm rfl)) rfl ?_
  refine WL.g (Grd.t rfl rfl rfl) (fun hG => Val.lss (Ev.opt rfl hG) Ev.const) rfl ?_
  refine WL.v (Val.and (tm rfl) (fun hb => Ev.opt rfl hb)) rfl ?_
  refine mv rfl rfl ?_
  refine WL.g (Grd.t rfl rfl rfl) (fun hG => Val.move (tm rfl)) rfl ?_
  refine WL.g (Grd.t rfl rfl rfl) (fun hG => Val.ln (enc := Nd.cells) Tryd.underlying23 (Ev.opt rfl hG)) rfl ?_
  refine WL.g (Grd.t rfl rfl rfl) (fun hG => Val.gtr (Ev.opt rfl hG) Ev.const) rfl ?_
  refine WL.v (Val.and (tm rfl) (fun hb => Ev.opt rfl hb)) rfl ?_
  refine WL.norm 37 [(0, _), (1, _), (5, _), (6, _), (19, _)] [_] rfl ⟨rfl, rfl, rfl, rfl, rfl, trivial⟩ rfl rfl ?_
  refine wn ?_
  refine W.condP rfl (fun hc3 => ?_) (fun hc3 => ?_)
  · try simp only [td] at hc3
    refine W.skip (nm ?_)
    refine W.seq ?_
    refine W.block ?_
    have hI := hi _ (gA_mem (l := l) hk0 hc3.1.1)
    have har := around_range (n := gA l k) (most := g.length) (by omega)
    refine W.region ?_
    refine mv rfl rfl ?_
    refine mv rfl rfl ?_
    refine WL.v (Val.ln (enc := Nd.cells) Tryd.underlying23 (tm rfl)) rfl ?_
    refine WL.v (Val.sub (tm rfl) Ev.const (IntWalk.i64_in _ (by omega))) rfl ?_
    refine mv rfl rfl ?_
    refine mv rfl rfl ?_
    refine WL.v (Val.ix (enc := encI) Tryd.underlying22 zs3 (tm rfl) (tm rfl) (by omega) (gA_at (by omega) (by omega))) rfl ?_
    refine WL.v (Val.load Tryd.underlying3 rfl (tm rfl)) rfl ?_
    refine mv rfl rfl ?_
    refine WL.v (Val.ln (enc := Nd.cells) Tryd.underlying23 (tm rfl)) rfl ?_
    refine WL.callV ca8 (evc (tm rfl) (evc (tm rfl) evn)) (lo1 (lo1 lo0)) rfl (c_Around W0 N _ _ hI (by omega)) ?_
    rintro _ rfl
    refine WL.v (Val.sub (tm rfl) (tm rfl) (IntWalk.i64_in _ (by omega))) rfl ?_
    refine WL.stp rfl (Stp.buildFrozen (xs := [_]) (fs := ([(g.length : Int) - 1 - around (gA l k) g.length] : List Int).map encI) Tryd.underlying22 zs3 zz3 rfl rfl (evc (tm rfl) evn) fitL (bl rfl) rfl rfl) ?_
    refine WL.appE (enc := encI) ap22_22 (tm rfl) rfl ha (ArgE.lst (enc := encI) (tm rfl) (by intro x; rfl)) (by simp only [List.length_map, List.length_take, List.length_cons, List.length_nil]; omega) rfl ?_
    intro v' o' ha'
    refine asg rfl rfl ?_
    refine WL.norm 37 [(0, _), (1, _), (5, _), (6, _)] [_] rfl ⟨rfl, rfl, rfl, rfl, trivial⟩ rfl rfl ?_
    refine WL.nil (nb (nm ?_))
    refine W.region ?_
    refine mv rfl rfl ?_
    refine WL.v (Val.add (tm rfl) Ev.const (IntWalk.i64_in _ (by omega))) rfl ?_
    refine asg rfl rfl ?_
    refine WL.norm 37 [(0, _), (1, _), (5, _), (6, _)] [_] rfl ⟨rfl, rfl, rfl, rfl, trivial⟩ rfl rfl ?_
    refine wn ?_
    exact ⟨_, by omega, k + 1, _, _, rfl, rfl, by omega, by omega, by omega, by rw [← roots_step hk0 hc3.1.1]; exact ha'⟩
  try simp only [td] at hc3
  refine W.exit (ex1 (ex1 (ex2 (nm ?_))))
  refine W.seq ?_
  have hend : rootsOf g l = _ := congrArg (List.map fun x => (g.length : Int) - 1 - around x g.length) (roots_end hk0 hk3 (by omega)).symm
  refine W.region ?_
  refine mv rfl rfl ?_
  refine asg rfl rfl ?_
  refine WL.norm 37 [(4, _)] [_] rfl ⟨rfl, trivial⟩ rfl rfl ?_
  refine wn ?_
  refine W.ret ?_
  exact Ret.of (.inr rfl) rfl (res1 rfl rfl) (Fewer.nil _) (.inr trivial) (fun id h => absurd h (Nat.not_lt_zero _)) (Acc.thaw ha rfl rfl (encL (by intro x; rfl))) ⟨rfl, by rw [hend]⟩
-- enthymemeref13.Valid
set_option maxHeartbeats 1000000 in
theorem c_ValidR (W0 : World) (N : Nat) (p g : List Nd) (hp : WFG p) (hg : g.length ≤ 1000) (m : List Int) (hml : m.length ≤ 1000000) : AC (En W0 N) 14 [.f (.nodes p), .f (.nodes g), .f (.ints m)] [] (fun r h => h = [] ∧ r = .i (validE p g m)) := by
  refine AC.enter Tryd.func14 rfl Tryd.ntmps14 (bl rfl) fun X => ?_
  have hpl := hp.len
  refine sr ?_
  refine WL.v (Val.assign Ev.const) rfl ?_
  refine WL.norm 97 [(0, _), (1, _), (2, _)] [] rfl ⟨rfl, rfl, rfl, trivial⟩ rfl rfl ?_
  refine wn ?_
  refine W.seq ?_
  refine sr ?_
  refine mv rfl rfl ?_
  refine WL.v (Val.ln (enc := encI) Tryd.underlying22 (tm rfl)) rfl ?_
  refine mv rfl rfl ?_
  refine WL.v (Val.ln (enc := Nd.cells) Tryd.underlying23 (tm rfl)) rfl ?_
  refine WL.v (Val.neq (tm rfl) (tm rfl)) rfl ?_
  refine WL.norm 97 [(0, _), (1, _), (2, _), (15, _)] [] rfl ⟨rfl, rfl, rfl, rfl, trivial⟩ rfl rfl ?_
  refine wn ?_
  refine W.condP rfl (fun hc1 => ?_) (fun hc1 => ?_)
  · try simp only [td] at hc1
    refine sr ?_
    refine WL.v (Val.assign Ev.const) rfl ?_
    refine WL.norm 97 [(6, _)] [] rfl ⟨rfl, trivial⟩ rfl rfl ?_
    refine wn ?_
    refine W.ret (rt1 ?_)
    exact Ret.of (.inr rfl) rfl (res1 rfl rfl) (Fewer.nil _) (.inr trivial) (fun id h => absurd h (Nat.not_lt_zero _)) (.same rfl) ⟨rfl, by rw [validE, if_pos (by omega)]⟩
  try simp only [td] at hc1
  refine W.skip (nm ?_)
  refine W.seq ?_
  refine sr ?_
  refine WL.v (Val.assign Ev.const) rfl ?_
  refine WL.norm 97 [(0, _), (1, _), (2, _), (7, _)] [] rfl ⟨rfl, rfl, rfl, rfl, trivial⟩ rfl rfl ?_
  refine wn ?_
  refine W.norm 97 [(0, _), (1, _), (2, _), (7, _)] [] rfl ⟨rfl, rfl, rfl, rfl, trivial⟩ rfl rfl ?_
  refine W.block (W.loop (fun nn S => ∃ (i : Int), S = ⟨97, [(0, .f (.nodes p)), (1, .f (.nodes g)), (2, .f (.ints m)), (7, .i i)], [], []⟩ ∧ nn = ((m.length - i).toNat) ∧ (0 ≤ i) ∧ (i ≤ m.length) ∧ (∀ j : Nat, j < i.toNat → ∀ x, m[j]? = some x → 0 ≤ x ∧ x < (g.length : Int))) ⟨0, rfl, rfl, by omega, by omega, fun j hj => absurd hj (by simp)⟩ ?_)
  rintro nn S ⟨i, rfl, rfl, hi0, hi1, hin⟩
  refine W.seq ?_
  refine sr ?_
  refine mv rfl rfl ?_
  refine mv rfl rfl ?_
  refine WL.v (Val.ln (enc := encI) Tryd.underlying22 (tm rfl)) rfl ?_
  refine WL.v (Val.lss (tm rfl) (tm rfl)) rfl ?_
  refine WL.norm 97 [(0, _), (1, _), (2, _), (7, _), (19, _)] [] rfl ⟨rfl, rfl, rfl, rfl, rfl, trivial⟩ rfl rfl ?_
  refine wn ?_
  refine W.condP rfl (fun hc4 => ?_) (fun hc4 => ?_)
  · try simp only [td] at hc4
    refine W.skip (nm ?_)
    refine W.seq ?_
    refine W.block ?_
    refine sr ?_
    refine mv rfl rfl ?_
    refine mv rfl rfl ?_
    refine WL.v (Val.ix (enc := encI) Tryd.underlying22 zs3 (tm rfl) (tm rfl) (by omega) (gA_at (by omega) (by omega))) rfl ?_
    refine WL.v (Val.load Tryd.underlying3 rfl (tm rfl)) rfl ?_
    refine WL.v (Val.lss (tm rfl) Ev.const) rfl ?_
    refine mv rfl rfl ?_
    refine WL.g (Grd.f rfl rfl rfl) (fun hG => Val.move (tm rfl)) rfl ?_
    refine WL.g (Grd.f rfl rfl rfl) (fun hG => Val.move (tm rfl)) rfl ?_
    refine WL.g (Grd.f rfl rfl rfl) (fun hG => Val.ix (enc := encI) Tryd.underlying22 zs3 (Ev.opt rfl hG) (Ev.opt rfl hG) (by try simp only [td] at hG; omega) (gA_at (by try simp only [td] at hG; omega) (by try simp only [td] at hG; omega))) rfl ?_
    refine WL.g (Grd.f rfl rfl rfl) (fun hG => Val.load Tryd.underlying3 rfl (Ev.opt rfl hG)) rfl ?_
    refine WL.g (Grd.f rfl rfl rfl) (fun hG => Val.move (tm rfl)) rfl ?_
    refine WL.g (Grd.f rfl rfl rfl) (fun hG => Val.ln (enc := Nd.cells) Tryd.underlying23 (Ev.opt rfl hG)) rfl ?_
    refine WL.g (Grd.f rfl rfl rfl) (fun hG => Val.geq (Ev.opt rfl hG) (Ev.opt rfl hG)) rfl ?_
    refine WL.v (Val.or (tm rfl) (fun hb => Ev.opt rfl (nt hb))) rfl ?_
    refine WL.norm 97 [(0, _), (1, _), (2, _), (7, _), (35, _)] [] rfl ⟨rfl, rfl, rfl, rfl, rfl, trivial⟩ rfl rfl ?_
    refine wn ?_
    refine W.condP rfl (fun hc6 => ?_) (fun hc6 => ?_)
    · try simp only [td] at hc6
      refine sr ?_
      refine WL.v (Val.assign Ev.const) rfl ?_
      refine WL.norm 97 [(6, _)] [] rfl ⟨rfl, trivial⟩ rfl rfl ?_
      refine wn ?_
      refine W.ret (rt2 (rt1 (rt1 (rt2 (rt1 ?_)))))
      exact Ret.of (.inr rfl) rfl (res1 rfl rfl) (Fewer.nil _) (.inr trivial) (fun id h => absurd h (Nat.not_lt_zero _)) (.same rfl) ⟨rfl, by rw [validE, if_neg (by omega), if_neg (fun h => by have := h _ (gA_mem (l := m) (i := i) hi0 (by omega)); omega)]⟩
    try simp only [td] at hc6
    refine W.skip (nb (nm ?_))
    refine W.region ?_
    refine mv rfl rfl ?_
    refine WL.v (Val.add (tm rfl) Ev.const (IntWalk.i64_in _ (by omega))) rfl ?_
    refine asg rfl rfl ?_
    refine WL.norm 97 [(0, _), (1, _), (2, _), (7, _)] [] rfl ⟨rfl, rfl, rfl, rfl, trivial⟩ rfl rfl ?_
    refine wn ?_
    exact ⟨_, by omega, i + 1, rfl, rfl, by omega, by omega, kids_step hi0 (by omega) hin (by omega)⟩
  try simp only [td] at hc4
  refine W.exit (ex1 (ex1 (ex2 (nm ?_))))
  refine W.seq ?_
  refine W.seq ?_
  have hall := kids_end hi0 (by omega) hin
  refine W.region ?_
  refine WL.v (Val.assign Ev.const) rfl ?_
  refine WL.norm 97 [(0, _), (1, _), (2, _), (8, _)] [] rfl ⟨rfl, rfl, rfl, rfl, trivial⟩ rfl rfl ?_
  refine wn ?_
  refine W.norm 97 [(0, _), (1, _), (2, _), (8, _)] [] rfl ⟨rfl, rfl, rfl, rfl, trivial⟩ rfl rfl ?_
  refine W.block (W.loop (fun nn S => ∃ (i : Int), S = ⟨97, [(0, .f (.nodes p)), (1, .f (.nodes g)), (2, .f (.ints m)), (8, .i i)], [], []⟩ ∧ nn = ((p.length - i).toNat) ∧ (0 ≤ i) ∧ (i ≤ p.length) ∧ (∀ j : Nat, j < i.toNat → nodeErr p g m j = 0)) ⟨0, rfl, rfl, by omega, by omega, fun j hj => absurd hj (by simp)⟩ ?_)
  rintro nn S ⟨i, rfl, rfl, hj0, hj1, hjn⟩
  refine W.seq ?_
  refine sr ?_
  refine mv rfl rfl ?_
  refine mv rfl rfl ?_
  refine WL.v (Val.ln (enc := Nd.cells) Tryd.underlying23 (tm rfl)) rfl ?_
  refine WL.v (Val.lss (tm rfl) (tm rfl)) rfl ?_
  refine WL.norm 97 [(0, _), (1, _), (2, _), (8, _), (39, _)] [] rfl ⟨rfl, rfl, rfl, rfl, rfl, trivial⟩ rfl rfl ?_
  refine wn ?_
  refine W.condP rfl (fun hc9 => ?_) (fun hc9 => ?_)
  · try simp only [td] at hc9
    refine W.skip (nm ?_)
    refine W.seq ?_
    refine W.block ?_
    refine W.seq ?_
    have hm := hall _ (gA_mem (l := m) (i := i) hj0 (by omega))
    have hfew := hp.few hj0 hc9
    refine W.region ?_
    refine mv rfl rfl ?_
    refine mv rfl rfl ?_
    refine mv rfl rfl ?_
    refine WL.v (Val.ix (enc := encI) Tryd.underlying22 zs3 (tm rfl) (tm rfl) (by omega) (gA_at (by omega) (by omega))) rfl ?_
    refine WL.v (Val.load Tryd.underlying3 rfl (tm rfl)) rfl ?_
    refine WL.v (Val.ix (enc := Nd.cells) Tryd.underlying23 zs35 (tm rfl) (tm rfl) (by omega) (gA_at (by omega) (by omega))) rfl ?_
    refine WL.v (Val.loadAgg Tryd.underlying35 rfl zs35 (tm rfl) (bl rfl)) rfl ?_
    refine WL.stp rfl (Stp.alloc zz35 rfl rfl) ?_
    refine WL.stp rfl (Stp.st (tm rfl) (tm rfl) zs35 rfl rfl rfl rfl rfl rfl rfl rfl) ?_
    refine WL.norm 97 [(0, _), (1, _), (2, _), (8, _), (9, _)] [some ⟨_, _, [[_, _, _, _, _, _, _, _, _]]⟩] rfl ⟨rfl, rfl, rfl, rfl, rfl, trivial⟩ rfl rfl ?_
    refine wn ?_
    refine W.seq ?_
    refine sr ?_
    refine mv rfl rfl ?_
    refine mv rfl rfl ?_
    refine WL.v (Val.ix (enc := Nd.cells) Tryd.underlying23 zs35 (tm rfl) (tm rfl) (by omega) (gA_at (by omega) (by omega))) rfl ?_
    refine WL.v (Val.fa (off := 0) Tryd.underlying35 rfl rfl zs3 (tm rfl)) rfl ?_
    refine WL.v (Val.load Tryd.underlying3 rfl (tm rfl)) rfl ?_
    refine WL.v (Val.eql (tm rfl) Ev.const) rfl ?_
    refine WL.norm 97 [(0, _), (1, _), (2, _), (8, _), (9, _), (54, _)] [some ⟨_, _, [[_, _, _, _, _, _, _, _, _]]⟩] rfl ⟨rfl, rfl, rfl, rfl, rfl, rfl, trivial⟩ rfl rfl ?_
    refine wn ?_
    refine W.condP rfl (fun hc12 => ?_) (fun hc12 => ?_)
    · try simp only [td] at hc12
      refine W.seq ?_
      refine W.seq ?_
      refine W.drawE (fun k => ([([], []), ([], []), ([], []), ([], []), ([], []), ([], []), ([0], []), ([], [])] : List (List Nat × List Nat)).getD k ([], [])) rfl (by kernel_rfl) (bl rfl) ?_
      refine LexE.val rfl rfl rfl (fun h' ha => Val.move (tm rfl)) ?_
      refine LexE.val rfl rfl rfl (fun h' ha => Val.move (tm rfl)) ?_
      refine LexE.val rfl rfl rfl (fun h' ha => Val.ix (enc := Nd.cells) Tryd.underlying23 zs35 (tm rfl) (tm rfl) (by omega) (gA_at (by omega) (by omega))) ?_
      refine LexE.val rfl rfl rfl (fun h' ha => Val.fa (off := 6) Tryd.underlying35 rfl rfl zs33 (tm rfl)) ?_
      refine LexE.val rfl rfl rfl (fun h' ha => Val.loadAgg Tryd.underlying33 rfl zs33 (tm rfl) (bl rfl)) ?_
      refine LexE.val rfl rfl rfl (fun h' ha => Val.fal (off := 6) Tryd.underlying35 rfl rfl zs33 (tm rfl)) ?_
      refine LexE.val rfl rfl rfl (fun h' ha => Val.loadLiveAgg Tryd.underlying33 rfl zs33 (tm rfl) ((ha.at_ 0 (by decide)).trans rfl) rfl rfl rfl (bl rfl)) ?_
      refine LexE.val rfl rfl rfl (fun h' ha => Val.neqSrt is33 (tm rfl) (tm rfl)) ?_
      refine LexE.nil (nm ?_)
      refine W.norm 97 [(0, _), (1, _), (2, _), (8, _), (62, _)] [some ⟨_, _, [[_, _, _, _, _, _, _, _, _]]⟩] rfl ⟨rfl, rfl, rfl, rfl, rfl, trivial⟩ rfl rfl ?_
      refine W.condP rfl (fun hc13 => ?_) (fun hc13 => ?_)
      · try simp only [td] at hc13
        refine sr ?_
        refine WL.v (Val.assign Ev.const) rfl ?_
        refine WL.norm 97 [(6, _)] [some ⟨_, _, [[_, _, _, _, _, _, _, _, _]]⟩] rfl ⟨rfl, trivial⟩ rfl rfl ?_
        refine wn ?_
        refine W.ret (rt1 (rt1 (rt2 (rt1 (rt1 (rt2 (rt1 ?_)))))))
        exact Ret.of (.inr rfl) rfl (res1 rfl rfl) (Fewer.nil _) (.inr trivial) (fun id h => absurd h (Nat.not_lt_zero _)) (.same rfl) ⟨rfl, by rw [validE, if_neg (by omega), if_pos hall, firstErr_at hjn (ne_var9 hj0 hc12 hc13) (by decide) (by omega)]⟩
      try simp only [td] at hc13
      have hz := ne_var hj0 hc12 hc13
      refine W.skip (nm ?_)
      refine W.exit (ex1 (ex2 (nm ?_)))
      refine W.region ?_
      refine mv rfl rfl ?_
      refine WL.v (Val.add (tm rfl) Ev.const (IntWalk.i64_in _ (by omega))) rfl ?_
      refine asg rfl rfl ?_
      refine WL.cut (env := [(0, _), (1, _), (2, _), (8, _)]) (h' := []) (Fewer.pre _ rfl) (.inr HLo.nil) (fun id h => absurd h (Nat.not_lt_zero _)) ⟨⟨_, rfl, (.same rfl)⟩, ⟨_, rfl, (.same rfl)⟩, ⟨_, rfl, (.same rfl)⟩, ⟨_, rfl, (.same rfl)⟩, trivial⟩ ?_
      refine wn ?_
      exact ⟨_, by omega, i + 1, rfl, rfl, by omega, by omega, by first | exact zero_step hj0 hjn hz⟩
    try simp only [td] at hc12
    refine W.skip (nm ?_)
    refine W.seq ?_
    refine W.seq ?_
    refine W.drawE (fun k => ([([], []), ([], []), ([], []), ([], []), ([0], []), ([], []), ([], [])] : List (List Nat × List Nat)).getD k ([], [])) rfl (by kernel_rfl) (bl rfl) ?_
    refine LexE.val rfl rfl rfl (fun h' ha => Val.move (tm rfl)) ?_
    refine LexE.val rfl rfl rfl (fun h' ha => Val.move (tm rfl)) ?_
    refine LexE.val rfl rfl rfl (fun h' ha => Val.ix (enc := Nd.cells) Tryd.underlying23 zs35 (tm rfl) (tm rfl) (by omega) (gA_at (by omega) (by omega))) ?_
    refine LexE.val rfl rfl rfl (fun h' ha => Val.loadAgg Tryd.underlying35 rfl zs35 (tm rfl) (bl rfl)) ?_
    refine LexE.val rfl rfl rfl (fun h' ha => Val.loadLiveAgg Tryd.underlying35 rfl zs35 (tm rfl) ((ha.at_ 0 (by decide)).trans rfl) rfl rfl rfl (bl rfl)) ?_
    refine LexE.call ca32 (fun h' ha => (evc (tm rfl) (evc (tm rfl) evn))) (lo2 rfl (lo2 rfl lo0)) rfl (c_alike W0 N (gA p i) (gA g (gA m i))) rfl ?_
    refine LexE.val rfl rfl rfl (fun h' ha => Val.not (tm rfl)) ?_
    refine LexE.nil (nm ?_)
    refine W.norm 97 [(0, _), (1, _), (2, _), (8, _), (9, _), (69, _)] [some ⟨_, _, [[_, _, _, _, _, _, _, _, _]]⟩] rfl ⟨rfl, rfl, rfl, rfl, rfl, rfl, trivial⟩ rfl rfl ?_
    refine W.condP rfl (fun hc15 => ?_) (fun hc15 => ?_)
    · refine sr ?_
      refine WL.v (Val.assign Ev.const) rfl ?_
      refine WL.norm 97 [(6, _)] [some ⟨_, _, [[_, _, _, _, _, _, _, _, _]]⟩] rfl ⟨rfl, trivial⟩ rfl rfl ?_
      refine wn ?_
      refine W.ret (rt1 (rt2 (rt1 (rt1 (rt2 (rt1 ?_))))))
      exact Ret.of (.inr rfl) rfl (res1 rfl rfl) (Fewer.nil _) (.inr trivial) (fun id h => absurd h (Nat.not_lt_zero _)) (.same rfl) ⟨rfl, by rw [validE, if_neg (by omega), if_pos hall, firstErr_at hjn (ne_like hj0 hc12 hc15) (by decide) (by omega)]⟩
    have hll := ne_len hc15
    refine W.skip (nm ?_)
    refine sr ?_
    refine WL.v (Val.assign Ev.const) rfl ?_
    refine WL.norm 97 [(0, _), (1, _), (2, _), (8, _), (9, _), (10, _)] [some ⟨_, _, [[_, _, _, _, _, _, _, _, _]]⟩] rfl ⟨rfl, rfl, rfl, rfl, rfl, rfl, trivial⟩ rfl rfl ?_
    refine wn ?_
    refine W.norm 97 [(0, _), (1, _), (2, _), (8, _), (9, _), (10, _)] [some ⟨_, _, [[_, _, _, _, _, _, _, _, _]]⟩] rfl ⟨rfl, rfl, rfl, rfl, rfl, rfl, trivial⟩ rfl rfl ?_
    refine W.block (W.loop (fun nn S => ∃ (j : Int), S = ⟨97, [(0, .f (.nodes p)), (1, .f (.nodes g)), (2, .f (.ints m)), (8, .i i), (9, .ptr 0 0 9 0 0), (10, .i j)], [some ⟨0, 9, [(gA g (gA m i)).cells.map .f]⟩], []⟩ ∧ nn = (((gA p i).kids.length - j).toNat) ∧ (0 ≤ j) ∧ (j ≤ (gA p i).kids.length) ∧ (∀ q : Nat, q < j.toNat → gA m (gA (gA p i).kids q) = gA (gA g (gA m i)).kids q)) ⟨0, rfl, rfl, by omega, by omega, fun j hj => absurd hj (by simp)⟩ ?_)
    rintro nn S ⟨j, rfl, rfl, hq0, hq1, hqn⟩
    refine W.seq ?_
    refine sr ?_
    refine mv rfl rfl ?_
    refine mv rfl rfl ?_
    refine mv rfl rfl ?_
    refine WL.v (Val.ix (enc := Nd.cells) Tryd.underlying23 zs35 (tm rfl) (tm rfl) (by omega) (gA_at (by omega) (by omega))) rfl ?_
    refine WL.v (Val.fa (off := 1) Tryd.underlying35 rfl rfl zs22 (tm rfl)) rfl ?_
    refine WL.v (Val.load Tryd.underlying22 rfl (tm rfl)) rfl ?_
    refine WL.v (Val.ln (enc := encI) Tryd.underlying22 (tm rfl)) rfl ?_
    refine WL.v (Val.lss (tm rfl) (tm rfl)) rfl ?_
    refine WL.norm 97 [(0, _), (1, _), (2, _), (8, _), (9, _), (10, _), (77, _)] [some ⟨_, _, [[_, _, _, _, _, _, _, _, _]]⟩] rfl ⟨rfl, rfl, rfl, rfl, rfl, rfl, rfl, trivial⟩ rfl rfl ?_
    refine wn ?_
    refine W.condP rfl (fun hc18 => ?_) (fun hc18 => ?_)
    · try simp only [td] at hc18
      refine W.skip (nm ?_)
      refine W.seq ?_
      refine W.block ?_
      refine W.seq ?_
      have hkid := hp.kidsIn hj0 hc9 hq0 hc18
      refine W.drawE (fun k => ([([], []), ([0], []), ([], []), ([], []), ([], []), ([], []), ([], []), ([], []), ([], []), ([], []), ([], []), ([], []), ([], []), ([], []), ([], []), ([], []), ([], [])] : List (List Nat × List Nat)).getD k ([], [])) rfl (by kernel_rfl) (bl rfl) ?_
      refine LexE.val rfl rfl rfl (fun h' ha => Val.fal (off := 1) Tryd.underlying35 rfl rfl zs22 (tm rfl)) ?_
      refine LexE.val rfl rfl rfl (fun h' ha => Val.loadLive Tryd.underlying22 rfl (tm rfl) ((ha.at_ 0 (by decide)).trans rfl) rfl rfl rfl rfl) ?_
      refine LexE.val rfl rfl rfl (fun h' ha => Val.move (tm rfl)) ?_
      refine LexE.val rfl rfl rfl (fun h' ha => Val.ix (enc := encI) Tryd.underlying22 zs3 (tm rfl) (tm rfl) (by omega) (gA_at (by omega) (by omega))) ?_
      refine LexE.val rfl rfl rfl (fun h' ha => Val.load Tryd.underlying3 rfl (tm rfl)) ?_
      refine LexE.val rfl rfl rfl (fun h' ha => Val.move (tm rfl)) ?_
      refine LexE.val rfl rfl rfl (fun h' ha => Val.move (tm rfl)) ?_
      refine LexE.val rfl rfl rfl (fun h' ha => Val.move (tm rfl)) ?_
      refine LexE.val rfl rfl rfl (fun h' ha => Val.ix (enc := Nd.cells) Tryd.underlying23 zs35 (tm rfl) (tm rfl) (by omega) (gA_at (by omega) (by omega))) ?_
      refine LexE.val rfl rfl rfl (fun h' ha => Val.fa (off := 1) Tryd.underlying35 rfl rfl zs22 (tm rfl)) ?_
      refine LexE.val rfl rfl rfl (fun h' ha => Val.load Tryd.underlying22 rfl (tm rfl)) ?_
      refine LexE.val rfl rfl rfl (fun h' ha => Val.move (tm rfl)) ?_
      refine LexE.val rfl rfl rfl (fun h' ha => Val.ix (enc := encI) Tryd.underlying22 zs3 (tm rfl) (tm rfl) (by omega) (gA_at (by omega) (by omega))) ?_
      refine LexE.val rfl rfl rfl (fun h' ha => Val.load Tryd.underlying3 rfl (tm rfl)) ?_
      refine LexE.val rfl rfl rfl (fun h' ha => Val.ix (enc := encI) Tryd.underlying22 zs3 (tm rfl) (tm rfl) (by omega) (gA_at (by omega) (by omega))) ?_
      refine LexE.val rfl rfl rfl (fun h' ha => Val.load Tryd.underlying3 rfl (tm rfl)) ?_
      refine LexE.val rfl rfl rfl (fun h' ha => Val.neq (tm rfl) (tm rfl)) ?_
      refine LexE.nil (nm ?_)
      refine W.norm 97 [(0, _), (1, _), (2, _), (8, _), (9, _), (10, _), (96, _)] [some ⟨_, _, [[_, _, _, _, _, _, _, _, _]]⟩] rfl ⟨rfl, rfl, rfl, rfl, rfl, rfl, rfl, trivial⟩ rfl rfl ?_
      refine W.condP rfl (fun hc20 => ?_) (fun hc20 => ?_)
      · try simp only [td] at hc20
        refine sr ?_
        refine WL.v (Val.assign Ev.const) rfl ?_
        refine WL.norm 97 [(6, _)] [some ⟨_, _, [[_, _, _, _, _, _, _, _, _]]⟩] rfl ⟨rfl, trivial⟩ rfl rfl ?_
        refine wn ?_
        refine W.ret (rt2 (rt1 (rt1 (rt2 (rt2 (rt1 (rt1 (rt2 (rt1 ?_)))))))))
        exact Ret.of (.inr rfl) rfl (res1 rfl rfl) (Fewer.nil _) (.inr trivial) (fun id h => absurd h (Nat.not_lt_zero _)) (.same rfl) ⟨rfl, by rw [validE, if_neg (by omega), if_pos hall, firstErr_at hjn (ne_kid hj0 hc12 hc15 hq0 (by omega) hc20) (by decide) (by omega)]⟩
      try simp only [td] at hc20
      refine W.skip (nb (nm ?_))
      refine W.region ?_
      refine mv rfl rfl ?_
      refine WL.v (Val.add (tm rfl) Ev.const (IntWalk.i64_in _ (by omega))) rfl ?_
      refine asg rfl rfl ?_
      refine WL.norm 97 [(0, _), (1, _), (2, _), (8, _), (9, _), (10, _)] [some ⟨_, _, [[_, _, _, _, _, _, _, _, _]]⟩] rfl ⟨rfl, rfl, rfl, rfl, rfl, rfl, trivial⟩ rfl rfl ?_
      refine wn ?_
      exact ⟨_, by omega, j + 1, rfl, rfl, by omega, by omega, eq_step hq0 hqn (by rw [i_nat hq0]; exact hc20.symm)⟩
    try simp only [td] at hc18
    have hz := ne_ok hj0 hc12 hc15 hc18 hqn
    refine W.exit (ex1 (ex1 (ex2 (nb (nm ?_)))))
    refine W.region ?_
    refine mv rfl rfl ?_
    refine WL.v (Val.add (tm rfl) Ev.const (IntWalk.i64_in _ (by omega))) rfl ?_
    refine asg rfl rfl ?_
    refine WL.cut (env := [(0, _), (1, _), (2, _), (8, _)]) (h' := []) (Fewer.pre _ rfl) (.inr HLo.nil) (fun id h => absurd h (Nat.not_lt_zero _)) ⟨⟨_, rfl, (.same rfl)⟩, ⟨_, rfl, (.same rfl)⟩, ⟨_, rfl, (.same rfl)⟩, ⟨_, rfl, (.same rfl)⟩, trivial⟩ ?_
    refine wn ?_
    exact ⟨_, by omega, i + 1, rfl, rfl, by omega, by omega, by first | exact zero_step hj0 hjn hz⟩
  try simp only [td] at hc9
  refine W.exit (ex1 (ex1 (ex2 (nm ?_))))
  refine sr ?_
  refine WL.v (Val.assign Ev.const) rfl ?_
  refine WL.norm 97 [(6, _)] [] rfl ⟨rfl, trivial⟩ rfl rfl ?_
  refine wn ?_
  refine W.ret ?_
  exact Ret.of (.inr rfl) rfl (res1 rfl rfl) (Fewer.nil _) (.inr trivial) (fun id h => absurd h (Nat.not_lt_zero _)) (.same rfl) ⟨rfl, by rw [validE, if_neg (by omega), if_pos hall, firstErr_zero (fun j hj => hjn j (by omega))]⟩
-- match.Valid
set_option maxHeartbeats 1000000 in
theorem c_ValidM (W0 : World) (N : Nat) (p g : List Nd) (hp : WFG p) (hg : g.length ≤ 1000) (m : List Int) (hml : m.length ≤ 1000000) : AC (En W0 N) 12 [.agg [.f (.nodes p)], .agg [.f (.nodes g)], .f (.ints m)] [] (fun r h => h = [] ∧ r = .i (validE p g m)) := by
  refine AC.enter Tryd.func12 rfl Tryd.ntmps12 (bl rfl) fun X => ?_
  have hpl := hp.len
  refine sr ?_
  refine WL.stp rfl (Stp.box (tm rfl) rfl rfl) ?_
  refine WL.stp rfl (Stp.box (tm rfl) rfl rfl) ?_
  refine WL.v (Val.assign Ev.const) rfl ?_
  refine WL.norm 89 [(2, _), (3, _), (4, _)] [some ⟨_, _, [[_]]⟩, some ⟨_, _, [[_]]⟩] rfl ⟨rfl, rfl, rfl, trivial⟩ rfl rfl ?_
  refine wn ?_
  refine W.seq ?_
  refine sr ?_
  refine mv rfl rfl ?_
  refine WL.v (Val.ln (enc := encI) Tryd.underlying22 (tm rfl)) rfl ?_
  refine WL.v (Val.fal (off := 0) Tryd.underlying39 rfl rfl zs23 (tm rfl)) rfl ?_
  refine WL.v (Val.loadLive Tryd.underlying23 rfl (tm rfl) rfl rfl rfl rfl rfl) rfl ?_
  refine WL.v (Val.ln (enc := Nd.cells) Tryd.underlying23 (tm rfl)) rfl ?_
  refine WL.v (Val.neq (tm rfl) (tm rfl)) rfl ?_
  refine WL.norm 89 [(2, _), (3, _), (4, _), (19, _)] [some ⟨_, _, [[_]]⟩, some ⟨_, _, [[_]]⟩] rfl ⟨rfl, rfl, rfl, rfl, trivial⟩ rfl rfl ?_
  refine wn ?_
  refine W.condP rfl (fun hc1 => ?_) (fun hc1 => ?_)
  · try simp only [td] at hc1
    refine sr ?_
    refine WL.v (Val.assign Ev.const) rfl ?_
    refine WL.norm 89 [(6, _)] [some ⟨_, _, [[_]]⟩, some ⟨_, _, [[_]]⟩] rfl ⟨rfl, trivial⟩ rfl rfl ?_
    refine wn ?_
    refine W.ret (rt1 ?_)
    exact Ret.of (.inr rfl) rfl (res1 rfl rfl) (Fewer.nil _) (.inr trivial) (fun id h => absurd h (Nat.not_lt_zero _)) (.same rfl) ⟨rfl, by rw [validE, if_pos (by omega)]⟩
  try simp only [td] at hc1
  refine W.skip (nm ?_)
  refine W.seq ?_
  refine sr ?_
  refine mv rfl rfl ?_
  refine WL.v (Val.ln (enc := encI) Tryd.underlying22 (tm rfl)) rfl ?_
  refine WL.v (Val.move Ev.const) rfl ?_
  refine WL.norm 89 [(2, _), (3, _), (4, _), (20, _), (21, _), (22, _)] [some ⟨_, _, [[_]]⟩, some ⟨_, _, [[_]]⟩] rfl ⟨rfl, rfl, rfl, rfl, rfl, rfl, trivial⟩ rfl rfl ?_
  refine wn ?_
  refine W.norm 89 [(2, _), (3, _), (4, _), (20, _), (21, _), (22, _)] [some ⟨_, _, [[_]]⟩, some ⟨_, _, [[_]]⟩] rfl ⟨rfl, rfl, rfl, rfl, rfl, rfl, trivial⟩ rfl rfl ?_
  refine W.block (W.loop (fun nn S => ∃ (i : Int), S = ⟨89, [(2, .f (.ints m)), (3, .ptr 0 0 1 0 0), (4, .ptr 1 0 1 0 0), (20, .f (.ints m)), (21, .i m.length), (22, .i i)], [some ⟨0, 1, [[.f (.nodes p)]]⟩, some ⟨0, 1, [[.f (.nodes g)]]⟩], []⟩ ∧ nn = ((m.length - i).toNat) ∧ (0 ≤ i) ∧ (i ≤ m.length) ∧ (∀ j : Nat, j < i.toNat → ∀ x, m[j]? = some x → 0 ≤ x ∧ x < (g.length : Int))) ⟨0, rfl, rfl, by omega, by omega, fun j hj => absurd hj (by simp)⟩ ?_)
  rintro nn S ⟨i, rfl, rfl, hi0, hi1, hin⟩
  refine sr ?_
  refine WL.v (Val.lss (tm rfl) (tm rfl)) rfl ?_
  refine WL.norm 89 [(2, _), (3, _), (4, _), (20, _), (21, _), (22, _), (23, _)] [some ⟨_, _, [[_]]⟩, some ⟨_, _, [[_]]⟩] rfl ⟨rfl, rfl, rfl, rfl, rfl, rfl, rfl, trivial⟩ rfl rfl ?_
  refine wn ?_
  refine W.seq ?_
  refine W.condP rfl (fun hc4 => ?_) (fun hc4 => ?_)
  · try simp only [td] at hc4
    refine W.skip (nm ?_)
    refine W.seq ?_
    refine W.block ?_
    refine sr ?_
    refine WL.v (Val.ix (enc := encI) Tryd.underlying22 zs3 (tm rfl) (tm rfl) (by omega) (gA_at (by omega) (by omega))) rfl ?_
    refine WL.v (Val.load Tryd.underlying3 rfl (tm rfl)) rfl ?_
    refine asg rfl rfl ?_
    refine WL.norm 89 [(2, _), (3, _), (4, _), (8, _), (20, _), (21, _), (22, _)] [some ⟨_, _, [[_]]⟩, some ⟨_, _, [[_]]⟩] rfl ⟨rfl, rfl, rfl, rfl, rfl, rfl, rfl, trivial⟩ rfl rfl ?_
    refine wn ?_
    refine sr ?_
    refine WL.v (Val.loadLiveAgg Tryd.underlying39 rfl zs39 (tm rfl) rfl rfl rfl rfl (bl rfl)) rfl ?_
    refine mv rfl rfl ?_
    refine WL.callV ca30 (evc (tm rfl) (evc (tm rfl) evn)) (lo2 rfl (lo1 lo0)) rfl (c_isNode W0 N _ _) ?_
    rintro _ rfl
    refine WL.v (Val.not (tm rfl)) rfl ?_
    refine WL.norm 89 [(2, _), (3, _), (4, _), (20, _), (21, _), (22, _), (29, _)] [some ⟨_, _, [[_]]⟩, some ⟨_, _, [[_]]⟩] rfl ⟨rfl, rfl, rfl, rfl, rfl, rfl, rfl, trivial⟩ rfl rfl ?_
    refine wn ?_
    refine W.condP rfl (fun hc6 => ?_) (fun hc6 => ?_)
    · try simp only [td] at hc6
      refine sr ?_
      refine WL.v (Val.assign Ev.const) rfl ?_
      refine WL.norm 89 [(6, _)] [some ⟨_, _, [[_]]⟩, some ⟨_, _, [[_]]⟩] rfl ⟨rfl, trivial⟩ rfl rfl ?_
      refine wn ?_
      refine W.ret (rt2 (rt1 (rt1 (rt2 (rt1 ?_)))))
      exact Ret.of (.inr rfl) rfl (res1 rfl rfl) (Fewer.nil _) (.inr trivial) (fun id h => absurd h (Nat.not_lt_zero _)) (.same rfl) ⟨rfl, by rw [validE, if_neg (by omega), if_neg (fun h => by have := h _ (gA_mem (l := m) (i := i) hi0 (by omega)); omega)]⟩
    try simp only [td] at hc6
    refine W.skip (nb (nm ?_))
    refine W.region ?_
    refine WL.v (Val.add (tm rfl) Ev.const (IntWalk.i64_in _ (by omega))) rfl ?_
    refine mv rfl rfl ?_
    refine WL.norm 89 [(2, _), (3, _), (4, _), (20, _), (21, _), (22, _)] [some ⟨_, _, [[_]]⟩, some ⟨_, _, [[_]]⟩] rfl ⟨rfl, rfl, rfl, rfl, rfl, rfl, trivial⟩ rfl rfl ?_
    refine wn ?_
    exact ⟨_, by omega, i + 1, rfl, rfl, by omega, by omega, kids_step hi0 (by omega) hin (by omega)⟩
  try simp only [td] at hc4
  refine W.exit (ex1 (ex1 (ex2 (nm ?_))))
  refine W.seq ?_
  refine W.seq ?_
  have hall := kids_end hi0 (by omega) hin
  refine W.region ?_
  refine WL.v (Val.fal (off := 0) Tryd.underlying39 rfl rfl zs23 (tm rfl)) rfl ?_
  refine WL.v (Val.loadLive Tryd.underlying23 rfl (tm rfl) rfl rfl rfl rfl rfl) rfl ?_
  refine WL.v (Val.ln (enc := Nd.cells) Tryd.underlying23 (tm rfl)) rfl ?_
  refine WL.v (Val.move Ev.const) rfl ?_
  refine WL.norm 89 [(2, _), (4, _), (32, _), (33, _), (34, _)] [some ⟨_, _, [[_]]⟩, some ⟨_, _, [[_]]⟩] rfl ⟨rfl, rfl, rfl, rfl, rfl, trivial⟩ rfl rfl ?_
  refine wn ?_
  refine W.norm 89 [(2, _), (4, _), (32, _), (33, _), (34, _)] [some ⟨_, _, [[_]]⟩, some ⟨_, _, [[_]]⟩] rfl ⟨rfl, rfl, rfl, rfl, rfl, trivial⟩ rfl rfl ?_
  refine W.block (W.loop (fun nn S => ∃ (i : Int), S = ⟨89, [(2, .f (.ints m)), (4, .ptr 1 0 1 0 0), (32, .f (.nodes p)), (33, .i p.length), (34, .i i)], [some ⟨0, 1, [[.f (.nodes p)]]⟩, some ⟨0, 1, [[.f (.nodes g)]]⟩], []⟩ ∧ nn = ((p.length - i).toNat) ∧ (0 ≤ i) ∧ (i ≤ p.length) ∧ (∀ j : Nat, j < i.toNat → nodeErr p g m j = 0)) ⟨0, rfl, rfl, by omega, by omega, fun j hj => absurd hj (by simp)⟩ ?_)
  rintro nn S ⟨i, rfl, rfl, hj0, hj1, hjn⟩
  refine sr ?_
  refine WL.v (Val.lss (tm rfl) (tm rfl)) rfl ?_
  refine WL.norm 89 [(2, _), (4, _), (32, _), (33, _), (34, _), (35, _)] [some ⟨_, _, [[_]]⟩, some ⟨_, _, [[_]]⟩] rfl ⟨rfl, rfl, rfl, rfl, rfl, rfl, trivial⟩ rfl rfl ?_
  refine wn ?_
  refine W.seq ?_
  refine W.condP rfl (fun hc10 => ?_) (fun hc10 => ?_)
  · try simp only [td] at hc10
    refine W.skip (nm ?_)
    refine W.seq ?_
    refine W.block ?_
    refine sr ?_
    refine mv rfl rfl ?_
    refine WL.v (Val.ix (enc := Nd.cells) Tryd.underlying23 zs35 (tm rfl) (tm rfl) (by omega) (gA_at (by omega) (by omega))) rfl ?_
    refine WL.v (Val.loadAgg Tryd.underlying35 rfl zs35 (tm rfl) (bl rfl)) rfl ?_
    refine WL.stp rfl (Stp.alloc zz35 rfl rfl) ?_
    refine asg rfl rfl ?_
    refine WL.stp rfl (Stp.st (tm rfl) (tm rfl) zs35 rfl rfl rfl rfl rfl rfl rfl rfl) ?_
    refine WL.norm 89 [(2, _), (4, _), (9, _), (10, _), (32, _), (33, _), (34, _)] [some ⟨_, _, [[_]]⟩, some ⟨_, _, [[_]]⟩, some ⟨_, _, [[_, _, _, _, _, _, _, _, _]]⟩] rfl ⟨rfl, rfl, rfl, rfl, rfl, rfl, rfl, trivial⟩ rfl rfl ?_
    refine wn ?_
    refine W.seq ?_
    have hm := hall _ (gA_mem (l := m) (i := i) hj0 (by omega))
    have hfew := hp.few hj0 hc10
    refine W.reserve ?_
    refine W.drawE (fun k => ([([], []), ([1], []), ([], []), ([], []), ([], []), ([], []), ([], []), ([], []), ([3], [3]), ([3], [3])] : List (List Nat × List Nat)).getD k ([], [])) rfl (by kernel_rfl) (bl rfl) ?_
    refine LexE.val rfl rfl rfl (fun h' ha => Val.fal (off := 0) Tryd.underlying39 rfl rfl zs23 (tm rfl)) ?_
    refine LexE.val rfl rfl rfl (fun h' ha => Val.loadLive Tryd.underlying23 rfl (tm rfl) ((ha.at_ 1 (by decide)).trans rfl) rfl rfl rfl rfl) ?_
    refine LexE.val rfl rfl rfl (fun h' ha => Val.move (tm rfl)) ?_
    refine LexE.val rfl rfl rfl (fun h' ha => Val.move (tm rfl)) ?_
    refine LexE.val rfl rfl rfl (fun h' ha => Val.ix (enc := encI) Tryd.underlying22 zs3 (tm rfl) (tm rfl) (by omega) (gA_at (by omega) (by omega))) ?_
    refine LexE.val rfl rfl rfl (fun h' ha => Val.load Tryd.underlying3 rfl (tm rfl)) ?_
    refine LexE.val rfl rfl rfl (fun h' ha => Val.ix (enc := Nd.cells) Tryd.underlying23 zs35 (tm rfl) (tm rfl) (by omega) (gA_at (by omega) (by omega))) ?_
    refine LexE.val rfl rfl rfl (fun h' ha => Val.loadAgg Tryd.underlying35 rfl zs35 (tm rfl) (bl rfl)) ?_
    refine LexE.stp (U := [(3, _)]) rfl rfl rfl rfl (fun h => by first | rfl | cases h) (fun h' ha m' => Stp.allocAt zz35 rfl rfl ((ha.at_ 3 (by decide)).trans rfl) rfl) ?_
    refine LexE.stp (U := [(3, _)]) rfl rfl rfl rfl (fun h => by first | rfl | cases h) (fun h' ha m' => Stp.st (tm rfl) (tm rfl) zs35 rfl rfl ((ha.at_ 3 (by decide)).trans rfl) rfl rfl rfl rfl rfl) ?_
    refine LexE.nil (nm ?_)
    refine W.norm 89 [(2, _), (4, _), (10, _), (11, _), (32, _), (33, _), (34, _)] [some ⟨_, _, [[_]]⟩, some ⟨_, _, [[_]]⟩, some ⟨_, _, [[_, _, _, _, _, _, _, _, _]]⟩, some ⟨_, _, [[_, _, _, _, _, _, _, _, _]]⟩] rfl ⟨rfl, rfl, rfl, rfl, rfl, rfl, rfl, trivial⟩ rfl rfl ?_
    refine W.seq ?_
    refine sr ?_
    refine WL.v (Val.fal (off := 0) Tryd.underlying35 rfl rfl zs3 (tm rfl)) rfl ?_
    refine WL.v (Val.loadLive Tryd.underlying3 rfl (tm rfl) rfl rfl rfl rfl rfl) rfl ?_
    refine WL.v (Val.eql (tm rfl) Ev.const) rfl ?_
    refine WL.norm 89 [(2, _), (4, _), (10, _), (11, _), (32, _), (33, _), (34, _), (49, _)] [some ⟨_, _, [[_]]⟩, some ⟨_, _, [[_]]⟩, some ⟨_, _, [[_, _, _, _, _, _, _, _, _]]⟩, some ⟨_, _, [[_, _, _, _, _, _, _, _, _]]⟩] rfl ⟨rfl, rfl, rfl, rfl, rfl, rfl, rfl, rfl, trivial⟩ rfl rfl ?_
    refine wn ?_
    refine W.condP rfl (fun hc13 => ?_) (fun hc13 => ?_)
    · try simp only [td] at hc13
      refine W.seq ?_
      refine sr ?_
      refine WL.v (Val.fal (off := 6) Tryd.underlying35 rfl rfl zs33 (tm rfl)) rfl ?_
      refine WL.v (Val.loadLiveAgg Tryd.underlying33 rfl zs33 (tm rfl) rfl rfl rfl rfl (bl rfl)) rfl ?_
      refine WL.v (Val.fal (off := 6) Tryd.underlying35 rfl rfl zs33 (tm rfl)) rfl ?_
      refine WL.v (Val.loadLiveAgg Tryd.underlying33 rfl zs33 (tm rfl) rfl rfl rfl rfl (bl rfl)) rfl ?_
      refine WL.v (Val.neqSrt is33 (tm rfl) (tm rfl)) rfl ?_
      refine WL.norm 89 [(2, _), (4, _), (32, _), (33, _), (34, _), (54, _)] [some ⟨_, _, [[_]]⟩, some ⟨_, _, [[_]]⟩, some ⟨_, _, [[_, _, _, _, _, _, _, _, _]]⟩, some ⟨_, _, [[_, _, _, _, _, _, _, _, _]]⟩] rfl ⟨rfl, rfl, rfl, rfl, rfl, rfl, trivial⟩ rfl rfl ?_
      refine wn ?_
      refine W.condP rfl (fun hc14 => ?_) (fun hc14 => ?_)
      · try simp only [td] at hc14
        refine sr ?_
        refine WL.v (Val.assign Ev.const) rfl ?_
        refine WL.norm 89 [(6, _)] [some ⟨_, _, [[_]]⟩, some ⟨_, _, [[_]]⟩, some ⟨_, _, [[_, _, _, _, _, _, _, _, _]]⟩, some ⟨_, _, [[_, _, _, _, _, _, _, _, _]]⟩] rfl ⟨rfl, trivial⟩ rfl rfl ?_
        refine wn ?_
        refine W.ret (rt1 (rt1 (rt2 (rt1 (rt1 (rt2 (rt1 ?_)))))))
        exact Ret.of (.inr rfl) rfl (res1 rfl rfl) (Fewer.nil _) (.inr trivial) (fun id h => absurd h (Nat.not_lt_zero _)) (.same rfl) ⟨rfl, by rw [validE, if_neg (by omega), if_pos hall, firstErr_at hjn (ne_var9 hj0 hc13 hc14) (by decide) (by omega)]⟩
      try simp only [td] at hc14
      have hz := ne_var hj0 hc13 hc14
      refine W.skip (nm ?_)
      refine W.exit (ex1 (ex2 (nm ?_)))
      refine W.region ?_
      refine WL.v (Val.add (tm rfl) Ev.const (IntWalk.i64_in _ (by omega))) rfl ?_
      refine mv rfl rfl ?_
      refine WL.cut (env := [(2, _), (4, _), (32, _), (33, _), (34, _)]) (h' := [some ⟨_, _, [[_]]⟩, some ⟨_, _, [[_]]⟩]) (Fewer.pre _ rfl) (.inr (HLo.box (lo1 lo0) (HLo.box (lo1 lo0) HLo.nil))) (fun id h => absurd h (Nat.not_lt_zero _)) ⟨⟨_, rfl, (.same rfl)⟩, ⟨_, rfl, (.same rfl)⟩, ⟨_, rfl, (.same rfl)⟩, ⟨_, rfl, (.same rfl)⟩, ⟨_, rfl, (.same rfl)⟩, trivial⟩ ?_
      refine wn ?_
      exact ⟨_, by omega, i + 1, rfl, rfl, by omega, by omega, zero_step hj0 hjn hz⟩
    try simp only [td] at hc13
    refine W.skip (nm ?_)
    refine W.seq ?_
    refine W.seq ?_
    refine W.drawE (fun k => ([([2], []), ([], []), ([3], []), ([], []), ([], []), ([], []), ([], []), ([2], []), ([], []), ([], []), ([3], []), ([], []), ([], []), ([], [])] : List (List Nat × List Nat)).getD k ([], [])) rfl (by kernel_rfl) (bl rfl) ?_
    refine LexE.val rfl rfl rfl (fun h' ha => Val.loadLiveAgg Tryd.underlying35 rfl zs35 (tm rfl) ((ha.at_ 2 (by decide)).trans rfl) rfl rfl rfl (bl rfl)) ?_
    refine LexE.call ca31 (fun h' ha => (evc (tm rfl) evn)) (lo2 rfl lo0) rfl (c_shapeOf W0 N (gA p i)) rfl ?_
    refine LexE.val rfl rfl rfl (fun h' ha => Val.loadLiveAgg Tryd.underlying35 rfl zs35 (tm rfl) ((ha.at_ 3 (by decide)).trans rfl) rfl rfl rfl (bl rfl)) ?_
    refine LexE.call ca31 (fun h' ha => (evc (tm rfl) evn)) (lo2 rfl lo0) rfl (c_shapeOf W0 N (gA g (gA m i))) rfl ?_
    refine LexE.val rfl rfl rfl (fun h' ha => Val.neqShp is70 (tm rfl) (tm rfl)) ?_
    refine LexE.val rfl rfl rfl (fun h' ha => Val.move (tm rfl)) ?_
    refine LexE.gval rfl (fun h' => (Grd.f rfl rfl rfl)) rfl (fun hG h' ha => Val.fal (off := 1) Tryd.underlying35 rfl rfl zs22 (tm rfl)) ?_
    refine LexE.gval rfl (fun h' => (Grd.f rfl rfl rfl)) rfl (fun hG h' ha => Val.loadLive Tryd.underlying22 rfl (Ev.opt rfl hG) ((ha.at_ 2 (by decide)).trans rfl) rfl rfl rfl rfl) ?_
    refine LexE.gval rfl (fun h' => (Grd.f rfl rfl rfl)) rfl (fun hG h' ha => Val.ln (enc := encI) Tryd.underlying22 (Ev.opt rfl hG)) ?_
    refine LexE.gval rfl (fun h' => (Grd.f rfl rfl rfl)) rfl (fun hG h' ha => Val.fal (off := 1) Tryd.underlying35 rfl rfl zs22 (tm rfl)) ?_
    refine LexE.gval rfl (fun h' => (Grd.f rfl rfl rfl)) rfl (fun hG h' ha => Val.loadLive Tryd.underlying22 rfl (Ev.opt rfl hG) ((ha.at_ 3 (by decide)).trans rfl) rfl rfl rfl rfl) ?_
    refine LexE.gval rfl (fun h' => (Grd.f rfl rfl rfl)) rfl (fun hG h' ha => Val.ln (enc := encI) Tryd.underlying22 (Ev.opt rfl hG)) ?_
    refine LexE.gval rfl (fun h' => (Grd.f rfl rfl rfl)) rfl (fun hG h' ha => Val.neq (Ev.opt rfl hG) (Ev.opt rfl hG)) ?_
    refine LexE.val rfl rfl rfl (fun h' ha => Val.or (tm rfl) (fun hb => Ev.opt rfl (nt hb))) ?_
    refine LexE.nil (nm ?_)
    refine W.norm 89 [(2, _), (4, _), (10, _), (11, _), (32, _), (33, _), (34, _), (68, _)] [some ⟨_, _, [[_]]⟩, some ⟨_, _, [[_]]⟩, some ⟨_, _, [[_, _, _, _, _, _, _, _, _]]⟩, some ⟨_, _, [[_, _, _, _, _, _, _, _, _]]⟩] rfl ⟨rfl, rfl, rfl, rfl, rfl, rfl, rfl, rfl, trivial⟩ rfl rfl ?_
    refine W.condP rfl (fun hc16 => ?_) (fun hc16 => ?_)
    · have hl := (like_or _ _ _).symm.trans hc16
      refine sr ?_
      refine WL.v (Val.assign Ev.const) rfl ?_
      refine WL.norm 89 [(6, _)] [some ⟨_, _, [[_]]⟩, some ⟨_, _, [[_]]⟩, some ⟨_, _, [[_, _, _, _, _, _, _, _, _]]⟩, some ⟨_, _, [[_, _, _, _, _, _, _, _, _]]⟩] rfl ⟨rfl, trivial⟩ rfl rfl ?_
      refine wn ?_
      refine W.ret (rt1 (rt2 (rt1 (rt1 (rt2 (rt1 ?_))))))
      exact Ret.of (.inr rfl) rfl (res1 rfl rfl) (Fewer.nil _) (.inr trivial) (fun id h => absurd h (Nat.not_lt_zero _)) (.same rfl) ⟨rfl, by rw [validE, if_neg (by omega), if_pos hall, firstErr_at hjn (ne_like hj0 hc13 hl) (by decide) (by omega)]⟩
    have hl := (like_or _ _ _).symm.trans hc16
    have hll := ne_len hl
    refine W.skip (nm ?_)
    refine sr ?_
    refine WL.v (Val.fal (off := 1) Tryd.underlying35 rfl rfl zs22 (tm rfl)) rfl ?_
    refine WL.v (Val.loadLive Tryd.underlying22 rfl (tm rfl) rfl rfl rfl rfl rfl) rfl ?_
    refine WL.v (Val.ln (enc := encI) Tryd.underlying22 (tm rfl)) rfl ?_
    refine WL.v (Val.move Ev.const) rfl ?_
    refine WL.norm 89 [(2, _), (4, _), (11, _), (32, _), (33, _), (34, _), (70, _), (71, _), (72, _)] [some ⟨_, _, [[_]]⟩, some ⟨_, _, [[_]]⟩, some ⟨_, _, [[_, _, _, _, _, _, _, _, _]]⟩, some ⟨_, _, [[_, _, _, _, _, _, _, _, _]]⟩] rfl ⟨rfl, rfl, rfl, rfl, rfl, rfl, rfl, rfl, rfl, trivial⟩ rfl rfl ?_
    refine wn ?_
    refine W.norm 89 [(2, _), (4, _), (11, _), (32, _), (33, _), (34, _), (70, _), (71, _), (72, _)] [some ⟨_, _, [[_]]⟩, some ⟨_, _, [[_]]⟩, some ⟨_, _, [[_, _, _, _, _, _, _, _, _]]⟩, some ⟨_, _, [[_, _, _, _, _, _, _, _, _]]⟩] rfl ⟨rfl, rfl, rfl, rfl, rfl, rfl, rfl, rfl, rfl, trivial⟩ rfl rfl ?_
    refine W.block (W.loop (fun nn S => ∃ (j : Int), S = ⟨89, [(2, .f (.ints m)), (4, .ptr 1 0 1 0 0), (11, .ptr 3 0 9 0 0), (32, .f (.nodes p)), (33, .i p.length), (34, .i i), (70, .f (.ints (gA p i).kids)), (71, .i (gA p i).kids.length), (72, .i j)], [some ⟨0, 1, [[.f (.nodes p)]]⟩, some ⟨0, 1, [[.f (.nodes g)]]⟩, some ⟨0, 9, [(gA p i).cells.map .f]⟩, some ⟨0, 9, [(gA g (gA m i)).cells.map .f]⟩], []⟩ ∧ nn = (((gA p i).kids.length - j).toNat) ∧ (0 ≤ j) ∧ (j ≤ (gA p i).kids.length) ∧ (∀ q : Nat, q < j.toNat → gA m (gA (gA p i).kids q) = gA (gA g (gA m i)).kids q)) ⟨0, rfl, rfl, by omega, by omega, fun j hj => absurd hj (by simp)⟩ ?_)
    rintro nn S ⟨j, rfl, rfl, hq0, hq1, hqn⟩
    refine sr ?_
    refine WL.v (Val.lss (tm rfl) (tm rfl)) rfl ?_
    refine WL.norm 89 [(2, _), (4, _), (11, _), (32, _), (33, _), (34, _), (70, _), (71, _), (72, _), (73, _)] [some ⟨_, _, [[_]]⟩, some ⟨_, _, [[_]]⟩, some ⟨_, _, [[_, _, _, _, _, _, _, _, _]]⟩, some ⟨_, _, [[_, _, _, _, _, _, _, _, _]]⟩] rfl ⟨rfl, rfl, rfl, rfl, rfl, rfl, rfl, rfl, rfl, rfl, trivial⟩ rfl rfl ?_
    refine wn ?_
    refine W.seq ?_
    refine W.condP rfl (fun hc19 => ?_) (fun hc19 => ?_)
    · try simp only [td] at hc19
      refine W.skip (nm ?_)
      refine W.seq ?_
      refine W.block ?_
      refine sr ?_
      refine mv rfl rfl ?_
      refine WL.v (Val.ix (enc := encI) Tryd.underlying22 zs3 (tm rfl) (tm rfl) (by omega) (gA_at (by omega) (by omega))) rfl ?_
      refine WL.v (Val.load Tryd.underlying3 rfl (tm rfl)) rfl ?_
      refine asg rfl rfl ?_
      refine asg rfl rfl ?_
      refine WL.norm 89 [(2, _), (4, _), (11, _), (12, _), (13, _), (32, _), (33, _), (34, _), (70, _), (71, _), (72, _)] [some ⟨_, _, [[_]]⟩, some ⟨_, _, [[_]]⟩, some ⟨_, _, [[_, _, _, _, _, _, _, _, _]]⟩, some ⟨_, _, [[_, _, _, _, _, _, _, _, _]]⟩] rfl ⟨rfl, rfl, rfl, rfl, rfl, rfl, rfl, rfl, rfl, rfl, rfl, trivial⟩ rfl rfl ?_
      refine wn ?_
      refine W.seq ?_
      have hkid := hp.kidsIn hj0 hc10 hq0 hc19
      refine W.drawE (fun k => ([([], []), ([], []), ([], []), ([], []), ([], []), ([3], []), ([], []), ([], []), ([], []), ([], [])] : List (List Nat × List Nat)).getD k ([], [])) rfl (by kernel_rfl) (bl rfl) ?_
      refine LexE.val rfl rfl rfl (fun h' ha => Val.move (tm rfl)) ?_
      refine LexE.val rfl rfl rfl (fun h' ha => Val.move (tm rfl)) ?_
      refine LexE.val rfl rfl rfl (fun h' ha => Val.ix (enc := encI) Tryd.underlying22 zs3 (tm rfl) (tm rfl) (by omega) (gA_at (by omega) (by omega))) ?_
      refine LexE.val rfl rfl rfl (fun h' ha => Val.load Tryd.underlying3 rfl (tm rfl)) ?_
      refine LexE.val rfl rfl rfl (fun h' ha => Val.fal (off := 1) Tryd.underlying35 rfl rfl zs22 (tm rfl)) ?_
      refine LexE.val rfl rfl rfl (fun h' ha => Val.loadLive Tryd.underlying22 rfl (tm rfl) ((ha.at_ 3 (by decide)).trans rfl) rfl rfl rfl rfl) ?_
      refine LexE.val rfl rfl rfl (fun h' ha => Val.move (tm rfl)) ?_
      refine LexE.val rfl rfl rfl (fun h' ha => Val.ix (enc := encI) Tryd.underlying22 zs3 (tm rfl) (tm rfl) (by omega) (gA_at (by omega) (by omega))) ?_
      refine LexE.val rfl rfl rfl (fun h' ha => Val.load Tryd.underlying3 rfl (tm rfl)) ?_
      refine LexE.val rfl rfl rfl (fun h' ha => Val.neq (tm rfl) (tm rfl)) ?_
      refine LexE.nil (nm ?_)
      refine W.norm 89 [(2, _), (4, _), (11, _), (32, _), (33, _), (34, _), (70, _), (71, _), (72, _), (86, _)] [some ⟨_, _, [[_]]⟩, some ⟨_, _, [[_]]⟩, some ⟨_, _, [[_, _, _, _, _, _, _, _, _]]⟩, some ⟨_, _, [[_, _, _, _, _, _, _, _, _]]⟩] rfl ⟨rfl, rfl, rfl, rfl, rfl, rfl, rfl, rfl, rfl, rfl, trivial⟩ rfl rfl ?_
      refine W.condP rfl (fun hc21 => ?_) (fun hc21 => ?_)
      · try simp only [td] at hc21
        refine sr ?_
        refine WL.v (Val.assign Ev.const) rfl ?_
        refine WL.norm 89 [(6, _)] [some ⟨_, _, [[_]]⟩, some ⟨_, _, [[_]]⟩, some ⟨_, _, [[_, _, _, _, _, _, _, _, _]]⟩, some ⟨_, _, [[_, _, _, _, _, _, _, _, _]]⟩] rfl ⟨rfl, trivial⟩ rfl rfl ?_
        refine wn ?_
        refine W.ret (rt2 (rt1 (rt1 (rt2 (rt2 (rt1 (rt1 (rt2 (rt1 ?_)))))))))
        exact Ret.of (.inr rfl) rfl (res1 rfl rfl) (Fewer.nil _) (.inr trivial) (fun id h => absurd h (Nat.not_lt_zero _)) (.same rfl) ⟨rfl, by rw [validE, if_neg (by omega), if_pos hall, firstErr_at hjn (ne_kid hj0 hc13 hl hq0 (by omega) (fun h => hc21 h.symm)) (by decide) (by omega)]⟩
      try simp only [td] at hc21
      refine W.skip (nb (nm ?_))
      refine W.region ?_
      refine WL.v (Val.add (tm rfl) Ev.const (IntWalk.i64_in _ (by omega))) rfl ?_
      refine mv rfl rfl ?_
      refine WL.norm 89 [(2, _), (4, _), (11, _), (32, _), (33, _), (34, _), (70, _), (71, _), (72, _)] [some ⟨_, _, [[_]]⟩, some ⟨_, _, [[_]]⟩, some ⟨_, _, [[_, _, _, _, _, _, _, _, _]]⟩, some ⟨_, _, [[_, _, _, _, _, _, _, _, _]]⟩] rfl ⟨rfl, rfl, rfl, rfl, rfl, rfl, rfl, rfl, rfl, trivial⟩ rfl rfl ?_
      refine wn ?_
      exact ⟨_, by omega, j + 1, rfl, rfl, by omega, by omega, eq_step hq0 hqn (by rw [i_nat hq0]; exact hc21)⟩
    try simp only [td] at hc19
    have hz := ne_ok hj0 hc13 hl hc19 hqn
    refine W.exit (ex1 (ex1 (ex2 (nb (nm ?_)))))
    refine W.region ?_
    refine WL.v (Val.add (tm rfl) Ev.const (IntWalk.i64_in _ (by omega))) rfl ?_
    refine mv rfl rfl ?_
    refine WL.cut (env := [(2, _), (4, _), (32, _), (33, _), (34, _)]) (h' := [some ⟨_, _, [[_]]⟩, some ⟨_, _, [[_]]⟩]) (Fewer.pre _ rfl) (.inr (HLo.box (lo1 lo0) (HLo.box (lo1 lo0) HLo.nil))) (fun id h => absurd h (Nat.not_lt_zero _)) ⟨⟨_, rfl, (.same rfl)⟩, ⟨_, rfl, (.same rfl)⟩, ⟨_, rfl, (.same rfl)⟩, ⟨_, rfl, (.same rfl)⟩, ⟨_, rfl, (.same rfl)⟩, trivial⟩ ?_
    refine wn ?_
    exact ⟨_, by omega, i + 1, rfl, rfl, by omega, by omega, zero_step hj0 hjn hz⟩
  try simp only [td] at hc10
  refine W.exit (ex1 (ex1 (ex2 (nm ?_))))
  refine sr ?_
  refine WL.v (Val.assign Ev.const) rfl ?_
  refine WL.norm 89 [(6, _)] [some ⟨_, _, [[_]]⟩, some ⟨_, _, [[_]]⟩] rfl ⟨rfl, trivial⟩ rfl rfl ?_
  refine wn ?_
  refine W.ret ?_
  exact Ret.of (.inr rfl) rfl (res1 rfl rfl) (Fewer.nil _) (.inr trivial) (fun id h => absurd h (Nat.not_lt_zero _)) (.same rfl) ⟨rfl, by rw [validE, if_neg (by omega), if_pos hall, firstErr_zero (fun j hj => hjn j (by omega))]⟩
end Go.Aw
namespace Go.Aw
open Go.RowKit Go.Proofs

/-! ### The reference's canonical form -/
def visitF (g : List Nd) : Nat → Int → List Int → List Int
  | 0, _, l => l
  | b + 1, i, l => if i ∈ l then l else ((gA g i).kids.foldl (fun l k => visitF g b k l) l) ++ [i]
/-- Numbers of nodes, each once. -/
def VOk (g : List Nd) (l : List Int) : Prop := l.Nodup ∧ ∀ x, x ∈ l → 0 ≤ x ∧ x < (g.length : Int)
theorem nodup_len : ∀ (n : Nat) (l : List Int), l.Nodup → (∀ x, x ∈ l → 0 ≤ x ∧ x < (n : Int)) → l.length ≤ n
  | 0, l, _, h => by
    cases l with
    | nil => simp
    | cons x l => have := h x (List.mem_cons_self ..); omega
  | n + 1, l, hn, h => by
    by_cases hm : (n : Int) ∈ l
    · have := nodup_len n (l.erase (n : Int)) (hn.erase _) (fun x hx => by
        have h1 := (hn.mem_erase_iff).1 hx
        have h2 := h x h1.2
        have : x ≠ n := h1.1
        omega)
      rw [List.length_erase_of_mem hm] at this
      omega
    · have := nodup_len n l hn (fun x hx => by
        have h2 := h x hx
        have : x ≠ n := fun he => hm (he ▸ hx)
        omega)
      omega
theorem VOk.len {g : List Nd} {l : List Int} (h : VOk g l) : l.length ≤ g.length := nodup_len g.length l h.1 h.2
theorem visitF_ok {g : List Nd} (hg : WFG g) : ∀ (b : Nat) (i : Int) (l : List Int), i < b → 0 ≤ i → i < g.length → VOk g l → VOk g (visitF g b i l) ∧ (∀ x, x ∈ visitF g b i l → x ∈ l ∨ x ≤ i)
  | 0, i, l, h, h0, _, _ => by omega
  | b + 1, i, l, hib, h0, hi, hl => by
    rw [visitF]
    split
    · exact ⟨hl, fun x hx => .inl hx⟩
    · rename_i hmem
      have key : ∀ (ks : List Int) (l' : List Int), (∀ k, k ∈ ks → 0 ≤ k ∧ k < i) → VOk g l' → VOk g (ks.foldl (fun l k => visitF g b k l) l') ∧ (∀ x, x ∈ ks.foldl (fun l k => visitF g b k l) l' → x ∈ l' ∨ x < i) := by
        intro ks
        induction ks with
        | nil => intro l' _ h; exact ⟨h, fun x hx => .inl hx⟩
        | cons k ks ih =>
          intro l' hk h
          have hk0 := hk k (List.mem_cons_self ..)
          obtain ⟨h1, h2⟩ := visitF_ok hg b k l' (by omega) hk0.1 (by omega) h
          obtain ⟨h3, h4⟩ := ih (visitF g b k l') (fun q hq => hk q (List.mem_cons_of_mem _ hq)) h1
          refine ⟨h3, fun x hx => ?_⟩
          rcases h4 x hx with hx | hx
          · rcases h2 x hx with hx | hx
            · exact .inl hx
            · exact .inr (by omega)
          · exact .inr hx
      obtain ⟨h1, h2⟩ := key (gA g i).kids l (fun k hk => by have := (hg.node _ _ (gA_at h0 hi)).2 k hk; omega) hl
      refine ⟨⟨?_, ?_⟩, ?_⟩
      · rw [List.nodup_append]
        refine ⟨h1.1, by simp, fun x hx y hy => ?_⟩
        rw [List.mem_singleton.1 hy]
        rcases h2 x hx with hx | hx
        · exact fun he => hmem (he ▸ hx)
        · omega
      · intro x hx
        rcases List.mem_append.1 hx with hx | hx
        · exact h1.2 x hx
        · rw [List.mem_singleton.1 hx]; exact ⟨h0, hi⟩
      · intro x hx
        rcases List.mem_append.1 hx with hx | hx
        · rcases h2 x hx with hx | hx
          · exact .inl hx
          · exact .inr (by omega)
        · rw [List.mem_singleton.1 hx]; exact .inr (Int.le_refl _)
theorem fold_step {α : Type} {f : α → Int → α} {l : List Int} {k : Int} {a : α} (h0 : 0 ≤ k) (h1 : k < l.length) : f ((l.take k.toNat).foldl f a) (gA l k) = (l.take (k + 1).toNat).foldl f a := by
  have : (k + 1).toNat = k.toNat + 1 := by omega
  rw [this, List.take_add_one, gA_at h0 h1]
  simp
/-- Small numbers in decimal. -/
def decB (n : Int) : ByteArray := if n < 10 then ⟨#[UInt8.ofNat (48 + n.toNat)]⟩ else ⟨#[UInt8.ofNat (48 + n.toNat / 10), UInt8.ofNat (48 + n.toNat % 10)]⟩
theorem digit_cut {d : Int} (h0 : 0 ≤ d) (h1 : d < 10) : (⟨#[48, 49, 50, 51, 52, 53, 54, 55, 56, 57]⟩ : ByteArray).extract d.toNat (d + 1).toNat = ⟨#[UInt8.ofNat (48 + d.toNat)]⟩ := by
  have : d = 0 ∨ d = 1 ∨ d = 2 ∨ d = 3 ∨ d = 4 ∨ d = 5 ∨ d = 6 ∨ d = 7 ∨ d = 8 ∨ d = 9 := by omega
  rcases this with rfl | rfl | rfl | rfl | rfl | rfl | rfl | rfl | rfl | rfl <;> rfl
theorem ba_app (a b : Array UInt8) : (⟨a⟩ : ByteArray) ++ ⟨b⟩ = ⟨a ++ b⟩ := by
  apply ByteArray.ext; simp
theorem dec_step {n k : Int} {s : ByteArray} (h0 : 0 ≤ n) (h1 : n < 100) (hd : (k = n ∧ s = ⟨#[]⟩ ∧ 0 < n) ∨ (10 ≤ n ∧ k = n / 10 ∧ s = ⟨#[UInt8.ofNat (48 + n.toNat % 10)]⟩) ∨ (k = 0 ∧ s = decB n)) (hk : ¬ k = 0) :
    (k / 10 = n ∧ (⟨#[48, 49, 50, 51, 52, 53, 54, 55, 56, 57]⟩ : ByteArray).extract (k % 10).toNat (k % 10 + 1).toNat ++ s = ⟨#[]⟩ ∧ 0 < n) ∨ (10 ≤ n ∧ k / 10 = n / 10 ∧ (⟨#[48, 49, 50, 51, 52, 53, 54, 55, 56, 57]⟩ : ByteArray).extract (k % 10).toNat (k % 10 + 1).toNat ++ s = ⟨#[UInt8.ofNat (48 + n.toNat % 10)]⟩) ∨ (k / 10 = 0 ∧ (⟨#[48, 49, 50, 51, 52, 53, 54, 55, 56, 57]⟩ : ByteArray).extract (k % 10).toNat (k % 10 + 1).toNat ++ s = decB n) := by
  rw [digit_cut (by omega) (by omega)]
  rcases hd with ⟨rfl, rfl, h⟩ | ⟨h, rfl, rfl⟩ | ⟨rfl, _⟩
  · rw [ba_app]
    by_cases hn : k < 10
    · refine .inr (.inr ⟨by omega, ?_⟩)
      rw [decB, if_pos hn, show (k % 10).toNat = k.toNat from by omega]; rfl
    · refine .inr (.inl ⟨by omega, rfl, ?_⟩)
      rw [show (k % 10).toNat = k.toNat % 10 from by omega]; rfl
  · refine .inr (.inr ⟨by omega, ?_⟩)
    rw [ba_app, decB, if_neg (by omega), show (n / 10 % 10).toNat = n.toNat / 10 from by omega]; rfl
  · exact absurd rfl hk

-- enthymemeref13.visit
set_option maxHeartbeats 1000000 in
theorem c_visit (W0 : World) (N : Nat) (g : List Nd) (hg : WFG g) : ∀ (b : Nat) (i : Int) (l : List Int) (v : AV) (o : Option Row), i < b → 0 ≤ i → i < g.length → VOk g l → Acc 0 1 (fz (l.map encI)) v o → AC (En W0 N) 27 [.f (.nodes g), .i i, v] [o] (fun r h => ∃ o', h = [o'] ∧ Acc 0 1 (fz ((visitF g b i l).map encI)) r o') := by
  intro b
  induction b with
  | zero => intro i l v o h1 h2; omega
  | succ b ih =>
  intro i l v o hib h0 hi hok ha
  have hfew := hg.few h0 hi
  have hgl := hg.len
  have hll := hok.len
  refine AC.enter Tryd.func27 rfl Tryd.ntmps27 (bl rfl) fun X => ?_
  refine sr ?_
  refine WL.v (Val.assign Ev.const) rfl ?_
  refine WL.norm 39 [(0, _), (1, _), (2, _)] [_] rfl ⟨rfl, rfl, rfl, trivial⟩ rfl rfl ?_
  refine wn ?_
  refine sr ?_
  refine mv rfl rfl ?_
  refine mv rfl rfl ?_
  refine WL.callB ca48 (evbc (EvB.acc (tm rfl) ha rfl (encL (by intro x; rfl))) (evbc (EvB.of (tm rfl) rfl) evbn)) rfl (c_Has W0 N _ _ (by first | omega | simp)) (fun r hr => ⟨_, hr⟩) ?_
  rintro _ rfl
  refine asg rfl rfl ?_
  refine WL.norm 39 [(0, _), (1, _), (2, _), (7, _)] [_] rfl ⟨rfl, rfl, rfl, rfl, trivial⟩ rfl rfl ?_
  refine wn ?_
  refine W.seq ?_
  refine sr ?_
  refine mv rfl rfl ?_
  refine WL.norm 39 [(0, _), (1, _), (2, _), (12, _)] [_] rfl ⟨rfl, rfl, rfl, rfl, trivial⟩ rfl rfl ?_
  refine wn ?_
  refine W.condP rfl (fun hc2 => ?_) (fun hc2 => ?_)
  · try simp only [td] at hc2
    refine sr ?_
    refine mv rfl rfl ?_
    refine asg rfl rfl ?_
    refine WL.norm 39 [(6, _)] [_] rfl ⟨rfl, trivial⟩ rfl rfl ?_
    refine wn ?_
    refine W.ret (rt1 ?_)
    exact Ret.keep (.inr rfl) rfl (res1 rfl rfl) rfl ⟨_, rfl, by rw [visitF, if_pos hc2]; exact ha⟩
  try simp only [td] at hc2
  refine W.skip (nm ?_)
  refine W.seq ?_
  refine sr ?_
  refine WL.v (Val.assign Ev.const) rfl ?_
  refine WL.norm 39 [(0, _), (1, _), (2, _), (8, _)] [_] rfl ⟨rfl, rfl, rfl, rfl, trivial⟩ rfl rfl ?_
  refine wn ?_
  refine W.norm 39 [(0, _), (1, _), (2, _), (8, _)] [_] rfl ⟨rfl, rfl, rfl, rfl, trivial⟩ rfl rfl ?_
  refine W.block (W.loop (fun nn S => ∃ (k : Int) (l' : List Int) (v : AV) (o : Option Row), S = ⟨39, [(0, .f (.nodes g)), (1, .i i), (2, v), (8, .i k)], [o], []⟩ ∧ nn = (((gA g i).kids.length - k).toNat) ∧ (0 ≤ k) ∧ (k ≤ (gA g i).kids.length) ∧ (l' = ((gA g i).kids.take k.toNat).foldl (fun l k => visitF g b k l) l) ∧ (Acc 0 1 (fz (l'.map encI)) v o) ∧ (VOk g l')) ⟨0, l, _, _, rfl, rfl, by omega, by omega, rfl, ha, hok⟩ ?_)
  rintro nn S ⟨k, l', v, o, rfl, rfl, hk0, hk1, hle, ha, hok'⟩
  refine W.seq ?_
  refine sr ?_
  refine mv rfl rfl ?_
  refine mv rfl rfl ?_
  refine mv rfl rfl ?_
  refine WL.v (Val.ix (enc := Nd.cells) Tryd.underlying23 zs35 (tm rfl) (tm rfl) (by omega) (gA_at (by omega) (by omega))) rfl ?_
  refine WL.v (Val.fa (off := 1) Tryd.underlying35 rfl rfl zs22 (tm rfl)) rfl ?_
  refine WL.v (Val.load Tryd.underlying22 rfl (tm rfl)) rfl ?_
  refine WL.v (Val.ln (enc := encI) Tryd.underlying22 (tm rfl)) rfl ?_
  refine WL.v (Val.lss (tm rfl) (tm rfl)) rfl ?_
  refine WL.norm 39 [(0, _), (1, _), (2, _), (8, _), (21, _)] [_] rfl ⟨rfl, rfl, rfl, rfl, rfl, trivial⟩ rfl rfl ?_
  refine wn ?_
  refine W.condP rfl (fun hc5 => ?_) (fun hc5 => ?_)
  · try simp only [td] at hc5
    refine W.skip (nm ?_)
    refine W.seq ?_
    refine W.block ?_
    have hk := hg.kid h0 hi hk0 hc5
    have hok2 := (visitF_ok hg b (gA (gA g i).kids k) l' (by omega) hk.1 (by omega) hok').1
    refine W.region ?_
    refine mv rfl rfl ?_
    refine mv rfl rfl ?_
    refine mv rfl rfl ?_
    refine WL.v (Val.ix (enc := Nd.cells) Tryd.underlying23 zs35 (tm rfl) (tm rfl) (by omega) (gA_at (by omega) (by omega))) rfl ?_
    refine WL.v (Val.fa (off := 1) Tryd.underlying35 rfl rfl zs22 (tm rfl)) rfl ?_
    refine WL.v (Val.load Tryd.underlying22 rfl (tm rfl)) rfl ?_
    refine mv rfl rfl ?_
    refine WL.v (Val.ix (enc := encI) Tryd.underlying22 zs3 (tm rfl) (tm rfl) (by omega) (gA_at (by omega) (by omega))) rfl ?_
    refine WL.v (Val.load Tryd.underlying3 rfl (tm rfl)) rfl ?_
    refine mv rfl rfl ?_
    obtain ⟨v0, ha0, hv0⟩ := Acc.un (j := 0) ha
    refine WL.callFO (j := 0) (args := [.f (.nodes g), .i (gA (gA g i).kids k), v0]) ca27 (evc (tm rfl) (evc (tm rfl) (evc (tm rfl) evn))) (by rw [hv0]; rfl) (lo1 (lo1 (loA ha0 rfl lo0))) rfl rfl (oLo_acc ha0) (ih _ l' v0 _ (by omega) hk.1 (by omega) hok' ha0) oneO_acc ?_
    rintro r_ o2 ⟨_, he, ha2⟩
    cases he
    refine asg rfl rfl ?_
    refine WL.norm 39 [(0, _), (1, _), (2, _), (8, _)] [_] rfl ⟨rfl, rfl, rfl, rfl, trivial⟩ rfl rfl ?_
    refine WL.nil (nb (nm ?_))
    refine W.region ?_
    refine mv rfl rfl ?_
    refine WL.v (Val.add (tm rfl) Ev.const (IntWalk.i64_in _ (by omega))) rfl ?_
    refine asg rfl rfl ?_
    refine WL.norm 39 [(0, _), (1, _), (2, _), (8, _)] [_] rfl ⟨rfl, rfl, rfl, rfl, trivial⟩ rfl rfl ?_
    refine wn ?_
    exact ⟨_, by omega, k + 1, _, _, _, rfl, rfl, by omega, by omega, by rw [hle]; exact fold_step (f := fun l k => visitF g b k l) hk0 hc5, Acc.ren0 ha2, hok2⟩
  try simp only [td] at hc5
  refine W.exit (ex1 (ex1 (ex2 (nm ?_))))
  refine W.seq ?_
  have hend : l' = (gA g i).kids.foldl (fun l k => visitF g b k l) l := by rw [hle, List.take_of_length_le (by omega)]
  have hll' := hok'.len
  refine W.region ?_
  refine mv rfl rfl ?_
  refine mv rfl rfl ?_
  refine WL.stp rfl (Stp.buildFrozen (xs := [_]) (fs := ([i] : List Int).map encI) Tryd.underlying22 zs3 zz3 rfl rfl (evc (tm rfl) evn) fitL (bl rfl) rfl rfl) ?_
  refine WL.appE (enc := encI) ap22_22 (tm rfl) rfl ha (ArgE.lst (enc := encI) (tm rfl) (by intro x; rfl)) (by simp only [List.length_append, List.length_map, List.length_cons, List.length_nil]; omega) rfl ?_
  intro v' o' ha'
  refine asg rfl rfl ?_
  refine WL.norm 39 [(6, _)] [_] rfl ⟨rfl, trivial⟩ rfl rfl ?_
  refine wn ?_
  refine W.ret ?_
  exact Ret.keep (.inr rfl) rfl (res1 rfl rfl) rfl ⟨_, rfl, by rw [visitF, if_neg hc2, ← hend]; exact ha'⟩
-- enthymemeref01.Decimal
set_option maxHeartbeats 1000000 in
theorem c_Decimal (W0 : World) (N : Nat) (n : Int) (h0 : 0 ≤ n) (h1 : n < 100) : AC (En W0 N) 29 [.i n] [] (fun r h => h = [] ∧ r = .f (.v (.string (decB n)))) := by
  refine AC.enter Tryd.func29 rfl Tryd.ntmps29 (bl rfl) fun X => ?_
  refine sr ?_
  refine WL.v (Val.assign Ev.const) rfl ?_
  refine WL.norm 32 [(0, _)] [] rfl ⟨rfl, trivial⟩ rfl rfl ?_
  refine wn ?_
  refine W.seq ?_
  refine sr ?_
  refine mv rfl rfl ?_
  refine WL.v (Val.eql (tm rfl) Ev.const) rfl ?_
  refine WL.norm 32 [(0, _), (8, _)] [] rfl ⟨rfl, rfl, trivial⟩ rfl rfl ?_
  refine wn ?_
  refine W.condP rfl (fun hc1 => ?_) (fun hc1 => ?_)
  · try simp only [td] at hc1
    refine sr ?_
    refine WL.v (Val.assign Ev.const) rfl ?_
    refine WL.norm 32 [(2, _)] [] rfl ⟨rfl, trivial⟩ rfl rfl ?_
    refine wn ?_
    refine W.ret (rt1 ?_)
    exact Ret.of (.inr rfl) rfl (res1 rfl rfl) (Fewer.nil _) (.inr trivial) (fun id h => absurd h (Nat.not_lt_zero _)) (.same rfl) ⟨rfl, by rw [hc1]; rfl⟩
  try simp only [td] at hc1
  refine W.skip (nm ?_)
  refine sr ?_
  refine WL.v (Val.assign Ev.const) rfl ?_
  refine WL.norm 32 [(0, _), (3, _)] [] rfl ⟨rfl, rfl, trivial⟩ rfl rfl ?_
  refine wn ?_
  refine sr ?_
  refine WL.v (Val.assign Ev.const) rfl ?_
  refine WL.norm 32 [(0, _), (3, _), (4, _)] [] rfl ⟨rfl, rfl, rfl, trivial⟩ rfl rfl ?_
  refine wn ?_
  refine W.seq ?_
  refine sr ?_
  refine mv rfl rfl ?_
  refine asg rfl rfl ?_
  refine WL.norm 32 [(0, _), (3, _), (4, _), (5, _)] [] rfl ⟨rfl, rfl, rfl, rfl, trivial⟩ rfl rfl ?_
  refine wn ?_
  refine W.norm 32 [(0, _), (3, _), (4, _), (5, _)] [] rfl ⟨rfl, rfl, rfl, rfl, trivial⟩ rfl rfl ?_
  refine W.block (W.loop (fun nn S => ∃ (k : Int) (s : ByteArray), S = ⟨32, [(0, .i n), (3, .f (.v (.string ⟨#[48, 49, 50, 51, 52, 53, 54, 55, 56, 57]⟩))), (4, .f (.v (.string s))), (5, .i k)], [], []⟩ ∧ nn = (k.toNat) ∧ ((k = n ∧ s = ⟨#[]⟩ ∧ 0 < n) ∨ (10 ≤ n ∧ k = n / 10 ∧ s = ⟨#[UInt8.ofNat (48 + n.toNat % 10)]⟩) ∨ (k = 0 ∧ s = decB n))) ⟨n, _, rfl, rfl, by exact .inl ⟨rfl, rfl, by omega⟩⟩ ?_)
  rintro nn S ⟨k, s, rfl, rfl, hd⟩
  refine W.seq ?_
  refine sr ?_
  refine mv rfl rfl ?_
  refine WL.v (Val.neq (tm rfl) Ev.const) rfl ?_
  refine WL.norm 32 [(0, _), (3, _), (4, _), (5, _), (11, _)] [] rfl ⟨rfl, rfl, rfl, rfl, rfl, trivial⟩ rfl rfl ?_
  refine wn ?_
  refine W.condP rfl (fun hc6 => ?_) (fun hc6 => ?_)
  · try simp only [td] at hc6
    refine W.skip (nm ?_)
    refine W.seq ?_
    refine W.block ?_
    refine W.seq ?_
    have hk : 0 < k ∧ k < 100 := by omega
    refine W.region ?_
    refine mv rfl rfl ?_
    refine WL.v (Val.rem (tm rfl) Ev.const (by omega) (IntWalk.rem_in _ _ (by omega))) rfl ?_
    refine asg rfl rfl ?_
    refine WL.norm 32 [(0, _), (3, _), (4, _), (5, _), (6, _)] [] rfl ⟨rfl, rfl, rfl, rfl, rfl, trivial⟩ rfl rfl ?_
    refine wn ?_
    refine W.seq ?_
    refine sr ?_
    refine mv rfl rfl ?_
    refine WL.v (Val.lss (tm rfl) Ev.const) rfl ?_
    refine WL.norm 32 [(0, _), (3, _), (4, _), (5, _), (6, _), (17, _)] [] rfl ⟨rfl, rfl, rfl, rfl, rfl, rfl, trivial⟩ rfl rfl ?_
    refine wn ?_
    refine W.condP rfl (fun hc9 => ?_) (fun hc9 => ?_)
    · try simp only [td] at hc9
      exfalso; omega
    try simp only [td] at hc9
    refine W.skip (nm ?_)
    refine W.region ?_
    refine mv rfl rfl ?_
    refine mv rfl rfl ?_
    refine mv rfl rfl ?_
    refine WL.v (Val.add (tm rfl) Ev.const (IntWalk.i64_in _ (by omega))) rfl ?_
    refine WL.v (Val.sliceSI Tryd.underlying9 (tm rfl) ⟨_, (tm rfl)⟩ ⟨_, (tm rfl)⟩ (by omega) (by omega) (by show _ ≤ (10 : Int); omega)) rfl ?_
    refine mv rfl rfl ?_
    refine WL.v (Val.addS (tm rfl) (tm rfl) (by rw [digit_cut (by omega) (by omega)]; rcases hd with ⟨_, rfl, _⟩ | ⟨_, _, rfl⟩ | ⟨_, _⟩ <;> first | exact Nat.le_of_ble_eq_true rfl | omega)) rfl ?_
    refine asg rfl rfl ?_
    refine WL.norm 32 [(0, _), (3, _), (4, _), (5, _)] [] rfl ⟨rfl, rfl, rfl, rfl, trivial⟩ rfl rfl ?_
    refine WL.nil (nb (nm ?_))
    refine W.region ?_
    refine mv rfl rfl ?_
    refine WL.v (Val.quo (tm rfl) Ev.const (by omega) (IntWalk.i64_quo _ _ (by omega))) rfl ?_
    refine asg rfl rfl ?_
    refine WL.norm 32 [(0, _), (3, _), (4, _), (5, _)] [] rfl ⟨rfl, rfl, rfl, rfl, trivial⟩ rfl rfl ?_
    refine wn ?_
    exact ⟨_, (by omega), k / 10, _, rfl, rfl, dec_step h0 h1 hd hc6⟩
  try simp only [td] at hc6
  refine W.exit (ex1 (ex1 (ex2 (nm ?_))))
  refine W.seq ?_
  refine sr ?_
  refine mv rfl rfl ?_
  refine WL.v (Val.lss (tm rfl) Ev.const) rfl ?_
  refine WL.norm 32 [(4, _), (28, _)] [] rfl ⟨rfl, rfl, trivial⟩ rfl rfl ?_
  refine wn ?_
  refine W.condP rfl (fun hc12 => ?_) (fun hc12 => ?_)
  · try simp only [td] at hc12
    exfalso; omega
  try simp only [td] at hc12
  refine W.skip (nm ?_)
  refine sr ?_
  refine mv rfl rfl ?_
  refine asg rfl rfl ?_
  refine WL.norm 32 [(2, _)] [] rfl ⟨rfl, trivial⟩ rfl rfl ?_
  refine wn ?_
  refine W.ret ?_
  exact Ret.of (.inr rfl) rfl (res1 rfl rfl) (Fewer.nil _) (.inr trivial) (fun id h => absurd h (Nat.not_lt_zero _)) (.same rfl) ⟨rfl, by rw [show s = decB n from by rcases hd with ⟨h, _⟩ | ⟨_, h, _⟩ | ⟨_, h⟩ <;> first | exact h | (exfalso; omega)]⟩
end Go.Aw
namespace Go.Aw
open Go.RowKit Go.Proofs

def canonAt (g : List Nd) (l : List Int) : Nat → (List Int × List Nd × Int)
  | 0 => (List.replicate g.length (-1), [], 0)
  | k + 1 =>
    if (gA g (gA l k)).op = 0 then ((canonAt g l k).1.set (gA l k).toNat k, (canonAt g l k).2.1 ++ [{ gA g (gA l k) with kids := (gA g (gA l k)).kids.map (fun q => gA ((canonAt g l k).1.set (gA l k).toNat k) q), text := ⟨#[118]⟩ ++ decB (canonAt g l k).2.2 }], (canonAt g l k).2.2 + 1)
    else ((canonAt g l k).1.set (gA l k).toNat k, (canonAt g l k).2.1 ++ [{ gA g (gA l k) with kids := (gA g (gA l k)).kids.map (fun q => gA ((canonAt g l k).1.set (gA l k).toNat k) q) }], (canonAt g l k).2.2)
theorem canonAt_ok (g : List Nd) (l : List Int) : ∀ k : Nat, (canonAt g l k).1.length = g.length ∧ (canonAt g l k).2.1.length = k ∧ 0 ≤ (canonAt g l k).2.2 ∧ (canonAt g l k).2.2 ≤ k
  | 0 => by simp [canonAt]
  | k + 1 => by
    obtain ⟨h1, h2, h3, h4⟩ := canonAt_ok g l k
    rw [canonAt]
    split
    · simp only [List.length_set, List.length_append, List.length_cons, List.length_nil]; omega
    · simp only [List.length_set, List.length_append, List.length_cons, List.length_nil]; omega
theorem canonAt_var {g : List Nd} {l : List Int} {k : Int} (h0 : 0 ≤ k) (ho : (gA g (gA l k)).op = 0) : canonAt g l (k + 1).toNat = ((canonAt g l k.toNat).1.set (gA l k).toNat k, (canonAt g l k.toNat).2.1 ++ [{ gA g (gA l k) with kids := (gA g (gA l k)).kids.map (fun q => gA ((canonAt g l k.toNat).1.set (gA l k).toNat k) q), text := ⟨#[118]⟩ ++ decB (canonAt g l k.toNat).2.2 }], (canonAt g l k.toNat).2.2 + 1) := by
  rw [show (k + 1).toNat = k.toNat + 1 from by omega, canonAt, i_nat h0, if_pos ho]
theorem canonAt_other {g : List Nd} {l : List Int} {k : Int} (h0 : 0 ≤ k) (ho : ¬ (gA g (gA l k)).op = 0) : canonAt g l (k + 1).toNat = ((canonAt g l k.toNat).1.set (gA l k).toNat k, (canonAt g l k.toNat).2.1 ++ [{ gA g (gA l k) with kids := (gA g (gA l k)).kids.map (fun q => gA ((canonAt g l k.toNat).1.set (gA l k).toNat k) q) }], (canonAt g l k.toNat).2.2) := by
  rw [show (k + 1).toNat = k.toNat + 1 from by omega, canonAt, i_nat h0, if_neg ho]
def canonL (g : List Nd) (roots : List Int) : List Int := roots.foldl (fun l r => visitF g g.length r l) []
def canonR (g : List Nd) (roots : List Int) : List Nd × List Int × Int :=
  if (∀ r, r ∈ roots → 0 ≤ r ∧ r < (g.length : Int)) then ((canonAt g (canonL g roots) (canonL g roots).length).2.1, (canonAt g (canonL g roots) (canonL g roots).length).1, 0) else ([], [], 7)
theorem decB_size (n : Int) : (decB n).size ≤ 2 := by unfold decB; split <;> exact Nat.le_of_ble_eq_true rfl
theorem rep_step {k : Int} (h0 : 0 ≤ k) : List.replicate k.toNat (-1 : Int) ++ [-1] = List.replicate (k + 1).toNat (-1) := by
  rw [show (k + 1).toNat = k.toNat + 1 from by omega, List.replicate_succ']
theorem oneO_row {gen s : Nat} {xs : List (List FV)} {n : Nd} : OneO (fun r h => h = [some ⟨gen, s, fz xs⟩] ∧ r = Nd.agg n) := by
  rintro r h ⟨rfl, rfl⟩
  exact ⟨_, rfl, rfl, fun q hq => by cases hq; exact rowLo_fz [] _ _ _⟩

-- enthymemeref07.Moved
set_option maxHeartbeats 1000000 in
theorem c_MovedRow (W0 : World) (N : Nat) (n : Nd) (to : List Int) (gen len : Nat) (hlen : len = to.length) (hn : n.kids.length ≤ 1000) (hk : ∀ k, k ∈ n.kids → 0 ≤ k ∧ k < (to.length : Int)) : AC (En W0 N) 28 [n.agg, .row 0 gen 1 0 len] [some ⟨gen, 1, fz (to.map encI)⟩] (fun r h => h = [some ⟨gen, 1, fz (to.map encI)⟩] ∧ r = Nd.agg { n with kids := n.kids.map fun k => gA to k }) := by
  refine AC.enter Tryd.func28 rfl Tryd.ntmps28 (bl rfl) fun X => ?_
  refine sr ?_
  refine WL.stp rfl (Stp.box (tm rfl) rfl rfl) ?_
  refine WL.stp rfl (Stp.alloc zz35 rfl rfl) ?_
  refine WL.norm 28 [(1, _), (2, _), (4, _)] [some ⟨_, _, _⟩, some ⟨_, _, [[_, _, _, _, _, _, _, _, _]]⟩, some ⟨_, _, [[_, _, _, _, _, _, _, _, _]]⟩] rfl ⟨rfl, rfl, rfl, trivial⟩ rfl rfl ?_
  refine wn ?_
  refine sr ?_
  refine WL.v (Val.assign Ev.const) rfl ?_
  refine WL.norm 28 [(1, _), (2, _), (4, _), (5, _)] [some ⟨_, _, _⟩, some ⟨_, _, [[_, _, _, _, _, _, _, _, _]]⟩, some ⟨_, _, [[_, _, _, _, _, _, _, _, _]]⟩] rfl ⟨rfl, rfl, rfl, rfl, trivial⟩ rfl rfl ?_
  refine wn ?_
  refine W.seq ?_
  refine sr ?_
  refine WL.v (Val.assign Ev.const) rfl ?_
  refine WL.norm 28 [(1, _), (2, _), (4, _), (5, _), (6, _)] [some ⟨_, _, _⟩, some ⟨_, _, [[_, _, _, _, _, _, _, _, _]]⟩, some ⟨_, _, [[_, _, _, _, _, _, _, _, _]]⟩] rfl ⟨rfl, rfl, rfl, rfl, rfl, trivial⟩ rfl rfl ?_
  refine wn ?_
  refine W.reserve ?_
  refine W.norm 28 [(1, _), (2, _), (4, _), (5, _), (6, _)] [some ⟨_, _, _⟩, some ⟨_, _, [[_, _, _, _, _, _, _, _, _]]⟩, some ⟨_, _, [[_, _, _, _, _, _, _, _, _]]⟩, _] rfl ⟨rfl, rfl, rfl, rfl, rfl, trivial⟩ rfl rfl ?_
  refine W.block (W.loop (fun nn S => ∃ (k : Int) (v : AV) (o : Option Row), S = ⟨28, [(1, .row 0 gen 1 0 len), (2, .ptr 1 0 9 0 0), (4, .ptr 2 0 9 0 0), (5, v), (6, .i k)], [some ⟨gen, 1, fz (to.map encI)⟩, some ⟨0, 9, [n.cells.map .f]⟩, some ⟨0, 9, [[.i 0, .nil, .i 0, .i 0, .u 0, .s ByteArray.empty, .i 0, .i 0, .i 0]]⟩, o], []⟩ ∧ nn = ((n.kids.length - k).toNat) ∧ (0 ≤ k) ∧ (k ≤ n.kids.length) ∧ (Acc 3 1 (fz (((n.kids.take k.toNat).map fun k => gA to k).map encI)) v o)) ⟨0, _, _, rfl, rfl, by omega, by omega, Acc.zero⟩ ?_)
  rintro nn S ⟨k, v, o, rfl, rfl, hk0, hk1, ha⟩
  refine W.seq ?_
  refine sr ?_
  refine mv rfl rfl ?_
  refine WL.v (Val.fal (off := 1) Tryd.underlying35 rfl rfl zs22 (tm rfl)) rfl ?_
  refine WL.v (Val.loadLive Tryd.underlying22 rfl (tm rfl) rfl rfl rfl rfl rfl) rfl ?_
  refine WL.v (Val.ln (enc := encI) Tryd.underlying22 (tm rfl)) rfl ?_
  refine WL.v (Val.lss (tm rfl) (tm rfl)) rfl ?_
  refine WL.norm 28 [(1, _), (2, _), (4, _), (5, _), (6, _), (11, _)] [some ⟨_, _, _⟩, some ⟨_, _, [[_, _, _, _, _, _, _, _, _]]⟩, some ⟨_, _, [[_, _, _, _, _, _, _, _, _]]⟩, _] rfl ⟨rfl, rfl, rfl, rfl, rfl, rfl, trivial⟩ rfl rfl ?_
  refine wn ?_
  refine W.condP rfl (fun hc3 => ?_) (fun hc3 => ?_)
  · try simp only [td] at hc3
    refine W.skip (nm ?_)
    refine W.seq ?_
    refine W.block ?_
    have hkk := hk _ (gA_mem hk0 hc3)
    refine W.region ?_
    refine mv rfl rfl ?_
    refine mv rfl rfl ?_
    refine WL.v (Val.fal (off := 1) Tryd.underlying35 rfl rfl zs22 (tm rfl)) rfl ?_
    refine WL.v (Val.loadLive Tryd.underlying22 rfl (tm rfl) rfl rfl rfl rfl rfl) rfl ?_
    refine mv rfl rfl ?_
    refine WL.v (Val.ix (enc := encI) Tryd.underlying22 zs3 (tm rfl) (tm rfl) (by omega) (gA_at (by omega) (by omega))) rfl ?_
    refine WL.v (Val.load Tryd.underlying3 rfl (tm rfl)) rfl ?_
    refine WL.v (Val.indexAddrLive Tryd.underlying22 zs3 (tm rfl) (tm rfl) (by omega) (by omega)) rfl ?_
    refine WL.v (Val.loadLive Tryd.underlying3 rfl (tm rfl) rfl rfl rfl (fz_at (by omega) (by omega)) rfl) rfl ?_
    refine WL.stp rfl (Stp.buildFrozen (xs := [_]) (fs := ([gA to (gA n.kids k)] : List Int).map encI) Tryd.underlying22 zs3 zz3 rfl rfl (evc (tm rfl) evn) fitL (bl rfl) rfl rfl) ?_
    refine WL.appE (enc := encI) ap22_22 (tm rfl) rfl ha (ArgE.lst (enc := encI) (tm rfl) (by intro x; rfl)) (by simp only [List.length_map, List.length_take, List.length_cons, List.length_nil]; omega) rfl ?_
    intro v' o' ha'
    refine asg rfl rfl ?_
    refine WL.norm 28 [(1, _), (2, _), (4, _), (5, _), (6, _)] [some ⟨_, _, _⟩, some ⟨_, _, [[_, _, _, _, _, _, _, _, _]]⟩, some ⟨_, _, [[_, _, _, _, _, _, _, _, _]]⟩, _] rfl ⟨rfl, rfl, rfl, rfl, rfl, trivial⟩ rfl rfl ?_
    refine WL.nil (nb (nm ?_))
    refine W.region ?_
    refine mv rfl rfl ?_
    refine WL.v (Val.add (tm rfl) Ev.const (IntWalk.i64_in _ (by omega))) rfl ?_
    refine asg rfl rfl ?_
    refine WL.norm 28 [(1, _), (2, _), (4, _), (5, _), (6, _)] [some ⟨_, _, _⟩, some ⟨_, _, [[_, _, _, _, _, _, _, _, _]]⟩, some ⟨_, _, [[_, _, _, _, _, _, _, _, _]]⟩, _] rfl ⟨rfl, rfl, rfl, rfl, rfl, trivial⟩ rfl rfl ?_
    refine wn ?_
    exact ⟨_, by omega, k + 1, _, _, rfl, rfl, by omega, by omega, by rw [← moved_step hk0 hc3]; exact ha'⟩
  try simp only [td] at hc3
  refine W.exit (ex1 (ex1 (ex2 (nm ?_))))
  refine W.seq ?_
  have hk2 : n.kids.take k.toNat = n.kids := List.take_of_length_le (by omega)
  rw [hk2] at ha
  refine W.cut (env := [(2, _), (4, _), (5, _)]) (h' := [some ⟨_, _, _⟩, some ⟨_, _, [[_, _, _, _, _, _, _, _, _]]⟩, some ⟨_, _, [[_, _, _, _, _, _, _, _, _]]⟩]) (Fewer.pre _ rfl) (.inr (HLo.fz (HLo.box (lo1 (lo1 (lo1 (lo1 (lo1 (lo1 (lo1 (lo1 (lo1 lo0))))))))) (HLo.box (lo1 (lo1 (lo1 (lo1 (lo1 (lo1 (lo1 (lo1 (lo1 lo0))))))))) HLo.nil)))) (fun id h => by have h0 : id = 0 := Nat.lt_one_iff.1 h; subst h0; exact .inl rfl) ⟨⟨_, rfl, (.same rfl)⟩, ⟨_, rfl, (.same rfl)⟩, ⟨_, rfl, (Acc.thaw ha rfl rfl (encL (by intro x; rfl)))⟩, trivial⟩ ?_
  refine W.region ?_
  refine mv rfl rfl ?_
  refine WL.v (Val.fal (off := 1) Tryd.underlying35 rfl rfl zs22 (tm rfl)) rfl ?_
  refine WL.stp rfl (Stp.st (tm rfl) (tm rfl) zs22 rfl rfl rfl rfl rfl rfl rfl rfl) ?_
  refine WL.norm 28 [(2, _), (4, _)] [some ⟨_, _, _⟩, some ⟨_, _, [[_, _, _, _, _, _, _, _, _]]⟩, some ⟨_, _, [[_, _, _, _, _, _, _, _, _]]⟩] rfl ⟨rfl, rfl, trivial⟩ rfl rfl ?_
  refine wn ?_
  refine sr ?_
  refine WL.v (Val.loadLiveAgg Tryd.underlying35 rfl zs35 (tm rfl) rfl rfl rfl rfl (bl rfl)) rfl ?_
  refine WL.stp rfl (Stp.st (tm rfl) (tm rfl) zs35 rfl rfl rfl rfl rfl rfl rfl rfl) ?_
  refine WL.norm 28 [(4, _)] [some ⟨_, _, _⟩, some ⟨_, _, [[_, _, _, _, _, _, _, _, _]]⟩, some ⟨_, _, [[_, _, _, _, _, _, _, _, _]]⟩] rfl ⟨rfl, trivial⟩ rfl rfl ?_
  refine wn ?_
  refine W.ret ?_
  exact Ret.of (h' := [some ⟨gen, 1, fz (to.map encI)⟩]) (.inr rfl) rfl (resCell rfl Tryd.underlying35 rfl zs35 rfl rfl rfl rfl rfl rfl) (Fewer.pre _ rfl) (.inr (HLo.fz HLo.nil)) (fun id h => by have h0 : id = 0 := Nat.lt_one_iff.1 h; subst h0; exact .inl rfl) (.same rfl) ⟨rfl, rfl⟩
-- enthymemeref13.Canon
set_option maxHeartbeats 1000000 in
theorem c_CanonR (W0 : World) (N : Nat) (g : List Nd) (hg : WFG g) (h99 : g.length ≤ 99) (roots : List Int) (hr : roots.length ≤ 1000000) : AC (En W0 N) 9 [.f (.nodes g), .f (.ints roots)] [] (fun r h => h = [] ∧ r = .tup [.f (.nodes (canonR g roots).1), .f (.ints (canonR g roots).2.1), .i (canonR g roots).2.2]) := by
  refine AC.enter Tryd.func9 rfl Tryd.ntmps9 (bl rfl) fun X => ?_
  have hgl := hg.len
  refine sr ?_
  refine WL.v (Val.assign Ev.const) rfl ?_
  refine WL.v (Val.assign Ev.const) rfl ?_
  refine WL.v (Val.assign Ev.const) rfl ?_
  refine WL.norm 88 [(0, _), (1, _)] [] rfl ⟨rfl, rfl, trivial⟩ rfl rfl ?_
  refine wn ?_
  refine sr ?_
  refine WL.v (Val.assign Ev.const) rfl ?_
  refine WL.norm 88 [(0, _), (1, _), (7, _)] [] rfl ⟨rfl, rfl, rfl, trivial⟩ rfl rfl ?_
  refine wn ?_
  refine W.seq ?_
  refine sr ?_
  refine WL.v (Val.assign Ev.const) rfl ?_
  refine WL.norm 88 [(0, _), (1, _), (7, _), (8, _)] [] rfl ⟨rfl, rfl, rfl, rfl, trivial⟩ rfl rfl ?_
  refine wn ?_
  refine W.reserve ?_
  refine W.norm 88 [(0, _), (1, _), (7, _), (8, _)] [_] rfl ⟨rfl, rfl, rfl, rfl, trivial⟩ rfl rfl ?_
  refine W.block (W.loop (fun nn S => ∃ (i : Int) (l : List Int) (v : AV) (o : Option Row), S = ⟨88, [(0, .f (.nodes g)), (1, .f (.ints roots)), (7, v), (8, .i i)], [o], []⟩ ∧ nn = ((roots.length - i).toNat) ∧ (0 ≤ i) ∧ (i ≤ roots.length) ∧ (∀ j : Nat, j < i.toNat → ∀ x, roots[j]? = some x → 0 ≤ x ∧ x < (g.length : Int)) ∧ (l = (roots.take i.toNat).foldl (fun l r => visitF g g.length r l) []) ∧ (Acc 0 1 (fz (l.map encI)) v o) ∧ (VOk g l)) ⟨0, [], _, _, rfl, rfl, by omega, by omega, fun j hj => absurd hj (by simp), rfl, Acc.zero, ⟨by simp, by simp⟩⟩ ?_)
  rintro nn S ⟨i, l, v, o, rfl, rfl, hi0, hi1, hin, hl, ha, hok⟩
  refine W.seq ?_
  refine sr ?_
  refine mv rfl rfl ?_
  refine mv rfl rfl ?_
  refine WL.v (Val.ln (enc := encI) Tryd.underlying22 (tm rfl)) rfl ?_
  refine WL.v (Val.lss (tm rfl) (tm rfl)) rfl ?_
  refine WL.norm 88 [(0, _), (1, _), (7, _), (8, _), (18, _)] [_] rfl ⟨rfl, rfl, rfl, rfl, rfl, trivial⟩ rfl rfl ?_
  refine wn ?_
  refine W.condP rfl (fun hc3 => ?_) (fun hc3 => ?_)
  · try simp only [td] at hc3
    refine W.skip (nm ?_)
    refine W.seq ?_
    refine W.block ?_
    refine W.seq ?_
    refine sr ?_
    refine mv rfl rfl ?_
    refine mv rfl rfl ?_
    refine WL.v (Val.ix (enc := encI) Tryd.underlying22 zs3 (tm rfl) (tm rfl) (by omega) (gA_at (by omega) (by omega))) rfl ?_
    refine WL.v (Val.load Tryd.underlying3 rfl (tm rfl)) rfl ?_
    refine WL.v (Val.lss (tm rfl) Ev.const) rfl ?_
    refine mv rfl rfl ?_
    refine WL.g (Grd.f rfl rfl rfl) (fun hG => Val.move (tm rfl)) rfl ?_
    refine WL.g (Grd.f rfl rfl rfl) (fun hG => Val.move (tm rfl)) rfl ?_
    refine WL.g (Grd.f rfl rfl rfl) (fun hG => Val.ix (enc := encI) Tryd.underlying22 zs3 (Ev.opt rfl hG) (Ev.opt rfl hG) (by try simp only [td] at hG; omega) (gA_at (by try simp only [td] at hG; omega) (by try simp only [td] at hG; omega))) rfl ?_
    refine WL.g (Grd.f rfl rfl rfl) (fun hG => Val.load Tryd.underlying3 rfl (Ev.opt rfl hG)) rfl ?_
    refine WL.g (Grd.f rfl rfl rfl) (fun hG => Val.move (tm rfl)) rfl ?_
    refine WL.g (Grd.f rfl rfl rfl) (fun hG => Val.ln (enc := Nd.cells) Tryd.underlying23 (Ev.opt rfl hG)) rfl ?_
    refine WL.g (Grd.f rfl rfl rfl) (fun hG => Val.geq (Ev.opt rfl hG) (Ev.opt rfl hG)) rfl ?_
    refine WL.v (Val.or (tm rfl) (fun hb => Ev.opt rfl (nt hb))) rfl ?_
    refine WL.norm 88 [(0, _), (1, _), (7, _), (8, _), (34, _)] [_] rfl ⟨rfl, rfl, rfl, rfl, rfl, trivial⟩ rfl rfl ?_
    refine wn ?_
    refine W.condP rfl (fun hc5 => ?_) (fun hc5 => ?_)
    · try simp only [td] at hc5
      refine sr ?_
      refine WL.v (Val.assign Ev.const) rfl ?_
      refine WL.v (Val.assign Ev.const) rfl ?_
      refine WL.v (Val.assign Ev.const) rfl ?_
      refine WL.norm 88 [(4, _), (5, _), (6, _)] [_] rfl ⟨rfl, rfl, rfl, trivial⟩ rfl rfl ?_
      refine wn ?_
      refine W.ret (rt1 (rt2 (rt1 (rt1 (rt2 (rt1 ?_))))))
      exact Ret.of (.inr rfl) rfl (res3 rfl rfl rfl rfl) (Fewer.nil _) (.inr trivial) (fun id h => absurd h (Nat.not_lt_zero _)) (.tup .nil (.tup .nil (.tup (.same rfl) .tup0))) ⟨rfl, by rw [canonR, if_neg (fun h => by have := h _ (gA_mem (l := roots) hi0 hc3); omega)]; rfl⟩
    try simp only [td] at hc5
    refine W.skip (nm ?_)
    have hri : 0 ≤ gA roots i ∧ gA roots i < g.length := by omega
    have hok2 := (visitF_ok hg g.length (gA roots i) l (by omega) hri.1 hri.2 hok).1
    refine W.region ?_
    refine mv rfl rfl ?_
    refine mv rfl rfl ?_
    refine mv rfl rfl ?_
    refine WL.v (Val.ix (enc := encI) Tryd.underlying22 zs3 (tm rfl) (tm rfl) (by omega) (gA_at (by omega) (by omega))) rfl ?_
    refine WL.v (Val.load Tryd.underlying3 rfl (tm rfl)) rfl ?_
    refine mv rfl rfl ?_
    obtain ⟨v0, ha0, hv0⟩ := Acc.un (j := 0) ha
    refine WL.callFO (j := 0) (args := [.f (.nodes g), .i (gA roots i), v0]) ca27 (evc (tm rfl) (evc (tm rfl) (evc (tm rfl) evn))) (by rw [hv0]; rfl) (lo1 (lo1 (loA ha0 rfl lo0))) rfl rfl (oLo_acc ha0) (c_visit W0 N g hg g.length _ l v0 _ (by omega) hri.1 hri.2 hok ha0) oneO_acc ?_
    rintro r_ o2 ⟨_, he, ha2⟩
    cases he
    refine asg rfl rfl ?_
    refine WL.norm 88 [(0, _), (1, _), (7, _), (8, _)] [_] rfl ⟨rfl, rfl, rfl, rfl, trivial⟩ rfl rfl ?_
    refine WL.nil (nb (nm ?_))
    refine W.region ?_
    refine mv rfl rfl ?_
    refine WL.v (Val.add (tm rfl) Ev.const (IntWalk.i64_in _ (by omega))) rfl ?_
    refine asg rfl rfl ?_
    refine WL.norm 88 [(0, _), (1, _), (7, _), (8, _)] [_] rfl ⟨rfl, rfl, rfl, rfl, trivial⟩ rfl rfl ?_
    refine wn ?_
    exact ⟨_, by omega, i + 1, _, _, _, rfl, rfl, by omega, by omega, kids_step hi0 (by omega) hin (by omega), by rw [hl]; exact fold_step (f := fun l r => visitF g g.length r l) hi0 hc3, Acc.ren0 ha2, hok2⟩
  try simp only [td] at hc3
  refine W.exit (ex1 (ex1 (ex2 (nm ?_))))
  refine W.seq ?_
  have hall := kids_end hi0 (by omega) hin
  have hlL : l = canonL g roots := by rw [hl, List.take_of_length_le (by omega)]; rfl
  have hll := hok.len
  refine W.region ?_
  refine WL.v (Val.assign Ev.const) rfl ?_
  refine WL.norm 88 [(0, _), (7, _), (9, _)] [_] rfl ⟨rfl, rfl, rfl, trivial⟩ rfl rfl ?_
  refine wn ?_
  refine W.seq ?_
  refine sr ?_
  refine WL.v (Val.assign Ev.const) rfl ?_
  refine WL.norm 88 [(0, _), (7, _), (9, _), (10, _)] [_] rfl ⟨rfl, rfl, rfl, rfl, trivial⟩ rfl rfl ?_
  refine wn ?_
  refine W.reserve ?_
  refine W.norm 88 [(0, _), (7, _), (9, _), (10, _)] [_, _] rfl ⟨rfl, rfl, rfl, rfl, trivial⟩ rfl rfl ?_
  refine W.block (W.loop (fun nn S => ∃ (k : Int) (v2 : AV) (o2 : Option Row), S = ⟨88, [(0, .f (.nodes g)), (7, v), (9, v2), (10, .i k)], [o, o2], []⟩ ∧ nn = ((g.length - k).toNat) ∧ (0 ≤ k) ∧ (k ≤ g.length) ∧ (Acc 1 1 (fz ((List.replicate k.toNat (-1 : Int)).map encI)) v2 o2)) ⟨0, _, _, rfl, rfl, by omega, by omega, Acc.zero⟩ ?_)
  rintro nn S ⟨k, v2, o2, rfl, rfl, hk0, hk1, hb⟩
  refine W.seq ?_
  refine sr ?_
  refine mv rfl rfl ?_
  refine mv rfl rfl ?_
  refine WL.v (Val.ln (enc := Nd.cells) Tryd.underlying23 (tm rfl)) rfl ?_
  refine WL.v (Val.lss (tm rfl) (tm rfl)) rfl ?_
  refine WL.norm 88 [(0, _), (7, _), (9, _), (10, _), (45, _)] [_, _] rfl ⟨rfl, rfl, rfl, rfl, rfl, trivial⟩ rfl rfl ?_
  refine wn ?_
  refine W.condP rfl (fun hc10 => ?_) (fun hc10 => ?_)
  · try simp only [td] at hc10
    refine W.skip (nm ?_)
    refine W.seq ?_
    refine W.block ?_
    refine W.region ?_
    refine mv rfl rfl ?_
    refine WL.stp rfl (Stp.buildFrozen (xs := [_]) (fs := ([-1] : List Int).map encI) Tryd.underlying22 zs3 zz3 rfl rfl (evc Ev.const evn) fitL (bl rfl) rfl rfl) ?_
    refine WL.appE (enc := encI) ap22_22 (tm rfl) rfl hb (ArgE.lst (enc := encI) (tm rfl) (by intro x; rfl)) (by simp only [List.length_replicate, List.length_cons, List.length_nil]; omega) rfl ?_
    intro v2' o2' hb'
    refine asg rfl rfl ?_
    refine WL.norm 88 [(0, _), (7, _), (9, _), (10, _)] [_, _] rfl ⟨rfl, rfl, rfl, rfl, trivial⟩ rfl rfl ?_
    refine WL.nil (nb (nm ?_))
    refine W.region ?_
    refine mv rfl rfl ?_
    refine WL.v (Val.add (tm rfl) Ev.const (IntWalk.i64_in _ (by omega))) rfl ?_
    refine asg rfl rfl ?_
    refine WL.norm 88 [(0, _), (7, _), (9, _), (10, _)] [_, _] rfl ⟨rfl, rfl, rfl, rfl, trivial⟩ rfl rfl ?_
    refine wn ?_
    exact ⟨_, by omega, k + 1, _, _, rfl, rfl, by omega, by omega, by rw [← rep_step hk0]; exact hb'⟩
  try simp only [td] at hc10
  refine W.exit (ex1 (ex1 (ex2 (nm ?_))))
  refine W.seq ?_
  have hkg : k.toNat = g.length := by omega
  have hb0 : Acc 1 1 (fz ((canonAt g l 0).1.map encI)) v2 o2 := by rw [hkg] at hb; exact hb
  refine W.region ?_
  refine WL.v (Val.assign Ev.const) rfl ?_
  refine WL.norm 88 [(0, _), (7, _), (9, _), (11, _)] [_, _] rfl ⟨rfl, rfl, rfl, rfl, trivial⟩ rfl rfl ?_
  refine wn ?_
  refine sr ?_
  refine WL.v (Val.assign Ev.const) rfl ?_
  refine WL.norm 88 [(0, _), (7, _), (9, _), (11, _), (12, _)] [_, _] rfl ⟨rfl, rfl, rfl, rfl, rfl, trivial⟩ rfl rfl ?_
  refine wn ?_
  refine W.seq ?_
  refine sr ?_
  refine WL.v (Val.assign Ev.const) rfl ?_
  refine WL.norm 88 [(0, _), (7, _), (9, _), (11, _), (12, _), (13, _)] [_, _] rfl ⟨rfl, rfl, rfl, rfl, rfl, rfl, trivial⟩ rfl rfl ?_
  refine wn ?_
  refine W.reserve ?_
  refine W.norm 88 [(0, _), (7, _), (9, _), (11, _), (12, _), (13, _)] [_, _, _] rfl ⟨rfl, rfl, rfl, rfl, rfl, rfl, trivial⟩ rfl rfl ?_
  refine W.block (W.loop (fun nn S => ∃ (k w : Int) (v2 v3 : AV) (o2 o3 : Option Row), S = ⟨88, [(0, .f (.nodes g)), (7, v), (9, v2), (11, v3), (12, .i w), (13, .i k)], [o, o2, o3], []⟩ ∧ nn = ((l.length - k).toNat) ∧ (0 ≤ k) ∧ (k ≤ l.length) ∧ (w = (canonAt g l k.toNat).2.2) ∧ (Acc 1 1 (fz ((canonAt g l k.toNat).1.map encI)) v2 o2) ∧ (Acc 2 9 (fz ((canonAt g l k.toNat).2.1.map Nd.cells)) v3 o3)) ⟨0, 0, _, _, _, _, rfl, rfl, by omega, by omega, rfl, hb0, Acc.zero⟩ ?_)
  rintro nn S ⟨k, w, v2, v3, o2, o3, rfl, rfl, hk0, hk1, hw, hb, hc⟩
  refine W.seq ?_
  refine sr ?_
  refine mv rfl rfl ?_
  refine mv rfl rfl ?_
  refine WL.v (Val.lenA Tryd.underlying22 (tm rfl) ha) rfl ?_
  refine WL.v (Val.lss (tm rfl) (tm rfl)) rfl ?_
  refine WL.norm 88 [(0, _), (7, _), (9, _), (11, _), (12, _), (13, _), (54, _)] [_, _, _] rfl ⟨rfl, rfl, rfl, rfl, rfl, rfl, rfl, trivial⟩ rfl rfl ?_
  refine wn ?_
  refine W.condP rfl (fun hc16 => ?_) (fun hc16 => ?_)
  · try simp only [td] at hc16
    refine W.skip (nm ?_)
    refine W.seq ?_
    refine W.block ?_
    refine W.seq ?_
    obtain ⟨hc1, hc2', hc3', hc4⟩ := canonAt_ok g l k.toNat
    obtain ⟨gen1, rfl, rfl⟩ := Acc.some ha (by omega)
    have hx := hok.2 _ (gA_mem (l := l) hk0 hc16)
    obtain ⟨gen2, rfl, rfl⟩ := Acc.some hb (by omega)
    have hfew := hg.few hx.1 hx.2
    have hkin : ∀ q, q ∈ (gA g (gA l k)).kids → 0 ≤ q ∧ q < (((canonAt g l k.toNat).1.set (gA l k).toNat k).length : Int) := fun q hq => by have := (hg.node _ _ (gA_at hx.1 hx.2)).2 q hq; rw [List.length_set, hc1]; omega
    refine W.region ?_
    refine mv rfl rfl ?_
    refine mv rfl rfl ?_
    refine mv rfl rfl ?_
    refine WL.v (Val.indexAddrLive Tryd.underlying22 zs3 (tm rfl) (tm rfl) (by omega) (by omega)) rfl ?_
    refine WL.v (Val.loadLive Tryd.underlying3 rfl (tm rfl) rfl rfl rfl (fz_at (by omega) (by omega)) rfl) rfl ?_
    refine mv rfl rfl ?_
    refine WL.v (Val.indexAddrLive Tryd.underlying22 zs3 (tm rfl) (tm rfl) (by omega) (by rw [hc1]; omega)) rfl ?_
    refine WL.stp rfl (Stp.storeI zs3 (tm rfl) (tm rfl) rfl hx.1 (by rw [hc1]; omega) rfl) ?_
    refine WL.norm 88 [(0, _), (7, _), (9, _), (11, _), (12, _), (13, _)] [some ⟨_, _, _⟩, some ⟨_, _, _⟩, _] rfl ⟨rfl, rfl, rfl, rfl, rfl, rfl, trivial⟩ rfl rfl ?_
    refine wn ?_
    refine sr ?_
    refine mv rfl rfl ?_
    refine mv rfl rfl ?_
    refine mv rfl rfl ?_
    refine WL.v (Val.indexAddrLive Tryd.underlying22 zs3 (tm rfl) (tm rfl) (by omega) (by omega)) rfl ?_
    refine WL.v (Val.loadLive Tryd.underlying3 rfl (tm rfl) rfl rfl rfl (fz_at (by omega) (by omega)) rfl) rfl ?_
    refine WL.v (Val.ix (enc := Nd.cells) Tryd.underlying23 zs35 (tm rfl) (tm rfl) (by omega) (gA_at (by omega) (by omega))) rfl ?_
    refine WL.v (Val.loadAgg Tryd.underlying35 rfl zs35 (tm rfl) (bl rfl)) rfl ?_
    refine mv rfl rfl ?_
    refine WL.callFO (j := 1) (args := [Nd.agg (gA g (gA l k)), .row 0 gen2 1 0 (canonAt g l k.toNat).1.length]) ca28 (evc (tm rfl) (evc (tm rfl) evn)) rfl (lo2 rfl (lo4 rfl lo0)) rfl rfl (fun q hq => by cases hq; exact rowLo_fz [] _ _ _) (c_MovedRow W0 N (gA g (gA l k)) _ gen2 _ (by rw [List.length_set]) hfew hkin) oneO_row ?_
    rintro r_ o_ ⟨he, rfl⟩
    cases he
    refine WL.stp rfl (Stp.alloc zz35 rfl rfl) ?_
    refine WL.stp rfl (Stp.st (tm rfl) (tm rfl) zs35 rfl rfl rfl rfl rfl rfl rfl rfl) ?_
    refine WL.norm 88 [(0, _), (7, _), (9, _), (11, _), (12, _), (13, _), (14, _)] [some ⟨_, _, _⟩, some ⟨_, _, _⟩, _, some ⟨_, _, [[_, _, _, _, _, _, _, _, _]]⟩] rfl ⟨rfl, rfl, rfl, rfl, rfl, rfl, rfl, trivial⟩ rfl rfl ?_
    refine wn ?_
    refine W.seq ?_
    refine sr ?_
    refine WL.v (Val.fal (off := 0) Tryd.underlying35 rfl rfl zs3 (tm rfl)) rfl ?_
    refine WL.v (Val.loadLive Tryd.underlying3 rfl (tm rfl) rfl rfl rfl rfl rfl) rfl ?_
    refine WL.v (Val.eql (tm rfl) Ev.const) rfl ?_
    refine WL.norm 88 [(0, _), (7, _), (9, _), (11, _), (12, _), (13, _), (14, _), (75, _)] [some ⟨_, _, _⟩, some ⟨_, _, _⟩, _, some ⟨_, _, [[_, _, _, _, _, _, _, _, _]]⟩] rfl ⟨rfl, rfl, rfl, rfl, rfl, rfl, rfl, rfl, trivial⟩ rfl rfl ?_
    refine wn ?_
    refine W.condP rfl (fun hc20 => ?_) (fun hc20 => ?_)
    · try simp only [td] at hc20
      have hstep := canonAt_var hk0 hc20
      rw [← hw] at hstep
      refine sr ?_
      refine mv rfl rfl ?_
      refine WL.callV ca29 (evc (tm rfl) evn) (lo1 lo0) rfl (c_Decimal W0 N w (by omega) (by omega)) ?_
      rintro _ rfl
      refine WL.v (Val.addS Ev.const (tm rfl) (by have := decB_size w; show 1 + _ ≤ _; omega)) rfl ?_
      refine WL.v (Val.fal (off := 5) Tryd.underlying35 rfl rfl zs9 (tm rfl)) rfl ?_
      refine WL.stp rfl (Stp.st (tm rfl) (tm rfl) zs9 rfl rfl rfl rfl rfl rfl rfl rfl) ?_
      refine WL.norm 88 [(0, _), (7, _), (9, _), (11, _), (12, _), (13, _), (14, _)] [some ⟨_, _, _⟩, some ⟨_, _, _⟩, _, some ⟨_, _, [[_, _, _, _, _, _, _, _, _]]⟩] rfl ⟨rfl, rfl, rfl, rfl, rfl, rfl, rfl, trivial⟩ rfl rfl ?_
      refine wn ?_
      refine W.region ?_
      refine mv rfl rfl ?_
      refine WL.v (Val.add (tm rfl) Ev.const (IntWalk.i64_in _ (by omega))) rfl ?_
      refine asg rfl rfl ?_
      refine WL.norm 88 [(0, _), (7, _), (9, _), (11, _), (12, _), (13, _), (14, _)] [some ⟨_, _, _⟩, some ⟨_, _, _⟩, _, some ⟨_, _, [[_, _, _, _, _, _, _, _, _]]⟩] rfl ⟨rfl, rfl, rfl, rfl, rfl, rfl, rfl, trivial⟩ rfl rfl ?_
      refine wn ?_
      refine W.region ?_
      refine mv rfl rfl ?_
      refine WL.v (Val.loadLiveAgg Tryd.underlying35 rfl zs35 (tm rfl) rfl rfl rfl rfl (bl rfl)) rfl ?_
      refine WL.stp rfl (Stp.buildFrozen (xs := [_]) (fs := ([{ gA g (gA l k) with kids := (gA g (gA l k)).kids.map (fun q => gA ((canonAt g l k.toNat).1.set (gA l k).toNat k) q), text := ⟨#[118]⟩ ++ decB w }] : List Nd).map Nd.cells) Tryd.underlying23 zs35 zz35 rfl rfl (evc (tm rfl) evn) fitL (bl rfl) rfl rfl) ?_
      refine WL.appE (enc := Nd.cells) ap23_23 (tm rfl) rfl hc (ArgE.lst (enc := Nd.cells) (tm rfl) (by intro x; rfl)) (by rw [hc2']; simp only [List.length_cons, List.length_nil]; omega) rfl ?_
      intro v3' o3' hc'
      refine asg rfl rfl ?_
      refine WL.norm 88 [(0, _), (7, _), (9, _), (11, _), (12, _), (13, _)] [some ⟨_, _, _⟩, some ⟨_, _, _⟩, _, some ⟨_, _, [[_, _, _, _, _, _, _, _, _]]⟩] rfl ⟨rfl, rfl, rfl, rfl, rfl, rfl, trivial⟩ rfl rfl ?_
      refine WL.nil (nb (nm ?_))
      refine W.region ?_
      refine mv rfl rfl ?_
      refine WL.v (Val.add (tm rfl) Ev.const (IntWalk.i64_in _ (by omega))) rfl ?_
      refine asg rfl rfl ?_
      refine WL.cut (env := [(0, _), (7, _), (9, _), (11, _), (12, _), (13, _)]) (h' := [some ⟨_, _, _⟩, some ⟨_, _, _⟩, _]) (Fewer.pre _ rfl) (.inr (HLo.fz (HLo.fz (HLo.o (oLo_acc (by assumption)) HLo.nil)))) (fun id h => absurd h (Nat.not_lt_zero _)) ⟨⟨_, rfl, (.same rfl)⟩, ⟨_, rfl, (.same rfl)⟩, ⟨_, rfl, (.same rfl)⟩, ⟨_, rfl, (.same (lo_acc hc' rfl))⟩, ⟨_, rfl, (.same rfl)⟩, ⟨_, rfl, (.same rfl)⟩, trivial⟩ ?_
      refine wn ?_
      exact ⟨_, by omega, k + 1, _, _, _, _, _, rfl, rfl, by omega, by omega, by rw [hstep], by rw [hstep]; exact Acc.row (by simp [fz]), by rw [hstep]; exact hc'⟩
    try simp only [td] at hc20
    have hstep := canonAt_other hk0 hc20
    rw [← hw] at hstep
    refine W.skip (nm ?_)
    refine W.region ?_
    refine mv rfl rfl ?_
    refine WL.v (Val.loadLiveAgg Tryd.underlying35 rfl zs35 (tm rfl) rfl rfl rfl rfl (bl rfl)) rfl ?_
    refine WL.stp rfl (Stp.buildFrozen (xs := [_]) (fs := ([{ gA g (gA l k) with kids := (gA g (gA l k)).kids.map (fun q => gA ((canonAt g l k.toNat).1.set (gA l k).toNat k) q) }] : List Nd).map Nd.cells) Tryd.underlying23 zs35 zz35 rfl rfl (evc (tm rfl) evn) fitL (bl rfl) rfl rfl) ?_
    refine WL.appE (enc := Nd.cells) ap23_23 (tm rfl) rfl hc (ArgE.lst (enc := Nd.cells) (tm rfl) (by intro x; rfl)) (by rw [hc2']; simp only [List.length_cons, List.length_nil]; omega) rfl ?_
    intro v3' o3' hc'
    refine asg rfl rfl ?_
    refine WL.norm 88 [(0, _), (7, _), (9, _), (11, _), (12, _), (13, _)] [some ⟨_, _, _⟩, some ⟨_, _, _⟩, _, some ⟨_, _, [[_, _, _, _, _, _, _, _, _]]⟩] rfl ⟨rfl, rfl, rfl, rfl, rfl, rfl, trivial⟩ rfl rfl ?_
    refine WL.nil (nb (nm ?_))
    refine W.region ?_
    refine mv rfl rfl ?_
    refine WL.v (Val.add (tm rfl) Ev.const (IntWalk.i64_in _ (by omega))) rfl ?_
    refine asg rfl rfl ?_
    refine WL.cut (env := [(0, _), (7, _), (9, _), (11, _), (12, _), (13, _)]) (h' := [some ⟨_, _, _⟩, some ⟨_, _, _⟩, _]) (Fewer.pre _ rfl) (.inr (HLo.fz (HLo.fz (HLo.o (oLo_acc (by assumption)) HLo.nil)))) (fun id h => absurd h (Nat.not_lt_zero _)) ⟨⟨_, rfl, (.same rfl)⟩, ⟨_, rfl, (.same rfl)⟩, ⟨_, rfl, (.same rfl)⟩, ⟨_, rfl, (.same (lo_acc hc' rfl))⟩, ⟨_, rfl, (.same rfl)⟩, ⟨_, rfl, (.same rfl)⟩, trivial⟩ ?_
    refine wn ?_
    exact ⟨_, by omega, k + 1, _, _, _, _, _, rfl, rfl, by omega, by omega, by rw [hstep], by rw [hstep]; exact Acc.row (by simp [fz]), by rw [hstep]; exact hc'⟩
  try simp only [td] at hc16
  refine W.exit (ex1 (ex1 (ex2 (nm ?_))))
  refine sr ?_
  refine mv rfl rfl ?_
  refine mv rfl rfl ?_
  refine asg rfl rfl ?_
  refine asg rfl rfl ?_
  refine WL.v (Val.assign Ev.const) rfl ?_
  refine WL.norm 88 [(4, _), (5, _), (6, _)] [_, _, _] rfl ⟨rfl, rfl, rfl, trivial⟩ rfl rfl ?_
  refine wn ?_
  refine W.ret ?_
  exact Ret.of (.inr rfl) rfl (res3 rfl rfl rfl rfl) (Fewer.nil _) (.inr trivial) (fun id h => absurd h (Nat.not_lt_zero _)) (.tup (Acc.thaw hc rfl rfl (encL (by intro x; rfl))) (.tup (Acc.thaw hb rfl rfl (encL (by intro x; rfl))) (.tup (.same rfl) .tup0))) ⟨rfl, by rw [canonR, if_pos hall, ← hlL, show l.length = k.toNat from by omega]⟩
end Go.Aw
namespace Go.Aw
open Go.RowKit Go.Proofs

def hiS : ByteArray := ⟨(List.toArray (List.append (List.append [48, 48, 48, 49, 48, 50, 48, 51, 48, 52, 48, 53, 48, 54, 48, 55, 48, 56, 48, 57, 49, 48, 49, 49, 49, 50, 49, 51, 49, 52, 49, 53, 49, 54, 49, 55, 49, 56, 49, 57, 50, 48, 50, 49, 50, 50, 50, 51, 50, 52] [50, 53, 50, 54, 50, 55, 50, 56, 50, 57, 51, 48, 51, 49, 51, 50, 51, 51, 51, 52, 51, 53, 51, 54, 51, 55, 51, 56, 51, 57, 52, 48, 52, 49, 52, 50, 52, 51, 52, 52, 52, 53, 52, 54, 52, 55, 52, 56, 52, 57]) (List.append [53, 48, 53, 49, 53, 50, 53, 51, 53, 52, 53, 53, 53, 54, 53, 55, 53, 56, 53, 57, 54, 48, 54, 49, 54, 50, 54, 51, 54, 52, 54, 53, 54, 54, 54, 55, 54, 56, 54, 57, 55, 48, 55, 49, 55, 50, 55, 51, 55, 52] [55, 53, 55, 54, 55, 55, 55, 56, 55, 57, 56, 48, 56, 49, 56, 50, 56, 51, 56, 52, 56, 53, 56, 54, 56, 55, 56, 56, 56, 57, 57, 48, 57, 49, 57, 50, 57, 51, 57, 52, 57, 53, 57, 54, 57, 55, 57, 56, 57, 57])))⟩
theorem small_all : ((List.range 90).all fun i => decide (hiS.extract (2 * (i + 10)) (2 * (i + 10) + 2) = decB ((i + 10 : Nat) : Int))) = true := by kernel_rfl
theorem small_hi {n : Int} (h0 : 10 ≤ n) (h1 : n < 100) : hiS.extract (n * 2).toNat (n * 2 + 2).toNat = decB n := by
  have h := List.all_eq_true.1 small_all (n.toNat - 10) (List.mem_range.2 (by omega))
  rw [decide_eq_true_iff] at h
  have e : n.toNat - 10 + 10 = n.toNat := by omega
  rw [e, show ((n.toNat : Nat) : Int) = n from by omega] at h
  rw [show (n * 2).toNat = 2 * n.toNat from by omega, show (n * 2 + 2).toNat = 2 * n.toNat + 2 from by omega]
  exact h
def smallS : ByteArray := ⟨#[48, 49, 50, 51, 52, 53, 54, 55, 56, 57, 97, 98, 99, 100, 101, 102, 103, 104, 105, 106, 107, 108, 109, 110, 111, 112, 113, 114, 115, 116, 117, 118, 119, 120, 121, 122]⟩
theorem small_lo {n : Int} (h0 : 0 ≤ n) (h1 : n < 10) : smallS.extract n.toNat (n + 1).toNat = decB n := by
  have : n = 0 ∨ n = 1 ∨ n = 2 ∨ n = 3 ∨ n = 4 ∨ n = 5 ∨ n = 6 ∨ n = 7 ∨ n = 8 ∨ n = 9 := by omega
  rcases this with rfl | rfl | rfl | rfl | rfl | rfl | rfl | rfl | rfl | rfl <;> rfl

-- slices.Equal[[]int,int]
set_option maxHeartbeats 1000000 in
theorem c_EqualInts (W0 : World) (N : Nat) (a b : List Int) (hl : a.length ≤ 1000000) : AC (En W0 N) 40 [.f (.ints a), .f (.ints b)] [] (fun r h => h = [] ∧ r = .b (decide (a = b))) := by
  refine AC.enter Tryd.func40 rfl Tryd.ntmps40 (bl rfl) fun X => ?_
  refine sr ?_
  refine WL.v (Val.assign Ev.const) rfl ?_
  refine WL.norm 26 [(0, _), (1, _)] [] rfl ⟨rfl, rfl, trivial⟩ rfl rfl ?_
  refine wn ?_
  refine W.seq ?_
  refine sr ?_
  refine mv rfl rfl ?_
  refine WL.v (Val.ln (enc := encI) Tryd.underlying22 (tm rfl)) rfl ?_
  refine mv rfl rfl ?_
  refine WL.v (Val.ln (enc := encI) Tryd.underlying22 (tm rfl)) rfl ?_
  refine WL.v (Val.neq (tm rfl) (tm rfl)) rfl ?_
  refine WL.norm 26 [(0, _), (1, _), (10, _)] [] rfl ⟨rfl, rfl, rfl, trivial⟩ rfl rfl ?_
  refine wn ?_
  refine W.condP rfl (fun hc1 => ?_) (fun hc1 => ?_)
  · try simp only [td] at hc1
    refine sr ?_
    refine WL.v (Val.assign Ev.const) rfl ?_
    refine WL.norm 26 [(4, _)] [] rfl ⟨rfl, trivial⟩ rfl rfl ?_
    refine wn ?_
    refine W.ret (rt1 ?_)
    have e : a ≠ b := fun h => hc1 (by rw [h])
    exact Ret.of (.inr rfl) rfl (res1 rfl rfl) (Fewer.nil _) (.inr trivial) (fun id h => absurd h (Nat.not_lt_zero _)) (.same rfl) ⟨rfl, by rw [decide_eq_false e]⟩
  try simp only [td] at hc1
  refine W.skip (nm ?_)
  refine W.seq ?_
  refine sr ?_
  refine mv rfl rfl ?_
  refine WL.v (Val.ln (enc := encI) Tryd.underlying22 (tm rfl)) rfl ?_
  refine WL.v (Val.move Ev.const) rfl ?_
  refine WL.norm 26 [(0, _), (1, _), (12, _), (13, _)] [] rfl ⟨rfl, rfl, rfl, rfl, trivial⟩ rfl rfl ?_
  refine wn ?_
  refine W.norm 26 [(0, _), (1, _), (12, _), (13, _)] [] rfl ⟨rfl, rfl, rfl, rfl, trivial⟩ rfl rfl ?_
  refine W.block (W.loop (fun nn S => ∃ (k : Int), S = ⟨26, [(0, .f (.ints a)), (1, .f (.ints b)), (12, .i a.length), (13, .i k)], [], []⟩ ∧ nn = ((a.length - k).toNat) ∧ (0 ≤ k) ∧ (k ≤ a.length) ∧ (∀ j : Nat, j < k.toNat → a[j]? = b[j]?)) ⟨0, rfl, rfl, by omega, by omega, fun j hj => absurd hj (by simp)⟩ ?_)
  rintro nn S ⟨k, rfl, rfl, hf0_0, hf0_1, hf0_2⟩
  refine sr ?_
  refine WL.v (Val.lss (tm rfl) (tm rfl)) rfl ?_
  refine WL.norm 26 [(0, _), (1, _), (12, _), (13, _), (14, _)] [] rfl ⟨rfl, rfl, rfl, rfl, rfl, trivial⟩ rfl rfl ?_
  refine wn ?_
  refine W.seq ?_
  refine W.condP rfl (fun hc4 => ?_) (fun hc4 => ?_)
  · try simp only [td] at hc4
    refine W.skip (nm ?_)
    refine W.seq ?_
    refine W.block ?_
    refine sr ?_
    refine mv rfl rfl ?_
    refine asg rfl rfl ?_
    refine WL.norm 26 [(0, _), (1, _), (5, _), (12, _), (13, _)] [] rfl ⟨rfl, rfl, rfl, rfl, rfl, trivial⟩ rfl rfl ?_
    refine wn ?_
    refine W.seq ?_
    refine W.drawE (fun _ => ([], [])) rfl (by kernel_rfl) (bl rfl) ?_
    refine LexE.val rfl rfl rfl (fun h' ha => Val.move (tm rfl)) ?_
    refine LexE.val rfl rfl rfl (fun h' ha => Val.move (tm rfl)) ?_
    refine LexE.val rfl rfl rfl (fun h' ha => Val.ix (enc := encI) Tryd.underlying22 zs3 (tm rfl) (tm rfl) (by omega) (gA_at (by omega) (by omega))) ?_
    refine LexE.val rfl rfl rfl (fun h' ha => Val.load Tryd.underlying3 rfl (tm rfl)) ?_
    refine LexE.val rfl rfl rfl (fun h' ha => Val.move (tm rfl)) ?_
    refine LexE.val rfl rfl rfl (fun h' ha => Val.move (tm rfl)) ?_
    refine LexE.val rfl rfl rfl (fun h' ha => Val.ix (enc := encI) Tryd.underlying22 zs3 (tm rfl) (tm rfl) (by omega) (gA_at (by omega) (by omega))) ?_
    refine LexE.val rfl rfl rfl (fun h' ha => Val.load Tryd.underlying3 rfl (tm rfl)) ?_
    refine LexE.val rfl rfl rfl (fun h' ha => Val.neq (tm rfl) (tm rfl)) ?_
    refine LexE.nil (nm ?_)
    refine W.norm 26 [(0, _), (1, _), (12, _), (13, _), (24, _)] [] rfl ⟨rfl, rfl, rfl, rfl, rfl, trivial⟩ rfl rfl ?_
    refine W.condP rfl (fun hc6 => ?_) (fun hc6 => ?_)
    · try simp only [td] at hc6
      refine sr ?_
      refine WL.v (Val.assign Ev.const) rfl ?_
      refine WL.norm 26 [(4, _)] [] rfl ⟨rfl, trivial⟩ rfl rfl ?_
      refine wn ?_
      refine W.ret (rt2 (rt1 (rt1 (rt2 (rt1 ?_)))))
      have e : a ≠ b := fun h => hc6 (by rw [h])
      exact Ret.of (.inr rfl) rfl (res1 rfl rfl) (Fewer.nil _) (.inr trivial) (fun id h => absurd h (Nat.not_lt_zero _)) (.same rfl) ⟨rfl, by rw [decide_eq_false e]⟩
    try simp only [td] at hc6
    refine W.skip (nb (nm ?_))
    refine W.region ?_
    refine WL.v (Val.add (tm rfl) Ev.const (IntWalk.i64_in _ (by omega))) rfl ?_
    refine mv rfl rfl ?_
    refine WL.norm 26 [(0, _), (1, _), (12, _), (13, _)] [] rfl ⟨rfl, rfl, rfl, rfl, trivial⟩ rfl rfl ?_
    refine wn ?_
    exact ⟨_, by omega, k + 1, rfl, rfl, by omega, by omega, same_step hf0_0 (by omega) (by omega) hf0_2 hc6⟩
  try simp only [td] at hc4
  refine W.exit (ex1 (ex1 (ex2 (nm ?_))))
  refine sr ?_
  refine WL.v (Val.assign Ev.const) rfl ?_
  refine WL.norm 26 [(4, _)] [] rfl ⟨rfl, trivial⟩ rfl rfl ?_
  refine wn ?_
  refine W.ret ?_
  have e : a = b := same_end hf0_0 (by omega) (by omega) hf0_2
  exact Ret.of (.inr rfl) rfl (res1 rfl rfl) (Fewer.nil _) (.inr trivial) (fun id h => absurd h (Nat.not_lt_zero _)) (.same rfl) ⟨rfl, by rw [decide_eq_true e]⟩
-- match.Canonical$1
set_option maxHeartbeats 1000000 in
theorem c_sameClo (W0 : World) (N : Nat) (a b : Nd) (ha : a.kids.length ≤ 1000000) : AC (En W0 N) 39 [a.agg, b.agg] [] (fun r h => h = [] ∧ r = .b (decide (a = b))) := by
  refine AC.enter Tryd.func39 rfl Tryd.ntmps39 (bl rfl) fun X => ?_
  refine sr ?_
  refine WL.stp rfl (Stp.box (tm rfl) rfl rfl) ?_
  refine WL.stp rfl (Stp.box (tm rfl) rfl rfl) ?_
  refine WL.v (Val.assign Ev.const) rfl ?_
  refine WL.norm 17 [(2, _), (3, _)] [some ⟨_, _, [[_, _, _, _, _, _, _, _, _]]⟩, some ⟨_, _, [[_, _, _, _, _, _, _, _, _]]⟩] rfl ⟨rfl, rfl, trivial⟩ rfl rfl ?_
  refine wn ?_
  refine W.seq ?_
  refine W.drawE (fun k => ([([0], []), ([], []), ([1], []), ([], []), ([], []), ([], []), ([], []), ([0], []), ([], []), ([1], []), ([], []), ([], []), ([], [])] : List (List Nat × List Nat)).getD k ([], [])) rfl (by kernel_rfl) (bl rfl) ?_
  refine LexE.val rfl rfl rfl (fun h' ha => Val.loadLiveAgg Tryd.underlying35 rfl zs35 (tm rfl) ((ha.at_ 0 (by decide)).trans rfl) rfl rfl rfl (bl rfl)) ?_
  refine LexE.call ca31 (fun h' ha => (evc (tm rfl) evn)) (lo2 rfl lo0) rfl (c_shapeOf W0 N a) rfl ?_
  refine LexE.val rfl rfl rfl (fun h' ha => Val.loadLiveAgg Tryd.underlying35 rfl zs35 (tm rfl) ((ha.at_ 1 (by decide)).trans rfl) rfl rfl rfl (bl rfl)) ?_
  refine LexE.call ca31 (fun h' ha => (evc (tm rfl) evn)) (lo2 rfl lo0) rfl (c_shapeOf W0 N b) rfl ?_
  refine LexE.val rfl rfl rfl (fun h' ha => Val.eqlShp is70 (tm rfl) (tm rfl)) ?_
  refine LexE.val rfl rfl rfl (fun h' ha => Val.move (tm rfl)) ?_
  refine LexE.gval rfl (fun h' => (Grd.t rfl rfl rfl)) rfl (fun hG h' ha => Val.fal (off := 1) Tryd.underlying35 rfl rfl zs22 (tm rfl)) ?_
  refine LexE.gval rfl (fun h' => (Grd.t rfl rfl rfl)) rfl (fun hG h' ha => Val.loadLive Tryd.underlying22 rfl (Ev.opt rfl hG) ((ha.at_ 0 (by decide)).trans rfl) rfl rfl rfl rfl) ?_
  refine LexE.gval rfl (fun h' => (Grd.t rfl rfl rfl)) rfl (fun hG h' ha => Val.fal (off := 1) Tryd.underlying35 rfl rfl zs22 (tm rfl)) ?_
  refine LexE.gval rfl (fun h' => (Grd.t rfl rfl rfl)) rfl (fun hG h' ha => Val.loadLive Tryd.underlying22 rfl (Ev.opt rfl hG) ((ha.at_ 1 (by decide)).trans rfl) rfl rfl rfl rfl) ?_
  refine LexE.gcall (fun h' => (Grd.t rfl rfl rfl)) ca40 (fun hG h' ha => (evc (Ev.opt rfl hG) (evc (Ev.opt rfl hG) evn))) (lo1 (lo1 lo0)) rfl (fun hG => c_EqualInts W0 N a.kids b.kids ha) rfl ?_
  refine LexE.val rfl rfl rfl (fun h' ha => Val.and (tm rfl) (fun hb => Ev.opt rfl hb)) ?_
  refine LexE.val rfl rfl rfl (fun h' ha => Val.assign (tm rfl)) ?_
  refine LexE.nil (nm ?_)
  refine W.norm 17 [(4, _)] [some ⟨_, _, [[_, _, _, _, _, _, _, _, _]]⟩, some ⟨_, _, [[_, _, _, _, _, _, _, _, _]]⟩] rfl ⟨rfl, trivial⟩ rfl rfl ?_
  refine W.ret ?_
  exact Ret.of (.inr rfl) rfl (res1 rfl rfl) (Fewer.nil _) (.inr trivial) (fun id h => absurd h (Nat.not_lt_zero _)) (.same rfl) ⟨rfl, by rw [← Nd.eq_iff]⟩
-- internal/strconv.small
set_option maxHeartbeats 1000000 in
theorem c_small (W0 : World) (N : Nat) (n : Int) (h0 : 0 ≤ n) (h1 : n < 100) : AC (En W0 N) 72 [.i n] [] (fun r h => h = [] ∧ r = .f (.v (.string (decB n)))) := by
  refine AC.enter Tryd.func72 rfl Tryd.ntmps72 (bl rfl) fun X => ?_
  refine sr ?_
  refine WL.v (Val.assign Ev.const) rfl ?_
  refine WL.norm 15 [(0, _)] [] rfl ⟨rfl, trivial⟩ rfl rfl ?_
  refine wn ?_
  refine W.seq ?_
  refine sr ?_
  refine mv rfl rfl ?_
  refine WL.v (Val.lss (tm rfl) Ev.const) rfl ?_
  refine WL.norm 15 [(0, _), (4, _)] [] rfl ⟨rfl, rfl, trivial⟩ rfl rfl ?_
  refine wn ?_
  refine W.condP rfl (fun hc1 => ?_) (fun hc1 => ?_)
  · try simp only [td] at hc1
    refine sr ?_
    refine mv rfl rfl ?_
    refine mv rfl rfl ?_
    refine WL.v (Val.add (tm rfl) Ev.const (IntWalk.i64_in _ (by omega))) rfl ?_
    refine WL.v (Val.sliceSI Tryd.underlying9 Ev.const ⟨_, (tm rfl)⟩ ⟨_, (tm rfl)⟩ (by omega) (by omega) (by show _ ≤ (36 : Int); omega)) rfl ?_
    refine asg rfl rfl ?_
    refine WL.norm 15 [(2, _)] [] rfl ⟨rfl, trivial⟩ rfl rfl ?_
    refine wn ?_
    refine W.ret (rt1 ?_)
    exact Ret.of (.inr rfl) rfl (res1 rfl rfl) (Fewer.nil _) (.inr trivial) (fun id h => absurd h (Nat.not_lt_zero _)) (.same rfl) ⟨rfl, congrArg (fun s => AV.f (.v (.string s))) (small_lo h0 hc1)⟩
  try simp only [td] at hc1
  refine W.skip (nm ?_)
  refine sr ?_
  refine mv rfl rfl ?_
  refine WL.v (Val.mul (tm rfl) Ev.const (IntWalk.i64_in _ (by omega))) rfl ?_
  refine mv rfl rfl ?_
  refine WL.v (Val.mul (tm rfl) Ev.const (IntWalk.i64_in _ (by omega))) rfl ?_
  refine WL.v (Val.add (tm rfl) Ev.const (IntWalk.i64_in _ (by omega))) rfl ?_
  refine WL.v (Val.sliceSI Tryd.underlying9 Ev.const ⟨_, (tm rfl)⟩ ⟨_, (tm rfl)⟩ (by omega) (by omega) (by show _ ≤ (200 : Int); omega)) rfl ?_
  refine asg rfl rfl ?_
  refine WL.norm 15 [(2, _)] [] rfl ⟨rfl, trivial⟩ rfl rfl ?_
  refine wn ?_
  refine W.ret ?_
  exact Ret.of (.inr rfl) rfl (res1 rfl rfl) (Fewer.nil _) (.inr trivial) (fun id h => absurd h (Nat.not_lt_zero _)) (.same rfl) ⟨rfl, congrArg (fun s => AV.f (.v (.string s))) (small_hi (by omega) h1)⟩
-- internal/strconv.FormatInt
set_option maxHeartbeats 1000000 in
theorem c_FormatInt (W0 : World) (N : Nat) (n : Int) (h0 : 0 ≤ n) (h1 : n < 100) : AC (En W0 N) 60 [.i n, .i 10] [] (fun r h => h = [] ∧ r = .f (.v (.string (decB n)))) := by
  refine AC.enter Tryd.func60 rfl Tryd.ntmps60 (bl rfl) fun X => ?_
  refine sr ?_
  refine WL.v (Val.assign Ev.const) rfl ?_
  refine WL.norm 54 [(0, _), (1, _)] [] rfl ⟨rfl, rfl, trivial⟩ rfl rfl ?_
  refine wn ?_
  refine W.seq ?_
  refine sr ?_
  refine mv rfl rfl ?_
  refine WL.v (Val.eql (tm rfl) Ev.const) rfl ?_
  refine WL.norm 54 [(0, _), (1, _), (11, _)] [] rfl ⟨rfl, rfl, rfl, trivial⟩ rfl rfl ?_
  refine wn ?_
  refine W.condP rfl (fun hc1 => ?_) (fun hc1 => ?_)
  · try simp only [td] at hc1
    refine W.seq ?_
    refine sr ?_
    refine mv rfl rfl ?_
    refine WL.v (Val.leq Ev.const (tm rfl)) rfl ?_
    refine mv rfl rfl ?_
    refine WL.g (Grd.t rfl rfl rfl) (fun hG => Val.move (tm rfl)) rfl ?_
    refine WL.g (Grd.t rfl rfl rfl) (fun hG => Val.lss (Ev.opt rfl hG) Ev.const) rfl ?_
    refine WL.v (Val.and (tm rfl) (fun hb => Ev.opt rfl hb)) rfl ?_
    refine WL.norm 54 [(0, _), (17, _)] [] rfl ⟨rfl, rfl, trivial⟩ rfl rfl ?_
    refine wn ?_
    refine W.condP rfl (fun hc2 => ?_) (fun hc2 => ?_)
    · try simp only [td] at hc2
      refine sr ?_
      refine mv rfl rfl ?_
      refine WL.callV ca72 (evc (tm rfl) evn) (lo1 lo0) rfl (c_small W0 N _ (by omega) (by omega)) ?_
      rintro _ rfl
      refine asg rfl rfl ?_
      refine WL.norm 54 [(4, _)] [] rfl ⟨rfl, trivial⟩ rfl rfl ?_
      refine wn ?_
      refine W.ret (rt1 (rt1 ?_))
      exact Ret.of (.inr rfl) rfl (res1 rfl rfl) (Fewer.nil _) (.inr trivial) (fun id h => absurd h (Nat.not_lt_zero _)) (.same rfl) ⟨rfl, rfl⟩
    try simp only [td] at hc2
    exfalso; omega
  exact absurd hc1 (by decide)
-- internal/strconv.Itoa
set_option maxHeartbeats 1000000 in
theorem c_Itoa (W0 : World) (N : Nat) (n : Int) (h0 : 0 ≤ n) (h1 : n < 100) : AC (En W0 N) 49 [.i n] [] (fun r h => h = [] ∧ r = .f (.v (.string (decB n)))) := by
  refine AC.enter Tryd.func49 rfl Tryd.ntmps49 (bl rfl) fun X => ?_
  refine sr ?_
  refine WL.v (Val.assign Ev.const) rfl ?_
  refine WL.norm 5 [(0, _)] [] rfl ⟨rfl, trivial⟩ rfl rfl ?_
  refine wn ?_
  refine sr ?_
  refine mv rfl rfl ?_
  refine WL.callV ca60 (evc (tm rfl) (evc Ev.const evn)) (lo1 (lo1 lo0)) rfl (c_FormatInt W0 N _ (by omega) (by omega)) ?_
  rintro _ rfl
  refine asg rfl rfl ?_
  refine WL.norm 5 [(2, _)] [] rfl ⟨rfl, trivial⟩ rfl rfl ?_
  refine wn ?_
  refine W.ret ?_
  exact Ret.of (.inr rfl) rfl (res1 rfl rfl) (Fewer.nil _) (.inr trivial) (fun id h => absurd h (Nat.not_lt_zero _)) (.same rfl) ⟨rfl, rfl⟩
-- strconv.Itoa
set_option maxHeartbeats 1000000 in
theorem c_Itoa2 (W0 : World) (N : Nat) (n : Int) (h0 : 0 ≤ n) (h1 : n < 100) : AC (En W0 N) 35 [.i n] [] (fun r h => h = [] ∧ r = .f (.v (.string (decB n)))) := by
  refine AC.enter Tryd.func35 rfl Tryd.ntmps35 (bl rfl) fun X => ?_
  refine sr ?_
  refine WL.v (Val.assign Ev.const) rfl ?_
  refine WL.norm 5 [(0, _)] [] rfl ⟨rfl, trivial⟩ rfl rfl ?_
  refine wn ?_
  refine sr ?_
  refine mv rfl rfl ?_
  refine WL.callV ca49 (evc (tm rfl) evn) (lo1 lo0) rfl (c_Itoa W0 N _ (by omega) (by omega)) ?_
  rintro _ rfl
  refine asg rfl rfl ?_
  refine WL.norm 5 [(2, _)] [] rfl ⟨rfl, trivial⟩ rfl rfl ?_
  refine wn ?_
  refine W.ret ?_
  exact Ret.of (.inr rfl) rfl (res1 rfl rfl) (Fewer.nil _) (.inr trivial) (fun id h => absurd h (Nat.not_lt_zero _)) (.same rfl) ⟨rfl, rfl⟩
end Go.Aw
namespace Go.Aw
open Go.RowKit Go.Proofs

theorem I6.small {n : Int} (h0 : 0 ≤ n) (h1 : n ≤ 1000000) : I6 n := by constructor <;> omega
/-- The rows of the visit, in its own numbering. -/
abbrev capsC : List AV := [.ptr 0 0 1 0 0, .ptr 1 0 1 0 0, .ptr 2 0 1 0 0, .ptr 3 0 1 0 0, .ptr 4 0 1 0 0]
abbrev HC (g : List Nd) (gN : Nat) (c : List Int × List Nd × Int) (vC : AV) (o6 : Option Row) : Heap :=
  [some ⟨0, 1, [[.row 5 gN 1 0 g.length]]⟩, some ⟨0, 1, [[.f (.nodes g)]]⟩, some ⟨0, 1, [[.fn (.func 34) capsC]]⟩, some ⟨0, 1, [[.i c.2.2]]⟩, some ⟨0, 1, [[vC]]⟩, some ⟨gN, 1, fz (c.1.map encI)⟩, o6]
def RC (g : List Nd) (gN : Nat) (l : List Int) : AV → Heap → Prop := fun r h => r = .tup [] ∧ ∃ vC o6, h = HC g gN (canonAt g l l.length) vC o6 ∧ Acc 6 9 (fz ((canonAt g l l.length).2.1.map Nd.cells)) vC o6
theorem HC.lo {g : List Nd} {gN : Nat} {c : List Int × List Nd × Int} {vC : AV} {o6 : Option Row} (hc : Acc 6 9 (fz (c.2.1.map Nd.cells)) vC o6) : HLo (HC g gN c vC o6) (HC g gN c vC o6) :=
  HLo.box (lo4 rfl lo0) (HLo.box (lo1 lo0) (HLo.box (lo5 rfl lo0) (HLo.box (lo1 lo0) (HLo.box (lo5 (lo_acc hc rfl) lo0) (HLo.fz (HLo.o (oLo_acc hc) HLo.nil))))))
theorem hm7 {r0 r1 r2 r3 r4 r5 : Row} {o : Option Row} (suf : Heap) : ∀ id, id < 7 → Heap.has [some r0, some r1, some r2, some r3, some r4, some r5, o] id = true ∨ (([some r0, some r1, some r2, some r3, some r4, some r5, o] : Heap) ++ suf)[id]?.join = none := by
  intro id h
  have : id = 0 ∨ id = 1 ∨ id = 2 ∨ id = 3 ∨ id = 4 ∨ id = 5 ∨ id = 6 := by omega
  rcases this with rfl | rfl | rfl | rfl | rfl | rfl | rfl
  all_goals first | exact .inl rfl | (cases o <;> first | exact .inl rfl | exact .inr rfl)
theorem RC.ok {g : List Nd} {gN : Nat} {l : List Int} {n : Nat} (hn : n = 7) : ∀ r h', RC g gN l r h' → r.lo h' = true ∧ HLo h' h' ∧ h'.length = n := by
  rintro r h' ⟨rfl, vC, o6, rfl, hc⟩
  exact ⟨rfl, HC.lo hc, hn.symm⟩
/-- A node has a number exactly if it is among those that are visited. -/
theorem canonAt_take (g : List Nd) (l l' : List Int) : ∀ k : Nat, k ≤ l.length → (∀ j, j < k → l[j]? = l'[j]?) → canonAt g l k = canonAt g l' k
  | 0, _, _ => rfl
  | k + 1, hk, h => by
    have e : gA l (k : Int) = gA l' (k : Int) := by simp only [gA, Int.toNat_natCast, List.getD, h k (by omega)]
    rw [canonAt, canonAt, canonAt_take g l l' k (by omega) (fun j hj => h j (by omega)), e]
theorem gA_set_same {l : List Int} {i : Nat} {x v : Int} (hx : x.toNat = i) (hl : i < l.length) : gA (l.set i v) x = v := by
  show (l.set i v).getD x.toNat default = v
  rw [List.getD, hx, List.getElem?_set_self hl]; rfl
theorem gA_set_ne {l : List Int} {i : Nat} {x v : Int} (h : i ≠ x.toNat) : gA (l.set i v) x = gA l x := by
  show (l.set i v).getD x.toNat default = l.getD x.toNat default
  rw [List.getD, List.getD, List.getElem?_set_ne h]
theorem canonAt_to (g : List Nd) (l : List Int) (hl : VOk g l) : ∀ k : Nat, k ≤ l.length → ∀ x : Int, 0 ≤ x → x < g.length → (0 ≤ gA (canonAt g l k).1 x ↔ x ∈ l.take k) := by
  intro k
  induction k with
  | zero =>
    intro _ x h0 h1
    have : gA (List.replicate g.length (-1 : Int)) x = -1 := by
      have hx : x.toNat < g.length := by omega
      simp [gA, List.getD, List.getElem?_replicate, hx]
    simp [canonAt, this]
  | succ k ih =>
    intro hk x h0 h1
    have e1 : (canonAt g l (k + 1)).1 = (canonAt g l k).1.set (gA l k).toNat k := by rw [canonAt]; split <;> rfl
    have hlen := (canonAt_ok g l k).1
    have hx := hl.2 _ (gA_mem (l := l) (i := (k : Int)) (by omega) (by omega))
    have et : l.take (k + 1) = l.take k ++ [gA l k] := by
      have := gA_at (l := l) (i := (k : Int)) (by omega) (by omega)
      rw [Int.toNat_natCast] at this
      rw [List.take_add_one, this]; rfl
    rw [e1, et]
    by_cases hxk : x = gA l k
    · have : gA ((canonAt g l k).1.set (gA l k).toNat (k : Int)) x = k := gA_set_same (by rw [hxk]) (by omega)
      rw [this]; simp [hxk]
    · have hne : (gA l k).toNat ≠ x.toNat := by omega
      have : gA ((canonAt g l k).1.set (gA l k).toNat (k : Int)) x = gA (canonAt g l k).1 x := gA_set_ne hne
      rw [this, ih (by omega) x h0 h1]; simp [hxk]
theorem map_kids {ks kids : List Int} {F : Int → Int} (hl : ks.length = kids.length) (h : ∀ j : Nat, j < kids.length → gA ks j = F (gA kids j)) : kids.map F = ks := by
  apply List.ext_getElem?
  intro j
  by_cases hj : j < kids.length
  · have h1 := gA_at (l := kids) (i := (j : Int)) (by omega) (by omega)
    have h2 := gA_at (l := ks) (i := (j : Int)) (by omega) (by omega)
    rw [Int.toNat_natCast] at h1 h2
    rw [List.getElem?_map, h1, h2, h j hj]; rfl
  · rw [List.getElem?_eq_none (by simp; omega), List.getElem?_eq_none (by omega)]
theorem set_step {ks : List Int} {k v : Int} {F : Nat → Int} (h0 : 0 ≤ k) (hk : k < ks.length) (hv : v = F k.toNat) (h : ∀ j : Nat, j < k.toNat → gA ks j = F j) : ∀ j : Nat, j < (k + 1).toNat → gA (ks.set k.toNat v) j = F j := by
  intro j hj
  by_cases hjk : j = k.toNat
  · rw [hjk, hv]; exact gA_set_same (by omega) (by omega)
  · rw [gA_set_ne (by omega)]; exact h j (by omega)
theorem canon_more {g : List Nd} (hg : WFG g) {l' ks : List Int} {n m : Int} (h0 : 0 ≤ n) (hn : n < g.length) (hm : m = l'.length) (hkl : ks.length = (gA g n).kids.length) (hks : ∀ j : Nat, j < (gA g n).kids.length → gA ks j = gA (canonAt g l' l'.length).1 (gA (gA g n).kids j)) :
    canonAt g (l' ++ [n]) (l' ++ [n]).length = if (gA g n).op = 0 then ((canonAt g l' l'.length).1.set n.toNat m, (canonAt g l' l'.length).2.1 ++ [{ gA g n with kids := ks, text := ⟨#[118]⟩ ++ decB (canonAt g l' l'.length).2.2 }], (canonAt g l' l'.length).2.2 + 1)
      else ((canonAt g l' l'.length).1.set n.toNat m, (canonAt g l' l'.length).2.1 ++ [{ gA g n with kids := ks }], (canonAt g l' l'.length).2.2) := by
  have e1 : gA (l' ++ [n]) (l'.length : Int) = n := by simp [gA, List.getD]
  have e2 : (gA g n).kids.map (fun q => gA ((canonAt g l' l'.length).1.set n.toNat (l'.length : Int)) q) = ks := map_kids hkl fun j hj => by
    have := hg.kid h0 hn (k := (j : Int)) (by omega) (by omega)
    rw [gA_set_ne (by omega)]; exact hks j hj
  rw [List.length_append, show l'.length + [n].length = l'.length + 1 from rfl, canonAt, ← canonAt_take g l' (l' ++ [n]) l'.length (Nat.le_refl _) (fun j hj => by rw [List.getElem?_append_left hj]), e1, e2, hm]
theorem RC.fin {g : List Nd} {gN : Nat} {L l' : List Int} {n : Int} {c' : List Int × List Nd × Int} {vC : AV} {o6 : Option Row} (hv : L = l' ++ [n]) (hcm : canonAt g (l' ++ [n]) (l' ++ [n]).length = c') (hc : Acc 6 9 (fz (c'.2.1.map Nd.cells)) vC o6) : RC g gN L (.tup []) (HC g gN c' vC o6) := by
  subst hv hcm
  exact ⟨rfl, vC, o6, rfl, hc⟩

-- match.Canon$1
set_option maxHeartbeats 1000000 in
theorem c_visitM (W0 : World) (N : Nat) (g : List Nd) (hg : WFG g) (h99 : g.length ≤ 99) (gN : Nat) : ∀ (b : Nat) (n : Int) (l : List Int) (vC : AV) (o6 : Option Row), n < b → 0 ≤ n → n < g.length → VOk g l → Acc 6 9 (fz ((canonAt g l l.length).2.1.map Nd.cells)) vC o6 → AC (En W0 N) 34 [.i n, .ptr 0 0 1 0 0, .ptr 1 0 1 0 0, .ptr 2 0 1 0 0, .ptr 3 0 1 0 0, .ptr 4 0 1 0 0] (HC g gN (canonAt g l l.length) vC o6) (RC g gN (visitF g b n l)) := by
  intro b
  induction b with
  | zero => intro n l vC o6 h1 h2; omega
  | succ b ih =>
  intro n l vC o6 hnb h0 hn hok hc
  have hfew := hg.few h0 hn
  have hgl := hg.len
  have hll := hok.len
  have hcl := (canonAt_ok g l l.length).1
  have hto := canonAt_to g l hok l.length (Nat.le_refl _) n h0 hn
  refine AC.enter Tryd.func34 rfl Tryd.ntmps34 (bl rfl) fun X => ?_
  refine W.seq ?_
  refine sr ?_
  refine WL.v (Val.loadLive Tryd.underlying22 rfl (tm rfl) rfl rfl rfl rfl rfl) rfl ?_
  refine mv rfl rfl ?_
  refine WL.v (Val.indexAddrLive Tryd.underlying22 zs3 (tm rfl) (tm rfl) (by omega) (by omega)) rfl ?_
  refine WL.v (Val.loadLive Tryd.underlying3 rfl (tm rfl) rfl rfl rfl (fz_at (by omega) (by rw [hcl]; omega)) rfl) rfl ?_
  refine WL.v (Val.geq (tm rfl) Ev.const) rfl ?_
  refine WL.norm 77 [(0, _), (1, _), (2, _), (3, _), (4, _), (5, _), (17, _)] [some ⟨_, _, [[_]]⟩, some ⟨_, _, [[_]]⟩, some ⟨_, _, [[_]]⟩, some ⟨_, _, [[_]]⟩, some ⟨_, _, [[_]]⟩, some ⟨_, _, _⟩, _] rfl ⟨rfl, rfl, rfl, rfl, rfl, rfl, rfl, trivial⟩ rfl rfl ?_
  refine wn ?_
  refine W.condP rfl (fun hc0 => ?_) (fun hc0 => ?_)
  · try simp only [td] at hc0
    refine W.ret (rt1 ?_)
    exact Ret.keep (.inr rfl) rfl (res0 rfl) rfl ⟨rfl, vC, o6, by rw [visitF, if_pos (by have := hto.1 hc0; rwa [List.take_length] at this)]; rfl, by rw [visitF, if_pos (by have := hto.1 hc0; rwa [List.take_length] at this)]; exact hc⟩
  try simp only [td] at hc0
  refine W.skip (nm ?_)
  refine sr ?_
  refine WL.v (Val.fal (off := 0) Tryd.underlying39 rfl rfl zs23 (tm rfl)) rfl ?_
  refine WL.v (Val.loadLive Tryd.underlying23 rfl (tm rfl) rfl rfl rfl rfl rfl) rfl ?_
  refine mv rfl rfl ?_
  refine WL.v (Val.ix (enc := Nd.cells) Tryd.underlying23 zs35 (tm rfl) (tm rfl) (by omega) (gA_at (by omega) (by omega))) rfl ?_
  refine WL.v (Val.loadAgg Tryd.underlying35 rfl zs35 (tm rfl) (bl rfl)) rfl ?_
  refine WL.stp rfl (Stp.alloc zz35 rfl rfl) ?_
  refine WL.stp rfl (Stp.st (tm rfl) (tm rfl) zs35 rfl rfl rfl rfl rfl rfl rfl rfl) ?_
  refine WL.norm 77 [(0, _), (1, _), (3, _), (4, _), (5, _), (7, _)] [some ⟨_, _, [[_]]⟩, some ⟨_, _, [[_]]⟩, some ⟨_, _, [[_]]⟩, some ⟨_, _, [[_]]⟩, some ⟨_, _, [[_]]⟩, some ⟨_, _, _⟩, _, some ⟨_, _, [[_, _, _, _, _, _, _, _, _]]⟩] rfl ⟨rfl, rfl, rfl, rfl, rfl, rfl, trivial⟩ rfl rfl ?_
  refine wn ?_
  refine W.seq ?_
  refine sr ?_
  refine WL.v (Val.fal (off := 1) Tryd.underlying35 rfl rfl zs22 (tm rfl)) rfl ?_
  refine WL.v (Val.loadLive Tryd.underlying22 rfl (tm rfl) rfl rfl rfl rfl rfl) rfl ?_
  refine WL.v (Val.ln (enc := encI) Tryd.underlying22 (tm rfl)) rfl ?_
  refine WL.v (Val.move Ev.const) rfl ?_
  refine WL.norm 77 [(0, _), (1, _), (3, _), (4, _), (5, _), (7, _), (24, _), (25, _), (26, _)] [some ⟨_, _, [[_]]⟩, some ⟨_, _, [[_]]⟩, some ⟨_, _, [[_]]⟩, some ⟨_, _, [[_]]⟩, some ⟨_, _, [[_]]⟩, some ⟨_, _, _⟩, _, some ⟨_, _, [[_, _, _, _, _, _, _, _, _]]⟩] rfl ⟨rfl, rfl, rfl, rfl, rfl, rfl, rfl, rfl, rfl, trivial⟩ rfl rfl ?_
  refine wn ?_
  refine W.norm 77 [(0, _), (1, _), (3, _), (4, _), (5, _), (7, _), (24, _), (25, _), (26, _)] [some ⟨_, _, [[_]]⟩, some ⟨_, _, [[_]]⟩, some ⟨_, _, [[_]]⟩, some ⟨_, _, [[_]]⟩, some ⟨_, _, [[_]]⟩, some ⟨_, _, _⟩, _, some ⟨_, _, [[_, _, _, _, _, _, _, _, _]]⟩] rfl ⟨rfl, rfl, rfl, rfl, rfl, rfl, rfl, rfl, rfl, trivial⟩ rfl rfl ?_
  refine W.block (W.loop (fun nn S => ∃ (k : Int) (l' : List Int) (vC : AV) (o6 : Option Row), S = ⟨77, [(0, .i n), (1, .ptr 0 0 1 0 0), (3, .ptr 2 0 1 0 0), (4, .ptr 3 0 1 0 0), (5, .ptr 4 0 1 0 0), (7, .ptr 7 0 9 0 0), (24, .f (.ints (gA g n).kids)), (25, .i (gA g n).kids.length), (26, .i k)], HC g gN (canonAt g l' l'.length) vC o6 ++ [some ⟨0, 9, [(gA g n).cells.map .f]⟩], []⟩ ∧ nn = (((gA g n).kids.length - k).toNat) ∧ (0 ≤ k) ∧ (k ≤ (gA g n).kids.length) ∧ (l' = ((gA g n).kids.take k.toNat).foldl (fun l k => visitF g b k l) l) ∧ (Acc 6 9 (fz ((canonAt g l' l'.length).2.1.map Nd.cells)) vC o6) ∧ (VOk g l')) ⟨0, l, _, _, rfl, rfl, by omega, by omega, rfl, hc, hok⟩ ?_)
  rintro nn S ⟨k, l', vC, o6, rfl, rfl, hk0, hk1, hle, hc, hok'⟩
  refine sr ?_
  refine WL.v (Val.lss (tm rfl) (tm rfl)) rfl ?_
  refine WL.norm 77 [(0, _), (1, _), (3, _), (4, _), (5, _), (7, _), (24, _), (25, _), (26, _), (27, _)] [some ⟨_, _, [[_]]⟩, some ⟨_, _, [[_]]⟩, some ⟨_, _, [[_]]⟩, some ⟨_, _, [[_]]⟩, some ⟨_, _, [[_]]⟩, some ⟨_, _, _⟩, _, some ⟨_, _, [[_, _, _, _, _, _, _, _, _]]⟩] rfl ⟨rfl, rfl, rfl, rfl, rfl, rfl, rfl, rfl, rfl, rfl, trivial⟩ rfl rfl ?_
  refine wn ?_
  refine W.seq ?_
  refine W.condP rfl (fun hc3 => ?_) (fun hc3 => ?_)
  · try simp only [td] at hc3
    refine W.skip (nm ?_)
    refine W.seq ?_
    refine W.block ?_
    refine sr ?_
    refine WL.v (Val.ix (enc := encI) Tryd.underlying22 zs3 (tm rfl) (tm rfl) (by omega) (gA_at (by omega) (by omega))) rfl ?_
    refine WL.v (Val.load Tryd.underlying3 rfl (tm rfl)) rfl ?_
    refine asg rfl rfl ?_
    refine WL.norm 77 [(0, _), (1, _), (3, _), (4, _), (5, _), (7, _), (9, _), (24, _), (25, _), (26, _)] [some ⟨_, _, [[_]]⟩, some ⟨_, _, [[_]]⟩, some ⟨_, _, [[_]]⟩, some ⟨_, _, [[_]]⟩, some ⟨_, _, [[_]]⟩, some ⟨_, _, _⟩, _, some ⟨_, _, [[_, _, _, _, _, _, _, _, _]]⟩] rfl ⟨rfl, rfl, rfl, rfl, rfl, rfl, rfl, rfl, rfl, rfl, trivial⟩ rfl rfl ?_
    refine wn ?_
    have hk := hg.kid h0 hn hk0 hc3
    have hok2 := (visitF_ok hg b (gA (gA g n).kids k) l' (by omega) hk.1 (by omega) hok').1
    refine W.region ?_
    refine WL.v (Val.loadLive Tryd.underlying74 rfl (tm rfl) rfl rfl rfl rfl rfl) rfl ?_
    refine mv rfl rfl ?_
    refine WL.callPre (d := some 32) (c := .tmp 30) (args := [.i (gA (gA g n).kids k)]) (caps := capsC) (HC g gN (canonAt g l' l'.length) vC o6) _ ca34 (Fun.clo (tm rfl)) (evc (tm rfl) evn) rfl rfl rfl (HC.lo hc) (ih _ l' vC o6 (by omega) hk.1 (by omega) hok' hc) (RC.ok rfl) rfl ?_
    rintro _ _ ⟨rfl, vC', o6', rfl, hc'⟩
    refine WL.norm 77 [(0, _), (1, _), (3, _), (4, _), (5, _), (7, _), (24, _), (25, _), (26, _)] [some ⟨_, _, [[_]]⟩, some ⟨_, _, [[_]]⟩, some ⟨_, _, [[_]]⟩, some ⟨_, _, [[_]]⟩, some ⟨_, _, [[_]]⟩, some ⟨_, _, _⟩, _, some ⟨_, _, [[_, _, _, _, _, _, _, _, _]]⟩] rfl ⟨rfl, rfl, rfl, rfl, rfl, rfl, rfl, rfl, rfl, trivial⟩ rfl rfl ?_
    refine WL.nil (nb (nm ?_))
    refine W.region ?_
    refine WL.v (Val.add (tm rfl) Ev.const (IntWalk.i64_in _ (by omega))) rfl ?_
    refine mv rfl rfl ?_
    refine WL.norm 77 [(0, _), (1, _), (3, _), (4, _), (5, _), (7, _), (24, _), (25, _), (26, _)] [some ⟨_, _, [[_]]⟩, some ⟨_, _, [[_]]⟩, some ⟨_, _, [[_]]⟩, some ⟨_, _, [[_]]⟩, some ⟨_, _, [[_]]⟩, some ⟨_, _, _⟩, _, some ⟨_, _, [[_, _, _, _, _, _, _, _, _]]⟩] rfl ⟨rfl, rfl, rfl, rfl, rfl, rfl, rfl, rfl, rfl, trivial⟩ rfl rfl ?_
    refine wn ?_
    exact ⟨_, by omega, k + 1, _, _, _, rfl, rfl, by omega, by omega, by rw [hle]; exact fold_step (f := fun l k => visitF g b k l) hk0 hc3, hc', hok2⟩
  try simp only [td] at hc3
  refine W.exit (ex1 (ex1 (ex2 (nm ?_))))
  refine sr ?_
  refine WL.v (Val.fal (off := 1) Tryd.underlying35 rfl rfl zs22 (tm rfl)) rfl ?_
  refine WL.v (Val.loadLive Tryd.underlying22 rfl (tm rfl) rfl rfl rfl rfl rfl) rfl ?_
  refine WL.v (Val.ln (enc := encI) Tryd.underlying22 (tm rfl)) rfl ?_
  refine WL.stp rfl (Stp.makeI Tryd.underlying22 zs3 zb3 zz3 (tm rfl) (tm rfl) (by omega) (by omega) rfl) ?_
  refine asg rfl rfl ?_
  refine WL.norm 77 [(0, _), (1, _), (4, _), (5, _), (7, _), (10, _)] [some ⟨_, _, [[_]]⟩, some ⟨_, _, [[_]]⟩, some ⟨_, _, [[_]]⟩, some ⟨_, _, [[_]]⟩, some ⟨_, _, [[_]]⟩, some ⟨_, _, _⟩, _, some ⟨_, _, [[_, _, _, _, _, _, _, _, _]]⟩, some ⟨_, _, _⟩] rfl ⟨rfl, rfl, rfl, rfl, rfl, rfl, trivial⟩ rfl rfl ?_
  refine wn ?_
  refine W.seq ?_
  refine W.seq ?_
  obtain ⟨hcl2, hcl3, hcl4, hcl5⟩ := canonAt_ok g l' l'.length
  have hll2 := hok'.len
  have hv : visitF g (b + 1) n l = l' ++ [n] := by rw [visitF, if_neg (fun hm => by have := hto.2 (by rw [List.take_length]; exact hm); omega), hle, show k.toNat = (gA g n).kids.length from by omega, List.take_length]
  refine W.region ?_
  refine WL.v (Val.fal (off := 1) Tryd.underlying35 rfl rfl zs22 (tm rfl)) rfl ?_
  refine WL.v (Val.loadLive Tryd.underlying22 rfl (tm rfl) rfl rfl rfl rfl rfl) rfl ?_
  refine WL.v (Val.ln (enc := encI) Tryd.underlying22 (tm rfl)) rfl ?_
  refine WL.v (Val.move Ev.const) rfl ?_
  refine WL.norm 77 [(0, _), (1, _), (4, _), (5, _), (7, _), (10, _), (39, _), (40, _), (41, _)] [some ⟨_, _, [[_]]⟩, some ⟨_, _, [[_]]⟩, some ⟨_, _, [[_]]⟩, some ⟨_, _, [[_]]⟩, some ⟨_, _, [[_]]⟩, some ⟨_, _, _⟩, _, some ⟨_, _, [[_, _, _, _, _, _, _, _, _]]⟩, some ⟨_, _, _⟩] rfl ⟨rfl, rfl, rfl, rfl, rfl, rfl, rfl, rfl, rfl, trivial⟩ rfl rfl ?_
  refine wn ?_
  refine W.norm 77 [(0, _), (1, _), (4, _), (5, _), (7, _), (10, _), (39, _), (40, _), (41, _)] [some ⟨_, _, [[_]]⟩, some ⟨_, _, [[_]]⟩, some ⟨_, _, [[_]]⟩, some ⟨_, _, [[_]]⟩, some ⟨_, _, [[_]]⟩, some ⟨_, _, _⟩, _, some ⟨_, _, [[_, _, _, _, _, _, _, _, _]]⟩, some ⟨_, _, _⟩] rfl ⟨rfl, rfl, rfl, rfl, rfl, rfl, rfl, rfl, rfl, trivial⟩ rfl rfl ?_
  refine W.block (W.loop (fun nn S => ∃ (k : Int) (ks : List Int), S = ⟨77, [(0, .i n), (1, .ptr 0 0 1 0 0), (4, .ptr 3 0 1 0 0), (5, .ptr 4 0 1 0 0), (7, .ptr 7 0 9 0 0), (10, .row 8 0 1 0 (gA g n).kids.length), (39, .f (.ints (gA g n).kids)), (40, .i (gA g n).kids.length), (41, .i k)], HC g gN (canonAt g l' l'.length) vC o6 ++ [some ⟨0, 9, [(gA g n).cells.map .f]⟩, some ⟨0, 1, fz (ks.map encI)⟩], []⟩ ∧ nn = (((gA g n).kids.length - k).toNat) ∧ (0 ≤ k) ∧ (k ≤ (gA g n).kids.length) ∧ (ks.length = (gA g n).kids.length) ∧ (∀ j : Nat, j < k.toNat → gA ks j = gA (canonAt g l' l'.length).1 (gA (gA g n).kids j))) ⟨0, _, rfl, rfl, by omega, by omega, by simp, fun j hj => absurd hj (by simp)⟩ ?_)
  rintro nn S ⟨k, ks, rfl, rfl, hq0, hq1, hkl, hks⟩
  refine sr ?_
  refine WL.v (Val.lss (tm rfl) (tm rfl)) rfl ?_
  refine WL.norm 77 [(0, _), (1, _), (4, _), (5, _), (7, _), (10, _), (39, _), (40, _), (41, _), (42, _)] [some ⟨_, _, [[_]]⟩, some ⟨_, _, [[_]]⟩, some ⟨_, _, [[_]]⟩, some ⟨_, _, [[_]]⟩, some ⟨_, _, [[_]]⟩, some ⟨_, _, _⟩, _, some ⟨_, _, [[_, _, _, _, _, _, _, _, _]]⟩, some ⟨_, _, _⟩] rfl ⟨rfl, rfl, rfl, rfl, rfl, rfl, rfl, rfl, rfl, rfl, trivial⟩ rfl rfl ?_
  refine wn ?_
  refine W.seq ?_
  refine W.condP rfl (fun hc9 => ?_) (fun hc9 => ?_)
  · try simp only [td] at hc9
    refine W.skip (nm ?_)
    refine W.seq ?_
    refine W.block ?_
    refine sr ?_
    refine mv rfl rfl ?_
    refine WL.v (Val.ix (enc := encI) Tryd.underlying22 zs3 (tm rfl) (tm rfl) (by omega) (gA_at (by omega) (by omega))) rfl ?_
    refine WL.v (Val.load Tryd.underlying3 rfl (tm rfl)) rfl ?_
    refine asg rfl rfl ?_
    refine asg rfl rfl ?_
    refine WL.norm 77 [(0, _), (1, _), (4, _), (5, _), (7, _), (10, _), (11, _), (12, _), (39, _), (40, _), (41, _)] [some ⟨_, _, [[_]]⟩, some ⟨_, _, [[_]]⟩, some ⟨_, _, [[_]]⟩, some ⟨_, _, [[_]]⟩, some ⟨_, _, [[_]]⟩, some ⟨_, _, _⟩, _, some ⟨_, _, [[_, _, _, _, _, _, _, _, _]]⟩, some ⟨_, _, _⟩] rfl ⟨rfl, rfl, rfl, rfl, rfl, rfl, rfl, rfl, rfl, rfl, rfl, trivial⟩ rfl rfl ?_
    refine wn ?_
    have hkk := hg.kid h0 hn hq0 hc9
    refine W.region ?_
    refine mv rfl rfl ?_
    refine mv rfl rfl ?_
    refine WL.v (Val.loadLive Tryd.underlying22 rfl (tm rfl) rfl rfl rfl rfl rfl) rfl ?_
    refine mv rfl rfl ?_
    refine WL.v (Val.indexAddrLive Tryd.underlying22 zs3 (tm rfl) (tm rfl) (by omega) (by omega)) rfl ?_
    refine WL.v (Val.loadLive Tryd.underlying3 rfl (tm rfl) rfl rfl rfl (fz_at (by omega) (by omega)) rfl) rfl ?_
    refine WL.v (Val.indexAddrLive Tryd.underlying22 zs3 (tm rfl) (tm rfl) (by omega) (by omega)) rfl ?_
    refine WL.stp rfl (Stp.storeI zs3 (tm rfl) (tm rfl) rfl (by omega) (by omega) rfl) ?_
    refine WL.norm 77 [(0, _), (1, _), (4, _), (5, _), (7, _), (10, _), (39, _), (40, _), (41, _)] [some ⟨_, _, [[_]]⟩, some ⟨_, _, [[_]]⟩, some ⟨_, _, [[_]]⟩, some ⟨_, _, [[_]]⟩, some ⟨_, _, [[_]]⟩, some ⟨_, _, _⟩, _, some ⟨_, _, [[_, _, _, _, _, _, _, _, _]]⟩, some ⟨_, _, _⟩] rfl ⟨rfl, rfl, rfl, rfl, rfl, rfl, rfl, rfl, rfl, trivial⟩ rfl rfl ?_
    refine WL.nil (nb (nm ?_))
    refine W.region ?_
    refine WL.v (Val.add (tm rfl) Ev.const (IntWalk.i64_in _ (by omega))) rfl ?_
    refine mv rfl rfl ?_
    refine WL.norm 77 [(0, _), (1, _), (4, _), (5, _), (7, _), (10, _), (39, _), (40, _), (41, _)] [some ⟨_, _, [[_]]⟩, some ⟨_, _, [[_]]⟩, some ⟨_, _, [[_]]⟩, some ⟨_, _, [[_]]⟩, some ⟨_, _, [[_]]⟩, some ⟨_, _, _⟩, _, some ⟨_, _, [[_, _, _, _, _, _, _, _, _]]⟩, some ⟨_, _, _⟩] rfl ⟨rfl, rfl, rfl, rfl, rfl, rfl, rfl, rfl, rfl, trivial⟩ rfl rfl ?_
    refine wn ?_
    exact ⟨_, by omega, k + 1, _, rfl, rfl, by omega, by omega, by rw [List.length_set]; exact hkl, set_step hq0 (by omega) (by rw [i_nat hq0]) hks⟩
  try simp only [td] at hc9
  refine W.exit (ex1 (ex1 (ex2 (nm ?_))))
  refine sr ?_
  refine mv rfl rfl ?_
  refine WL.v (Val.fal (off := 1) Tryd.underlying35 rfl rfl zs22 (tm rfl)) rfl ?_
  refine WL.stp rfl (Stp.st (tm rfl) (tm rfl) zs22 rfl rfl rfl rfl rfl rfl rfl rfl) ?_
  refine WL.norm 77 [(0, _), (1, _), (4, _), (5, _), (7, _)] [some ⟨_, _, [[_]]⟩, some ⟨_, _, [[_]]⟩, some ⟨_, _, [[_]]⟩, some ⟨_, _, [[_]]⟩, some ⟨_, _, [[_]]⟩, some ⟨_, _, _⟩, _, some ⟨_, _, [[_, _, _, _, _, _, _, _, _]]⟩, some ⟨_, _, _⟩] rfl ⟨rfl, rfl, rfl, rfl, rfl, trivial⟩ rfl rfl ?_
  refine wn ?_
  refine W.seq ?_
  refine sr ?_
  refine WL.v (Val.fal (off := 0) Tryd.underlying35 rfl rfl zs3 (tm rfl)) rfl ?_
  refine WL.v (Val.loadLive Tryd.underlying3 rfl (tm rfl) rfl rfl rfl rfl rfl) rfl ?_
  refine WL.v (Val.eql (tm rfl) Ev.const) rfl ?_
  refine WL.norm 77 [(0, _), (1, _), (4, _), (5, _), (7, _), (58, _)] [some ⟨_, _, [[_]]⟩, some ⟨_, _, [[_]]⟩, some ⟨_, _, [[_]]⟩, some ⟨_, _, [[_]]⟩, some ⟨_, _, [[_]]⟩, some ⟨_, _, _⟩, _, some ⟨_, _, [[_, _, _, _, _, _, _, _, _]]⟩, some ⟨_, _, _⟩] rfl ⟨rfl, rfl, rfl, rfl, rfl, rfl, trivial⟩ rfl rfl ?_
  refine wn ?_
  refine W.condP rfl (fun hc14 => ?_) (fun hc14 => ?_)
  · try simp only [td] at hc14
    refine sr ?_
    refine WL.v (Val.loadLive Tryd.underlying3 rfl (tm rfl) rfl rfl rfl rfl rfl) rfl ?_
    refine WL.callV ca35 (evc (tm rfl) evn) (lo1 lo0) rfl (c_Itoa2 W0 N _ (by omega) (by omega)) ?_
    rintro _ rfl
    refine WL.v (Val.addS Ev.const (tm rfl) (by have := decB_size (canonAt g l' l'.length).2.2; show 1 + _ ≤ _; omega)) rfl ?_
    refine WL.v (Val.fal (off := 5) Tryd.underlying35 rfl rfl zs9 (tm rfl)) rfl ?_
    refine WL.stp rfl (Stp.st (tm rfl) (tm rfl) zs9 rfl rfl rfl rfl rfl rfl rfl rfl) ?_
    refine WL.norm 77 [(0, _), (1, _), (4, _), (5, _), (7, _)] [some ⟨_, _, [[_]]⟩, some ⟨_, _, [[_]]⟩, some ⟨_, _, [[_]]⟩, some ⟨_, _, [[_]]⟩, some ⟨_, _, [[_]]⟩, some ⟨_, _, _⟩, _, some ⟨_, _, [[_, _, _, _, _, _, _, _, _]]⟩, some ⟨_, _, _⟩] rfl ⟨rfl, rfl, rfl, rfl, rfl, trivial⟩ rfl rfl ?_
    refine wn ?_
    refine W.region ?_
    refine WL.v (Val.loadLive Tryd.underlying3 rfl (tm rfl) rfl rfl rfl rfl rfl) rfl ?_
    refine WL.v (Val.add (tm rfl) Ev.const (IntWalk.i64_in _ (by omega))) rfl ?_
    refine WL.stp rfl (Stp.st (tm rfl) (tm rfl) zs3 rfl rfl rfl rfl rfl rfl rfl rfl) ?_
    refine WL.norm 77 [(0, _), (1, _), (5, _), (7, _)] [some ⟨_, _, [[_]]⟩, some ⟨_, _, [[_]]⟩, some ⟨_, _, [[_]]⟩, some ⟨_, _, [[_]]⟩, some ⟨_, _, [[_]]⟩, some ⟨_, _, _⟩, _, some ⟨_, _, [[_, _, _, _, _, _, _, _, _]]⟩, some ⟨_, _, _⟩] rfl ⟨rfl, rfl, rfl, rfl, trivial⟩ rfl rfl ?_
    refine wn ?_
    refine sr ?_
    refine WL.v (Val.loadLive Tryd.underlying22 rfl (tm rfl) rfl rfl rfl rfl rfl) rfl ?_
    refine mv rfl rfl ?_
    refine WL.v (Val.fal (off := 0) Tryd.underlying39 rfl rfl zs23 (tm rfl)) rfl ?_
    refine WL.v (Val.loadLive Tryd.underlying23 rfl (tm rfl) rfl rfl rfl rfl rfl) rfl ?_
    refine WL.v (Val.lenA Tryd.underlying23 (tm rfl) hc) rfl ?_
    refine WL.v (Val.indexAddrLive Tryd.underlying22 zs3 (tm rfl) (tm rfl) (by omega) (by omega)) rfl ?_
    refine WL.stp rfl (Stp.storeI zs3 (tm rfl) (tm rfl) rfl (by omega) (by omega) rfl) ?_
    refine WL.norm 77 [(5, _), (7, _)] [some ⟨_, _, [[_]]⟩, some ⟨_, _, [[_]]⟩, some ⟨_, _, [[_]]⟩, some ⟨_, _, [[_]]⟩, some ⟨_, _, [[_]]⟩, some ⟨_, _, _⟩, _, some ⟨_, _, [[_, _, _, _, _, _, _, _, _]]⟩, some ⟨_, _, _⟩] rfl ⟨rfl, rfl, trivial⟩ rfl rfl ?_
    refine wn ?_
    refine W.region ?_
    refine WL.v (Val.fal (off := 0) Tryd.underlying39 rfl rfl zs23 (tm rfl)) rfl ?_
    refine WL.v (Val.loadLive Tryd.underlying23 rfl (tm rfl) rfl rfl rfl rfl rfl) rfl ?_
    refine WL.v (Val.loadLiveAgg Tryd.underlying35 rfl zs35 (tm rfl) rfl rfl rfl rfl (bl rfl)) rfl ?_
    refine WL.cut (env := [(5, _), (72, _), (73, _)]) (h' := [some ⟨_, _, [[_]]⟩, some ⟨_, _, [[_]]⟩, some ⟨_, _, [[_]]⟩, some ⟨_, _, [[_]]⟩, some ⟨_, _, [[_]]⟩, some ⟨_, _, _⟩, _]) (Fewer.pre _ rfl) (.inr (HLo.box (lo4 rfl lo0) (HLo.box (lo1 lo0) (HLo.box (lo5 rfl lo0) (HLo.box (lo1 lo0) (HLo.box (lo5 (lo_acc hc rfl) lo0) (HLo.fz (HLo.o (oLo_acc (by assumption)) HLo.nil)))))))) (hm7 _) ⟨⟨_, rfl, (.same rfl)⟩, ⟨_, rfl, (.same (lo_acc hc rfl))⟩, ⟨_, rfl, (.agg (.same rfl) (.agg (.whole rfl rfl (by first | (simp; done) | (simp only [List.length_map]; omega)) (encL (by intro x; rfl))) (.agg (.same rfl) (.agg (.same rfl) (.agg (.same rfl) (.agg (.same rfl) (.agg (.same rfl) (.agg (.same rfl) (.agg (.same rfl) .agg0)))))))))⟩, trivial⟩ ?_
    refine WL.stp rfl (Stp.buildFrozen (xs := [_]) (fs := ([{ gA g n with kids := ks, text := ⟨#[118]⟩ ++ decB (canonAt g l' l'.length).2.2 }] : List Nd).map Nd.cells) Tryd.underlying23 zs35 zz35 rfl rfl (evc (tm rfl) evn) fitL (bl rfl) rfl rfl) ?_
    refine WL.appE (enc := Nd.cells) ap23_23 (tm rfl) rfl hc (ArgE.lst (enc := Nd.cells) (tm rfl) (by intro x; rfl)) (by rw [hcl3]; simp only [List.length_cons, List.length_nil]; omega) rfl ?_
    intro v' o' hc'
    obtain ⟨gen', rfl, rfl⟩ := Acc.some hc' (by simp)
    refine WL.v (Val.fal (off := 0) Tryd.underlying39 rfl rfl zs23 (tm rfl)) rfl ?_
    refine WL.stp rfl (Stp.st (tm rfl) (tm rfl) zs23 rfl rfl rfl rfl rfl rfl rfl rfl) ?_
    refine WL.norm 77 [] [some ⟨_, _, [[_]]⟩, some ⟨_, _, [[_]]⟩, some ⟨_, _, [[_]]⟩, some ⟨_, _, [[_]]⟩, some ⟨_, _, [[_]]⟩, some ⟨_, _, _⟩, _] rfl trivial rfl rfl ?_
    refine WL.nil ?_
    exact Ret.keep (.inl rfl) rfl (res0 rfl) rfl (RC.fin hv ((canon_more hg h0 hn (by simp [fz, hcl3]) hkl (fun j hj => hks j (by omega))).trans (if_pos hc14)) hc')
  try simp only [td] at hc14
  refine W.skip (nm ?_)
  refine sr ?_
  refine WL.v (Val.loadLive Tryd.underlying22 rfl (tm rfl) rfl rfl rfl rfl rfl) rfl ?_
  refine mv rfl rfl ?_
  refine WL.v (Val.fal (off := 0) Tryd.underlying39 rfl rfl zs23 (tm rfl)) rfl ?_
  refine WL.v (Val.loadLive Tryd.underlying23 rfl (tm rfl) rfl rfl rfl rfl rfl) rfl ?_
  refine WL.v (Val.lenA Tryd.underlying23 (tm rfl) hc) rfl ?_
  refine WL.v (Val.indexAddrLive Tryd.underlying22 zs3 (tm rfl) (tm rfl) (by omega) (by omega)) rfl ?_
  refine WL.stp rfl (Stp.storeI zs3 (tm rfl) (tm rfl) rfl (by omega) (by omega) rfl) ?_
  refine WL.norm 77 [(5, _), (7, _)] [some ⟨_, _, [[_]]⟩, some ⟨_, _, [[_]]⟩, some ⟨_, _, [[_]]⟩, some ⟨_, _, [[_]]⟩, some ⟨_, _, [[_]]⟩, some ⟨_, _, _⟩, _, some ⟨_, _, [[_, _, _, _, _, _, _, _, _]]⟩, some ⟨_, _, _⟩] rfl ⟨rfl, rfl, trivial⟩ rfl rfl ?_
  refine wn ?_
  refine W.region ?_
  refine WL.v (Val.fal (off := 0) Tryd.underlying39 rfl rfl zs23 (tm rfl)) rfl ?_
  refine WL.v (Val.loadLive Tryd.underlying23 rfl (tm rfl) rfl rfl rfl rfl rfl) rfl ?_
  refine WL.v (Val.loadLiveAgg Tryd.underlying35 rfl zs35 (tm rfl) rfl rfl rfl rfl (bl rfl)) rfl ?_
  refine WL.cut (env := [(5, _), (72, _), (73, _)]) (h' := [some ⟨_, _, [[_]]⟩, some ⟨_, _, [[_]]⟩, some ⟨_, _, [[_]]⟩, some ⟨_, _, [[_]]⟩, some ⟨_, _, [[_]]⟩, some ⟨_, _, _⟩, _]) (Fewer.pre _ rfl) (.inr (HLo.box (lo4 rfl lo0) (HLo.box (lo1 lo0) (HLo.box (lo5 rfl lo0) (HLo.box (lo1 lo0) (HLo.box (lo5 (lo_acc hc rfl) lo0) (HLo.fz (HLo.o (oLo_acc (by assumption)) HLo.nil)))))))) (hm7 _) ⟨⟨_, rfl, (.same rfl)⟩, ⟨_, rfl, (.same (lo_acc hc rfl))⟩, ⟨_, rfl, (.agg (.same rfl) (.agg (.whole rfl rfl (by first | (simp; done) | (simp only [List.length_map]; omega)) (encL (by intro x; rfl))) (.agg (.same rfl) (.agg (.same rfl) (.agg (.same rfl) (.agg (.same rfl) (.agg (.same rfl) (.agg (.same rfl) (.agg (.same rfl) .agg0)))))))))⟩, trivial⟩ ?_
  refine WL.stp rfl (Stp.buildFrozen (xs := [_]) (fs := ([{ gA g n with kids := ks }] : List Nd).map Nd.cells) Tryd.underlying23 zs35 zz35 rfl rfl (evc (tm rfl) evn) fitL (bl rfl) rfl rfl) ?_
  refine WL.appE (enc := Nd.cells) ap23_23 (tm rfl) rfl hc (ArgE.lst (enc := Nd.cells) (tm rfl) (by intro x; rfl)) (by rw [hcl3]; simp only [List.length_cons, List.length_nil]; omega) rfl ?_
  intro v' o' hc'
  obtain ⟨gen', rfl, rfl⟩ := Acc.some hc' (by simp)
  refine WL.v (Val.fal (off := 0) Tryd.underlying39 rfl rfl zs23 (tm rfl)) rfl ?_
  refine WL.stp rfl (Stp.st (tm rfl) (tm rfl) zs23 rfl rfl rfl rfl rfl rfl rfl rfl) ?_
  refine WL.norm 77 [] [some ⟨_, _, [[_]]⟩, some ⟨_, _, [[_]]⟩, some ⟨_, _, [[_]]⟩, some ⟨_, _, [[_]]⟩, some ⟨_, _, [[_]]⟩, some ⟨_, _, _⟩, _] rfl trivial rfl rfl ?_
  refine WL.nil ?_
  exact Ret.keep (.inl rfl) rfl (res0 rfl) rfl (RC.fin hv ((canon_more hg h0 hn (by simp [fz, hcl3]) hkl (fun j hj => hks j (by omega))).trans (if_neg hc14)) hc')
end Go.Aw
namespace Go.Aw
open Go.RowKit Go.Proofs
abbrev idsM : List Nat := [3, 0, 6, 5, 4, 2, 7]
abbrev capsM : List AV := [.ptr 3 0 1 0 0, .ptr 0 0 1 0 0, .ptr 6 0 1 0 0, .ptr 5 0 1 0 0, .ptr 4 0 1 0 0]
abbrev HM (g : List Nd) (v1 : AV) (gN : Nat) (c : List Int × List Nd × Int) (vC : AV) (o : Option Row) : Heap :=
  [some ⟨0, 1, [[.f (.nodes g)]]⟩, some ⟨0, 1, [[v1]]⟩, some ⟨gN, 1, fz (c.1.map encI)⟩, some ⟨0, 1, [[.row 2 gN 1 0 g.length]]⟩, some ⟨0, 1, [[vC]]⟩, some ⟨0, 1, [[.i c.2.2]]⟩, some ⟨0, 1, [[.fn (.func 34) capsM]]⟩, o]
theorem rnL_f (ρ : Nat → Nat) : ∀ xs : List FV, AV.rnL ρ (xs.map .f) = xs.map .f
  | [] => rfl
  | x :: xs => by simp [AV.rnL, AV.rn, rnL_f ρ xs]
theorem rn_fz (ρ : Nat → Nat) (gen s : Nat) (xs : List (List FV)) : Row.rn ρ ⟨gen, s, fz xs⟩ = ⟨gen, s, fz xs⟩ := by
  simp only [Row.rn, fz, List.map_map]
  congr 1
  exact List.map_congr_left fun x _ => rnL_f ρ x
theorem Acc.rn_row {j s : Nat} {xs : List (List FV)} {v : AV} {o : Option Row} (ρ : Nat → Nat) (ha : Acc j s (fz xs) v o) : o.map (Row.rn ρ) = o := by
  rcases ha with ⟨_, _, rfl⟩ | ⟨gen, _, rfl⟩
  · rfl
  · simp [rn_fz]
theorem Acc.to {j j' s : Nat} {xs : List (List AV)} {v : AV} {o : Option Row} {ρ : Nat → Nat} (hj : ρ j = j') (ha : Acc j s xs v o) : Acc j' s xs (v.rn ρ) o := by
  rcases ha with ⟨h, rfl, rfl⟩ | ⟨gen, rfl, rfl⟩
  · exact .inl ⟨h, rfl, rfl⟩
  · exact .inr ⟨gen, by simp [AV.rn, hj], rfl⟩
theorem Acc.back {j j' s : Nat} {xs : List (List AV)} {v : AV} {o : Option Row} {ρ : Nat → Nat} (hj : ρ j = j') (ha : Acc j' s xs v o) : ∃ v0, Acc j s xs v0 o ∧ v0.rn ρ = v := by
  rcases ha with ⟨h, rfl, rfl⟩ | ⟨gen, rfl, rfl⟩
  · exact ⟨_, .inl ⟨h, rfl, rfl⟩, rfl⟩
  · exact ⟨_, .inr ⟨gen, rfl, rfl⟩, by simp [AV.rn, hj]⟩
theorem HM.merge {g : List Nd} {v1 : AV} {gN : Nat} {c c' : List Int × List Nd × Int} {vC vC' : AV} {o o' : Option Row} (ho : Acc 6 9 (fz (c'.2.1.map Nd.cells)) vC' o') : mergeL (rhoL idsM) idsM (HC g gN c' vC' o') (HM g v1 gN c vC o) = HM g v1 gN c' (vC'.rn (rhoL idsM)) o' := by
  have h1 := rn_fz (rhoL idsM) gN 1 (c'.1.map encI)
  have h2 := ho.rn_row (rhoL idsM)
  show _ = [_, _, _, _, _, _, _, _]
  simp only [mergeL, Option.map_some, h1, h2]
  rfl
theorem HM.sub {g : List Nd} {v1 : AV} {gN : Nat} {c : List Int × List Nd × Int} {vC : AV} {o : Option Row} (ho : Acc 6 9 (fz (c.2.1.map Nd.cells)) vC o) : Sub (HM g v1 gN c (vC.rn (rhoL idsM)) o) (HC g gN c vC o) (rhoL idsM) (sigL idsM) := by
  refine Sub.ofIds (by decide) ?_
  have h1 := rn_fz (rhoL idsM) gN 1 (c.1.map encI)
  have h2 := ho.rn_row (rhoL idsM)
  simp only [List.map_cons, List.map_nil, Option.map_some, h1, h2]
  rfl
theorem WL.visitM {W0 : World} {N : Nat} {X : Nat → Prop} {m : Nat} {ops : Array Oper} {Q : Post} {rest : List Oper} {S : St} {d : Option Nat} {ty : TypeId} {pos : String} {af : Array Edge} {gd : Option (Nat × Bool)} {ts : Array TypeId} {t : Nat} {x : Operand} {g : List Nd} {v1 : AV} {gN : Nat} {l : List Int} {n : Int} {vC : AV} {o : Option Row}
    (hg : WFG g) (h99 : g.length ≤ 99) (h0 : 0 ≤ n) (hn : n < g.length) (hok : VOk g l) (ha : Acc 7 9 (fz ((canonAt g l l.length).2.1.map Nd.cells)) vC o)
    (hcl : Fun ⟨(En W0 N).P, X, (En W0 N).W0, (En W0 N).N⟩ S (.tmp t) 34 capsM) (hx : Ev ⟨(En W0 N).P, X, (En W0 N).W0, (En W0 N).N⟩ S x (.i n)) (hd : dstOk d S.n = true) (hheap : S.heap = HM g v1 gN (canonAt g l l.length) vC o) (hgd : gd = none)
    (h : ∀ vC' o', Acc 7 9 (fz ((canonAt g (visitF g g.length n l) (visitF g g.length n l).length).2.1.map Nd.cells)) vC' o' → WL ⟨(En W0 N).P, X, (En W0 N).W0, (En W0 N).N⟩ m ops Q rest (({ S with heap := HM g v1 gN (canonAt g (visitF g g.length n l) (visitF g g.length n l).length) vC' o' } : St).putD d (.tup []))) :
    WL ⟨(En W0 N).P, X, (En W0 N).W0, (En W0 N).N⟩ m ops Q (⟨d, .call ⟨.value (.tmp t), #[x], ts⟩, ty, pos, af, gd⟩ :: rest) S := by
  obtain ⟨v0, ha0, rfl⟩ := Acc.back (j := 6) (ρ := rhoL idsM) rfl ha
  have := WL.callSub (K := ⟨(En W0 N).P, X, (En W0 N).W0, (En W0 N).N⟩) (m := m) (ops := ops) (Q := Q) (rest := rest) (S := S) (d := d) (ty := ty) (pos := pos) (af := af) (gd := gd) (ts := ts) (c := .tmp t) (xs := [x]) (args := [.i n]) (caps := capsC) (ρ := rhoL idsM) (σ := sigL idsM) (fun h' => mergeL (rhoL idsM) idsM h' S.heap) ca34 hcl (evc hx evn) rfl hd (by rw [hheap]; exact HM.sub ha0) (HC.lo ha0) (c_visitM W0 N g hg h99 gN g.length n l v0 o (by omega) h0 hn hok ha0) ?_ hgd ?_
  · exact this
  · intro r h' hr
    obtain ⟨a1, a2, a3⟩ := RC.ok (n := 7) rfl r h' hr
    refine ⟨a1, a2, Merged.ofIds (by decide) rfl (fun j hj => by rw [hheap]; simp only [idsM, List.mem_cons, List.not_mem_nil, or_false] at hj; show j < 8; omega) a3⟩
  · rintro r h' ⟨rfl, vC', o', rfl, hc'⟩
    rw [hheap, HM.merge hc']
    exact h _ _ (Acc.to rfl hc')
theorem Acc.fit {j s : Nat} {xs : List (List AV)} {v : AV} {o : Option Row} (ha : Acc j s xs v o) : (AV.agg [v]).fit = true := by
  rcases ha with ⟨_, rfl, _⟩ | ⟨_, rfl, _⟩ <;> rfl
end Go.Aw
namespace Go.Aw
open Go.RowKit Go.Proofs

theorem set_minus {ks : List Int} {k : Int} (h0 : 0 ≤ k) (hk : k < ks.length) (h : ∀ j : Nat, j < k.toNat → gA ks j = -1) : ∀ j : Nat, j < (k + 1).toNat → gA (ks.set k.toNat (-1)) j = -1 :=
  set_step (F := fun _ => -1) h0 hk rfl h
theorem all_minus {ks : List Int} {n : Nat} (hl : ks.length = n) (h : ∀ j : Nat, j < n → gA ks j = -1) : ks = List.replicate n (-1) := by
  apply List.ext_getElem?
  intro j
  by_cases hj : j < n
  · have := gA_at (l := ks) (i := (j : Int)) (by omega) (by omega)
    rw [Int.toNat_natCast] at this
    rw [this, h j hj, List.getElem?_replicate, if_pos hj]
  · rw [List.getElem?_eq_none (by omega), List.getElem?_eq_none (by simp; omega)]

-- match.Canon
set_option maxHeartbeats 1000000 in
theorem c_CanonM (W0 : World) (N : Nat) (g : List Nd) (hg : WFG g) (h99 : g.length ≤ 99) (roots : List Int) (hr : roots.length ≤ 1000000) : AC (En W0 N) 16 [.agg [.f (.nodes g)], .f (.ints roots)] [] (fun r h => h = [] ∧ r = .tup [.agg [.f (.nodes (canonR g roots).1)], .f (.ints (canonR g roots).2.1), .i (canonR g roots).2.2]) := by
  have hgl := hg.len
  refine AC.enter Tryd.func16 rfl Tryd.ntmps16 (bl rfl) fun X => ?_
  refine sr ?_
  refine WL.stp rfl (Stp.box (tm rfl) rfl rfl) ?_
  refine WL.stp rfl (Stp.alloc zz39 rfl rfl) ?_
  refine WL.v (Val.assign Ev.const) rfl ?_
  refine WL.v (Val.assign Ev.const) rfl ?_
  refine WL.norm 54 [(1, _), (2, _), (4, _)] [some ⟨_, _, [[_]]⟩, some ⟨_, _, [[_]]⟩] rfl ⟨rfl, rfl, rfl, trivial⟩ rfl rfl ?_
  refine wn ?_
  refine sr ?_
  refine WL.v (Val.fal (off := 0) Tryd.underlying39 rfl rfl zs23 (tm rfl)) rfl ?_
  refine WL.v (Val.loadLive Tryd.underlying23 rfl (tm rfl) rfl rfl rfl rfl rfl) rfl ?_
  refine WL.v (Val.ln (enc := Nd.cells) Tryd.underlying23 (tm rfl)) rfl ?_
  refine WL.stp rfl (Stp.makeI Tryd.underlying22 zs3 zb3 zz3 (tm rfl) (tm rfl) (by omega) (by omega) rfl) ?_
  refine WL.stp rfl (Stp.alloc zz22 rfl rfl) ?_
  refine WL.stp rfl (Stp.st (tm rfl) (tm rfl) zs22 rfl rfl rfl rfl rfl rfl rfl rfl) ?_
  refine WL.norm 54 [(1, _), (2, _), (4, _), (7, _)] [some ⟨_, _, [[_]]⟩, some ⟨_, _, [[_]]⟩, some ⟨_, _, _⟩, some ⟨_, _, [[_]]⟩] rfl ⟨rfl, rfl, rfl, rfl, trivial⟩ rfl rfl ?_
  refine wn ?_
  refine W.seq ?_
  refine sr ?_
  refine WL.v (Val.loadLive Tryd.underlying22 rfl (tm rfl) rfl rfl rfl rfl rfl) rfl ?_
  refine WL.v (Val.lenRow Tryd.underlying22 (tm rfl)) rfl ?_
  refine WL.v (Val.move Ev.const) rfl ?_
  refine WL.norm 54 [(1, _), (2, _), (4, _), (7, _), (21, _), (22, _)] [some ⟨_, _, [[_]]⟩, some ⟨_, _, [[_]]⟩, some ⟨_, _, _⟩, some ⟨_, _, [[_]]⟩] rfl ⟨rfl, rfl, rfl, rfl, rfl, rfl, trivial⟩ rfl rfl ?_
  refine wn ?_
  refine W.norm 54 [(1, _), (2, _), (4, _), (7, _), (21, _), (22, _)] [some ⟨_, _, [[_]]⟩, some ⟨_, _, [[_]]⟩, some ⟨_, _, _⟩, some ⟨_, _, [[_]]⟩] rfl ⟨rfl, rfl, rfl, rfl, rfl, rfl, trivial⟩ rfl rfl ?_
  refine W.block (W.loop (fun nn S => ∃ (k : Int) (ks : List Int), S = ⟨54, [(1, .f (.ints roots)), (2, .ptr 0 0 1 0 0), (4, .ptr 1 0 1 0 0), (7, .ptr 3 0 1 0 0), (21, .i g.length), (22, .i k)], [some ⟨0, 1, [[.f (.nodes g)]]⟩, some ⟨0, 1, [[.nil]]⟩, some ⟨0, 1, fz (ks.map encI)⟩, some ⟨0, 1, [[.row 2 0 1 0 g.length]]⟩], []⟩ ∧ nn = ((g.length - k).toNat) ∧ (0 ≤ k) ∧ (k ≤ g.length) ∧ (ks.length = g.length) ∧ (∀ j : Nat, j < k.toNat → gA ks j = -1)) ⟨0, _, rfl, rfl, by omega, by omega, by simp, fun j hj => absurd hj (by simp)⟩ ?_)
  rintro nn S ⟨k, ks, rfl, rfl, hk0, hk1, hkl, hks⟩
  refine sr ?_
  refine WL.v (Val.lss (tm rfl) (tm rfl)) rfl ?_
  refine WL.norm 54 [(1, _), (2, _), (4, _), (7, _), (21, _), (22, _), (23, _)] [some ⟨_, _, [[_]]⟩, some ⟨_, _, [[_]]⟩, some ⟨_, _, _⟩, some ⟨_, _, [[_]]⟩] rfl ⟨rfl, rfl, rfl, rfl, rfl, rfl, rfl, trivial⟩ rfl rfl ?_
  refine wn ?_
  refine W.seq ?_
  refine W.condP rfl (fun hc3 => ?_) (fun hc3 => ?_)
  · try simp only [td] at hc3
    refine W.skip (nm ?_)
    refine W.seq ?_
    refine W.block ?_
    refine sr ?_
    refine mv rfl rfl ?_
    refine asg rfl rfl ?_
    refine WL.norm 54 [(1, _), (2, _), (4, _), (7, _), (8, _), (21, _), (22, _)] [some ⟨_, _, [[_]]⟩, some ⟨_, _, [[_]]⟩, some ⟨_, _, _⟩, some ⟨_, _, [[_]]⟩] rfl ⟨rfl, rfl, rfl, rfl, rfl, rfl, rfl, trivial⟩ rfl rfl ?_
    refine wn ?_
    refine W.region ?_
    refine WL.v (Val.loadLive Tryd.underlying22 rfl (tm rfl) rfl rfl rfl rfl rfl) rfl ?_
    refine mv rfl rfl ?_
    refine WL.v (Val.indexAddrLive Tryd.underlying22 zs3 (tm rfl) (tm rfl) (by omega) (by omega)) rfl ?_
    refine WL.stp rfl (Stp.storeI zs3 (tm rfl) Ev.const rfl (by omega) (by omega) rfl) ?_
    refine WL.norm 54 [(1, _), (2, _), (4, _), (7, _), (21, _), (22, _)] [some ⟨_, _, [[_]]⟩, some ⟨_, _, [[_]]⟩, some ⟨_, _, _⟩, some ⟨_, _, [[_]]⟩] rfl ⟨rfl, rfl, rfl, rfl, rfl, rfl, trivial⟩ rfl rfl ?_
    refine WL.nil (nb (nm ?_))
    refine W.region ?_
    refine WL.v (Val.add (tm rfl) Ev.const (IntWalk.i64_in _ (by omega))) rfl ?_
    refine mv rfl rfl ?_
    refine WL.norm 54 [(1, _), (2, _), (4, _), (7, _), (21, _), (22, _)] [some ⟨_, _, [[_]]⟩, some ⟨_, _, [[_]]⟩, some ⟨_, _, _⟩, some ⟨_, _, [[_]]⟩] rfl ⟨rfl, rfl, rfl, rfl, rfl, rfl, trivial⟩ rfl rfl ?_
    refine wn ?_
    exact ⟨_, by omega, k + 1, _, rfl, rfl, by omega, by omega, by rw [List.length_set]; exact hkl, set_minus hk0 (by omega) hks⟩
  try simp only [td] at hc3
  refine W.exit (ex1 (ex1 (ex2 (nm ?_))))
  refine W.seq ?_
  have hkr : ks = List.replicate g.length (-1) := all_minus hkl (fun j hj => hks j (by omega))
  subst hkr
  refine W.region ?_
  refine WL.stp rfl (Stp.alloc zz39 rfl rfl) ?_
  refine WL.norm 54 [(1, _), (2, _), (4, _), (7, _), (9, _)] [some ⟨_, _, [[_]]⟩, some ⟨_, _, [[_]]⟩, some ⟨_, _, _⟩, some ⟨_, _, [[_]]⟩, some ⟨_, _, [[_]]⟩] rfl ⟨rfl, rfl, rfl, rfl, rfl, trivial⟩ rfl rfl ?_
  refine wn ?_
  refine sr ?_
  refine WL.stp rfl (Stp.alloc zz3 rfl rfl) ?_
  refine WL.stp rfl (Stp.st (tm rfl) Ev.const zs3 rfl rfl rfl rfl rfl rfl rfl rfl) ?_
  refine WL.norm 54 [(1, _), (2, _), (4, _), (7, _), (9, _), (10, _)] [some ⟨_, _, [[_]]⟩, some ⟨_, _, [[_]]⟩, some ⟨_, _, _⟩, some ⟨_, _, [[_]]⟩, some ⟨_, _, [[_]]⟩, some ⟨_, _, [[_]]⟩] rfl ⟨rfl, rfl, rfl, rfl, rfl, rfl, trivial⟩ rfl rfl ?_
  refine wn ?_
  refine sr ?_
  refine WL.stp rfl (Stp.alloc zz74 rfl rfl) ?_
  refine WL.norm 54 [(1, _), (2, _), (4, _), (7, _), (9, _), (10, _), (11, _)] [some ⟨_, _, [[_]]⟩, some ⟨_, _, [[_]]⟩, some ⟨_, _, _⟩, some ⟨_, _, [[_]]⟩, some ⟨_, _, [[_]]⟩, some ⟨_, _, [[_]]⟩, some ⟨_, _, [[_]]⟩] rfl ⟨rfl, rfl, rfl, rfl, rfl, rfl, rfl, trivial⟩ rfl rfl ?_
  refine wn ?_
  refine sr ?_
  refine WL.v (Val.makeFunc (evc (tm rfl) (evc (tm rfl) (evc (tm rfl) (evc (tm rfl) (evc (tm rfl) evn)))))) rfl ?_
  refine WL.stp rfl (Stp.st (tm rfl) (tm rfl) zs74 rfl rfl rfl rfl rfl rfl rfl rfl) ?_
  refine WL.norm 54 [(1, _), (2, _), (4, _), (7, _), (9, _), (11, _)] [some ⟨_, _, [[_]]⟩, some ⟨_, _, [[_]]⟩, some ⟨_, _, _⟩, some ⟨_, _, [[_]]⟩, some ⟨_, _, [[_]]⟩, some ⟨_, _, [[_]]⟩, some ⟨_, _, [[_]]⟩] rfl ⟨rfl, rfl, rfl, rfl, rfl, rfl, trivial⟩ rfl rfl ?_
  refine wn ?_
  refine W.seq ?_
  refine sr ?_
  refine mv rfl rfl ?_
  refine WL.v (Val.ln (enc := encI) Tryd.underlying22 (tm rfl)) rfl ?_
  refine WL.v (Val.move Ev.const) rfl ?_
  refine WL.norm 54 [(1, _), (2, _), (4, _), (7, _), (9, _), (11, _), (30, _), (31, _), (32, _)] [some ⟨_, _, [[_]]⟩, some ⟨_, _, [[_]]⟩, some ⟨_, _, _⟩, some ⟨_, _, [[_]]⟩, some ⟨_, _, [[_]]⟩, some ⟨_, _, [[_]]⟩, some ⟨_, _, [[_]]⟩] rfl ⟨rfl, rfl, rfl, rfl, rfl, rfl, rfl, rfl, rfl, trivial⟩ rfl rfl ?_
  refine wn ?_
  refine W.reserve ?_
  refine W.norm 54 [(1, _), (2, _), (4, _), (7, _), (9, _), (11, _), (30, _), (31, _), (32, _)] [some ⟨_, _, [[_]]⟩, some ⟨_, _, [[_]]⟩, some ⟨_, _, _⟩, some ⟨_, _, [[_]]⟩, some ⟨_, _, [[_]]⟩, some ⟨_, _, [[_]]⟩, some ⟨_, _, [[_]]⟩, _] rfl ⟨rfl, rfl, rfl, rfl, rfl, rfl, rfl, rfl, rfl, trivial⟩ rfl rfl ?_
  refine W.block (W.loop (fun nn S => ∃ (i : Int), S = ⟨54, [(1, .f (.ints roots)), (2, .ptr 0 0 1 0 0), (4, .ptr 1 0 1 0 0), (7, .ptr 3 0 1 0 0), (9, .ptr 4 0 1 0 0), (11, .ptr 6 0 1 0 0), (30, .f (.ints roots)), (31, .i roots.length), (32, .i i)], HM g .nil 0 (canonAt g [] 0) .nil none, []⟩ ∧ nn = ((roots.length - i).toNat) ∧ (0 ≤ i) ∧ (i ≤ roots.length) ∧ (∀ j : Nat, j < i.toNat → ∀ x, roots[j]? = some x → 0 ≤ x ∧ x < (g.length : Int))) ⟨0, rfl, rfl, by omega, by omega, fun j hj => absurd hj (by simp)⟩ ?_)
  rintro nn S ⟨i, rfl, rfl, hi0, hi1, hin⟩
  refine sr ?_
  refine WL.v (Val.lss (tm rfl) (tm rfl)) rfl ?_
  refine WL.norm 54 [(1, _), (2, _), (4, _), (7, _), (9, _), (11, _), (30, _), (31, _), (32, _), (33, _)] [some ⟨_, _, [[_]]⟩, some ⟨_, _, [[_]]⟩, some ⟨_, _, _⟩, some ⟨_, _, [[_]]⟩, some ⟨_, _, [[_]]⟩, some ⟨_, _, [[_]]⟩, some ⟨_, _, [[_]]⟩, _] rfl ⟨rfl, rfl, rfl, rfl, rfl, rfl, rfl, rfl, rfl, rfl, trivial⟩ rfl rfl ?_
  refine wn ?_
  refine W.seq ?_
  refine W.condP rfl (fun hc12 => ?_) (fun hc12 => ?_)
  · try simp only [td] at hc12
    refine W.skip (nm ?_)
    refine W.seq ?_
    refine W.block ?_
    refine sr ?_
    refine WL.v (Val.ix (enc := encI) Tryd.underlying22 zs3 (tm rfl) (tm rfl) (by omega) (gA_at (by omega) (by omega))) rfl ?_
    refine WL.v (Val.load Tryd.underlying3 rfl (tm rfl)) rfl ?_
    refine asg rfl rfl ?_
    refine WL.norm 54 [(1, _), (2, _), (4, _), (7, _), (9, _), (11, _), (13, _), (30, _), (31, _), (32, _)] [some ⟨_, _, [[_]]⟩, some ⟨_, _, [[_]]⟩, some ⟨_, _, _⟩, some ⟨_, _, [[_]]⟩, some ⟨_, _, [[_]]⟩, some ⟨_, _, [[_]]⟩, some ⟨_, _, [[_]]⟩, _] rfl ⟨rfl, rfl, rfl, rfl, rfl, rfl, rfl, rfl, rfl, rfl, trivial⟩ rfl rfl ?_
    refine wn ?_
    refine sr ?_
    refine WL.v (Val.loadLiveAgg Tryd.underlying39 rfl zs39 (tm rfl) rfl rfl rfl rfl (bl rfl)) rfl ?_
    refine mv rfl rfl ?_
    refine WL.callV ca30 (evc (tm rfl) (evc (tm rfl) evn)) (lo2 rfl (lo1 lo0)) rfl (c_isNode W0 N _ _) ?_
    rintro _ rfl
    refine WL.v (Val.not (tm rfl)) rfl ?_
    refine WL.norm 54 [(1, _), (2, _), (4, _), (7, _), (9, _), (11, _), (30, _), (31, _), (32, _), (39, _)] [some ⟨_, _, [[_]]⟩, some ⟨_, _, [[_]]⟩, some ⟨_, _, _⟩, some ⟨_, _, [[_]]⟩, some ⟨_, _, [[_]]⟩, some ⟨_, _, [[_]]⟩, some ⟨_, _, [[_]]⟩, _] rfl ⟨rfl, rfl, rfl, rfl, rfl, rfl, rfl, rfl, rfl, rfl, trivial⟩ rfl rfl ?_
    refine wn ?_
    refine W.condP rfl (fun hc14 => ?_) (fun hc14 => ?_)
    · try simp only [td] at hc14
      refine sr ?_
      refine WL.v (Val.le (Val.build (vs := []) Tryd.underlying39 zz39 rfl rfl pl39 rfl trivial) (Le.agg (ys := [.f (.lst 9 [])]) (LeL.cons Le.nil LeL.nil))) rfl ?_
      refine WL.stp rfl (Stp.st (tm rfl) (tm rfl) zs39 rfl rfl rfl rfl rfl rfl rfl rfl) ?_
      refine WL.v (Val.assign Ev.const) rfl ?_
      refine WL.v (Val.assign Ev.const) rfl ?_
      refine WL.norm 54 [(4, _), (5, _), (6, _)] [some ⟨_, _, [[_]]⟩, some ⟨_, _, [[_]]⟩, some ⟨_, _, _⟩, some ⟨_, _, [[_]]⟩, some ⟨_, _, [[_]]⟩, some ⟨_, _, [[_]]⟩, some ⟨_, _, [[_]]⟩, _] rfl ⟨rfl, rfl, rfl, trivial⟩ rfl rfl ?_
      refine wn ?_
      refine W.ret (rt2 (rt1 (rt1 (rt2 (rt1 ?_)))))
      exact Ret.of (.inr rfl) rfl (resCell3 rfl Tryd.underlying39 rfl zs39 rfl rfl rfl rfl rfl rfl rfl rfl) (Fewer.nil _) (.inr trivial) (fun id h => absurd h (Nat.not_lt_zero _)) (.tup (.same rfl) (.tup .nil (.tup (.same rfl) .tup0))) ⟨rfl, by rw [canonR, if_neg (fun h => by have := h _ (gA_mem (l := roots) hi0 hc12); omega)]; rfl⟩
    try simp only [td] at hc14
    refine W.skip (nb (nm ?_))
    refine W.region ?_
    refine WL.v (Val.add (tm rfl) Ev.const (IntWalk.i64_in _ (by omega))) rfl ?_
    refine mv rfl rfl ?_
    refine WL.norm 54 [(1, _), (2, _), (4, _), (7, _), (9, _), (11, _), (30, _), (31, _), (32, _)] [some ⟨_, _, [[_]]⟩, some ⟨_, _, [[_]]⟩, some ⟨_, _, _⟩, some ⟨_, _, [[_]]⟩, some ⟨_, _, [[_]]⟩, some ⟨_, _, [[_]]⟩, some ⟨_, _, [[_]]⟩, _] rfl ⟨rfl, rfl, rfl, rfl, rfl, rfl, rfl, rfl, rfl, trivial⟩ rfl rfl ?_
    refine wn ?_
    exact ⟨_, by omega, i + 1, rfl, rfl, by omega, by omega, kids_step hi0 (by omega) hin (by omega)⟩
  try simp only [td] at hc12
  refine W.exit (ex1 (ex1 (ex2 (nm ?_))))
  refine W.seq ?_
  refine W.seq ?_
  have hall := kids_end hi0 (by omega) hin
  refine W.region ?_
  refine mv rfl rfl ?_
  refine WL.v (Val.ln (enc := encI) Tryd.underlying22 (tm rfl)) rfl ?_
  refine WL.v (Val.move Ev.const) rfl ?_
  refine WL.norm 54 [(4, _), (7, _), (9, _), (11, _), (42, _), (43, _), (44, _)] [some ⟨_, _, [[_]]⟩, some ⟨_, _, [[_]]⟩, some ⟨_, _, _⟩, some ⟨_, _, [[_]]⟩, some ⟨_, _, [[_]]⟩, some ⟨_, _, [[_]]⟩, some ⟨_, _, [[_]]⟩, _] rfl ⟨rfl, rfl, rfl, rfl, rfl, rfl, rfl, trivial⟩ rfl rfl ?_
  refine wn ?_
  refine W.norm 54 [(4, _), (7, _), (9, _), (11, _), (42, _), (43, _), (44, _)] [some ⟨_, _, [[_]]⟩, some ⟨_, _, [[_]]⟩, some ⟨_, _, _⟩, some ⟨_, _, [[_]]⟩, some ⟨_, _, [[_]]⟩, some ⟨_, _, [[_]]⟩, some ⟨_, _, [[_]]⟩, _] rfl ⟨rfl, rfl, rfl, rfl, rfl, rfl, rfl, trivial⟩ rfl rfl ?_
  refine W.block (W.loop (fun nn S => ∃ (i : Int) (l : List Int) (vC : AV) (o : Option Row), S = ⟨54, [(4, .ptr 1 0 1 0 0), (7, .ptr 3 0 1 0 0), (9, .ptr 4 0 1 0 0), (11, .ptr 6 0 1 0 0), (42, .f (.ints roots)), (43, .i roots.length), (44, .i i)], HM g .nil 0 (canonAt g l l.length) vC o, []⟩ ∧ nn = ((roots.length - i).toNat) ∧ (0 ≤ i) ∧ (i ≤ roots.length) ∧ (l = (roots.take i.toNat).foldl (fun l r => visitF g g.length r l) []) ∧ (Acc 7 9 (fz ((canonAt g l l.length).2.1.map Nd.cells)) vC o) ∧ (VOk g l)) ⟨0, [], _, _, rfl, rfl, by omega, by omega, rfl, Acc.zero, ⟨by simp, by simp⟩⟩ ?_)
  rintro nn S ⟨i, l, vC, o, rfl, rfl, hv0, hv1, hl, hc, hok⟩
  refine sr ?_
  refine WL.v (Val.lss (tm rfl) (tm rfl)) rfl ?_
  refine WL.norm 54 [(4, _), (7, _), (9, _), (11, _), (42, _), (43, _), (44, _), (45, _)] [some ⟨_, _, [[_]]⟩, some ⟨_, _, [[_]]⟩, some ⟨_, _, _⟩, some ⟨_, _, [[_]]⟩, some ⟨_, _, [[_]]⟩, some ⟨_, _, [[_]]⟩, some ⟨_, _, [[_]]⟩, _] rfl ⟨rfl, rfl, rfl, rfl, rfl, rfl, rfl, rfl, trivial⟩ rfl rfl ?_
  refine wn ?_
  refine W.seq ?_
  refine W.condP rfl (fun hc18 => ?_) (fun hc18 => ?_)
  · try simp only [td] at hc18
    refine W.skip (nm ?_)
    refine W.seq ?_
    refine W.block ?_
    refine sr ?_
    refine WL.v (Val.ix (enc := encI) Tryd.underlying22 zs3 (tm rfl) (tm rfl) (by omega) (gA_at (by omega) (by omega))) rfl ?_
    refine WL.v (Val.load Tryd.underlying3 rfl (tm rfl)) rfl ?_
    refine asg rfl rfl ?_
    refine WL.norm 54 [(4, _), (7, _), (9, _), (11, _), (15, _), (42, _), (43, _), (44, _)] [some ⟨_, _, [[_]]⟩, some ⟨_, _, [[_]]⟩, some ⟨_, _, _⟩, some ⟨_, _, [[_]]⟩, some ⟨_, _, [[_]]⟩, some ⟨_, _, [[_]]⟩, some ⟨_, _, [[_]]⟩, _] rfl ⟨rfl, rfl, rfl, rfl, rfl, rfl, rfl, rfl, trivial⟩ rfl rfl ?_
    refine wn ?_
    have hx := hall _ (gA_mem (l := roots) hv0 hc18)
    have hok2 := (visitF_ok hg g.length (gA roots i) l (by omega) hx.1 hx.2 hok).1
    refine W.region ?_
    refine WL.v (Val.loadLive Tryd.underlying74 rfl (tm rfl) rfl rfl rfl rfl rfl) rfl ?_
    refine mv rfl rfl ?_
    refine WL.visitM hg h99 hx.1 hx.2 hok hc (Fun.clo (tm rfl)) (tm rfl) rfl rfl rfl ?_
    intro vC' o' hc'
    refine WL.norm 54 [(4, _), (7, _), (9, _), (11, _), (42, _), (43, _), (44, _)] [some ⟨_, _, [[_]]⟩, some ⟨_, _, [[_]]⟩, some ⟨_, _, _⟩, some ⟨_, _, [[_]]⟩, some ⟨_, _, [[_]]⟩, some ⟨_, _, [[_]]⟩, some ⟨_, _, [[_]]⟩, _] rfl ⟨rfl, rfl, rfl, rfl, rfl, rfl, rfl, trivial⟩ rfl rfl ?_
    refine WL.nil (nb (nm ?_))
    refine W.region ?_
    refine WL.v (Val.add (tm rfl) Ev.const (IntWalk.i64_in _ (by omega))) rfl ?_
    refine mv rfl rfl ?_
    refine WL.norm 54 [(4, _), (7, _), (9, _), (11, _), (42, _), (43, _), (44, _)] [some ⟨_, _, [[_]]⟩, some ⟨_, _, [[_]]⟩, some ⟨_, _, _⟩, some ⟨_, _, [[_]]⟩, some ⟨_, _, [[_]]⟩, some ⟨_, _, [[_]]⟩, some ⟨_, _, [[_]]⟩, _] rfl ⟨rfl, rfl, rfl, rfl, rfl, rfl, rfl, trivial⟩ rfl rfl ?_
    refine wn ?_
    exact ⟨_, by omega, i + 1, _, _, _, rfl, rfl, by omega, by omega, by rw [hl]; exact fold_step (f := fun l r => visitF g g.length r l) hv0 hc18, hc', hok2⟩
  try simp only [td] at hc18
  refine W.exit (ex1 (ex1 (ex2 (nm ?_))))
  refine W.seq ?_
  have hlL : l = canonL g roots := by rw [hl, List.take_of_length_le (by omega)]; rfl
  obtain ⟨hcl, hcl2, hcl3, hcl4⟩ := canonAt_ok g l l.length
  have hll := hok.len
  refine W.drawE (fun k => ([([4], []), ([3], []), ([1], [1]), ([], []), ([], [])] : List (List Nat × List Nat)).getD k ([], [])) rfl (by kernel_rfl) (bl rfl) ?_
  refine LexE.val rfl rfl rfl (fun h' ha => Val.loadLiveAgg Tryd.underlying39 rfl zs39 (tm rfl) ((ha.at_ 4 (by decide)).trans rfl) rfl rfl rfl (bl rfl)) ?_
  refine LexE.val rfl rfl rfl (fun h' ha => Val.loadLive Tryd.underlying22 rfl (tm rfl) ((ha.at_ 3 (by decide)).trans rfl) rfl rfl rfl rfl) ?_
  refine LexE.stp (U := [(1, _)]) rfl rfl rfl rfl (fun h => by first | rfl | cases h) (fun h' ha m' => Stp.st (tm rfl) (tm rfl) zs39 rfl hc.fit ((ha.at_ 1 (by decide)).trans rfl) rfl rfl rfl rfl rfl) ?_
  refine LexE.val rfl rfl rfl (fun h' ha => Val.assign (tm rfl)) ?_
  refine LexE.val rfl rfl rfl (fun h' ha => Val.assign Ev.const) ?_
  refine LexE.nil (nm ?_)
  refine W.norm 54 [(4, _), (5, _), (6, _)] [some ⟨_, _, [[_]]⟩, some ⟨_, _, [[_]]⟩, some ⟨_, _, _⟩, some ⟨_, _, [[_]]⟩, some ⟨_, _, [[_]]⟩, some ⟨_, _, [[_]]⟩, some ⟨_, _, [[_]]⟩, _] rfl ⟨rfl, rfl, rfl, trivial⟩ rfl rfl ?_
  refine W.ret ?_
  exact Ret.of (.inr rfl) rfl (resCell3 rfl Tryd.underlying39 rfl zs39 rfl rfl rfl rfl rfl rfl rfl rfl) (Fewer.nil _) (.inr trivial) (fun id h => absurd h (Nat.not_lt_zero _)) (.tup (.agg (Acc.thaw hc rfl rfl (encL (by intro x; rfl))) .agg0) (.tup (.whole rfl rfl (by first | (simp; done) | (simp only [List.length_map]; omega)) (encL (by intro x; rfl))) (.tup (.same rfl) .tup0))) ⟨rfl, by rw [canonR, if_pos hall, ← hlL]⟩
end Go.Aw
namespace Go.Aw
open Go.RowKit Go.Proofs

theorem gA_nat {α : Type} [Inhabited α] {l : List α} {j : Nat} (h : j < l.length) : l[j]? = some (gA l j) := by
  have := gA_at (l := l) (i := (j : Int)) (by omega) (by omega)
  rwa [Int.toNat_natCast] at this
theorem gA_app {α : Type} [Inhabited α] {l l' : List α} {j : Nat} (h : j < l.length) : gA (l ++ l') (j : Int) = gA l j := by
  simp only [gA, Int.toNat_natCast, List.getD, List.getElem?_append_left h]
theorem WFG.kids {g : List Nd} (hg : WFG g) {n : Nd} (hn : n ∈ g) : n.kids.length ≤ 1000 := by
  obtain ⟨i, hi⟩ := List.mem_iff_getElem?.1 hn
  exact (hg.node i n hi).1
/-- Kids come before their nodes. -/
def OrdOk (g : List Nd) (l : List Int) : Prop := ∀ j : Nat, j < l.length → ∀ q, q ∈ (gA g (gA l j)).kids → q ∈ l.take j
theorem OrdOk.nil {g : List Nd} : OrdOk g [] := fun j hj => absurd hj (by simp)
theorem visitF_pre (g : List Nd) : ∀ (b : Nat) (i : Int) (l : List Int), l <+: visitF g b i l
  | 0, i, l => List.prefix_refl l
  | b + 1, i, l => by
    rw [visitF]
    split
    · exact List.prefix_refl l
    · have key : ∀ (ks : List Int) (l' : List Int), l' <+: ks.foldl (fun l k => visitF g b k l) l' := by
        intro ks
        induction ks with
        | nil => intro l'; exact List.prefix_refl _
        | cons k ks ih => intro l'; exact (visitF_pre g b k l').trans (ih _)
      exact (key _ l).trans (List.prefix_append _ _)
theorem visitF_mem {g : List Nd} : ∀ (b : Nat) (i : Int) (l : List Int), 0 < b → i ∈ visitF g b i l
  | b + 1, i, l, _ => by
    rw [visitF]
    split
    · assumption
    · simp
theorem visitF_ord {g : List Nd} (hg : WFG g) : ∀ (b : Nat) (i : Int) (l : List Int), i < b → 0 ≤ i → i < g.length → OrdOk g l → OrdOk g (visitF g b i l)
  | 0, i, l, h, h0, _, _ => by omega
  | b + 1, i, l, hib, h0, hi, hl => by
    rw [visitF]
    split
    · exact hl
    · have key : ∀ (ks : List Int) (l' : List Int), (∀ k, k ∈ ks → 0 ≤ k ∧ k < i) → OrdOk g l' → OrdOk g (ks.foldl (fun l k => visitF g b k l) l') ∧ ∀ k, k ∈ ks → k ∈ ks.foldl (fun l k => visitF g b k l) l' := by
        intro ks
        induction ks with
        | nil => intro l' _ h; exact ⟨h, fun k hk => by simp at hk⟩
        | cons k ks ih =>
          intro l' hk h
          have hk0 := hk k (List.mem_cons_self ..)
          obtain ⟨h3, h4⟩ := ih (visitF g b k l') (fun q hq => hk q (List.mem_cons_of_mem _ hq)) (visitF_ord hg b k l' (by omega) hk0.1 (by omega) h)
          refine ⟨h3, fun q hq => ?_⟩
          rcases List.mem_cons.1 hq with rfl | hq
          · have hp : ∀ (ks : List Int) (l' : List Int), l' <+: ks.foldl (fun l k => visitF g b k l) l' := by
              intro ks
              induction ks with
              | nil => intro l'; exact List.prefix_refl _
              | cons k ks ih => intro l'; exact (visitF_pre g b k l').trans (ih _)
            exact (hp ks _).subset (visitF_mem b _ _ (by omega))
          · exact h4 q hq
      obtain ⟨h1, h2⟩ := key (gA g i).kids l (fun k hk => by have := (hg.node _ _ (gA_at h0 hi)).2 k hk; omega) hl
      intro j hj q hq
      rw [List.length_append, List.length_cons, List.length_nil] at hj
      by_cases hjl : j < ((gA g i).kids.foldl (fun l k => visitF g b k l) l).length
      · rw [gA_app hjl] at hq
        rw [List.take_append_of_le_length (by omega)]
        exact h1 j hjl q hq
      · have hje : j = ((gA g i).kids.foldl (fun l k => visitF g b k l) l).length := by omega
        have e1 : gA (((gA g i).kids.foldl (fun l k => visitF g b k l) l) ++ [i]) (j : Int) = i := by rw [hje]; simp [gA, List.getD]
        rw [e1] at hq
        rw [hje, List.take_left']
        · exact h2 q hq
        · rfl
theorem canonL_all {g : List Nd} (hg : WFG g) {roots : List Int} (hr : ∀ r, r ∈ roots → 0 ≤ r ∧ r < (g.length : Int)) : VOk g (canonL g roots) ∧ OrdOk g (canonL g roots) ∧ ∀ r, r ∈ roots → r ∈ canonL g roots := by
  have key : ∀ (rs : List Int) (l' : List Int), (∀ k, k ∈ rs → 0 ≤ k ∧ k < (g.length : Int)) → VOk g l' → OrdOk g l' → VOk g (rs.foldl (fun l r => visitF g g.length r l) l') ∧ OrdOk g (rs.foldl (fun l r => visitF g g.length r l) l') ∧ (∀ r, r ∈ rs → r ∈ rs.foldl (fun l r => visitF g g.length r l) l') ∧ l' <+: rs.foldl (fun l r => visitF g g.length r l) l' := by
    intro rs
    induction rs with
    | nil => intro l' _ h1 h2; exact ⟨h1, h2, fun k hk => by simp at hk, List.prefix_refl _⟩
    | cons k rs ih =>
      intro l' hk h1 h2
      have hk0 := hk k (List.mem_cons_self ..)
      obtain ⟨a1, a2, a3, a4⟩ := ih (visitF g g.length k l') (fun q hq => hk q (List.mem_cons_of_mem _ hq)) (visitF_ok hg g.length k l' (by omega) hk0.1 hk0.2 h1).1 (visitF_ord hg g.length k l' (by omega) hk0.1 hk0.2 h2)
      refine ⟨a1, a2, fun q hq => ?_, (visitF_pre g g.length k l').trans a4⟩
      rcases List.mem_cons.1 hq with rfl | hq
      · exact a4.subset (visitF_mem _ _ _ (by omega))
      · exact a3 q hq
  obtain ⟨a1, a2, a3, _⟩ := key roots [] hr ⟨by simp, by simp⟩ OrdOk.nil
  exact ⟨a1, a2, a3⟩
/-- The node with the number j. -/
def nodeOf (g : List Nd) (l : List Int) (j : Nat) : Nd :=
  if (gA g (gA l j)).op = 0 then { gA g (gA l j) with kids := (gA g (gA l j)).kids.map (fun q => gA ((canonAt g l j).1.set (gA l j).toNat j) q), text := ⟨#[118]⟩ ++ decB (canonAt g l j).2.2 }
  else { gA g (gA l j) with kids := (gA g (gA l j)).kids.map (fun q => gA ((canonAt g l j).1.set (gA l j).toNat j) q) }
theorem canonAt_nodes (g : List Nd) (l : List Int) : ∀ k : Nat, (canonAt g l k).2.1 = (List.range k).map (nodeOf g l)
  | 0 => rfl
  | k + 1 => by
    rw [canonAt, List.range_succ, List.map_append, ← canonAt_nodes g l k, List.map_cons, List.map_nil, nodeOf]
    split <;> rfl
theorem canonAt_num {g : List Nd} {l : List Int} (hl : VOk g l) : ∀ k : Nat, k ≤ l.length → (∀ j : Nat, j < k → gA (canonAt g l k).1 (gA l j) = j) ∧ ∀ x : Int, 0 ≤ x → x < g.length → x ∉ l.take k → gA (canonAt g l k).1 x = -1 := by
  intro k
  induction k with
  | zero =>
    intro _
    refine ⟨fun j hj => by omega, fun x h0 h1 _ => ?_⟩
    have hx : x.toNat < g.length := by omega
    simp [canonAt, gA, List.getD, List.getElem?_replicate, hx]
  | succ k ih =>
    intro hk
    obtain ⟨ih1, ih2⟩ := ih (by omega)
    have e1 : (canonAt g l (k + 1)).1 = (canonAt g l k).1.set (gA l k).toNat k := by rw [canonAt]; split <;> rfl
    have hlen := (canonAt_ok g l k).1
    have hx := hl.2 _ (gA_mem (l := l) (i := (k : Int)) (by omega) (by omega))
    rw [e1]
    refine ⟨fun j hj => ?_, fun x h0 h1 hxn => ?_⟩
    · by_cases hjk : j = k
      · rw [hjk]; exact gA_set_same rfl (by omega)
      · have hjx := hl.2 _ (gA_mem (l := l) (i := (j : Int)) (by omega) (by omega))
        have hne : gA l k ≠ gA l j := fun he => by
          have h1 := gA_nat (l := l) (j := j) (by omega)
          have h2 := gA_nat (l := l) (j := k) (by omega)
          have h3 : l[j]? = l[k]? := by rw [h1, h2, he]
          have := (List.getElem?_inj (by omega) hl.1).1 h3
          omega
        rw [gA_set_ne (by omega)]
        exact ih1 j (by omega)
    · rw [List.take_add_one, gA_nat (show k < l.length by omega)] at hxn
      simp only [Option.toList_some, List.mem_append, List.mem_singleton, not_or] at hxn
      rw [gA_set_ne (by omega)]
      exact ih2 x h0 h1 hxn.1
theorem mem_take {l : List Int} {k : Nat} {q : Int} (h : q ∈ l.take k) : ∃ i : Nat, i < k ∧ i < l.length ∧ gA l i = q := by
  obtain ⟨i, hi⟩ := List.mem_iff_getElem?.1 h
  have hi' := (List.getElem?_eq_some_iff.1 hi).1
  rw [List.length_take] at hi'
  rw [List.getElem?_take, if_pos (by omega)] at hi
  refine ⟨i, by omega, by omega, ?_⟩
  have := gA_nat (l := l) (j := i) (by omega)
  rw [hi] at this; exact (Option.some.inj this).symm
/-- A kid's number. -/
theorem canon_kid {g : List Nd} {l : List Int} (hl : VOk g l) (ho : OrdOk g l) {j : Nat} (hj : j < l.length) {q : Int} (hq : q ∈ (gA g (gA l j)).kids) : ∃ i : Nat, i < j ∧ gA l i = q ∧ gA ((canonAt g l j).1.set (gA l j).toNat j) q = i := by
  obtain ⟨i, h1, h2, h3⟩ := mem_take (ho j hj q hq)
  refine ⟨i, h1, h3, ?_⟩
  have hx := hl.2 _ (gA_mem (l := l) (i := (j : Int)) (by omega) (by omega))
  have hjx := hl.2 _ (gA_mem (l := l) (i := (i : Int)) (by omega) (by omega))
  have hne : gA l j ≠ gA l i := fun he => by
    have h1 := gA_nat (l := l) (j := j) (by omega)
    have h2 := gA_nat (l := l) (j := i) (by omega)
    have h3 : l[i]? = l[j]? := by rw [h1, h2, he]
    have := (List.getElem?_inj (by omega) hl.1).1 h3
    omega
  rw [← h3, gA_set_ne (by omega)]
  exact (canonAt_num hl j (by omega)).1 i h1
theorem nodeOf_kids (g : List Nd) (l : List Int) (j : Nat) : (nodeOf g l j).kids = (gA g (gA l j)).kids.map (fun q => gA ((canonAt g l j).1.set (gA l j).toNat j) q) := by
  rw [nodeOf]; split <;> rfl
theorem canon_wf {g : List Nd} (hg : WFG g) {l : List Int} (hl : VOk g l) (ho : OrdOk g l) : WFG (canonAt g l l.length).2.1 := by
  refine ⟨?_, fun i n hn => ?_, fun n hn h0 => ?_⟩
  · rw [(canonAt_ok g l l.length).2.1]; exact Nat.le_trans hl.len hg.len
  · rw [canonAt_nodes, List.getElem?_map] at hn
    by_cases hi : i < l.length
    · rw [List.getElem?_range hi, Option.map_some] at hn
      have hx := hl.2 _ (gA_mem (l := l) (i := (i : Int)) (by omega) (by omega))
      rw [← Option.some.inj hn, nodeOf_kids]
      refine ⟨by rw [List.length_map]; exact hg.few hx.1 hx.2, fun k hk => ?_⟩
      obtain ⟨q, hq, rfl⟩ := List.mem_map.1 hk
      obtain ⟨i', h1, _, h3⟩ := canon_kid hl ho hi hq
      rw [h3]; omega
    · rw [List.getElem?_eq_none (by simp; omega)] at hn; cases hn
  · rw [canonAt_nodes] at hn
    obtain ⟨j, hj, rfl⟩ := List.mem_map.1 hn
    have hx := hl.2 _ (gA_mem (l := l) (i := (j : Int)) (by omega) (by have := List.mem_range.1 hj; omega))
    have e : (nodeOf g l j).op = (gA g (gA l j)).op := by rw [nodeOf]; split <;> rfl
    rw [nodeOf_kids, hg.var _ (gA_mem hx.1 hx.2) (by rw [← e]; exact h0)]; rfl
theorem canonR_wf {g : List Nd} (hg : WFG g) (roots : List Int) : WFG (canonR g roots).1 ∧ (canonR g roots).1.length ≤ g.length := by
  rw [canonR]
  split
  · rename_i hr
    obtain ⟨a1, a2, _⟩ := canonL_all hg hr
    exact ⟨canon_wf hg a1 a2, by rw [(canonAt_ok g _ _).2.1]; exact a1.len⟩
  · exact ⟨⟨by simp, fun i n h => by simp at h, fun n h => by simp at h⟩, by simp⟩
theorem canonR_fine {g : List Nd} (hg : WFG g) (roots : List Int) : (canonR g roots).1.length ≤ 1000000 ∧ ∀ n, n ∈ (canonR g roots).1 → n.kids.length ≤ 1000000 := by
  obtain ⟨h1, h2⟩ := canonR_wf hg roots
  exact ⟨by have := h1.len; omega, fun n hn => by have := h1.kids hn; omega⟩
end Go.Aw
namespace Go.Aw
open Go.RowKit Go.Proofs

/-- What a step of the search hands back: whether it came to the end, the list, the fuel, whether fuel was lacking. -/
structure FR where
  ok : Bool
  L : List Int
  F : Int
  sp : Bool
deriving DecidableEq
/-- A node is given to a node of the pattern: the list, what was given, whether it is the one. -/
def giveF (i n : Int) (L G : List Int) : List Int × List Int × Bool :=
  if gA L i = -1 then (L.set i.toNat n, G ++ [i], decide (gA (L.set i.toNat n) i = n)) else (L, G, decide (gA L i = n))
def kidsF : List (Int × Int) → List Int → List Int → List Int × List Int × Bool
  | [], L, G => (L, G, true)
  | (k, n) :: r, L, G => if (giveF k n L G).2.2 = true then kidsF r (giveF k n L G).1 (giveF k n L G).2.1 else ((giveF k n L G).1, (giveF k n L G).2.1, false)
def undoF (G L : List Int) : List Int := G.foldl (fun L k => L.set k.toNat (-1)) L
/-- Takes back what was given, if the search has failed. -/
def backF (G : List Int) (x : FR) : FR := ⟨x.ok, if x.ok = true then x.L else undoF G x.L, x.F, x.sp⟩
def pairs (p g : List Nd) (i n : Int) : List (Int × Int) := (gA p i).kids.zip (gA g n).kids
/-- A node's shape and number of kids are those of another. -/
def fits (a b : Nd) : Bool := a.like b && decide (a.kids.length = b.kids.length)
def examF (fr : List Int → Int → Bool → FR) (p g : List Nd) (i n : Int) (L : List Int) (F : Int) (sp : Bool) : FR :=
  if (gA p i).op = 0 then
    if (gA p i).sort = (gA g n).sort then backF (giveF i n L []).2.1 (fr (giveF i n L []).1 F sp) else backF (giveF i n L []).2.1 ⟨false, (giveF i n L []).1, F, sp⟩
  else if fits (gA p i) (gA g n) = true then
    if (kidsF (pairs p g i n) (giveF i n L []).1 (giveF i n L []).2.1).2.2 = true then backF (kidsF (pairs p g i n) (giveF i n L []).1 (giveF i n L []).2.1).2.1 (fr (kidsF (pairs p g i n) (giveF i n L []).1 (giveF i n L []).2.1).1 F sp)
    else backF (kidsF (pairs p g i n) (giveF i n L []).1 (giveF i n L []).2.1).2.1 ⟨false, (kidsF (pairs p g i n) (giveF i n L []).1 (giveF i n L []).2.1).1, F, sp⟩
  else backF (giveF i n L []).2.1 ⟨false, (giveF i n L []).1, F, sp⟩
def loopF (ex : Int → List Int → Int → Bool → FR) : Nat → Int → List Int → Int → Bool → FR
  | 0, _, L, F, sp => ⟨false, L, F, sp⟩
  | k + 1, n, L, F, sp =>
    if F ≤ 0 then ⟨false, L, F, true⟩
    else if (ex n L (F - 1) sp).ok = true then ex n L (F - 1) sp
    else if (ex n L (F - 1) sp).sp = true then ex n L (F - 1) sp
    else loopF ex k (n + 1) (ex n L (F - 1) sp).L (ex n L (F - 1) sp).F (ex n L (F - 1) sp).sp
def fromF (p g : List Nd) : Nat → List Int → Int → Bool → FR
  | 0, L, F, sp => ⟨true, L, F, sp⟩
  | i + 1, L, F, sp => if gA L i = -1 then loopF (fun n => examF (fromF p g i) p g i n) g.length 0 L F sp else examF (fromF p g i) p g i (gA L i) L F sp

/-- Lists of the search: nodes of the graph, or none. -/
def LOk (p g : List Nd) (L : List Int) : Prop := L.length = p.length ∧ ∀ x, x ∈ L → x = -1 ∨ (0 ≤ x ∧ x < (g.length : Int))
def GOk (p : List Nd) (G : List Int) : Prop := ∀ x, x ∈ G → 0 ≤ x ∧ x < (p.length : Int)
theorem mem_set {α : Type} {l : List α} {i : Nat} {a x : α} (h : x ∈ l.set i a) : x ∈ l ∨ x = a := List.mem_or_eq_of_mem_set h
theorem LOk.set {p g : List Nd} {L : List Int} {i : Nat} {n : Int} (h : LOk p g L) (hn : n = -1 ∨ (0 ≤ n ∧ n < (g.length : Int))) : LOk p g (L.set i n) :=
  ⟨by rw [List.length_set]; exact h.1, fun x hx => by rcases mem_set hx with hx | rfl; exact h.2 x hx; exact hn⟩
theorem GOk.nil {p : List Nd} : GOk p [] := fun x hx => by simp at hx
theorem GOk.snoc {p : List Nd} {G : List Int} {i : Int} (h : GOk p G) (h0 : 0 ≤ i) (h1 : i < (p.length : Int)) : GOk p (G ++ [i]) := fun x hx => by
  rcases List.mem_append.1 hx with hx | hx
  · exact h x hx
  · rw [List.mem_singleton.1 hx]; exact ⟨h0, h1⟩
theorem giveF_ok {p g : List Nd} {i n : Int} {L G : List Int} (hL : LOk p g L) (hG : GOk p G) (h0 : 0 ≤ i) (h1 : i < p.length) (hn0 : 0 ≤ n) (hn1 : n < g.length) : LOk p g (giveF i n L G).1 ∧ GOk p (giveF i n L G).2.1 ∧ (giveF i n L G).2.1.length ≤ G.length + 1 := by
  rw [giveF]
  split
  · exact ⟨hL.set (.inr ⟨hn0, hn1⟩), hG.snoc h0 h1, by simp⟩
  · exact ⟨hL, hG, by simp⟩
theorem kidsF_ok {p g : List Nd} : ∀ (r : List (Int × Int)) {L G : List Int}, (∀ x, x ∈ r → (0 ≤ x.1 ∧ x.1 < (p.length : Int)) ∧ 0 ≤ x.2 ∧ x.2 < (g.length : Int)) → LOk p g L → GOk p G → LOk p g (kidsF r L G).1 ∧ GOk p (kidsF r L G).2.1 ∧ (kidsF r L G).2.1.length ≤ G.length + r.length
  | [], L, G, _, hL, hG => ⟨hL, hG, by simp [kidsF]⟩
  | (k, n) :: r, L, G, hr, hL, hG => by
    have h1 := hr (k, n) (List.mem_cons_self ..)
    obtain ⟨a1, a2, a3⟩ := giveF_ok (p := p) (g := g) (i := k) (n := n) hL hG h1.1.1 h1.1.2 h1.2.1 h1.2.2
    rw [kidsF]
    split
    · obtain ⟨b1, b2, b3⟩ := kidsF_ok r (fun x hx => hr x (List.mem_cons_of_mem _ hx)) a1 a2
      exact ⟨b1, b2, by simp only [List.length_cons]; omega⟩
    · exact ⟨a1, a2, by simp only [List.length_cons]; omega⟩
theorem undoF_ok {p g : List Nd} : ∀ (G : List Int) {L : List Int}, LOk p g L → LOk p g (undoF G L)
  | [], L, hL => hL
  | k :: G, L, hL => undoF_ok G (hL.set (.inl rfl))
theorem backF_ok {p g : List Nd} {G : List Int} {x : FR} (h : LOk p g x.L) : LOk p g (backF G x).L := by
  rw [backF]
  split
  · exact h
  · exact undoF_ok G h
theorem pairs_ok {p g : List Nd} (hp : WFG p) (hg : WFG g) {i n : Int} (h0 : 0 ≤ i) (h1 : i < p.length) (hn0 : 0 ≤ n) (hn1 : n < g.length) : ∀ x, x ∈ pairs p g i n → (0 ≤ x.1 ∧ x.1 < (p.length : Int)) ∧ 0 ≤ x.2 ∧ x.2 < (g.length : Int) := by
  rintro ⟨a, b⟩ hx
  have hm := List.of_mem_zip hx
  have h2 := (hp.node _ _ (gA_at h0 h1)).2 a hm.1
  have h3 := (hg.node _ _ (gA_at hn0 hn1)).2 b hm.2
  exact ⟨⟨h2.1, by omega⟩, h3.1, by omega⟩
/-- What is kept by a step. -/
def FOk (p g : List Nd) (F : Int) (x : FR) : Prop := LOk p g x.L ∧ 0 ≤ x.F ∧ x.F ≤ F
theorem examF_ok {p g : List Nd} (hp : WFG p) (hg : WFG g) {fr : List Int → Int → Bool → FR} (hfr : ∀ L F sp, LOk p g L → 0 ≤ F → FOk p g F (fr L F sp)) {i n : Int} (h0 : 0 ≤ i) (h1 : i < p.length) (hn0 : 0 ≤ n) (hn1 : n < g.length) {L : List Int} {F : Int} {sp : Bool} (hL : LOk p g L) (hF : 0 ≤ F) : FOk p g F (examF fr p g i n L F sp) := by
  obtain ⟨a1, a2, a3⟩ := giveF_ok (p := p) (g := g) (i := i) (n := n) hL GOk.nil h0 h1 hn0 hn1
  obtain ⟨b1, b2, b3⟩ := kidsF_ok (pairs p g i n) (pairs_ok hp hg h0 h1 hn0 hn1) a1 a2
  rw [examF]
  split
  · split
    · obtain ⟨c1, c2, c3⟩ := hfr (giveF i n L []).1 F sp a1 hF
      exact ⟨backF_ok c1, c2, c3⟩
    · exact ⟨backF_ok a1, hF, Int.le_refl _⟩
  · split
    · split
      · obtain ⟨c1, c2, c3⟩ := hfr (kidsF (pairs p g i n) (giveF i n L []).1 (giveF i n L []).2.1).1 F sp b1 hF
        exact ⟨backF_ok c1, c2, c3⟩
      · exact ⟨backF_ok b1, hF, Int.le_refl _⟩
    · exact ⟨backF_ok a1, hF, Int.le_refl _⟩
theorem loopF_ok {p g : List Nd} {ex : Int → List Int → Int → Bool → FR} (hex : ∀ (n : Int) L F sp, 0 ≤ n → n < g.length → LOk p g L → 0 ≤ F → FOk p g F (ex n L F sp)) : ∀ (k : Nat) (n : Int) (L : List Int) (F : Int) (sp : Bool), 0 ≤ n → n + k ≤ g.length → LOk p g L → 0 ≤ F → FOk p g F (loopF ex k n L F sp)
  | 0, n, L, F, sp, _, _, hL, hF => ⟨hL, hF, Int.le_refl _⟩
  | k + 1, n, L, F, sp, h0, h1, hL, hF => by
    rw [loopF]
    split
    · exact ⟨hL, hF, Int.le_refl _⟩
    · obtain ⟨a1, a2, a3⟩ := hex n L (F - 1) sp h0 (by omega) hL (by omega)
      split
      · exact ⟨a1, a2, by omega⟩
      · split
        · exact ⟨a1, a2, by omega⟩
        · obtain ⟨b1, b2, b3⟩ := loopF_ok hex k (n + 1) (ex n L (F - 1) sp).L (ex n L (F - 1) sp).F (ex n L (F - 1) sp).sp (by omega) (by omega) a1 a2
          exact ⟨b1, b2, by omega⟩
theorem fromF_ok {p g : List Nd} (hp : WFG p) (hg : WFG g) : ∀ (i : Nat) (L : List Int) (F : Int) (sp : Bool), i ≤ p.length → LOk p g L → 0 ≤ F → FOk p g F (fromF p g i L F sp)
  | 0, L, F, sp, _, hL, hF => ⟨hL, hF, Int.le_refl _⟩
  | i + 1, L, F, sp, hi, hL, hF => by
    have ih : ∀ L F sp, LOk p g L → 0 ≤ F → FOk p g F (fromF p g i L F sp) := fun L F sp h1 h2 => fromF_ok hp hg i L F sp (by omega) h1 h2
    rw [fromF]
    split
    · exact loopF_ok (fun n L F sp h0 h1 h2 h3 => examF_ok hp hg ih (by omega) (by omega) h0 h1 h2 h3) _ _ _ _ _ (by omega) (by omega) hL hF
    · rename_i hne
      have := hL.2 _ (gA_mem (l := L) (i := (i : Int)) (by omega) (by rw [hL.1]; omega))
      exact examF_ok hp hg ih (by omega) (by omega) (by omega) (by omega) hL hF
end Go.Aw
namespace Go.Aw
open Go.RowKit Go.Proofs

theorem Fun.val {K : Ctx} {S : St} {c : Operand} {f : FuncId} (h : Ev K S c (.f (.v (.func (.func f) #[] #[])))) : Fun K S c f [] := fun L a w hs => by
  have := h L a w hs
  exact ⟨#[], this, trivial⟩
/-- The graph of two variables and their sum. -/
def sumG (s1 s2 : ByteArray) (a b : Int) : List Nd := [⟨0, [], 0, 0, 0, s1, ⟨0, 8, 0⟩⟩, ⟨0, [], 0, 0, 0, s2, ⟨0, 8, 0⟩⟩, ⟨9, [a, b], 0, 0, 0, ByteArray.empty, ⟨0, 8, 0⟩⟩]

-- slices.EqualFunc[[]api.Node,[]api.Node,api.Node,api.Node]
set_option maxHeartbeats 1000000 in
theorem c_EqualFunc (W0 : World) (N : Nat) (a b : List Nd) (hl : a.length ≤ 1000000) (ha : ∀ n ∈ a, n.kids.length ≤ 1000000) : AC (En W0 N) 41 [.f (.nodes a), .f (.nodes b), .f (.v (.func (.func 39) #[] #[]))] [] (fun r h => h = [] ∧ r = .b (decide (a = b))) := by
  refine AC.enter Tryd.func41 rfl Tryd.ntmps41 (bl rfl) fun X => ?_
  refine sr ?_
  refine WL.v (Val.assign Ev.const) rfl ?_
  refine WL.norm 32 [(0, _), (1, _), (2, _)] [] rfl ⟨rfl, rfl, rfl, trivial⟩ rfl rfl ?_
  refine wn ?_
  refine W.seq ?_
  refine sr ?_
  refine mv rfl rfl ?_
  refine WL.v (Val.ln (enc := Nd.cells) Tryd.underlying23 (tm rfl)) rfl ?_
  refine mv rfl rfl ?_
  refine WL.v (Val.ln (enc := Nd.cells) Tryd.underlying23 (tm rfl)) rfl ?_
  refine WL.v (Val.neq (tm rfl) (tm rfl)) rfl ?_
  refine WL.norm 32 [(0, _), (1, _), (2, _), (14, _)] [] rfl ⟨rfl, rfl, rfl, rfl, trivial⟩ rfl rfl ?_
  refine wn ?_
  refine W.condP rfl (fun hc1 => ?_) (fun hc1 => ?_)
  · try simp only [td] at hc1
    refine sr ?_
    refine WL.v (Val.assign Ev.const) rfl ?_
    refine WL.norm 32 [(6, _)] [] rfl ⟨rfl, trivial⟩ rfl rfl ?_
    refine wn ?_
    refine W.ret (rt1 ?_)
    have e : a ≠ b := fun h => hc1 (by rw [h])
    exact Ret.of (.inr rfl) rfl (res1 rfl rfl) (Fewer.nil _) (.inr trivial) (fun id h => absurd h (Nat.not_lt_zero _)) (.same rfl) ⟨rfl, by rw [decide_eq_false e]⟩
  try simp only [td] at hc1
  refine W.skip (nm ?_)
  refine W.seq ?_
  refine sr ?_
  refine mv rfl rfl ?_
  refine WL.v (Val.ln (enc := Nd.cells) Tryd.underlying23 (tm rfl)) rfl ?_
  refine WL.v (Val.move Ev.const) rfl ?_
  refine WL.norm 32 [(1, _), (2, _), (15, _), (16, _), (17, _)] [] rfl ⟨rfl, rfl, rfl, rfl, rfl, trivial⟩ rfl rfl ?_
  refine wn ?_
  refine W.norm 32 [(1, _), (2, _), (15, _), (16, _), (17, _)] [] rfl ⟨rfl, rfl, rfl, rfl, rfl, trivial⟩ rfl rfl ?_
  refine W.block (W.loop (fun nn S => ∃ (k : Int), S = ⟨32, [(1, .f (.nodes b)), (2, .f (.v (.func (.func 39) #[] #[]))), (15, .f (.nodes a)), (16, .i a.length), (17, .i k)], [], []⟩ ∧ nn = ((a.length - k).toNat) ∧ (0 ≤ k) ∧ (k ≤ a.length) ∧ (∀ j : Nat, j < k.toNat → a[j]? = b[j]?)) ⟨0, rfl, rfl, by omega, by omega, fun j hj => absurd hj (by simp)⟩ ?_)
  rintro nn S ⟨k, rfl, rfl, hf0, hf1, hf2⟩
  refine sr ?_
  refine WL.v (Val.lss (tm rfl) (tm rfl)) rfl ?_
  refine WL.norm 32 [(1, _), (2, _), (15, _), (16, _), (17, _), (18, _)] [] rfl ⟨rfl, rfl, rfl, rfl, rfl, rfl, trivial⟩ rfl rfl ?_
  refine wn ?_
  refine W.seq ?_
  refine W.condP rfl (fun hc4 => ?_) (fun hc4 => ?_)
  · try simp only [td] at hc4
    refine W.skip (nm ?_)
    refine W.seq ?_
    refine W.block ?_
    refine sr ?_
    refine mv rfl rfl ?_
    refine WL.v (Val.ix (enc := Nd.cells) Tryd.underlying23 zs35 (tm rfl) (tm rfl) (by omega) (gA_at (by omega) (by omega))) rfl ?_
    refine WL.v (Val.loadAgg Tryd.underlying35 rfl zs35 (tm rfl) (bl rfl)) rfl ?_
    refine WL.stp rfl (Stp.alloc zz35 rfl rfl) ?_
    refine asg rfl rfl ?_
    refine WL.stp rfl (Stp.st (tm rfl) (tm rfl) zs35 rfl rfl rfl rfl rfl rfl rfl rfl) ?_
    refine WL.norm 32 [(1, _), (2, _), (7, _), (8, _), (15, _), (16, _), (17, _)] [some ⟨_, _, [[_, _, _, _, _, _, _, _, _]]⟩] rfl ⟨rfl, rfl, rfl, rfl, rfl, rfl, rfl, trivial⟩ rfl rfl ?_
    refine wn ?_
    refine sr ?_
    refine mv rfl rfl ?_
    refine mv rfl rfl ?_
    refine WL.v (Val.ix (enc := Nd.cells) Tryd.underlying23 zs35 (tm rfl) (tm rfl) (by omega) (gA_at (by omega) (by omega))) rfl ?_
    refine WL.v (Val.loadAgg Tryd.underlying35 rfl zs35 (tm rfl) (bl rfl)) rfl ?_
    refine WL.stp rfl (Stp.alloc zz35 rfl rfl) ?_
    refine WL.stp rfl (Stp.st (tm rfl) (tm rfl) zs35 rfl rfl rfl rfl rfl rfl rfl rfl) ?_
    refine WL.norm 32 [(1, _), (2, _), (8, _), (9, _), (15, _), (16, _), (17, _)] [some ⟨_, _, [[_, _, _, _, _, _, _, _, _]]⟩, some ⟨_, _, [[_, _, _, _, _, _, _, _, _]]⟩] rfl ⟨rfl, rfl, rfl, rfl, rfl, rfl, rfl, trivial⟩ rfl rfl ?_
    refine wn ?_
    refine sr ?_
    refine mv rfl rfl ?_
    refine WL.v (Val.loadLiveAgg Tryd.underlying35 rfl zs35 (tm rfl) rfl rfl rfl rfl (bl rfl)) rfl ?_
    refine WL.v (Val.loadLiveAgg Tryd.underlying35 rfl zs35 (tm rfl) rfl rfl rfl rfl (bl rfl)) rfl ?_
    refine WL.call (c := .tmp 26) (args := [Nd.agg (gA a k), Nd.agg (gA b k)]) (caps := []) ca39 (Fun.val (tm rfl)) (evc (tm rfl) (evc (tm rfl) evn)) rfl rfl (c_sameClo W0 N (gA a k) (gA b k) (ha _ (gA_mem hf0 hc4))) rfl ?_
    rintro _ rfl
    refine WL.v (Val.not (tm rfl)) rfl ?_
    refine WL.cut (env := [(1, _), (2, _), (15, _), (16, _), (17, _), (30, _)]) (h' := []) (Fewer.pre _ rfl) (.inr HLo.nil) (fun id h => absurd h (Nat.not_lt_zero _)) ⟨⟨_, rfl, (.same rfl)⟩, ⟨_, rfl, (.same rfl)⟩, ⟨_, rfl, (.same rfl)⟩, ⟨_, rfl, (.same rfl)⟩, ⟨_, rfl, (.same rfl)⟩, ⟨_, rfl, (.same rfl)⟩, trivial⟩ ?_
    refine wn ?_
    refine W.condP rfl (fun hc7 => ?_) (fun hc7 => ?_)
    · try simp only [td] at hc7
      refine sr ?_
      refine WL.v (Val.assign Ev.const) rfl ?_
      refine WL.norm 32 [(6, _)] [] rfl ⟨rfl, trivial⟩ rfl rfl ?_
      refine wn ?_
      refine W.ret (rt2 (rt1 (rt1 (rt2 (rt1 ?_)))))
      have e : a ≠ b := fun h => hc7 (by rw [h])
      exact Ret.of (.inr rfl) rfl (res1 rfl rfl) (Fewer.nil _) (.inr trivial) (fun id h => absurd h (Nat.not_lt_zero _)) (.same rfl) ⟨rfl, by rw [decide_eq_false e]⟩
    try simp only [td] at hc7
    refine W.skip (nb (nm ?_))
    refine W.region ?_
    refine WL.v (Val.add (tm rfl) Ev.const (IntWalk.i64_in _ (by omega))) rfl ?_
    refine mv rfl rfl ?_
    refine WL.norm 32 [(1, _), (2, _), (15, _), (16, _), (17, _)] [] rfl ⟨rfl, rfl, rfl, rfl, rfl, trivial⟩ rfl rfl ?_
    refine wn ?_
    exact ⟨_, by omega, k + 1, rfl, rfl, by omega, by omega, same_step hf0 (by omega) (by omega) hf2 hc7⟩
  try simp only [td] at hc4
  refine W.exit (ex1 (ex1 (ex2 (nm ?_))))
  refine sr ?_
  refine WL.v (Val.assign Ev.const) rfl ?_
  refine WL.norm 32 [(6, _)] [] rfl ⟨rfl, trivial⟩ rfl rfl ?_
  refine wn ?_
  refine W.ret ?_
  have e : a = b := same_end hf0 (by omega) (by omega) hf2
  exact Ret.of (.inr rfl) rfl (res1 rfl rfl) (Fewer.nil _) (.inr trivial) (fun id h => absurd h (Nat.not_lt_zero _)) (.same rfl) ⟨rfl, by rw [decide_eq_true e]⟩
-- enthymemelaw13.sum
set_option maxHeartbeats 1000000 in
theorem c_sum (W0 : World) (N : Nat) (s1 s2 : ByteArray) (a b : Int) : AC (En W0 N) 33 [.f (.v (.string s1)), .f (.v (.string s2)), .i a, .i b] [] (fun r h => h = [] ∧ r = .agg [.f (.nodes (sumG s1 s2 a b))]) := by
  refine AC.enter Tryd.func33 rfl Tryd.ntmps33 (bl rfl) fun X => ?_
  refine sr ?_
  refine WL.stp rfl (Stp.alloc zz39 rfl rfl) ?_
  refine WL.norm 24 [(0, _), (1, _), (2, _), (3, _), (8, _)] [some ⟨_, _, [[_]]⟩] rfl ⟨rfl, rfl, rfl, rfl, rfl, trivial⟩ rfl rfl ?_
  refine wn ?_
  refine sr ?_
  refine WL.v (Val.build (vs := [(1, _)]) Tryd.underlying33 zz33 rfl rfl pl33 rfl ⟨Ev.const, rfl, rfl, rfl, trivial⟩) rfl ?_
  refine WL.stp rfl (Stp.alloc zz33 rfl rfl) ?_
  refine WL.stp rfl (Stp.st (tm rfl) (tm rfl) zs33 rfl rfl rfl rfl rfl rfl rfl rfl) ?_
  refine WL.norm 24 [(0, _), (1, _), (2, _), (3, _), (8, _), (9, _)] [some ⟨_, _, [[_]]⟩, some ⟨_, _, [[_, _, _]]⟩] rfl ⟨rfl, rfl, rfl, rfl, rfl, rfl, trivial⟩ rfl rfl ?_
  refine wn ?_
  refine sr ?_
  refine mv rfl rfl ?_
  refine WL.v (Val.loadLiveAgg Tryd.underlying33 rfl zs33 (tm rfl) rfl rfl rfl rfl (bl rfl)) rfl ?_
  refine WL.v (Val.le (Val.build (vs := [(0, _), (5, _), (6, _)]) Tryd.underlying35 zz35 rfl rfl pl35 rfl ⟨Ev.const, rfl, rfl, rfl, ⟨(tm rfl), rfl, rfl, rfl, ⟨(tm rfl), rfl, rfl, rfl, trivial⟩⟩⟩) (Le.agg (ys := [_, .f (.lst 1 []), _, _, _, _, _, _, _]) (LeL.cons (Le.refl _) (LeL.cons Le.nil (LeL.cons (Le.refl _) (LeL.cons (Le.refl _) (LeL.cons (Le.refl _) (LeL.cons (Le.refl _) (LeL.cons (Le.refl _) (LeL.cons (Le.refl _) (LeL.cons (Le.refl _) LeL.nil))))))))))) rfl ?_
  refine mv rfl rfl ?_
  refine WL.v (Val.loadLiveAgg Tryd.underlying33 rfl zs33 (tm rfl) rfl rfl rfl rfl (bl rfl)) rfl ?_
  refine WL.v (Val.le (Val.build (vs := [(0, _), (5, _), (6, _)]) Tryd.underlying35 zz35 rfl rfl pl35 rfl ⟨Ev.const, rfl, rfl, rfl, ⟨(tm rfl), rfl, rfl, rfl, ⟨(tm rfl), rfl, rfl, rfl, trivial⟩⟩⟩) (Le.agg (ys := [_, .f (.lst 1 []), _, _, _, _, _, _, _]) (LeL.cons (Le.refl _) (LeL.cons Le.nil (LeL.cons (Le.refl _) (LeL.cons (Le.refl _) (LeL.cons (Le.refl _) (LeL.cons (Le.refl _) (LeL.cons (Le.refl _) (LeL.cons (Le.refl _) (LeL.cons (Le.refl _) LeL.nil))))))))))) rfl ?_
  refine mv rfl rfl ?_
  refine mv rfl rfl ?_
  refine WL.stp rfl (Stp.buildFrozen (xs := [_, _]) (fs := ([a, b] : List Int).map encI) Tryd.underlying22 zs3 zz3 rfl rfl (evc (tm rfl) (evc (tm rfl) evn)) fitL (bl rfl) rfl rfl) ?_
  refine WL.v (Val.loadLiveAgg Tryd.underlying33 rfl zs33 (tm rfl) rfl rfl rfl rfl (bl rfl)) rfl ?_
  refine WL.v (Val.build (vs := [(0, _), (1, _), (6, _)]) Tryd.underlying35 zz35 rfl rfl pl35 rfl ⟨Ev.const, rfl, rfl, rfl, ⟨(tm rfl), rfl, rfl, rfl, ⟨(tm rfl), rfl, rfl, rfl, trivial⟩⟩⟩) rfl ?_
  refine WL.stp rfl (Stp.buildFrozen (xs := [_, _, _]) (fs := (sumG s1 s2 a b).map Nd.cells) Tryd.underlying23 zs35 zz35 rfl rfl (evc (tm rfl) (evc (tm rfl) (evc (tm rfl) evn))) fitL (bl rfl) rfl rfl) ?_
  refine WL.v (Val.build (vs := [(0, _)]) Tryd.underlying39 zz39 rfl rfl pl39 rfl ⟨(tm rfl), rfl, rfl, rfl, trivial⟩) rfl ?_
  refine WL.stp rfl (Stp.st (tm rfl) (tm rfl) zs39 rfl rfl rfl rfl rfl rfl rfl rfl) ?_
  refine WL.norm 24 [(8, _)] [some ⟨_, _, [[_]]⟩, some ⟨_, _, [[_, _, _]]⟩] rfl ⟨rfl, trivial⟩ rfl rfl ?_
  refine wn ?_
  refine W.ret ?_
  exact Ret.of (.inr rfl) rfl (resCell rfl Tryd.underlying39 rfl zs39 rfl rfl rfl rfl rfl rfl) (Fewer.nil _) (.inr trivial) (fun id h => absurd h (Nat.not_lt_zero _)) (.same rfl) ⟨rfl, rfl⟩
-- match.Canonical
set_option maxHeartbeats 1000000 in
theorem c_CanonicalM (W0 : World) (N : Nat) (g : List Nd) (hg : WFG g) (h99 : g.length ≤ 99) (roots : List Int) (hr : roots.length ≤ 1000000) : AC (En W0 N) 20 [.agg [.f (.nodes g)], .f (.ints roots)] [] (fun r h => h = [] ∧ r = .tup [.b (decide ((canonR g roots).2.2 = 0) && decide ((canonR g roots).1 = g)), .i (canonR g roots).2.2]) := by
  obtain ⟨hcr1, hcr2⟩ := canonR_fine hg roots
  refine AC.enter Tryd.func20 rfl Tryd.ntmps20 (bl rfl) fun X => ?_
  refine sr ?_
  refine WL.stp rfl (Stp.box (tm rfl) rfl rfl) ?_
  refine WL.v (Val.assign Ev.const) rfl ?_
  refine WL.v (Val.assign Ev.const) rfl ?_
  refine WL.norm 26 [(1, _), (2, _)] [some ⟨_, _, [[_]]⟩] rfl ⟨rfl, rfl, trivial⟩ rfl rfl ?_
  refine wn ?_
  refine sr ?_
  refine WL.v (Val.loadLiveAgg Tryd.underlying39 rfl zs39 (tm rfl) rfl rfl rfl rfl (bl rfl)) rfl ?_
  refine mv rfl rfl ?_
  refine WL.callV ca16 (evc (tm rfl) (evc (tm rfl) evn)) (lo2 rfl (lo1 lo0)) rfl (c_CanonM W0 N _ (by assumption) (by omega) _ (by omega)) ?_
  rintro _ rfl
  refine mv rfl rfl ?_
  refine WL.v (Val.extract (tm rfl) rfl) rfl ?_
  refine WL.v (Val.extract (tm rfl) rfl) rfl ?_
  refine WL.v (Val.extract (tm rfl) rfl) rfl ?_
  refine WL.stp rfl (Stp.alloc zz39 rfl rfl) ?_
  refine WL.stp rfl (Stp.st (tm rfl) (tm rfl) zs39 rfl rfl rfl rfl rfl rfl rfl rfl) ?_
  refine asg rfl rfl ?_
  refine asg rfl rfl ?_
  refine WL.norm 26 [(2, _), (6, _), (8, _)] [some ⟨_, _, [[_]]⟩, some ⟨_, _, [[_]]⟩] rfl ⟨rfl, rfl, rfl, trivial⟩ rfl rfl ?_
  refine wn ?_
  refine W.seq ?_
  refine sr ?_
  refine mv rfl rfl ?_
  refine WL.v (Val.neq (tm rfl) Ev.const) rfl ?_
  refine WL.norm 26 [(2, _), (6, _), (8, _), (18, _)] [some ⟨_, _, [[_]]⟩, some ⟨_, _, [[_]]⟩] rfl ⟨rfl, rfl, rfl, rfl, trivial⟩ rfl rfl ?_
  refine wn ?_
  refine W.condP rfl (fun hc2 => ?_) (fun hc2 => ?_)
  · try simp only [td] at hc2
    refine sr ?_
    refine mv rfl rfl ?_
    refine WL.v (Val.assign Ev.const) rfl ?_
    refine asg rfl rfl ?_
    refine WL.norm 26 [(4, _), (5, _)] [some ⟨_, _, [[_]]⟩, some ⟨_, _, [[_]]⟩] rfl ⟨rfl, rfl, trivial⟩ rfl rfl ?_
    refine wn ?_
    refine W.ret (rt1 ?_)
    exact Ret.of (.inr rfl) rfl (res2 rfl rfl rfl) (Fewer.nil _) (.inr trivial) (fun id h => absurd h (Nat.not_lt_zero _)) (.same rfl) ⟨rfl, by rw [decide_eq_false hc2]; rfl⟩
  try simp only [td] at hc2
  refine W.skip (nm ?_)
  refine sr ?_
  refine WL.v (Val.assign Ev.func) rfl ?_
  refine WL.norm 26 [(2, _), (6, _), (9, _)] [some ⟨_, _, [[_]]⟩, some ⟨_, _, [[_]]⟩] rfl ⟨rfl, rfl, rfl, trivial⟩ rfl rfl ?_
  refine wn ?_
  refine sr ?_
  refine WL.v (Val.fal (off := 0) Tryd.underlying39 rfl rfl zs23 (tm rfl)) rfl ?_
  refine WL.v (Val.loadLive Tryd.underlying23 rfl (tm rfl) rfl rfl rfl rfl rfl) rfl ?_
  refine WL.v (Val.fal (off := 0) Tryd.underlying39 rfl rfl zs23 (tm rfl)) rfl ?_
  refine WL.v (Val.loadLive Tryd.underlying23 rfl (tm rfl) rfl rfl rfl rfl rfl) rfl ?_
  refine mv rfl rfl ?_
  refine WL.callV ca41 (evc (tm rfl) (evc (tm rfl) (evc (tm rfl) evn))) (lo1 (lo1 (lo1 lo0))) rfl (c_EqualFunc W0 N _ _ hcr1 hcr2) ?_
  rintro _ rfl
  refine asg rfl rfl ?_
  refine WL.v (Val.assign Ev.const) rfl ?_
  refine WL.norm 26 [(4, _), (5, _)] [some ⟨_, _, [[_]]⟩, some ⟨_, _, [[_]]⟩] rfl ⟨rfl, rfl, trivial⟩ rfl rfl ?_
  refine wn ?_
  refine W.ret ?_
  exact Ret.of (.inr rfl) rfl (res2 rfl rfl rfl) (Fewer.nil _) (.inr trivial) (fun id h => absurd h (Nat.not_lt_zero _)) (.same rfl) ⟨rfl, by rw [decide_eq_true hc2, hc2]; rfl⟩
-- enthymemeref13.Canonical
set_option maxHeartbeats 1000000 in
theorem c_CanonicalR (W0 : World) (N : Nat) (g : List Nd) (hg : WFG g) (h99 : g.length ≤ 99) (roots : List Int) (hr : roots.length ≤ 1000000) : AC (En W0 N) 21 [.f (.nodes g), .f (.ints roots)] [] (fun r h => h = [] ∧ r = .tup [.b (decide ((canonR g roots).2.2 = 0) && decide ((canonR g roots).1 = g)), .i (canonR g roots).2.2]) := by
  have hcr := canonR_fine hg roots
  refine AC.enter Tryd.func21 rfl Tryd.ntmps21 (bl rfl) fun X => ?_
  refine sr ?_
  refine WL.v (Val.assign Ev.const) rfl ?_
  refine WL.v (Val.assign Ev.const) rfl ?_
  refine WL.norm 24 [(0, _), (1, _)] [] rfl ⟨rfl, rfl, trivial⟩ rfl rfl ?_
  refine wn ?_
  refine sr ?_
  refine mv rfl rfl ?_
  refine mv rfl rfl ?_
  refine WL.callV ca9 (evc (tm rfl) (evc (tm rfl) evn)) (lo1 (lo1 lo0)) rfl (c_CanonR W0 N _ (by assumption) (by omega) _ (by omega)) ?_
  rintro _ rfl
  refine mv rfl rfl ?_
  refine WL.v (Val.extract (tm rfl) rfl) rfl ?_
  refine WL.v (Val.extract (tm rfl) rfl) rfl ?_
  refine WL.v (Val.extract (tm rfl) rfl) rfl ?_
  refine asg rfl rfl ?_
  refine asg rfl rfl ?_
  refine asg rfl rfl ?_
  refine WL.norm 24 [(0, _), (6, _), (8, _)] [] rfl ⟨rfl, rfl, rfl, trivial⟩ rfl rfl ?_
  refine wn ?_
  refine sr ?_
  refine mv rfl rfl ?_
  refine WL.v (Val.eql (tm rfl) Ev.const) rfl ?_
  refine mv rfl rfl ?_
  refine WL.g (Grd.t rfl rfl rfl) (fun hG => Val.move (tm rfl)) rfl ?_
  refine WL.g (Grd.t rfl rfl rfl) (fun hG => Val.move (tm rfl)) rfl ?_
  refine WL.gcall (Grd.t rfl rfl rfl) ca22 (fun hG => (evc (Ev.opt rfl hG) (evc (Ev.opt rfl hG) evn))) (lo1 (lo1 lo0)) rfl (fun hG => c_SameGraph W0 N _ _ hcr) ?_
  refine WL.v (Val.and (tm rfl) (fun hb => Ev.opt rfl hb)) rfl ?_
  refine mv rfl rfl ?_
  refine asg rfl rfl ?_
  refine asg rfl rfl ?_
  refine WL.norm 24 [(4, _), (5, _)] [] rfl ⟨rfl, rfl, trivial⟩ rfl rfl ?_
  refine wn ?_
  refine W.ret ?_
  exact Ret.of (.inr rfl) rfl (res2 rfl rfl rfl) (Fewer.nil _) (.inr trivial) (fun id h => absurd h (Nat.not_lt_zero _)) (.same rfl) ⟨rfl, rfl⟩
end Go.Aw
