/- The walks of the functions on sorts. A small logic over the walk's rules: calls that are lent a live row; ends that keep the rows. A small logic over the walk's rules: a call that is handed some rows, which it knows by numbers of its own. A small logic over the walk's rules: rows handed to a callee, told by a list of their numbers. A small logic over the walk's rules: a call that is handed the first rows, under the same numbers. A small logic over the walk's rules: a function that defers one closure without arguments and hands back a variable's value. A small logic over the walk's rules: fields of structs that lie in slots. Regular expressions as data: how they lie in cells, their number of nodes, which of them are well formed. The walks of small functions on regular expressions. Strings made of bytes; the order of regular expressions as a function. -/
import Derived.Defers
import Derived.Laws.BytesString
import Derived.Test.YtdjiaddhgooppaaDoorAwb
set_option linter.unusedVariables false
set_option linter.unusedSimpArgs false
namespace Go.Aw
open Go.RowKit Go.Proofs

theorem EqFine.len {g : List Nd} {n : Nd} (h : EqFine g n) : n.kids.length = 2 := by obtain ⟨_, _, _, _, _, a, b, hk, _⟩ := h; rw [hk]; rfl
theorem EqFine.in {g : List Nd} {n : Nd} (h : EqFine g n) : ∀ k, k ∈ n.kids → 0 ≤ k ∧ k < (g.length : Int) := by
  obtain ⟨_, _, _, _, _, a, b, hk, h1, h2, h3, h4, _⟩ := h
  rw [hk]; intro k hk; simp at hk; rcases hk with rfl | rfl <;> omega
-- enthymemeref07.fields
set_option maxHeartbeats 1000000 in
theorem c_fields (W0 : World) (N : Nat) (g : List Nd) (hg : g.length ≤ 1000) (n : Nd) : AC (En W0 N) 51 [.f (.nodes g), n.agg] [] (fun r h => h = [] ∧ ∃ e, r = .i e ∧ (e = 0 → KidsIn g n) ∧ (EqFine g n → e = 0) ∧ (e = 0 → kidsOf n.op = n.kids.length)) := by
  refine AC.enter Tryd.func51 rfl Tryd.ntmps51 (bl rfl) fun X => ?_
  have hle := kidsOf_le n.op
  refine sr ?_
  refine WL.stp rfl (Stp.box (tm rfl) rfl rfl) ?_
  refine WL.v (Val.assign Ev.const) rfl ?_
  refine WL.norm 82 [(0, _), (3, _)] [some ⟨_, _, [[_, _, _, _, _, _, _, _, _]]⟩] rfl ⟨rfl, rfl, trivial⟩ rfl rfl ?_
  refine wn ?_
  refine W.seq ?_
  refine W.seq ?_
  refine W.drawE (fun k => ([([], []), ([0], []), ([], []), ([], []), ([0], []), ([], []), ([], [])] : List (List Nat × List Nat)).getD k ([], [])) rfl (by kernel_rfl) (bl rfl) ?_
  refine LexE.val rfl rfl rfl (fun h' ha => Val.fal (off := 0) Tryd.underlying35 rfl rfl zs3 (tm rfl)) ?_
  refine LexE.val rfl rfl rfl (fun h' ha => Val.loadLive Tryd.underlying3 rfl (tm rfl) ((ha.at_ 0 (by decide)).trans rfl) rfl rfl rfl rfl) ?_
  refine LexE.call ca46 (fun h' ha => (evc (tm rfl) evn)) (lo1 lo0) rfl (c_Kids W0 N _) rfl ?_
  refine LexE.val rfl rfl rfl (fun h' ha => Val.fal (off := 1) Tryd.underlying35 rfl rfl zs22 (tm rfl)) ?_
  refine LexE.val rfl rfl rfl (fun h' ha => Val.loadLive Tryd.underlying22 rfl (tm rfl) ((ha.at_ 0 (by decide)).trans rfl) rfl rfl rfl rfl) ?_
  refine LexE.val rfl rfl rfl (fun h' ha => Val.ln (enc := encI) Tryd.underlying22 (tm rfl)) ?_
  refine LexE.val rfl rfl rfl (fun h' ha => Val.neq (tm rfl) (tm rfl)) ?_
  refine LexE.nil (nm ?_)
  refine W.norm 82 [(0, _), (3, _), (14, _)] [some ⟨_, _, [[_, _, _, _, _, _, _, _, _]]⟩] rfl ⟨rfl, rfl, rfl, trivial⟩ rfl rfl ?_
  refine W.condP rfl (fun hc1 => ?_) (fun hc1 => ?_)
  · try simp only [td] at hc1
    refine sr ?_
    refine WL.v (Val.assign Ev.const) rfl ?_
    refine WL.norm 82 [(4, _)] [some ⟨_, _, [[_, _, _, _, _, _, _, _, _]]⟩] rfl ⟨rfl, trivial⟩ rfl rfl ?_
    refine wn ?_
    refine W.ret (rt1 ?_)
    exact Ret.of (.inr rfl) rfl (res1 rfl rfl) (Fewer.nil _) (.inr trivial) (fun id h => absurd h (Nat.not_lt_zero _)) (.same rfl) ⟨rfl, _, rfl, fun h => absurd h (by omega), fun h => absurd (by rw [h.len, h.1]; rfl) hc1, fun h => absurd h (by omega)⟩
  try simp only [td] at hc1
  refine W.skip (nm ?_)
  refine W.seq ?_
  refine sr ?_
  refine WL.v (Val.assign Ev.const) rfl ?_
  refine WL.norm 82 [(0, _), (3, _), (5, _)] [some ⟨_, _, [[_, _, _, _, _, _, _, _, _]]⟩] rfl ⟨rfl, rfl, rfl, trivial⟩ rfl rfl ?_
  refine wn ?_
  refine W.norm 82 [(0, _), (3, _), (5, _)] [some ⟨_, _, [[_, _, _, _, _, _, _, _, _]]⟩] rfl ⟨rfl, rfl, rfl, trivial⟩ rfl rfl ?_
  refine W.block (W.loop (fun nn S => ∃ (k : Int), S = ⟨82, [(0, .f (.nodes g)), (3, .ptr 0 0 9 0 0), (5, .i k)], [some ⟨0, 9, [n.cells.map .f]⟩], []⟩ ∧ nn = ((n.kids.length - k).toNat) ∧ (0 ≤ k) ∧ (k ≤ n.kids.length) ∧ (∀ j : Nat, j < k.toNat → ∀ x, n.kids[j]? = some x → 0 ≤ x ∧ x < (g.length : Int))) ⟨0, rfl, rfl, by omega, by omega, fun j hj => absurd hj (by simp)⟩ ?_)
  rintro nn S ⟨k, rfl, rfl, hf0_0, hf0_1, hf0_2⟩
  refine W.seq ?_
  refine sr ?_
  refine mv rfl rfl ?_
  refine WL.v (Val.fal (off := 1) Tryd.underlying35 rfl rfl zs22 (tm rfl)) rfl ?_
  refine WL.v (Val.loadLive Tryd.underlying22 rfl (tm rfl) rfl rfl rfl rfl rfl) rfl ?_
  refine WL.v (Val.ln (enc := encI) Tryd.underlying22 (tm rfl)) rfl ?_
  refine WL.v (Val.lss (tm rfl) (tm rfl)) rfl ?_
  refine WL.norm 82 [(0, _), (3, _), (5, _), (19, _)] [some ⟨_, _, [[_, _, _, _, _, _, _, _, _]]⟩] rfl ⟨rfl, rfl, rfl, rfl, trivial⟩ rfl rfl ?_
  refine wn ?_
  refine W.condP rfl (fun hc4 => ?_) (fun hc4 => ?_)
  · try simp only [td] at hc4
    refine W.skip (nm ?_)
    refine W.seq ?_
    refine W.block ?_
    refine sr ?_
    refine WL.v (Val.fal (off := 1) Tryd.underlying35 rfl rfl zs22 (tm rfl)) rfl ?_
    refine WL.v (Val.loadLive Tryd.underlying22 rfl (tm rfl) rfl rfl rfl rfl rfl) rfl ?_
    refine mv rfl rfl ?_
    refine WL.v (Val.ix (enc := encI) Tryd.underlying22 zs3 (tm rfl) (tm rfl) (by omega) (gA_at (by omega) (by omega))) rfl ?_
    refine WL.v (Val.load Tryd.underlying3 rfl (tm rfl)) rfl ?_
    refine WL.v (Val.lss (tm rfl) Ev.const) rfl ?_
    refine mv rfl rfl ?_
    refine WL.g (Grd.f rfl rfl rfl) (fun hG => Val.fal (off := 1) Tryd.underlying35 rfl rfl zs22 (tm rfl)) rfl ?_
    refine WL.g (Grd.f rfl rfl rfl) (fun hG => Val.loadLive Tryd.underlying22 rfl (Ev.opt rfl hG) rfl rfl rfl rfl rfl) rfl ?_
    refine WL.g (Grd.f rfl rfl rfl) (fun hG => Val.move (tm rfl)) rfl ?_
    refine WL.g (Grd.f rfl rfl rfl) (fun hG => Val.ix (enc := encI) Tryd.underlying22 zs3 (Ev.opt rfl hG) (Ev.opt rfl hG) (by try simp only [td] at hG; omega) (gA_at (by try simp only [td] at hG; omega) (by try simp only [td] at hG; omega))) rfl ?_
    refine WL.g (Grd.f rfl rfl rfl) (fun hG => Val.load Tryd.underlying3 rfl (Ev.opt rfl hG)) rfl ?_
    refine WL.g (Grd.f rfl rfl rfl) (fun hG => Val.move (tm rfl)) rfl ?_
    refine WL.g (Grd.f rfl rfl rfl) (fun hG => Val.ln (enc := Nd.cells) Tryd.underlying23 (Ev.opt rfl hG)) rfl ?_
    refine WL.g (Grd.f rfl rfl rfl) (fun hG => Val.geq (Ev.opt rfl hG) (Ev.opt rfl hG)) rfl ?_
    refine WL.v (Val.or (tm rfl) (fun hb => Ev.opt rfl (nt hb))) rfl ?_
    refine WL.norm 82 [(0, _), (3, _), (5, _), (37, _)] [some ⟨_, _, [[_, _, _, _, _, _, _, _, _]]⟩] rfl ⟨rfl, rfl, rfl, rfl, trivial⟩ rfl rfl ?_
    refine wn ?_
    refine W.condP rfl (fun hc6 => ?_) (fun hc6 => ?_)
    · try simp only [td] at hc6
      refine sr ?_
      refine WL.v (Val.assign Ev.const) rfl ?_
      refine WL.norm 82 [(4, _)] [some ⟨_, _, [[_, _, _, _, _, _, _, _, _]]⟩] rfl ⟨rfl, trivial⟩ rfl rfl ?_
      refine wn ?_
      refine W.ret (rt2 (rt1 (rt1 (rt2 (rt1 ?_)))))
      exact Ret.of (.inr rfl) rfl (res1 rfl rfl) (Fewer.nil _) (.inr trivial) (fun id h => absurd h (Nat.not_lt_zero _)) (.same rfl) ⟨rfl, _, rfl, fun h => absurd h (by omega), fun h => by have := h.in _ (gA_mem hf0_0 hc4); omega, fun h => absurd h (by omega)⟩
    try simp only [td] at hc6
    refine W.skip (nb (nm ?_))
    refine W.region ?_
    refine mv rfl rfl ?_
    refine WL.v (Val.add (tm rfl) Ev.const (IntWalk.i64_in _ (by omega))) rfl ?_
    refine asg rfl rfl ?_
    refine WL.norm 82 [(0, _), (3, _), (5, _)] [some ⟨_, _, [[_, _, _, _, _, _, _, _, _]]⟩] rfl ⟨rfl, rfl, rfl, trivial⟩ rfl rfl ?_
    refine wn ?_
    exact ⟨_, by omega, k + 1, rfl, rfl, by omega, by omega, kids_step hf0_0 (by omega) hf0_2 (by omega)⟩
  try simp only [td] at hc4
  refine W.exit (ex1 (ex1 (ex2 (nm ?_))))
  refine W.seq ?_
  have hall := kids_end hf0_0 (by omega) hf0_2
  refine W.region ?_
  refine WL.stp rfl (Stp.buildFrozen (xs := [_, _, _, _]) (fs := ([21, 22, 23, 28] : List Int).map encI) Tryd.underlying22 zs3 zz3 rfl rfl (evc Ev.const (evc Ev.const (evc Ev.const (evc Ev.const evn)))) fitL (bl rfl) rfl rfl) ?_
  refine WL.v (Val.fal (off := 0) Tryd.underlying35 rfl rfl zs3 (tm rfl)) rfl ?_
  refine WL.v (Val.loadLive Tryd.underlying3 rfl (tm rfl) rfl rfl rfl rfl rfl) rfl ?_
  refine WL.callV ca63 (evc (tm rfl) (evc (tm rfl) evn)) (lo1 (lo1 lo0)) rfl (c_has W0 N _ _ (by first | omega | simp)) ?_
  rintro _ rfl
  refine asg rfl rfl ?_
  refine WL.norm 82 [(3, _), (6, _)] [some ⟨_, _, [[_, _, _, _, _, _, _, _, _]]⟩] rfl ⟨rfl, rfl, trivial⟩ rfl rfl ?_
  refine wn ?_
  refine sr ?_
  refine WL.stp rfl (Stp.buildFrozen (xs := [_, _, _]) (fs := ([0, 2, 33] : List Int).map encI) Tryd.underlying22 zs3 zz3 rfl rfl (evc Ev.const (evc Ev.const (evc Ev.const evn))) fitL (bl rfl) rfl rfl) ?_
  refine WL.v (Val.fal (off := 0) Tryd.underlying35 rfl rfl zs3 (tm rfl)) rfl ?_
  refine WL.v (Val.loadLive Tryd.underlying3 rfl (tm rfl) rfl rfl rfl rfl rfl) rfl ?_
  refine WL.callV ca63 (evc (tm rfl) (evc (tm rfl) evn)) (lo1 (lo1 lo0)) rfl (c_has W0 N _ _ (by first | omega | simp)) ?_
  rintro _ rfl
  refine asg rfl rfl ?_
  refine WL.norm 82 [(3, _), (6, _), (7, _)] [some ⟨_, _, [[_, _, _, _, _, _, _, _, _]]⟩] rfl ⟨rfl, rfl, rfl, trivial⟩ rfl rfl ?_
  refine wn ?_
  refine W.seq ?_
  refine sr ?_
  refine mv rfl rfl ?_
  refine WL.v (Val.not (tm rfl)) rfl ?_
  refine mv rfl rfl ?_
  refine WL.g (Grd.t rfl rfl rfl) (fun hG => Val.fal (off := 2) Tryd.underlying35 rfl rfl zs3 (tm rfl)) rfl ?_
  refine WL.g (Grd.t rfl rfl rfl) (fun hG => Val.loadLive Tryd.underlying3 rfl (Ev.opt rfl hG) rfl rfl rfl rfl rfl) rfl ?_
  refine WL.g (Grd.t rfl rfl rfl) (fun hG => Val.neq (Ev.opt rfl hG) Ev.const) rfl ?_
  refine WL.v (Val.and (tm rfl) (fun hb => Ev.opt rfl hb)) rfl ?_
  refine mv rfl rfl ?_
  refine WL.g (Grd.f rfl rfl rfl) (fun hG => Val.fal (off := 0) Tryd.underlying35 rfl rfl zs3 (tm rfl)) rfl ?_
  refine WL.g (Grd.f rfl rfl rfl) (fun hG => Val.loadLive Tryd.underlying3 rfl (Ev.opt rfl hG) rfl rfl rfl rfl rfl) rfl ?_
  refine WL.g (Grd.f rfl rfl rfl) (fun hG => Val.neq (Ev.opt rfl hG) Ev.const) rfl ?_
  refine WL.g (Grd.f rfl rfl rfl) (fun hG => Val.move (Ev.opt rfl hG)) rfl ?_
  refine WL.g (Grd.ot rfl rfl rfl) (fun hG => Val.fal (off := 3) Tryd.underlying35 rfl rfl zs3 (tm rfl)) rfl ?_
  refine WL.g (Grd.ot rfl rfl rfl) (fun hG => Val.loadLive Tryd.underlying3 rfl (Ev.opt rfl hG) rfl rfl rfl rfl rfl) rfl ?_
  refine WL.g (Grd.ot rfl rfl rfl) (fun hG => Val.neq (Ev.opt rfl hG) Ev.const) rfl ?_
  refine WL.g (Grd.f rfl rfl rfl) (fun hG => Val.and (Ev.opt rfl hG) (fun hb => Ev.opt rfl (an hG hb))) rfl ?_
  refine WL.v (Val.or (tm rfl) (fun hb => Ev.opt rfl (nt hb))) rfl ?_
  refine mv rfl rfl ?_
  refine WL.g (Grd.f rfl rfl rfl) (fun hG => Val.fal (off := 0) Tryd.underlying35 rfl rfl zs3 (tm rfl)) rfl ?_
  refine WL.g (Grd.f rfl rfl rfl) (fun hG => Val.loadLive Tryd.underlying3 rfl (Ev.opt rfl hG) rfl rfl rfl rfl rfl) rfl ?_
  refine WL.g (Grd.f rfl rfl rfl) (fun hG => Val.neq (Ev.opt rfl hG) Ev.const) rfl ?_
  refine WL.g (Grd.f rfl rfl rfl) (fun hG => Val.move (Ev.opt rfl hG)) rfl ?_
  refine WL.g (Grd.ot rfl rfl rfl) (fun hG => Val.fal (off := 4) Tryd.underlying35 rfl rfl zs31 (tm rfl)) rfl ?_
  refine WL.g (Grd.ot rfl rfl rfl) (fun hG => Val.loadLive Tryd.underlying31 rfl (Ev.opt rfl hG) rfl rfl rfl rfl rfl) rfl ?_
  refine WL.g (Grd.ot rfl rfl rfl) (fun hG => Val.neq (Ev.opt rfl hG) Ev.const) rfl ?_
  refine WL.g (Grd.f rfl rfl rfl) (fun hG => Val.and (Ev.opt rfl hG) (fun hb => Ev.opt rfl (an hG hb))) rfl ?_
  refine WL.v (Val.or (tm rfl) (fun hb => Ev.opt rfl (nt hb))) rfl ?_
  refine mv rfl rfl ?_
  refine WL.g (Grd.f rfl rfl rfl) (fun hG => Val.move (tm rfl)) rfl ?_
  refine WL.g (Grd.f rfl rfl rfl) (fun hG => Val.not (Ev.opt rfl hG)) rfl ?_
  refine WL.g (Grd.f rfl rfl rfl) (fun hG => Val.move (Ev.opt rfl hG)) rfl ?_
  refine WL.g (Grd.ot rfl rfl rfl) (fun hG => Val.fal (off := 5) Tryd.underlying35 rfl rfl zs9 (tm rfl)) rfl ?_
  refine WL.g (Grd.ot rfl rfl rfl) (fun hG => Val.loadLive Tryd.underlying9 rfl (Ev.opt rfl hG) rfl rfl rfl rfl rfl) rfl ?_
  refine WL.g (Grd.ot rfl rfl rfl) (fun hG => Val.neqS (Ev.opt rfl hG) Ev.const) rfl ?_
  refine WL.g (Grd.f rfl rfl rfl) (fun hG => Val.and (Ev.opt rfl hG) (fun hb => Ev.opt rfl (an hG hb))) rfl ?_
  refine WL.v (Val.or (tm rfl) (fun hb => Ev.opt rfl (nt hb))) rfl ?_
  refine WL.norm 82 [(81, _)] [some ⟨_, _, [[_, _, _, _, _, _, _, _, _]]⟩] rfl ⟨rfl, trivial⟩ rfl rfl ?_
  refine wn ?_
  refine W.condP rfl (fun hc10 => ?_) (fun hc10 => ?_)
  · refine sr ?_
    refine WL.v (Val.assign Ev.const) rfl ?_
    refine WL.norm 82 [(4, _)] [some ⟨_, _, [[_, _, _, _, _, _, _, _, _]]⟩] rfl ⟨rfl, trivial⟩ rfl rfl ?_
    refine wn ?_
    refine W.ret (rt1 ?_)
    exact Ret.of (.inr rfl) rfl (res1 rfl rfl) (Fewer.nil _) (.inr trivial) (fun id h => absurd h (Nat.not_lt_zero _)) (.same rfl) ⟨rfl, _, rfl, fun h => absurd h (by omega), fun h => by obtain ⟨q1, q2, q3, q4, q5, _⟩ := h; simp [q1, q2, q3, q4, q5] at hc10, fun h => absurd h (by omega)⟩
  refine W.skip (nm ?_)
  refine sr ?_
  refine WL.v (Val.assign Ev.const) rfl ?_
  refine WL.norm 82 [(4, _)] [some ⟨_, _, [[_, _, _, _, _, _, _, _, _]]⟩] rfl ⟨rfl, trivial⟩ rfl rfl ?_
  refine wn ?_
  refine W.ret ?_
  exact Ret.of (.inr rfl) rfl (res1 rfl rfl) (Fewer.nil _) (.inr trivial) (fun id h => absurd h (Nat.not_lt_zero _)) (.same rfl) ⟨rfl, _, rfl, fun _ => ⟨by omega, hall, fun h0 => List.length_eq_zero_iff.1 (by have h1 := congrArg kidsOf h0; rw [show kidsOf 0 = 0 from rfl] at h1; omega)⟩, fun _ => rfl, fun _ => by omega⟩
-- enthymemeref07.leaf
set_option maxHeartbeats 1000000 in
theorem c_leaf (W0 : World) (N : Nat) (g : List Nd) (hg : g.length ≤ 1000) (n : Nd) (ht : n.text.size ≤ 1000000) : AC (En W0 N) 52 [.f (.nodes g), n.agg] [] (fun r h => h = [] ∧ ∃ s e, r = .tup [Srt.agg s, .i e]) := by
  refine AC.enter Tryd.func52 rfl Tryd.ntmps52 (bl rfl) fun X => ?_
  refine sr ?_
  refine WL.stp rfl (Stp.box (tm rfl) rfl rfl) ?_
  refine WL.stp rfl (Stp.alloc zz33 rfl rfl) ?_
  refine WL.v (Val.assign Ev.const) rfl ?_
  refine WL.norm 129 [(0, _), (3, _), (4, _)] [some ⟨_, _, [[_, _, _, _, _, _, _, _, _]]⟩, some ⟨_, _, [[_, _, _]]⟩] rfl ⟨rfl, rfl, rfl, trivial⟩ rfl rfl ?_
  refine wn ?_
  refine W.seq ?_
  refine sr ?_
  refine WL.v (Val.fal (off := 0) Tryd.underlying35 rfl rfl zs3 (tm rfl)) rfl ?_
  refine WL.v (Val.loadLive Tryd.underlying3 rfl (tm rfl) rfl rfl rfl rfl rfl) rfl ?_
  refine WL.v (Val.eql (tm rfl) Ev.const) rfl ?_
  refine WL.norm 129 [(0, _), (3, _), (4, _), (12, _)] [some ⟨_, _, [[_, _, _, _, _, _, _, _, _]]⟩, some ⟨_, _, [[_, _, _]]⟩] rfl ⟨rfl, rfl, rfl, rfl, trivial⟩ rfl rfl ?_
  refine wn ?_
  refine W.condP rfl (fun hc1 => ?_) (fun hc1 => ?_)
  · try simp only [td] at hc1
    refine W.seq ?_
    refine sr ?_
    refine WL.v (Val.fal (off := 5) Tryd.underlying35 rfl rfl zs9 (tm rfl)) rfl ?_
    refine WL.v (Val.loadLive Tryd.underlying9 rfl (tm rfl) rfl rfl rfl rfl rfl) rfl ?_
    refine WL.v (Val.lenS Tryd.underlying9 (tm rfl)) rfl ?_
    refine WL.v (Val.gtr (tm rfl) Ev.const) rfl ?_
    refine WL.norm 129 [(3, _), (4, _), (16, _)] [some ⟨_, _, [[_, _, _, _, _, _, _, _, _]]⟩, some ⟨_, _, [[_, _, _]]⟩] rfl ⟨rfl, rfl, rfl, trivial⟩ rfl rfl ?_
    refine wn ?_
    refine W.condP rfl (fun hc2 => ?_) (fun hc2 => ?_)
    · try simp only [td] at hc2
      refine sr ?_
      refine WL.v (Val.build (vs := []) Tryd.underlying33 zz33 rfl rfl pl33 rfl trivial) rfl ?_
      refine WL.stp rfl (Stp.st (tm rfl) (tm rfl) zs33 rfl rfl rfl rfl rfl rfl rfl rfl) ?_
      refine WL.v (Val.assign Ev.const) rfl ?_
      refine WL.norm 129 [(4, _), (5, _)] [some ⟨_, _, [[_, _, _, _, _, _, _, _, _]]⟩, some ⟨_, _, [[_, _, _]]⟩] rfl ⟨rfl, rfl, trivial⟩ rfl rfl ?_
      refine wn ?_
      refine W.ret (rt1 (rt1 ?_))
      exact Ret.of (.inr rfl) rfl (resCell2 rfl Tryd.underlying33 rfl zs33 rfl rfl rfl rfl rfl rfl rfl) (Fewer.nil _) (.inr trivial) (fun id h => absurd h (Nat.not_lt_zero _)) (.same rfl) ⟨rfl, ⟨_, _, _⟩, _, rfl⟩
    try simp only [td] at hc2
    refine W.skip (nm ?_)
    refine sr ?_
    refine WL.v (Val.fal (off := 5) Tryd.underlying35 rfl rfl zs9 (tm rfl)) rfl ?_
    refine WL.v (Val.loadLive Tryd.underlying9 rfl (tm rfl) rfl rfl rfl rfl rfl) rfl ?_
    refine WL.v (Val.lenS Tryd.underlying9 (tm rfl)) rfl ?_
    refine WL.callV ca44 (evc (tm rfl) evn) (lo1 lo0) rfl (c_Strings W0 N _) ?_
    rintro _ rfl
    refine WL.stp rfl (Stp.st (tm rfl) (tm rfl) zs33 rfl rfl rfl rfl rfl rfl rfl rfl) ?_
    refine WL.v (Val.assign Ev.const) rfl ?_
    refine WL.norm 129 [(4, _), (5, _)] [some ⟨_, _, [[_, _, _, _, _, _, _, _, _]]⟩, some ⟨_, _, [[_, _, _]]⟩] rfl ⟨rfl, rfl, trivial⟩ rfl rfl ?_
    refine wn ?_
    refine W.ret (rt1 ?_)
    exact Ret.of (.inr rfl) rfl (resCell2 rfl Tryd.underlying33 rfl zs33 rfl rfl rfl rfl rfl rfl rfl) (Fewer.nil _) (.inr trivial) (fun id h => absurd h (Nat.not_lt_zero _)) (.same rfl) ⟨rfl, ⟨_, _, _⟩, _, rfl⟩
  try simp only [td] at hc1
  refine W.skip (nm ?_)
  refine sr ?_
  refine WL.v (Val.fal (off := 0) Tryd.underlying35 rfl rfl zs3 (tm rfl)) rfl ?_
  refine WL.v (Val.loadLive Tryd.underlying3 rfl (tm rfl) rfl rfl rfl rfl rfl) rfl ?_
  refine WL.v (Val.neq (tm rfl) Ev.const) rfl ?_
  refine mv rfl rfl ?_
  refine WL.g (Grd.f rfl rfl rfl) (fun hG => Val.fal (off := 5) Tryd.underlying35 rfl rfl zs9 (tm rfl)) rfl ?_
  refine WL.g (Grd.f rfl rfl rfl) (fun hG => Val.loadLive Tryd.underlying9 rfl (Ev.opt rfl hG) rfl rfl rfl rfl rfl) rfl ?_
  refine WL.gcallE AV.b (Grd.f rfl rfl rfl) ca64 (fun hG => (evc (Ev.opt rfl hG) evn)) (lo1 lo0) rfl (fun hG => c_Named W0 N _ (by assumption)) ?_
  intro b_ hb_
  refine WL.v (Val.or (tm rfl) (fun hb => Ev.opt rfl (nt hb))) rfl ?_
  refine asg rfl rfl ?_
  refine WL.norm 129 [(0, _), (3, _), (4, _), (6, _)] [some ⟨_, _, [[_, _, _, _, _, _, _, _, _]]⟩, some ⟨_, _, [[_, _, _]]⟩] rfl ⟨rfl, rfl, rfl, rfl, trivial⟩ rfl rfl ?_
  refine wn ?_
  refine W.seq ?_
  refine sr ?_
  refine mv rfl rfl ?_
  refine WL.v (Val.not (tm rfl)) rfl ?_
  refine WL.norm 129 [(0, _), (3, _), (4, _), (31, _)] [some ⟨_, _, [[_, _, _, _, _, _, _, _, _]]⟩, some ⟨_, _, [[_, _, _]]⟩] rfl ⟨rfl, rfl, rfl, rfl, trivial⟩ rfl rfl ?_
  refine wn ?_
  refine W.condP rfl (fun hc6 => ?_) (fun hc6 => ?_)
  · try simp only [td] at hc6
    refine sr ?_
    refine WL.v (Val.build (vs := []) Tryd.underlying33 zz33 rfl rfl pl33 rfl trivial) rfl ?_
    refine WL.stp rfl (Stp.st (tm rfl) (tm rfl) zs33 rfl rfl rfl rfl rfl rfl rfl rfl) ?_
    refine WL.v (Val.assign Ev.const) rfl ?_
    refine WL.norm 129 [(4, _), (5, _)] [some ⟨_, _, [[_, _, _, _, _, _, _, _, _]]⟩, some ⟨_, _, [[_, _, _]]⟩] rfl ⟨rfl, rfl, trivial⟩ rfl rfl ?_
    refine wn ?_
    refine W.ret (rt1 ?_)
    exact Ret.of (.inr rfl) rfl (resCell2 rfl Tryd.underlying33 rfl zs33 rfl rfl rfl rfl rfl rfl rfl) (Fewer.nil _) (.inr trivial) (fun id h => absurd h (Nat.not_lt_zero _)) (.same rfl) ⟨rfl, ⟨_, _, _⟩, _, rfl⟩
  try simp only [td] at hc6
  refine W.skip (nm ?_)
  refine sr ?_
  refine WL.v (Val.fal (off := 6) Tryd.underlying35 rfl rfl zs33 (tm rfl)) rfl ?_
  refine WL.v (Val.loadLiveAgg Tryd.underlying33 rfl zs33 (tm rfl) rfl rfl rfl rfl (bl rfl)) rfl ?_
  refine WL.callV ca65 (evc (tm rfl) evn) (lo2 rfl lo0) rfl (c_ValidSort W0 N _) ?_
  rintro _ ⟨e_, rfl⟩
  refine asg rfl rfl ?_
  refine WL.norm 129 [(0, _), (3, _), (4, _), (7, _)] [some ⟨_, _, [[_, _, _, _, _, _, _, _, _]]⟩, some ⟨_, _, [[_, _, _]]⟩] rfl ⟨rfl, rfl, rfl, rfl, trivial⟩ rfl rfl ?_
  refine wn ?_
  refine W.seq ?_
  refine sr ?_
  refine mv rfl rfl ?_
  refine WL.v (Val.neq (tm rfl) Ev.const) rfl ?_
  refine WL.norm 129 [(0, _), (3, _), (4, _), (7, _), (37, _)] [some ⟨_, _, [[_, _, _, _, _, _, _, _, _]]⟩, some ⟨_, _, [[_, _, _]]⟩] rfl ⟨rfl, rfl, rfl, rfl, rfl, trivial⟩ rfl rfl ?_
  refine wn ?_
  refine W.condP rfl (fun hc9 => ?_) (fun hc9 => ?_)
  · try simp only [td] at hc9
    refine sr ?_
    refine WL.v (Val.build (vs := []) Tryd.underlying33 zz33 rfl rfl pl33 rfl trivial) rfl ?_
    refine mv rfl rfl ?_
    refine WL.stp rfl (Stp.st (tm rfl) (tm rfl) zs33 rfl rfl rfl rfl rfl rfl rfl rfl) ?_
    refine asg rfl rfl ?_
    refine WL.norm 129 [(4, _), (5, _)] [some ⟨_, _, [[_, _, _, _, _, _, _, _, _]]⟩, some ⟨_, _, [[_, _, _]]⟩] rfl ⟨rfl, rfl, trivial⟩ rfl rfl ?_
    refine wn ?_
    refine W.ret (rt1 ?_)
    exact Ret.of (.inr rfl) rfl (resCell2 rfl Tryd.underlying33 rfl zs33 rfl rfl rfl rfl rfl rfl rfl) (Fewer.nil _) (.inr trivial) (fun id h => absurd h (Nat.not_lt_zero _)) (.same rfl) ⟨rfl, ⟨_, _, _⟩, _, rfl⟩
  try simp only [td] at hc9
  refine W.skip (nm ?_)
  refine sr ?_
  refine WL.v (Val.fal (off := 6) Tryd.underlying35 rfl rfl zs33 (tm rfl)) rfl ?_
  refine WL.v (Val.fal (off := 0) Tryd.underlying33 rfl rfl zs3 (tm rfl)) rfl ?_
  refine WL.v (Val.loadLive Tryd.underlying3 rfl (tm rfl) rfl rfl rfl rfl rfl) rfl ?_
  refine WL.v (Val.eql (tm rfl) Ev.const) rfl ?_
  refine mv rfl rfl ?_
  refine WL.g (Grd.f rfl rfl rfl) (fun hG => Val.fal (off := 6) Tryd.underlying35 rfl rfl zs33 (tm rfl)) rfl ?_
  refine WL.g (Grd.f rfl rfl rfl) (fun hG => Val.fal (off := 0) Tryd.underlying33 rfl rfl zs3 (Ev.opt rfl hG)) rfl ?_
  refine WL.g (Grd.f rfl rfl rfl) (fun hG => Val.loadLive Tryd.underlying3 rfl (Ev.opt rfl hG) rfl rfl rfl rfl rfl) rfl ?_
  refine WL.g (Grd.f rfl rfl rfl) (fun hG => Val.eql (Ev.opt rfl hG) Ev.const) rfl ?_
  refine WL.v (Val.or (tm rfl) (fun hb => Ev.opt rfl (nt hb))) rfl ?_
  refine asg rfl rfl ?_
  refine WL.norm 129 [(0, _), (3, _), (4, _), (8, _)] [some ⟨_, _, [[_, _, _, _, _, _, _, _, _]]⟩, some ⟨_, _, [[_, _, _]]⟩] rfl ⟨rfl, rfl, rfl, rfl, trivial⟩ rfl rfl ?_
  refine wn ?_
  refine W.seq ?_
  refine sr ?_
  refine WL.v (Val.fal (off := 0) Tryd.underlying35 rfl rfl zs3 (tm rfl)) rfl ?_
  refine WL.v (Val.loadLive Tryd.underlying3 rfl (tm rfl) rfl rfl rfl rfl rfl) rfl ?_
  refine WL.v (Val.eql (tm rfl) Ev.const) rfl ?_
  refine mv rfl rfl ?_
  refine WL.g (Grd.t rfl rfl rfl) (fun hG => Val.fal (off := 6) Tryd.underlying35 rfl rfl zs33 (tm rfl)) rfl ?_
  refine WL.g (Grd.t rfl rfl rfl) (fun hG => Val.fal (off := 0) Tryd.underlying33 rfl rfl zs3 (Ev.opt rfl hG)) rfl ?_
  refine WL.g (Grd.t rfl rfl rfl) (fun hG => Val.loadLive Tryd.underlying3 rfl (Ev.opt rfl hG) rfl rfl rfl rfl rfl) rfl ?_
  refine WL.g (Grd.t rfl rfl rfl) (fun hG => Val.neq (Ev.opt rfl hG) Ev.const) rfl ?_
  refine WL.v (Val.and (tm rfl) (fun hb => Ev.opt rfl hb)) rfl ?_
  refine mv rfl rfl ?_
  refine WL.g (Grd.f rfl rfl rfl) (fun hG => Val.fal (off := 0) Tryd.underlying35 rfl rfl zs3 (tm rfl)) rfl ?_
  refine WL.g (Grd.f rfl rfl rfl) (fun hG => Val.loadLive Tryd.underlying3 rfl (Ev.opt rfl hG) rfl rfl rfl rfl rfl) rfl ?_
  refine WL.g (Grd.f rfl rfl rfl) (fun hG => Val.eql (Ev.opt rfl hG) Ev.const) rfl ?_
  refine WL.g (Grd.f rfl rfl rfl) (fun hG => Val.move (Ev.opt rfl hG)) rfl ?_
  refine WL.g (Grd.ot rfl rfl rfl) (fun hG => Val.move (tm rfl)) rfl ?_
  refine WL.g (Grd.ot rfl rfl rfl) (fun hG => Val.not (Ev.opt rfl hG)) rfl ?_
  refine WL.g (Grd.f rfl rfl rfl) (fun hG => Val.and (Ev.opt rfl hG) (fun hb => Ev.opt rfl (an hG hb))) rfl ?_
  refine WL.v (Val.or (tm rfl) (fun hb => Ev.opt rfl (nt hb))) rfl ?_
  refine WL.norm 129 [(0, _), (3, _), (4, _), (67, _)] [some ⟨_, _, [[_, _, _, _, _, _, _, _, _]]⟩, some ⟨_, _, [[_, _, _]]⟩] rfl ⟨rfl, rfl, rfl, rfl, trivial⟩ rfl rfl ?_
  refine wn ?_
  refine W.condP rfl (fun hc12 => ?_) (fun hc12 => ?_)
  · refine sr ?_
    refine WL.v (Val.build (vs := []) Tryd.underlying33 zz33 rfl rfl pl33 rfl trivial) rfl ?_
    refine WL.stp rfl (Stp.st (tm rfl) (tm rfl) zs33 rfl rfl rfl rfl rfl rfl rfl rfl) ?_
    refine WL.v (Val.assign Ev.const) rfl ?_
    refine WL.norm 129 [(4, _), (5, _)] [some ⟨_, _, [[_, _, _, _, _, _, _, _, _]]⟩, some ⟨_, _, [[_, _, _]]⟩] rfl ⟨rfl, rfl, trivial⟩ rfl rfl ?_
    refine wn ?_
    refine W.ret (rt1 ?_)
    exact Ret.of (.inr rfl) rfl (resCell2 rfl Tryd.underlying33 rfl zs33 rfl rfl rfl rfl rfl rfl rfl) (Fewer.nil _) (.inr trivial) (fun id h => absurd h (Nat.not_lt_zero _)) (.same rfl) ⟨rfl, ⟨_, _, _⟩, _, rfl⟩
  refine W.skip (nm ?_)
  refine W.seq ?_
  refine sr ?_
  refine WL.v (Val.fal (off := 0) Tryd.underlying35 rfl rfl zs3 (tm rfl)) rfl ?_
  refine WL.v (Val.loadLive Tryd.underlying3 rfl (tm rfl) rfl rfl rfl rfl rfl) rfl ?_
  refine WL.v (Val.eql (tm rfl) Ev.const) rfl ?_
  refine mv rfl rfl ?_
  refine WL.g (Grd.t rfl rfl rfl) (fun hG => Val.fal (off := 6) Tryd.underlying35 rfl rfl zs33 (tm rfl)) rfl ?_
  refine WL.g (Grd.t rfl rfl rfl) (fun hG => Val.fal (off := 1) Tryd.underlying33 rfl rfl zs3 (Ev.opt rfl hG)) rfl ?_
  refine WL.g (Grd.t rfl rfl rfl) (fun hG => Val.loadLive Tryd.underlying3 rfl (Ev.opt rfl hG) rfl rfl rfl rfl rfl) rfl ?_
  refine WL.g (Grd.t rfl rfl rfl) (fun hG => Val.lss (Ev.opt rfl hG) Ev.const) rfl ?_
  refine WL.v (Val.and (tm rfl) (fun hb => Ev.opt rfl hb)) rfl ?_
  refine mv rfl rfl ?_
  refine WL.g (Grd.t rfl rfl rfl) (fun hG => Val.fal (off := 4) Tryd.underlying35 rfl rfl zs31 (tm rfl)) rfl ?_
  refine WL.g (Grd.t rfl rfl rfl) (fun hG => Val.loadLive Tryd.underlying31 rfl (Ev.opt rfl hG) rfl rfl rfl rfl rfl) rfl ?_
  refine WL.g (Grd.t rfl rfl rfl) (fun hG => Val.fal (off := 6) Tryd.underlying35 rfl rfl zs33 (tm rfl)) rfl ?_
  refine WL.g (Grd.t rfl rfl rfl) (fun hG => Val.fal (off := 1) Tryd.underlying33 rfl rfl zs3 (Ev.opt rfl hG)) rfl ?_
  refine WL.g (Grd.t rfl rfl rfl) (fun hG => Val.loadLive Tryd.underlying3 rfl (Ev.opt rfl hG) rfl rfl rfl rfl rfl) rfl ?_
  refine WL.g (Grd.t rfl rfl rfl) (fun hG => Val.convInt Tryd.underlying3 Tryd.underlying83 (Ev.opt rfl hG) rfl) rfl ?_
  refine WL.g (Grd.t rfl rfl rfl) (fun hG => Val.shl Ev.const (Ev.opt rfl hG) (u64_wrap_nonneg _) rfl) rfl ?_
  refine WL.g (Grd.t rfl rfl rfl) (fun hG => Val.geq (Ev.opt rfl hG) (Ev.opt rfl hG)) rfl ?_
  refine WL.v (Val.and (tm rfl) (fun hb => Ev.opt rfl hb)) rfl ?_
  refine WL.norm 129 [(0, _), (3, _), (4, _), (87, _)] [some ⟨_, _, [[_, _, _, _, _, _, _, _, _]]⟩, some ⟨_, _, [[_, _, _]]⟩] rfl ⟨rfl, rfl, rfl, rfl, trivial⟩ rfl rfl ?_
  refine wn ?_
  refine W.condP rfl (fun hc14 => ?_) (fun hc14 => ?_)
  · refine sr ?_
    refine WL.v (Val.build (vs := []) Tryd.underlying33 zz33 rfl rfl pl33 rfl trivial) rfl ?_
    refine WL.stp rfl (Stp.st (tm rfl) (tm rfl) zs33 rfl rfl rfl rfl rfl rfl rfl rfl) ?_
    refine WL.v (Val.assign Ev.const) rfl ?_
    refine WL.norm 129 [(4, _), (5, _)] [some ⟨_, _, [[_, _, _, _, _, _, _, _, _]]⟩, some ⟨_, _, [[_, _, _]]⟩] rfl ⟨rfl, rfl, trivial⟩ rfl rfl ?_
    refine wn ?_
    refine W.ret (rt1 ?_)
    exact Ret.of (.inr rfl) rfl (resCell2 rfl Tryd.underlying33 rfl zs33 rfl rfl rfl rfl rfl rfl rfl) (Fewer.nil _) (.inr trivial) (fun id h => absurd h (Nat.not_lt_zero _)) (.same rfl) ⟨rfl, ⟨_, _, _⟩, _, rfl⟩
  refine W.skip (nm ?_)
  refine W.seq ?_
  refine sr ?_
  refine WL.v (Val.assign Ev.const) rfl ?_
  refine WL.norm 129 [(0, _), (3, _), (4, _), (9, _)] [some ⟨_, _, [[_, _, _, _, _, _, _, _, _]]⟩, some ⟨_, _, [[_, _, _]]⟩] rfl ⟨rfl, rfl, rfl, rfl, trivial⟩ rfl rfl ?_
  refine wn ?_
  refine W.norm 129 [(0, _), (3, _), (4, _), (9, _)] [some ⟨_, _, [[_, _, _, _, _, _, _, _, _]]⟩, some ⟨_, _, [[_, _, _]]⟩] rfl ⟨rfl, rfl, rfl, rfl, trivial⟩ rfl rfl ?_
  refine W.block (W.loop (fun nn S => ∃ (k : Int), S = ⟨129, [(0, .f (.nodes g)), (3, .ptr 0 0 9 0 0), (4, .ptr 1 0 3 0 0), (9, .i k)], [some ⟨0, 9, [n.cells.map .f]⟩, some ⟨0, 3, [[.i 0, .i 0, .i 0]]⟩], []⟩ ∧ nn = ((g.length - k).toNat) ∧ (0 ≤ k) ∧ (k ≤ g.length)) ⟨0, rfl, rfl, by omega, by omega⟩ ?_)
  rintro nn S ⟨k, rfl, rfl, hf0_0, hf0_1⟩
  refine W.seq ?_
  refine sr ?_
  refine mv rfl rfl ?_
  refine mv rfl rfl ?_
  refine WL.v (Val.ln (enc := Nd.cells) Tryd.underlying23 (tm rfl)) rfl ?_
  refine WL.v (Val.lss (tm rfl) (tm rfl)) rfl ?_
  refine WL.norm 129 [(0, _), (3, _), (4, _), (9, _), (92, _)] [some ⟨_, _, [[_, _, _, _, _, _, _, _, _]]⟩, some ⟨_, _, [[_, _, _]]⟩] rfl ⟨rfl, rfl, rfl, rfl, rfl, trivial⟩ rfl rfl ?_
  refine wn ?_
  refine W.condP rfl (fun hc17 => ?_) (fun hc17 => ?_)
  · try simp only [td] at hc17
    refine W.skip (nm ?_)
    refine W.seq ?_
    refine W.block ?_
    refine W.seq ?_
    refine W.drawE (fun k => ([([], []), ([0], []), ([], []), ([], []), ([], []), ([], []), ([], []), ([], []), ([], []), ([], []), ([], []), ([], []), ([], []), ([], []), ([], []), ([], []), ([], []), ([], []), ([0], []), ([], []), ([], []), ([], []), ([], []), ([], []), ([], []), ([], []), ([], []), ([], []), ([0], []), ([], []), ([], [])] : List (List Nat × List Nat)).getD k ([], [])) rfl (by kernel_rfl) (bl rfl) ?_
    refine LexE.val rfl rfl rfl (fun h' ha => Val.fal (off := 0) Tryd.underlying35 rfl rfl zs3 (tm rfl)) ?_
    refine LexE.val rfl rfl rfl (fun h' ha => Val.loadLive Tryd.underlying3 rfl (tm rfl) ((ha.at_ 0 (by decide)).trans rfl) rfl rfl rfl rfl) ?_
    refine LexE.val rfl rfl rfl (fun h' ha => Val.eql (tm rfl) Ev.const) ?_
    refine LexE.val rfl rfl rfl (fun h' ha => Val.move (tm rfl)) ?_
    refine LexE.gval rfl (fun h' => (Grd.t rfl rfl rfl)) rfl (fun hG h' ha => Val.move (tm rfl)) ?_
    refine LexE.gval rfl (fun h' => (Grd.t rfl rfl rfl)) rfl (fun hG h' ha => Val.move (tm rfl)) ?_
    refine LexE.gval rfl (fun h' => (Grd.t rfl rfl rfl)) rfl (fun hG h' ha => Val.ix (enc := Nd.cells) Tryd.underlying23 zs35 (Ev.opt rfl hG) (Ev.opt rfl hG) (by try simp only [td] at hG; omega) (gA_at (by try simp only [td] at hG; omega) (by try simp only [td] at hG; omega))) ?_
    refine LexE.gval rfl (fun h' => (Grd.t rfl rfl rfl)) rfl (fun hG h' ha => Val.fa (off := 0) Tryd.underlying35 rfl rfl zs3 (Ev.opt rfl hG)) ?_
    refine LexE.gval rfl (fun h' => (Grd.t rfl rfl rfl)) rfl (fun hG h' ha => Val.load Tryd.underlying3 rfl (Ev.opt rfl hG)) ?_
    refine LexE.gval rfl (fun h' => (Grd.t rfl rfl rfl)) rfl (fun hG h' ha => Val.eql (Ev.opt rfl hG) Ev.const) ?_
    refine LexE.val rfl rfl rfl (fun h' ha => Val.and (tm rfl) (fun hb => Ev.opt rfl hb)) ?_
    refine LexE.val rfl rfl rfl (fun h' ha => Val.move (tm rfl)) ?_
    refine LexE.gval rfl (fun h' => (Grd.t rfl rfl rfl)) rfl (fun hG h' ha => Val.move (tm rfl)) ?_
    refine LexE.gval rfl (fun h' => (Grd.t rfl rfl rfl)) rfl (fun hG h' ha => Val.move (tm rfl)) ?_
    refine LexE.gval rfl (fun h' => (Grd.t rfl rfl rfl)) rfl (fun hG h' ha => Val.ix (enc := Nd.cells) Tryd.underlying23 zs35 (Ev.opt rfl hG) (Ev.opt rfl hG) (by try simp only [td] at hG; omega) (gA_at (by try simp only [td] at hG; omega) (by try simp only [td] at hG; omega))) ?_
    refine LexE.gval rfl (fun h' => (Grd.t rfl rfl rfl)) rfl (fun hG h' ha => Val.fa (off := 5) Tryd.underlying35 rfl rfl zs9 (Ev.opt rfl hG)) ?_
    refine LexE.gval rfl (fun h' => (Grd.t rfl rfl rfl)) rfl (fun hG h' ha => Val.load Tryd.underlying9 rfl (Ev.opt rfl hG)) ?_
    refine LexE.gval rfl (fun h' => (Grd.t rfl rfl rfl)) rfl (fun hG h' ha => Val.fal (off := 5) Tryd.underlying35 rfl rfl zs9 (tm rfl)) ?_
    refine LexE.gval rfl (fun h' => (Grd.t rfl rfl rfl)) rfl (fun hG h' ha => Val.loadLive Tryd.underlying9 rfl (Ev.opt rfl hG) ((ha.at_ 0 (by decide)).trans rfl) rfl rfl rfl rfl) ?_
    refine LexE.gval rfl (fun h' => (Grd.t rfl rfl rfl)) rfl (fun hG h' ha => Val.eqlS (Ev.opt rfl hG) (Ev.opt rfl hG)) ?_
    refine LexE.val rfl rfl rfl (fun h' ha => Val.and (tm rfl) (fun hb => Ev.opt rfl hb)) ?_
    refine LexE.val rfl rfl rfl (fun h' ha => Val.move (tm rfl)) ?_
    refine LexE.gval rfl (fun h' => (Grd.t rfl rfl rfl)) rfl (fun hG h' ha => Val.move (tm rfl)) ?_
    refine LexE.gval rfl (fun h' => (Grd.t rfl rfl rfl)) rfl (fun hG h' ha => Val.move (tm rfl)) ?_
    refine LexE.gval rfl (fun h' => (Grd.t rfl rfl rfl)) rfl (fun hG h' ha => Val.ix (enc := Nd.cells) Tryd.underlying23 zs35 (Ev.opt rfl hG) (Ev.opt rfl hG) (by try simp only [td] at hG; omega) (gA_at (by try simp only [td] at hG; omega) (by try simp only [td] at hG; omega))) ?_
    refine LexE.gval rfl (fun h' => (Grd.t rfl rfl rfl)) rfl (fun hG h' ha => Val.fa (off := 6) Tryd.underlying35 rfl rfl zs33 (Ev.opt rfl hG)) ?_
    refine LexE.gval rfl (fun h' => (Grd.t rfl rfl rfl)) rfl (fun hG h' ha => Val.loadAgg Tryd.underlying33 rfl zs33 (Ev.opt rfl hG) (bl rfl)) ?_
    refine LexE.gval rfl (fun h' => (Grd.t rfl rfl rfl)) rfl (fun hG h' ha => Val.fal (off := 6) Tryd.underlying35 rfl rfl zs33 (tm rfl)) ?_
    refine LexE.gval rfl (fun h' => (Grd.t rfl rfl rfl)) rfl (fun hG h' ha => Val.loadLiveAgg Tryd.underlying33 rfl zs33 (Ev.opt rfl hG) ((ha.at_ 0 (by decide)).trans rfl) rfl rfl rfl (bl rfl)) ?_
    refine LexE.gval rfl (fun h' => (Grd.t rfl rfl rfl)) rfl (fun hG h' ha => Val.neqSrt is33 (Ev.opt rfl hG) (Ev.opt rfl hG)) ?_
    refine LexE.val rfl rfl rfl (fun h' ha => Val.and (tm rfl) (fun hb => Ev.opt rfl hb)) ?_
    refine LexE.nil (nm ?_)
    refine W.norm 129 [(0, _), (3, _), (4, _), (9, _), (125, _)] [some ⟨_, _, [[_, _, _, _, _, _, _, _, _]]⟩, some ⟨_, _, [[_, _, _]]⟩] rfl ⟨rfl, rfl, rfl, rfl, rfl, trivial⟩ rfl rfl ?_
    refine W.condP rfl (fun hc19 => ?_) (fun hc19 => ?_)
    · refine sr ?_
      refine WL.v (Val.build (vs := []) Tryd.underlying33 zz33 rfl rfl pl33 rfl trivial) rfl ?_
      refine WL.stp rfl (Stp.st (tm rfl) (tm rfl) zs33 rfl rfl rfl rfl rfl rfl rfl rfl) ?_
      refine WL.v (Val.assign Ev.const) rfl ?_
      refine WL.norm 129 [(4, _), (5, _)] [some ⟨_, _, [[_, _, _, _, _, _, _, _, _]]⟩, some ⟨_, _, [[_, _, _]]⟩] rfl ⟨rfl, rfl, trivial⟩ rfl rfl ?_
      refine wn ?_
      refine W.ret (rt2 (rt1 (rt1 (rt2 (rt1 ?_)))))
      exact Ret.of (.inr rfl) rfl (resCell2 rfl Tryd.underlying33 rfl zs33 rfl rfl rfl rfl rfl rfl rfl) (Fewer.nil _) (.inr trivial) (fun id h => absurd h (Nat.not_lt_zero _)) (.same rfl) ⟨rfl, ⟨_, _, _⟩, _, rfl⟩
    refine W.skip (nb (nm ?_))
    refine W.region ?_
    refine mv rfl rfl ?_
    refine WL.v (Val.add (tm rfl) Ev.const (IntWalk.i64_in _ (by omega))) rfl ?_
    refine asg rfl rfl ?_
    refine WL.norm 129 [(0, _), (3, _), (4, _), (9, _)] [some ⟨_, _, [[_, _, _, _, _, _, _, _, _]]⟩, some ⟨_, _, [[_, _, _]]⟩] rfl ⟨rfl, rfl, rfl, rfl, trivial⟩ rfl rfl ?_
    refine wn ?_
    exact ⟨_, by omega, k + 1, rfl, rfl, by omega, by omega⟩
  try simp only [td] at hc17
  refine W.exit (ex1 (ex1 (ex2 (nm ?_))))
  refine sr ?_
  refine WL.v (Val.fal (off := 6) Tryd.underlying35 rfl rfl zs33 (tm rfl)) rfl ?_
  refine WL.v (Val.loadLiveAgg Tryd.underlying33 rfl zs33 (tm rfl) rfl rfl rfl rfl (bl rfl)) rfl ?_
  refine WL.stp rfl (Stp.st (tm rfl) (tm rfl) zs33 rfl rfl rfl rfl rfl rfl rfl rfl) ?_
  refine WL.v (Val.assign Ev.const) rfl ?_
  refine WL.norm 129 [(4, _), (5, _)] [some ⟨_, _, [[_, _, _, _, _, _, _, _, _]]⟩, some ⟨_, _, [[_, _, _]]⟩] rfl ⟨rfl, rfl, trivial⟩ rfl rfl ?_
  refine wn ?_
  refine W.ret ?_
  exact Ret.of (.inr rfl) rfl (resCell2 rfl Tryd.underlying33 rfl zs33 rfl rfl rfl rfl rfl rfl rfl) (Fewer.nil _) (.inr trivial) (fun id h => absurd h (Nat.not_lt_zero _)) (.same rfl) ⟨rfl, ⟨_, _, _⟩, _, rfl⟩
-- enthymemeref07.fit
set_option maxHeartbeats 1000000 in
theorem c_fit (W0 : World) (N : Nat) (op : Int) (ks : List Srt) (h1 : 1 ≤ ks.length) (hk : kidsOf op = ks.length) : AC (En W0 N) 53 [.i op, .f (.srts ks)] [] (fun r h => h = [] ∧ ∃ b, r = .b b ∧ (op = 18 → gA ks 0 = gA ks 1 → b = true)) := by
  refine AC.enter Tryd.func53 rfl Tryd.ntmps53 (bl rfl) fun X => ?_
  have K2 : ¬ (op = 4 ∨ op = 5 ∨ op = 21 ∨ op = 22 ∨ op = 23 ∨ op = 27 ∨ op = 28 ∨ op = 33 ∨ op = 34) → 2 ≤ ks.length := by unfold kidsOf at hk; revert hk; repeat' split; all_goals omega
  have K3 : (op = 19 ∨ op = 25 ∨ op = 30 ∨ op = 32) → 3 ≤ ks.length := by unfold kidsOf at hk; revert hk; repeat' split; all_goals omega
  refine sr ?_
  refine WL.v (Val.assign Ev.const) rfl ?_
  refine WL.norm 214 [(0, _), (1, _)] [] rfl ⟨rfl, rfl, trivial⟩ rfl rfl ?_
  refine wn ?_
  refine sr ?_
  refine mv rfl rfl ?_
  refine WL.v (Val.ix (enc := Srt.cells) Tryd.underlying85 zs33 (tm rfl) Ev.const (by omega) (gA_at (by omega) (by omega))) rfl ?_
  refine WL.v (Val.loadAgg Tryd.underlying33 rfl zs33 (tm rfl) (bl rfl)) rfl ?_
  refine WL.stp rfl (Stp.alloc zz33 rfl rfl) ?_
  refine WL.stp rfl (Stp.st (tm rfl) (tm rfl) zs33 rfl rfl rfl rfl rfl rfl rfl rfl) ?_
  refine WL.norm 214 [(0, _), (1, _), (5, _)] [some ⟨_, _, [[_, _, _]]⟩] rfl ⟨rfl, rfl, rfl, trivial⟩ rfl rfl ?_
  refine wn ?_
  refine sr ?_
  refine WL.v (Val.fal (off := 0) Tryd.underlying33 rfl rfl zs3 (tm rfl)) rfl ?_
  refine WL.v (Val.loadLive Tryd.underlying3 rfl (tm rfl) rfl rfl rfl rfl rfl) rfl ?_
  refine WL.v (Val.eql (tm rfl) Ev.const) rfl ?_
  refine asg rfl rfl ?_
  refine WL.norm 214 [(0, _), (1, _), (5, _), (6, _)] [some ⟨_, _, [[_, _, _]]⟩] rfl ⟨rfl, rfl, rfl, rfl, trivial⟩ rfl rfl ?_
  refine wn ?_
  refine sr ?_
  refine WL.v (Val.fal (off := 0) Tryd.underlying33 rfl rfl zs3 (tm rfl)) rfl ?_
  refine WL.v (Val.loadLive Tryd.underlying3 rfl (tm rfl) rfl rfl rfl rfl rfl) rfl ?_
  refine WL.v (Val.eql (tm rfl) Ev.const) rfl ?_
  refine asg rfl rfl ?_
  refine WL.norm 214 [(0, _), (1, _), (5, _), (6, _), (7, _)] [some ⟨_, _, [[_, _, _]]⟩] rfl ⟨rfl, rfl, rfl, rfl, rfl, trivial⟩ rfl rfl ?_
  refine wn ?_
  refine sr ?_
  refine WL.v (Val.fal (off := 0) Tryd.underlying33 rfl rfl zs3 (tm rfl)) rfl ?_
  refine WL.v (Val.loadLive Tryd.underlying3 rfl (tm rfl) rfl rfl rfl rfl rfl) rfl ?_
  refine WL.v (Val.eql (tm rfl) Ev.const) rfl ?_
  refine mv rfl rfl ?_
  refine WL.g (Grd.f rfl rfl rfl) (fun hG => Val.fal (off := 0) Tryd.underlying33 rfl rfl zs3 (tm rfl)) rfl ?_
  refine WL.g (Grd.f rfl rfl rfl) (fun hG => Val.loadLive Tryd.underlying3 rfl (Ev.opt rfl hG) rfl rfl rfl rfl rfl) rfl ?_
  refine WL.g (Grd.f rfl rfl rfl) (fun hG => Val.eql (Ev.opt rfl hG) Ev.const) rfl ?_
  refine WL.v (Val.or (tm rfl) (fun hb => Ev.opt rfl (nt hb))) rfl ?_
  refine asg rfl rfl ?_
  refine WL.norm 214 [(0, _), (1, _), (5, _), (6, _), (7, _), (8, _)] [some ⟨_, _, [[_, _, _]]⟩] rfl ⟨rfl, rfl, rfl, rfl, rfl, rfl, trivial⟩ rfl rfl ?_
  refine wn ?_
  refine W.seq ?_
  refine sr ?_
  refine mv rfl rfl ?_
  refine WL.norm 214 [(1, _), (5, _), (6, _), (7, _), (8, _), (26, _)] [some ⟨_, _, [[_, _, _]]⟩] rfl ⟨rfl, rfl, rfl, rfl, rfl, rfl, trivial⟩ rfl rfl ?_
  refine wn ?_
  refine W.block ?_
  refine W.seq ?_
  refine sr ?_
  refine WL.v (Val.eql (tm rfl) Ev.const) rfl ?_
  refine asg rfl rfl ?_
  refine WL.norm 214 [(1, _), (5, _), (6, _), (7, _), (8, _), (26, _), (27, _)] [some ⟨_, _, [[_, _, _]]⟩] rfl ⟨rfl, rfl, rfl, rfl, rfl, rfl, rfl, trivial⟩ rfl rfl ?_
  refine wn ?_
  refine W.condP rfl (fun hc6 => ?_) (fun hc6 => ?_)
  · try simp only [td] at hc6
    refine W.skip (nm ?_)
    refine W.cT rfl ?_
    refine sr ?_
    refine mv rfl rfl ?_
    refine asg rfl rfl ?_
    refine WL.norm 214 [(4, _)] [some ⟨_, _, [[_, _, _]]⟩] rfl ⟨rfl, trivial⟩ rfl rfl ?_
    refine wn ?_
    refine W.ret (rt2 (rt1 ?_))
    exact Ret.of (.inr rfl) rfl (res1 rfl rfl) (Fewer.nil _) (.inr trivial) (fun id h => absurd h (Nat.not_lt_zero _)) (.same rfl) ⟨rfl, _, rfl, fun h1 h2 => by first | omega | (simp [h2])⟩
  try simp only [td] at hc6
  refine sr ?_
  refine WL.v (Val.eql (tm rfl) Ev.const) rfl ?_
  refine asg rfl rfl ?_
  refine WL.norm 214 [(1, _), (5, _), (6, _), (7, _), (8, _), (26, _), (27, _)] [some ⟨_, _, [[_, _, _]]⟩] rfl ⟨rfl, rfl, rfl, rfl, rfl, rfl, rfl, trivial⟩ rfl rfl ?_
  refine wn ?_
  refine W.condP rfl (fun hc7 => ?_) (fun hc7 => ?_)
  · try simp only [td] at hc7
    refine W.skip (nm ?_)
    refine W.cT rfl ?_
    refine sr ?_
    refine mv rfl rfl ?_
    refine asg rfl rfl ?_
    refine WL.norm 214 [(4, _)] [some ⟨_, _, [[_, _, _]]⟩] rfl ⟨rfl, trivial⟩ rfl rfl ?_
    refine wn ?_
    refine W.ret (rt2 (rt1 ?_))
    exact Ret.of (.inr rfl) rfl (res1 rfl rfl) (Fewer.nil _) (.inr trivial) (fun id h => absurd h (Nat.not_lt_zero _)) (.same rfl) ⟨rfl, _, rfl, fun h1 h2 => by first | omega | (simp [h2])⟩
  try simp only [td] at hc7
  refine sr ?_
  refine WL.v (Val.eql (tm rfl) Ev.const) rfl ?_
  refine asg rfl rfl ?_
  refine WL.norm 214 [(1, _), (5, _), (6, _), (7, _), (8, _), (26, _), (27, _)] [some ⟨_, _, [[_, _, _]]⟩] rfl ⟨rfl, rfl, rfl, rfl, rfl, rfl, rfl, trivial⟩ rfl rfl ?_
  refine wn ?_
  refine W.condP rfl (fun hc8 => ?_) (fun hc8 => ?_)
  · try simp only [td] at hc8
    refine W.skip (nm ?_)
    refine W.cT rfl ?_
    refine sr ?_
    refine mv rfl rfl ?_
    refine asg rfl rfl ?_
    refine WL.norm 214 [(4, _)] [some ⟨_, _, [[_, _, _]]⟩] rfl ⟨rfl, trivial⟩ rfl rfl ?_
    refine wn ?_
    refine W.ret (rt2 (rt1 ?_))
    exact Ret.of (.inr rfl) rfl (res1 rfl rfl) (Fewer.nil _) (.inr trivial) (fun id h => absurd h (Nat.not_lt_zero _)) (.same rfl) ⟨rfl, _, rfl, fun h1 h2 => by first | omega | (simp [h2])⟩
  try simp only [td] at hc8
  refine sr ?_
  refine WL.v (Val.eql (tm rfl) Ev.const) rfl ?_
  refine asg rfl rfl ?_
  refine WL.norm 214 [(1, _), (5, _), (6, _), (7, _), (8, _), (26, _), (27, _)] [some ⟨_, _, [[_, _, _]]⟩] rfl ⟨rfl, rfl, rfl, rfl, rfl, rfl, rfl, trivial⟩ rfl rfl ?_
  refine wn ?_
  refine W.condP rfl (fun hc9 => ?_) (fun hc9 => ?_)
  · try simp only [td] at hc9
    refine W.skip (nm ?_)
    refine W.cT rfl ?_
    refine sr ?_
    refine mv rfl rfl ?_
    refine asg rfl rfl ?_
    refine WL.norm 214 [(4, _)] [some ⟨_, _, [[_, _, _]]⟩] rfl ⟨rfl, trivial⟩ rfl rfl ?_
    refine wn ?_
    refine W.ret (rt2 (rt1 ?_))
    exact Ret.of (.inr rfl) rfl (res1 rfl rfl) (Fewer.nil _) (.inr trivial) (fun id h => absurd h (Nat.not_lt_zero _)) (.same rfl) ⟨rfl, _, rfl, fun h1 h2 => by first | omega | (simp [h2])⟩
  try simp only [td] at hc9
  refine W.region ?_
  refine WL.v (Val.eql (tm rfl) Ev.const) rfl ?_
  refine asg rfl rfl ?_
  refine WL.norm 214 [(1, _), (5, _), (6, _), (7, _), (8, _), (26, _), (27, _)] [some ⟨_, _, [[_, _, _]]⟩] rfl ⟨rfl, rfl, rfl, rfl, rfl, rfl, rfl, trivial⟩ rfl rfl ?_
  refine wn ?_
  refine W.condP rfl (fun hc10 => ?_) (fun hc10 => ?_)
  · try simp only [td] at hc10
    refine sr ?_
    refine mv rfl rfl ?_
    refine asg rfl rfl ?_
    refine WL.norm 214 [(4, _)] [some ⟨_, _, [[_, _, _]]⟩] rfl ⟨rfl, trivial⟩ rfl rfl ?_
    refine wn ?_
    refine W.ret (rt2 (rt1 ?_))
    exact Ret.of (.inr rfl) rfl (res1 rfl rfl) (Fewer.nil _) (.inr trivial) (fun id h => absurd h (Nat.not_lt_zero _)) (.same rfl) ⟨rfl, _, rfl, fun h1 h2 => by first | omega | (simp [h2])⟩
  try simp only [td] at hc10
  refine sr ?_
  refine WL.v (Val.eql (tm rfl) Ev.const) rfl ?_
  refine asg rfl rfl ?_
  refine WL.norm 214 [(1, _), (5, _), (6, _), (7, _), (8, _), (26, _), (34, _)] [some ⟨_, _, [[_, _, _]]⟩] rfl ⟨rfl, rfl, rfl, rfl, rfl, rfl, rfl, trivial⟩ rfl rfl ?_
  refine wn ?_
  refine W.condP rfl (fun hc12 => ?_) (fun hc12 => ?_)
  · try simp only [td] at hc12
    refine W.seq ?_
    refine W.drawE (fun k => ([([0], []), ([], []), ([], []), ([], []), ([], []), ([], []), ([], []), ([], []), ([], []), ([], []), ([], []), ([], []), ([], []), ([], []), ([], []), ([], [])] : List (List Nat × List Nat)).getD k ([], [])) rfl (by kernel_rfl) (bl rfl) ?_
    refine LexE.val rfl rfl rfl (fun h' ha => Val.loadLiveAgg Tryd.underlying33 rfl zs33 (tm rfl) ((ha.at_ 0 (by decide)).trans rfl) rfl rfl rfl (bl rfl)) ?_
    refine LexE.val rfl rfl rfl (fun h' ha => Val.move (tm rfl)) ?_
    refine LexE.val rfl rfl rfl (fun h' ha => Val.ix (enc := Srt.cells) Tryd.underlying85 zs33 (tm rfl) Ev.const (by omega) (gA_at (by omega) (by omega))) ?_
    refine LexE.val rfl rfl rfl (fun h' ha => Val.loadAgg Tryd.underlying33 rfl zs33 (tm rfl) (bl rfl)) ?_
    refine LexE.val rfl rfl rfl (fun h' ha => Val.eqlSrt is33 (tm rfl) (tm rfl)) ?_
    refine LexE.val rfl rfl rfl (fun h' ha => Val.move (tm rfl)) ?_
    refine LexE.gval rfl (fun h' => (Grd.f rfl rfl rfl)) rfl (fun hG h' ha => Val.move (tm rfl)) ?_
    refine LexE.gval rfl (fun h' => (Grd.f rfl rfl rfl)) rfl (fun hG h' ha => Val.move (Ev.opt rfl hG)) ?_
    refine LexE.gval rfl (fun h' => (Grd.ot rfl rfl rfl)) rfl (fun hG h' ha => Val.move (tm rfl)) ?_
    refine LexE.gval rfl (fun h' => (Grd.ot rfl rfl rfl)) rfl (fun hG h' ha => Val.ix (enc := Srt.cells) Tryd.underlying85 zs33 (Ev.opt rfl hG) Ev.const (by try simp only [td] at hG; omega) (gA_at (by try simp only [td] at hG; omega) (by try simp only [td] at hG; omega))) ?_
    refine LexE.gval rfl (fun h' => (Grd.ot rfl rfl rfl)) rfl (fun hG h' ha => Val.fa (off := 0) Tryd.underlying33 rfl rfl zs3 (Ev.opt rfl hG)) ?_
    refine LexE.gval rfl (fun h' => (Grd.ot rfl rfl rfl)) rfl (fun hG h' ha => Val.load Tryd.underlying3 rfl (Ev.opt rfl hG)) ?_
    refine LexE.gval rfl (fun h' => (Grd.ot rfl rfl rfl)) rfl (fun hG h' ha => Val.eql (Ev.opt rfl hG) Ev.const) ?_
    refine LexE.gval rfl (fun h' => (Grd.f rfl rfl rfl)) rfl (fun hG h' ha => Val.and (Ev.opt rfl hG) (fun hb => Ev.opt rfl (an hG hb))) ?_
    refine LexE.val rfl rfl rfl (fun h' ha => Val.or (tm rfl) (fun hb => Ev.opt rfl (nt hb))) ?_
    refine LexE.val rfl rfl rfl (fun h' ha => Val.assign (tm rfl)) ?_
    refine LexE.nil (nm ?_)
    refine W.norm 214 [(4, _)] [some ⟨_, _, [[_, _, _]]⟩] rfl ⟨rfl, trivial⟩ rfl rfl ?_
    refine W.ret (rt2 (rt1 ?_))
    exact Ret.of (.inr rfl) rfl (res1 rfl rfl) (Fewer.nil _) (.inr trivial) (fun id h => absurd h (Nat.not_lt_zero _)) (.same rfl) ⟨rfl, _, rfl, fun h1 h2 => by first | omega | (simp [h2])⟩
  try simp only [td] at hc12
  refine sr ?_
  refine WL.v (Val.eql (tm rfl) Ev.const) rfl ?_
  refine asg rfl rfl ?_
  refine WL.norm 214 [(1, _), (5, _), (6, _), (7, _), (8, _), (26, _), (51, _)] [some ⟨_, _, [[_, _, _]]⟩] rfl ⟨rfl, rfl, rfl, rfl, rfl, rfl, rfl, trivial⟩ rfl rfl ?_
  refine wn ?_
  refine W.condP rfl (fun hc14 => ?_) (fun hc14 => ?_)
  · try simp only [td] at hc14
    refine W.seq ?_
    refine W.drawE (fun k => ([([0], []), ([], []), ([], []), ([], []), ([], []), ([], []), ([], []), ([], []), ([], []), ([], []), ([], []), ([], []), ([], []), ([], []), ([], []), ([], []), ([], []), ([], []), ([], []), ([], []), ([], []), ([], []), ([], []), ([], []), ([], []), ([], []), ([], [])] : List (List Nat × List Nat)).getD k ([], [])) rfl (by kernel_rfl) (bl rfl) ?_
    refine LexE.val rfl rfl rfl (fun h' ha => Val.loadLiveAgg Tryd.underlying33 rfl zs33 (tm rfl) ((ha.at_ 0 (by decide)).trans rfl) rfl rfl rfl (bl rfl)) ?_
    refine LexE.call ca43 (fun h' ha => (evc Ev.const evn)) (lo1 lo0) rfl (c_BV W0 N _) rfl ?_
    refine LexE.val rfl rfl rfl (fun h' ha => Val.eqlSrt is33 (tm rfl) (tm rfl)) ?_
    refine LexE.val rfl rfl rfl (fun h' ha => Val.move (tm rfl)) ?_
    refine LexE.gval rfl (fun h' => (Grd.t rfl rfl rfl)) rfl (fun hG h' ha => Val.move (tm rfl)) ?_
    refine LexE.gval rfl (fun h' => (Grd.t rfl rfl rfl)) rfl (fun hG h' ha => Val.ix (enc := Srt.cells) Tryd.underlying85 zs33 (Ev.opt rfl hG) Ev.const (by try simp only [td] at hG; omega) (gA_at (by try simp only [td] at hG; omega) (by try simp only [td] at hG; omega))) ?_
    refine LexE.gval rfl (fun h' => (Grd.t rfl rfl rfl)) rfl (fun hG h' ha => Val.loadAgg Tryd.underlying33 rfl zs33 (Ev.opt rfl hG) (bl rfl)) ?_
    refine LexE.gval rfl (fun h' => (Grd.t rfl rfl rfl)) rfl (fun hG h' ha => Val.move (tm rfl)) ?_
    refine LexE.gval rfl (fun h' => (Grd.t rfl rfl rfl)) rfl (fun hG h' ha => Val.ix (enc := Srt.cells) Tryd.underlying85 zs33 (Ev.opt rfl hG) Ev.const (by try simp only [td] at hG; omega) (gA_at (by try simp only [td] at hG; omega) (by try simp only [td] at hG; omega))) ?_
    refine LexE.gval rfl (fun h' => (Grd.t rfl rfl rfl)) rfl (fun hG h' ha => Val.loadAgg Tryd.underlying33 rfl zs33 (Ev.opt rfl hG) (bl rfl)) ?_
    refine LexE.gval rfl (fun h' => (Grd.t rfl rfl rfl)) rfl (fun hG h' ha => Val.eqlSrt is33 (Ev.opt rfl hG) (Ev.opt rfl hG)) ?_
    refine LexE.gval rfl (fun h' => (Grd.t rfl rfl rfl)) rfl (fun hG h' ha => Val.move (Ev.opt rfl hG)) ?_
    refine LexE.gval rfl (fun h' => (Grd.of rfl rfl rfl)) rfl (fun hG h' ha => Val.move (tm rfl)) ?_
    refine LexE.gval rfl (fun h' => (Grd.of rfl rfl rfl)) rfl (fun hG h' ha => Val.ix (enc := Srt.cells) Tryd.underlying85 zs33 (Ev.opt rfl hG) Ev.const (by try simp only [td] at hG; omega) (gA_at (by try simp only [td] at hG; omega) (by try simp only [td] at hG; omega))) ?_
    refine LexE.gval rfl (fun h' => (Grd.of rfl rfl rfl)) rfl (fun hG h' ha => Val.fa (off := 0) Tryd.underlying33 rfl rfl zs3 (Ev.opt rfl hG)) ?_
    refine LexE.gval rfl (fun h' => (Grd.of rfl rfl rfl)) rfl (fun hG h' ha => Val.load Tryd.underlying3 rfl (Ev.opt rfl hG)) ?_
    refine LexE.gval rfl (fun h' => (Grd.of rfl rfl rfl)) rfl (fun hG h' ha => Val.eql (Ev.opt rfl hG) Ev.const) ?_
    refine LexE.gval rfl (fun h' => (Grd.of rfl rfl rfl)) rfl (fun hG h' ha => Val.move (Ev.opt rfl hG)) ?_
    refine LexE.gval rfl (fun h' => (Grd.ot rfl rfl rfl)) rfl (fun hG h' ha => Val.move (tm rfl)) ?_
    refine LexE.gval rfl (fun h' => (Grd.ot rfl rfl rfl)) rfl (fun hG h' ha => Val.ix (enc := Srt.cells) Tryd.underlying85 zs33 (Ev.opt rfl hG) Ev.const (by try simp only [td] at hG; omega) (gA_at (by try simp only [td] at hG; omega) (by try simp only [td] at hG; omega))) ?_
    refine LexE.gval rfl (fun h' => (Grd.ot rfl rfl rfl)) rfl (fun hG h' ha => Val.fa (off := 0) Tryd.underlying33 rfl rfl zs3 (Ev.opt rfl hG)) ?_
    refine LexE.gval rfl (fun h' => (Grd.ot rfl rfl rfl)) rfl (fun hG h' ha => Val.load Tryd.underlying3 rfl (Ev.opt rfl hG)) ?_
    refine LexE.gval rfl (fun h' => (Grd.ot rfl rfl rfl)) rfl (fun hG h' ha => Val.eql (Ev.opt rfl hG) Ev.const) ?_
    refine LexE.gval rfl (fun h' => (Grd.of rfl rfl rfl)) rfl (fun hG h' ha => Val.and (Ev.opt rfl hG) (fun hb => Ev.opt rfl (an hG hb))) ?_
    refine LexE.gval rfl (fun h' => (Grd.t rfl rfl rfl)) rfl (fun hG h' ha => Val.or (Ev.opt rfl hG) (fun hb => Ev.opt rfl (an hG (nt hb)))) ?_
    refine LexE.val rfl rfl rfl (fun h' ha => Val.and (tm rfl) (fun hb => Ev.opt rfl hb)) ?_
    refine LexE.val rfl rfl rfl (fun h' ha => Val.assign (tm rfl)) ?_
    refine LexE.nil (nm ?_)
    refine W.norm 214 [(4, _)] [some ⟨_, _, [[_, _, _]]⟩] rfl ⟨rfl, trivial⟩ rfl rfl ?_
    refine W.ret (rt2 (rt1 ?_))
    exact Ret.of (.inr rfl) rfl (res1 rfl rfl) (Fewer.nil _) (.inr trivial) (fun id h => absurd h (Nat.not_lt_zero _)) (.same rfl) ⟨rfl, _, rfl, fun h1 h2 => by first | omega | (simp [h2])⟩
  try simp only [td] at hc14
  refine sr ?_
  refine WL.v (Val.eql (tm rfl) Ev.const) rfl ?_
  refine asg rfl rfl ?_
  refine WL.norm 214 [(1, _), (5, _), (6, _), (7, _), (8, _), (26, _), (79, _)] [some ⟨_, _, [[_, _, _]]⟩] rfl ⟨rfl, rfl, rfl, rfl, rfl, rfl, rfl, trivial⟩ rfl rfl ?_
  refine wn ?_
  refine W.condP rfl (fun hc16 => ?_) (fun hc16 => ?_)
  · try simp only [td] at hc16
    refine sr ?_
    refine mv rfl rfl ?_
    refine mv rfl rfl ?_
    refine WL.g (Grd.t rfl rfl rfl) (fun hG => Val.move (tm rfl)) rfl ?_
    refine WL.g (Grd.t rfl rfl rfl) (fun hG => Val.ix (enc := Srt.cells) Tryd.underlying85 zs33 (Ev.opt rfl hG) Ev.const (by try simp only [td] at hG; omega) (gA_at (by try simp only [td] at hG; omega) (by try simp only [td] at hG; omega))) rfl ?_
    refine WL.g (Grd.t rfl rfl rfl) (fun hG => Val.fa (off := 0) Tryd.underlying33 rfl rfl zs3 (Ev.opt rfl hG)) rfl ?_
    refine WL.g (Grd.t rfl rfl rfl) (fun hG => Val.load Tryd.underlying3 rfl (Ev.opt rfl hG)) rfl ?_
    refine WL.g (Grd.t rfl rfl rfl) (fun hG => Val.eql (Ev.opt rfl hG) Ev.const) rfl ?_
    refine WL.v (Val.and (tm rfl) (fun hb => Ev.opt rfl hb)) rfl ?_
    refine asg rfl rfl ?_
    refine WL.norm 214 [(4, _)] [some ⟨_, _, [[_, _, _]]⟩] rfl ⟨rfl, trivial⟩ rfl rfl ?_
    refine wn ?_
    refine W.ret (rt2 (rt1 ?_))
    exact Ret.of (.inr rfl) rfl (res1 rfl rfl) (Fewer.nil _) (.inr trivial) (fun id h => absurd h (Nat.not_lt_zero _)) (.same rfl) ⟨rfl, _, rfl, fun h1 h2 => by first | omega | (simp [h2])⟩
  try simp only [td] at hc16
  refine sr ?_
  refine WL.v (Val.eql (tm rfl) Ev.const) rfl ?_
  refine asg rfl rfl ?_
  refine WL.norm 214 [(1, _), (5, _), (6, _), (7, _), (8, _), (26, _), (89, _)] [some ⟨_, _, [[_, _, _]]⟩] rfl ⟨rfl, rfl, rfl, rfl, rfl, rfl, rfl, trivial⟩ rfl rfl ?_
  refine wn ?_
  refine W.condP rfl (fun hc18 => ?_) (fun hc18 => ?_)
  · try simp only [td] at hc18
    refine W.seq ?_
    refine W.drawE (fun k => ([([], []), ([], []), ([], []), ([], []), ([], []), ([], []), ([0], []), ([], []), ([], []), ([], []), ([], [])] : List (List Nat × List Nat)).getD k ([], [])) rfl (by kernel_rfl) (bl rfl) ?_
    refine LexE.val rfl rfl rfl (fun h' ha => Val.move (tm rfl)) ?_
    refine LexE.val rfl rfl rfl (fun h' ha => Val.move (tm rfl)) ?_
    refine LexE.gval rfl (fun h' => (Grd.t rfl rfl rfl)) rfl (fun hG h' ha => Val.move (tm rfl)) ?_
    refine LexE.gval rfl (fun h' => (Grd.t rfl rfl rfl)) rfl (fun hG h' ha => Val.ix (enc := Srt.cells) Tryd.underlying85 zs33 (Ev.opt rfl hG) Ev.const (by try simp only [td] at hG; omega) (gA_at (by try simp only [td] at hG; omega) (by try simp only [td] at hG; omega))) ?_
    refine LexE.gval rfl (fun h' => (Grd.t rfl rfl rfl)) rfl (fun hG h' ha => Val.loadAgg Tryd.underlying33 rfl zs33 (Ev.opt rfl hG) (bl rfl)) ?_
    refine LexE.gval rfl (fun h' => (Grd.t rfl rfl rfl)) rfl (fun hG h' ha => Val.fal (off := 2) Tryd.underlying33 rfl rfl zs3 (tm rfl)) ?_
    refine LexE.gval rfl (fun h' => (Grd.t rfl rfl rfl)) rfl (fun hG h' ha => Val.loadLive Tryd.underlying3 rfl (Ev.opt rfl hG) ((ha.at_ 0 (by decide)).trans rfl) rfl rfl rfl rfl) ?_
    refine LexE.gcall (fun h' => (Grd.t rfl rfl rfl)) ca43 (fun hG h' ha => (evc (Ev.opt rfl hG) evn)) (lo1 lo0) rfl (fun hG => c_BV W0 N _) rfl ?_
    refine LexE.gval rfl (fun h' => (Grd.t rfl rfl rfl)) rfl (fun hG h' ha => Val.eqlSrt is33 (Ev.opt rfl hG) (Ev.opt rfl hG)) ?_
    refine LexE.val rfl rfl rfl (fun h' ha => Val.and (tm rfl) (fun hb => Ev.opt rfl hb)) ?_
    refine LexE.val rfl rfl rfl (fun h' ha => Val.assign (tm rfl)) ?_
    refine LexE.nil (nm ?_)
    refine W.norm 214 [(4, _)] [some ⟨_, _, [[_, _, _]]⟩] rfl ⟨rfl, trivial⟩ rfl rfl ?_
    refine W.ret (rt2 (rt1 ?_))
    exact Ret.of (.inr rfl) rfl (res1 rfl rfl) (Fewer.nil _) (.inr trivial) (fun id h => absurd h (Nat.not_lt_zero _)) (.same rfl) ⟨rfl, _, rfl, fun h1 h2 => by first | omega | (simp [h2])⟩
  try simp only [td] at hc18
  refine sr ?_
  refine WL.v (Val.eql (tm rfl) Ev.const) rfl ?_
  refine asg rfl rfl ?_
  refine WL.norm 214 [(1, _), (5, _), (6, _), (7, _), (8, _), (26, _), (101, _)] [some ⟨_, _, [[_, _, _]]⟩] rfl ⟨rfl, rfl, rfl, rfl, rfl, rfl, rfl, trivial⟩ rfl rfl ?_
  refine wn ?_
  refine W.condP rfl (fun hc20 => ?_) (fun hc20 => ?_)
  · try simp only [td] at hc20
    refine W.seq ?_
    refine W.seq ?_
    refine W.drawE (fun k => ([([], []), ([], []), ([], []), ([], []), ([], []), ([], []), ([], []), ([0], []), ([], []), ([], []), ([], [])] : List (List Nat × List Nat)).getD k ([], [])) rfl (by kernel_rfl) (bl rfl) ?_
    refine LexE.val rfl rfl rfl (fun h' ha => Val.move (tm rfl)) ?_
    refine LexE.val rfl rfl rfl (fun h' ha => Val.not (tm rfl)) ?_
    refine LexE.val rfl rfl rfl (fun h' ha => Val.move (tm rfl)) ?_
    refine LexE.gval rfl (fun h' => (Grd.f rfl rfl rfl)) rfl (fun hG h' ha => Val.move (tm rfl)) ?_
    refine LexE.gval rfl (fun h' => (Grd.f rfl rfl rfl)) rfl (fun hG h' ha => Val.ix (enc := Srt.cells) Tryd.underlying85 zs33 (Ev.opt rfl hG) Ev.const (by try simp only [td] at hG; omega) (gA_at (by try simp only [td] at hG; omega) (by try simp only [td] at hG; omega))) ?_
    refine LexE.gval rfl (fun h' => (Grd.f rfl rfl rfl)) rfl (fun hG h' ha => Val.loadAgg Tryd.underlying33 rfl zs33 (Ev.opt rfl hG) (bl rfl)) ?_
    refine LexE.gval rfl (fun h' => (Grd.f rfl rfl rfl)) rfl (fun hG h' ha => Val.fal (off := 2) Tryd.underlying33 rfl rfl zs3 (tm rfl)) ?_
    refine LexE.gval rfl (fun h' => (Grd.f rfl rfl rfl)) rfl (fun hG h' ha => Val.loadLive Tryd.underlying3 rfl (Ev.opt rfl hG) ((ha.at_ 0 (by decide)).trans rfl) rfl rfl rfl rfl) ?_
    refine LexE.gcall (fun h' => (Grd.f rfl rfl rfl)) ca43 (fun hG h' ha => (evc (Ev.opt rfl hG) evn)) (lo1 lo0) rfl (fun hG => c_BV W0 N _) rfl ?_
    refine LexE.gval rfl (fun h' => (Grd.f rfl rfl rfl)) rfl (fun hG h' ha => Val.neqSrt is33 (Ev.opt rfl hG) (Ev.opt rfl hG)) ?_
    refine LexE.val rfl rfl rfl (fun h' ha => Val.or (tm rfl) (fun hb => Ev.opt rfl (nt hb))) ?_
    refine LexE.nil (nm ?_)
    refine W.norm 214 [(1, _), (5, _), (113, _)] [some ⟨_, _, [[_, _, _]]⟩] rfl ⟨rfl, rfl, rfl, trivial⟩ rfl rfl ?_
    refine W.condP rfl (fun hc21 => ?_) (fun hc21 => ?_)
    · try simp only [td] at hc21
      refine sr ?_
      refine WL.v (Val.assign Ev.const) rfl ?_
      refine WL.norm 214 [(4, _)] [some ⟨_, _, [[_, _, _]]⟩] rfl ⟨rfl, trivial⟩ rfl rfl ?_
      refine wn ?_
      refine W.ret (rt1 (rt2 (rt1 ?_)))
      exact Ret.of (.inr rfl) rfl (res1 rfl rfl) (Fewer.nil _) (.inr trivial) (fun id h => absurd h (Nat.not_lt_zero _)) (.same rfl) ⟨rfl, _, rfl, fun h1 h2 => by first | omega | (simp [h2])⟩
    try simp only [td] at hc21
    refine W.skip (nm ?_)
    refine W.seq ?_
    refine W.drawE (fun k => ([([], []), ([], []), ([], []), ([0], []), ([], []), ([], []), ([], []), ([], []), ([0], []), ([], []), ([], []), ([], []), ([], []), ([], []), ([], []), ([], []), ([], []), ([], []), ([], []), ([], []), ([], []), ([], []), ([], []), ([0], []), ([], []), ([], []), ([], []), ([], [])] : List (List Nat × List Nat)).getD k ([], [])) rfl (by kernel_rfl) (bl rfl) ?_
    refine LexE.val rfl rfl rfl (fun h' ha => Val.move (tm rfl)) ?_
    refine LexE.val rfl rfl rfl (fun h' ha => Val.ix (enc := Srt.cells) Tryd.underlying85 zs33 (tm rfl) Ev.const (by omega) (gA_at (by omega) (by omega))) ?_
    refine LexE.val rfl rfl rfl (fun h' ha => Val.loadAgg Tryd.underlying33 rfl zs33 (tm rfl) (bl rfl)) ?_
    refine LexE.val rfl rfl rfl (fun h' ha => Val.loadLiveAgg Tryd.underlying33 rfl zs33 (tm rfl) ((ha.at_ 0 (by decide)).trans rfl) rfl rfl rfl (bl rfl)) ?_
    refine LexE.call ca59 (fun h' ha => (evc (tm rfl) evn)) (lo2 rfl lo0) rfl (c_Element W0 N (gA ks 0)) rfl ?_
    refine LexE.val rfl rfl rfl (fun h' ha => Val.eqlSrt is33 (tm rfl) (tm rfl)) ?_
    refine LexE.val rfl rfl rfl (fun h' ha => Val.move (tm rfl)) ?_
    refine LexE.gval rfl (fun h' => (Grd.f rfl rfl rfl)) rfl (fun hG h' ha => Val.fal (off := 0) Tryd.underlying33 rfl rfl zs3 (tm rfl)) ?_
    refine LexE.gval rfl (fun h' => (Grd.f rfl rfl rfl)) rfl (fun hG h' ha => Val.loadLive Tryd.underlying3 rfl (Ev.opt rfl hG) ((ha.at_ 0 (by decide)).trans rfl) rfl rfl rfl rfl) ?_
    refine LexE.gval rfl (fun h' => (Grd.f rfl rfl rfl)) rfl (fun hG h' ha => Val.eql (Ev.opt rfl hG) Ev.const) ?_
    refine LexE.gval rfl (fun h' => (Grd.f rfl rfl rfl)) rfl (fun hG h' ha => Val.move (Ev.opt rfl hG)) ?_
    refine LexE.gval rfl (fun h' => (Grd.ot rfl rfl rfl)) rfl (fun hG h' ha => Val.move (tm rfl)) ?_
    refine LexE.gval rfl (fun h' => (Grd.ot rfl rfl rfl)) rfl (fun hG h' ha => Val.ix (enc := Srt.cells) Tryd.underlying85 zs33 (Ev.opt rfl hG) Ev.const (by try simp only [td] at hG; omega) (gA_at (by try simp only [td] at hG; omega) (by try simp only [td] at hG; omega))) ?_
    refine LexE.gval rfl (fun h' => (Grd.ot rfl rfl rfl)) rfl (fun hG h' ha => Val.fa (off := 0) Tryd.underlying33 rfl rfl zs3 (Ev.opt rfl hG)) ?_
    refine LexE.gval rfl (fun h' => (Grd.ot rfl rfl rfl)) rfl (fun hG h' ha => Val.load Tryd.underlying3 rfl (Ev.opt rfl hG)) ?_
    refine LexE.gval rfl (fun h' => (Grd.ot rfl rfl rfl)) rfl (fun hG h' ha => Val.eql (Ev.opt rfl hG) Ev.const) ?_
    refine LexE.gval rfl (fun h' => (Grd.f rfl rfl rfl)) rfl (fun hG h' ha => Val.and (Ev.opt rfl hG) (fun hb => Ev.opt rfl (an hG hb))) ?_
    refine LexE.gval rfl (fun h' => (Grd.f rfl rfl rfl)) rfl (fun hG h' ha => Val.move (Ev.opt rfl hG)) ?_
    refine LexE.gval rfl (fun h' => (Grd.ot rfl rfl rfl)) rfl (fun hG h' ha => Val.move (tm rfl)) ?_
    refine LexE.gval rfl (fun h' => (Grd.ot rfl rfl rfl)) rfl (fun hG h' ha => Val.ix (enc := Srt.cells) Tryd.underlying85 zs33 (Ev.opt rfl hG) Ev.const (by try simp only [td] at hG; omega) (gA_at (by try simp only [td] at hG; omega) (by try simp only [td] at hG; omega))) ?_
    refine LexE.gval rfl (fun h' => (Grd.ot rfl rfl rfl)) rfl (fun hG h' ha => Val.fa (off := 1) Tryd.underlying33 rfl rfl zs3 (Ev.opt rfl hG)) ?_
    refine LexE.gval rfl (fun h' => (Grd.ot rfl rfl rfl)) rfl (fun hG h' ha => Val.load Tryd.underlying3 rfl (Ev.opt rfl hG)) ?_
    refine LexE.gval rfl (fun h' => (Grd.ot rfl rfl rfl)) rfl (fun hG h' ha => Val.fal (off := 1) Tryd.underlying33 rfl rfl zs3 (tm rfl)) ?_
    refine LexE.gval rfl (fun h' => (Grd.ot rfl rfl rfl)) rfl (fun hG h' ha => Val.loadLive Tryd.underlying3 rfl (Ev.opt rfl hG) ((ha.at_ 0 (by decide)).trans rfl) rfl rfl rfl rfl) ?_
    refine LexE.gval rfl (fun h' => (Grd.ot rfl rfl rfl)) rfl (fun hG h' ha => Val.leq (Ev.opt rfl hG) (Ev.opt rfl hG)) ?_
    refine LexE.gval rfl (fun h' => (Grd.f rfl rfl rfl)) rfl (fun hG h' ha => Val.and (Ev.opt rfl hG) (fun hb => Ev.opt rfl (an hG hb))) ?_
    refine LexE.val rfl rfl rfl (fun h' ha => Val.or (tm rfl) (fun hb => Ev.opt rfl (nt hb))) ?_
    refine LexE.val rfl rfl rfl (fun h' ha => Val.assign (tm rfl)) ?_
    refine LexE.nil (nm ?_)
    refine W.norm 214 [(4, _)] [some ⟨_, _, [[_, _, _]]⟩] rfl ⟨rfl, trivial⟩ rfl rfl ?_
    refine W.ret (rt2 (rt1 ?_))
    exact Ret.of (.inr rfl) rfl (res1 rfl rfl) (Fewer.nil _) (.inr trivial) (fun id h => absurd h (Nat.not_lt_zero _)) (.same rfl) ⟨rfl, _, rfl, fun h1 h2 => by first | omega | (simp [h2])⟩
  try simp only [td] at hc20
  refine sr ?_
  refine WL.v (Val.eql (tm rfl) Ev.const) rfl ?_
  refine asg rfl rfl ?_
  refine WL.norm 214 [(1, _), (5, _), (6, _), (7, _), (8, _), (26, _), (141, _)] [some ⟨_, _, [[_, _, _]]⟩] rfl ⟨rfl, rfl, rfl, rfl, rfl, rfl, rfl, trivial⟩ rfl rfl ?_
  refine wn ?_
  refine W.condP rfl (fun hc24 => ?_) (fun hc24 => ?_)
  · try simp only [td] at hc24
    refine W.seq ?_
    refine W.drawE (fun k => ([([], []), ([], []), ([0], []), ([], []), ([], []), ([], []), ([], []), ([], []), ([], [])] : List (List Nat × List Nat)).getD k ([], [])) rfl (by kernel_rfl) (bl rfl) ?_
    refine LexE.val rfl rfl rfl (fun h' ha => Val.move (tm rfl)) ?_
    refine LexE.val rfl rfl rfl (fun h' ha => Val.move (tm rfl)) ?_
    refine LexE.gval rfl (fun h' => (Grd.t rfl rfl rfl)) rfl (fun hG h' ha => Val.loadLiveAgg Tryd.underlying33 rfl zs33 (tm rfl) ((ha.at_ 0 (by decide)).trans rfl) rfl rfl rfl (bl rfl)) ?_
    refine LexE.gval rfl (fun h' => (Grd.t rfl rfl rfl)) rfl (fun hG h' ha => Val.move (tm rfl)) ?_
    refine LexE.gval rfl (fun h' => (Grd.t rfl rfl rfl)) rfl (fun hG h' ha => Val.ix (enc := Srt.cells) Tryd.underlying85 zs33 (Ev.opt rfl hG) Ev.const (by try simp only [td] at hG; omega) (gA_at (by try simp only [td] at hG; omega) (by try simp only [td] at hG; omega))) ?_
    refine LexE.gval rfl (fun h' => (Grd.t rfl rfl rfl)) rfl (fun hG h' ha => Val.loadAgg Tryd.underlying33 rfl zs33 (Ev.opt rfl hG) (bl rfl)) ?_
    refine LexE.gval rfl (fun h' => (Grd.t rfl rfl rfl)) rfl (fun hG h' ha => Val.eqlSrt is33 (Ev.opt rfl hG) (Ev.opt rfl hG)) ?_
    refine LexE.val rfl rfl rfl (fun h' ha => Val.and (tm rfl) (fun hb => Ev.opt rfl hb)) ?_
    refine LexE.val rfl rfl rfl (fun h' ha => Val.assign (tm rfl)) ?_
    refine LexE.nil (nm ?_)
    refine W.norm 214 [(4, _)] [some ⟨_, _, [[_, _, _]]⟩] rfl ⟨rfl, trivial⟩ rfl rfl ?_
    refine W.ret (rt2 (rt1 ?_))
    exact Ret.of (.inr rfl) rfl (res1 rfl rfl) (Fewer.nil _) (.inr trivial) (fun id h => absurd h (Nat.not_lt_zero _)) (.same rfl) ⟨rfl, _, rfl, fun h1 h2 => by first | omega | (simp [h2])⟩
  try simp only [td] at hc24
  refine W.seq ?_
  refine sr ?_
  refine WL.v (Val.eql (tm rfl) Ev.const) rfl ?_
  refine asg rfl rfl ?_
  refine WL.norm 214 [(1, _), (5, _), (6, _), (7, _), (26, _), (151, _)] [some ⟨_, _, [[_, _, _]]⟩] rfl ⟨rfl, rfl, rfl, rfl, rfl, rfl, trivial⟩ rfl rfl ?_
  refine wn ?_
  refine W.condP rfl (fun hc26 => ?_) (fun hc26 => ?_)
  · try simp only [td] at hc26
    refine W.skip (nm ?_)
    refine W.cT rfl ?_
    refine sr ?_
    refine mv rfl rfl ?_
    refine asg rfl rfl ?_
    refine WL.norm 214 [(4, _)] [some ⟨_, _, [[_, _, _]]⟩] rfl ⟨rfl, trivial⟩ rfl rfl ?_
    refine wn ?_
    refine W.ret (rt2 (rt1 ?_))
    exact Ret.of (.inr rfl) rfl (res1 rfl rfl) (Fewer.nil _) (.inr trivial) (fun id h => absurd h (Nat.not_lt_zero _)) (.same rfl) ⟨rfl, _, rfl, fun h1 h2 => by first | omega | (simp [h2])⟩
  try simp only [td] at hc26
  refine sr ?_
  refine WL.v (Val.eql (tm rfl) Ev.const) rfl ?_
  refine asg rfl rfl ?_
  refine WL.norm 214 [(1, _), (5, _), (6, _), (7, _), (26, _), (151, _)] [some ⟨_, _, [[_, _, _]]⟩] rfl ⟨rfl, rfl, rfl, rfl, rfl, rfl, trivial⟩ rfl rfl ?_
  refine wn ?_
  refine W.condP rfl (fun hc27 => ?_) (fun hc27 => ?_)
  · try simp only [td] at hc27
    refine W.skip (nm ?_)
    refine W.cT rfl ?_
    refine sr ?_
    refine mv rfl rfl ?_
    refine asg rfl rfl ?_
    refine WL.norm 214 [(4, _)] [some ⟨_, _, [[_, _, _]]⟩] rfl ⟨rfl, trivial⟩ rfl rfl ?_
    refine wn ?_
    refine W.ret (rt2 (rt1 ?_))
    exact Ret.of (.inr rfl) rfl (res1 rfl rfl) (Fewer.nil _) (.inr trivial) (fun id h => absurd h (Nat.not_lt_zero _)) (.same rfl) ⟨rfl, _, rfl, fun h1 h2 => by first | omega | (simp [h2])⟩
  try simp only [td] at hc27
  refine W.region ?_
  refine WL.v (Val.eql (tm rfl) Ev.const) rfl ?_
  refine asg rfl rfl ?_
  refine WL.norm 214 [(1, _), (5, _), (6, _), (7, _), (26, _), (151, _)] [some ⟨_, _, [[_, _, _]]⟩] rfl ⟨rfl, rfl, rfl, rfl, rfl, rfl, trivial⟩ rfl rfl ?_
  refine wn ?_
  refine W.condP rfl (fun hc28 => ?_) (fun hc28 => ?_)
  · try simp only [td] at hc28
    refine sr ?_
    refine mv rfl rfl ?_
    refine asg rfl rfl ?_
    refine WL.norm 214 [(4, _)] [some ⟨_, _, [[_, _, _]]⟩] rfl ⟨rfl, trivial⟩ rfl rfl ?_
    refine wn ?_
    refine W.ret (rt2 (rt1 ?_))
    exact Ret.of (.inr rfl) rfl (res1 rfl rfl) (Fewer.nil _) (.inr trivial) (fun id h => absurd h (Nat.not_lt_zero _)) (.same rfl) ⟨rfl, _, rfl, fun h1 h2 => by first | omega | (simp [h2])⟩
  try simp only [td] at hc28
  refine W.seq ?_
  refine sr ?_
  refine WL.v (Val.eql (tm rfl) Ev.const) rfl ?_
  refine asg rfl rfl ?_
  refine WL.norm 214 [(1, _), (5, _), (6, _), (7, _), (26, _), (156, _)] [some ⟨_, _, [[_, _, _]]⟩] rfl ⟨rfl, rfl, rfl, rfl, rfl, rfl, trivial⟩ rfl rfl ?_
  refine wn ?_
  refine W.condP rfl (fun hc30 => ?_) (fun hc30 => ?_)
  · try simp only [td] at hc30
    refine W.skip (nm ?_)
    refine W.cT rfl ?_
    refine sr ?_
    refine mv rfl rfl ?_
    refine mv rfl rfl ?_
    refine WL.g (Grd.t rfl rfl rfl) (fun hG => Val.move (tm rfl)) rfl ?_
    refine WL.g (Grd.t rfl rfl rfl) (fun hG => Val.ix (enc := Srt.cells) Tryd.underlying85 zs33 (Ev.opt rfl hG) Ev.const (by try simp only [td] at hG; omega) (gA_at (by try simp only [td] at hG; omega) (by try simp only [td] at hG; omega))) rfl ?_
    refine WL.g (Grd.t rfl rfl rfl) (fun hG => Val.fa (off := 0) Tryd.underlying33 rfl rfl zs3 (Ev.opt rfl hG)) rfl ?_
    refine WL.g (Grd.t rfl rfl rfl) (fun hG => Val.load Tryd.underlying3 rfl (Ev.opt rfl hG)) rfl ?_
    refine WL.g (Grd.t rfl rfl rfl) (fun hG => Val.eql (Ev.opt rfl hG) Ev.const) rfl ?_
    refine WL.v (Val.and (tm rfl) (fun hb => Ev.opt rfl hb)) rfl ?_
    refine asg rfl rfl ?_
    refine WL.norm 214 [(4, _)] [some ⟨_, _, [[_, _, _]]⟩] rfl ⟨rfl, trivial⟩ rfl rfl ?_
    refine wn ?_
    refine W.ret (rt2 (rt1 ?_))
    exact Ret.of (.inr rfl) rfl (res1 rfl rfl) (Fewer.nil _) (.inr trivial) (fun id h => absurd h (Nat.not_lt_zero _)) (.same rfl) ⟨rfl, _, rfl, fun h1 h2 => by first | omega | (simp [h2])⟩
  try simp only [td] at hc30
  refine W.region ?_
  refine WL.v (Val.eql (tm rfl) Ev.const) rfl ?_
  refine asg rfl rfl ?_
  refine WL.norm 214 [(1, _), (5, _), (6, _), (7, _), (26, _), (156, _)] [some ⟨_, _, [[_, _, _]]⟩] rfl ⟨rfl, rfl, rfl, rfl, rfl, rfl, trivial⟩ rfl rfl ?_
  refine wn ?_
  refine W.condP rfl (fun hc31 => ?_) (fun hc31 => ?_)
  · try simp only [td] at hc31
    refine sr ?_
    refine mv rfl rfl ?_
    refine mv rfl rfl ?_
    refine WL.g (Grd.t rfl rfl rfl) (fun hG => Val.move (tm rfl)) rfl ?_
    refine WL.g (Grd.t rfl rfl rfl) (fun hG => Val.ix (enc := Srt.cells) Tryd.underlying85 zs33 (Ev.opt rfl hG) Ev.const (by try simp only [td] at hG; omega) (gA_at (by try simp only [td] at hG; omega) (by try simp only [td] at hG; omega))) rfl ?_
    refine WL.g (Grd.t rfl rfl rfl) (fun hG => Val.fa (off := 0) Tryd.underlying33 rfl rfl zs3 (Ev.opt rfl hG)) rfl ?_
    refine WL.g (Grd.t rfl rfl rfl) (fun hG => Val.load Tryd.underlying3 rfl (Ev.opt rfl hG)) rfl ?_
    refine WL.g (Grd.t rfl rfl rfl) (fun hG => Val.eql (Ev.opt rfl hG) Ev.const) rfl ?_
    refine WL.v (Val.and (tm rfl) (fun hb => Ev.opt rfl hb)) rfl ?_
    refine asg rfl rfl ?_
    refine WL.norm 214 [(4, _)] [some ⟨_, _, [[_, _, _]]⟩] rfl ⟨rfl, trivial⟩ rfl rfl ?_
    refine wn ?_
    refine W.ret (rt2 (rt1 ?_))
    exact Ret.of (.inr rfl) rfl (res1 rfl rfl) (Fewer.nil _) (.inr trivial) (fun id h => absurd h (Nat.not_lt_zero _)) (.same rfl) ⟨rfl, _, rfl, fun h1 h2 => by first | omega | (simp [h2])⟩
  try simp only [td] at hc31
  refine sr ?_
  refine WL.v (Val.eql (tm rfl) Ev.const) rfl ?_
  refine asg rfl rfl ?_
  refine WL.norm 214 [(1, _), (5, _), (6, _), (7, _), (26, _), (167, _)] [some ⟨_, _, [[_, _, _]]⟩] rfl ⟨rfl, rfl, rfl, rfl, rfl, rfl, trivial⟩ rfl rfl ?_
  refine wn ?_
  refine W.condP rfl (fun hc33 => ?_) (fun hc33 => ?_)
  · try simp only [td] at hc33
    refine W.seq ?_
    refine W.drawE (fun _ => ([], [])) rfl (by kernel_rfl) (bl rfl) ?_
    refine LexE.val rfl rfl rfl (fun h' ha => Val.move (tm rfl)) ?_
    refine LexE.val rfl rfl rfl (fun h' ha => Val.move (tm rfl)) ?_
    refine LexE.gval rfl (fun h' => (Grd.t rfl rfl rfl)) rfl (fun hG h' ha => Val.move (tm rfl)) ?_
    refine LexE.gval rfl (fun h' => (Grd.t rfl rfl rfl)) rfl (fun hG h' ha => Val.ix (enc := Srt.cells) Tryd.underlying85 zs33 (Ev.opt rfl hG) Ev.const (by try simp only [td] at hG; omega) (gA_at (by try simp only [td] at hG; omega) (by try simp only [td] at hG; omega))) ?_
    refine LexE.gval rfl (fun h' => (Grd.t rfl rfl rfl)) rfl (fun hG h' ha => Val.loadAgg Tryd.underlying33 rfl zs33 (Ev.opt rfl hG) (bl rfl)) ?_
    refine LexE.gcall (fun h' => (Grd.t rfl rfl rfl)) ca43 (fun hG h' ha => (evc Ev.const evn)) (lo1 lo0) rfl (fun hG => c_BV W0 N _) rfl ?_
    refine LexE.gval rfl (fun h' => (Grd.t rfl rfl rfl)) rfl (fun hG h' ha => Val.eqlSrt is33 (Ev.opt rfl hG) (Ev.opt rfl hG)) ?_
    refine LexE.val rfl rfl rfl (fun h' ha => Val.and (tm rfl) (fun hb => Ev.opt rfl hb)) ?_
    refine LexE.val rfl rfl rfl (fun h' ha => Val.move (tm rfl)) ?_
    refine LexE.gval rfl (fun h' => (Grd.t rfl rfl rfl)) rfl (fun hG h' ha => Val.move (tm rfl)) ?_
    refine LexE.gval rfl (fun h' => (Grd.t rfl rfl rfl)) rfl (fun hG h' ha => Val.ix (enc := Srt.cells) Tryd.underlying85 zs33 (Ev.opt rfl hG) Ev.const (by try simp only [td] at hG; omega) (gA_at (by try simp only [td] at hG; omega) (by try simp only [td] at hG; omega))) ?_
    refine LexE.gval rfl (fun h' => (Grd.t rfl rfl rfl)) rfl (fun hG h' ha => Val.loadAgg Tryd.underlying33 rfl zs33 (Ev.opt rfl hG) (bl rfl)) ?_
    refine LexE.gcall (fun h' => (Grd.t rfl rfl rfl)) ca43 (fun hG h' ha => (evc Ev.const evn)) (lo1 lo0) rfl (fun hG => c_BV W0 N _) rfl ?_
    refine LexE.gval rfl (fun h' => (Grd.t rfl rfl rfl)) rfl (fun hG h' ha => Val.eqlSrt is33 (Ev.opt rfl hG) (Ev.opt rfl hG)) ?_
    refine LexE.val rfl rfl rfl (fun h' ha => Val.and (tm rfl) (fun hb => Ev.opt rfl hb)) ?_
    refine LexE.val rfl rfl rfl (fun h' ha => Val.assign (tm rfl)) ?_
    refine LexE.nil (nm ?_)
    refine W.norm 214 [(4, _)] [some ⟨_, _, [[_, _, _]]⟩] rfl ⟨rfl, trivial⟩ rfl rfl ?_
    refine W.ret (rt2 (rt1 ?_))
    exact Ret.of (.inr rfl) rfl (res1 rfl rfl) (Fewer.nil _) (.inr trivial) (fun id h => absurd h (Nat.not_lt_zero _)) (.same rfl) ⟨rfl, _, rfl, fun h1 h2 => by first | omega | (simp [h2])⟩
  try simp only [td] at hc33
  refine sr ?_
  refine WL.v (Val.eql (tm rfl) Ev.const) rfl ?_
  refine asg rfl rfl ?_
  refine WL.norm 214 [(1, _), (5, _), (6, _), (7, _), (26, _), (184, _)] [some ⟨_, _, [[_, _, _]]⟩] rfl ⟨rfl, rfl, rfl, rfl, rfl, rfl, trivial⟩ rfl rfl ?_
  refine wn ?_
  refine W.condP rfl (fun hc35 => ?_) (fun hc35 => ?_)
  · try simp only [td] at hc35
    refine sr ?_
    refine mv rfl rfl ?_
    refine mv rfl rfl ?_
    refine WL.g (Grd.t rfl rfl rfl) (fun hG => Val.move (tm rfl)) rfl ?_
    refine WL.g (Grd.t rfl rfl rfl) (fun hG => Val.ix (enc := Srt.cells) Tryd.underlying85 zs33 (Ev.opt rfl hG) Ev.const (by try simp only [td] at hG; omega) (gA_at (by try simp only [td] at hG; omega) (by try simp only [td] at hG; omega))) rfl ?_
    refine WL.g (Grd.t rfl rfl rfl) (fun hG => Val.fa (off := 0) Tryd.underlying33 rfl rfl zs3 (Ev.opt rfl hG)) rfl ?_
    refine WL.g (Grd.t rfl rfl rfl) (fun hG => Val.load Tryd.underlying3 rfl (Ev.opt rfl hG)) rfl ?_
    refine WL.g (Grd.t rfl rfl rfl) (fun hG => Val.eql (Ev.opt rfl hG) Ev.const) rfl ?_
    refine WL.v (Val.and (tm rfl) (fun hb => Ev.opt rfl hb)) rfl ?_
    refine mv rfl rfl ?_
    refine WL.g (Grd.t rfl rfl rfl) (fun hG => Val.move (tm rfl)) rfl ?_
    refine WL.g (Grd.t rfl rfl rfl) (fun hG => Val.ix (enc := Srt.cells) Tryd.underlying85 zs33 (Ev.opt rfl hG) Ev.const (by try simp only [td] at hG; omega) (gA_at (by try simp only [td] at hG; omega) (by try simp only [td] at hG; omega))) rfl ?_
    refine WL.g (Grd.t rfl rfl rfl) (fun hG => Val.fa (off := 0) Tryd.underlying33 rfl rfl zs3 (Ev.opt rfl hG)) rfl ?_
    refine WL.g (Grd.t rfl rfl rfl) (fun hG => Val.load Tryd.underlying3 rfl (Ev.opt rfl hG)) rfl ?_
    refine WL.g (Grd.t rfl rfl rfl) (fun hG => Val.eql (Ev.opt rfl hG) Ev.const) rfl ?_
    refine WL.v (Val.and (tm rfl) (fun hb => Ev.opt rfl hb)) rfl ?_
    refine asg rfl rfl ?_
    refine WL.norm 214 [(4, _)] [some ⟨_, _, [[_, _, _]]⟩] rfl ⟨rfl, trivial⟩ rfl rfl ?_
    refine wn ?_
    refine W.ret (rt2 (rt1 ?_))
    exact Ret.of (.inr rfl) rfl (res1 rfl rfl) (Fewer.nil _) (.inr trivial) (fun id h => absurd h (Nat.not_lt_zero _)) (.same rfl) ⟨rfl, _, rfl, fun h1 h2 => by first | omega | (simp [h2])⟩
  try simp only [td] at hc35
  refine sr ?_
  refine WL.v (Val.eql (tm rfl) Ev.const) rfl ?_
  refine asg rfl rfl ?_
  refine WL.norm 214 [(1, _), (5, _), (6, _), (201, _)] [some ⟨_, _, [[_, _, _]]⟩] rfl ⟨rfl, rfl, rfl, rfl, trivial⟩ rfl rfl ?_
  refine wn ?_
  refine W.condP rfl (fun hc37 => ?_) (fun hc37 => ?_)
  · try simp only [td] at hc37
    refine W.seq ?_
    refine W.drawE (fun k => ([([0], []), ([], []), ([], []), ([], [])] : List (List Nat × List Nat)).getD k ([], [])) rfl (by kernel_rfl) (bl rfl) ?_
    refine LexE.val rfl rfl rfl (fun h' ha => Val.loadLiveAgg Tryd.underlying33 rfl zs33 (tm rfl) ((ha.at_ 0 (by decide)).trans rfl) rfl rfl rfl (bl rfl)) ?_
    refine LexE.call ca43 (fun h' ha => (evc Ev.const evn)) (lo1 lo0) rfl (c_BV W0 N _) rfl ?_
    refine LexE.val rfl rfl rfl (fun h' ha => Val.eqlSrt is33 (tm rfl) (tm rfl)) ?_
    refine LexE.val rfl rfl rfl (fun h' ha => Val.assign (tm rfl)) ?_
    refine LexE.nil (nm ?_)
    refine W.norm 214 [(4, _)] [some ⟨_, _, [[_, _, _]]⟩] rfl ⟨rfl, trivial⟩ rfl rfl ?_
    refine W.ret (rt2 (rt1 ?_))
    exact Ret.of (.inr rfl) rfl (res1 rfl rfl) (Fewer.nil _) (.inr trivial) (fun id h => absurd h (Nat.not_lt_zero _)) (.same rfl) ⟨rfl, _, rfl, fun h1 h2 => by first | omega | (simp [h2])⟩
  try simp only [td] at hc37
  refine W.skip (nb (nm ?_))
  refine W.seq ?_
  refine W.drawE (fun k => ([([], []), ([], []), ([0], []), ([], []), ([], []), ([], []), ([], []), ([], []), ([], [])] : List (List Nat × List Nat)).getD k ([], [])) rfl (by kernel_rfl) (bl rfl) ?_
  refine LexE.val rfl rfl rfl (fun h' ha => Val.move (tm rfl)) ?_
  refine LexE.val rfl rfl rfl (fun h' ha => Val.move (tm rfl)) ?_
  refine LexE.gval rfl (fun h' => (Grd.t rfl rfl rfl)) rfl (fun hG h' ha => Val.loadLiveAgg Tryd.underlying33 rfl zs33 (tm rfl) ((ha.at_ 0 (by decide)).trans rfl) rfl rfl rfl (bl rfl)) ?_
  refine LexE.gval rfl (fun h' => (Grd.t rfl rfl rfl)) rfl (fun hG h' ha => Val.move (tm rfl)) ?_
  refine LexE.gval rfl (fun h' => (Grd.t rfl rfl rfl)) rfl (fun hG h' ha => Val.ix (enc := Srt.cells) Tryd.underlying85 zs33 (Ev.opt rfl hG) Ev.const (by try simp only [td] at hG; omega) (gA_at (by try simp only [td] at hG; omega) (by try simp only [td] at hG; omega))) ?_
  refine LexE.gval rfl (fun h' => (Grd.t rfl rfl rfl)) rfl (fun hG h' ha => Val.loadAgg Tryd.underlying33 rfl zs33 (Ev.opt rfl hG) (bl rfl)) ?_
  refine LexE.gval rfl (fun h' => (Grd.t rfl rfl rfl)) rfl (fun hG h' ha => Val.eqlSrt is33 (Ev.opt rfl hG) (Ev.opt rfl hG)) ?_
  refine LexE.val rfl rfl rfl (fun h' ha => Val.and (tm rfl) (fun hb => Ev.opt rfl hb)) ?_
  refine LexE.val rfl rfl rfl (fun h' ha => Val.assign (tm rfl)) ?_
  refine LexE.nil (nm ?_)
  refine W.norm 214 [(4, _)] [some ⟨_, _, [[_, _, _]]⟩] rfl ⟨rfl, trivial⟩ rfl rfl ?_
  refine W.ret ?_
  exact Ret.of (.inr rfl) rfl (res1 rfl rfl) (Fewer.nil _) (.inr trivial) (fun id h => absurd h (Nat.not_lt_zero _)) (.same rfl) ⟨rfl, _, rfl, fun h1 h2 => by first | omega | (simp [h2])⟩
-- enthymemeref07.result
set_option maxHeartbeats 1000000 in
theorem c_result (W0 : World) (N : Nat) (n : Nd) (ks : List Srt) (h1 : 1 ≤ ks.length) (hk : kidsOf n.op = ks.length) : AC (En W0 N) 54 [n.agg, .f (.srts ks)] [] (fun r h => h = [] ∧ ∃ s b, r = .tup [Srt.agg s, .b b] ∧ (n.op = 18 → b = true)) := by
  refine AC.enter Tryd.func54 rfl Tryd.ntmps54 (bl rfl) fun X => ?_
  generalize hop : n.op = op at hk
  have K2 : ¬ (op = 4 ∨ op = 5 ∨ op = 21 ∨ op = 22 ∨ op = 23 ∨ op = 27 ∨ op = 28 ∨ op = 33 ∨ op = 34) → 2 ≤ ks.length := by unfold kidsOf at hk; revert hk; repeat' split; all_goals omega
  have K3 : (op = 19 ∨ op = 25 ∨ op = 30 ∨ op = 32) → 3 ≤ ks.length := by unfold kidsOf at hk; revert hk; repeat' split; all_goals omega
  subst hop
  refine sr ?_
  refine WL.stp rfl (Stp.box (tm rfl) rfl rfl) ?_
  refine WL.stp rfl (Stp.alloc zz33 rfl rfl) ?_
  refine WL.v (Val.assign Ev.const) rfl ?_
  refine WL.norm 166 [(1, _), (2, _), (4, _)] [some ⟨_, _, [[_, _, _, _, _, _, _, _, _]]⟩, some ⟨_, _, [[_, _, _]]⟩] rfl ⟨rfl, rfl, rfl, trivial⟩ rfl rfl ?_
  refine wn ?_
  refine sr ?_
  refine mv rfl rfl ?_
  refine WL.v (Val.ix (enc := Srt.cells) Tryd.underlying85 zs33 (tm rfl) Ev.const (by omega) (gA_at (by omega) (by omega))) rfl ?_
  refine WL.v (Val.loadAgg Tryd.underlying33 rfl zs33 (tm rfl) (bl rfl)) rfl ?_
  refine WL.stp rfl (Stp.alloc zz33 rfl rfl) ?_
  refine WL.stp rfl (Stp.st (tm rfl) (tm rfl) zs33 rfl rfl rfl rfl rfl rfl rfl rfl) ?_
  refine WL.norm 166 [(1, _), (2, _), (4, _), (6, _)] [some ⟨_, _, [[_, _, _, _, _, _, _, _, _]]⟩, some ⟨_, _, [[_, _, _]]⟩, some ⟨_, _, [[_, _, _]]⟩] rfl ⟨rfl, rfl, rfl, rfl, trivial⟩ rfl rfl ?_
  refine wn ?_
  refine W.seq ?_
  refine sr ?_
  refine WL.v (Val.fal (off := 0) Tryd.underlying35 rfl rfl zs3 (tm rfl)) rfl ?_
  refine WL.v (Val.loadLive Tryd.underlying3 rfl (tm rfl) rfl rfl rfl rfl rfl) rfl ?_
  refine WL.norm 166 [(1, _), (2, _), (4, _), (6, _), (11, _)] [some ⟨_, _, [[_, _, _, _, _, _, _, _, _]]⟩, some ⟨_, _, [[_, _, _]]⟩, some ⟨_, _, [[_, _, _]]⟩] rfl ⟨rfl, rfl, rfl, rfl, rfl, trivial⟩ rfl rfl ?_
  refine wn ?_
  refine W.block ?_
  refine W.seq ?_
  refine sr ?_
  refine WL.v (Val.eql (tm rfl) Ev.const) rfl ?_
  refine asg rfl rfl ?_
  refine WL.norm 166 [(1, _), (2, _), (4, _), (6, _), (11, _), (12, _)] [some ⟨_, _, [[_, _, _, _, _, _, _, _, _]]⟩, some ⟨_, _, [[_, _, _]]⟩, some ⟨_, _, [[_, _, _]]⟩] rfl ⟨rfl, rfl, rfl, rfl, rfl, rfl, trivial⟩ rfl rfl ?_
  refine wn ?_
  refine W.condP rfl (fun hc3 => ?_) (fun hc3 => ?_)
  · try simp only [td] at hc3
    refine W.skip (nm ?_)
    refine W.cT rfl ?_
    refine sr ?_
    refine WL.callV ca43 (evc Ev.const evn) (lo1 lo0) rfl (c_BV W0 N _) ?_
    rintro _ rfl
    refine WL.stp rfl (Stp.st (tm rfl) (tm rfl) zs33 rfl rfl rfl rfl rfl rfl rfl rfl) ?_
    refine WL.v (Val.assign Ev.const) rfl ?_
    refine WL.norm 166 [(4, _), (5, _)] [some ⟨_, _, [[_, _, _, _, _, _, _, _, _]]⟩, some ⟨_, _, [[_, _, _]]⟩, some ⟨_, _, [[_, _, _]]⟩] rfl ⟨rfl, rfl, trivial⟩ rfl rfl ?_
    refine wn ?_
    refine W.ret (rt2 (rt1 ?_))
    exact Ret.of (.inr rfl) rfl (resCell2 rfl Tryd.underlying33 rfl zs33 rfl rfl rfl rfl rfl rfl rfl) (Fewer.nil _) (.inr trivial) (fun id h => absurd h (Nat.not_lt_zero _)) (.same rfl) ⟨rfl, ⟨_, _, _⟩, _, rfl, fun h1 => by first | rfl | omega⟩
  try simp only [td] at hc3
  refine sr ?_
  refine WL.v (Val.eql (tm rfl) Ev.const) rfl ?_
  refine asg rfl rfl ?_
  refine WL.norm 166 [(1, _), (2, _), (4, _), (6, _), (11, _), (12, _)] [some ⟨_, _, [[_, _, _, _, _, _, _, _, _]]⟩, some ⟨_, _, [[_, _, _]]⟩, some ⟨_, _, [[_, _, _]]⟩] rfl ⟨rfl, rfl, rfl, rfl, rfl, rfl, trivial⟩ rfl rfl ?_
  refine wn ?_
  refine W.condP rfl (fun hc4 => ?_) (fun hc4 => ?_)
  · try simp only [td] at hc4
    refine W.skip (nm ?_)
    refine W.cT rfl ?_
    refine sr ?_
    refine WL.callV ca43 (evc Ev.const evn) (lo1 lo0) rfl (c_BV W0 N _) ?_
    rintro _ rfl
    refine WL.stp rfl (Stp.st (tm rfl) (tm rfl) zs33 rfl rfl rfl rfl rfl rfl rfl rfl) ?_
    refine WL.v (Val.assign Ev.const) rfl ?_
    refine WL.norm 166 [(4, _), (5, _)] [some ⟨_, _, [[_, _, _, _, _, _, _, _, _]]⟩, some ⟨_, _, [[_, _, _]]⟩, some ⟨_, _, [[_, _, _]]⟩] rfl ⟨rfl, rfl, trivial⟩ rfl rfl ?_
    refine wn ?_
    refine W.ret (rt2 (rt1 ?_))
    exact Ret.of (.inr rfl) rfl (resCell2 rfl Tryd.underlying33 rfl zs33 rfl rfl rfl rfl rfl rfl rfl) (Fewer.nil _) (.inr trivial) (fun id h => absurd h (Nat.not_lt_zero _)) (.same rfl) ⟨rfl, ⟨_, _, _⟩, _, rfl, fun h1 => by first | rfl | omega⟩
  try simp only [td] at hc4
  refine sr ?_
  refine WL.v (Val.eql (tm rfl) Ev.const) rfl ?_
  refine asg rfl rfl ?_
  refine WL.norm 166 [(1, _), (2, _), (4, _), (6, _), (11, _), (12, _)] [some ⟨_, _, [[_, _, _, _, _, _, _, _, _]]⟩, some ⟨_, _, [[_, _, _]]⟩, some ⟨_, _, [[_, _, _]]⟩] rfl ⟨rfl, rfl, rfl, rfl, rfl, rfl, trivial⟩ rfl rfl ?_
  refine wn ?_
  refine W.condP rfl (fun hc5 => ?_) (fun hc5 => ?_)
  · try simp only [td] at hc5
    refine W.skip (nm ?_)
    refine W.cT rfl ?_
    refine sr ?_
    refine WL.callV ca43 (evc Ev.const evn) (lo1 lo0) rfl (c_BV W0 N _) ?_
    rintro _ rfl
    refine WL.stp rfl (Stp.st (tm rfl) (tm rfl) zs33 rfl rfl rfl rfl rfl rfl rfl rfl) ?_
    refine WL.v (Val.assign Ev.const) rfl ?_
    refine WL.norm 166 [(4, _), (5, _)] [some ⟨_, _, [[_, _, _, _, _, _, _, _, _]]⟩, some ⟨_, _, [[_, _, _]]⟩, some ⟨_, _, [[_, _, _]]⟩] rfl ⟨rfl, rfl, trivial⟩ rfl rfl ?_
    refine wn ?_
    refine W.ret (rt2 (rt1 ?_))
    exact Ret.of (.inr rfl) rfl (resCell2 rfl Tryd.underlying33 rfl zs33 rfl rfl rfl rfl rfl rfl rfl) (Fewer.nil _) (.inr trivial) (fun id h => absurd h (Nat.not_lt_zero _)) (.same rfl) ⟨rfl, ⟨_, _, _⟩, _, rfl, fun h1 => by first | rfl | omega⟩
  try simp only [td] at hc5
  refine W.region ?_
  refine WL.v (Val.eql (tm rfl) Ev.const) rfl ?_
  refine asg rfl rfl ?_
  refine WL.norm 166 [(1, _), (2, _), (4, _), (6, _), (11, _), (12, _)] [some ⟨_, _, [[_, _, _, _, _, _, _, _, _]]⟩, some ⟨_, _, [[_, _, _]]⟩, some ⟨_, _, [[_, _, _]]⟩] rfl ⟨rfl, rfl, rfl, rfl, rfl, rfl, trivial⟩ rfl rfl ?_
  refine wn ?_
  refine W.condP rfl (fun hc6 => ?_) (fun hc6 => ?_)
  · try simp only [td] at hc6
    refine sr ?_
    refine WL.callV ca43 (evc Ev.const evn) (lo1 lo0) rfl (c_BV W0 N _) ?_
    rintro _ rfl
    refine WL.stp rfl (Stp.st (tm rfl) (tm rfl) zs33 rfl rfl rfl rfl rfl rfl rfl rfl) ?_
    refine WL.v (Val.assign Ev.const) rfl ?_
    refine WL.norm 166 [(4, _), (5, _)] [some ⟨_, _, [[_, _, _, _, _, _, _, _, _]]⟩, some ⟨_, _, [[_, _, _]]⟩, some ⟨_, _, [[_, _, _]]⟩] rfl ⟨rfl, rfl, trivial⟩ rfl rfl ?_
    refine wn ?_
    refine W.ret (rt2 (rt1 ?_))
    exact Ret.of (.inr rfl) rfl (resCell2 rfl Tryd.underlying33 rfl zs33 rfl rfl rfl rfl rfl rfl rfl) (Fewer.nil _) (.inr trivial) (fun id h => absurd h (Nat.not_lt_zero _)) (.same rfl) ⟨rfl, ⟨_, _, _⟩, _, rfl, fun h1 => by first | rfl | omega⟩
  try simp only [td] at hc6
  refine sr ?_
  refine WL.v (Val.eql (tm rfl) Ev.const) rfl ?_
  refine asg rfl rfl ?_
  refine WL.norm 166 [(1, _), (2, _), (4, _), (6, _), (11, _), (18, _)] [some ⟨_, _, [[_, _, _, _, _, _, _, _, _]]⟩, some ⟨_, _, [[_, _, _]]⟩, some ⟨_, _, [[_, _, _]]⟩] rfl ⟨rfl, rfl, rfl, rfl, rfl, rfl, trivial⟩ rfl rfl ?_
  refine wn ?_
  refine W.condP rfl (fun hc8 => ?_) (fun hc8 => ?_)
  · try simp only [td] at hc8
    refine W.seq ?_
    refine sr ?_
    refine mv rfl rfl ?_
    refine WL.v (Val.ix (enc := Srt.cells) Tryd.underlying85 zs33 (tm rfl) Ev.const (by omega) (gA_at (by omega) (by omega))) rfl ?_
    refine WL.v (Val.fa (off := 0) Tryd.underlying33 rfl rfl zs3 (tm rfl)) rfl ?_
    refine WL.v (Val.load Tryd.underlying3 rfl (tm rfl)) rfl ?_
    refine WL.v (Val.eql (tm rfl) Ev.const) rfl ?_
    refine WL.norm 166 [(1, _), (4, _), (24, _)] [some ⟨_, _, [[_, _, _, _, _, _, _, _, _]]⟩, some ⟨_, _, [[_, _, _]]⟩, some ⟨_, _, [[_, _, _]]⟩] rfl ⟨rfl, rfl, rfl, trivial⟩ rfl rfl ?_
    refine wn ?_
    refine W.condP rfl (fun hc9 => ?_) (fun hc9 => ?_)
    · try simp only [td] at hc9
      refine W.seq ?_
      refine W.drawE (fun k => ([([], []), ([], []), ([], []), ([], []), ([], []), ([], []), ([], []), ([], []), ([], []), ([], []), ([1], [1]), ([], [])] : List (List Nat × List Nat)).getD k ([], [])) rfl (by kernel_rfl) (bl rfl) ?_
      refine LexE.val rfl rfl rfl (fun h' ha => Val.move (tm rfl)) ?_
      refine LexE.val rfl rfl rfl (fun h' ha => Val.ix (enc := Srt.cells) Tryd.underlying85 zs33 (tm rfl) Ev.const (by omega) (gA_at (by omega) (by omega))) ?_
      refine LexE.val rfl rfl rfl (fun h' ha => Val.fa (off := 1) Tryd.underlying33 rfl rfl zs3 (tm rfl)) ?_
      refine LexE.val rfl rfl rfl (fun h' ha => Val.load Tryd.underlying3 rfl (tm rfl)) ?_
      refine LexE.val rfl rfl rfl (fun h' ha => Val.move (tm rfl)) ?_
      refine LexE.val rfl rfl rfl (fun h' ha => Val.ix (enc := Srt.cells) Tryd.underlying85 zs33 (tm rfl) Ev.const (by omega) (gA_at (by omega) (by omega))) ?_
      refine LexE.val rfl rfl rfl (fun h' ha => Val.fa (off := 1) Tryd.underlying33 rfl rfl zs3 (tm rfl)) ?_
      refine LexE.val rfl rfl rfl (fun h' ha => Val.load Tryd.underlying3 rfl (tm rfl)) ?_
      refine LexE.val rfl rfl rfl (fun h' ha => Val.max (tm rfl) (tm rfl)) ?_
      refine LexE.call ca44 (fun h' ha => (evc (tm rfl) evn)) (lo1 lo0) rfl (c_Strings W0 N _) rfl ?_
      refine LexE.stp (U := [(1, _)]) rfl rfl rfl rfl (fun h => by first | rfl | cases h) (fun h' ha m' => Stp.st (tm rfl) (tm rfl) zs33 rfl rfl ((ha.at_ 1 (by decide)).trans rfl) rfl rfl rfl rfl rfl) ?_
      refine LexE.val rfl rfl rfl (fun h' ha => Val.assign Ev.const) ?_
      refine LexE.nil (nm ?_)
      refine W.norm 166 [(4, _), (5, _)] [some ⟨_, _, [[_, _, _, _, _, _, _, _, _]]⟩, some ⟨_, _, [[_, _, _]]⟩, some ⟨_, _, [[_, _, _]]⟩] rfl ⟨rfl, rfl, trivial⟩ rfl rfl ?_
      refine W.ret (rt1 (rt2 (rt1 ?_)))
      exact Ret.of (.inr rfl) rfl (resCell2 rfl Tryd.underlying33 rfl zs33 rfl rfl rfl rfl rfl rfl rfl) (Fewer.nil _) (.inr trivial) (fun id h => absurd h (Nat.not_lt_zero _)) (.same rfl) ⟨rfl, ⟨_, _, _⟩, _, rfl, fun h1 => by first | rfl | omega⟩
    try simp only [td] at hc9
    refine W.skip (nm ?_)
    refine sr ?_
    refine mv rfl rfl ?_
    refine WL.v (Val.ix (enc := Srt.cells) Tryd.underlying85 zs33 (tm rfl) Ev.const (by omega) (gA_at (by omega) (by omega))) rfl ?_
    refine WL.v (Val.loadAgg Tryd.underlying33 rfl zs33 (tm rfl) (bl rfl)) rfl ?_
    refine WL.stp rfl (Stp.st (tm rfl) (tm rfl) zs33 rfl rfl rfl rfl rfl rfl rfl rfl) ?_
    refine WL.v (Val.assign Ev.const) rfl ?_
    refine WL.norm 166 [(4, _), (5, _)] [some ⟨_, _, [[_, _, _, _, _, _, _, _, _]]⟩, some ⟨_, _, [[_, _, _]]⟩, some ⟨_, _, [[_, _, _]]⟩] rfl ⟨rfl, rfl, trivial⟩ rfl rfl ?_
    refine wn ?_
    refine W.ret (rt2 (rt1 ?_))
    exact Ret.of (.inr rfl) rfl (resCell2 rfl Tryd.underlying33 rfl zs33 rfl rfl rfl rfl rfl rfl rfl) (Fewer.nil _) (.inr trivial) (fun id h => absurd h (Nat.not_lt_zero _)) (.same rfl) ⟨rfl, ⟨_, _, _⟩, _, rfl, fun h1 => by first | rfl | omega⟩
  try simp only [td] at hc8
  refine sr ?_
  refine WL.v (Val.eql (tm rfl) Ev.const) rfl ?_
  refine asg rfl rfl ?_
  refine WL.norm 166 [(1, _), (2, _), (4, _), (6, _), (11, _), (38, _)] [some ⟨_, _, [[_, _, _, _, _, _, _, _, _]]⟩, some ⟨_, _, [[_, _, _]]⟩, some ⟨_, _, [[_, _, _]]⟩] rfl ⟨rfl, rfl, rfl, rfl, rfl, rfl, trivial⟩ rfl rfl ?_
  refine wn ?_
  refine W.condP rfl (fun hc12 => ?_) (fun hc12 => ?_)
  · try simp only [td] at hc12
    refine W.seq ?_
    refine W.drawE (fun k => ([([], []), ([2], []), ([], []), ([], []), ([], []), ([], []), ([], []), ([], []), ([], []), ([2], []), ([], []), ([], []), ([], []), ([], []), ([], []), ([], []), ([1], [1]), ([], [])] : List (List Nat × List Nat)).getD k ([], [])) rfl (by kernel_rfl) (bl rfl) ?_
    refine LexE.val rfl rfl rfl (fun h' ha => Val.fal (off := 1) Tryd.underlying33 rfl rfl zs3 (tm rfl)) ?_
    refine LexE.val rfl rfl rfl (fun h' ha => Val.loadLive Tryd.underlying3 rfl (tm rfl) ((ha.at_ 2 (by decide)).trans rfl) rfl rfl rfl rfl) ?_
    refine LexE.val rfl rfl rfl (fun h' ha => Val.move (tm rfl)) ?_
    refine LexE.val rfl rfl rfl (fun h' ha => Val.ix (enc := Srt.cells) Tryd.underlying85 zs33 (tm rfl) Ev.const (by omega) (gA_at (by omega) (by omega))) ?_
    refine LexE.val rfl rfl rfl (fun h' ha => Val.fa (off := 1) Tryd.underlying33 rfl rfl zs3 (tm rfl)) ?_
    refine LexE.val rfl rfl rfl (fun h' ha => Val.load Tryd.underlying3 rfl (tm rfl)) ?_
    refine LexE.val rfl rfl rfl (fun h' ha => Val.add (tm rfl) (tm rfl) rfl) ?_
    refine LexE.call ca43 (fun h' ha => (evc (tm rfl) evn)) (lo1 lo0) rfl (c_BV W0 N _) rfl ?_
    refine LexE.val rfl rfl rfl (fun h' ha => Val.fal (off := 1) Tryd.underlying33 rfl rfl zs3 (tm rfl)) ?_
    refine LexE.val rfl rfl rfl (fun h' ha => Val.loadLive Tryd.underlying3 rfl (tm rfl) ((ha.at_ 2 (by decide)).trans rfl) rfl rfl rfl rfl) ?_
    refine LexE.val rfl rfl rfl (fun h' ha => Val.move (tm rfl)) ?_
    refine LexE.val rfl rfl rfl (fun h' ha => Val.ix (enc := Srt.cells) Tryd.underlying85 zs33 (tm rfl) Ev.const (by omega) (gA_at (by omega) (by omega))) ?_
    refine LexE.val rfl rfl rfl (fun h' ha => Val.fa (off := 1) Tryd.underlying33 rfl rfl zs3 (tm rfl)) ?_
    refine LexE.val rfl rfl rfl (fun h' ha => Val.load Tryd.underlying3 rfl (tm rfl)) ?_
    refine LexE.val rfl rfl rfl (fun h' ha => Val.add (tm rfl) (tm rfl) rfl) ?_
    refine LexE.val rfl rfl rfl (fun h' ha => Val.leq (tm rfl) Ev.const) ?_
    refine LexE.stp (U := [(1, _)]) rfl rfl rfl rfl (fun h => by first | rfl | cases h) (fun h' ha m' => Stp.st (tm rfl) (tm rfl) zs33 rfl rfl ((ha.at_ 1 (by decide)).trans rfl) rfl rfl rfl rfl rfl) ?_
    refine LexE.val rfl rfl rfl (fun h' ha => Val.assign (tm rfl)) ?_
    refine LexE.nil (nm ?_)
    refine W.norm 166 [(4, _), (5, _)] [some ⟨_, _, [[_, _, _, _, _, _, _, _, _]]⟩, some ⟨_, _, [[_, _, _]]⟩, some ⟨_, _, [[_, _, _]]⟩] rfl ⟨rfl, rfl, trivial⟩ rfl rfl ?_
    refine W.ret (rt2 (rt1 ?_))
    exact Ret.of (.inr rfl) rfl (resCell2 rfl Tryd.underlying33 rfl zs33 rfl rfl rfl rfl rfl rfl rfl) (Fewer.nil _) (.inr trivial) (fun id h => absurd h (Nat.not_lt_zero _)) (.same rfl) ⟨rfl, ⟨_, _, _⟩, _, rfl, fun h1 => by first | rfl | omega⟩
  try simp only [td] at hc12
  refine sr ?_
  refine WL.v (Val.eql (tm rfl) Ev.const) rfl ?_
  refine asg rfl rfl ?_
  refine WL.norm 166 [(1, _), (2, _), (4, _), (6, _), (11, _), (56, _)] [some ⟨_, _, [[_, _, _, _, _, _, _, _, _]]⟩, some ⟨_, _, [[_, _, _]]⟩, some ⟨_, _, [[_, _, _]]⟩] rfl ⟨rfl, rfl, rfl, rfl, rfl, rfl, trivial⟩ rfl rfl ?_
  refine wn ?_
  refine W.condP rfl (fun hc14 => ?_) (fun hc14 => ?_)
  · try simp only [td] at hc14
    refine W.seq ?_
    refine W.drawE (fun k => ([([], []), ([0], []), ([], []), ([0], []), ([], []), ([], []), ([], []), ([], []), ([0], []), ([], []), ([], []), ([], []), ([0], []), ([], []), ([0], []), ([], []), ([], []), ([], []), ([], []), ([0], []), ([], []), ([2], []), ([], []), ([], []), ([1], [1]), ([], [])] : List (List Nat × List Nat)).getD k ([], [])) rfl (by kernel_rfl) (bl rfl) ?_
    refine LexE.val rfl rfl rfl (fun h' ha => Val.fal (off := 2) Tryd.underlying35 rfl rfl zs3 (tm rfl)) ?_
    refine LexE.val rfl rfl rfl (fun h' ha => Val.loadLive Tryd.underlying3 rfl (tm rfl) ((ha.at_ 0 (by decide)).trans rfl) rfl rfl rfl rfl) ?_
    refine LexE.val rfl rfl rfl (fun h' ha => Val.fal (off := 3) Tryd.underlying35 rfl rfl zs3 (tm rfl)) ?_
    refine LexE.val rfl rfl rfl (fun h' ha => Val.loadLive Tryd.underlying3 rfl (tm rfl) ((ha.at_ 0 (by decide)).trans rfl) rfl rfl rfl rfl) ?_
    refine LexE.val rfl rfl rfl (fun h' ha => Val.sub (tm rfl) (tm rfl) rfl) ?_
    refine LexE.val rfl rfl rfl (fun h' ha => Val.add (tm rfl) Ev.const rfl) ?_
    refine LexE.call ca43 (fun h' ha => (evc (tm rfl) evn)) (lo1 lo0) rfl (c_BV W0 N _) rfl ?_
    refine LexE.val rfl rfl rfl (fun h' ha => Val.fal (off := 3) Tryd.underlying35 rfl rfl zs3 (tm rfl)) ?_
    refine LexE.val rfl rfl rfl (fun h' ha => Val.loadLive Tryd.underlying3 rfl (tm rfl) ((ha.at_ 0 (by decide)).trans rfl) rfl rfl rfl rfl) ?_
    refine LexE.val rfl rfl rfl (fun h' ha => Val.geq (tm rfl) Ev.const) ?_
    refine LexE.val rfl rfl rfl (fun h' ha => Val.move (tm rfl)) ?_
    refine LexE.gval rfl (fun h' => (Grd.t rfl rfl rfl)) rfl (fun hG h' ha => Val.fal (off := 3) Tryd.underlying35 rfl rfl zs3 (tm rfl)) ?_
    refine LexE.gval rfl (fun h' => (Grd.t rfl rfl rfl)) rfl (fun hG h' ha => Val.loadLive Tryd.underlying3 rfl (Ev.opt rfl hG) ((ha.at_ 0 (by decide)).trans rfl) rfl rfl rfl rfl) ?_
    refine LexE.gval rfl (fun h' => (Grd.t rfl rfl rfl)) rfl (fun hG h' ha => Val.fal (off := 2) Tryd.underlying35 rfl rfl zs3 (tm rfl)) ?_
    refine LexE.gval rfl (fun h' => (Grd.t rfl rfl rfl)) rfl (fun hG h' ha => Val.loadLive Tryd.underlying3 rfl (Ev.opt rfl hG) ((ha.at_ 0 (by decide)).trans rfl) rfl rfl rfl rfl) ?_
    refine LexE.gval rfl (fun h' => (Grd.t rfl rfl rfl)) rfl (fun hG h' ha => Val.leq (Ev.opt rfl hG) (Ev.opt rfl hG)) ?_
    refine LexE.val rfl rfl rfl (fun h' ha => Val.and (tm rfl) (fun hb => Ev.opt rfl hb)) ?_
    refine LexE.val rfl rfl rfl (fun h' ha => Val.move (tm rfl)) ?_
    refine LexE.gval rfl (fun h' => (Grd.t rfl rfl rfl)) rfl (fun hG h' ha => Val.fal (off := 2) Tryd.underlying35 rfl rfl zs3 (tm rfl)) ?_
    refine LexE.gval rfl (fun h' => (Grd.t rfl rfl rfl)) rfl (fun hG h' ha => Val.loadLive Tryd.underlying3 rfl (Ev.opt rfl hG) ((ha.at_ 0 (by decide)).trans rfl) rfl rfl rfl rfl) ?_
    refine LexE.gval rfl (fun h' => (Grd.t rfl rfl rfl)) rfl (fun hG h' ha => Val.fal (off := 1) Tryd.underlying33 rfl rfl zs3 (tm rfl)) ?_
    refine LexE.gval rfl (fun h' => (Grd.t rfl rfl rfl)) rfl (fun hG h' ha => Val.loadLive Tryd.underlying3 rfl (Ev.opt rfl hG) ((ha.at_ 2 (by decide)).trans rfl) rfl rfl rfl rfl) ?_
    refine LexE.gval rfl (fun h' => (Grd.t rfl rfl rfl)) rfl (fun hG h' ha => Val.lss (Ev.opt rfl hG) (Ev.opt rfl hG)) ?_
    refine LexE.val rfl rfl rfl (fun h' ha => Val.and (tm rfl) (fun hb => Ev.opt rfl hb)) ?_
    refine LexE.stp (U := [(1, _)]) rfl rfl rfl rfl (fun h => by first | rfl | cases h) (fun h' ha m' => Stp.st (tm rfl) (tm rfl) zs33 rfl rfl ((ha.at_ 1 (by decide)).trans rfl) rfl rfl rfl rfl rfl) ?_
    refine LexE.val rfl rfl rfl (fun h' ha => Val.assign (tm rfl)) ?_
    refine LexE.nil (nm ?_)
    refine W.norm 166 [(4, _), (5, _)] [some ⟨_, _, [[_, _, _, _, _, _, _, _, _]]⟩, some ⟨_, _, [[_, _, _]]⟩, some ⟨_, _, [[_, _, _]]⟩] rfl ⟨rfl, rfl, trivial⟩ rfl rfl ?_
    refine W.ret (rt2 (rt1 ?_))
    exact Ret.of (.inr rfl) rfl (resCell2 rfl Tryd.underlying33 rfl zs33 rfl rfl rfl rfl rfl rfl rfl) (Fewer.nil _) (.inr trivial) (fun id h => absurd h (Nat.not_lt_zero _)) (.same rfl) ⟨rfl, ⟨_, _, _⟩, _, rfl, fun h1 => by first | rfl | omega⟩
  try simp only [td] at hc14
  refine W.seq ?_
  refine sr ?_
  refine WL.v (Val.eql (tm rfl) Ev.const) rfl ?_
  refine asg rfl rfl ?_
  refine WL.norm 166 [(1, _), (2, _), (4, _), (6, _), (11, _), (82, _)] [some ⟨_, _, [[_, _, _, _, _, _, _, _, _]]⟩, some ⟨_, _, [[_, _, _]]⟩, some ⟨_, _, [[_, _, _]]⟩] rfl ⟨rfl, rfl, rfl, rfl, rfl, rfl, trivial⟩ rfl rfl ?_
  refine wn ?_
  refine W.condP rfl (fun hc16 => ?_) (fun hc16 => ?_)
  · try simp only [td] at hc16
    refine W.skip (nm ?_)
    refine W.cT rfl ?_
    refine W.seq ?_
    refine W.drawE (fun k => ([([], []), ([2], []), ([], []), ([0], []), ([], []), ([], []), ([], []), ([0], []), ([], []), ([], []), ([], []), ([0], []), ([], []), ([2], []), ([], []), ([], []), ([], []), ([1], [1]), ([], [])] : List (List Nat × List Nat)).getD k ([], [])) rfl (by kernel_rfl) (bl rfl) ?_
    refine LexE.val rfl rfl rfl (fun h' ha => Val.fal (off := 1) Tryd.underlying33 rfl rfl zs3 (tm rfl)) ?_
    refine LexE.val rfl rfl rfl (fun h' ha => Val.loadLive Tryd.underlying3 rfl (tm rfl) ((ha.at_ 2 (by decide)).trans rfl) rfl rfl rfl rfl) ?_
    refine LexE.val rfl rfl rfl (fun h' ha => Val.fal (off := 2) Tryd.underlying35 rfl rfl zs3 (tm rfl)) ?_
    refine LexE.val rfl rfl rfl (fun h' ha => Val.loadLive Tryd.underlying3 rfl (tm rfl) ((ha.at_ 0 (by decide)).trans rfl) rfl rfl rfl rfl) ?_
    refine LexE.val rfl rfl rfl (fun h' ha => Val.add (tm rfl) (tm rfl) rfl) ?_
    refine LexE.call ca43 (fun h' ha => (evc (tm rfl) evn)) (lo1 lo0) rfl (c_BV W0 N _) rfl ?_
    refine LexE.val rfl rfl rfl (fun h' ha => Val.fal (off := 2) Tryd.underlying35 rfl rfl zs3 (tm rfl)) ?_
    refine LexE.val rfl rfl rfl (fun h' ha => Val.loadLive Tryd.underlying3 rfl (tm rfl) ((ha.at_ 0 (by decide)).trans rfl) rfl rfl rfl rfl) ?_
    refine LexE.val rfl rfl rfl (fun h' ha => Val.geq (tm rfl) Ev.const) ?_
    refine LexE.val rfl rfl rfl (fun h' ha => Val.move (tm rfl)) ?_
    refine LexE.gval rfl (fun h' => (Grd.t rfl rfl rfl)) rfl (fun hG h' ha => Val.fal (off := 2) Tryd.underlying35 rfl rfl zs3 (tm rfl)) ?_
    refine LexE.gval rfl (fun h' => (Grd.t rfl rfl rfl)) rfl (fun hG h' ha => Val.loadLive Tryd.underlying3 rfl (Ev.opt rfl hG) ((ha.at_ 0 (by decide)).trans rfl) rfl rfl rfl rfl) ?_
    refine LexE.gval rfl (fun h' => (Grd.t rfl rfl rfl)) rfl (fun hG h' ha => Val.fal (off := 1) Tryd.underlying33 rfl rfl zs3 (tm rfl)) ?_
    refine LexE.gval rfl (fun h' => (Grd.t rfl rfl rfl)) rfl (fun hG h' ha => Val.loadLive Tryd.underlying3 rfl (Ev.opt rfl hG) ((ha.at_ 2 (by decide)).trans rfl) rfl rfl rfl rfl) ?_
    refine LexE.gval rfl (fun h' => (Grd.t rfl rfl rfl)) rfl (fun hG h' ha => Val.sub Ev.const (Ev.opt rfl hG) rfl) ?_
    refine LexE.gval rfl (fun h' => (Grd.t rfl rfl rfl)) rfl (fun hG h' ha => Val.leq (Ev.opt rfl hG) (Ev.opt rfl hG)) ?_
    refine LexE.val rfl rfl rfl (fun h' ha => Val.and (tm rfl) (fun hb => Ev.opt rfl hb)) ?_
    refine LexE.stp (U := [(1, _)]) rfl rfl rfl rfl (fun h => by first | rfl | cases h) (fun h' ha m' => Stp.st (tm rfl) (tm rfl) zs33 rfl rfl ((ha.at_ 1 (by decide)).trans rfl) rfl rfl rfl rfl rfl) ?_
    refine LexE.val rfl rfl rfl (fun h' ha => Val.assign (tm rfl)) ?_
    refine LexE.nil (nm ?_)
    refine W.norm 166 [(4, _), (5, _)] [some ⟨_, _, [[_, _, _, _, _, _, _, _, _]]⟩, some ⟨_, _, [[_, _, _]]⟩, some ⟨_, _, [[_, _, _]]⟩] rfl ⟨rfl, rfl, trivial⟩ rfl rfl ?_
    refine W.ret (rt2 (rt1 ?_))
    exact Ret.of (.inr rfl) rfl (resCell2 rfl Tryd.underlying33 rfl zs33 rfl rfl rfl rfl rfl rfl rfl) (Fewer.nil _) (.inr trivial) (fun id h => absurd h (Nat.not_lt_zero _)) (.same rfl) ⟨rfl, ⟨_, _, _⟩, _, rfl, fun h1 => by first | rfl | omega⟩
  try simp only [td] at hc16
  refine W.region ?_
  refine WL.v (Val.eql (tm rfl) Ev.const) rfl ?_
  refine asg rfl rfl ?_
  refine WL.norm 166 [(1, _), (2, _), (4, _), (6, _), (11, _), (82, _)] [some ⟨_, _, [[_, _, _, _, _, _, _, _, _]]⟩, some ⟨_, _, [[_, _, _]]⟩, some ⟨_, _, [[_, _, _]]⟩] rfl ⟨rfl, rfl, rfl, rfl, rfl, rfl, trivial⟩ rfl rfl ?_
  refine wn ?_
  refine W.condP rfl (fun hc17 => ?_) (fun hc17 => ?_)
  · try simp only [td] at hc17
    refine W.seq ?_
    refine W.drawE (fun k => ([([], []), ([2], []), ([], []), ([0], []), ([], []), ([], []), ([], []), ([0], []), ([], []), ([], []), ([], []), ([0], []), ([], []), ([2], []), ([], []), ([], []), ([], []), ([1], [1]), ([], [])] : List (List Nat × List Nat)).getD k ([], [])) rfl (by kernel_rfl) (bl rfl) ?_
    refine LexE.val rfl rfl rfl (fun h' ha => Val.fal (off := 1) Tryd.underlying33 rfl rfl zs3 (tm rfl)) ?_
    refine LexE.val rfl rfl rfl (fun h' ha => Val.loadLive Tryd.underlying3 rfl (tm rfl) ((ha.at_ 2 (by decide)).trans rfl) rfl rfl rfl rfl) ?_
    refine LexE.val rfl rfl rfl (fun h' ha => Val.fal (off := 2) Tryd.underlying35 rfl rfl zs3 (tm rfl)) ?_
    refine LexE.val rfl rfl rfl (fun h' ha => Val.loadLive Tryd.underlying3 rfl (tm rfl) ((ha.at_ 0 (by decide)).trans rfl) rfl rfl rfl rfl) ?_
    refine LexE.val rfl rfl rfl (fun h' ha => Val.add (tm rfl) (tm rfl) rfl) ?_
    refine LexE.call ca43 (fun h' ha => (evc (tm rfl) evn)) (lo1 lo0) rfl (c_BV W0 N _) rfl ?_
    refine LexE.val rfl rfl rfl (fun h' ha => Val.fal (off := 2) Tryd.underlying35 rfl rfl zs3 (tm rfl)) ?_
    refine LexE.val rfl rfl rfl (fun h' ha => Val.loadLive Tryd.underlying3 rfl (tm rfl) ((ha.at_ 0 (by decide)).trans rfl) rfl rfl rfl rfl) ?_
    refine LexE.val rfl rfl rfl (fun h' ha => Val.geq (tm rfl) Ev.const) ?_
    refine LexE.val rfl rfl rfl (fun h' ha => Val.move (tm rfl)) ?_
    refine LexE.gval rfl (fun h' => (Grd.t rfl rfl rfl)) rfl (fun hG h' ha => Val.fal (off := 2) Tryd.underlying35 rfl rfl zs3 (tm rfl)) ?_
    refine LexE.gval rfl (fun h' => (Grd.t rfl rfl rfl)) rfl (fun hG h' ha => Val.loadLive Tryd.underlying3 rfl (Ev.opt rfl hG) ((ha.at_ 0 (by decide)).trans rfl) rfl rfl rfl rfl) ?_
    refine LexE.gval rfl (fun h' => (Grd.t rfl rfl rfl)) rfl (fun hG h' ha => Val.fal (off := 1) Tryd.underlying33 rfl rfl zs3 (tm rfl)) ?_
    refine LexE.gval rfl (fun h' => (Grd.t rfl rfl rfl)) rfl (fun hG h' ha => Val.loadLive Tryd.underlying3 rfl (Ev.opt rfl hG) ((ha.at_ 2 (by decide)).trans rfl) rfl rfl rfl rfl) ?_
    refine LexE.gval rfl (fun h' => (Grd.t rfl rfl rfl)) rfl (fun hG h' ha => Val.sub Ev.const (Ev.opt rfl hG) rfl) ?_
    refine LexE.gval rfl (fun h' => (Grd.t rfl rfl rfl)) rfl (fun hG h' ha => Val.leq (Ev.opt rfl hG) (Ev.opt rfl hG)) ?_
    refine LexE.val rfl rfl rfl (fun h' ha => Val.and (tm rfl) (fun hb => Ev.opt rfl hb)) ?_
    refine LexE.stp (U := [(1, _)]) rfl rfl rfl rfl (fun h => by first | rfl | cases h) (fun h' ha m' => Stp.st (tm rfl) (tm rfl) zs33 rfl rfl ((ha.at_ 1 (by decide)).trans rfl) rfl rfl rfl rfl rfl) ?_
    refine LexE.val rfl rfl rfl (fun h' ha => Val.assign (tm rfl)) ?_
    refine LexE.nil (nm ?_)
    refine W.norm 166 [(4, _), (5, _)] [some ⟨_, _, [[_, _, _, _, _, _, _, _, _]]⟩, some ⟨_, _, [[_, _, _]]⟩, some ⟨_, _, [[_, _, _]]⟩] rfl ⟨rfl, rfl, trivial⟩ rfl rfl ?_
    refine W.ret (rt2 (rt1 ?_))
    exact Ret.of (.inr rfl) rfl (resCell2 rfl Tryd.underlying33 rfl zs33 rfl rfl rfl rfl rfl rfl rfl) (Fewer.nil _) (.inr trivial) (fun id h => absurd h (Nat.not_lt_zero _)) (.same rfl) ⟨rfl, ⟨_, _, _⟩, _, rfl, fun h1 => by first | rfl | omega⟩
  try simp only [td] at hc17
  refine sr ?_
  refine WL.v (Val.eql (tm rfl) Ev.const) rfl ?_
  refine asg rfl rfl ?_
  refine WL.norm 166 [(1, _), (2, _), (4, _), (6, _), (11, _), (102, _)] [some ⟨_, _, [[_, _, _, _, _, _, _, _, _]]⟩, some ⟨_, _, [[_, _, _]]⟩, some ⟨_, _, [[_, _, _]]⟩] rfl ⟨rfl, rfl, rfl, rfl, rfl, rfl, trivial⟩ rfl rfl ?_
  refine wn ?_
  refine W.condP rfl (fun hc19 => ?_) (fun hc19 => ?_)
  · try simp only [td] at hc19
    refine sr ?_
    refine WL.v (Val.loadLiveAgg Tryd.underlying33 rfl zs33 (tm rfl) rfl rfl rfl rfl (bl rfl)) rfl ?_
    refine WL.callV ca59 (evc (tm rfl) evn) (lo2 rfl lo0) rfl (c_Element W0 N (gA ks 0)) ?_
    rintro _ rfl
    refine WL.stp rfl (Stp.st (tm rfl) (tm rfl) zs33 rfl rfl rfl rfl rfl rfl rfl rfl) ?_
    refine WL.v (Val.assign Ev.const) rfl ?_
    refine WL.norm 166 [(4, _), (5, _)] [some ⟨_, _, [[_, _, _, _, _, _, _, _, _]]⟩, some ⟨_, _, [[_, _, _]]⟩, some ⟨_, _, [[_, _, _]]⟩] rfl ⟨rfl, rfl, trivial⟩ rfl rfl ?_
    refine wn ?_
    refine W.ret (rt2 (rt1 ?_))
    exact Ret.of (.inr rfl) rfl (resCell2 rfl Tryd.underlying33 rfl zs33 rfl rfl rfl rfl rfl rfl rfl) (Fewer.nil _) (.inr trivial) (fun id h => absurd h (Nat.not_lt_zero _)) (.same rfl) ⟨rfl, ⟨_, _, _⟩, _, rfl, fun h1 => by first | rfl | omega⟩
  try simp only [td] at hc19
  refine sr ?_
  refine WL.v (Val.eql (tm rfl) Ev.const) rfl ?_
  refine asg rfl rfl ?_
  refine WL.norm 166 [(1, _), (2, _), (4, _), (6, _), (11, _), (106, _)] [some ⟨_, _, [[_, _, _, _, _, _, _, _, _]]⟩, some ⟨_, _, [[_, _, _]]⟩, some ⟨_, _, [[_, _, _]]⟩] rfl ⟨rfl, rfl, rfl, rfl, rfl, rfl, trivial⟩ rfl rfl ?_
  refine wn ?_
  refine W.condP rfl (fun hc21 => ?_) (fun hc21 => ?_)
  · try simp only [td] at hc21
    refine sr ?_
    refine WL.v (Val.fal (off := 2) Tryd.underlying33 rfl rfl zs3 (tm rfl)) rfl ?_
    refine WL.v (Val.loadLive Tryd.underlying3 rfl (tm rfl) rfl rfl rfl rfl rfl) rfl ?_
    refine WL.callV ca43 (evc (tm rfl) evn) (lo1 lo0) rfl (c_BV W0 N _) ?_
    rintro _ rfl
    refine WL.stp rfl (Stp.st (tm rfl) (tm rfl) zs33 rfl rfl rfl rfl rfl rfl rfl rfl) ?_
    refine WL.v (Val.assign Ev.const) rfl ?_
    refine WL.norm 166 [(4, _), (5, _)] [some ⟨_, _, [[_, _, _, _, _, _, _, _, _]]⟩, some ⟨_, _, [[_, _, _]]⟩, some ⟨_, _, [[_, _, _]]⟩] rfl ⟨rfl, rfl, trivial⟩ rfl rfl ?_
    refine wn ?_
    refine W.ret (rt2 (rt1 ?_))
    exact Ret.of (.inr rfl) rfl (resCell2 rfl Tryd.underlying33 rfl zs33 rfl rfl rfl rfl rfl rfl rfl) (Fewer.nil _) (.inr trivial) (fun id h => absurd h (Nat.not_lt_zero _)) (.same rfl) ⟨rfl, ⟨_, _, _⟩, _, rfl, fun h1 => by first | rfl | omega⟩
  try simp only [td] at hc21
  refine W.seq ?_
  refine sr ?_
  refine WL.v (Val.eql (tm rfl) Ev.const) rfl ?_
  refine asg rfl rfl ?_
  refine WL.norm 166 [(1, _), (2, _), (4, _), (6, _), (11, _), (111, _)] [some ⟨_, _, [[_, _, _, _, _, _, _, _, _]]⟩, some ⟨_, _, [[_, _, _]]⟩, some ⟨_, _, [[_, _, _]]⟩] rfl ⟨rfl, rfl, rfl, rfl, rfl, rfl, trivial⟩ rfl rfl ?_
  refine wn ?_
  refine W.condP rfl (fun hc23 => ?_) (fun hc23 => ?_)
  · try simp only [td] at hc23
    refine W.skip (nm ?_)
    refine W.cT rfl ?_
    refine sr ?_
    refine WL.callV ca43 (evc Ev.const evn) (lo1 lo0) rfl (c_BV W0 N _) ?_
    rintro _ rfl
    refine WL.stp rfl (Stp.st (tm rfl) (tm rfl) zs33 rfl rfl rfl rfl rfl rfl rfl rfl) ?_
    refine WL.v (Val.assign Ev.const) rfl ?_
    refine WL.norm 166 [(4, _), (5, _)] [some ⟨_, _, [[_, _, _, _, _, _, _, _, _]]⟩, some ⟨_, _, [[_, _, _]]⟩, some ⟨_, _, [[_, _, _]]⟩] rfl ⟨rfl, rfl, trivial⟩ rfl rfl ?_
    refine wn ?_
    refine W.ret (rt2 (rt1 ?_))
    exact Ret.of (.inr rfl) rfl (resCell2 rfl Tryd.underlying33 rfl zs33 rfl rfl rfl rfl rfl rfl rfl) (Fewer.nil _) (.inr trivial) (fun id h => absurd h (Nat.not_lt_zero _)) (.same rfl) ⟨rfl, ⟨_, _, _⟩, _, rfl, fun h1 => by first | rfl | omega⟩
  try simp only [td] at hc23
  refine W.region ?_
  refine WL.v (Val.eql (tm rfl) Ev.const) rfl ?_
  refine asg rfl rfl ?_
  refine WL.norm 166 [(1, _), (2, _), (4, _), (6, _), (11, _), (111, _)] [some ⟨_, _, [[_, _, _, _, _, _, _, _, _]]⟩, some ⟨_, _, [[_, _, _]]⟩, some ⟨_, _, [[_, _, _]]⟩] rfl ⟨rfl, rfl, rfl, rfl, rfl, rfl, trivial⟩ rfl rfl ?_
  refine wn ?_
  refine W.condP rfl (fun hc24 => ?_) (fun hc24 => ?_)
  · try simp only [td] at hc24
    refine sr ?_
    refine WL.callV ca43 (evc Ev.const evn) (lo1 lo0) rfl (c_BV W0 N _) ?_
    rintro _ rfl
    refine WL.stp rfl (Stp.st (tm rfl) (tm rfl) zs33 rfl rfl rfl rfl rfl rfl rfl rfl) ?_
    refine WL.v (Val.assign Ev.const) rfl ?_
    refine WL.norm 166 [(4, _), (5, _)] [some ⟨_, _, [[_, _, _, _, _, _, _, _, _]]⟩, some ⟨_, _, [[_, _, _]]⟩, some ⟨_, _, [[_, _, _]]⟩] rfl ⟨rfl, rfl, trivial⟩ rfl rfl ?_
    refine wn ?_
    refine W.ret (rt2 (rt1 ?_))
    exact Ret.of (.inr rfl) rfl (resCell2 rfl Tryd.underlying33 rfl zs33 rfl rfl rfl rfl rfl rfl rfl) (Fewer.nil _) (.inr trivial) (fun id h => absurd h (Nat.not_lt_zero _)) (.same rfl) ⟨rfl, ⟨_, _, _⟩, _, rfl, fun h1 => by first | rfl | omega⟩
  try simp only [td] at hc24
  refine sr ?_
  refine WL.v (Val.eql (tm rfl) Ev.const) rfl ?_
  refine asg rfl rfl ?_
  refine WL.norm 166 [(1, _), (2, _), (4, _), (6, _), (11, _), (115, _)] [some ⟨_, _, [[_, _, _, _, _, _, _, _, _]]⟩, some ⟨_, _, [[_, _, _]]⟩, some ⟨_, _, [[_, _, _]]⟩] rfl ⟨rfl, rfl, rfl, rfl, rfl, rfl, trivial⟩ rfl rfl ?_
  refine wn ?_
  refine W.condP rfl (fun hc26 => ?_) (fun hc26 => ?_)
  · try simp only [td] at hc26
    refine W.seq ?_
    refine W.drawE (fun k => ([([], []), ([], []), ([0], []), ([], []), ([], []), ([], []), ([0], []), ([], []), ([], []), ([1], [1]), ([], [])] : List (List Nat × List Nat)).getD k ([], [])) rfl (by kernel_rfl) (bl rfl) ?_
    refine LexE.call ca43 (fun h' ha => (evc Ev.const evn)) (lo1 lo0) rfl (c_BV W0 N _) rfl ?_
    refine LexE.val rfl rfl rfl (fun h' ha => Val.fal (off := 2) Tryd.underlying35 rfl rfl zs3 (tm rfl)) ?_
    refine LexE.val rfl rfl rfl (fun h' ha => Val.loadLive Tryd.underlying3 rfl (tm rfl) ((ha.at_ 0 (by decide)).trans rfl) rfl rfl rfl rfl) ?_
    refine LexE.val rfl rfl rfl (fun h' ha => Val.geq (tm rfl) Ev.const) ?_
    refine LexE.val rfl rfl rfl (fun h' ha => Val.move (tm rfl)) ?_
    refine LexE.gval rfl (fun h' => (Grd.t rfl rfl rfl)) rfl (fun hG h' ha => Val.fal (off := 2) Tryd.underlying35 rfl rfl zs3 (tm rfl)) ?_
    refine LexE.gval rfl (fun h' => (Grd.t rfl rfl rfl)) rfl (fun hG h' ha => Val.loadLive Tryd.underlying3 rfl (Ev.opt rfl hG) ((ha.at_ 0 (by decide)).trans rfl) rfl rfl rfl rfl) ?_
    refine LexE.gval rfl (fun h' => (Grd.t rfl rfl rfl)) rfl (fun hG h' ha => Val.leq (Ev.opt rfl hG) Ev.const) ?_
    refine LexE.val rfl rfl rfl (fun h' ha => Val.and (tm rfl) (fun hb => Ev.opt rfl hb)) ?_
    refine LexE.stp (U := [(1, _)]) rfl rfl rfl rfl (fun h => by first | rfl | cases h) (fun h' ha m' => Stp.st (tm rfl) (tm rfl) zs33 rfl rfl ((ha.at_ 1 (by decide)).trans rfl) rfl rfl rfl rfl rfl) ?_
    refine LexE.val rfl rfl rfl (fun h' ha => Val.assign (tm rfl)) ?_
    refine LexE.nil (nm ?_)
    refine W.norm 166 [(4, _), (5, _)] [some ⟨_, _, [[_, _, _, _, _, _, _, _, _]]⟩, some ⟨_, _, [[_, _, _]]⟩, some ⟨_, _, [[_, _, _]]⟩] rfl ⟨rfl, rfl, trivial⟩ rfl rfl ?_
    refine W.ret (rt2 (rt1 ?_))
    exact Ret.of (.inr rfl) rfl (resCell2 rfl Tryd.underlying33 rfl zs33 rfl rfl rfl rfl rfl rfl rfl) (Fewer.nil _) (.inr trivial) (fun id h => absurd h (Nat.not_lt_zero _)) (.same rfl) ⟨rfl, ⟨_, _, _⟩, _, rfl, fun h1 => by first | rfl | omega⟩
  try simp only [td] at hc26
  refine sr ?_
  refine WL.v (Val.eql (tm rfl) Ev.const) rfl ?_
  refine asg rfl rfl ?_
  refine WL.norm 166 [(1, _), (4, _), (6, _), (11, _), (126, _)] [some ⟨_, _, [[_, _, _, _, _, _, _, _, _]]⟩, some ⟨_, _, [[_, _, _]]⟩, some ⟨_, _, [[_, _, _]]⟩] rfl ⟨rfl, rfl, rfl, rfl, rfl, trivial⟩ rfl rfl ?_
  refine wn ?_
  refine W.condP rfl (fun hc28 => ?_) (fun hc28 => ?_)
  · try simp only [td] at hc28
    refine W.seq ?_
    refine W.drawE (fun k => ([([], []), ([2], []), ([], []), ([], []), ([], []), ([], []), ([], []), ([], []), ([], []), ([2], []), ([], []), ([], []), ([], []), ([], []), ([], []), ([], []), ([1], [1]), ([], [])] : List (List Nat × List Nat)).getD k ([], [])) rfl (by kernel_rfl) (bl rfl) ?_
    refine LexE.val rfl rfl rfl (fun h' ha => Val.fal (off := 1) Tryd.underlying33 rfl rfl zs3 (tm rfl)) ?_
    refine LexE.val rfl rfl rfl (fun h' ha => Val.loadLive Tryd.underlying3 rfl (tm rfl) ((ha.at_ 2 (by decide)).trans rfl) rfl rfl rfl rfl) ?_
    refine LexE.val rfl rfl rfl (fun h' ha => Val.move (tm rfl)) ?_
    refine LexE.val rfl rfl rfl (fun h' ha => Val.ix (enc := Srt.cells) Tryd.underlying85 zs33 (tm rfl) Ev.const (by omega) (gA_at (by omega) (by omega))) ?_
    refine LexE.val rfl rfl rfl (fun h' ha => Val.fa (off := 1) Tryd.underlying33 rfl rfl zs3 (tm rfl)) ?_
    refine LexE.val rfl rfl rfl (fun h' ha => Val.load Tryd.underlying3 rfl (tm rfl)) ?_
    refine LexE.val rfl rfl rfl (fun h' ha => Val.add (tm rfl) (tm rfl) rfl) ?_
    refine LexE.call ca44 (fun h' ha => (evc (tm rfl) evn)) (lo1 lo0) rfl (c_Strings W0 N _) rfl ?_
    refine LexE.val rfl rfl rfl (fun h' ha => Val.fal (off := 1) Tryd.underlying33 rfl rfl zs3 (tm rfl)) ?_
    refine LexE.val rfl rfl rfl (fun h' ha => Val.loadLive Tryd.underlying3 rfl (tm rfl) ((ha.at_ 2 (by decide)).trans rfl) rfl rfl rfl rfl) ?_
    refine LexE.val rfl rfl rfl (fun h' ha => Val.move (tm rfl)) ?_
    refine LexE.val rfl rfl rfl (fun h' ha => Val.ix (enc := Srt.cells) Tryd.underlying85 zs33 (tm rfl) Ev.const (by omega) (gA_at (by omega) (by omega))) ?_
    refine LexE.val rfl rfl rfl (fun h' ha => Val.fa (off := 1) Tryd.underlying33 rfl rfl zs3 (tm rfl)) ?_
    refine LexE.val rfl rfl rfl (fun h' ha => Val.load Tryd.underlying3 rfl (tm rfl)) ?_
    refine LexE.val rfl rfl rfl (fun h' ha => Val.add (tm rfl) (tm rfl) rfl) ?_
    refine LexE.val rfl rfl rfl (fun h' ha => Val.leq (tm rfl) Ev.const) ?_
    refine LexE.stp (U := [(1, _)]) rfl rfl rfl rfl (fun h => by first | rfl | cases h) (fun h' ha m' => Stp.st (tm rfl) (tm rfl) zs33 rfl rfl ((ha.at_ 1 (by decide)).trans rfl) rfl rfl rfl rfl rfl) ?_
    refine LexE.val rfl rfl rfl (fun h' ha => Val.assign (tm rfl)) ?_
    refine LexE.nil (nm ?_)
    refine W.norm 166 [(4, _), (5, _)] [some ⟨_, _, [[_, _, _, _, _, _, _, _, _]]⟩, some ⟨_, _, [[_, _, _]]⟩, some ⟨_, _, [[_, _, _]]⟩] rfl ⟨rfl, rfl, trivial⟩ rfl rfl ?_
    refine W.ret (rt2 (rt1 ?_))
    exact Ret.of (.inr rfl) rfl (resCell2 rfl Tryd.underlying33 rfl zs33 rfl rfl rfl rfl rfl rfl rfl) (Fewer.nil _) (.inr trivial) (fun id h => absurd h (Nat.not_lt_zero _)) (.same rfl) ⟨rfl, ⟨_, _, _⟩, _, rfl, fun h1 => by first | rfl | omega⟩
  try simp only [td] at hc28
  refine sr ?_
  refine WL.v (Val.eql (tm rfl) Ev.const) rfl ?_
  refine asg rfl rfl ?_
  refine WL.norm 166 [(1, _), (4, _), (6, _), (11, _), (144, _)] [some ⟨_, _, [[_, _, _, _, _, _, _, _, _]]⟩, some ⟨_, _, [[_, _, _]]⟩, some ⟨_, _, [[_, _, _]]⟩] rfl ⟨rfl, rfl, rfl, rfl, rfl, trivial⟩ rfl rfl ?_
  refine wn ?_
  refine W.condP rfl (fun hc30 => ?_) (fun hc30 => ?_)
  · try simp only [td] at hc30
    refine W.seq ?_
    refine W.drawE (fun k => ([([], []), ([2], []), ([], []), ([], []), ([], []), ([], []), ([], []), ([], []), ([], []), ([2], []), ([], []), ([], []), ([], []), ([], []), ([], []), ([], []), ([1], [1]), ([], [])] : List (List Nat × List Nat)).getD k ([], [])) rfl (by kernel_rfl) (bl rfl) ?_
    refine LexE.val rfl rfl rfl (fun h' ha => Val.fal (off := 1) Tryd.underlying33 rfl rfl zs3 (tm rfl)) ?_
    refine LexE.val rfl rfl rfl (fun h' ha => Val.loadLive Tryd.underlying3 rfl (tm rfl) ((ha.at_ 2 (by decide)).trans rfl) rfl rfl rfl rfl) ?_
    refine LexE.val rfl rfl rfl (fun h' ha => Val.move (tm rfl)) ?_
    refine LexE.val rfl rfl rfl (fun h' ha => Val.ix (enc := Srt.cells) Tryd.underlying85 zs33 (tm rfl) Ev.const (by omega) (gA_at (by omega) (by omega))) ?_
    refine LexE.val rfl rfl rfl (fun h' ha => Val.fa (off := 1) Tryd.underlying33 rfl rfl zs3 (tm rfl)) ?_
    refine LexE.val rfl rfl rfl (fun h' ha => Val.load Tryd.underlying3 rfl (tm rfl)) ?_
    refine LexE.val rfl rfl rfl (fun h' ha => Val.add (tm rfl) (tm rfl) rfl) ?_
    refine LexE.call ca44 (fun h' ha => (evc (tm rfl) evn)) (lo1 lo0) rfl (c_Strings W0 N _) rfl ?_
    refine LexE.val rfl rfl rfl (fun h' ha => Val.fal (off := 1) Tryd.underlying33 rfl rfl zs3 (tm rfl)) ?_
    refine LexE.val rfl rfl rfl (fun h' ha => Val.loadLive Tryd.underlying3 rfl (tm rfl) ((ha.at_ 2 (by decide)).trans rfl) rfl rfl rfl rfl) ?_
    refine LexE.val rfl rfl rfl (fun h' ha => Val.move (tm rfl)) ?_
    refine LexE.val rfl rfl rfl (fun h' ha => Val.ix (enc := Srt.cells) Tryd.underlying85 zs33 (tm rfl) Ev.const (by omega) (gA_at (by omega) (by omega))) ?_
    refine LexE.val rfl rfl rfl (fun h' ha => Val.fa (off := 1) Tryd.underlying33 rfl rfl zs3 (tm rfl)) ?_
    refine LexE.val rfl rfl rfl (fun h' ha => Val.load Tryd.underlying3 rfl (tm rfl)) ?_
    refine LexE.val rfl rfl rfl (fun h' ha => Val.add (tm rfl) (tm rfl) rfl) ?_
    refine LexE.val rfl rfl rfl (fun h' ha => Val.leq (tm rfl) Ev.const) ?_
    refine LexE.stp (U := [(1, _)]) rfl rfl rfl rfl (fun h => by first | rfl | cases h) (fun h' ha m' => Stp.st (tm rfl) (tm rfl) zs33 rfl rfl ((ha.at_ 1 (by decide)).trans rfl) rfl rfl rfl rfl rfl) ?_
    refine LexE.val rfl rfl rfl (fun h' ha => Val.assign (tm rfl)) ?_
    refine LexE.nil (nm ?_)
    refine W.norm 166 [(4, _), (5, _)] [some ⟨_, _, [[_, _, _, _, _, _, _, _, _]]⟩, some ⟨_, _, [[_, _, _]]⟩, some ⟨_, _, [[_, _, _]]⟩] rfl ⟨rfl, rfl, trivial⟩ rfl rfl ?_
    refine W.ret (rt2 (rt1 ?_))
    exact Ret.of (.inr rfl) rfl (resCell2 rfl Tryd.underlying33 rfl zs33 rfl rfl rfl rfl rfl rfl rfl) (Fewer.nil _) (.inr trivial) (fun id h => absurd h (Nat.not_lt_zero _)) (.same rfl) ⟨rfl, ⟨_, _, _⟩, _, rfl, fun h1 => by first | rfl | omega⟩
  try simp only [td] at hc30
  refine sr ?_
  refine WL.v (Val.eql (tm rfl) Ev.const) rfl ?_
  refine asg rfl rfl ?_
  refine WL.norm 166 [(4, _), (6, _), (162, _)] [some ⟨_, _, [[_, _, _, _, _, _, _, _, _]]⟩, some ⟨_, _, [[_, _, _]]⟩, some ⟨_, _, [[_, _, _]]⟩] rfl ⟨rfl, rfl, rfl, trivial⟩ rfl rfl ?_
  refine wn ?_
  refine W.condP rfl (fun hc32 => ?_) (fun hc32 => ?_)
  · try simp only [td] at hc32
    refine sr ?_
    refine WL.callV ca44 (evc Ev.const evn) (lo1 lo0) rfl (c_Strings W0 N _) ?_
    rintro _ rfl
    refine WL.stp rfl (Stp.st (tm rfl) (tm rfl) zs33 rfl rfl rfl rfl rfl rfl rfl rfl) ?_
    refine WL.v (Val.assign Ev.const) rfl ?_
    refine WL.norm 166 [(4, _), (5, _)] [some ⟨_, _, [[_, _, _, _, _, _, _, _, _]]⟩, some ⟨_, _, [[_, _, _]]⟩, some ⟨_, _, [[_, _, _]]⟩] rfl ⟨rfl, rfl, trivial⟩ rfl rfl ?_
    refine wn ?_
    refine W.ret (rt2 (rt1 ?_))
    exact Ret.of (.inr rfl) rfl (resCell2 rfl Tryd.underlying33 rfl zs33 rfl rfl rfl rfl rfl rfl rfl) (Fewer.nil _) (.inr trivial) (fun id h => absurd h (Nat.not_lt_zero _)) (.same rfl) ⟨rfl, ⟨_, _, _⟩, _, rfl, fun h1 => by first | rfl | omega⟩
  try simp only [td] at hc32
  refine W.skip (nb (nm ?_))
  refine sr ?_
  refine WL.v (Val.loadLiveAgg Tryd.underlying33 rfl zs33 (tm rfl) rfl rfl rfl rfl (bl rfl)) rfl ?_
  refine WL.stp rfl (Stp.st (tm rfl) (tm rfl) zs33 rfl rfl rfl rfl rfl rfl rfl rfl) ?_
  refine WL.v (Val.assign Ev.const) rfl ?_
  refine WL.norm 166 [(4, _), (5, _)] [some ⟨_, _, [[_, _, _, _, _, _, _, _, _]]⟩, some ⟨_, _, [[_, _, _]]⟩, some ⟨_, _, [[_, _, _]]⟩] rfl ⟨rfl, rfl, trivial⟩ rfl rfl ?_
  refine wn ?_
  refine W.ret ?_
  exact Ret.of (.inr rfl) rfl (resCell2 rfl Tryd.underlying33 rfl zs33 rfl rfl rfl rfl rfl rfl rfl) (Fewer.nil _) (.inr trivial) (fun id h => absurd h (Nat.not_lt_zero _)) (.same rfl) ⟨rfl, ⟨_, _, _⟩, _, rfl, fun h1 => by first | rfl | omega⟩
end Go.Aw
namespace Go.Aw
open Go.RowKit
section
variable {K : Ctx} {m : Nat} {Q : Post} {S : St} {ops : Array Oper} {rest : List Oper} {d : Nat} {ty : TypeId} {pos : String} {af : Array Edge} {gd : Option (Nat × Bool)}
/-- An operand, where live rows are looked at as if frozen. -/
def EvB (K : Ctx) (S : St) (x : Operand) (v : AV) : Prop := ∀ L a w, Sim K L S a w → v.rep w (fun _ => False) (fun _ _ => none) (a.eval x)
def EvBL (K : Ctx) (S : St) : List Operand → List AV → Prop
  | [], [] => True
  | x :: xs, v :: vs => EvB K S x v ∧ EvBL K S xs vs
  | _, _ => False
theorem EvB.of {x : Operand} {v : AV} (h : Ev K S x v) (hlo : v.lo [] = true) : EvB K S x v := fun L a w hs =>
  AV.rep_lo (fun _ _ h => h.elim) (fun id g x h => by simp [Heap.has] at h) hlo (h L a w hs)
theorem lst_lent {L : Link} {h : Heap} {w : World} (hh : HSim K L h w) {id gen s i n : Nat} {xs : List (List FV)} (hr : h[id]? = some (some ⟨gen, s, fz xs⟩)) (hin : i + n ≤ xs.length) (hxs : ∀ e, e ∈ xs → e.length = s) {v : Value}
    (hv : (AV.row id gen s i n).rep w (Bar K h L) L v) : (FV.lst s ((xs.drop i).take n)).rep w (fun _ => False) v := by
  obtain ⟨b, tot, hL, rfl, hit⟩ := hv
  obtain ⟨b2, t2, c, e, hL2, _, _, hc, hsz, hlen, hat⟩ := hh.live id _ hr
  rw [hL] at hL2; cases hL2
  have hb := (Array.getElem?_eq_some_iff.1 hc).1
  have hn : ((xs.drop i).take n).length = n := by simp; omega
  refine ⟨some ⟨b, i * s, none⟩, tot - i, by rw [hn], by rw [hn]; omega, .inr ⟨b, i * s, rfl, hb, fun h => h, FV.repEls_of ?_⟩⟩
  intro j cs hj
  rw [List.getElem?_take] at hj
  split at hj
  · rename_i hjn
    rw [List.getElem?_drop] at hj
    refine ⟨hxs _ (List.mem_of_getElem? hj), ?_⟩
    have he : (fz xs)[i + j]? = some (cs.map .f) := by simp [fz, List.getElem?_map, hj]
    have h1 := hat _ _ he
    refine FV.repCells_of (L := L) (vs := (c.toList.drop ((i + j) * s)).take s) (AV.repL_stays (Stays.refl _ _) (fun _ _ h => h.elim) (fun _ _ _ h => h) h1) ?_
    intro k y hk
    rw [List.getElem?_take] at hk
    split at hk
    · rw [List.getElem?_drop] at hk
      rw [cell_block hc, show i * s + j * s + k = (i + j) * s + k from by rw [Nat.add_mul]]; simpa using hk
    · simp at hk
  · simp at hj
theorem EvB.row {x : Operand} {id gen s n : Nat} {xs : List (List FV)} (h : Ev K S x (.row id gen s 0 n)) (hr : S.heap[id]? = some (some ⟨gen, s, fz xs⟩)) (hn : n = xs.length) (hxs : ∀ e, e ∈ xs → e.length = s) : EvB K S x (.f (.lst s xs)) := fun L a w hs => by
  have := lst_lent hs.hs hr (i := 0) (n := n) (by omega) hxs (h L a w hs)
  subst hn
  simp only [List.drop_zero, List.take_length] at this
  exact this
theorem EvB.acc {x : Operand} {j s : Nat} {xs : List (List FV)} {v : AV} {o : Option Row} (h : Ev K S x v) (ha : Acc j s (fz xs) v o) (hj : S.heap[j]? = some o) (hxs : ∀ e, e ∈ xs → e.length = s) : EvB K S x (.f (.lst s xs)) := by
  rcases ha with ⟨he, rfl, rfl⟩ | ⟨gen, rfl, rfl⟩
  · have : xs = [] := by cases xs with | nil => rfl | cons => simp [fz] at he
    subst this
    exact fun L a w hs => ⟨none, 0, h L a w hs, Nat.le_refl _, .inl rfl⟩
  · exact EvB.row h hj (by simp [fz]) hxs
theorem EvBL.rep {L : Link} {a : Act} {w : World} (hs : Sim K L S a w) : ∀ {xs : List Operand} {vs : List AV}, EvBL K S xs vs → AV.repL w (fun _ => False) (fun _ _ => none) vs (xs.map a.eval)
  | [], [], _ => trivial
  | _ :: _, _ :: _, h => ⟨h.1 L a w hs, EvBL.rep hs h.2⟩
  | [], _ :: _, h => h.elim
  | _ :: _, [], h => h.elim

end
/-- An end of a part, a whole number. -/
def BdI (K : Ctx) (S : St) : Option Operand → Int → Int → Prop
  | none, dflt, n => n = dflt
  | some x, _, n => ∃ k, Ev K S x (.f (.v (.int k n)))
theorem BdI.bd {K : Ctx} {S : St} {x : Option Operand} {dflt : Nat} {n : Int} (h : BdI K S x dflt n) (h0 : 0 ≤ n) : Bd K S x dflt n.toNat := by
  cases x with
  | none => simp only [BdI] at h; simp only [Bd]; omega
  | some x =>
    obtain ⟨k, hk⟩ := h
    refine ⟨k, ?_⟩
    rw [show ((n.toNat : Nat) : Int) = n from by omega]; exact hk
theorem Val.sliceSI {K : Ctx} {S : St} {d : Option Nat} {ty : TypeId} {pos : String} {af : Array Edge} {gd : Option (Nat × Bool)} {T : TypeId} {x : Operand} {lo hi : Option Operand} {s : ByteArray} {l h : Int} (hT : K.P.underlying T = some .string) (hx : Ev K S x (.f (.v (.string s)))) (hlo : BdI K S lo (0 : Nat) l) (hhi : BdI K S hi s.size h) (h0 : 0 ≤ l) (h1 : l ≤ h) (h2 : h ≤ s.size) :
    Val K S ⟨d, .slice T x lo hi none, ty, pos, af, gd⟩ (.f (.v (.string (s.extract l.toNat h.toNat)))) :=
  Val.sliceS hT hx (hlo.bd h0) (hhi.bd (by omega)) (by omega) (by omega)
theorem Val.sliceLI {α : Type} {enc : α → List FV} {K : Ctx} {S : St} {d : Option Nat} {ty : TypeId} {pos : String} {af : Array Edge} {gd : Option (Nat × Bool)} {T E : TypeId} {x : Operand} {lo hi : Option Operand} {s : Nat} {xs : List α} {l h : Int} (hT : K.P.underlying T = some (.slice E)) (hE : (K.P.info? E).map (·.size) = some s) (hx : Ev K S x (.f (.lst s (xs.map enc)))) (hlo : BdI K S lo (0 : Nat) l) (hhi : BdI K S hi (xs.length : Nat) h) (h0 : 0 ≤ l) (h1 : l ≤ h) (h2 : h ≤ xs.length) :
    Val K S ⟨d, .slice T x lo hi none, ty, pos, af, gd⟩ (.f (.lst s (((xs.drop l.toNat).take (h.toNat - l.toNat)).map enc))) := by
  have := Val.sliceL (d := d) (ty := ty) (pos := pos) (af := af) (gd := gd) hT hE hx (hlo.bd h0) (by rw [List.length_map]; exact hhi.bd (by omega)) (by omega) (by simp; omega)
  rw [List.map_take, List.map_drop]; exact this
theorem Stp.storeI {K : Ctx} {m : Nat} {S : St} {d : Option Nat} {ty : TypeId} {pos : String} {af : Array Edge} {gd : Option (Nat × Bool)} {l : List Int} {a : Int} {T : TypeId} {x y : Operand} {id gen : Nat} {i : Int} (hT : (K.P.info? T).map (·.size) = some 1) (hx : Ev K S x (.ptr id gen 1 (0 + i.toNat) 0)) (hy : Ev K S y (.i a))
    (hr : S.heap[id]? = some (some ⟨gen, 1, fz (l.map encI)⟩)) (h0 : 0 ≤ i) (h1 : i < l.length) (hd : d = none) :
    Stp K m S ⟨d, .store T x y, ty, pos, af, gd⟩ { S with heap := S.heap.set id (some ⟨gen, 1, fz ((l.set i.toNat a).map encI)⟩) } :=
  Stp.storeE (enc := FV.i) hT hx hy rfl hr h0 h1 hd
/-- An end that keeps the rows. -/
theorem Ret.keep {K : Ctx} {m : Nat} {S : St} {fn : Func} {R : AV → Heap → Prop} {e : Exit} {r : AV} {h' : Heap} (he : e = .normal ∨ e = .ret) (hd : S.defers = []) (hres : ∀ L a w, Sim K L S a w → ∃ v, (results fn a.tmps).run K.P w = .ok v w ∧ r.rep w (Bar K S.heap L) L v) (hh : S.heap = h') (hR : R r h') : Ret K m fn R e S := by
  subst hh
  exact ⟨he, hd, r, S.heap, hR, fun L a w hs => by
    obtain ⟨v, h1, h2⟩ := hres L a w hs
    exact ⟨v, L, h1, h2, hs.hs, Ext.refl ..⟩⟩
end Go.Aw
namespace Go.Aw
open Go.RowKit
mutual
def AV.rn (ρ : Nat → Nat) : AV → AV
  | .ptr id gen s i o => .ptr (ρ id) gen s i o
  | .row id gen s i n => .row (ρ id) gen s i n
  | .agg cs => .agg (AV.rnL ρ cs)
  | .tup cs => .tup (AV.rnL ρ cs)
  | .fn g caps => .fn g (AV.rnL ρ caps)
  | .opt b x => .opt b (x.rn ρ)
  | x => x
def AV.rnL (ρ : Nat → Nat) : List AV → List AV
  | [] => []
  | x :: xs => x.rn ρ :: AV.rnL ρ xs
end
def Row.rn (ρ : Nat → Nat) (r : Row) : Row := ⟨r.gen, r.s, r.els.map (AV.rnL ρ)⟩
mutual
theorem AV.rep_rn {w : World} {X X' : Nat → Prop} {L L' : Link} {ρ : Nat → Nat} {k : Heap} (hX : ∀ b, b < w.heap.size → X' b → X b) (hL : ∀ id g x, Heap.has k id = true → L (ρ id) g = some x → L' id g = some x) : ∀ {x : AV} {y : Value}, x.lo k = true → (x.rn ρ).rep w X L y → x.rep w X' L' y
  | .any, _, _, _ => trivial
  | .f _, _, _, h => FV.rep_stays (Stays.refl _ _) hX h
  | .agg _, _, hl, ⟨vs, e, h⟩ => ⟨vs, e, AV.repL_rn hX hL hl h⟩
  | .ptr id _ _ _ _, _, hl, ⟨b, tot, h, e⟩ => ⟨b, tot, hL _ _ _ (by simpa [AV.lo] using hl) h, e⟩
  | .row id _ _ _ _, _, hl, ⟨b, tot, h, e⟩ => ⟨b, tot, hL _ _ _ (by simpa [AV.lo] using hl) h, e⟩
  | .tup _, _, hl, ⟨vs, e, h⟩ => ⟨vs, e, AV.repL_rn hX hL hl h⟩
  | .fn _ _, _, hl, ⟨vs, e, h⟩ => ⟨vs, e, AV.repL_rn hX hL hl h⟩
  | .opt b x, y, hl, h => by
    simp only [AV.rn] at h
    unfold AV.rep at h ⊢
    split
    · rename_i hb; rw [if_pos hb] at h; exact AV.rep_rn hX hL hl h
    · rename_i hb; rw [if_neg hb] at h; exact h
theorem AV.repL_rn {w : World} {X X' : Nat → Prop} {L L' : Link} {ρ : Nat → Nat} {k : Heap} (hX : ∀ b, b < w.heap.size → X' b → X b) (hL : ∀ id g x, Heap.has k id = true → L (ρ id) g = some x → L' id g = some x) : ∀ {xs : List AV} {ys : List Value}, AV.loL k xs = true → AV.repL w X L (AV.rnL ρ xs) ys → AV.repL w X' L' xs ys
  | [], [], _, _ => trivial
  | x :: xs, _ :: _, hl, h => by
    have : x.lo k = true ∧ AV.loL k xs = true := by simpa [AV.loL] using hl
    exact ⟨AV.rep_rn hX hL this.1 h.1, AV.repL_rn hX hL this.2 h.2⟩
  | [], _ :: _, _, h => h.elim
  | _ :: _, [], _, h => h.elim
end
mutual
theorem AV.rep_rn' {w : World} {X X' : Nat → Prop} {L L' : Link} {ρ : Nat → Nat} {k : Heap} (hX : ∀ b, b < w.heap.size → X' b → X b) (hL : ∀ id g x, Heap.has k id = true → L id g = some x → L' (ρ id) g = some x) : ∀ {x : AV} {y : Value}, x.lo k = true → x.rep w X L y → (x.rn ρ).rep w X' L' y
  | .any, _, _, _ => trivial
  | .f _, _, _, h => FV.rep_stays (Stays.refl _ _) hX h
  | .agg _, _, hl, ⟨vs, e, h⟩ => ⟨vs, e, AV.repL_rn' hX hL hl h⟩
  | .ptr id _ _ _ _, _, hl, ⟨b, tot, h, e⟩ => ⟨b, tot, hL _ _ _ (by simpa [AV.lo] using hl) h, e⟩
  | .row id _ _ _ _, _, hl, ⟨b, tot, h, e⟩ => ⟨b, tot, hL _ _ _ (by simpa [AV.lo] using hl) h, e⟩
  | .tup _, _, hl, ⟨vs, e, h⟩ => ⟨vs, e, AV.repL_rn' hX hL hl h⟩
  | .fn _ _, _, hl, ⟨vs, e, h⟩ => ⟨vs, e, AV.repL_rn' hX hL hl h⟩
  | .opt b x, y, hl, h => by
    simp only [AV.rn]
    unfold AV.rep at h ⊢
    split
    · rename_i hb; rw [if_pos hb] at h; exact AV.rep_rn' hX hL hl h
    · rename_i hb; rw [if_neg hb] at h; exact h
theorem AV.repL_rn' {w : World} {X X' : Nat → Prop} {L L' : Link} {ρ : Nat → Nat} {k : Heap} (hX : ∀ b, b < w.heap.size → X' b → X b) (hL : ∀ id g x, Heap.has k id = true → L id g = some x → L' (ρ id) g = some x) : ∀ {xs : List AV} {ys : List Value}, AV.loL k xs = true → AV.repL w X L xs ys → AV.repL w X' L' (AV.rnL ρ xs) ys
  | [], [], _, _ => trivial
  | x :: xs, _ :: _, hl, h => by
    have : x.lo k = true ∧ AV.loL k xs = true := by simpa [AV.loL] using hl
    exact ⟨AV.rep_rn' hX hL this.1 h.1, AV.repL_rn' hX hL this.2 h.2⟩
  | [], _ :: _, _, h => h.elim
  | _ :: _, [], _, h => h.elim
end
theorem rnL_append (ρ : Nat → Nat) : ∀ xs ys : List AV, AV.rnL ρ (xs ++ ys) = AV.rnL ρ xs ++ AV.rnL ρ ys
  | [], _ => rfl
  | x :: xs, ys => by simp [AV.rnL, rnL_append ρ xs ys]

/-- Rows of a caller that a callee knows by numbers of its own. -/
structure Sub (hp h0 : Heap) (ρ σ : Nat → Nat) : Prop where
  back : ∀ i, i < h0.length → σ (ρ i) = i
  row : ∀ i, i < h0.length → hp[ρ i]? = (h0[i]?).map (·.map (Row.rn ρ))
theorem Sub.get {hp h0 : Heap} {ρ σ : Nat → Nat} (hs : Sub hp h0 ρ σ) {i : Nat} {q : Row} (h : h0[i]? = some (some q)) : i < h0.length ∧ hp[ρ i]? = some (some (q.rn ρ)) := by
  have hi := (List.getElem?_eq_some_iff.1 h).1
  exact ⟨hi, by rw [hs.row i hi, h]; rfl⟩
theorem Sub.of {hp h0 : Heap} {ρ σ : Nat → Nat} (hs : Sub hp h0 ρ σ) {i : Nat} {r : Row} (hi : i < h0.length) (h : hp[ρ i]? = some (some r)) : ∃ q, h0[i]? = some (some q) ∧ r = q.rn ρ := by
  rw [hs.row i hi] at h
  cases ho : h0[i]? with
  | none => rw [ho] at h; cases h
  | some o =>
    rw [ho] at h
    cases o with
    | none => cases h
    | some q => cases h; exact ⟨q, rfl, rfl⟩
/-- What the caller's rows are behind the call. -/
structure Merged (hp h0 hp' h' : Heap) (ρ σ : Nat → Nat) : Prop where
  len : h'.length = h0.length
  sub : Sub hp' h' ρ σ
  rest : ∀ id, ¬ (σ id < h0.length ∧ ρ (σ id) = id) → hp'[id]? = hp[id]?

section
variable {K : Ctx} {m : Nat} {Q : Post} {S : St} {ops : Array Oper} {rest : List Oper} {d : Option Nat} {ty : TypeId} {pos : String} {af : Array Edge} {gd : Option (Nat × Bool)}
theorem WL.callSub {c : Operand} {f : FuncId} {xs : List Operand} {ts : Array TypeId} {args caps : List AV} {R : AV → Heap → Prop} {h0 : Heap} {ρ σ : Nat → Nat} (mg : Heap → Heap) (hf : Callable K.P f) (hcl : Fun K S c f (AV.rnL ρ caps)) (hx : EvL K S xs (AV.rnL ρ args)) (hlo : AV.loL h0 (args ++ caps) = true) (hd : dstOk d S.n = true)
    (hsub : Sub S.heap h0 ρ σ) (hlo0 : HLo h0 h0) (hc : AC ⟨K.P, K.W0, K.N⟩ f (args ++ caps) h0 R) (hR : ∀ r h', R r h' → r.lo h' = true ∧ HLo h' h' ∧ Merged S.heap h0 (mg h') h' ρ σ) (hg : gd = none)
    (h : ∀ r h', R r h' → WL K m ops Q rest (({ S with heap := mg h' } : St).putD d (r.rn ρ))) :
    WL K m ops Q (⟨d, .call ⟨.value c, xs.toArray, ts⟩, ty, pos, af, gd⟩ :: rest) S := by
  intro L a w Qc hs hqc
  subst hg
  obtain ⟨cs, ec, hcs⟩ := hcl L a w hs
  refine wpList_plain rfl fun Kc hK => ?_
  simp only [Oper.wp, run_callV hf ec, Oper.upon_enter]
  have hxs := AV.repL_append (EvL.rep hs hx) hcs
  rw [← rnL_append] at hxs
  rw [show (xs.toArray.map a.eval ++ cs) = (xs.map a.eval ++ cs.toList).toArray from by simp]
  let Hd : Nat → Prop := fun id => σ id < h0.length ∧ ρ (σ id) = id
  have hHd : ∀ i, i < h0.length → Hd (ρ i) := fun i hi => by
    have := hsub.back i hi
    exact ⟨by rw [this]; exact hi, by rw [this]⟩
  let X : Nat → Prop := fun b => K.X b ∨ ∃ id r tot, ¬ Hd id ∧ S.heap[id]? = some (some r) ∧ L id r.gen = some (b, tot)
  let L0 : Link := fun id g => if id < h0.length then L (ρ id) g else none
  have l0 : ∀ {i g}, i < h0.length → L0 i g = L (ρ i) g := fun {i g} hi => by simp only [L0, if_pos hi]
  have own0 : ∀ b, Own h0 L0 b → Own S.heap L b := by
    rintro b ⟨id, q, t, hi, hl⟩
    obtain ⟨hil, hr⟩ := hsub.get hi
    rw [l0 hil] at hl
    exact ⟨ρ id, q.rn ρ, t, hr, hl⟩
  have bar0 : ∀ b, Bar { K with X := X } h0 L0 b → Bar K S.heap L b := by
    rintro b ((hx | ⟨id, r, t, _, h1, h2⟩) | ho)
    · exact .inl hx
    · exact .inr ⟨id, r, t, h1, h2⟩
    · exact .inr (own0 b ho)
  have hX0 : ∀ i q b t, h0[i]? = some (some q) → L0 i q.gen = some (b, t) → ¬ K.X b → ¬ X b := by
    rintro i q b t hi hl hX0 (hx | ⟨id, r, t', hne, h1, h2⟩)
    · exact hX0 hx
    · obtain ⟨hil, hr⟩ := hsub.get hi
      rw [l0 hil] at hl
      have := hs.hs.inj _ _ _ _ _ _ _ h1 hr h2 hl
      exact hne (this ▸ hHd i hil)
  have hh0 : HSim { K with X := X } L0 h0 w := by
    refine ⟨?_, ?_, ?_, ?_, ?_⟩
    · intro i q hi
      obtain ⟨hil, hr⟩ := hsub.get hi
      obtain ⟨b, tot, c, e, h1, h2, h3, h4, h5, h6, h7⟩ := hs.hs.live (ρ i) (q.rn ρ) hr
      refine ⟨b, tot, c, e, by rw [l0 hil]; exact h1, h2, hX0 i q b tot hi (by rw [l0 hil]; exact h1) h3, h4, h5, by simpa [Row.rn] using h6, fun k el hk => ?_⟩
      have := h7 k (AV.rnL ρ el) (by simp [Row.rn, hk])
      exact AV.repL_rn (fun b _ hb => bar0 b hb) (fun id g x hid hx => by
        obtain ⟨r, hr⟩ := of_has hid
        rw [l0 (List.getElem?_eq_some_iff.1 hr).1]; exact hx) ((HLo.get hlo0 hi) el (List.mem_of_getElem? hk)) this
    · intro i q i' q' b t t' hi hi' hl hl'
      obtain ⟨hil, hr⟩ := hsub.get hi
      obtain ⟨hil', hr'⟩ := hsub.get hi'
      rw [l0 hil] at hl; rw [l0 hil'] at hl'
      have := hs.hs.inj _ _ _ _ _ _ _ hr hr' hl hl'
      rw [← hsub.back i hil, ← hsub.back i' hil', this]
    · intro i q g hi hgen
      obtain ⟨hil, hr⟩ := hsub.get hi
      rw [l0 hil]; exact hs.hs.later _ _ g hr hgen
    · intro i g hi
      by_cases hil : i < h0.length
      · rw [l0 hil]
        refine hs.hs.past _ _ ?_
        rw [hsub.row i hil]
        cases ho : h0[i]? with
        | none => rfl
        | some o => rw [ho] at hi; cases o with
          | none => rfl
          | some q => cases hi
      · simp only [L0, if_neg hil]
    · rintro b (hx | ⟨id, r, t, _, h1, h2⟩)
      · exact hs.hs.foreign b hx
      · exact own_lt hs.hs ⟨id, r, t, h1, h2⟩
  have hargs := AV.repL_rn (L' := L0) (fun b _ hb => bar0 b hb) (fun id g x hid hx => by
    obtain ⟨r, hr⟩ := of_has hid
    rw [l0 (List.getElem?_eq_some_iff.1 hr).1]; exact hx) hlo hxs
  refine (hc X L0 w _ hh0 hs.base hs.big hargs).mono ?_
  rintro e w' ⟨r, h', L', v, rfl, hr, hrep, hh, hb, hbig, hext⟩
  obtain ⟨hrl, hlo', hmg⟩ := hR r h' hr
  have hsub' := hmg.sub
  let L2 : Link := fun id g => if Hd id then L' (σ id) g else L id g
  have l2 : ∀ {i g}, i < h0.length → L2 (ρ i) g = L' i g := fun {i g} hi => by simp only [L2]; rw [if_pos (hHd i hi), hsub.back i hi]
  have l2' : ∀ {id g}, ¬ Hd id → L2 id g = L id g := fun {id g} hn => by simp only [L2, if_neg hn]
  have hLL : ∀ id g x, L id g = some x → L2 id g = some x := by
    intro id g x hlx
    by_cases hid : Hd id
    · simp only [L2, if_pos hid]
      refine hext.link (σ id) g x hid.1 ?_
      rw [l0 hid.1, hid.2]; exact hlx
    · rw [l2' hid]; exact hlx
  have getS : ∀ {id : Nat} {z : Row}, (mg h')[id]? = some (some z) → (∃ i q, i < h0.length ∧ id = ρ i ∧ h'[i]? = some (some q) ∧ z = q.rn ρ) ∨ (¬ Hd id ∧ S.heap[id]? = some (some z)) := by
    intro id z hz
    by_cases hid : Hd id
    · have hl : σ id < h'.length := by rw [hmg.len]; exact hid.1
      rw [← hid.2] at hz
      obtain ⟨q, hq, rfl⟩ := hsub'.of hl hz
      exact .inl ⟨σ id, q, hid.1, hid.2.symm, hq, rfl⟩
    · rw [hmg.rest id hid] at hz; exact .inr ⟨hid, hz⟩
  have hX1 : ∀ i z b t, h'[i]? = some (some z) → L' i z.gen = some (b, t) → ¬ X b := by
    intro i z b t hi hl
    obtain ⟨b1, t1, c1, e1, hl1, _, hx1, _⟩ := hh.live i z hi
    rw [hl] at hl1; cases hl1; exact hx1
  have own2 : ∀ b, Own (mg h') L2 b → Own h' L' b ∨ X b := by
    rintro b ⟨id, z, t, hi, hl⟩
    rcases getS hi with ⟨i, q, hil, rfl, hq, rfl⟩ | ⟨hne, hi⟩
    · rw [l2 hil] at hl; exact .inl ⟨i, q, t, hq, hl⟩
    · rw [l2' hne] at hl; exact .inr (.inr ⟨id, z, t, hne, hi, hl⟩)
  have own2' : ∀ b, b < w.heap.size → Own (mg h') L2 b → Own S.heap L b := by
    rintro b hb ⟨id, z, t, hi, hl⟩
    rcases getS hi with ⟨i, q, hil, rfl, hq, rfl⟩ | ⟨hne, hi⟩
    · rw [l2 hil] at hl; exact own0 b (hext.own b hb ⟨i, q, t, hq, hl⟩)
    · rw [l2' hne] at hl; exact ⟨id, z, t, hi, hl⟩
  have hst : Stays (Own S.heap L) w w' := ⟨hext.stays.size, fun b hb hx => hext.stays.block b hb (fun ho => hx (own0 b ho))⟩
  have bar2 : ∀ b, b < w.heap.size → Bar K (mg h') L2 b → Bar K S.heap L b := by
    rintro b hb (hx | ho)
    · exact .inl hx
    · exact .inr (own2' b hb ho)
  have bar2' : ∀ b, b < w'.heap.size → Bar K (mg h') L2 b → Bar { K with X := X } h' L' b := by
    rintro b hb (hx | ho)
    · exact .inl (.inl hx)
    · rcases own2 b ho with ho | hx
      · exact .inr ho
      · exact .inl hx
  have hasL : ∀ id g x, Heap.has h' id = true → L' id g = some x → L2 (ρ id) g = some x := fun id g x hid hx => by
    obtain ⟨r, hr⟩ := of_has hid
    have hil := (List.getElem?_eq_some_iff.1 hr).1
    rw [hmg.len] at hil
    rw [l2 hil]; exact hx
  have hs' : Sim K L2 { S with heap := mg h' } a w' := by
    refine ⟨⟨?_, ?_, ?_, ?_, fun b hb => Nat.lt_of_lt_of_le (hs.hs.foreign b hb) hext.stays.size⟩, hb, hbig, fun t x hx => AV.rep_stays hst.bar bar2 hLL (hs.slots t x hx), hs.size, hs.defers⟩
    · intro id z hi
      rcases getS hi with ⟨i, q, hil, rfl, hq, rfl⟩ | ⟨hne, hi⟩
      · obtain ⟨b1, tot1, c1, e1, hl1, hN1, hx1, hc1, hsz1, hlen1, hat1⟩ := hh.live i q hq
        refine ⟨b1, tot1, c1, e1, by rw [l2 hil]; exact hl1, hN1, fun hx => hx1 (.inl hx), hc1, hsz1, by simpa [Row.rn] using hlen1, fun k el hk => ?_⟩
        simp only [Row.rn, List.getElem?_map] at hk
        cases hqk : q.els[k]? with
        | none => rw [hqk] at hk; cases hk
        | some e0 =>
          rw [hqk] at hk; cases hk
          exact AV.repL_rn' bar2' hasL ((HLo.get hlo' hq) e0 (List.mem_of_getElem? hqk)) (hat1 k e0 hqk)
      · obtain ⟨b, tot, c, e, h1, h2, h3, h4, h5, h6, h7⟩ := hs.hs.live id z hi
        refine ⟨b, tot, c, e, hLL _ _ _ h1, h2, h3, ?_, h5, h6, fun i e he => AV.repL_stays hst.bar bar2 hLL (h7 i e he)⟩
        have hblt := own_lt hs.hs ⟨id, z, tot, hi, h1⟩
        rw [hext.stays.block b hblt (fun ho => by
          obtain ⟨i, q, t, hqi, hl⟩ := ho
          obtain ⟨hil, hr⟩ := hsub.get hqi
          rw [l0 hil] at hl
          have := hs.hs.inj _ _ _ _ _ _ _ hi hr h1 hl
          exact hne (this ▸ hHd i hil))]
        exact h4
    · intro i1 r1 i2 r2 b t1 t2 hi1 hi2 hl1' hl2'
      have key : ∀ {i z t j q t'}, ¬ Hd i → S.heap[i]? = some (some z) → L i z.gen = some (b, t) → h'[j]? = some (some q) → L' j q.gen = some (b, t') → False := by
        intro i z t j q t' hne hi hl hj hl'
        exact hX1 j q b t' hj hl' (.inr ⟨i, z, t, hne, hi, hl⟩)
      rcases getS hi1 with ⟨j1, q1, hj1, rfl, hq1, rfl⟩ | ⟨hne1, ha1⟩ <;> rcases getS hi2 with ⟨j2, q2, hj2, rfl, hq2, rfl⟩ | ⟨hne2, hb1⟩
      · rw [l2 hj1] at hl1'; rw [l2 hj2] at hl2'
        rw [hh.inj _ _ _ _ _ _ _ hq1 hq2 hl1' hl2']
      · rw [l2 hj1] at hl1'; rw [l2' hne2] at hl2'
        exact (key hne2 hb1 hl2' hq1 hl1').elim
      · rw [l2 hj2] at hl2'; rw [l2' hne1] at hl1'
        exact (key hne1 ha1 hl1' hq2 hl2').elim
      · rw [l2' hne1] at hl1'; rw [l2' hne2] at hl2'
        exact hs.hs.inj _ _ _ _ _ _ _ ha1 hb1 hl1' hl2'
    · intro id z g hi hgen
      rcases getS hi with ⟨i, q, hil, rfl, hq, rfl⟩ | ⟨hne, hi⟩
      · rw [l2 hil]; exact hh.later i _ g hq hgen
      · rw [l2' hne]; exact hs.hs.later id z g hi hgen
    · intro id g hid
      by_cases hd' : Hd id
      · simp only [L2, if_pos hd']
        refine hh.past _ g ?_
        have hl : σ id < h'.length := by rw [hmg.len]; exact hd'.1
        have := hsub'.row (σ id) hl
        rw [hd'.2] at this
        rw [this] at hid
        cases ho : h'[σ id]? with
        | none => rfl
        | some o => rw [ho] at hid; cases o with
          | none => rfl
          | some q => cases hid
      · rw [hmg.rest id hd'] at hid
        rw [l2' hd']; exact hs.hs.past id g hid
  have hext' : Ext K m S.heap L w (mg h') L2 w' := ⟨fun id g x _ hx => hLL id g x hx, hst, own2'⟩
  have hres : (r.rn ρ).rep w' (Bar K (mg h') L2) L2 v := AV.rep_rn' bar2' hasL hrl hrep
  refine hK _ _ (h r h' hr L2 _ w' Qc (hs'.putD (dst_ok hd) hres) fun e a' w'' hl => hqc _ _ _ (lift_trans (S1 := { S with heap := mg h' }) hext' _ _ _ ?_))
  rw [lift, putD_heap] at hl; exact hl
end
end Go.Aw
namespace Go.Aw
open Go.RowKit
def rhoL (ids : List Nat) (i : Nat) : Nat := ids.getD i 0
def sigL : List Nat → Nat → Nat
  | [], _ => 0
  | j :: js, id => if j = id then 0 else sigL js id + 1
theorem sigL_lt : ∀ {ids : List Nat} {id : Nat}, id ∈ ids → sigL ids id < ids.length ∧ ids[sigL ids id]? = some id
  | j :: js, id, h => by
    simp only [sigL]
    by_cases hj : j = id
    · simp [hj]
    · have := sigL_lt (ids := js) (id := id) ((List.mem_cons.1 h).resolve_left (fun h => hj h.symm))
      rw [if_neg hj]; exact ⟨by simp only [List.length_cons]; omega, by rw [List.getElem?_cons_succ]; exact this.2⟩
  | [], _, h => by simp at h
theorem nodup_at : ∀ {ids : List Nat}, ids.Nodup → ∀ {i j : Nat} {x : Nat}, ids[i]? = some x → ids[j]? = some x → i = j
  | [], _, i, j, x, h, _ => by simp at h
  | y :: ys, hn, i, j, x, hi, hj => by
    obtain ⟨h1, h2⟩ := List.nodup_cons.1 hn
    cases i with
    | zero => cases j with
      | zero => rfl
      | succ j =>
        simp at hi hj; subst hi
        exact absurd (List.mem_of_getElem? hj) h1
    | succ i => cases j with
      | zero =>
        simp at hi hj; subst hj
        exact absurd (List.mem_of_getElem? hi) h1
      | succ j =>
        simp at hi hj
        rw [nodup_at h2 hi hj]
theorem rhoL_at {ids : List Nat} {i : Nat} (hi : i < ids.length) : ids[i]? = some (rhoL ids i) := by simp [rhoL, List.getD, hi]
theorem back_at {ids : List Nat} (hn : ids.Nodup) {i : Nat} (hi : i < ids.length) : sigL ids (rhoL ids i) = i := by
  have h1 := rhoL_at hi
  have h2 := sigL_lt (List.mem_of_getElem? h1)
  exact nodup_at hn h2.2 h1
theorem Sub.ofIds {hp h0 : Heap} {ids : List Nat} (hn : ids.Nodup) (hr : ids.map (fun j => hp[j]?) = h0.map fun o => some (o.map (Row.rn (rhoL ids)))) : Sub hp h0 (rhoL ids) (sigL ids) := by
  have hl : ids.length = h0.length := by simpa using congrArg List.length hr
  refine ⟨fun i hi => back_at hn (by omega), fun i hi => ?_⟩
  have h1 := congrArg (fun l => l[i]?) hr
  simp only [List.getElem?_map, rhoL_at (show i < ids.length by omega), Option.map_some] at h1
  cases ho : h0[i]? with
  | none => rw [List.getElem?_eq_none_iff] at ho; omega
  | some o => rw [ho] at h1; simpa using h1
def mergeL (ρ : Nat → Nat) : List Nat → Heap → Heap → Heap
  | j :: js, o :: h', hp => (mergeL ρ js h' hp).set j (o.map (Row.rn ρ))
  | _, _, hp => hp
theorem mergeL_len (ρ : Nat → Nat) : ∀ (ids : List Nat) (h' hp : Heap), (mergeL ρ ids h' hp).length = hp.length
  | j :: js, o :: h', hp => by simp [mergeL, mergeL_len ρ js h' hp]
  | [], _, hp => rfl
  | _ :: _, [], hp => rfl
theorem mergeL_other {ρ : Nat → Nat} : ∀ {ids : List Nat} {h' hp : Heap} {id : Nat}, id ∉ ids → (mergeL ρ ids h' hp)[id]? = hp[id]?
  | j :: js, o :: h', hp, id, h => by
    have h1 : j ≠ id := fun he => h (he ▸ List.mem_cons_self ..)
    have h2 : id ∉ js := fun hm => h (List.mem_cons_of_mem _ hm)
    rw [mergeL, List.getElem?_set_ne h1, mergeL_other h2]
  | [], _, hp, _, _ => rfl
  | _ :: _, [], hp, _, _ => rfl
theorem mergeL_at {ρ : Nat → Nat} : ∀ {ids : List Nat} {h' hp : Heap} {i : Nat} {j : Nat} {o : Option Row}, ids.Nodup → ids[i]? = some j → h'[i]? = some o → j < hp.length → (mergeL ρ ids h' hp)[j]? = some (o.map (Row.rn ρ))
  | y :: ys, q :: h', hp, i, j, o, hn, hi, ho, hj => by
    obtain ⟨h1, h2⟩ := List.nodup_cons.1 hn
    cases i with
    | zero =>
      simp at hi ho; subst hi ho
      rw [mergeL, List.getElem?_set_self (by rw [mergeL_len]; exact hj)]
    | succ i =>
      simp at hi ho
      have hne : y ≠ j := fun he => h1 (he ▸ List.mem_of_getElem? hi)
      rw [mergeL, List.getElem?_set_ne hne]
      exact mergeL_at h2 hi ho hj
  | [], _, _, i, j, o, _, hi, _, _ => by simp at hi
  | _ :: _, [], _, i, j, o, _, _, ho, _ => by simp at ho
theorem Merged.ofIds {hp h0 h' : Heap} {ids : List Nat} (hn : ids.Nodup) (hl : ids.length = h0.length) (hin : ∀ j, j ∈ ids → j < hp.length) (hl' : h'.length = h0.length) : Merged hp h0 (mergeL (rhoL ids) ids h' hp) h' (rhoL ids) (sigL ids) := by
  refine ⟨hl', ⟨fun i hi => back_at hn (by omega), fun i hi => ?_⟩, fun id hid => ?_⟩
  · have h1 := rhoL_at (ids := ids) (i := i) (by omega)
    cases ho : h'[i]? with
    | none => rw [List.getElem?_eq_none_iff] at ho; omega
    | some o => rw [mergeL_at hn h1 ho (hin _ (List.mem_of_getElem? h1))]; rfl
  · refine mergeL_other fun hm => hid ?_
    have := sigL_lt hm
    refine ⟨by omega, ?_⟩
    have h2 := rhoL_at this.1
    rw [this.2] at h2; exact (Option.some.inj h2).symm
end Go.Aw
namespace Go.Aw
open Go.RowKit
mutual
theorem AV.rn_id : ∀ (x : AV), x.rn (fun i => i) = x
  | .any => rfl
  | .f _ => rfl
  | .agg cs => by simp only [AV.rn, AV.rnL_id cs]
  | .ptr .. => rfl
  | .row .. => rfl
  | .tup cs => by simp only [AV.rn, AV.rnL_id cs]
  | .fn _ cs => by simp only [AV.rn, AV.rnL_id cs]
  | .opt _ x => by simp only [AV.rn, AV.rn_id x]
theorem AV.rnL_id : ∀ (xs : List AV), AV.rnL (fun i => i) xs = xs
  | [] => rfl
  | x :: xs => by simp only [AV.rnL, AV.rn_id x, AV.rnL_id xs]
end
theorem Row.rn_id (r : Row) : r.rn (fun i => i) = r := by
  cases r with
  | mk g s els =>
    simp only [Row.rn]
    congr 1
    have : (AV.rnL fun i => i) = id := by funext xs; exact AV.rnL_id xs
    rw [this, List.map_id]
theorem optRow_rn_id : (Option.map (Row.rn fun i => i)) = (id : Option Row → Option Row) := by
  funext o; cases o with
  | none => rfl
  | some r => simp [Row.rn_id]
section
variable {K : Ctx} {m : Nat} {Q : Post} {S : St} {ops : Array Oper} {rest : List Oper} {d : Option Nat} {ty : TypeId} {pos : String} {af : Array Edge} {gd : Option (Nat × Bool)}
theorem WL.callPre {c : Operand} {f : FuncId} {xs : List Operand} {ts : Array TypeId} {args caps : List AV} {R : AV → Heap → Prop} (pre suf : Heap) (hf : Callable K.P f) (hcl : Fun K S c f caps) (hx : EvL K S xs args) (hlo : AV.loL pre (args ++ caps) = true) (hd : dstOk d S.n = true)
    (hheap : S.heap = pre ++ suf) (hlo0 : HLo pre pre) (hc : AC ⟨K.P, K.W0, K.N⟩ f (args ++ caps) pre R) (hR : ∀ r h', R r h' → r.lo h' = true ∧ HLo h' h' ∧ h'.length = pre.length) (hg : gd = none)
    (h : ∀ r h', R r h' → WL K m ops Q rest (({ S with heap := h' ++ suf } : St).putD d r)) :
    WL K m ops Q (⟨d, .call ⟨.value c, xs.toArray, ts⟩, ty, pos, af, gd⟩ :: rest) S := by
  refine WL.callSub (ρ := fun i => i) (σ := fun i => i) (h0 := pre) (fun h' => h' ++ suf) hf (by rw [AV.rnL_id]; exact hcl) (by rw [AV.rnL_id]; exact hx) hlo hd ⟨fun _ _ => rfl, fun i hi => ?_⟩ hlo0 hc (fun r h' hr => ?_) hg (fun r h' hr => by rw [AV.rn_id]; exact h r h' hr)
  · rw [hheap, List.getElem?_append_left hi, optRow_rn_id]; simp
  · obtain ⟨h1, h2, h3⟩ := hR r h' hr
    refine ⟨h1, h2, h3, ⟨fun _ _ => rfl, fun i hi => ?_⟩, fun id hid => ?_⟩
    · rw [List.getElem?_append_left hi, optRow_rn_id]; simp
    · have hge : pre.length ≤ id := by
        by_cases hl : id < pre.length
        · exact absurd ⟨hl, rfl⟩ hid
        · omega
      rw [hheap, List.getElem?_append_right (by omega), List.getElem?_append_right hge, h3]
end
end Go.Aw
namespace Go.Aw
open Go.RowKit

/-- A contract of a deferred call. -/
def ACD (E : Env) (f : FuncId) (args : List AV) (h : Heap) (R : AV → Heap → Prop) : Prop :=
  ∀ (X : Nat → Prop) L w vs u, HSim (E.ctx X) L h w → Below E.N E.W0 w → E.N ≤ w.heap.size → AV.repL w (Bar (E.ctx X) h L) L args vs →
    CallsD E.P f vs.toArray u w fun e u' w' => u' = u ∧ ∃ r h' L' v, e = .returned v ∧ R r h' ∧ r.rep w' (Bar (E.ctx X) h' L') L' v ∧ HSim (E.ctx X) L' h' w' ∧ Below E.N E.W0 w' ∧ E.N ≤ w'.heap.size ∧
      Ext (E.ctx X) h.length h L w h' L' w'
theorem entered {E : Env} {args : List AV} {h : Heap} {fn : Func} {n : Nat} (hn : fn.ntmps = n) (hl : args.length ≤ n) {X : Nat → Prop} {L : Link} {w : World} {vs : List Value} (h1 : HSim (E.ctx X) L h w) (h2 : Below E.N E.W0 w) (h3 : E.N ≤ w.heap.size) (h4 : AV.repL w (Bar (E.ctx X) h L) L args vs) :
    Sim (E.ctx X) L ⟨n, argEnv args, h, []⟩ { tmps := vs.toArray ++ Array.replicate (fn.ntmps - vs.toArray.size) undef, defers := [] } w := by
  have hlen := AV.repL_length h4
  refine ⟨h1, h2, h3, ?_, by simp; omega, rfl⟩
  intro t x hx
  have : look (argEnv args) t = args[t]? := by have := look_arg args 0 t; simp only [Nat.zero_le, if_true, Nat.sub_zero] at this; exact this
  have hx' : args[t]? = some x := by rw [← this]; exact hx
  obtain ⟨y, hy, hr⟩ := AV.repL_get h4 hx'
  have ht := (List.getElem?_eq_some_iff.1 hy).1
  rw [Array.getD_eq_getD_getElem?, Array.getElem?_append_left (by simpa using ht)]
  simp [hy]; exact hr
theorem ACD.enter {E : Env} {f : FuncId} {args : List AV} {h : Heap} {R : AV → Heap → Prop} {fn : Func} {c : Code} {n : Nat} (hf : E.P.funcs[f]? = some fn) (hb : fn.body = some c) (hn : fn.ntmps = n) (hl : args.length ≤ n)
    (hw : ∀ X, W ⟨E.P, X, E.W0, E.N⟩ h.length c (Ret ⟨E.P, X, E.W0, E.N⟩ h.length fn R) ⟨n, argEnv args, h, []⟩) : ACD E f args h R := by
  intro X L w vs u h1 h2 h3 h4
  refine callsD_of_wp hf hb ?_
  refine wp_mono (hw X L _ w (entered hn hl h1 h2 h3 h4)) ?_
  rintro e a' w' ⟨L', S', ⟨he, hd, r, h', hR, hres⟩, hs', hext⟩
  obtain ⟨v, L'', hrun, hrep, hhs, hext'⟩ := hres L' a' w' hs'
  have hfin : bodyPost E.P fn (fun e w' => ∃ r h' L' v, e = .returned v ∧ R r h' ∧ r.rep w' (Bar (E.ctx X) h' L') L' v ∧ HSim (E.ctx X) L' h' w' ∧ Below E.N E.W0 w' ∧ E.N ≤ w'.heap.size ∧ Ext (E.ctx X) h.length h L w h' L' w') .normal a' w' :=
    ⟨by rw [hs'.defers, hd], v, hrun, r, h', L'', v, rfl, hR, hrep, hhs, hs'.base, hs'.big, ⟨fun id g x hi hx => hext'.link id g x hi (hext.link id g x hi hx), (hext.trans hext').stays, (hext.trans hext').own⟩⟩
  rcases he with rfl | rfl
  · exact hfin
  · exact hfin
/-- What a closure has captured: addresses of variables. -/
def ptrs (m : Nat) : List AV → Prop
  | [] => True
  | .ptr id _ _ _ _ :: xs => id < m ∧ ptrs m xs
  | _ => False
theorem ptrs_rep {w w' : World} {X X' : Nat → Prop} {L L' : Link} {m : Nat} (hL : ∀ id g x, id < m → L id g = some x → L' id g = some x) : ∀ {xs : List AV} {ys : List Value}, ptrs m xs → AV.repL w X L xs ys → AV.repL w' X' L' xs ys
  | [], [], _, _ => trivial
  | .ptr id g _ _ _ :: xs, y :: ys, hp, ⟨⟨b, tot, h, e⟩, hr⟩ => ⟨⟨b, tot, hL _ _ _ hp.1 h, e⟩, ptrs_rep hL hp.2 hr⟩
  | [], _ :: _, _, h => h.elim
  | .ptr _ _ _ _ _ :: _, [], _, h => h.elim
  | .any :: _, _, hp, _ => hp.elim
  | .f _ :: _, _, hp, _ => hp.elim
  | .agg _ :: _, _, hp, _ => hp.elim
  | .row _ _ _ _ _ :: _, _, hp, _ => hp.elim
  | .tup _ :: _, _, hp, _ => hp.elim
  | .fn _ _ :: _, _, hp, _ => hp.elim
  | .opt _ _ :: _, _, hp, _ => hp.elim
theorem Ext.less {K : Ctx} {m m' : Nat} {h h' : Heap} {L L' : Link} {w w' : World} (hm : m ≤ m') (he : Ext K m' h L w h' L' w') : Ext K m h L w h' L' w' :=
  ⟨fun id g x hi hx => he.link id g x (by omega) hx, he.stays, he.own⟩
theorem run_defer {P : Program} {w : World} {ρ : Operand → Value} {d : Option Nat} {ty : TypeId} {pos : String} {af : Array Edge} {gd : Option (Nat × Bool)} {c : Operand} {f : FuncId} {cs : Array Value}
    (hc : ρ c = .func (.func f) #[] cs) : (execOp ρ ⟨d, .defer ⟨.value c, #[], #[]⟩, ty, pos, af, gd⟩).run P w = .ok (.defer ⟨.fn (.func f) cs, #[]⟩) w := by
  simp only [execOp, resolve, hc, Deferred.ofValue, Sem.run_bind, Sem.run_pure, Result.andThen_ok, Array.map_empty, Array.empty_append]
theorem run_invoke {P : Program} {w : World} {f : FuncId} {cs : Array Value} (hf : Callable P f) : (invoke (.fn (.func f) cs) #[]).run P w = .ok (.enter f cs) w := by
  obtain ⟨fn, h1, h2, h3⟩ := hf
  simp only [Sem.run_bind, Sem.run_pure, Result.andThen_ok, invoke, callFunc, program, Sem.run, h1, h2, h3, Bool.false_eq_true, if_false, Array.empty_append]
/-- The end of a body that has deferred a closure. -/
def RetD (E : Env) (m : Nat) (d : Deferred) (fD : FuncId) (caps : List AV) (tr idr : Nat) (R : AV → Heap → Prop) : Post := fun e S =>
  (e = .normal ∨ e = .ret) ∧ S.defers = [d] ∧ S.get tr = some (.ptr idr 0 1 0 0) ∧ idr < S.heap.length ∧ m ≤ S.heap.length ∧
    ACD E fD caps S.heap fun r h' => (∃ x, h'[idr]? = some (some ⟨0, 1, [[.b x]]⟩) ∧ R (.b x) (h'.take m)) ∧ HLo (h'.take m) (h'.take m) ∧ ∀ id, id < m → Heap.has (h'.take m) id = true ∨ h'[id]?.join = none
theorem AC.enterD {E : Env} {f : FuncId} {args : List AV} {h : Heap} {R : AV → Heap → Prop} {fn : Func} {c0 c1 c2 : Code} {rid n t tr idr T : Nat} {td : TypeDesc} {fD : FuncId} {caps : List AV} {S1 : St} {mop : Op} {ty ty' : TypeId} {pos pos' : String} {af af' : Array Edge}
    (hf : E.P.funcs[f]? = some fn) (hb : fn.body = some (.seq c0 (.seq c1 (.seq (.region rid [(⟨some t, mop, ty, pos, af, none⟩ : Oper), ⟨none, .defer ⟨.value (.tmp t), #[], #[]⟩, ty', pos', af', none⟩].toArray false) c2)))) (hn : fn.ntmps = n) (hl : args.length ≤ n)
    (hres : fn.results = #[.cell tr T]) (hT : E.P.underlying T = some td) (hag : aggB td = false) (hD : Callable E.P fD) (htn : Nat.ble (t + 1) S1.n = true) (hp : ptrs S1.heap.length caps) (hm : h.length ≤ S1.heap.length) (hd1 : S1.defers = [])
    (h01 : ∀ X, W ⟨E.P, X, E.W0, E.N⟩ h.length c0 (andThen (fun S => W ⟨E.P, X, E.W0, E.N⟩ h.length c1 (fun e S => e = .normal ∧ S = S1) S) (fun _ _ => False)) ⟨n, argEnv args, h, []⟩)
    (hmk : ∀ X, Val ⟨E.P, X, E.W0, E.N⟩ S1 ⟨some t, mop, ty, pos, af, none⟩ (.fn (.func fD) caps))
    (h2 : ∀ X d, W ⟨E.P, X, E.W0, E.N⟩ S1.heap.length c2 (RetD E h.length d fD caps tr idr R) { (S1.put t (.fn (.func fD) caps)) with defers := [d] }) : AC E f args h R := by
  intro X L w vs hh hbel hbig hrep
  refine calls_of_wp_defers hf hb ?_
  have hs := entered (fn := fn) hn hl hh hbel hbig hrep
  refine wp_seq (wp_mono (h01 X L _ w hs) ?_)
  rintro e0 a0 w0 ⟨L0, S0, q0, hs0, ext0⟩
  cases e0 with
  | normal =>
    refine wp_seq (wp_mono (q0 L0 a0 w0 hs0) ?_)
    rintro e1 a1 w1 ⟨L1, S1', ⟨rfl, rfl⟩, hs1, ext1⟩
    have extA := ext0.trans ext1
    refine wp_seq (wp_region_lit ?_)
    obtain ⟨v, hv, hvr⟩ := hmk X L1 a1 w1 hs1
    refine wpList_plain rfl fun Kc hK => ?_
    simp only [Oper.wp, hv, Oper.upon]
    refine hK _ _ ?_
    obtain ⟨cs, rfl, hcs⟩ := hvr
    have htn' := Nat.le_of_ble_eq_true htn
    have ht1 : t < a1.tmps.size := by rw [hs1.size]; exact htn'
    refine wpList_plain rfl fun Kc' hK' => ?_
    have hc : (a1.put (some t) (.func (.func fD) #[] cs)).eval (.tmp t) = .func (.func fD) #[] cs := by
      have := put_getD a1 t (.func (.func fD) #[] cs) t ht1
      rw [if_pos rfl] at this; exact this
    simp only [Oper.wp, run_defer hc, Oper.upon_defer]
    refine hK' _ _ ?_
    have hs2 : Sim (E.ctx X) L1 { (S1'.put t (.fn (.func fD) caps)) with defers := [(⟨.fn (.func fD) cs, #[]⟩ : Deferred)] } ({ (a1.put (some t) (.func (.func fD) #[] cs)) with defers := ⟨.fn (.func fD) cs, #[]⟩ :: (a1.put (some t) (.func (.func fD) #[] cs)).defers }.put none undef) w1 := by
      have hsx := hs1.put (d := t) (x := .fn (.func fD) caps) (v := .func (.func fD) #[] cs) htn' ⟨cs, rfl, hcs⟩
      exact ⟨hsx.hs, hsx.base, hsx.big, hsx.slots, hsx.size, by show _ :: a1.defers = _; rw [hs1.defers, hd1]⟩
    refine wp_mono (h2 X _ L1 _ w1 hs2) ?_
    rintro e2 a2 w2 ⟨L2, S2, ⟨he, hd, hg, hlt, hm2, hcd⟩, hs3, ext2⟩
    have fin : Leaves E.P fn a2.tmps (fun e w' => ∃ r h' L' v, e = .returned v ∧ R r h' ∧ r.rep w' (Bar (E.ctx X) h' L') L' v ∧ HSim (E.ctx X) L' h' w' ∧ Below E.N E.W0 w' ∧ E.N ≤ w'.heap.size ∧ Ext (E.ctx X) h.length h L w h' L' w') a2.defers .returning w2 := by
      rw [hs3.defers, hd]
      refine leaves_cons (by intro hx; cases hx) (run_invoke hD) ?_
      have hcs2 : AV.repL w2 (Bar (E.ctx X) S2.heap L2) L2 caps cs.toList := ptrs_rep (fun id g x hi hx => ext2.link id g x hi hx) hp hcs
      refine (hcd X L2 w2 cs.toList .returning hs3.hs hs3.base hs3.big hcs2).mono ?_
      rintro e3 u3 w3 ⟨rfl, r3, h3, L3, v3, rfl, ⟨⟨x, hx, hR⟩, hlo, hcut⟩, hr3, hh3, hb3, hbig3, ext3⟩
      obtain ⟨b, tot, c, _, hL3, hc3, vs3, hvs3, hR3⟩ := live_cells hh3 hx (e := [.b x]) (i := 0) rfl
      obtain ⟨b2, tot2, hL2, e2⟩ := hs3.slots tr _ hg
      have := ext3.link _ _ _ hlt hL2
      rw [hL3] at this
      cases this
      have hcell : w3.cell? ⟨b, 0, none⟩ = some (.bool x) := by
        rw [cell_block hc3]
        cases vs3 with
        | nil => exact hR3.elim
        | cons y ys =>
          have hy := hvs3 0 y rfl
          have : y = .bool x := hR3.1
          subst this
          simpa using hy
      have hval := run_loadVar_one hT hag hcell
      have hrun : (results fn a2.tmps).run E.P w3 = .ok (.bool x) w3 := by
        simp only [Nat.zero_mul, Nat.add_zero] at e2
        simp only [results, hres, List.mapM_toArray, List.mapM_cons, List.mapM_nil, e2, asAddr, Sem.run_bind, Sem.run_pure, Result.andThen_ok, hval, Sem.run_map]
        simp
      have hfew : Fewer (h3.take h.length) h3 := Fewer.pre (h3.drop h.length) (List.take_append_drop _ _).symm
      exact ⟨.bool x, hrun, .b x, h3.take h.length, L3.cut (h3.take h.length), .bool x, rfl, hR, rfl, hh3.sub hfew (.inr hlo), hb3, hbig3, extA.trans ((ext2.less hm).trans ((ext3.less hm2).trans (Ext.sub hh3 hcut hfew)))⟩
    rcases he with rfl | rfl
    · exact fin
    · exact fin
  | _ => exact q0.elim
section
variable {K : Ctx} {m : Nat} {Q : Post} {S : St} {ops : Array Oper} {rest : List Oper} {op : Op} {ty : TypeId} {pos : String} {af : Array Edge} {gd : Option (Nat × Bool)}
theorem WL.unguard {d : Option Nat} {G : Bool} (hg : Grd K ops S ⟨d, op, ty, pos, af, gd⟩ G) (hG : G = true) (h : WL K m ops Q (⟨d, op, ty, pos, af, none⟩ :: rest) S) : WL K m ops Q (⟨d, op, ty, pos, af, gd⟩ :: rest) S := by
  intro L a w Qc hs hq
  have h1 := h L a w Qc hs hq
  subst hG
  unfold wpList at h1 ⊢
  rw [if_pos (hg L a w hs)]
  rw [if_pos (show Region.wanted (⟨d, op, ty, pos, af, none⟩ : Oper) (yielded ops a.tmps) = true from rfl)] at h1
  have e : ∀ ρ, execOp ρ ⟨d, op, ty, pos, af, gd⟩ = execOp ρ ⟨d, op, ty, pos, af, none⟩ := fun ρ => by cases op <;> rfl
  rcases h1 with h1 | ⟨h1, h2⟩
  · left
    unfold Oper.wp at h1 ⊢
    rw [e]
    exact h1
  · right
    refine ⟨?_, h2⟩
    unfold Oper.asks at h1 ⊢
    rw [e]
    exact h1
theorem WL.gskip {d : Nat} {x : AV} {G : Bool} (hg : Grd K ops S ⟨some d, op, ty, pos, af, gd⟩ G) (hG : G = false) (hd : Nat.ble (d + 1) S.n = true) (h : WL K m ops Q rest (S.put d (.opt G x))) : WL K m ops Q (⟨some d, op, ty, pos, af, gd⟩ :: rest) S :=
  WL.g hg (fun h => by rw [hG] at h; cases h) hd h
theorem ACD.mono {E : Env} {f : FuncId} {args : List AV} {h : Heap} {R R' : AV → Heap → Prop} (hc : ACD E f args h R) (hr : ∀ r h, R r h → R' r h) : ACD E f args h R' :=
  fun X L w vs u h1 h2 h3 h4 => (hc X L w vs u h1 h2 h3 h4).mono fun e u' w' ⟨e1, r, h', L', v, a, b, c⟩ => ⟨e1, r, h', L', v, a, hr _ _ b, c⟩
end
section
variable {K : Ctx} {S : St} {d : Option Nat} {ty : TypeId} {pos : String} {af : Array Edge} {gd : Option (Nat × Bool)}
theorem run_indexArr {P : Program} {w : World} {ρ : Operand → Value} {T E : TypeId} {x y : Operand} {k : IntKind} {i : Int} {s n b o : Nat} (hT : P.underlying T = some (.array n E)) (hE : (P.info? E).map (·.size) = some s)
    (hx : ρ x = .pointer (some ⟨b, o, none⟩)) (hy : ρ y = .int k i) (h0 : 0 ≤ i) (h1 : i < n) : (execOp ρ ⟨d, .indexAddr T x y, ty, pos, af, gd⟩).run P w = .ok (.value (.pointer (some ⟨b, o + i.toNat * s, none⟩))) w := by
  have e1 := run_size (P := P) (w := w) hE
  have e2 := run_und (P := P) (w := w) hT
  simp [execOp, Instr.indexAt, hx, hy, asIntOf, e1, e2, h0, h1, Instr.sureAddr, add_at, go_sem]
theorem Val.ixArr {T E : TypeId} {x y : Operand} {k : IntKind} {j : Int} {id gen s i o sz n off : Nat} (hT : K.P.underlying T = some (.array n E)) (hE : (K.P.info? E).map (·.size) = some sz)
    (hx : Ev K S x (.ptr id gen s i o)) (hy : Ev K S y (.f (.v (.int k j)))) (h0 : 0 ≤ j) (h1 : j < n) (ho : j.toNat * sz = off) : Val K S ⟨d, .indexAddr T x y, ty, pos, af, gd⟩ (.ptr id gen s i (o + off)) := fun L a w hs => by
  obtain ⟨b, tot, hL, e⟩ := hx L a w hs
  subst ho
  exact ⟨_, run_indexArr hT hE e (hy L a w hs) h0 h1, b, tot, hL, by rw [Nat.add_assoc]⟩
end
section
variable {K : Ctx} {m : Nat} {S : St} {d : Option Nat} {ty : TypeId} {pos : String} {af : Array Edge} {gd : Option (Nat × Bool)}
theorem Stp.makeAt {T E : TypeId} {x y : Operand} {j n bytes : Nat} {z : Value} (hT : K.P.underlying T = some (.slice E)) (hE : (K.P.info? E).map (·.size) = some 1) (hb : (K.P.info? E).map (·.bytes) = some bytes) (hz : (K.P.info? E).map (·.zero) = some (some z)) (hz1 : z.cells = #[z])
    (hx : Ev K S x (.i n)) (hy : Ev K S y (.i n)) (hl : n * bytes ≤ 281474976710656) (hn : n ≤ 1152921504606846976) (hj : S.heap[j]? = some none) (hd : dstOk d S.n = true) :
    Stp K m S ⟨d, .makeSlice T x y, ty, pos, af, gd⟩ (({ S with heap := S.heap.set j (some ⟨0, 1, List.replicate n [.f (.v z)]⟩) } : St).putD d (.row j 0 1 0 n)) := fun L a w hs => by
  have ex : a.eval x = .int .i64 n := hx L a w hs
  have ey : a.eval y = .int .i64 n := hy L a w hs
  have e1 := run_und (P := K.P) (w := w) hT
  have e2 := run_size (P := K.P) (w := w) hE
  have e3 := run_zero (P := K.P) (w := w) hz
  obtain ⟨inf, hib, hi⟩ := run_info (P := K.P) (w := w) hb
  have hw : IntKind.i64.wrap (n : Int) = n := IntWalk.i64_in _ (by omega)
  have hc1 : ¬ ((inf.bytes : Int) * (n : Int) > 2 ^ 48) := by
    have h1 : ((n * bytes : Nat) : Int) ≤ 281474976710656 := by omega
    rw [hib, Int.mul_comm, ← Int.natCast_mul]; omega
  have hrun : ∃ c : Array Value, c.size = n * 1 ∧ (∀ i, i < n → c[i]? = some z) ∧ (Instr.makeSlice T (.int .i64 n) (.int .i64 n)).run K.P w = .ok (.slice (some ⟨w.heap.size, 0, none⟩) n n) { w with heap := w.heap.push (.cells c E) } := by
    refine ⟨(Array.range (n * 1)).map ((if n * 1 = 0 then #[] else z.cells)[· % (if n * 1 = 0 then (#[] : Array Value) else z.cells).size]!), by simp, ?_, ?_⟩
    · intro i hi
      have hne : ¬ (n * 1 = 0) := by omega
      have hin : i < n * 1 := by omega
      simp only [Array.getElem?_map, Array.getElem?_range, hin, if_true, hne, if_false, hz1, Option.map_some, mod_one_get]
    · simp only [Instr.makeSlice, Sem.run_bind, e1, Result.andThen_ok, asInt, asIntOf, Sem.run_pure, hi, hw]
      rw [if_neg (by simp only [Bool.or_eq_true, decide_eq_true_eq]; omega)]
      simp only [Sem.run_bind, Sem.run_pure, Result.andThen_ok, run_askRoom, e2, Int.toNat_natCast]
      by_cases h0 : n * 1 = 0
      · simp only [h0, if_true, Sem.run_pure, Result.andThen_ok, newRow, newObj, Sem.run_bind, Sem.run]
      · simp only [h0, if_false, Sem.run_bind, e3, Result.andThen_ok, Sem.run_pure, newRow, newObj, Sem.run]
  obtain ⟨c, hcs, hcz, hrun⟩ := hrun
  have hp := hs.plant (j := j) (r := ⟨0, 1, List.replicate n [.f (.v z)]⟩) (c := c) (E := E) (tot := n) hj hcs (by simp) (by
    intro i e he
    rw [List.getElem?_replicate] at he
    split at he
    · rename_i hin
      cases he
      have h1 := hcz i hin
      have : (c.toList.drop (i * 1)).take 1 = [z] := by
        apply List.ext_getElem?
        intro k
        rw [List.getElem?_take]
        cases k with
        | zero => rw [if_pos (by omega), List.getElem?_drop, Array.getElem?_toList, Nat.mul_one, Nat.add_zero, h1]; rfl
        | succ k => rw [if_neg (by omega)]; rfl
      show AV.repL _ _ _ _ ((c.toList.drop (i * 1)).take 1)
      rw [this]; exact ⟨rfl, trivial⟩
    · cases he)
  refine ⟨.value (.slice (some ⟨w.heap.size, 0, none⟩) n n), _, _, _, ?_, .inl rfl, hp.putD (dst_ok hd) ⟨w.heap.size, n, by simp [Link.new], by simp, by omega⟩, ?_⟩
  · generalize a.eval = ρ at ex ey
    simp only [execOp, ex, ey, Sem.run_bind, hrun, Result.andThen_ok, Sem.run_pure]
  · rw [putD_heap]; exact Ext.plant hs.hs hj
theorem Stp.makeIAt {j : Nat} {T E : TypeId} {x y : Operand} {n : Int} {bytes : Nat} (hT : K.P.underlying T = some (.slice E)) (hE : (K.P.info? E).map (·.size) = some 1) (hb : (K.P.info? E).map (·.bytes) = some bytes) (hz : (K.P.info? E).map (·.zero) = some (some (.int .i64 0)))
    (hx : Ev K S x (.i n)) (hy : Ev K S y (.i n)) (h0 : 0 ≤ n) (h1 : n * bytes ≤ 281474976710656 ∧ n ≤ 1152921504606846976) (hj : S.heap[j]? = some none) (hd : dstOk d S.n = true) :
    Stp K m S ⟨d, .makeSlice T x y, ty, pos, af, gd⟩ (({ S with heap := S.heap.set j (some ⟨0, 1, fz ((List.replicate n.toNat 0).map encI)⟩) } : St).putD d (.row j 0 1 0 n.toNat)) := by
  have e : (n.toNat : Int) = n := by omega
  have hm : n.toNat * bytes ≤ 281474976710656 := by
    have : ((n.toNat * bytes : Nat) : Int) ≤ 281474976710656 := by rw [Int.natCast_mul, e]; exact h1.1
    omega
  have := Stp.makeAt (m := m) (j := j) (d := d) (ty := ty) (pos := pos) (af := af) (gd := gd) hT hE hb hz rfl (by rw [e]; exact hx) (by rw [e]; exact hy) hm (by omega) hj hd
  simpa [fz, encI] using this
end
end Go.Aw
namespace Go.Aw
open Go.RowKit
section
variable {K : Ctx} {S : St} {d : Option Nat} {ty : TypeId} {pos : String} {af : Array Edge} {gd : Option (Nat × Bool)}
theorem Ev.nilL {x : Operand} {s : Nat} (h : Ev K S x .nil) : Ev K S x (.f (.lst s [])) := fun L a w hs => Le.nil _ _ _ _ (h L a w hs)
theorem run_field {P : Program} {w : World} {ρ : Operand → Value} {T : TypeId} {x : Operand} {j off : Nat} {fs : Array Field} {fl : Field} {td : TypeDesc} {vs : Array Value} {v : Value} (hT : P.underlying T = some (.struct fs)) (hf : fs[j]? = some fl) (ho : fl.offset = off) (hF : P.underlying fl.type = some td) (ha : aggB td = false)
    (hx : ρ x = .agg vs) (hv : vs[off]? = some v) : (execOp ρ ⟨d, .field T x j, ty, pos, af, gd⟩).run P w = .ok (.value v) w := by
  have e1 := run_und (P := P) (w := w) hT
  have e2 := run_isAgg (P := P) (w := w) hF
  simp [execOp, Instr.field, e1, hf, hx, asAgg, part, e2, ha, ho, hv, go_sem]
theorem Val.field {T : TypeId} {x : Operand} {j off : Nat} {fs : Array Field} {fl : Field} {td : TypeDesc} {xs : List AV} {y : AV} (hT : K.P.underlying T = some (.struct fs)) (hf : fs[j]? = some fl) (ho : fl.offset = off) (hF : K.P.underlying fl.type = some td) (ha : aggB td = false)
    (hx : Ev K S x (.agg xs)) (hy : xs[off]? = some y) : Val K S ⟨d, .field T x j, ty, pos, af, gd⟩ y := fun L a w hs => by
  obtain ⟨vs, e, hr⟩ := hx L a w hs
  obtain ⟨v, hv, hrv⟩ := AV.repL_get hr hy
  exact ⟨v, run_field hT hf ho hF ha e (by simpa using hv), hrv⟩
end
end Go.Aw
namespace Go.Aw
open Go.RowKit

/-- A regular expression's cells, one level of it told. -/
abbrev rxc (r : Rx) : List FV := [.i r.kind, .v (.int .u8 r.lo), .v (.int .u8 r.hi), .lst 4 (r.kids.map Rx.cells)]
abbrev rxE (r : Rx) : AV := .agg [.i r.kind, .c r.lo, .c r.hi, .f (.lst 4 (r.kids.map Rx.cells))]
theorem els_rx : ∀ l : List Rx, elsOf (l.map rxE) = fz (l.map Rx.cells)
  | [] => rfl
  | r :: l => by
    have := els_rx l
    simp only [elsOf, fz, List.map_cons, List.map_map] at this ⊢
    rw [this, Rx.cells_eq]; rfl
section
variable {K : Ctx} {S : St} {d : Option Nat} {ty : TypeId} {pos : String} {af : Array Edge} {gd : Option (Nat × Bool)}
theorem Val.ixRx {l : List Rx} {a : Rx} {T E : TypeId} {x y : Operand} {k : IntKind} {i : Int} (hT : K.P.underlying T = some (.slice E)) (hE : (K.P.info? E).map (·.size) = some 4)
    (hx : Ev K S x (.f (.lst 4 (l.map Rx.cells)))) (hy : Ev K S y (.f (.v (.int k i)))) (h0 : 0 ≤ i) (h1 : l[i.toNat]? = some a) : Val K S ⟨d, .indexAddr T x y, ty, pos, af, gd⟩ (.f (.ref (rxc a))) := by
  have := Val.ix (d := d) (ty := ty) (pos := pos) (af := af) (gd := gd) hT hE hx hy h0 h1
  rwa [Rx.cells_eq] at this
end
mutual
def Rx.nodes : Rx → Nat
  | .mk _ _ _ ks => 1 + Rx.nodesL ks
def Rx.nodesL : List Rx → Nat
  | [] => 0
  | r :: rs => r.nodes + Rx.nodesL rs
end
theorem Rx.nodes_eq (r : Rx) : r.nodes = 1 + Rx.nodesL r.kids := by cases r; rw [Rx.nodes]; rfl
theorem Rx.nodesL_append : ∀ a b : List Rx, Rx.nodesL (a ++ b) = Rx.nodesL a + Rx.nodesL b
  | [], b => by simp [Rx.nodesL]
  | x :: a, b => by simp only [List.cons_append, Rx.nodesL, Rx.nodesL_append a b]; omega
theorem Rx.pos (r : Rx) : 1 ≤ r.nodes := by rw [Rx.nodes_eq]; omega
theorem Rx.nodesL_mem : ∀ {l : List Rx} {x : Rx}, x ∈ l → x.nodes ≤ Rx.nodesL l
  | y :: l, x, h => by
    rw [Rx.nodesL]
    rcases List.mem_cons.1 h with rfl | h
    · omega
    · have := Rx.nodesL_mem h; omega
theorem Rx.nodesL_len : ∀ l : List Rx, l.length ≤ Rx.nodesL l
  | [] => by simp [Rx.nodesL]
  | x :: l => by have := Rx.nodesL_len l; have := x.pos; simp only [List.length_cons, Rx.nodesL]; omega
theorem Rx.kid_lt {r x : Rx} (h : x ∈ r.kids) : x.nodes < r.nodes := by have := Rx.nodesL_mem h; rw [Rx.nodes_eq r]; omega
theorem Rx.kids_len (r : Rx) : r.kids.length < r.nodes := by have := Rx.nodesL_len r.kids; rw [Rx.nodes_eq r]; omega
theorem Rx.nodesL_take {l : List Rx} {k : Int} (h0 : 0 ≤ k) (h1 : k < l.length) : Rx.nodesL (l.take (k + 1).toNat) = Rx.nodesL (l.take k.toNat) + (gA l k).nodes := by
  rw [show (k + 1).toNat = k.toNat + 1 from by omega, List.take_add_one, gA_at h0 h1, Rx.nodesL_append]
  simp [Rx.nodesL]
theorem Rx.nodesL_le_take (l : List Rx) (k : Nat) : Rx.nodesL (l.take k) ≤ Rx.nodesL l := by
  have := Rx.nodesL_append (l.take k) (l.drop k)
  rw [List.take_append_drop] at this; omega
/-- Bytes are bytes. -/
inductive RxB : Rx → Prop where
  | mk {r : Rx} : 0 ≤ r.lo ∧ r.lo ≤ 255 → 0 ≤ r.hi ∧ r.hi ≤ 255 → (∀ x, x ∈ r.kids → RxB x) → RxB r
theorem RxB.lo {r : Rx} (h : RxB r) : 0 ≤ r.lo ∧ r.lo ≤ 255 := by cases h; assumption
theorem RxB.hi {r : Rx} (h : RxB r) : 0 ≤ r.hi ∧ r.hi ≤ 255 := by cases h; assumption
theorem RxB.kid {r : Rx} (h : RxB r) : ∀ x, x ∈ r.kids → RxB x := by cases h; assumption
/-- Kinds and numbers of kids are right. -/
inductive RxK : Rx → Prop where
  | mk {r : Rx} : 0 ≤ r.kind ∧ r.kind ≤ 7 → (r.kind = 6 ∨ r.kind = 7 → r.kids.length = 1) → (∀ x, x ∈ r.kids → RxK x) → RxK r
theorem RxK.kind {r : Rx} (h : RxK r) : 0 ≤ r.kind ∧ r.kind ≤ 7 := by cases h; assumption
theorem RxK.one {r : Rx} (h : RxK r) : r.kind = 6 ∨ r.kind = 7 → r.kids.length = 1 := by cases h; assumption
theorem RxK.kid {r : Rx} (h : RxK r) : ∀ x, x ∈ r.kids → RxK x := by cases h; assumption
def RxG (r : Rx) : Prop := RxB r ∧ RxK r
theorem RxG.kid {r : Rx} (h : RxG r) {x : Rx} (hx : x ∈ r.kids) : RxG x := ⟨h.1.kid x hx, h.2.kid x hx⟩
theorem RxG.mk {r : Rx} (h1 : 0 ≤ r.lo ∧ r.lo ≤ 255) (h2 : 0 ≤ r.hi ∧ r.hi ≤ 255) (h3 : 0 ≤ r.kind ∧ r.kind ≤ 7) (h4 : r.kind = 6 ∨ r.kind = 7 → r.kids.length = 1) (h5 : ∀ x, x ∈ r.kids → RxG x) : RxG r :=
  ⟨.mk h1 h2 fun x hx => (h5 x hx).1, .mk h3 h4 fun x hx => (h5 x hx).2⟩
theorem RxG.leaf {k lo hi : Int} (h1 : 0 ≤ lo ∧ lo ≤ 255) (h2 : 0 ≤ hi ∧ hi ≤ 255) (h3 : 0 ≤ k ∧ k ≤ 5) : RxG (.mk k lo hi []) :=
  RxG.mk h1 h2 ⟨h3.1, by show k ≤ 7; omega⟩ (fun h => by exfalso; have : k = 6 ∨ k = 7 := h; omega) (fun x hx => by have : x ∈ ([] : List Rx) := hx; simp at this)
theorem RxG.list {k : Int} {ks : List Rx} (h : 0 ≤ k ∧ k ≤ 7) (h1 : k = 6 ∨ k = 7 → ks.length = 1) (h2 : ∀ x, x ∈ ks → RxG x) : RxG (.mk k 0 0 ks) :=
  RxG.mk (r := .mk k 0 0 ks) ⟨Int.le_refl _, by show (0 : Int) ≤ 255; decide⟩ ⟨Int.le_refl _, by show (0 : Int) ≤ 255; decide⟩ h h1 h2
theorem rxLen (x : Rx) : (Rx.cells x).length = 4 := by rw [Rx.cells_eq]; rfl
/-- The expression for all strings. -/
abbrev rxAll : Rx := .mk 6 0 0 [.mk 0 0 0 []]
theorem rxAll_good : RxG rxAll := RxG.list (by decide) (fun _ => rfl) (fun x hx => by rw [List.mem_singleton.1 hx]; exact RxG.leaf (by decide) (by decide) (by decide))
end Go.Aw
namespace Go.Aw
open Go.RowKit Go.Proofs

theorem good_one {k : Int} {n : Nat} (h0 : 0 ≤ k) (h7 : k ≤ 7) (h1 : gA ([0, 0, 0, 0, 0, 0, 1, 1] : List Int) k ≤ n) (h2 : (n : Int) ≤ gA ([0, 0, 0, 64, 64, 64, 1, 1] : List Int) k) : k = 6 ∨ k = 7 → n = 1 := by
  rintro (rfl | rfl)
  · have a : gA ([0, 0, 0, 0, 0, 0, 1, 1] : List Int) 6 = 1 := rfl
    have b : gA ([0, 0, 0, 64, 64, 64, 1, 1] : List Int) 6 = 1 := rfl
    omega
  · have a : gA ([0, 0, 0, 0, 0, 0, 1, 1] : List Int) 7 = 1 := rfl
    have b : gA ([0, 0, 0, 64, 64, 64, 1, 1] : List Int) 7 = 1 := rfl
    omega

theorem byte_le (b : UInt8) : (b.toNat : Int) ≤ 255 := by have := b.toNat_lt; omega
def hexS : ByteArray := ⟨#[48, 49, 50, 51, 52, 53, 54, 55, 56, 57, 97, 98, 99, 100, 101, 102]⟩
def digB (n : Int) : Int := (gB hexS n).toNat
def plainB (c : Int) : Bool := ((decide (32 ≤ c) && decide (c ≤ 126)) && decide (¬ c = 39)) && decide (¬ c = 92)
theorem nat_stepX {P : Nat → Prop} {i : Int} (h0 : 0 ≤ i) (h : ∀ j : Nat, j < i.toNat → P j) (hi : P i.toNat) : ∀ j : Nat, j < (i + 1).toNat → P j := fun j hj => by
  by_cases hji : j = i.toNat
  · rw [hji]; exact hi
  · exact h j (by omega)
theorem gA_natX {α : Type} [Inhabited α] {l : List α} {j : Nat} (h : j < l.length) : l[j]? = some (gA l j) := by
  have := gA_at (l := l) (i := (j : Int)) (by omega) (by omega)
  rwa [Int.toNat_natCast] at this
theorem all_gAX {α : Type} [Inhabited α] {l : List α} {P : α → Prop} (h : ∀ j : Nat, j < l.length → P (gA l j)) : ∀ x, x ∈ l → P x := fun x hx => by
  obtain ⟨j, hj⟩ := List.mem_iff_getElem?.1 hx
  have hl := (List.getElem?_eq_some_iff.1 hj).1
  have := gA_natX hl
  rw [hj] at this
  rw [Option.some.inj this]; exact h j hl

theorem binds_ok {k : Int} (h0 : 0 ≤ k) (h1 : k < 3) : 0 ≤ gA ([2, 0, 1] : List Int) k ∧ gA ([2, 0, 1] : List Int) k ≤ 4 := by
  have : k = 0 ∨ k = 1 ∨ k = 2 := by omega
  rcases this with rfl | rfl | rfl <;> decide
theorem i_natX {i : Int} (h : 0 ≤ i) : ((i.toNat : Nat) : Int) = i := by omega

-- enthymemeref04.Nodes
set_option maxHeartbeats 1000000 in
theorem c_Nodes (W0 : World) (N : Nat)  : ∀ (b : Nat) (r : Rx), r.nodes < b → r.nodes ≤ 1000000 → AC (En W0 N) 80 [rxE r] [] (fun r' h => h = [] ∧ r' = .i r.nodes) := by
  intro b
  induction b with
  | zero => intro r h1; omega
  | succ b ih =>
  intro r hb hn
  have hne := r.nodes_eq
  have hkl := r.kids_len
  refine AC.enter Tryd.func80 rfl Tryd.ntmps80 (bl rfl) fun X => ?_
  refine sr ?_
  refine WL.stp rfl (Stp.box (tm rfl) rfl rfl) ?_
  refine WL.v (Val.assign Ev.const) rfl ?_
  refine WL.norm 21 [(1, _)] [some ⟨_, _, [[_, _, _, _]]⟩] rfl ⟨rfl, trivial⟩ rfl rfl ?_
  refine wn ?_
  refine sr ?_
  refine WL.v (Val.assign Ev.const) rfl ?_
  refine WL.norm 21 [(1, _), (3, _)] [some ⟨_, _, [[_, _, _, _]]⟩] rfl ⟨rfl, rfl, trivial⟩ rfl rfl ?_
  refine wn ?_
  refine W.seq ?_
  refine sr ?_
  refine WL.v (Val.assign Ev.const) rfl ?_
  refine WL.norm 21 [(1, _), (3, _), (4, _)] [some ⟨_, _, [[_, _, _, _]]⟩] rfl ⟨rfl, rfl, rfl, trivial⟩ rfl rfl ?_
  refine wn ?_
  refine W.norm 21 [(1, _), (3, _), (4, _)] [some ⟨_, _, [[_, _, _, _]]⟩] rfl ⟨rfl, rfl, rfl, trivial⟩ rfl rfl ?_
  refine W.block (W.loop (fun nn S => ∃ (k q : Int), S = ⟨21, [(1, .ptr 0 0 4 0 0), (3, .i q), (4, .i k)], [some ⟨0, 4, [[.i r.kind, .c r.lo, .c r.hi, .f (.lst 4 (r.kids.map Rx.cells))]]⟩], []⟩ ∧ nn = ((r.kids.length - k).toNat) ∧ (0 ≤ k) ∧ (k ≤ r.kids.length) ∧ (q = ((1 + Rx.nodesL (r.kids.take k.toNat) : Nat) : Int))) ⟨0, _, rfl, rfl, by omega, by omega, rfl⟩ ?_)
  rintro nn S ⟨k, q, rfl, rfl, hk0, hk1, hq⟩
  refine W.seq ?_
  refine sr ?_
  refine mv rfl rfl ?_
  refine WL.v (Val.fal (off := 3) Tryd.underlying98 rfl rfl zs96 (tm rfl)) rfl ?_
  refine WL.v (Val.loadLive Tryd.underlying96 rfl (tm rfl) rfl rfl rfl rfl rfl) rfl ?_
  refine WL.v (Val.ln (enc := Rx.cells) Tryd.underlying96 (tm rfl)) rfl ?_
  refine WL.v (Val.lss (tm rfl) (tm rfl)) rfl ?_
  refine WL.norm 21 [(1, _), (3, _), (4, _), (9, _)] [some ⟨_, _, [[_, _, _, _]]⟩] rfl ⟨rfl, rfl, rfl, rfl, trivial⟩ rfl rfl ?_
  refine wn ?_
  refine W.condP rfl (fun hc3 => ?_) (fun hc3 => ?_)
  · try simp only [td] at hc3
    refine W.skip (nm ?_)
    refine W.seq ?_
    refine W.block ?_
    have hmem := gA_mem (l := r.kids) hk0 hc3
    have hlt := Rx.kid_lt hmem
    have hst := Rx.nodesL_take hk0 hc3
    have hle := Rx.nodesL_le_take r.kids (k + 1).toNat
    refine W.region ?_
    refine mv rfl rfl ?_
    refine WL.v (Val.fal (off := 3) Tryd.underlying98 rfl rfl zs96 (tm rfl)) rfl ?_
    refine WL.v (Val.loadLive Tryd.underlying96 rfl (tm rfl) rfl rfl rfl rfl rfl) rfl ?_
    refine mv rfl rfl ?_
    refine WL.v (Val.ixRx Tryd.underlying96 zs98 (tm rfl) (tm rfl) (by omega) (gA_at (by omega) (by omega))) rfl ?_
    refine WL.v (Val.loadAgg Tryd.underlying98 rfl zs98 (tm rfl) (bl rfl)) rfl ?_
    refine WL.callV ca80 (evc (tm rfl) evn) (lo2 rfl lo0) rfl (ih _ (by omega) (by omega)) ?_
    rintro _ rfl
    refine WL.v (Val.add (tm rfl) (tm rfl) (IntWalk.i64_in _ (by omega))) rfl ?_
    refine asg rfl rfl ?_
    refine WL.norm 21 [(1, _), (3, _), (4, _)] [some ⟨_, _, [[_, _, _, _]]⟩] rfl ⟨rfl, rfl, rfl, trivial⟩ rfl rfl ?_
    refine WL.nil (nb (nm ?_))
    refine W.region ?_
    refine mv rfl rfl ?_
    refine WL.v (Val.add (tm rfl) Ev.const (IntWalk.i64_in _ (by omega))) rfl ?_
    refine asg rfl rfl ?_
    refine WL.norm 21 [(1, _), (3, _), (4, _)] [some ⟨_, _, [[_, _, _, _]]⟩] rfl ⟨rfl, rfl, rfl, trivial⟩ rfl rfl ?_
    refine wn ?_
    exact ⟨_, by omega, k + 1, _, rfl, rfl, by omega, by omega, by rw [hq, hst]; omega⟩
  try simp only [td] at hc3
  refine W.exit (ex1 (ex1 (ex2 (nm ?_))))
  refine sr ?_
  refine mv rfl rfl ?_
  refine asg rfl rfl ?_
  refine WL.norm 21 [(2, _)] [some ⟨_, _, [[_, _, _, _]]⟩] rfl ⟨rfl, trivial⟩ rfl rfl ?_
  refine wn ?_
  refine W.ret ?_
  have hall : r.kids.take k.toNat = r.kids := List.take_of_length_le (by omega)
  rw [hall] at hq
  exact Ret.of (.inr rfl) rfl (res1 rfl rfl) (Fewer.nil _) (.inr trivial) (fun id h => absurd h (Nat.not_lt_zero _)) (.same rfl) ⟨rfl, by rw [hq, hne]⟩
-- enthymemeref04.good
set_option maxHeartbeats 1000000 in
theorem c_good (W0 : World) (N : Nat)  : ∀ (b : Nat) (r : Rx), r.nodes < b → r.nodes ≤ 1000000 → RxB r → AC (En W0 N) 96 [rxE r] [] (fun r' h => h = [] ∧ ∃ q, r' = .b q ∧ (q = true → RxK r)) := by
  intro b
  induction b with
  | zero => intro r h1; omega
  | succ b ih =>
  intro r hb hn hB
  have hlo := hB.lo
  have hhi := hB.hi
  have hkl := r.kids_len
  refine AC.enter Tryd.func96 rfl Tryd.ntmps96 (bl rfl) fun X => ?_
  refine sr ?_
  refine WL.stp rfl (Stp.box (tm rfl) rfl rfl) ?_
  refine WL.v (Val.assign Ev.const) rfl ?_
  refine WL.norm 69 [(1, _)] [some ⟨_, _, [[_, _, _, _]]⟩] rfl ⟨rfl, trivial⟩ rfl rfl ?_
  refine wn ?_
  refine sr ?_
  refine WL.stp rfl (Stp.buildFrozen (xs := [_, _, _, _, _, _, _, _]) (fs := ([0, 0, 0, 64, 64, 64, 1, 1] : List Int).map encI) Tryd.underlying22 zs3 zz3 rfl rfl (evc Ev.const (evc Ev.const (evc Ev.const (evc Ev.const (evc Ev.const (evc Ev.const (evc Ev.const (evc Ev.const evn)))))))) fitL (bl rfl) rfl rfl) ?_
  refine asg rfl rfl ?_
  refine WL.norm 69 [(1, _), (3, _)] [some ⟨_, _, [[_, _, _, _]]⟩] rfl ⟨rfl, rfl, trivial⟩ rfl rfl ?_
  refine wn ?_
  refine sr ?_
  refine WL.stp rfl (Stp.buildFrozen (xs := [_, _, _, _, _, _, _, _]) (fs := ([0, 0, 0, 0, 0, 0, 1, 1] : List Int).map encI) Tryd.underlying22 zs3 zz3 rfl rfl (evc Ev.const (evc Ev.const (evc Ev.const (evc Ev.const (evc Ev.const (evc Ev.const (evc Ev.const (evc Ev.const evn)))))))) fitL (bl rfl) rfl rfl) ?_
  refine asg rfl rfl ?_
  refine WL.norm 69 [(1, _), (3, _), (4, _)] [some ⟨_, _, [[_, _, _, _]]⟩] rfl ⟨rfl, rfl, rfl, trivial⟩ rfl rfl ?_
  refine wn ?_
  refine W.seq ?_
  refine W.seq ?_
  refine W.drawE (fun k => ([([], []), ([0], []), ([], []), ([], []), ([], []), ([0], []), ([], []), ([], []), ([], []), ([], []), ([0], []), ([], []), ([], []), ([], []), ([0], []), ([], []), ([], []), ([], []), ([], []), ([], []), ([], []), ([0], []), ([], []), ([], []), ([], []), ([0], []), ([], []), ([], []), ([], []), ([], [])] : List (List Nat × List Nat)).getD k ([], [])) rfl (by kernel_rfl) (bl rfl) ?_
  refine LexE.val rfl rfl rfl (fun h' ha => Val.fal (off := 0) Tryd.underlying98 rfl rfl zs3 (tm rfl)) ?_
  refine LexE.val rfl rfl rfl (fun h' ha => Val.loadLive Tryd.underlying3 rfl (tm rfl) ((ha.at_ 0 (by decide)).trans rfl) rfl rfl rfl rfl) ?_
  refine LexE.val rfl rfl rfl (fun h' ha => Val.lss (tm rfl) Ev.const) ?_
  refine LexE.val rfl rfl rfl (fun h' ha => Val.move (tm rfl)) ?_
  refine LexE.gval rfl (fun h' => (Grd.f rfl rfl rfl)) rfl (fun hG h' ha => Val.fal (off := 0) Tryd.underlying98 rfl rfl zs3 (tm rfl)) ?_
  refine LexE.gval rfl (fun h' => (Grd.f rfl rfl rfl)) rfl (fun hG h' ha => Val.loadLive Tryd.underlying3 rfl (Ev.opt rfl hG) ((ha.at_ 0 (by decide)).trans rfl) rfl rfl rfl rfl) ?_
  refine LexE.gval rfl (fun h' => (Grd.f rfl rfl rfl)) rfl (fun hG h' ha => Val.gtr (Ev.opt rfl hG) Ev.const) ?_
  refine LexE.val rfl rfl rfl (fun h' ha => Val.or (tm rfl) (fun hb => Ev.opt rfl (nt hb))) ?_
  refine LexE.val rfl rfl rfl (fun h' ha => Val.move (tm rfl)) ?_
  refine LexE.gval rfl (fun h' => (Grd.f rfl rfl rfl)) rfl (fun hG h' ha => Val.fal (off := 3) Tryd.underlying98 rfl rfl zs96 (tm rfl)) ?_
  refine LexE.gval rfl (fun h' => (Grd.f rfl rfl rfl)) rfl (fun hG h' ha => Val.loadLive Tryd.underlying96 rfl (Ev.opt rfl hG) ((ha.at_ 0 (by decide)).trans rfl) rfl rfl rfl rfl) ?_
  refine LexE.gval rfl (fun h' => (Grd.f rfl rfl rfl)) rfl (fun hG h' ha => Val.ln (enc := Rx.cells) Tryd.underlying96 (Ev.opt rfl hG)) ?_
  refine LexE.gval rfl (fun h' => (Grd.f rfl rfl rfl)) rfl (fun hG h' ha => Val.move (tm rfl)) ?_
  refine LexE.gval rfl (fun h' => (Grd.f rfl rfl rfl)) rfl (fun hG h' ha => Val.fal (off := 0) Tryd.underlying98 rfl rfl zs3 (tm rfl)) ?_
  refine LexE.gval rfl (fun h' => (Grd.f rfl rfl rfl)) rfl (fun hG h' ha => Val.loadLive Tryd.underlying3 rfl (Ev.opt rfl hG) ((ha.at_ 0 (by decide)).trans rfl) rfl rfl rfl rfl) ?_
  refine LexE.gval rfl (fun h' => (Grd.f rfl rfl rfl)) rfl (fun hG h' ha => Val.ix (enc := encI) Tryd.underlying22 zs3 (Ev.opt rfl hG) (Ev.opt rfl hG) (by try simp only [td] at hG; omega) (gA_at (by try simp only [td] at hG; omega) (by try simp only [td] at hG; show _ < (8 : Int); omega))) ?_
  refine LexE.gval rfl (fun h' => (Grd.f rfl rfl rfl)) rfl (fun hG h' ha => Val.load Tryd.underlying3 rfl (Ev.opt rfl hG)) ?_
  refine LexE.gval rfl (fun h' => (Grd.f rfl rfl rfl)) rfl (fun hG h' ha => Val.lss (Ev.opt rfl hG) (Ev.opt rfl hG)) ?_
  refine LexE.val rfl rfl rfl (fun h' ha => Val.or (tm rfl) (fun hb => Ev.opt rfl (nt hb))) ?_
  refine LexE.val rfl rfl rfl (fun h' ha => Val.move (tm rfl)) ?_
  refine LexE.gval rfl (fun h' => (Grd.f rfl rfl rfl)) rfl (fun hG h' ha => Val.fal (off := 3) Tryd.underlying98 rfl rfl zs96 (tm rfl)) ?_
  refine LexE.gval rfl (fun h' => (Grd.f rfl rfl rfl)) rfl (fun hG h' ha => Val.loadLive Tryd.underlying96 rfl (Ev.opt rfl hG) ((ha.at_ 0 (by decide)).trans rfl) rfl rfl rfl rfl) ?_
  refine LexE.gval rfl (fun h' => (Grd.f rfl rfl rfl)) rfl (fun hG h' ha => Val.ln (enc := Rx.cells) Tryd.underlying96 (Ev.opt rfl hG)) ?_
  refine LexE.gval rfl (fun h' => (Grd.f rfl rfl rfl)) rfl (fun hG h' ha => Val.move (tm rfl)) ?_
  refine LexE.gval rfl (fun h' => (Grd.f rfl rfl rfl)) rfl (fun hG h' ha => Val.fal (off := 0) Tryd.underlying98 rfl rfl zs3 (tm rfl)) ?_
  refine LexE.gval rfl (fun h' => (Grd.f rfl rfl rfl)) rfl (fun hG h' ha => Val.loadLive Tryd.underlying3 rfl (Ev.opt rfl hG) ((ha.at_ 0 (by decide)).trans rfl) rfl rfl rfl rfl) ?_
  refine LexE.gval rfl (fun h' => (Grd.f rfl rfl rfl)) rfl (fun hG h' ha => Val.ix (enc := encI) Tryd.underlying22 zs3 (Ev.opt rfl hG) (Ev.opt rfl hG) (by try simp only [td] at hG; omega) (gA_at (by try simp only [td] at hG; omega) (by try simp only [td] at hG; show _ < (8 : Int); omega))) ?_
  refine LexE.gval rfl (fun h' => (Grd.f rfl rfl rfl)) rfl (fun hG h' ha => Val.load Tryd.underlying3 rfl (Ev.opt rfl hG)) ?_
  refine LexE.gval rfl (fun h' => (Grd.f rfl rfl rfl)) rfl (fun hG h' ha => Val.gtr (Ev.opt rfl hG) (Ev.opt rfl hG)) ?_
  refine LexE.val rfl rfl rfl (fun h' ha => Val.or (tm rfl) (fun hb => Ev.opt rfl (nt hb))) ?_
  refine LexE.nil (nm ?_)
  refine W.norm 69 [(1, _), (38, _)] [some ⟨_, _, [[_, _, _, _]]⟩] rfl ⟨rfl, rfl, trivial⟩ rfl rfl ?_
  refine W.condP rfl (fun hc3 => ?_) (fun hc3 => ?_)
  · try simp only [td] at hc3
    refine sr ?_
    refine WL.v (Val.assign Ev.const) rfl ?_
    refine WL.norm 69 [(2, _)] [some ⟨_, _, [[_, _, _, _]]⟩] rfl ⟨rfl, trivial⟩ rfl rfl ?_
    refine wn ?_
    refine W.ret (rt1 ?_)
    exact Ret.of (.inr rfl) rfl (res1 rfl rfl) (Fewer.nil _) (.inr trivial) (fun id h => absurd h (Nat.not_lt_zero _)) (.same rfl) ⟨rfl, false, rfl, fun h => by cases h⟩
  try simp only [td] at hc3
  have hone := good_one (k := r.kind) (n := r.kids.length) (by omega) (by omega) (by omega) (by omega)
  refine W.skip (nm ?_)
  refine W.seq ?_
  refine sr ?_
  refine WL.v (Val.fal (off := 1) Tryd.underlying98 rfl rfl zs5 (tm rfl)) rfl ?_
  refine WL.v (Val.loadLive Tryd.underlying5 rfl (tm rfl) rfl rfl rfl rfl rfl) rfl ?_
  refine WL.v (Val.fal (off := 2) Tryd.underlying98 rfl rfl zs5 (tm rfl)) rfl ?_
  refine WL.v (Val.loadLive Tryd.underlying5 rfl (tm rfl) rfl rfl rfl rfl rfl) rfl ?_
  refine WL.v (Val.gtr (tm rfl) (tm rfl)) rfl ?_
  refine mv rfl rfl ?_
  refine WL.g (Grd.f rfl rfl rfl) (fun hG => Val.fal (off := 0) Tryd.underlying98 rfl rfl zs3 (tm rfl)) rfl ?_
  refine WL.g (Grd.f rfl rfl rfl) (fun hG => Val.loadLive Tryd.underlying3 rfl (Ev.opt rfl hG) rfl rfl rfl rfl rfl) rfl ?_
  refine WL.g (Grd.f rfl rfl rfl) (fun hG => Val.neq (Ev.opt rfl hG) Ev.const) rfl ?_
  refine WL.g (Grd.f rfl rfl rfl) (fun hG => Val.move (Ev.opt rfl hG)) rfl ?_
  refine WL.g (Grd.ot rfl rfl rfl) (fun hG => Val.fal (off := 2) Tryd.underlying98 rfl rfl zs5 (tm rfl)) rfl ?_
  refine WL.g (Grd.ot rfl rfl rfl) (fun hG => Val.loadLive Tryd.underlying5 rfl (Ev.opt rfl hG) rfl rfl rfl rfl rfl) rfl ?_
  refine WL.g (Grd.ot rfl rfl rfl) (fun hG => Val.gtr (Ev.opt rfl hG) Ev.const) rfl ?_
  refine WL.g (Grd.f rfl rfl rfl) (fun hG => Val.and (Ev.opt rfl hG) (fun hb => Ev.opt rfl (an hG hb))) rfl ?_
  refine WL.v (Val.or (tm rfl) (fun hb => Ev.opt rfl (nt hb))) rfl ?_
  refine WL.norm 69 [(1, _), (53, _)] [some ⟨_, _, [[_, _, _, _]]⟩] rfl ⟨rfl, rfl, trivial⟩ rfl rfl ?_
  refine wn ?_
  refine W.condP rfl (fun hc5 => ?_) (fun hc5 => ?_)
  · try simp only [td] at hc5
    refine sr ?_
    refine WL.v (Val.assign Ev.const) rfl ?_
    refine WL.norm 69 [(2, _)] [some ⟨_, _, [[_, _, _, _]]⟩] rfl ⟨rfl, trivial⟩ rfl rfl ?_
    refine wn ?_
    refine W.ret (rt1 ?_)
    exact Ret.of (.inr rfl) rfl (res1 rfl rfl) (Fewer.nil _) (.inr trivial) (fun id h => absurd h (Nat.not_lt_zero _)) (.same rfl) ⟨rfl, false, rfl, fun h => by cases h⟩
  try simp only [td] at hc5
  refine W.skip (nm ?_)
  refine W.seq ?_
  refine sr ?_
  refine WL.v (Val.assign Ev.const) rfl ?_
  refine WL.norm 69 [(1, _), (5, _)] [some ⟨_, _, [[_, _, _, _]]⟩] rfl ⟨rfl, rfl, trivial⟩ rfl rfl ?_
  refine wn ?_
  refine W.norm 69 [(1, _), (5, _)] [some ⟨_, _, [[_, _, _, _]]⟩] rfl ⟨rfl, rfl, trivial⟩ rfl rfl ?_
  refine W.block (W.loop (fun nn S => ∃ (k : Int), S = ⟨69, [(1, .ptr 0 0 4 0 0), (5, .i k)], [some ⟨0, 4, [[.i r.kind, .c r.lo, .c r.hi, .f (.lst 4 (r.kids.map Rx.cells))]]⟩], []⟩ ∧ nn = ((r.kids.length - k).toNat) ∧ (0 ≤ k) ∧ (k ≤ r.kids.length) ∧ (∀ j : Nat, j < k.toNat → RxK (gA r.kids j))) ⟨0, rfl, rfl, by omega, by omega, fun j hj => absurd hj (by simp)⟩ ?_)
  rintro nn S ⟨k, rfl, rfl, hk0, hk1, hq⟩
  refine W.seq ?_
  refine sr ?_
  refine mv rfl rfl ?_
  refine WL.v (Val.fal (off := 3) Tryd.underlying98 rfl rfl zs96 (tm rfl)) rfl ?_
  refine WL.v (Val.loadLive Tryd.underlying96 rfl (tm rfl) rfl rfl rfl rfl rfl) rfl ?_
  refine WL.v (Val.ln (enc := Rx.cells) Tryd.underlying96 (tm rfl)) rfl ?_
  refine WL.v (Val.lss (tm rfl) (tm rfl)) rfl ?_
  refine WL.norm 69 [(1, _), (5, _), (58, _)] [some ⟨_, _, [[_, _, _, _]]⟩] rfl ⟨rfl, rfl, rfl, trivial⟩ rfl rfl ?_
  refine wn ?_
  refine W.condP rfl (fun hc8 => ?_) (fun hc8 => ?_)
  · try simp only [td] at hc8
    refine W.skip (nm ?_)
    refine W.seq ?_
    refine W.block ?_
    refine W.seq ?_
    have hmem := gA_mem (l := r.kids) hk0 hc8
    have hlt := Rx.kid_lt hmem
    refine W.region ?_
    refine WL.v (Val.fal (off := 3) Tryd.underlying98 rfl rfl zs96 (tm rfl)) rfl ?_
    refine WL.v (Val.loadLive Tryd.underlying96 rfl (tm rfl) rfl rfl rfl rfl rfl) rfl ?_
    refine mv rfl rfl ?_
    refine WL.v (Val.ixRx Tryd.underlying96 zs98 (tm rfl) (tm rfl) (by omega) (gA_at (by omega) (by omega))) rfl ?_
    refine WL.v (Val.loadAgg Tryd.underlying98 rfl zs98 (tm rfl) (bl rfl)) rfl ?_
    refine WL.callV ca96 (evc (tm rfl) evn) (lo2 rfl lo0) rfl (ih _ (by omega) (by omega) (hB.kid _ hmem)) ?_
    rintro _ ⟨q_, rfl, hq_⟩
    refine asg rfl rfl ?_
    refine WL.norm 69 [(1, _), (5, _), (6, _)] [some ⟨_, _, [[_, _, _, _]]⟩] rfl ⟨rfl, rfl, rfl, trivial⟩ rfl rfl ?_
    refine wn ?_
    refine sr ?_
    refine mv rfl rfl ?_
    refine WL.v (Val.not (tm rfl)) rfl ?_
    refine WL.norm 69 [(1, _), (5, _), (68, _)] [some ⟨_, _, [[_, _, _, _]]⟩] rfl ⟨rfl, rfl, rfl, trivial⟩ rfl rfl ?_
    refine wn ?_
    refine W.condP rfl (fun hc11 => ?_) (fun hc11 => ?_)
    · try simp only [td] at hc11
      refine sr ?_
      refine WL.v (Val.assign Ev.const) rfl ?_
      refine WL.norm 69 [(2, _)] [some ⟨_, _, [[_, _, _, _]]⟩] rfl ⟨rfl, trivial⟩ rfl rfl ?_
      refine wn ?_
      refine W.ret (rt2 (rt1 (rt1 (rt2 (rt1 ?_)))))
      exact Ret.of (.inr rfl) rfl (res1 rfl rfl) (Fewer.nil _) (.inr trivial) (fun id h => absurd h (Nat.not_lt_zero _)) (.same rfl) ⟨rfl, false, rfl, fun h => by cases h⟩
    try simp only [td] at hc11
    have hkid := hq_ (by assumption)
    refine W.skip (nb (nm ?_))
    refine W.region ?_
    refine mv rfl rfl ?_
    refine WL.v (Val.add (tm rfl) Ev.const (IntWalk.i64_in _ (by omega))) rfl ?_
    refine asg rfl rfl ?_
    refine WL.norm 69 [(1, _), (5, _)] [some ⟨_, _, [[_, _, _, _]]⟩] rfl ⟨rfl, rfl, trivial⟩ rfl rfl ?_
    refine wn ?_
    exact ⟨_, by omega, k + 1, rfl, rfl, by omega, by omega, nat_stepX hk0 hq (by rw [i_natX hk0]; exact hkid)⟩
  try simp only [td] at hc8
  refine W.exit (ex1 (ex1 (ex2 (nm ?_))))
  refine sr ?_
  refine WL.v (Val.assign Ev.const) rfl ?_
  refine WL.norm 69 [(2, _)] [some ⟨_, _, [[_, _, _, _]]⟩] rfl ⟨rfl, trivial⟩ rfl rfl ?_
  refine wn ?_
  refine W.ret ?_
  exact Ret.of (.inr rfl) rfl (res1 rfl rfl) (Fewer.nil _) (.inr trivial) (fun id h => absurd h (Nat.not_lt_zero _)) (.same rfl) ⟨rfl, true, rfl, fun _ => .mk (by omega) hone (all_gAX fun j hj => hq j (by omega))⟩
-- enthymemeref04.Valid
set_option maxHeartbeats 1000000 in
theorem c_RxValid (W0 : World) (N : Nat) (r : Rx) (hn : r.nodes ≤ 1000000) (hB : RxB r) : AC (En W0 N) 81 [rxE r] [] (fun r' h => h = [] ∧ ∃ e, r' = .i e ∧ (e = 0 → RxG r)) := by
  refine AC.enter Tryd.func81 rfl Tryd.ntmps81 (bl rfl) fun X => ?_
  refine sr ?_
  refine WL.stp rfl (Stp.box (tm rfl) rfl rfl) ?_
  refine WL.v (Val.assign Ev.const) rfl ?_
  refine WL.norm 11 [(1, _)] [some ⟨_, _, [[_, _, _, _]]⟩] rfl ⟨rfl, trivial⟩ rfl rfl ?_
  refine wn ?_
  refine W.seq ?_
  refine sr ?_
  refine WL.v (Val.loadLiveAgg Tryd.underlying98 rfl zs98 (tm rfl) rfl rfl rfl rfl (bl rfl)) rfl ?_
  refine WL.callV ca80 (evc (tm rfl) evn) (lo2 rfl lo0) rfl (c_Nodes W0 N _ _ (Nat.lt_succ_self _) (by omega)) ?_
  rintro _ rfl
  refine WL.v (Val.gtr (tm rfl) Ev.const) rfl ?_
  refine WL.norm 11 [(1, _), (6, _)] [some ⟨_, _, [[_, _, _, _]]⟩] rfl ⟨rfl, rfl, trivial⟩ rfl rfl ?_
  refine wn ?_
  refine W.condP rfl (fun hc1 => ?_) (fun hc1 => ?_)
  · try simp only [td] at hc1
    refine sr ?_
    refine WL.v (Val.assign Ev.const) rfl ?_
    refine WL.norm 11 [(2, _)] [some ⟨_, _, [[_, _, _, _]]⟩] rfl ⟨rfl, trivial⟩ rfl rfl ?_
    refine wn ?_
    refine W.ret (rt1 ?_)
    exact Ret.of (.inr rfl) rfl (res1 rfl rfl) (Fewer.nil _) (.inr trivial) (fun id h => absurd h (Nat.not_lt_zero _)) (.same rfl) ⟨rfl, 4, rfl, fun h => by cases h⟩
  try simp only [td] at hc1
  refine W.skip (nm ?_)
  refine sr ?_
  refine WL.v (Val.loadLiveAgg Tryd.underlying98 rfl zs98 (tm rfl) rfl rfl rfl rfl (bl rfl)) rfl ?_
  refine WL.callV ca96 (evc (tm rfl) evn) (lo2 rfl lo0) rfl (c_good W0 N _ _ (Nat.lt_succ_self _) (by omega) hB) ?_
  rintro _ ⟨q_, rfl, hq_⟩
  refine asg rfl rfl ?_
  refine WL.norm 11 [(3, _)] [some ⟨_, _, [[_, _, _, _]]⟩] rfl ⟨rfl, trivial⟩ rfl rfl ?_
  refine wn ?_
  refine W.seq ?_
  refine sr ?_
  refine mv rfl rfl ?_
  refine WL.v (Val.not (tm rfl)) rfl ?_
  refine WL.norm 11 [(10, _)] [some ⟨_, _, [[_, _, _, _]]⟩] rfl ⟨rfl, trivial⟩ rfl rfl ?_
  refine wn ?_
  refine W.condP rfl (fun hc4 => ?_) (fun hc4 => ?_)
  · try simp only [td] at hc4
    refine sr ?_
    refine WL.v (Val.assign Ev.const) rfl ?_
    refine WL.norm 11 [(2, _)] [some ⟨_, _, [[_, _, _, _]]⟩] rfl ⟨rfl, trivial⟩ rfl rfl ?_
    refine wn ?_
    refine W.ret (rt1 ?_)
    exact Ret.of (.inr rfl) rfl (res1 rfl rfl) (Fewer.nil _) (.inr trivial) (fun id h => absurd h (Nat.not_lt_zero _)) (.same rfl) ⟨rfl, 1, rfl, fun h => by cases h⟩
  try simp only [td] at hc4
  refine W.skip (nm ?_)
  refine sr ?_
  refine WL.v (Val.assign Ev.const) rfl ?_
  refine WL.norm 11 [(2, _)] [some ⟨_, _, [[_, _, _, _]]⟩] rfl ⟨rfl, trivial⟩ rfl rfl ?_
  refine wn ?_
  refine W.ret ?_
  exact Ret.of (.inr rfl) rfl (res1 rfl rfl) (Fewer.nil _) (.inr trivial) (fun id h => absurd h (Nat.not_lt_zero _)) (.same rfl) ⟨rfl, 0, rfl, fun _ => ⟨hB, hq_ (by assumption)⟩⟩
-- enthymemeref04.Everything
set_option maxHeartbeats 1000000 in
theorem c_Everything (W0 : World) (N : Nat)  : AC (En W0 N) 56 [] [] (fun r h => h = [] ∧ r = rxE rxAll) := by
  refine AC.enter Tryd.func56 rfl Tryd.ntmps56 (bl rfl) fun X => ?_
  refine sr ?_
  refine WL.stp rfl (Stp.alloc zz98 rfl rfl) ?_
  refine WL.norm 4 [(0, _)] [some ⟨_, _, [[_, _, _, _]]⟩] rfl ⟨rfl, trivial⟩ rfl rfl ?_
  refine wn ?_
  refine sr ?_
  refine WL.v (Val.le (Val.build (vs := []) Tryd.underlying98 zz98 rfl rfl pl98 rfl trivial) (Le.agg (ys := [_, _, _, .f (.lst 4 [])]) (LeL.cons (Le.refl _) (LeL.cons (Le.refl _) (LeL.cons (Le.refl _) (LeL.cons Le.nil LeL.nil)))))) rfl ?_
  refine WL.stp rfl (Stp.buildFrozen (xs := [_]) (fs := ([.mk 0 0 0 []] : List Rx).map Rx.cells) Tryd.underlying96 zs98 zz98 rfl rfl (evc (tm rfl) evn) fitL (bl rfl) (els_rx ([.mk 0 0 0 []] : List Rx)) rfl) ?_
  refine WL.v (Val.build (vs := [(0, _), (3, _)]) Tryd.underlying98 zz98 rfl rfl pl98 rfl ⟨Ev.const, rfl, rfl, rfl, ⟨(tm rfl), rfl, rfl, rfl, trivial⟩⟩) rfl ?_
  refine WL.stp rfl (Stp.st (tm rfl) (tm rfl) zs98 rfl rfl rfl rfl rfl rfl rfl rfl) ?_
  refine WL.norm 4 [(0, _)] [some ⟨_, _, [[_, _, _, _]]⟩] rfl ⟨rfl, trivial⟩ rfl rfl ?_
  refine wn ?_
  refine W.ret ?_
  exact Ret.of (.inr rfl) rfl (resCell rfl Tryd.underlying98 rfl zs98 rfl rfl rfl rfl rfl rfl) (Fewer.nil _) (.inr trivial) (fun id h => absurd h (Nat.not_lt_zero _)) (.same rfl) ⟨rfl, rfl⟩
-- enthymemeref04.few
set_option maxHeartbeats 1000000 in
theorem c_few (W0 : World) (N : Nat) (r : Rx) (hn : r.nodes ≤ 1000000) : AC (En W0 N) 82 [rxE r] [] (fun r' h => h = [] ∧ ∃ x e, r' = .tup [rxE x, .i e] ∧ (e = 0 → x = r ∧ r.nodes ≤ 64)) := by
  refine AC.enter Tryd.func82 rfl Tryd.ntmps82 (bl rfl) fun X => ?_
  refine sr ?_
  refine WL.stp rfl (Stp.box (tm rfl) rfl rfl) ?_
  refine WL.stp rfl (Stp.alloc zz98 rfl rfl) ?_
  refine WL.v (Val.assign Ev.const) rfl ?_
  refine WL.norm 9 [(1, _), (2, _)] [some ⟨_, _, [[_, _, _, _]]⟩, some ⟨_, _, [[_, _, _, _]]⟩] rfl ⟨rfl, rfl, trivial⟩ rfl rfl ?_
  refine wn ?_
  refine W.seq ?_
  refine sr ?_
  refine WL.v (Val.loadLiveAgg Tryd.underlying98 rfl zs98 (tm rfl) rfl rfl rfl rfl (bl rfl)) rfl ?_
  refine WL.callV ca80 (evc (tm rfl) evn) (lo2 rfl lo0) rfl (c_Nodes W0 N _ _ (Nat.lt_succ_self _) (by omega)) ?_
  rintro _ rfl
  refine WL.v (Val.gtr (tm rfl) Ev.const) rfl ?_
  refine WL.norm 9 [(1, _), (2, _), (6, _)] [some ⟨_, _, [[_, _, _, _]]⟩, some ⟨_, _, [[_, _, _, _]]⟩] rfl ⟨rfl, rfl, rfl, trivial⟩ rfl rfl ?_
  refine wn ?_
  refine W.condP rfl (fun hc1 => ?_) (fun hc1 => ?_)
  · try simp only [td] at hc1
    refine sr ?_
    refine WL.v (Val.le (Val.build (vs := []) Tryd.underlying98 zz98 rfl rfl pl98 rfl trivial) (Le.agg (ys := [_, _, _, .f (.lst 4 [])]) (LeL.cons (Le.refl _) (LeL.cons (Le.refl _) (LeL.cons (Le.refl _) (LeL.cons Le.nil LeL.nil)))))) rfl ?_
    refine WL.stp rfl (Stp.st (tm rfl) (tm rfl) zs98 rfl rfl rfl rfl rfl rfl rfl rfl) ?_
    refine WL.v (Val.assign Ev.const) rfl ?_
    refine WL.norm 9 [(2, _), (3, _)] [some ⟨_, _, [[_, _, _, _]]⟩, some ⟨_, _, [[_, _, _, _]]⟩] rfl ⟨rfl, rfl, trivial⟩ rfl rfl ?_
    refine wn ?_
    refine W.ret (rt1 ?_)
    exact Ret.of (.inr rfl) rfl (resCell2 rfl Tryd.underlying98 rfl zs98 rfl rfl rfl rfl rfl rfl rfl) (Fewer.nil _) (.inr trivial) (fun id h => absurd h (Nat.not_lt_zero _)) (.same rfl) ⟨rfl, .mk 0 0 0 [], 4, rfl, fun h => by cases h⟩
  try simp only [td] at hc1
  refine W.skip (nm ?_)
  refine sr ?_
  refine WL.v (Val.loadLiveAgg Tryd.underlying98 rfl zs98 (tm rfl) rfl rfl rfl rfl (bl rfl)) rfl ?_
  refine WL.stp rfl (Stp.st (tm rfl) (tm rfl) zs98 rfl rfl rfl rfl rfl rfl rfl rfl) ?_
  refine WL.v (Val.assign Ev.const) rfl ?_
  refine WL.norm 9 [(2, _), (3, _)] [some ⟨_, _, [[_, _, _, _]]⟩, some ⟨_, _, [[_, _, _, _]]⟩] rfl ⟨rfl, rfl, trivial⟩ rfl rfl ?_
  refine wn ?_
  refine W.ret ?_
  exact Ret.of (.inr rfl) rfl (resCell2 rfl Tryd.underlying98 rfl zs98 rfl rfl rfl rfl rfl rfl rfl) (Fewer.nil _) (.inr trivial) (fun id h => absurd h (Nat.not_lt_zero _)) (.same rfl) ⟨rfl, r, 0, rfl, fun _ => ⟨rfl, by omega⟩⟩
-- enthymemeref04.digit
set_option maxHeartbeats 1000000 in
theorem c_digit (W0 : World) (N : Nat) (n : Int) (h0 : 0 ≤ n) (h1 : n < 16) : AC (En W0 N) 84 [.i n] [] (fun r h => h = [] ∧ r = .c (digB n)) := by
  refine AC.enter Tryd.func84 rfl Tryd.ntmps84 (bl rfl) fun X => ?_
  refine sr ?_
  refine WL.v (Val.assign Ev.const) rfl ?_
  refine WL.norm 5 [(0, _)] [] rfl ⟨rfl, trivial⟩ rfl rfl ?_
  refine wn ?_
  refine sr ?_
  refine mv rfl rfl ?_
  refine WL.v (Val.ixB Tryd.underlying9 Ev.const (tm rfl) (by omega) (by show _ < (16 : Int); omega)) rfl ?_
  refine asg rfl rfl ?_
  refine WL.norm 5 [(2, _)] [] rfl ⟨rfl, trivial⟩ rfl rfl ?_
  refine wn ?_
  refine W.ret ?_
  exact Ret.of (.inr rfl) rfl (res1 rfl rfl) (Fewer.nil _) (.inr trivial) (fun id h => absurd h (Nat.not_lt_zero _)) (.same rfl) ⟨rfl, rfl⟩
-- enthymemeref04.plain
set_option maxHeartbeats 1000000 in
theorem c_plain (W0 : World) (N : Nat) (c : Int) : AC (En W0 N) 83 [.c c] [] (fun r h => h = [] ∧ r = .b (plainB c)) := by
  refine AC.enter Tryd.func83 rfl Tryd.ntmps83 (bl rfl) fun X => ?_
  refine sr ?_
  refine WL.v (Val.assign Ev.const) rfl ?_
  refine WL.norm 17 [(0, _)] [] rfl ⟨rfl, trivial⟩ rfl rfl ?_
  refine wn ?_
  refine sr ?_
  refine mv rfl rfl ?_
  refine WL.v (Val.geq (tm rfl) Ev.const) rfl ?_
  refine mv rfl rfl ?_
  refine WL.g (Grd.t rfl rfl rfl) (fun hG => Val.move (tm rfl)) rfl ?_
  refine WL.g (Grd.t rfl rfl rfl) (fun hG => Val.leq (Ev.opt rfl hG) Ev.const) rfl ?_
  refine WL.v (Val.and (tm rfl) (fun hb => Ev.opt rfl hb)) rfl ?_
  refine mv rfl rfl ?_
  refine WL.g (Grd.t rfl rfl rfl) (fun hG => Val.move (tm rfl)) rfl ?_
  refine WL.g (Grd.t rfl rfl rfl) (fun hG => Val.neq (Ev.opt rfl hG) Ev.const) rfl ?_
  refine WL.v (Val.and (tm rfl) (fun hb => Ev.opt rfl hb)) rfl ?_
  refine mv rfl rfl ?_
  refine WL.g (Grd.t rfl rfl rfl) (fun hG => Val.move (tm rfl)) rfl ?_
  refine WL.g (Grd.t rfl rfl rfl) (fun hG => Val.neq (Ev.opt rfl hG) Ev.const) rfl ?_
  refine WL.v (Val.and (tm rfl) (fun hb => Ev.opt rfl hb)) rfl ?_
  refine asg rfl rfl ?_
  refine WL.norm 17 [(2, _)] [] rfl ⟨rfl, trivial⟩ rfl rfl ?_
  refine wn ?_
  refine W.ret ?_
  exact Ret.of (.inr rfl) rfl (res1 rfl rfl) (Fewer.nil _) (.inr trivial) (fun id h => absurd h (Nat.not_lt_zero _)) (.same rfl) ⟨rfl, rfl⟩
-- enthymemeref04.low
set_option maxHeartbeats 1000000 in
theorem c_low (W0 : World) (N : Nat) (c : Int) : AC (En W0 N) 70 [.c c] [] (fun r' h => h = [] ∧ ∃ q, r' = .b q ∧ True) := by
  refine AC.enter Tryd.func70 rfl Tryd.ntmps70 (bl rfl) fun X => ?_
  refine sr ?_
  refine WL.v (Val.assign Ev.const) rfl ?_
  refine WL.norm 9 [(0, _)] [] rfl ⟨rfl, trivial⟩ rfl rfl ?_
  refine wn ?_
  refine sr ?_
  refine mv rfl rfl ?_
  refine WL.v (Val.geq (tm rfl) Ev.const) rfl ?_
  refine mv rfl rfl ?_
  refine WL.g (Grd.t rfl rfl rfl) (fun hG => Val.move (tm rfl)) rfl ?_
  refine WL.g (Grd.t rfl rfl rfl) (fun hG => Val.leq (Ev.opt rfl hG) Ev.const) rfl ?_
  refine WL.v (Val.and (tm rfl) (fun hb => Ev.opt rfl hb)) rfl ?_
  refine asg rfl rfl ?_
  refine WL.norm 9 [(2, _)] [] rfl ⟨rfl, trivial⟩ rfl rfl ?_
  refine wn ?_
  refine W.ret ?_
  exact Ret.of (.inr rfl) rfl (res1 rfl rfl) (Fewer.nil _) (.inr trivial) (fun id h => absurd h (Nat.not_lt_zero _)) (.same rfl) ⟨rfl, _, rfl, trivial⟩
-- enthymemeref04.binds
set_option maxHeartbeats 1000000 in
theorem c_binds (W0 : World) (N : Nat) (r : Rx) (hK : RxK r) : AC (En W0 N) 68 [rxE r] [] (fun r' h => h = [] ∧ ∃ q, r' = .i q ∧ 0 ≤ q ∧ q ≤ 4) := by
  have hkk := hK.kind
  have hkl := r.kids_len
  refine AC.enter Tryd.func68 rfl Tryd.ntmps68 (bl rfl) fun X => ?_
  refine sr ?_
  refine WL.stp rfl (Stp.box (tm rfl) rfl rfl) ?_
  refine WL.v (Val.assign Ev.const) rfl ?_
  refine WL.norm 26 [(1, _)] [some ⟨_, _, [[_, _, _, _]]⟩] rfl ⟨rfl, trivial⟩ rfl rfl ?_
  refine wn ?_
  refine W.seq ?_
  refine sr ?_
  refine WL.v (Val.fal (off := 0) Tryd.underlying98 rfl rfl zs3 (tm rfl)) rfl ?_
  refine WL.v (Val.loadLive Tryd.underlying3 rfl (tm rfl) rfl rfl rfl rfl rfl) rfl ?_
  refine WL.v (Val.eql (tm rfl) Ev.const) rfl ?_
  refine WL.norm 26 [(1, _), (5, _)] [some ⟨_, _, [[_, _, _, _]]⟩] rfl ⟨rfl, rfl, trivial⟩ rfl rfl ?_
  refine wn ?_
  refine W.condP rfl (fun hc1 => ?_) (fun hc1 => ?_)
  · try simp only [td] at hc1
    refine sr ?_
    refine WL.v (Val.assign Ev.const) rfl ?_
    refine WL.norm 26 [(2, _)] [some ⟨_, _, [[_, _, _, _]]⟩] rfl ⟨rfl, trivial⟩ rfl rfl ?_
    refine wn ?_
    refine W.ret (rt1 ?_)
    exact Ret.of (.inr rfl) rfl (res1 rfl rfl) (Fewer.nil _) (.inr trivial) (fun id h => absurd h (Nat.not_lt_zero _)) (.same rfl) ⟨rfl, 3, rfl, by omega, by omega⟩
  try simp only [td] at hc1
  refine W.skip (nm ?_)
  refine W.seq ?_
  refine sr ?_
  refine WL.v (Val.fal (off := 0) Tryd.underlying98 rfl rfl zs3 (tm rfl)) rfl ?_
  refine WL.v (Val.loadLive Tryd.underlying3 rfl (tm rfl) rfl rfl rfl rfl rfl) rfl ?_
  refine WL.v (Val.lss (tm rfl) Ev.const) rfl ?_
  refine mv rfl rfl ?_
  refine WL.g (Grd.f rfl rfl rfl) (fun hG => Val.fal (off := 0) Tryd.underlying98 rfl rfl zs3 (tm rfl)) rfl ?_
  refine WL.g (Grd.f rfl rfl rfl) (fun hG => Val.loadLive Tryd.underlying3 rfl (Ev.opt rfl hG) rfl rfl rfl rfl rfl) rfl ?_
  refine WL.g (Grd.f rfl rfl rfl) (fun hG => Val.eql (Ev.opt rfl hG) Ev.const) rfl ?_
  refine WL.v (Val.or (tm rfl) (fun hb => Ev.opt rfl (nt hb))) rfl ?_
  refine mv rfl rfl ?_
  refine WL.g (Grd.f rfl rfl rfl) (fun hG => Val.fal (off := 3) Tryd.underlying98 rfl rfl zs96 (tm rfl)) rfl ?_
  refine WL.g (Grd.f rfl rfl rfl) (fun hG => Val.loadLive Tryd.underlying96 rfl (Ev.opt rfl hG) rfl rfl rfl rfl rfl) rfl ?_
  refine WL.g (Grd.f rfl rfl rfl) (fun hG => Val.ln (enc := Rx.cells) Tryd.underlying96 (Ev.opt rfl hG)) rfl ?_
  refine WL.g (Grd.f rfl rfl rfl) (fun hG => Val.lss (Ev.opt rfl hG) Ev.const) rfl ?_
  refine WL.v (Val.or (tm rfl) (fun hb => Ev.opt rfl (nt hb))) rfl ?_
  refine WL.norm 26 [(1, _), (19, _)] [some ⟨_, _, [[_, _, _, _]]⟩] rfl ⟨rfl, rfl, trivial⟩ rfl rfl ?_
  refine wn ?_
  refine W.condP rfl (fun hc3 => ?_) (fun hc3 => ?_)
  · try simp only [td] at hc3
    refine sr ?_
    refine WL.v (Val.assign Ev.const) rfl ?_
    refine WL.norm 26 [(2, _)] [some ⟨_, _, [[_, _, _, _]]⟩] rfl ⟨rfl, trivial⟩ rfl rfl ?_
    refine wn ?_
    refine W.ret (rt1 ?_)
    exact Ret.of (.inr rfl) rfl (res1 rfl rfl) (Fewer.nil _) (.inr trivial) (fun id h => absurd h (Nat.not_lt_zero _)) (.same rfl) ⟨rfl, 4, rfl, by omega, by omega⟩
  try simp only [td] at hc3
  refine W.skip (nm ?_)
  refine sr ?_
  refine WL.stp rfl (Stp.buildFrozen (xs := [_, _, _]) (fs := ([2, 0, 1] : List Int).map encI) Tryd.underlying22 zs3 zz3 rfl rfl (evc Ev.const (evc Ev.const (evc Ev.const evn))) fitL (bl rfl) rfl rfl) ?_
  refine WL.v (Val.fal (off := 0) Tryd.underlying98 rfl rfl zs3 (tm rfl)) rfl ?_
  refine WL.v (Val.loadLive Tryd.underlying3 rfl (tm rfl) rfl rfl rfl rfl rfl) rfl ?_
  refine WL.v (Val.sub (tm rfl) Ev.const (IntWalk.i64_in _ (by omega))) rfl ?_
  refine WL.v (Val.ix (enc := encI) Tryd.underlying22 zs3 (tm rfl) (tm rfl) (by omega) (gA_at (by omega) (by show _ < (3 : Int); omega))) rfl ?_
  refine WL.v (Val.load Tryd.underlying3 rfl (tm rfl)) rfl ?_
  refine asg rfl rfl ?_
  refine WL.norm 26 [(2, _)] [some ⟨_, _, [[_, _, _, _]]⟩] rfl ⟨rfl, trivial⟩ rfl rfl ?_
  refine wn ?_
  refine W.ret ?_
  exact Ret.of (.inr rfl) rfl (res1 rfl rfl) (Fewer.nil _) (.inr trivial) (fun id h => absurd h (Nat.not_lt_zero _)) (.same rfl) ⟨rfl, _, rfl, binds_ok (by omega) (by omega)⟩
end Go.Aw
namespace Go.Aw
open Go.RowKit Go.Proofs

def encC (x : Int) : List FV := [.v (.int .u8 x)]
/-- The string of some bytes. -/
def strB (ns : List Int) : ByteArray := ns.foldl (fun r n => r.push (UInt8.ofNat n.toNat)) ByteArray.empty
theorem push_size (s : ByteArray) (b : UInt8) : (s.push b).size = s.size + 1 := by cases s; simp [ByteArray.push, ByteArray.size]
theorem strB_fold : ∀ (ns : List Int) (s : ByteArray), (ns.foldl (fun r n => r.push (UInt8.ofNat n.toNat)) s).size = s.size + ns.length
  | [], s => by simp
  | n :: ns, s => by rw [List.foldl_cons, strB_fold ns, push_size, List.length_cons]; omega
theorem strB_size (ns : List Int) : (strB ns).size = ns.length := by rw [strB, strB_fold]; show 0 + _ = _; omega
theorem ba_size (a b : ByteArray) : (a ++ b).size = a.size + b.size := by simp
section
variable {K : Ctx} {S : St} {d : Option Nat} {ty : TypeId} {pos : String} {af : Array Edge} {gd : Option (Nat × Bool)}
theorem Val.convBytes {T T' E : TypeId} {x : Operand} {l : List Int} (hs : K.P.underlying T = some (.slice E)) (he : K.P.underlying E = some (.int .u8)) (hd : K.P.underlying T' = some .string)
    (hx : Ev K S x (.f (.lst 1 (l.map encC)))) : Val K S ⟨d, .convert T T' x, ty, pos, af, gd⟩ (.s (strB l)) := fun L a w hS => by
  obtain ⟨ad, cap, e, hcap, h⟩ := hx L a w hS
  rcases h with h | ⟨b, off, rfl, hb, hX, hr⟩
  · have hl : l = [] := by cases l with | nil => rfl | cons => simp at h
    subst hl
    refine ⟨.string ByteArray.empty, ?_, rfl⟩
    generalize a.eval = ρ at e
    have h1 := run_convert_bytes_string w T T' E ad (List.map encC []).length cap hs he hd
    simp only [execOp, e, Sem.run_bind, h1]
    cases ad with
    | none => simp [Conv.bytesToString, Sem.run_pure]
    | some ad =>
      have h2 := run_bytesToString (P := K.P) w ad 0 cap [] (by simp [loadCells, loadCellsFrom, go_sem])
      simp only [List.map_nil, List.length_nil, h2, List.foldl_nil, Result.andThen_ok, Sem.run_pure]
  · have hcells : (loadCells ⟨b, off, none⟩ (l.map encC).length).run K.P w = .ok (l.map (Value.int .u8)).toArray w := by
      have := run_loadCells (P := K.P) (w := w) (b := b) (off := off) (vs := l.map (Value.int .u8)) (fun k y hk => by
        rw [List.getElem?_map] at hk
        cases hz : l[k]? with
        | none => rw [hz] at hk; cases hk
        | some z =>
          rw [hz] at hk; cases hk
          have h1 := FV.repEls_at hr (i := k) (c := encC z) (by rw [List.getElem?_map, hz]; rfl)
          obtain ⟨⟨v, hv, hrv⟩, _⟩ := h1.2
          have hv2 : v = .int .u8 z := hrv
          subst hv2
          rw [Nat.mul_one] at hv; exact hv)
      rw [List.length_map] at this
      rw [List.length_map]; exact this
    refine ⟨.string (strB l), ?_, rfl⟩
    generalize a.eval = ρ at e
    have h1 := run_convert_bytes_string w T T' E (some ⟨b, off, none⟩) (l.map encC).length cap hs he hd
    have h2 := run_bytesToString (P := K.P) w ⟨b, off, none⟩ (l.map encC).length cap l hcells
    simp only [execOp, e, Sem.run_bind, h1, h2, Result.andThen_ok, Sem.run_pure]
    rfl
end
/-! ### The order -/
def lexI : List Int → List Int → Int
  | x :: xs, y :: ys => if x < y then -1 else if y < x then 1 else lexI xs ys
  | _, _ => 0
def kidsCmp (f : Rx → Rx → Int) : List Rx → List Rx → Int
  | x :: xs, y :: ys => if f x y ≠ 0 then f x y else kidsCmp f xs ys
  | [], [] => 0
  | [], _ :: _ => -1
  | _ :: _, [] => 1
abbrev keyR (r : Rx) : List Int := [r.kind, r.lo, r.hi]
def cmpF : Nat → Rx → Rx → Int
  | 0, _, _ => 0
  | b + 1, a, c => if lexI (keyR a) (keyR c) ≠ 0 then lexI (keyR a) (keyR c) else kidsCmp (cmpF b) a.kids c.kids
theorem drop_stepX {α : Type} [Inhabited α] {l : List α} {i : Int} (h0 : 0 ≤ i) (h1 : i < l.length) : l.drop i.toNat = gA l i :: l.drop (i + 1).toNat := by
  have hlt : i.toNat < l.length := by omega
  have e := gA_at h0 h1
  rw [List.drop_eq_getElem_cons hlt, show (i + 1).toNat = i.toNat + 1 from by omega]
  congr 1
  exact (List.getElem?_eq_some_iff.1 e).2
theorem lex_step {l m : List Int} {i : Int} (h0 : 0 ≤ i) (h1 : i < l.length) (h2 : i < m.length) : lexI (l.drop i.toNat) (m.drop i.toNat) = if gA l i < gA m i then -1 else if gA m i < gA l i then 1 else lexI (l.drop (i + 1).toNat) (m.drop (i + 1).toNat) := by
  rw [drop_stepX h0 h1, drop_stepX h0 h2, lexI]
theorem kc_step {f : Rx → Rx → Int} {l m : List Rx} {i : Int} (h0 : 0 ≤ i) (h1 : i < l.length) (h2 : i < m.length) : kidsCmp f (l.drop i.toNat) (m.drop i.toNat) = if f (gA l i) (gA m i) ≠ 0 then f (gA l i) (gA m i) else kidsCmp f (l.drop (i + 1).toNat) (m.drop (i + 1).toNat) := by
  rw [drop_stepX h0 h1, drop_stepX h0 h2, kidsCmp]
theorem kc_end {f : Rx → Rx → Int} {l m : List Rx} {i : Int} (h0 : 0 ≤ i) (h1 : i ≤ l.length) (h2 : i ≤ m.length) (h : ¬ (i < l.length ∧ i < m.length)) : kidsCmp f (l.drop i.toNat) (m.drop i.toNat) = if l.length < m.length then -1 else if m.length < l.length then 1 else 0 := by
  by_cases ha : i < l.length
  · have : m.drop i.toNat = [] := List.drop_eq_nil_iff.2 (by omega)
    rw [this, drop_stepX h0 ha, kidsCmp, if_neg (by omega), if_pos (by omega)]
  · have e : l.drop i.toNat = [] := List.drop_eq_nil_iff.2 (by omega)
    by_cases hb : i < m.length
    · rw [e, drop_stepX h0 hb, kidsCmp, if_pos (by omega)]
    · have e2 : m.drop i.toNat = [] := List.drop_eq_nil_iff.2 (by omega)
      rw [e, e2, kidsCmp, if_neg (by omega), if_neg (by omega)]
abbrev cmpR (a c : Rx) : Int := cmpF (a.nodes + 1) a c
end Go.Aw
