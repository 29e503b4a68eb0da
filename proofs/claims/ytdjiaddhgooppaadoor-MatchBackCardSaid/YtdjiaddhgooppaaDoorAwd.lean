/- The walks of the order of regular expressions and of lists of them. The walk of the normal form of regular expressions. The walks of simple and Normal of regular expressions. The walk of Write of regular expressions. The walk of Text of regular expressions. The walks of the parts of texts of regular expressions. The walk of Tokens. A small logic over the walk's rules: a guarded call in a region whose order is drawn, of a function that reads rows. The walks of the reader's small functions. The walks of the reader's lists. -/
import Derived.Test.YtdjiaddhgooppaaDoorAwc
set_option linter.unusedVariables false
set_option linter.unusedSimpArgs false
namespace Go.Aw
open Go.RowKit Go.Proofs

def byteS (c : Int) : ByteArray := if plainB c = true then strB [39, c, 39] else strB [92, 120, digB (c / 16), digB (c % 16)]
theorem byteS_size (c : Int) : 3 ≤ (byteS c).size ∧ (byteS c).size ≤ 4 := by
  rw [byteS]
  split
  · rw [strB_size]; exact ⟨Nat.le_of_ble_eq_true rfl, Nat.le_of_ble_eq_true rfl⟩
  · rw [strB_size]; exact ⟨Nat.le_of_ble_eq_true rfl, Nat.le_of_ble_eq_true rfl⟩
theorem put_mem {l : List Rx} {r : Rx} (a b : List Rx) (ha : ∀ x, x ∈ a → x ∈ l) (hb : ∀ x, x ∈ b → x ∈ l) : ∀ x, x ∈ a ++ [r] ++ b → x ∈ l ∨ x = r := fun x hx => by
  simp only [List.mem_append, List.mem_singleton] at hx
  rcases hx with (hx | hx) | hx
  · exact .inl (ha x hx)
  · exact .inr hx
  · exact .inl (hb x hx)
theorem put_fin {l L : List Rx} {r : Rx} {k : Int} (h0 : 0 ≤ k) (h1 : k ≤ l.length) (hL : L = l.take k.toNat ++ [r] ++ l.drop k.toNat) : (∀ x, x ∈ L → x ∈ l ∨ x = r) ∧ Rx.nodesL L ≤ Rx.nodesL l + r.nodes ∧ L.length ≤ l.length + 1 := by
  subst hL
  refine ⟨put_mem _ _ (fun x hx => List.mem_of_mem_take hx) (fun x hx => List.mem_of_mem_drop hx), ?_, by simp; omega⟩
  have := Rx.nodesL_append (l.take k.toNat) (l.drop k.toNat)
  rw [List.take_append_drop] at this
  rw [Rx.nodesL_append, Rx.nodesL_append]
  simp only [Rx.nodesL]; omega
theorem rxOne (x : Rx) : ((Rx.cells x).map AV.f).all AV.one = true := by rw [Rx.cells_eq]; rfl

-- enthymemeref04.Compare
set_option maxHeartbeats 1000000 in
theorem c_Compare (W0 : World) (N : Nat)  : ∀ (b : Nat) (a c : Rx), a.nodes < b → a.nodes ≤ 1000000 → c.nodes ≤ 1000000 → RxB a → RxB c → AC (En W0 N) 85 [rxE a, rxE c] [] (fun r' h => h = [] ∧ r' = .i (cmpF b a c)) := by
  intro b
  induction b with
  | zero => intro a c h1; omega
  | succ b ih =>
  intro a c hb ha hc hA hC
  have hal := hA.lo
  have hah := hA.hi
  have hcl := hC.lo
  have hch := hC.hi
  have hak := a.kids_len
  have hck := c.kids_len
  refine AC.enter Tryd.func85 rfl Tryd.ntmps85 (bl rfl) fun X => ?_
  refine sr ?_
  refine WL.stp rfl (Stp.box (tm rfl) rfl rfl) ?_
  refine WL.stp rfl (Stp.box (tm rfl) rfl rfl) ?_
  refine WL.v (Val.assign Ev.const) rfl ?_
  refine WL.norm 92 [(2, _), (3, _)] [some ⟨_, _, [[_, _, _, _]]⟩, some ⟨_, _, [[_, _, _, _]]⟩] rfl ⟨rfl, rfl, trivial⟩ rfl rfl ?_
  refine wn ?_
  refine sr ?_
  refine WL.v (Val.fal (off := 0) Tryd.underlying98 rfl rfl zs3 (tm rfl)) rfl ?_
  refine WL.v (Val.loadLive Tryd.underlying3 rfl (tm rfl) rfl rfl rfl rfl rfl) rfl ?_
  refine WL.v (Val.fal (off := 1) Tryd.underlying98 rfl rfl zs5 (tm rfl)) rfl ?_
  refine WL.v (Val.loadLive Tryd.underlying5 rfl (tm rfl) rfl rfl rfl rfl rfl) rfl ?_
  refine WL.v (Val.convInt Tryd.underlying5 Tryd.underlying3 (tm rfl) (IntWalk.i64_in _ (by omega))) rfl ?_
  refine WL.v (Val.fal (off := 2) Tryd.underlying98 rfl rfl zs5 (tm rfl)) rfl ?_
  refine WL.v (Val.loadLive Tryd.underlying5 rfl (tm rfl) rfl rfl rfl rfl rfl) rfl ?_
  refine WL.v (Val.convInt Tryd.underlying5 Tryd.underlying3 (tm rfl) (IntWalk.i64_in _ (by omega))) rfl ?_
  refine WL.stp rfl (Stp.buildFrozen (xs := [_, _, _]) (fs := ([a.kind, a.lo, a.hi] : List Int).map encI) Tryd.underlying22 zs3 zz3 rfl rfl (evc (tm rfl) (evc (tm rfl) (evc (tm rfl) evn))) fitL (bl rfl) rfl rfl) ?_
  refine asg rfl rfl ?_
  refine WL.norm 92 [(2, _), (3, _), (5, _)] [some ⟨_, _, [[_, _, _, _]]⟩, some ⟨_, _, [[_, _, _, _]]⟩] rfl ⟨rfl, rfl, rfl, trivial⟩ rfl rfl ?_
  refine wn ?_
  refine sr ?_
  refine WL.v (Val.fal (off := 0) Tryd.underlying98 rfl rfl zs3 (tm rfl)) rfl ?_
  refine WL.v (Val.loadLive Tryd.underlying3 rfl (tm rfl) rfl rfl rfl rfl rfl) rfl ?_
  refine WL.v (Val.fal (off := 1) Tryd.underlying98 rfl rfl zs5 (tm rfl)) rfl ?_
  refine WL.v (Val.loadLive Tryd.underlying5 rfl (tm rfl) rfl rfl rfl rfl rfl) rfl ?_
  refine WL.v (Val.convInt Tryd.underlying5 Tryd.underlying3 (tm rfl) (IntWalk.i64_in _ (by omega))) rfl ?_
  refine WL.v (Val.fal (off := 2) Tryd.underlying98 rfl rfl zs5 (tm rfl)) rfl ?_
  refine WL.v (Val.loadLive Tryd.underlying5 rfl (tm rfl) rfl rfl rfl rfl rfl) rfl ?_
  refine WL.v (Val.convInt Tryd.underlying5 Tryd.underlying3 (tm rfl) (IntWalk.i64_in _ (by omega))) rfl ?_
  refine WL.stp rfl (Stp.buildFrozen (xs := [_, _, _]) (fs := ([c.kind, c.lo, c.hi] : List Int).map encI) Tryd.underlying22 zs3 zz3 rfl rfl (evc (tm rfl) (evc (tm rfl) (evc (tm rfl) evn))) fitL (bl rfl) rfl rfl) ?_
  refine asg rfl rfl ?_
  refine WL.norm 92 [(2, _), (3, _), (5, _), (6, _)] [some ⟨_, _, [[_, _, _, _]]⟩, some ⟨_, _, [[_, _, _, _]]⟩] rfl ⟨rfl, rfl, rfl, rfl, trivial⟩ rfl rfl ?_
  refine wn ?_
  refine W.seq ?_
  refine sr ?_
  refine WL.v (Val.assign Ev.const) rfl ?_
  refine WL.norm 92 [(2, _), (3, _), (5, _), (6, _), (7, _)] [some ⟨_, _, [[_, _, _, _]]⟩, some ⟨_, _, [[_, _, _, _]]⟩] rfl ⟨rfl, rfl, rfl, rfl, rfl, trivial⟩ rfl rfl ?_
  refine wn ?_
  refine W.norm 92 [(2, _), (3, _), (5, _), (6, _), (7, _)] [some ⟨_, _, [[_, _, _, _]]⟩, some ⟨_, _, [[_, _, _, _]]⟩] rfl ⟨rfl, rfl, rfl, rfl, rfl, trivial⟩ rfl rfl ?_
  refine W.block (W.loop (fun nn S => ∃ (k : Int), S = ⟨92, [(2, .ptr 0 0 4 0 0), (3, .ptr 1 0 4 0 0), (5, .f (.ints ([a.kind, a.lo, a.hi] : List Int))), (6, .f (.ints ([c.kind, c.lo, c.hi] : List Int))), (7, .i k)], [some ⟨0, 4, [[.i a.kind, .c a.lo, .c a.hi, .f (.lst 4 (a.kids.map Rx.cells))]]⟩, some ⟨0, 4, [[.i c.kind, .c c.lo, .c c.hi, .f (.lst 4 (c.kids.map Rx.cells))]]⟩], []⟩ ∧ nn = ((3 - k).toNat) ∧ (0 ≤ k) ∧ (k ≤ 3) ∧ (lexI (keyR a) (keyR c) = lexI ((keyR a).drop k.toNat) ((keyR c).drop k.toNat))) ⟨0, rfl, rfl, by omega, by omega, rfl⟩ ?_)
  rintro nn S ⟨k, rfl, rfl, hk0, hk1, hl⟩
  refine W.seq ?_
  refine sr ?_
  refine mv rfl rfl ?_
  refine WL.v (Val.lss (tm rfl) Ev.const) rfl ?_
  refine WL.norm 92 [(2, _), (3, _), (5, _), (6, _), (7, _), (29, _)] [some ⟨_, _, [[_, _, _, _]]⟩, some ⟨_, _, [[_, _, _, _]]⟩] rfl ⟨rfl, rfl, rfl, rfl, rfl, rfl, trivial⟩ rfl rfl ?_
  refine wn ?_
  refine W.condP rfl (fun hc4 => ?_) (fun hc4 => ?_)
  · try simp only [td] at hc4
    refine W.skip (nm ?_)
    refine W.seq ?_
    refine W.block ?_
    refine W.seq ?_
    refine W.seq ?_
    refine W.drawE (fun _ => ([], [])) rfl (by kernel_rfl) (bl rfl) ?_
    refine LexE.val rfl rfl rfl (fun h' ha => Val.move (tm rfl)) ?_
    refine LexE.val rfl rfl rfl (fun h' ha => Val.move (tm rfl)) ?_
    refine LexE.val rfl rfl rfl (fun h' ha => Val.ix (enc := encI) Tryd.underlying22 zs3 (tm rfl) (tm rfl) (by omega) (gA_at (by omega) (by show _ < (3 : Int); omega))) ?_
    refine LexE.val rfl rfl rfl (fun h' ha => Val.load Tryd.underlying3 rfl (tm rfl)) ?_
    refine LexE.val rfl rfl rfl (fun h' ha => Val.move (tm rfl)) ?_
    refine LexE.val rfl rfl rfl (fun h' ha => Val.move (tm rfl)) ?_
    refine LexE.val rfl rfl rfl (fun h' ha => Val.ix (enc := encI) Tryd.underlying22 zs3 (tm rfl) (tm rfl) (by omega) (gA_at (by omega) (by show _ < (3 : Int); omega))) ?_
    refine LexE.val rfl rfl rfl (fun h' ha => Val.load Tryd.underlying3 rfl (tm rfl)) ?_
    refine LexE.val rfl rfl rfl (fun h' ha => Val.lss (tm rfl) (tm rfl)) ?_
    refine LexE.nil (nm ?_)
    refine W.norm 92 [(2, _), (3, _), (5, _), (6, _), (7, _), (40, _)] [some ⟨_, _, [[_, _, _, _]]⟩, some ⟨_, _, [[_, _, _, _]]⟩] rfl ⟨rfl, rfl, rfl, rfl, rfl, rfl, trivial⟩ rfl rfl ?_
    refine W.condP rfl (fun hc6 => ?_) (fun hc6 => ?_)
    · try simp only [td] at hc6
      refine sr ?_
      refine WL.v (Val.assign Ev.const) rfl ?_
      refine WL.norm 92 [(4, _)] [some ⟨_, _, [[_, _, _, _]]⟩, some ⟨_, _, [[_, _, _, _]]⟩] rfl ⟨rfl, trivial⟩ rfl rfl ?_
      refine wn ?_
      refine W.ret (rt1 (rt2 (rt1 (rt1 (rt2 (rt1 ?_))))))
      have hlx : lexI (keyR a) (keyR c) = -1 := by rw [hl, lex_step hk0 (by show k < (3 : Int); omega) (by show k < (3 : Int); omega), if_pos hc6]
      exact Ret.of (.inr rfl) rfl (res1 rfl rfl) (Fewer.nil _) (.inr trivial) (fun id h => absurd h (Nat.not_lt_zero _)) (.same rfl) ⟨rfl, by rw [cmpF, if_pos (by rw [hlx]; decide), hlx]⟩
    try simp only [td] at hc6
    refine W.skip (nm ?_)
    refine W.seq ?_
    refine W.drawE (fun _ => ([], [])) rfl (by kernel_rfl) (bl rfl) ?_
    refine LexE.val rfl rfl rfl (fun h' ha => Val.move (tm rfl)) ?_
    refine LexE.val rfl rfl rfl (fun h' ha => Val.move (tm rfl)) ?_
    refine LexE.val rfl rfl rfl (fun h' ha => Val.ix (enc := encI) Tryd.underlying22 zs3 (tm rfl) (tm rfl) (by omega) (gA_at (by omega) (by show _ < (3 : Int); omega))) ?_
    refine LexE.val rfl rfl rfl (fun h' ha => Val.load Tryd.underlying3 rfl (tm rfl)) ?_
    refine LexE.val rfl rfl rfl (fun h' ha => Val.move (tm rfl)) ?_
    refine LexE.val rfl rfl rfl (fun h' ha => Val.move (tm rfl)) ?_
    refine LexE.val rfl rfl rfl (fun h' ha => Val.ix (enc := encI) Tryd.underlying22 zs3 (tm rfl) (tm rfl) (by omega) (gA_at (by omega) (by show _ < (3 : Int); omega))) ?_
    refine LexE.val rfl rfl rfl (fun h' ha => Val.load Tryd.underlying3 rfl (tm rfl)) ?_
    refine LexE.val rfl rfl rfl (fun h' ha => Val.gtr (tm rfl) (tm rfl)) ?_
    refine LexE.nil (nm ?_)
    refine W.norm 92 [(2, _), (3, _), (5, _), (6, _), (7, _), (49, _)] [some ⟨_, _, [[_, _, _, _]]⟩, some ⟨_, _, [[_, _, _, _]]⟩] rfl ⟨rfl, rfl, rfl, rfl, rfl, rfl, trivial⟩ rfl rfl ?_
    refine W.condP rfl (fun hc8 => ?_) (fun hc8 => ?_)
    · try simp only [td] at hc8
      refine sr ?_
      refine WL.v (Val.assign Ev.const) rfl ?_
      refine WL.norm 92 [(4, _)] [some ⟨_, _, [[_, _, _, _]]⟩, some ⟨_, _, [[_, _, _, _]]⟩] rfl ⟨rfl, trivial⟩ rfl rfl ?_
      refine wn ?_
      refine W.ret (rt2 (rt1 (rt1 (rt2 (rt1 ?_)))))
      have hlx : lexI (keyR a) (keyR c) = 1 := by rw [hl, lex_step hk0 (by show k < (3 : Int); omega) (by show k < (3 : Int); omega), if_neg (Int.not_lt.2 hc6), if_pos hc8]
      exact Ret.of (.inr rfl) rfl (res1 rfl rfl) (Fewer.nil _) (.inr trivial) (fun id h => absurd h (Nat.not_lt_zero _)) (.same rfl) ⟨rfl, by rw [cmpF, if_pos (by rw [hlx]; decide), hlx]⟩
    try simp only [td] at hc8
    refine W.skip (nb (nm ?_))
    refine W.region ?_
    refine mv rfl rfl ?_
    refine WL.v (Val.add (tm rfl) Ev.const (IntWalk.i64_in _ (by omega))) rfl ?_
    refine asg rfl rfl ?_
    refine WL.norm 92 [(2, _), (3, _), (5, _), (6, _), (7, _)] [some ⟨_, _, [[_, _, _, _]]⟩, some ⟨_, _, [[_, _, _, _]]⟩] rfl ⟨rfl, rfl, rfl, rfl, rfl, trivial⟩ rfl rfl ?_
    refine wn ?_
    exact ⟨_, by omega, k + 1, rfl, rfl, by omega, by omega, by rw [hl, lex_step hk0 (by show k < (3 : Int); omega) (by show k < (3 : Int); omega), if_neg (Int.not_lt.2 hc6), if_neg (Int.not_lt.2 hc8)]⟩
  try simp only [td] at hc4
  refine W.exit (ex1 (ex1 (ex2 (nm ?_))))
  refine W.seq ?_
  refine W.seq ?_
  have hst : cmpF (b + 1) a c = kidsCmp (cmpF b) (a.kids.drop (0 : Int).toNat) (c.kids.drop (0 : Int).toNat) := by rw [cmpF, if_neg]; rfl; intro h; apply h; rw [hl, show k = 3 from by omega]; rfl
  refine W.region ?_
  refine WL.v (Val.assign Ev.const) rfl ?_
  refine WL.norm 92 [(2, _), (3, _), (8, _)] [some ⟨_, _, [[_, _, _, _]]⟩, some ⟨_, _, [[_, _, _, _]]⟩] rfl ⟨rfl, rfl, rfl, trivial⟩ rfl rfl ?_
  refine wn ?_
  refine W.norm 92 [(2, _), (3, _), (8, _)] [some ⟨_, _, [[_, _, _, _]]⟩, some ⟨_, _, [[_, _, _, _]]⟩] rfl ⟨rfl, rfl, rfl, trivial⟩ rfl rfl ?_
  refine W.block (W.loop (fun nn S => ∃ (k : Int), S = ⟨92, [(2, .ptr 0 0 4 0 0), (3, .ptr 1 0 4 0 0), (8, .i k)], [some ⟨0, 4, [[.i a.kind, .c a.lo, .c a.hi, .f (.lst 4 (a.kids.map Rx.cells))]]⟩, some ⟨0, 4, [[.i c.kind, .c c.lo, .c c.hi, .f (.lst 4 (c.kids.map Rx.cells))]]⟩], []⟩ ∧ nn = ((a.kids.length - k).toNat) ∧ (0 ≤ k) ∧ (k ≤ a.kids.length) ∧ (k ≤ c.kids.length) ∧ (cmpF (b + 1) a c = kidsCmp (cmpF b) (a.kids.drop k.toNat) (c.kids.drop k.toNat))) ⟨0, rfl, rfl, by omega, by omega, by omega, hst⟩ ?_)
  rintro nn S ⟨k, rfl, rfl, hq0, hq1, hq2, hq⟩
  refine W.seq ?_
  refine sr ?_
  refine mv rfl rfl ?_
  refine WL.v (Val.fal (off := 3) Tryd.underlying98 rfl rfl zs96 (tm rfl)) rfl ?_
  refine WL.v (Val.loadLive Tryd.underlying96 rfl (tm rfl) rfl rfl rfl rfl rfl) rfl ?_
  refine WL.v (Val.ln (enc := Rx.cells) Tryd.underlying96 (tm rfl)) rfl ?_
  refine WL.v (Val.lss (tm rfl) (tm rfl)) rfl ?_
  refine mv rfl rfl ?_
  refine WL.g (Grd.t rfl rfl rfl) (fun hG => Val.move (tm rfl)) rfl ?_
  refine WL.g (Grd.t rfl rfl rfl) (fun hG => Val.fal (off := 3) Tryd.underlying98 rfl rfl zs96 (tm rfl)) rfl ?_
  refine WL.g (Grd.t rfl rfl rfl) (fun hG => Val.loadLive Tryd.underlying96 rfl (Ev.opt rfl hG) rfl rfl rfl rfl rfl) rfl ?_
  refine WL.g (Grd.t rfl rfl rfl) (fun hG => Val.ln (enc := Rx.cells) Tryd.underlying96 (Ev.opt rfl hG)) rfl ?_
  refine WL.g (Grd.t rfl rfl rfl) (fun hG => Val.lss (Ev.opt rfl hG) (Ev.opt rfl hG)) rfl ?_
  refine WL.v (Val.and (tm rfl) (fun hb => Ev.opt rfl hb)) rfl ?_
  refine WL.norm 92 [(2, _), (3, _), (8, _), (61, _)] [some ⟨_, _, [[_, _, _, _]]⟩, some ⟨_, _, [[_, _, _, _]]⟩] rfl ⟨rfl, rfl, rfl, rfl, trivial⟩ rfl rfl ?_
  refine wn ?_
  refine W.condP rfl (fun hc11 => ?_) (fun hc11 => ?_)
  · try simp only [td] at hc11
    refine W.skip (nm ?_)
    refine W.seq ?_
    refine W.block ?_
    refine W.seq ?_
    have hma := gA_mem (l := a.kids) hq0 (by omega)
    have hmc := gA_mem (l := c.kids) hq0 (by omega)
    have hla := Rx.kid_lt hma
    have hlc := Rx.kid_lt hmc
    refine W.drawE (fun k => ([([], []), ([0], []), ([], []), ([], []), ([], []), ([], []), ([1], []), ([], []), ([], []), ([], []), ([], []), ([], [])] : List (List Nat × List Nat)).getD k ([], [])) rfl (by kernel_rfl) (bl rfl) ?_
    refine LexE.val rfl rfl rfl (fun h' ha => Val.fal (off := 3) Tryd.underlying98 rfl rfl zs96 (tm rfl)) ?_
    refine LexE.val rfl rfl rfl (fun h' ha => Val.loadLive Tryd.underlying96 rfl (tm rfl) ((ha.at_ 0 (by decide)).trans rfl) rfl rfl rfl rfl) ?_
    refine LexE.val rfl rfl rfl (fun h' ha => Val.move (tm rfl)) ?_
    refine LexE.val rfl rfl rfl (fun h' ha => Val.ixRx Tryd.underlying96 zs98 (tm rfl) (tm rfl) (by omega) (gA_at (by omega) (by omega))) ?_
    refine LexE.val rfl rfl rfl (fun h' ha => Val.loadAgg Tryd.underlying98 rfl zs98 (tm rfl) (bl rfl)) ?_
    refine LexE.val rfl rfl rfl (fun h' ha => Val.fal (off := 3) Tryd.underlying98 rfl rfl zs96 (tm rfl)) ?_
    refine LexE.val rfl rfl rfl (fun h' ha => Val.loadLive Tryd.underlying96 rfl (tm rfl) ((ha.at_ 1 (by decide)).trans rfl) rfl rfl rfl rfl) ?_
    refine LexE.val rfl rfl rfl (fun h' ha => Val.move (tm rfl)) ?_
    refine LexE.val rfl rfl rfl (fun h' ha => Val.ixRx Tryd.underlying96 zs98 (tm rfl) (tm rfl) (by omega) (gA_at (by omega) (by omega))) ?_
    refine LexE.val rfl rfl rfl (fun h' ha => Val.loadAgg Tryd.underlying98 rfl zs98 (tm rfl) (bl rfl)) ?_
    refine LexE.call ca85 (fun h' ha => (evc (tm rfl) (evc (tm rfl) evn))) (lo2 rfl (lo2 rfl lo0)) rfl (ih _ _ (by omega) (by omega) (by omega) (hA.kid _ hma) (hC.kid _ hmc)) rfl ?_
    refine LexE.val rfl rfl rfl (fun h' ha => Val.assign (tm rfl)) ?_
    refine LexE.nil (nm ?_)
    refine W.norm 92 [(2, _), (3, _), (8, _), (9, _)] [some ⟨_, _, [[_, _, _, _]]⟩, some ⟨_, _, [[_, _, _, _]]⟩] rfl ⟨rfl, rfl, rfl, rfl, trivial⟩ rfl rfl ?_
    refine sr ?_
    refine mv rfl rfl ?_
    refine WL.v (Val.neq (tm rfl) Ev.const) rfl ?_
    refine WL.norm 92 [(2, _), (3, _), (8, _), (9, _), (76, _)] [some ⟨_, _, [[_, _, _, _]]⟩, some ⟨_, _, [[_, _, _, _]]⟩] rfl ⟨rfl, rfl, rfl, rfl, rfl, trivial⟩ rfl rfl ?_
    refine wn ?_
    refine W.condP rfl (fun hc14 => ?_) (fun hc14 => ?_)
    · try simp only [td] at hc14
      refine sr ?_
      refine mv rfl rfl ?_
      refine asg rfl rfl ?_
      refine WL.norm 92 [(4, _)] [some ⟨_, _, [[_, _, _, _]]⟩, some ⟨_, _, [[_, _, _, _]]⟩] rfl ⟨rfl, trivial⟩ rfl rfl ?_
      refine wn ?_
      refine W.ret (rt2 (rt1 (rt1 (rt2 (rt1 ?_)))))
      exact Ret.of (.inr rfl) rfl (res1 rfl rfl) (Fewer.nil _) (.inr trivial) (fun id h => absurd h (Nat.not_lt_zero _)) (.same rfl) ⟨rfl, by rw [hq, kc_step hq0 (by omega) (by omega), if_pos hc14]⟩
    have hc14 : ¬ ¬ cmpF b (gA a.kids k) (gA c.kids k) = 0 := by simpa using hc14
    refine W.skip (nb (nm ?_))
    refine W.region ?_
    refine mv rfl rfl ?_
    refine WL.v (Val.add (tm rfl) Ev.const (IntWalk.i64_in _ (by omega))) rfl ?_
    refine asg rfl rfl ?_
    refine WL.norm 92 [(2, _), (3, _), (8, _)] [some ⟨_, _, [[_, _, _, _]]⟩, some ⟨_, _, [[_, _, _, _]]⟩] rfl ⟨rfl, rfl, rfl, trivial⟩ rfl rfl ?_
    refine wn ?_
    exact ⟨_, by omega, k + 1, rfl, rfl, by omega, by omega, by omega, by rw [hq, kc_step hq0 (by omega) (by omega), if_neg (fun h => h (Classical.not_not.1 hc14))]⟩
  try simp only [td] at hc11
  refine W.exit (ex1 (ex1 (ex2 (nm ?_))))
  refine W.seq ?_
  refine sr ?_
  refine WL.v (Val.fal (off := 3) Tryd.underlying98 rfl rfl zs96 (tm rfl)) rfl ?_
  refine WL.v (Val.loadLive Tryd.underlying96 rfl (tm rfl) rfl rfl rfl rfl rfl) rfl ?_
  refine WL.v (Val.ln (enc := Rx.cells) Tryd.underlying96 (tm rfl)) rfl ?_
  refine WL.v (Val.fal (off := 3) Tryd.underlying98 rfl rfl zs96 (tm rfl)) rfl ?_
  refine WL.v (Val.loadLive Tryd.underlying96 rfl (tm rfl) rfl rfl rfl rfl rfl) rfl ?_
  refine WL.v (Val.ln (enc := Rx.cells) Tryd.underlying96 (tm rfl)) rfl ?_
  refine WL.v (Val.lss (tm rfl) (tm rfl)) rfl ?_
  refine WL.norm 92 [(2, _), (3, _), (84, _)] [some ⟨_, _, [[_, _, _, _]]⟩, some ⟨_, _, [[_, _, _, _]]⟩] rfl ⟨rfl, rfl, rfl, trivial⟩ rfl rfl ?_
  refine wn ?_
  refine W.condP rfl (fun hc16 => ?_) (fun hc16 => ?_)
  · try simp only [td] at hc16
    refine sr ?_
    refine WL.v (Val.assign Ev.const) rfl ?_
    refine WL.norm 92 [(4, _)] [some ⟨_, _, [[_, _, _, _]]⟩, some ⟨_, _, [[_, _, _, _]]⟩] rfl ⟨rfl, trivial⟩ rfl rfl ?_
    refine wn ?_
    refine W.ret (rt1 ?_)
    exact Ret.of (.inr rfl) rfl (res1 rfl rfl) (Fewer.nil _) (.inr trivial) (fun id h => absurd h (Nat.not_lt_zero _)) (.same rfl) ⟨rfl, by rw [hq, kc_end hq0 hq1 hq2 (by omega), if_pos (by omega)]⟩
  try simp only [td] at hc16
  refine W.skip (nm ?_)
  refine W.seq ?_
  refine sr ?_
  refine WL.v (Val.fal (off := 3) Tryd.underlying98 rfl rfl zs96 (tm rfl)) rfl ?_
  refine WL.v (Val.loadLive Tryd.underlying96 rfl (tm rfl) rfl rfl rfl rfl rfl) rfl ?_
  refine WL.v (Val.ln (enc := Rx.cells) Tryd.underlying96 (tm rfl)) rfl ?_
  refine WL.v (Val.fal (off := 3) Tryd.underlying98 rfl rfl zs96 (tm rfl)) rfl ?_
  refine WL.v (Val.loadLive Tryd.underlying96 rfl (tm rfl) rfl rfl rfl rfl rfl) rfl ?_
  refine WL.v (Val.ln (enc := Rx.cells) Tryd.underlying96 (tm rfl)) rfl ?_
  refine WL.v (Val.gtr (tm rfl) (tm rfl)) rfl ?_
  refine WL.norm 92 [(91, _)] [some ⟨_, _, [[_, _, _, _]]⟩, some ⟨_, _, [[_, _, _, _]]⟩] rfl ⟨rfl, trivial⟩ rfl rfl ?_
  refine wn ?_
  refine W.condP rfl (fun hc18 => ?_) (fun hc18 => ?_)
  · try simp only [td] at hc18
    refine sr ?_
    refine WL.v (Val.assign Ev.const) rfl ?_
    refine WL.norm 92 [(4, _)] [some ⟨_, _, [[_, _, _, _]]⟩, some ⟨_, _, [[_, _, _, _]]⟩] rfl ⟨rfl, trivial⟩ rfl rfl ?_
    refine wn ?_
    refine W.ret (rt1 ?_)
    exact Ret.of (.inr rfl) rfl (res1 rfl rfl) (Fewer.nil _) (.inr trivial) (fun id h => absurd h (Nat.not_lt_zero _)) (.same rfl) ⟨rfl, by rw [hq, kc_end hq0 hq1 hq2 (by omega), if_neg (by omega), if_pos (by omega)]⟩
  try simp only [td] at hc18
  refine W.skip (nm ?_)
  refine sr ?_
  refine WL.v (Val.assign Ev.const) rfl ?_
  refine WL.norm 92 [(4, _)] [some ⟨_, _, [[_, _, _, _]]⟩, some ⟨_, _, [[_, _, _, _]]⟩] rfl ⟨rfl, trivial⟩ rfl rfl ?_
  refine wn ?_
  refine W.ret ?_
  exact Ret.of (.inr rfl) rfl (res1 rfl rfl) (Fewer.nil _) (.inr trivial) (fun id h => absurd h (Nat.not_lt_zero _)) (.same rfl) ⟨rfl, by rw [hq, kc_end hq0 hq1 hq2 (by omega), if_neg (by omega), if_neg (by omega)]⟩
-- enthymemeref04.Byte
set_option maxHeartbeats 1000000 in
theorem c_Byte (W0 : World) (N : Nat) (c : Int) (h0 : 0 ≤ c) (h1 : c ≤ 255) : AC (En W0 N) 69 [.c c] [] (fun r h => h = [] ∧ r = .s (byteS c)) := by
  refine AC.enter Tryd.func69 rfl Tryd.ntmps69 (bl rfl) fun X => ?_
  refine sr ?_
  refine WL.v (Val.assign Ev.const) rfl ?_
  refine WL.norm 18 [(0, _)] [] rfl ⟨rfl, trivial⟩ rfl rfl ?_
  refine wn ?_
  refine W.seq ?_
  refine sr ?_
  refine mv rfl rfl ?_
  refine WL.callV ca83 (evc (tm rfl) evn) (lo1 lo0) rfl (c_plain W0 N _) ?_
  rintro _ rfl
  refine WL.norm 18 [(0, _), (4, _)] [] rfl ⟨rfl, rfl, trivial⟩ rfl rfl ?_
  refine wn ?_
  refine W.condP rfl (fun hc1 => ?_) (fun hc1 => ?_)
  · try simp only [td] at hc1
    refine sr ?_
    refine mv rfl rfl ?_
    refine WL.stp rfl (Stp.buildFrozen (xs := [_, _, _]) (fs := ([39, c, 39] : List Int).map encC) Tryd.underlying116 zs5 zz5 rfl rfl (evc Ev.const (evc (tm rfl) (evc Ev.const evn))) fitL (bl rfl) rfl rfl) ?_
    refine WL.v (Val.convBytes Tryd.underlying116 Tryd.underlying5 Tryd.underlying9 (tm rfl)) rfl ?_
    refine asg rfl rfl ?_
    refine WL.norm 18 [(2, _)] [] rfl ⟨rfl, trivial⟩ rfl rfl ?_
    refine wn ?_
    refine W.ret (rt1 ?_)
    exact Ret.of (.inr rfl) rfl (res1 rfl rfl) (Fewer.nil _) (.inr trivial) (fun id h => absurd h (Nat.not_lt_zero _)) (.same rfl) ⟨rfl, by rw [byteS, if_pos hc1]⟩
  try simp only [td] at hc1
  refine W.skip (nm ?_)
  refine sr ?_
  refine mv rfl rfl ?_
  refine WL.v (Val.convInt Tryd.underlying5 Tryd.underlying3 (tm rfl) (IntWalk.i64_in _ (by omega))) rfl ?_
  refine WL.v (Val.quo (tm rfl) Ev.const (by omega) (IntWalk.i64_quo _ _ (by omega))) rfl ?_
  refine WL.callV ca84 (evc (tm rfl) evn) (lo1 lo0) rfl (c_digit W0 N _ (by first | omega | (rw [Int.tdiv_eq_ediv_of_nonneg h0]; omega) | (rw [Int.tmod_eq_emod_of_nonneg h0]; omega)) (by first | omega | (rw [Int.tdiv_eq_ediv_of_nonneg h0]; omega) | (rw [Int.tmod_eq_emod_of_nonneg h0]; omega))) ?_
  rintro _ rfl
  refine mv rfl rfl ?_
  refine WL.v (Val.convInt Tryd.underlying5 Tryd.underlying3 (tm rfl) (IntWalk.i64_in _ (by omega))) rfl ?_
  refine WL.v (Val.rem (tm rfl) Ev.const (by omega) (IntWalk.rem_in _ _ (by omega))) rfl ?_
  refine WL.callV ca84 (evc (tm rfl) evn) (lo1 lo0) rfl (c_digit W0 N _ (by first | omega | (rw [Int.tdiv_eq_ediv_of_nonneg h0]; omega) | (rw [Int.tmod_eq_emod_of_nonneg h0]; omega)) (by first | omega | (rw [Int.tdiv_eq_ediv_of_nonneg h0]; omega) | (rw [Int.tmod_eq_emod_of_nonneg h0]; omega))) ?_
  rintro _ rfl
  refine WL.stp rfl (Stp.buildFrozen (xs := [_, _, _, _]) (fs := ([92, 120, digB (c / 16), digB (c % 16)] : List Int).map encC) Tryd.underlying116 zs5 zz5 rfl rfl (evc Ev.const (evc Ev.const (evc (tm rfl) (evc (tm rfl) evn)))) fitL (bl rfl) rfl rfl) ?_
  refine WL.v (Val.convBytes Tryd.underlying116 Tryd.underlying5 Tryd.underlying9 (tm rfl)) rfl ?_
  refine asg rfl rfl ?_
  refine WL.norm 18 [(2, _)] [] rfl ⟨rfl, trivial⟩ rfl rfl ?_
  refine wn ?_
  refine W.ret ?_
  exact Ret.of (.inr rfl) rfl (res1 rfl rfl) (Fewer.nil _) (.inr trivial) (fun id h => absurd h (Nat.not_lt_zero _)) (.same rfl) ⟨rfl, by rw [byteS, if_neg (by rw [hc1]; decide)]⟩
-- enthymemeref04.group
set_option maxHeartbeats 1000000 in
theorem c_group (W0 : World) (N : Nat) (kind : Int) (l : List Rx) (hl : 1 ≤ l.length ∧ l.length ≤ 1000000) : AC (En W0 N) 95 [.i kind, .f (.lst 4 (l.map Rx.cells))] [] (fun r' h => h = [] ∧ ∃ x, r' = rxE x ∧ ((l.length = 1 ∧ x ∈ l) ∨ (2 ≤ l.length ∧ x = .mk kind 0 0 l))) := by
  refine AC.enter Tryd.func95 rfl Tryd.ntmps95 (bl rfl) fun X => ?_
  refine sr ?_
  refine WL.stp rfl (Stp.alloc zz98 rfl rfl) ?_
  refine WL.norm 14 [(0, _), (1, _), (4, _)] [some ⟨_, _, [[_, _, _, _]]⟩] rfl ⟨rfl, rfl, rfl, trivial⟩ rfl rfl ?_
  refine wn ?_
  refine W.seq ?_
  refine sr ?_
  refine mv rfl rfl ?_
  refine WL.v (Val.ln (enc := Rx.cells) Tryd.underlying96 (tm rfl)) rfl ?_
  refine WL.v (Val.eql (tm rfl) Ev.const) rfl ?_
  refine WL.norm 14 [(0, _), (1, _), (4, _), (7, _)] [some ⟨_, _, [[_, _, _, _]]⟩] rfl ⟨rfl, rfl, rfl, rfl, trivial⟩ rfl rfl ?_
  refine wn ?_
  refine W.condP rfl (fun hc1 => ?_) (fun hc1 => ?_)
  · try simp only [td] at hc1
    refine sr ?_
    refine mv rfl rfl ?_
    refine WL.v (Val.ixRx Tryd.underlying96 zs98 (tm rfl) Ev.const (by omega) (gA_at (by omega) (by omega))) rfl ?_
    refine WL.v (Val.loadAgg Tryd.underlying98 rfl zs98 (tm rfl) (bl rfl)) rfl ?_
    refine WL.stp rfl (Stp.st (tm rfl) (tm rfl) zs98 rfl rfl rfl rfl rfl rfl rfl rfl) ?_
    refine WL.norm 14 [(4, _)] [some ⟨_, _, [[_, _, _, _]]⟩] rfl ⟨rfl, trivial⟩ rfl rfl ?_
    refine wn ?_
    refine W.ret (rt1 ?_)
    exact Ret.of (.inr rfl) rfl (resCell rfl Tryd.underlying98 rfl zs98 rfl rfl rfl rfl rfl rfl) (Fewer.nil _) (.inr trivial) (fun id h => absurd h (Nat.not_lt_zero _)) (.same rfl) ⟨rfl, gA l 0, rfl, .inl ⟨by omega, gA_mem (l := l) (i := 0) (by omega) (by omega)⟩⟩
  try simp only [td] at hc1
  refine W.skip (nm ?_)
  refine sr ?_
  refine mv rfl rfl ?_
  refine mv rfl rfl ?_
  refine WL.v (Val.build (vs := [(0, _), (3, _)]) Tryd.underlying98 zz98 rfl rfl pl98 rfl ⟨(tm rfl), rfl, rfl, rfl, ⟨(tm rfl), rfl, rfl, rfl, trivial⟩⟩) rfl ?_
  refine WL.stp rfl (Stp.st (tm rfl) (tm rfl) zs98 rfl rfl rfl rfl rfl rfl rfl rfl) ?_
  refine WL.norm 14 [(4, _)] [some ⟨_, _, [[_, _, _, _]]⟩] rfl ⟨rfl, trivial⟩ rfl rfl ?_
  refine wn ?_
  refine W.ret ?_
  exact Ret.of (.inr rfl) rfl (resCell rfl Tryd.underlying98 rfl zs98 rfl rfl rfl rfl rfl rfl) (Fewer.nil _) (.inr trivial) (fun id h => absurd h (Nat.not_lt_zero _)) (.same rfl) ⟨rfl, .mk kind 0 0 l, rfl, .inr ⟨by omega, rfl⟩⟩
-- enthymemeref04.put
set_option maxHeartbeats 1000000 in
theorem c_put (W0 : World) (N : Nat) (l : List Rx) (r : Rx) (hl : l.length ≤ 1000000) (hsm : ∀ x, x ∈ l → x.nodes ≤ 1000000) (hr : r.nodes ≤ 1000000) (hB : ∀ x, x ∈ l → RxB x) (hR : RxB r) : AC (En W0 N) 86 [.f (.lst 4 (l.map Rx.cells)), rxE r] [] (fun r' h => h = [] ∧ ∃ l', r' = .f (.lst 4 (l'.map Rx.cells)) ∧ (∀ x, x ∈ l' → x ∈ l ∨ x = r) ∧ Rx.nodesL l' ≤ Rx.nodesL l + r.nodes ∧ l'.length ≤ l.length + 1) := by
  refine AC.enter Tryd.func86 rfl Tryd.ntmps86 (bl rfl) fun X => ?_
  refine sr ?_
  refine WL.stp rfl (Stp.box (tm rfl) rfl rfl) ?_
  refine WL.v (Val.assign Ev.const) rfl ?_
  refine WL.norm 49 [(0, _), (3, _)] [some ⟨_, _, [[_, _, _, _]]⟩] rfl ⟨rfl, rfl, trivial⟩ rfl rfl ?_
  refine wn ?_
  refine sr ?_
  refine WL.v (Val.assign Ev.const) rfl ?_
  refine WL.norm 49 [(0, _), (3, _), (5, _)] [some ⟨_, _, [[_, _, _, _]]⟩] rfl ⟨rfl, rfl, rfl, trivial⟩ rfl rfl ?_
  refine wn ?_
  refine W.seq ?_
  refine W.norm 49 [(0, _), (3, _), (5, _)] [some ⟨_, _, [[_, _, _, _]]⟩] rfl ⟨rfl, rfl, rfl, trivial⟩ rfl rfl ?_
  refine W.block (W.loop (fun nn S => ∃ (k : Int), S = ⟨49, [(0, .f (.lst 4 (l.map Rx.cells))), (3, .ptr 0 0 4 0 0), (5, .i k)], [some ⟨0, 4, [[.i r.kind, .c r.lo, .c r.hi, .f (.lst 4 (r.kids.map Rx.cells))]]⟩], []⟩ ∧ nn = ((l.length - k).toNat) ∧ (0 ≤ k) ∧ (k ≤ l.length)) ⟨0, rfl, rfl, by omega, by omega⟩ ?_)
  rintro nn S ⟨k, rfl, rfl, hk0, hk1⟩
  refine W.seq ?_
  refine W.seq ?_
  refine W.drawE (fun k => ([([], []), ([], []), ([], []), ([], []), ([], []), ([], []), ([], []), ([], []), ([], []), ([0], []), ([], []), ([], []), ([], [])] : List (List Nat × List Nat)).getD k ([], [])) rfl (by kernel_rfl) (bl rfl) ?_
  refine LexE.val rfl rfl rfl (fun h' ha => Val.move (tm rfl)) ?_
  refine LexE.val rfl rfl rfl (fun h' ha => Val.move (tm rfl)) ?_
  refine LexE.val rfl rfl rfl (fun h' ha => Val.ln (enc := Rx.cells) Tryd.underlying96 (tm rfl)) ?_
  refine LexE.val rfl rfl rfl (fun h' ha => Val.lss (tm rfl) (tm rfl)) ?_
  refine LexE.val rfl rfl rfl (fun h' ha => Val.move (tm rfl)) ?_
  refine LexE.gval rfl (fun h' => (Grd.t rfl rfl rfl)) rfl (fun hG h' ha => Val.move (tm rfl)) ?_
  refine LexE.gval rfl (fun h' => (Grd.t rfl rfl rfl)) rfl (fun hG h' ha => Val.move (tm rfl)) ?_
  refine LexE.gval rfl (fun h' => (Grd.t rfl rfl rfl)) rfl (fun hG h' ha => Val.ixRx Tryd.underlying96 zs98 (Ev.opt rfl hG) (Ev.opt rfl hG) (by try simp only [td] at hG; omega) (gA_at (by try simp only [td] at hG; omega) (by try simp only [td] at hG; omega))) ?_
  refine LexE.gval rfl (fun h' => (Grd.t rfl rfl rfl)) rfl (fun hG h' ha => Val.loadAgg Tryd.underlying98 rfl zs98 (Ev.opt rfl hG) (bl rfl)) ?_
  refine LexE.gval rfl (fun h' => (Grd.t rfl rfl rfl)) rfl (fun hG h' ha => Val.loadLiveAgg Tryd.underlying98 rfl zs98 (tm rfl) ((ha.at_ 0 (by decide)).trans rfl) rfl rfl rfl (bl rfl)) ?_
  refine LexE.gcall (fun h' => (Grd.t rfl rfl rfl)) ca85 (fun hG h' ha => (evc (Ev.opt rfl hG) (evc (Ev.opt rfl hG) evn))) (lo2 rfl (lo2 rfl lo0)) rfl (fun hG => c_Compare W0 N _ (gA l k) r (Nat.lt_succ_self _) (hsm _ (gA_mem hk0 (by try simp only [td] at hG; omega))) (by omega) (hB _ (gA_mem hk0 (by try simp only [td] at hG; omega))) hR) rfl ?_
  refine LexE.gval rfl (fun h' => (Grd.t rfl rfl rfl)) rfl (fun hG h' ha => Val.lss (Ev.opt rfl hG) Ev.const) ?_
  refine LexE.val rfl rfl rfl (fun h' ha => Val.and (tm rfl) (fun hb => Ev.opt rfl hb)) ?_
  refine LexE.nil (nm ?_)
  refine W.norm 49 [(0, _), (3, _), (5, _), (19, _)] [some ⟨_, _, [[_, _, _, _]]⟩] rfl ⟨rfl, rfl, rfl, rfl, trivial⟩ rfl rfl ?_
  refine W.condP rfl (fun hc2 => ?_) (fun hc2 => ?_)
  · try simp only [td] at hc2
    have hkl := hc2.1
    refine W.skip (nm ?_)
    refine W.block ?_
    refine W.region ?_
    refine mv rfl rfl ?_
    refine WL.v (Val.add (tm rfl) Ev.const (IntWalk.i64_in _ (by omega))) rfl ?_
    refine asg rfl rfl ?_
    refine WL.norm 49 [(0, _), (3, _), (5, _)] [some ⟨_, _, [[_, _, _, _]]⟩] rfl ⟨rfl, rfl, rfl, trivial⟩ rfl rfl ?_
    refine WL.nil (nb (nm ?_))
    exact ⟨_, by omega, k + 1, rfl, rfl, by omega, by omega⟩
  try simp only [td] at hc2
  refine W.exit (ex1 (ex1 (ex2 (nm ?_))))
  refine W.seq ?_
  refine W.seq ?_
  refine W.drawE (fun k => ([([], []), ([], []), ([], []), ([], []), ([], []), ([], []), ([], []), ([], []), ([], []), ([0], []), ([], []), ([], []), ([], [])] : List (List Nat × List Nat)).getD k ([], [])) rfl (by kernel_rfl) (bl rfl) ?_
  refine LexE.val rfl rfl rfl (fun h' ha => Val.move (tm rfl)) ?_
  refine LexE.val rfl rfl rfl (fun h' ha => Val.move (tm rfl)) ?_
  refine LexE.val rfl rfl rfl (fun h' ha => Val.ln (enc := Rx.cells) Tryd.underlying96 (tm rfl)) ?_
  refine LexE.val rfl rfl rfl (fun h' ha => Val.lss (tm rfl) (tm rfl)) ?_
  refine LexE.val rfl rfl rfl (fun h' ha => Val.move (tm rfl)) ?_
  refine LexE.gval rfl (fun h' => (Grd.t rfl rfl rfl)) rfl (fun hG h' ha => Val.move (tm rfl)) ?_
  refine LexE.gval rfl (fun h' => (Grd.t rfl rfl rfl)) rfl (fun hG h' ha => Val.move (tm rfl)) ?_
  refine LexE.gval rfl (fun h' => (Grd.t rfl rfl rfl)) rfl (fun hG h' ha => Val.ixRx Tryd.underlying96 zs98 (Ev.opt rfl hG) (Ev.opt rfl hG) (by try simp only [td] at hG; omega) (gA_at (by try simp only [td] at hG; omega) (by try simp only [td] at hG; omega))) ?_
  refine LexE.gval rfl (fun h' => (Grd.t rfl rfl rfl)) rfl (fun hG h' ha => Val.loadAgg Tryd.underlying98 rfl zs98 (Ev.opt rfl hG) (bl rfl)) ?_
  refine LexE.gval rfl (fun h' => (Grd.t rfl rfl rfl)) rfl (fun hG h' ha => Val.loadLiveAgg Tryd.underlying98 rfl zs98 (tm rfl) ((ha.at_ 0 (by decide)).trans rfl) rfl rfl rfl (bl rfl)) ?_
  refine LexE.gcall (fun h' => (Grd.t rfl rfl rfl)) ca85 (fun hG h' ha => (evc (Ev.opt rfl hG) (evc (Ev.opt rfl hG) evn))) (lo2 rfl (lo2 rfl lo0)) rfl (fun hG => c_Compare W0 N _ (gA l k) r (Nat.lt_succ_self _) (hsm _ (gA_mem hk0 (by try simp only [td] at hG; omega))) (by omega) (hB _ (gA_mem hk0 (by try simp only [td] at hG; omega))) hR) rfl ?_
  refine LexE.gval rfl (fun h' => (Grd.t rfl rfl rfl)) rfl (fun hG h' ha => Val.eql (Ev.opt rfl hG) Ev.const) ?_
  refine LexE.val rfl rfl rfl (fun h' ha => Val.and (tm rfl) (fun hb => Ev.opt rfl hb)) ?_
  refine LexE.nil (nm ?_)
  refine W.norm 49 [(0, _), (3, _), (5, _), (34, _)] [some ⟨_, _, [[_, _, _, _]]⟩] rfl ⟨rfl, rfl, rfl, rfl, trivial⟩ rfl rfl ?_
  refine W.condP rfl (fun hc4 => ?_) (fun hc4 => ?_)
  · try simp only [td] at hc4
    refine sr ?_
    refine mv rfl rfl ?_
    refine asg rfl rfl ?_
    refine WL.norm 49 [(4, _)] [some ⟨_, _, [[_, _, _, _]]⟩] rfl ⟨rfl, trivial⟩ rfl rfl ?_
    refine wn ?_
    refine W.ret (rt1 ?_)
    exact Ret.of (.inr rfl) rfl (res1 rfl rfl) (Fewer.nil _) (.inr trivial) (fun id h => absurd h (Nat.not_lt_zero _)) (.same rfl) ⟨rfl, l, rfl, fun x hx => .inl hx, by omega, by omega⟩
  try simp only [td] at hc4
  refine W.skip (nm ?_)
  refine W.seq ?_
  refine W.reserve ?_
  refine W.region ?_
  refine WL.v (Val.assign Ev.const) rfl ?_
  refine WL.norm 49 [(0, _), (3, _), (5, _), (6, _)] [some ⟨_, _, [[_, _, _, _]]⟩, none] rfl ⟨rfl, rfl, rfl, rfl, trivial⟩ rfl rfl ?_
  refine wn ?_
  refine W.seq ?_
  by_cases hz : k = 0
  · subst hz
    refine W.drawE (fun k => ([([], []), ([], []), ([], []), ([], []), ([], []), ([0], []), ([], []), ([1], [1]), ([], [])] : List (List Nat × List Nat)).getD k ([], [])) rfl (by kernel_rfl) (bl rfl) ?_
    refine LexE.val rfl rfl rfl (fun h' ha => Val.move (tm rfl)) ?_
    refine LexE.val rfl rfl rfl (fun h' ha => Val.move (tm rfl)) ?_
    refine LexE.val rfl rfl rfl (fun h' ha => Val.move (tm rfl)) ?_
    refine LexE.val rfl rfl rfl (fun h' ha => Val.sliceLI (enc := Rx.cells) Tryd.underlying96 zs98 (tm rfl) rfl ⟨_, (tm rfl)⟩ (by omega) (by omega) (by omega)) ?_
    refine LexE.stp (U := []) rfl rfl rfl rfl (fun h => by first | rfl | cases h) (fun h' ha m' => Stp.appendNone ap96_96 (tm rfl) (ArgE.lst (enc := Rx.cells) (l := ([] : List Rx)) (tm rfl) rxOne) rfl) ?_
    refine LexE.val rfl rfl rfl (fun h' ha => Val.loadLiveAgg Tryd.underlying98 rfl zs98 (tm rfl) ((ha.at_ 0 (by decide)).trans rfl) rfl rfl rfl (bl rfl)) ?_
    refine LexE.stp (U := []) rfl rfl rfl rfl (fun h => by first | rfl | cases h) (fun h' ha m' => Stp.buildFrozen (xs := [_]) (fs := ([r] : List Rx).map Rx.cells) Tryd.underlying96 zs98 zz98 rfl rfl (evc (tm rfl) evn) fitL (bl rfl) (els_rx ([r] : List Rx)) rfl) ?_
    refine LexE.stp (U := [(1, _)]) rfl rfl rfl rfl (fun h => by first | rfl | cases h) (fun h' ha m' => Stp.appendPlant ap96_96 (tm rfl) ((ha.at_ 1 (by decide)).trans rfl) (ArgE.lst (enc := Rx.cells) (tm rfl) rxOne) (by simp [fz]) (by simp [fz]) rfl) ?_
    refine LexE.val rfl rfl rfl (fun h' ha => Val.assign (tm rfl)) ?_
    refine LexE.nil (nm ?_)
    refine W.norm 49 [(0, _), (5, _), (6, _)] [some ⟨_, _, [[_, _, _, _]]⟩, some ⟨_, _, _⟩] rfl ⟨rfl, rfl, rfl, trivial⟩ rfl rfl ?_
    refine sr ?_
    refine mv rfl rfl ?_
    refine mv rfl rfl ?_
    refine mv rfl rfl ?_
    refine WL.v (Val.sliceLI (enc := Rx.cells) Tryd.underlying96 zs98 (tm rfl) ⟨_, (tm rfl)⟩ rfl (by omega) (by omega) (by omega)) rfl ?_
    refine WL.stp rfl (Stp.appendE (enc := Rx.cells) (l := ([r] : List Rx)) ap96_96 (tm rfl) rfl rfl (ArgE.lst (enc := Rx.cells) (tm rfl) rxOne) (by simp only [List.length_append, List.length_take, List.length_drop, List.length_cons, List.length_nil]; omega) rfl) ?_
    refine asg rfl rfl ?_
    refine WL.norm 49 [(4, _)] [some ⟨_, _, [[_, _, _, _]]⟩, some ⟨_, _, _⟩] rfl ⟨rfl, trivial⟩ rfl rfl ?_
    refine wn ?_
    refine W.ret ?_
    exact Ret.of (.inr rfl) rfl (res1 rfl rfl) (Fewer.nil _) (.inr trivial) (fun id h => absurd h (Nat.not_lt_zero _)) (.whole rfl rfl (by first | (simp; done) | (simp only [List.length_map]; omega)) (encL (by intro x; first | rfl | exact rxLen x))) ⟨rfl, _, rfl, put_fin (k := 0) (by omega) (by omega) (by simp [List.take_of_length_le])⟩
  refine W.drawE (fun k => ([([], []), ([], []), ([], []), ([], []), ([1], [1]), ([0], []), ([], []), ([1], [1]), ([], [])] : List (List Nat × List Nat)).getD k ([], [])) rfl (by kernel_rfl) (bl rfl) ?_
  refine LexE.val rfl rfl rfl (fun h' ha => Val.move (tm rfl)) ?_
  refine LexE.val rfl rfl rfl (fun h' ha => Val.move (tm rfl)) ?_
  refine LexE.val rfl rfl rfl (fun h' ha => Val.move (tm rfl)) ?_
  refine LexE.val rfl rfl rfl (fun h' ha => Val.sliceLI (enc := Rx.cells) Tryd.underlying96 zs98 (tm rfl) rfl ⟨_, (tm rfl)⟩ (by omega) (by omega) (by omega)) ?_
  refine LexE.stp (U := [(1, _)]) rfl rfl rfl rfl (fun h => by first | rfl | cases h) (fun h' ha m' => Stp.appendPlant ap96_96 (tm rfl) ((ha.at_ 1 (by decide)).trans rfl) (ArgE.lst (enc := Rx.cells) (tm rfl) rxOne) (by simp [fz]; omega) (by simp [fz]; omega) rfl) ?_
  refine LexE.val rfl rfl rfl (fun h' ha => Val.loadLiveAgg Tryd.underlying98 rfl zs98 (tm rfl) ((ha.at_ 0 (by decide)).trans rfl) rfl rfl rfl (bl rfl)) ?_
  refine LexE.stp (U := []) rfl rfl rfl rfl (fun h => by first | rfl | cases h) (fun h' ha m' => Stp.buildFrozen (xs := [_]) (fs := ([r] : List Rx).map Rx.cells) Tryd.underlying96 zs98 zz98 rfl rfl (evc (tm rfl) evn) fitL (bl rfl) (els_rx ([r] : List Rx)) rfl) ?_
  refine LexE.stp (U := [(1, _)]) rfl rfl rfl rfl (fun h => by first | rfl | cases h) (fun h' ha m' => Stp.appendE (enc := Rx.cells) (l := _) ap96_96 (tm rfl) ((ha.at_ 1 (by decide)).trans rfl) (by simp [fz]) (ArgE.lst (enc := Rx.cells) (tm rfl) rxOne) (by simp only [List.length_append, List.length_take, List.length_drop, List.length_cons, List.length_nil]; omega) rfl) ?_
  refine LexE.val rfl rfl rfl (fun h' ha => Val.assign (tm rfl)) ?_
  refine LexE.nil (nm ?_)
  refine W.norm 49 [(0, _), (5, _), (6, _)] [some ⟨_, _, [[_, _, _, _]]⟩, some ⟨_, _, _⟩] rfl ⟨rfl, rfl, rfl, trivial⟩ rfl rfl ?_
  refine sr ?_
  refine mv rfl rfl ?_
  refine mv rfl rfl ?_
  refine mv rfl rfl ?_
  refine WL.v (Val.sliceLI (enc := Rx.cells) Tryd.underlying96 zs98 (tm rfl) ⟨_, (tm rfl)⟩ rfl (by omega) (by omega) (by omega)) rfl ?_
  refine WL.stp rfl (Stp.appendE (enc := Rx.cells) (l := _) ap96_96 (tm rfl) rfl rfl (ArgE.lst (enc := Rx.cells) (tm rfl) rxOne) (by simp only [List.length_append, List.length_take, List.length_drop, List.length_cons, List.length_nil]; omega) rfl) ?_
  refine asg rfl rfl ?_
  refine WL.norm 49 [(4, _)] [some ⟨_, _, [[_, _, _, _]]⟩, some ⟨_, _, _⟩] rfl ⟨rfl, trivial⟩ rfl rfl ?_
  refine wn ?_
  refine W.ret ?_
  exact Ret.of (.inr rfl) rfl (res1 rfl rfl) (Fewer.nil _) (.inr trivial) (fun id h => absurd h (Nat.not_lt_zero _)) (.whole rfl rfl (by first | (simp; done) | (simp only [List.length_map]; omega)) (encL (by intro x; first | rfl | exact rxLen x))) ⟨rfl, _, rfl, put_fin hk0 hk1 (by simp [List.take_of_length_le])⟩
end Go.Aw
namespace Go.Aw
open Go.RowKit Go.Proofs

theorem neutral_ok {k : Int} (h0 : 0 ≤ k) (h1 : k < 3) : RxG (gA ([.mk 1 0 0 [], .mk 0 0 0 [], rxAll] : List Rx) k) ∧ (gA ([.mk 1 0 0 [], .mk 0 0 0 [], rxAll] : List Rx) k).nodes ≤ 2 := by
  have : k = 0 ∨ k = 1 ∨ k = 2 := by omega
  rcases this with rfl | rfl | rfl
  · exact ⟨RxG.leaf (by decide) (by decide) (by decide), by decide⟩
  · exact ⟨RxG.leaf (by decide) (by decide) (by decide), by decide⟩
  · exact ⟨rxAll_good, by decide⟩
theorem decides_ok {k : Int} (h0 : 0 ≤ k) (h1 : k < 3) : RxG (gA ([.mk 0 0 0 [], rxAll, .mk 0 0 0 []] : List Rx) k) ∧ (gA ([.mk 0 0 0 [], rxAll, .mk 0 0 0 []] : List Rx) k).nodes ≤ 2 := by
  have : k = 0 ∨ k = 1 ∨ k = 2 := by omega
  rcases this with rfl | rfl | rfl
  · exact ⟨RxG.leaf (by decide) (by decide) (by decide), by decide⟩
  · exact ⟨rxAll_good, by decide⟩
  · exact ⟨RxG.leaf (by decide) (by decide) (by decide), by decide⟩
/-- Lists of good expressions, of so many nodes. -/
def LG (l : List Rx) (n : Nat) : Prop := (∀ x, x ∈ l → RxG x) ∧ Rx.nodesL l ≤ n
theorem LG.nil {n : Nat} : LG [] n := ⟨fun x hx => by simp at hx, Nat.zero_le _⟩
theorem LG.app {a b : List Rx} {m n k : Nat} (ha : LG a m) (hb : LG b n) (h : m + n ≤ k) : LG (a ++ b) k :=
  ⟨fun x hx => by rcases List.mem_append.1 hx with hx | hx; exact ha.1 x hx; exact hb.1 x hx, by rw [Rx.nodesL_append]; have := ha.2; have := hb.2; omega⟩
theorem LG.one {x : Rx} (h : RxG x) : LG [x] x.nodes := ⟨fun y hy => by rw [List.mem_singleton.1 hy]; exact h, by simp [Rx.nodesL]⟩
theorem LG.at {l : List Rx} {n : Nat} {k : Int} (h : LG l n) (h0 : 0 ≤ k) (h1 : k < l.length) : RxG (gA l k) ∧ (gA l k).nodes ≤ n := ⟨h.1 _ (gA_mem h0 h1), by have := Rx.nodesL_mem (gA_mem h0 h1); have := h.2; omega⟩
theorem LG.len {l : List Rx} {n : Nat} (h : LG l n) : l.length ≤ n := Nat.le_trans (Rx.nodesL_len l) h.2
theorem LG.put {l L : List Rx} {r : Rx} {m n : Nat} (h : LG l m) (hr : RxG r) (h1 : ∀ x, x ∈ L → x ∈ l ∨ x = r) (h2 : Rx.nodesL L ≤ Rx.nodesL l + r.nodes) (hn : m + r.nodes ≤ n) : LG L n :=
  ⟨fun x hx => by rcases h1 x hx with hx | rfl; exact h.1 x hx; exact hr, by have := h.2; omega⟩

-- enthymemeref04.normal
set_option maxHeartbeats 1000000 in
theorem c_normal (W0 : World) (N : Nat) (kind : Int) (kids : List Rx) (hk3 : 3 ≤ kind ∧ kind ≤ 7) (h1 : kind = 6 ∨ kind = 7 → kids.length = 1) (hkids : LG kids (Rx.nodesL kids)) (hn : Rx.nodesL kids ≤ 100000) : AC (En W0 N) 71 [.i kind, .f (.lst 4 (kids.map Rx.cells))] [] (fun r' h => h = [] ∧ ∃ x, r' = rxE x ∧ RxG x ∧ x.nodes ≤ 2 + Rx.nodesL kids) := by
  have hklen := hkids.len
  refine AC.enter Tryd.func71 rfl Tryd.ntmps71 (bl rfl) fun X => ?_
  refine sr ?_
  refine WL.stp rfl (Stp.alloc zz98 rfl rfl) ?_
  refine WL.norm 146 [(0, _), (1, _), (4, _)] [some ⟨_, _, [[_, _, _, _]]⟩] rfl ⟨rfl, rfl, rfl, trivial⟩ rfl rfl ?_
  refine wn ?_
  refine sr ?_
  refine WL.callV ca56 evn lo0 rfl (c_Everything W0 N) ?_
  rintro _ rfl
  refine WL.stp rfl (Stp.alloc zz98 rfl rfl) ?_
  refine WL.stp rfl (Stp.st (tm rfl) (tm rfl) zs98 rfl rfl rfl rfl rfl rfl rfl rfl) ?_
  refine WL.norm 146 [(0, _), (1, _), (4, _), (5, _)] [some ⟨_, _, [[_, _, _, _]]⟩, some ⟨_, _, [[_, _, _, _]]⟩] rfl ⟨rfl, rfl, rfl, rfl, trivial⟩ rfl rfl ?_
  refine wn ?_
  refine W.seq ?_
  refine sr ?_
  refine mv rfl rfl ?_
  refine WL.v (Val.eql (tm rfl) Ev.const) rfl ?_
  refine WL.norm 146 [(0, _), (1, _), (4, _), (5, _), (14, _)] [some ⟨_, _, [[_, _, _, _]]⟩, some ⟨_, _, [[_, _, _, _]]⟩] rfl ⟨rfl, rfl, rfl, rfl, rfl, trivial⟩ rfl rfl ?_
  refine wn ?_
  refine W.condP rfl (fun hc2 => ?_) (fun hc2 => ?_)
  · try simp only [td] at hc2
    have hone := h1 (.inl hc2)
    have hk00 := LG.at hkids (k := 0) (by omega) (by omega)
    refine W.seq ?_
    refine sr ?_
    refine mv rfl rfl ?_
    refine WL.v (Val.ixRx Tryd.underlying96 zs98 (tm rfl) Ev.const (by omega) (gA_at (by omega) (by omega))) rfl ?_
    refine WL.v (Val.fa (off := 0) Tryd.underlying98 rfl rfl zs3 (tm rfl)) rfl ?_
    refine WL.v (Val.load Tryd.underlying3 rfl (tm rfl)) rfl ?_
    refine WL.v (Val.eql (tm rfl) Ev.const) rfl ?_
    refine WL.norm 146 [(1, _), (4, _), (19, _)] [some ⟨_, _, [[_, _, _, _]]⟩, some ⟨_, _, [[_, _, _, _]]⟩] rfl ⟨rfl, rfl, rfl, trivial⟩ rfl rfl ?_
    refine wn ?_
    refine W.condP rfl (fun hc3 => ?_) (fun hc3 => ?_)
    · try simp only [td] at hc3
      have hone2 := hk00.1.2.one (.inl hc3)
      have hkk0 : 0 < (gA kids 0).kids.length := by omega
      have hk01 := hk00.1.kid (gA_mem (l := (gA kids 0).kids) (i := 0) (by omega) (by omega))
      have hlt01 := Rx.kid_lt (gA_mem (l := (gA kids 0).kids) (i := 0) (by omega) (by omega))
      refine sr ?_
      refine mv rfl rfl ?_
      refine WL.v (Val.ixRx Tryd.underlying96 zs98 (tm rfl) Ev.const (by omega) (gA_at (by omega) (by omega))) rfl ?_
      refine WL.v (Val.fa (off := 3) Tryd.underlying98 rfl rfl zs96 (tm rfl)) rfl ?_
      refine WL.v (Val.load Tryd.underlying96 rfl (tm rfl)) rfl ?_
      refine WL.v (Val.ixRx Tryd.underlying96 zs98 (tm rfl) Ev.const (by omega) (gA_at (by omega) (by omega))) rfl ?_
      refine WL.v (Val.loadAgg Tryd.underlying98 rfl zs98 (tm rfl) (bl rfl)) rfl ?_
      refine WL.stp rfl (Stp.st (tm rfl) (tm rfl) zs98 rfl rfl rfl rfl rfl rfl rfl rfl) ?_
      refine WL.norm 146 [(4, _)] [some ⟨_, _, [[_, _, _, _]]⟩, some ⟨_, _, [[_, _, _, _]]⟩] rfl ⟨rfl, trivial⟩ rfl rfl ?_
      refine wn ?_
      refine W.ret (rt1 (rt1 ?_))
      exact Ret.of (.inr rfl) rfl (resCell rfl Tryd.underlying98 rfl zs98 rfl rfl rfl rfl rfl rfl) (Fewer.nil _) (.inr trivial) (fun id h => absurd h (Nat.not_lt_zero _)) (.same rfl) ⟨rfl, gA (gA kids 0).kids 0, rfl, hk01, (by omega)⟩
    try simp only [td] at hc3
    refine W.skip (nm ?_)
    refine sr ?_
    refine mv rfl rfl ?_
    refine WL.v (Val.build (vs := [(0, _), (3, _)]) Tryd.underlying98 zz98 rfl rfl pl98 rfl ⟨Ev.const, rfl, rfl, rfl, ⟨(tm rfl), rfl, rfl, rfl, trivial⟩⟩) rfl ?_
    refine WL.stp rfl (Stp.st (tm rfl) (tm rfl) zs98 rfl rfl rfl rfl rfl rfl rfl rfl) ?_
    refine WL.norm 146 [(4, _)] [some ⟨_, _, [[_, _, _, _]]⟩, some ⟨_, _, [[_, _, _, _]]⟩] rfl ⟨rfl, trivial⟩ rfl rfl ?_
    refine wn ?_
    refine W.ret (rt1 ?_)
    exact Ret.of (.inr rfl) rfl (resCell rfl Tryd.underlying98 rfl zs98 rfl rfl rfl rfl rfl rfl) (Fewer.nil _) (.inr trivial) (fun id h => absurd h (Nat.not_lt_zero _)) (.same rfl) ⟨rfl, .mk 6 0 0 kids, rfl, RxG.list (by omega) (fun _ => hone) hkids.1, (by rw [Rx.nodes_eq]; show 1 + Rx.nodesL kids ≤ _; omega)⟩
  try simp only [td] at hc2
  refine W.skip (nm ?_)
  refine W.seq ?_
  refine sr ?_
  refine mv rfl rfl ?_
  refine WL.v (Val.eql (tm rfl) Ev.const) rfl ?_
  refine WL.norm 146 [(0, _), (1, _), (4, _), (5, _), (29, _)] [some ⟨_, _, [[_, _, _, _]]⟩, some ⟨_, _, [[_, _, _, _]]⟩] rfl ⟨rfl, rfl, rfl, rfl, rfl, trivial⟩ rfl rfl ?_
  refine wn ?_
  refine W.condP rfl (fun hc6 => ?_) (fun hc6 => ?_)
  · try simp only [td] at hc6
    have hone := h1 (.inr hc6)
    have hk00 := LG.at hkids (k := 0) (by omega) (by omega)
    refine W.seq ?_
    refine sr ?_
    refine mv rfl rfl ?_
    refine WL.v (Val.ixRx Tryd.underlying96 zs98 (tm rfl) Ev.const (by omega) (gA_at (by omega) (by omega))) rfl ?_
    refine WL.v (Val.fa (off := 0) Tryd.underlying98 rfl rfl zs3 (tm rfl)) rfl ?_
    refine WL.v (Val.load Tryd.underlying3 rfl (tm rfl)) rfl ?_
    refine WL.v (Val.lss (tm rfl) Ev.const) rfl ?_
    refine WL.norm 146 [(1, _), (4, _), (5, _), (34, _)] [some ⟨_, _, [[_, _, _, _]]⟩, some ⟨_, _, [[_, _, _, _]]⟩] rfl ⟨rfl, rfl, rfl, rfl, trivial⟩ rfl rfl ?_
    refine wn ?_
    refine W.condP rfl (fun hc7 => ?_) (fun hc7 => ?_)
    · try simp only [td] at hc7
      refine sr ?_
      refine WL.v (Val.le (Val.build (vs := [(0, _)]) Tryd.underlying98 zz98 rfl rfl pl98 rfl ⟨Ev.const, rfl, rfl, rfl, trivial⟩) (Le.agg (ys := [_, _, _, .f (.lst 4 [])]) (LeL.cons (Le.refl _) (LeL.cons (Le.refl _) (LeL.cons (Le.refl _) (LeL.cons Le.nil LeL.nil)))))) rfl ?_
      refine WL.stp rfl (Stp.st (tm rfl) (tm rfl) zs98 rfl rfl rfl rfl rfl rfl rfl rfl) ?_
      refine WL.norm 146 [(4, _)] [some ⟨_, _, [[_, _, _, _]]⟩, some ⟨_, _, [[_, _, _, _]]⟩] rfl ⟨rfl, trivial⟩ rfl rfl ?_
      refine wn ?_
      refine W.ret (rt1 (rt1 ?_))
      exact Ret.of (.inr rfl) rfl (resCell rfl Tryd.underlying98 rfl zs98 rfl rfl rfl rfl rfl rfl) (Fewer.nil _) (.inr trivial) (fun id h => absurd h (Nat.not_lt_zero _)) (.same rfl) ⟨rfl, .mk 1 0 0 [], rfl, RxG.leaf (by decide) (by decide) (by decide), (by have : (Rx.mk 1 0 0 []).nodes = 1 := rfl; omega)⟩
    try simp only [td] at hc7
    refine W.skip (nm ?_)
    refine W.seq ?_
    refine W.seq ?_
    refine W.drawE (fun k => ([([], []), ([], []), ([], []), ([], []), ([], []), ([], []), ([], []), ([], []), ([], []), ([1], []), ([], []), ([], []), ([], [])] : List (List Nat × List Nat)).getD k ([], [])) rfl (by kernel_rfl) (bl rfl) ?_
    refine LexE.val rfl rfl rfl (fun h' ha => Val.move (tm rfl)) ?_
    refine LexE.val rfl rfl rfl (fun h' ha => Val.ixRx Tryd.underlying96 zs98 (tm rfl) Ev.const (by omega) (gA_at (by omega) (by omega))) ?_
    refine LexE.val rfl rfl rfl (fun h' ha => Val.fa (off := 0) Tryd.underlying98 rfl rfl zs3 (tm rfl)) ?_
    refine LexE.val rfl rfl rfl (fun h' ha => Val.load Tryd.underlying3 rfl (tm rfl)) ?_
    refine LexE.val rfl rfl rfl (fun h' ha => Val.eql (tm rfl) Ev.const) ?_
    refine LexE.val rfl rfl rfl (fun h' ha => Val.move (tm rfl)) ?_
    refine LexE.gval rfl (fun h' => (Grd.f rfl rfl rfl)) rfl (fun hG h' ha => Val.move (tm rfl)) ?_
    refine LexE.gval rfl (fun h' => (Grd.f rfl rfl rfl)) rfl (fun hG h' ha => Val.ixRx Tryd.underlying96 zs98 (Ev.opt rfl hG) Ev.const (by try simp only [td] at hG; omega) (gA_at (by try simp only [td] at hG; omega) (by try simp only [td] at hG; omega))) ?_
    refine LexE.gval rfl (fun h' => (Grd.f rfl rfl rfl)) rfl (fun hG h' ha => Val.loadAgg Tryd.underlying98 rfl zs98 (Ev.opt rfl hG) (bl rfl)) ?_
    refine LexE.gval rfl (fun h' => (Grd.f rfl rfl rfl)) rfl (fun hG h' ha => Val.loadLiveAgg Tryd.underlying98 rfl zs98 (tm rfl) ((ha.at_ 1 (by decide)).trans rfl) rfl rfl rfl (bl rfl)) ?_
    refine LexE.gcall (fun h' => (Grd.f rfl rfl rfl)) ca85 (fun hG h' ha => (evc (Ev.opt rfl hG) (evc (Ev.opt rfl hG) evn))) (lo2 rfl (lo2 rfl lo0)) rfl (fun hG => c_Compare W0 N _ (gA kids 0) rxAll (Nat.lt_succ_self _) (by omega) (by decide) hk00.1.1 rxAll_good.1) rfl ?_
    refine LexE.gval rfl (fun h' => (Grd.f rfl rfl rfl)) rfl (fun hG h' ha => Val.eql (Ev.opt rfl hG) Ev.const) ?_
    refine LexE.val rfl rfl rfl (fun h' ha => Val.or (tm rfl) (fun hb => Ev.opt rfl (nt hb))) ?_
    refine LexE.nil (nm ?_)
    refine W.norm 146 [(1, _), (4, _), (48, _)] [some ⟨_, _, [[_, _, _, _]]⟩, some ⟨_, _, [[_, _, _, _]]⟩] rfl ⟨rfl, rfl, rfl, trivial⟩ rfl rfl ?_
    refine W.condP rfl (fun hc9 => ?_) (fun hc9 => ?_)
    · try simp only [td] at hc9
      refine sr ?_
      refine mv rfl rfl ?_
      refine WL.v (Val.ixRx Tryd.underlying96 zs98 (tm rfl) Ev.const (by omega) (gA_at (by omega) (by omega))) rfl ?_
      refine WL.v (Val.loadAgg Tryd.underlying98 rfl zs98 (tm rfl) (bl rfl)) rfl ?_
      refine WL.stp rfl (Stp.st (tm rfl) (tm rfl) zs98 rfl rfl rfl rfl rfl rfl rfl rfl) ?_
      refine WL.norm 146 [(4, _)] [some ⟨_, _, [[_, _, _, _]]⟩, some ⟨_, _, [[_, _, _, _]]⟩] rfl ⟨rfl, trivial⟩ rfl rfl ?_
      refine wn ?_
      refine W.ret (rt1 (rt1 ?_))
      exact Ret.of (.inr rfl) rfl (resCell rfl Tryd.underlying98 rfl zs98 rfl rfl rfl rfl rfl rfl) (Fewer.nil _) (.inr trivial) (fun id h => absurd h (Nat.not_lt_zero _)) (.same rfl) ⟨rfl, gA kids 0, rfl, hk00.1, (by omega)⟩
    try simp only [td] at hc9
    refine W.skip (nm ?_)
    refine sr ?_
    refine mv rfl rfl ?_
    refine WL.v (Val.build (vs := [(0, _), (3, _)]) Tryd.underlying98 zz98 rfl rfl pl98 rfl ⟨Ev.const, rfl, rfl, rfl, ⟨(tm rfl), rfl, rfl, rfl, trivial⟩⟩) rfl ?_
    refine WL.stp rfl (Stp.st (tm rfl) (tm rfl) zs98 rfl rfl rfl rfl rfl rfl rfl rfl) ?_
    refine WL.norm 146 [(4, _)] [some ⟨_, _, [[_, _, _, _]]⟩, some ⟨_, _, [[_, _, _, _]]⟩] rfl ⟨rfl, trivial⟩ rfl rfl ?_
    refine wn ?_
    refine W.ret (rt1 ?_)
    exact Ret.of (.inr rfl) rfl (resCell rfl Tryd.underlying98 rfl zs98 rfl rfl rfl rfl rfl rfl) (Fewer.nil _) (.inr trivial) (fun id h => absurd h (Nat.not_lt_zero _)) (.same rfl) ⟨rfl, .mk 7 0 0 kids, rfl, RxG.list (by omega) (fun _ => hone) hkids.1, (by rw [Rx.nodes_eq]; show 1 + Rx.nodesL kids ≤ _; omega)⟩
  try simp only [td] at hc6
  refine W.skip (nm ?_)
  refine sr ?_
  refine WL.v (Val.assign Ev.const) rfl ?_
  refine WL.norm 146 [(0, _), (1, _), (4, _), (5, _), (6, _)] [some ⟨_, _, [[_, _, _, _]]⟩, some ⟨_, _, [[_, _, _, _]]⟩] rfl ⟨rfl, rfl, rfl, rfl, rfl, trivial⟩ rfl rfl ?_
  refine wn ?_
  refine W.seq ?_
  refine sr ?_
  refine WL.v (Val.assign Ev.const) rfl ?_
  refine WL.norm 146 [(0, _), (1, _), (4, _), (5, _), (6, _), (7, _)] [some ⟨_, _, [[_, _, _, _]]⟩, some ⟨_, _, [[_, _, _, _]]⟩] rfl ⟨rfl, rfl, rfl, rfl, rfl, rfl, trivial⟩ rfl rfl ?_
  refine wn ?_
  refine W.reserve ?_
  refine W.norm 146 [(0, _), (1, _), (4, _), (5, _), (6, _), (7, _)] [some ⟨_, _, [[_, _, _, _]]⟩, some ⟨_, _, [[_, _, _, _]]⟩, _] rfl ⟨rfl, rfl, rfl, rfl, rfl, rfl, trivial⟩ rfl rfl ?_
  refine W.block (W.loop (fun nn S => ∃ (k : Int) (fl : List Rx) (vF : AV) (oF : Option Row), S = ⟨146, [(0, .i kind), (1, .f (.lst 4 (kids.map Rx.cells))), (4, .ptr 0 0 4 0 0), (5, .ptr 1 0 4 0 0), (6, vF), (7, .i k)], [some ⟨0, 4, [[.i 0, .c 0, .c 0, .nil]]⟩, some ⟨0, 4, [[.i 6, .c 0, .c 0, .f (.lst 4 (([.mk 0 0 0 []] : List Rx).map Rx.cells))]]⟩, oF], []⟩ ∧ nn = ((kids.length - k).toNat) ∧ (0 ≤ k) ∧ (k ≤ kids.length) ∧ (LG fl (Rx.nodesL (kids.take k.toNat))) ∧ (Acc 2 4 (fz (fl.map Rx.cells)) vF oF)) ⟨0, [], _, _, rfl, rfl, by omega, by omega, LG.nil, Acc.zero⟩ ?_)
  rintro nn S ⟨k, fl, vF, oF, rfl, rfl, hk0, hk1, hfl, hF⟩
  refine W.seq ?_
  refine sr ?_
  refine mv rfl rfl ?_
  refine mv rfl rfl ?_
  refine WL.v (Val.ln (enc := Rx.cells) Tryd.underlying96 (tm rfl)) rfl ?_
  refine WL.v (Val.lss (tm rfl) (tm rfl)) rfl ?_
  refine WL.norm 146 [(0, _), (1, _), (4, _), (5, _), (6, _), (7, _), (57, _)] [some ⟨_, _, [[_, _, _, _]]⟩, some ⟨_, _, [[_, _, _, _]]⟩, _] rfl ⟨rfl, rfl, rfl, rfl, rfl, rfl, rfl, trivial⟩ rfl rfl ?_
  refine wn ?_
  refine W.condP rfl (fun hc14 => ?_) (fun hc14 => ?_)
  · try simp only [td] at hc14
    refine W.skip (nm ?_)
    refine W.seq ?_
    refine W.block ?_
    refine W.seq ?_
    have hkk := LG.at hkids hk0 hc14
    have hstk := Rx.nodesL_take hk0 hc14
    have hlek := Rx.nodesL_le_take kids (k + 1).toNat
    have hflen := hfl.len
    refine W.region ?_
    refine mv rfl rfl ?_
    refine mv rfl rfl ?_
    refine WL.v (Val.ixRx Tryd.underlying96 zs98 (tm rfl) (tm rfl) (by omega) (gA_at (by omega) (by omega))) rfl ?_
    refine WL.v (Val.fa (off := 0) Tryd.underlying98 rfl rfl zs3 (tm rfl)) rfl ?_
    refine WL.v (Val.load Tryd.underlying3 rfl (tm rfl)) rfl ?_
    refine mv rfl rfl ?_
    refine WL.v (Val.eql (tm rfl) (tm rfl)) rfl ?_
    refine WL.norm 146 [(0, _), (1, _), (4, _), (5, _), (6, _), (7, _), (66, _)] [some ⟨_, _, [[_, _, _, _]]⟩, some ⟨_, _, [[_, _, _, _]]⟩, _] rfl ⟨rfl, rfl, rfl, rfl, rfl, rfl, rfl, trivial⟩ rfl rfl ?_
    refine wn ?_
    refine W.condP rfl (fun hc16 => ?_) (fun hc16 => ?_)
    · try simp only [td] at hc16
      have hfl2 := LG.app hfl (b := (gA kids k).kids) ⟨fun x hx => hkk.1.kid hx, Nat.le_refl _⟩ (k := Rx.nodesL (kids.take (k + 1).toNat)) (by rw [hstk, Rx.nodes_eq (gA kids k)]; omega)
      have hkkl := (gA kids k).kids_len
      refine W.region ?_
      refine mv rfl rfl ?_
      refine mv rfl rfl ?_
      refine mv rfl rfl ?_
      refine WL.v (Val.ixRx Tryd.underlying96 zs98 (tm rfl) (tm rfl) (by omega) (gA_at (by omega) (by omega))) rfl ?_
      refine WL.v (Val.fa (off := 3) Tryd.underlying98 rfl rfl zs96 (tm rfl)) rfl ?_
      refine WL.v (Val.load Tryd.underlying96 rfl (tm rfl)) rfl ?_
      refine WL.appE (enc := Rx.cells) ap96_96 (tm rfl) rfl hF (ArgE.lst (enc := Rx.cells) (tm rfl) rxOne) (by first | omega | (simp only [List.length_cons, List.length_nil]; omega)) rfl ?_
      intro v' o' hF'
      refine asg rfl rfl ?_
      refine WL.norm 146 [(0, _), (1, _), (4, _), (5, _), (6, _), (7, _)] [some ⟨_, _, [[_, _, _, _]]⟩, some ⟨_, _, [[_, _, _, _]]⟩, _] rfl ⟨rfl, rfl, rfl, rfl, rfl, rfl, trivial⟩ rfl rfl ?_
      refine WL.nil (nb (nm ?_))
      refine W.region ?_
      refine mv rfl rfl ?_
      refine WL.v (Val.add (tm rfl) Ev.const (IntWalk.i64_in _ (by omega))) rfl ?_
      refine asg rfl rfl ?_
      refine WL.norm 146 [(0, _), (1, _), (4, _), (5, _), (6, _), (7, _)] [some ⟨_, _, [[_, _, _, _]]⟩, some ⟨_, _, [[_, _, _, _]]⟩, _] rfl ⟨rfl, rfl, rfl, rfl, rfl, rfl, trivial⟩ rfl rfl ?_
      refine wn ?_
      exact ⟨_, by omega, k + 1, _, _, _, rfl, rfl, by omega, by omega, hfl2, hF'⟩
    try simp only [td] at hc16
    have hfl2 := LG.app hfl (LG.one hkk.1) (k := Rx.nodesL (kids.take (k + 1).toNat)) (by rw [hstk]; omega)
    refine W.region ?_
    refine mv rfl rfl ?_
    refine mv rfl rfl ?_
    refine mv rfl rfl ?_
    refine WL.v (Val.ixRx Tryd.underlying96 zs98 (tm rfl) (tm rfl) (by omega) (gA_at (by omega) (by omega))) rfl ?_
    refine WL.v (Val.loadAgg Tryd.underlying98 rfl zs98 (tm rfl) (bl rfl)) rfl ?_
    refine WL.stp rfl (Stp.buildFrozen (xs := [_]) (fs := ([gA kids k] : List Rx).map Rx.cells) Tryd.underlying96 zs98 zz98 rfl rfl (evc (tm rfl) evn) fitL (bl rfl) (els_rx ([gA kids k] : List Rx)) rfl) ?_
    refine WL.appE (enc := Rx.cells) ap96_96 (tm rfl) rfl hF (ArgE.lst (enc := Rx.cells) (tm rfl) rxOne) (by first | omega | (simp only [List.length_cons, List.length_nil]; omega)) rfl ?_
    intro v' o' hF'
    refine asg rfl rfl ?_
    refine WL.norm 146 [(0, _), (1, _), (4, _), (5, _), (6, _), (7, _)] [some ⟨_, _, [[_, _, _, _]]⟩, some ⟨_, _, [[_, _, _, _]]⟩, _] rfl ⟨rfl, rfl, rfl, rfl, rfl, rfl, trivial⟩ rfl rfl ?_
    refine WL.nil (nb (nm ?_))
    refine W.region ?_
    refine mv rfl rfl ?_
    refine WL.v (Val.add (tm rfl) Ev.const (IntWalk.i64_in _ (by omega))) rfl ?_
    refine asg rfl rfl ?_
    refine WL.norm 146 [(0, _), (1, _), (4, _), (5, _), (6, _), (7, _)] [some ⟨_, _, [[_, _, _, _]]⟩, some ⟨_, _, [[_, _, _, _]]⟩, _] rfl ⟨rfl, rfl, rfl, rfl, rfl, rfl, trivial⟩ rfl rfl ?_
    refine wn ?_
    exact ⟨_, by omega, k + 1, _, _, _, rfl, rfl, by omega, by omega, hfl2, hF'⟩
  try simp only [td] at hc14
  refine W.exit (ex1 (ex1 (ex2 (nm ?_))))
  refine W.seq ?_
  refine W.cut (env := [(0, _), (4, _), (5, _), (6, _)]) (h' := [some ⟨_, _, [[_, _, _, _]]⟩, some ⟨_, _, [[_, _, _, _]]⟩]) (Fewer.pre _ rfl) (.inr (HLo.box (lo1 (lo1 (lo1 (lo1 lo0)))) (HLo.box (lo1 (lo1 (lo1 (lo1 lo0)))) HLo.nil))) (fun id h => absurd h (Nat.not_lt_zero _)) ⟨⟨_, rfl, (.same rfl)⟩, ⟨_, rfl, (.same rfl)⟩, ⟨_, rfl, (.same rfl)⟩, ⟨_, rfl, (Acc.thaw hF rfl rfl (encL (by intro x; first | rfl | exact rxLen x)))⟩, trivial⟩ ?_
  have hall : kids.take k.toNat = kids := List.take_of_length_le (by omega)
  rw [hall] at hfl
  have hnt := neutral_ok (k := kind - 3) (by omega) (by omega)
  have hdc := decides_ok (k := kind - 3) (by omega) (by omega)
  have hflen2 := hfl.len
  have hfl2n := hfl.2
  refine W.region ?_
  refine WL.v (Val.le (Val.build (vs := [(0, _)]) Tryd.underlying98 zz98 rfl rfl pl98 rfl ⟨Ev.const, rfl, rfl, rfl, trivial⟩) (Le.agg (ys := [_, _, _, .f (.lst 4 [])]) (LeL.cons (Le.refl _) (LeL.cons (Le.refl _) (LeL.cons (Le.refl _) (LeL.cons Le.nil LeL.nil)))))) rfl ?_
  refine WL.v (Val.le (Val.build (vs := []) Tryd.underlying98 zz98 rfl rfl pl98 rfl trivial) (Le.agg (ys := [_, _, _, .f (.lst 4 [])]) (LeL.cons (Le.refl _) (LeL.cons (Le.refl _) (LeL.cons (Le.refl _) (LeL.cons Le.nil LeL.nil)))))) rfl ?_
  refine WL.v (Val.loadLiveAgg Tryd.underlying98 rfl zs98 (tm rfl) rfl rfl rfl rfl (bl rfl)) rfl ?_
  refine WL.stp rfl (Stp.buildFrozen (xs := [_, _, _]) (fs := ([.mk 1 0 0 [], .mk 0 0 0 [], rxAll] : List Rx).map Rx.cells) Tryd.underlying96 zs98 zz98 rfl rfl (evc (tm rfl) (evc (tm rfl) (evc (tm rfl) evn))) fitL (bl rfl) (els_rx ([.mk 1 0 0 [], .mk 0 0 0 [], rxAll] : List Rx)) rfl) ?_
  refine mv rfl rfl ?_
  refine WL.v (Val.sub (tm rfl) Ev.const (IntWalk.i64_in _ (by omega))) rfl ?_
  refine WL.v (Val.ixRx Tryd.underlying96 zs98 (tm rfl) (tm rfl) (by omega) (gA_at (by omega) (by show _ < (3 : Int); omega))) rfl ?_
  refine WL.v (Val.loadAgg Tryd.underlying98 rfl zs98 (tm rfl) (bl rfl)) rfl ?_
  refine WL.stp rfl (Stp.alloc zz98 rfl rfl) ?_
  refine WL.stp rfl (Stp.st (tm rfl) (tm rfl) zs98 rfl rfl rfl rfl rfl rfl rfl rfl) ?_
  refine WL.norm 146 [(0, _), (4, _), (5, _), (6, _), (8, _)] [some ⟨_, _, [[_, _, _, _]]⟩, some ⟨_, _, [[_, _, _, _]]⟩, some ⟨_, _, [[_, _, _, _]]⟩] rfl ⟨rfl, rfl, rfl, rfl, rfl, trivial⟩ rfl rfl ?_
  refine wn ?_
  refine sr ?_
  refine WL.v (Val.le (Val.build (vs := []) Tryd.underlying98 zz98 rfl rfl pl98 rfl trivial) (Le.agg (ys := [_, _, _, .f (.lst 4 [])]) (LeL.cons (Le.refl _) (LeL.cons (Le.refl _) (LeL.cons (Le.refl _) (LeL.cons Le.nil LeL.nil)))))) rfl ?_
  refine WL.v (Val.loadLiveAgg Tryd.underlying98 rfl zs98 (tm rfl) rfl rfl rfl rfl (bl rfl)) rfl ?_
  refine WL.v (Val.le (Val.build (vs := []) Tryd.underlying98 zz98 rfl rfl pl98 rfl trivial) (Le.agg (ys := [_, _, _, .f (.lst 4 [])]) (LeL.cons (Le.refl _) (LeL.cons (Le.refl _) (LeL.cons (Le.refl _) (LeL.cons Le.nil LeL.nil)))))) rfl ?_
  refine WL.stp rfl (Stp.buildFrozen (xs := [_, _, _]) (fs := ([.mk 0 0 0 [], rxAll, .mk 0 0 0 []] : List Rx).map Rx.cells) Tryd.underlying96 zs98 zz98 rfl rfl (evc (tm rfl) (evc (tm rfl) (evc (tm rfl) evn))) fitL (bl rfl) (els_rx ([.mk 0 0 0 [], rxAll, .mk 0 0 0 []] : List Rx)) rfl) ?_
  refine mv rfl rfl ?_
  refine WL.v (Val.sub (tm rfl) Ev.const (IntWalk.i64_in _ (by omega))) rfl ?_
  refine WL.v (Val.ixRx Tryd.underlying96 zs98 (tm rfl) (tm rfl) (by omega) (gA_at (by omega) (by show _ < (3 : Int); omega))) rfl ?_
  refine WL.v (Val.loadAgg Tryd.underlying98 rfl zs98 (tm rfl) (bl rfl)) rfl ?_
  refine WL.stp rfl (Stp.alloc zz98 rfl rfl) ?_
  refine WL.stp rfl (Stp.st (tm rfl) (tm rfl) zs98 rfl rfl rfl rfl rfl rfl rfl rfl) ?_
  refine WL.norm 146 [(0, _), (4, _), (6, _), (8, _), (9, _)] [some ⟨_, _, [[_, _, _, _]]⟩, some ⟨_, _, [[_, _, _, _]]⟩, some ⟨_, _, [[_, _, _, _]]⟩, some ⟨_, _, [[_, _, _, _]]⟩] rfl ⟨rfl, rfl, rfl, rfl, rfl, trivial⟩ rfl rfl ?_
  refine wn ?_
  refine W.seq ?_
  by_cases h3 : kind = 3
  · refine W.region ?_
    refine WL.v (Val.assign Ev.const) rfl ?_
    refine WL.norm 146 [(0, _), (4, _), (6, _), (8, _), (9, _), (10, _)] [some ⟨_, _, [[_, _, _, _]]⟩, some ⟨_, _, [[_, _, _, _]]⟩, some ⟨_, _, [[_, _, _, _]]⟩, some ⟨_, _, [[_, _, _, _]]⟩] rfl ⟨rfl, rfl, rfl, rfl, rfl, rfl, trivial⟩ rfl rfl ?_
    refine wn ?_
    refine W.seq ?_
    refine sr ?_
    refine WL.v (Val.assign Ev.const) rfl ?_
    refine WL.norm 146 [(0, _), (4, _), (6, _), (8, _), (9, _), (10, _), (11, _)] [some ⟨_, _, [[_, _, _, _]]⟩, some ⟨_, _, [[_, _, _, _]]⟩, some ⟨_, _, [[_, _, _, _]]⟩, some ⟨_, _, [[_, _, _, _]]⟩] rfl ⟨rfl, rfl, rfl, rfl, rfl, rfl, rfl, trivial⟩ rfl rfl ?_
    refine wn ?_
    refine W.reserve ?_
    refine W.norm 146 [(0, _), (4, _), (6, _), (8, _), (9, _), (10, _), (11, _)] [some ⟨_, _, [[_, _, _, _]]⟩, some ⟨_, _, [[_, _, _, _]]⟩, some ⟨_, _, [[_, _, _, _]]⟩, some ⟨_, _, [[_, _, _, _]]⟩, _] rfl ⟨rfl, rfl, rfl, rfl, rfl, rfl, rfl, trivial⟩ rfl rfl ?_
    refine W.block (W.loop (fun nn S => ∃ (k : Int) (ol : List Rx) (vO : AV) (oO : Option Row), S = ⟨146, [(0, .i kind), (4, .ptr 0 0 4 0 0), (6, .f (.lst 4 (fl.map Rx.cells))), (8, .ptr 2 0 4 0 0), (9, .ptr 3 0 4 0 0), (10, vO), (11, .i k)], [some ⟨0, 4, [[.i 0, .c 0, .c 0, .nil]]⟩, some ⟨0, 4, [[.i 6, .c 0, .c 0, .f (.lst 4 (([.mk 0 0 0 []] : List Rx).map Rx.cells))]]⟩, some ⟨0, 4, [[.i (gA ([.mk 1 0 0 [], .mk 0 0 0 [], rxAll] : List Rx) (kind - 3)).kind, .c (gA ([.mk 1 0 0 [], .mk 0 0 0 [], rxAll] : List Rx) (kind - 3)).lo, .c (gA ([.mk 1 0 0 [], .mk 0 0 0 [], rxAll] : List Rx) (kind - 3)).hi, .f (.lst 4 ((gA ([.mk 1 0 0 [], .mk 0 0 0 [], rxAll] : List Rx) (kind - 3)).kids.map Rx.cells))]]⟩, some ⟨0, 4, [[.i (gA ([.mk 0 0 0 [], rxAll, .mk 0 0 0 []] : List Rx) (kind - 3)).kind, .c (gA ([.mk 0 0 0 [], rxAll, .mk 0 0 0 []] : List Rx) (kind - 3)).lo, .c (gA ([.mk 0 0 0 [], rxAll, .mk 0 0 0 []] : List Rx) (kind - 3)).hi, .f (.lst 4 ((gA ([.mk 0 0 0 [], rxAll, .mk 0 0 0 []] : List Rx) (kind - 3)).kids.map Rx.cells))]]⟩, oO], []⟩ ∧ nn = ((fl.length - k).toNat) ∧ (0 ≤ k) ∧ (k ≤ fl.length) ∧ (LG ol (Rx.nodesL (fl.take k.toNat))) ∧ (Acc 4 4 (fz (ol.map Rx.cells)) vO oO)) ⟨0, [], _, _, rfl, rfl, by omega, by omega, LG.nil, Acc.zero⟩ ?_)
    rintro nn S ⟨k, ol, vO, oO, rfl, rfl, hm0, hm1, hol, hO⟩
    refine W.seq ?_
    refine sr ?_
    refine mv rfl rfl ?_
    refine mv rfl rfl ?_
    refine WL.v (Val.ln (enc := Rx.cells) Tryd.underlying96 (tm rfl)) rfl ?_
    refine WL.v (Val.lss (tm rfl) (tm rfl)) rfl ?_
    refine WL.norm 146 [(0, _), (4, _), (6, _), (8, _), (9, _), (10, _), (11, _), (100, _)] [some ⟨_, _, [[_, _, _, _]]⟩, some ⟨_, _, [[_, _, _, _]]⟩, some ⟨_, _, [[_, _, _, _]]⟩, some ⟨_, _, [[_, _, _, _]]⟩, _] rfl ⟨rfl, rfl, rfl, rfl, rfl, rfl, rfl, rfl, trivial⟩ rfl rfl ?_
    refine wn ?_
    refine W.condP rfl (fun hc23 => ?_) (fun hc23 => ?_)
    · try simp only [td] at hc23
      refine W.skip (nm ?_)
      refine W.seq ?_
      refine W.block ?_
      refine W.seq ?_
      refine W.seq ?_
      have hfk := LG.at hfl hm0 hc23
      have hstm := Rx.nodesL_take hm0 hc23
      have hlem := Rx.nodesL_le_take fl (k + 1).toNat
      have holen := hol.len
      refine W.drawE (fun k => ([([], []), ([], []), ([], []), ([], []), ([3], []), ([], []), ([], [])] : List (List Nat × List Nat)).getD k ([], [])) rfl (by kernel_rfl) (bl rfl) ?_
      refine LexE.val rfl rfl rfl (fun h' ha => Val.move (tm rfl)) ?_
      refine LexE.val rfl rfl rfl (fun h' ha => Val.move (tm rfl)) ?_
      refine LexE.val rfl rfl rfl (fun h' ha => Val.ixRx Tryd.underlying96 zs98 (tm rfl) (tm rfl) (by omega) (gA_at (by omega) (by omega))) ?_
      refine LexE.val rfl rfl rfl (fun h' ha => Val.loadAgg Tryd.underlying98 rfl zs98 (tm rfl) (bl rfl)) ?_
      refine LexE.val rfl rfl rfl (fun h' ha => Val.loadLiveAgg Tryd.underlying98 rfl zs98 (tm rfl) ((ha.at_ 3 (by decide)).trans rfl) rfl rfl rfl (bl rfl)) ?_
      refine LexE.call ca85 (fun h' ha => (evc (tm rfl) (evc (tm rfl) evn))) (lo2 rfl (lo2 rfl lo0)) rfl (c_Compare W0 N _ (gA fl k) (gA ([.mk 0 0 0 [], rxAll, .mk 0 0 0 []] : List Rx) (kind - 3)) (Nat.lt_succ_self _) (by omega) (by omega) hfk.1.1 hdc.1.1) rfl ?_
      refine LexE.val rfl rfl rfl (fun h' ha => Val.eql (tm rfl) Ev.const) ?_
      refine LexE.nil (nm ?_)
      refine W.norm 146 [(0, _), (4, _), (6, _), (8, _), (9, _), (10, _), (11, _), (109, _)] [some ⟨_, _, [[_, _, _, _]]⟩, some ⟨_, _, [[_, _, _, _]]⟩, some ⟨_, _, [[_, _, _, _]]⟩, some ⟨_, _, [[_, _, _, _]]⟩, _] rfl ⟨rfl, rfl, rfl, rfl, rfl, rfl, rfl, rfl, trivial⟩ rfl rfl ?_
      refine W.condP rfl (fun hc25 => ?_) (fun hc25 => ?_)
      · try simp only [td] at hc25
        refine sr ?_
        refine WL.v (Val.loadLiveAgg Tryd.underlying98 rfl zs98 (tm rfl) rfl rfl rfl rfl (bl rfl)) rfl ?_
        refine WL.stp rfl (Stp.st (tm rfl) (tm rfl) zs98 rfl rfl rfl rfl rfl rfl rfl rfl) ?_
        refine WL.norm 146 [(4, _)] [some ⟨_, _, [[_, _, _, _]]⟩, some ⟨_, _, [[_, _, _, _]]⟩, some ⟨_, _, [[_, _, _, _]]⟩, some ⟨_, _, [[_, _, _, _]]⟩, _] rfl ⟨rfl, trivial⟩ rfl rfl ?_
        refine wn ?_
        refine W.ret (rt1 (rt2 (rt1 (rt1 (rt2 (rt1 ?_))))))
        exact Ret.of (.inr rfl) rfl (resCell rfl Tryd.underlying98 rfl zs98 rfl rfl rfl rfl rfl rfl) (Fewer.nil _) (.inr trivial) (fun id h => absurd h (Nat.not_lt_zero _)) (.same rfl) ⟨rfl, (gA ([.mk 0 0 0 [], rxAll, .mk 0 0 0 []] : List Rx) (kind - 3)), rfl, hdc.1, (by omega)⟩
      try simp only [td] at hc25
      refine W.skip (nm ?_)
      refine W.seq ?_
      refine W.seq ?_
      refine W.drawE (fun k => ([([], []), ([], []), ([], []), ([], []), ([2], []), ([], []), ([], [])] : List (List Nat × List Nat)).getD k ([], [])) rfl (by kernel_rfl) (bl rfl) ?_
      refine LexE.val rfl rfl rfl (fun h' ha => Val.move (tm rfl)) ?_
      refine LexE.val rfl rfl rfl (fun h' ha => Val.move (tm rfl)) ?_
      refine LexE.val rfl rfl rfl (fun h' ha => Val.ixRx Tryd.underlying96 zs98 (tm rfl) (tm rfl) (by omega) (gA_at (by omega) (by omega))) ?_
      refine LexE.val rfl rfl rfl (fun h' ha => Val.loadAgg Tryd.underlying98 rfl zs98 (tm rfl) (bl rfl)) ?_
      refine LexE.val rfl rfl rfl (fun h' ha => Val.loadLiveAgg Tryd.underlying98 rfl zs98 (tm rfl) ((ha.at_ 2 (by decide)).trans rfl) rfl rfl rfl (bl rfl)) ?_
      refine LexE.call ca85 (fun h' ha => (evc (tm rfl) (evc (tm rfl) evn))) (lo2 rfl (lo2 rfl lo0)) rfl (c_Compare W0 N _ (gA fl k) (gA ([.mk 1 0 0 [], .mk 0 0 0 [], rxAll] : List Rx) (kind - 3)) (Nat.lt_succ_self _) (by omega) (by omega) hfk.1.1 hnt.1.1) rfl ?_
      refine LexE.val rfl rfl rfl (fun h' ha => Val.eql (tm rfl) Ev.const) ?_
      refine LexE.nil (nm ?_)
      refine W.norm 146 [(0, _), (4, _), (6, _), (8, _), (9, _), (10, _), (11, _), (117, _)] [some ⟨_, _, [[_, _, _, _]]⟩, some ⟨_, _, [[_, _, _, _]]⟩, some ⟨_, _, [[_, _, _, _]]⟩, some ⟨_, _, [[_, _, _, _]]⟩, _] rfl ⟨rfl, rfl, rfl, rfl, rfl, rfl, rfl, rfl, trivial⟩ rfl rfl ?_
      refine W.condP rfl (fun hc27 => ?_) (fun hc27 => ?_)
      · try simp only [td] at hc27
        have hol2 : LG ol (Rx.nodesL (fl.take (k + 1).toNat)) := ⟨hol.1, by have := hol.2; omega⟩
        have hO2 := hO
        refine W.exit (ex1 (ex2 (nm ?_)))
        refine W.region ?_
        refine mv rfl rfl ?_
        refine WL.v (Val.add (tm rfl) Ev.const (IntWalk.i64_in _ (by omega))) rfl ?_
        refine asg rfl rfl ?_
        refine WL.norm 146 [(0, _), (4, _), (6, _), (8, _), (9, _), (10, _), (11, _)] [some ⟨_, _, [[_, _, _, _]]⟩, some ⟨_, _, [[_, _, _, _]]⟩, some ⟨_, _, [[_, _, _, _]]⟩, some ⟨_, _, [[_, _, _, _]]⟩, _] rfl ⟨rfl, rfl, rfl, rfl, rfl, rfl, rfl, trivial⟩ rfl rfl ?_
        refine wn ?_
        exact ⟨_, by omega, k + 1, _, _, _, rfl, rfl, by omega, by omega, hol2, hO2⟩
      try simp only [td] at hc27
      refine W.skip (nm ?_)
      refine sr ?_
      refine mv rfl rfl ?_
      refine WL.v (Val.eql (tm rfl) Ev.const) rfl ?_
      refine WL.norm 146 [(0, _), (4, _), (6, _), (8, _), (9, _), (10, _), (11, _), (119, _)] [some ⟨_, _, [[_, _, _, _]]⟩, some ⟨_, _, [[_, _, _, _]]⟩, some ⟨_, _, [[_, _, _, _]]⟩, some ⟨_, _, [[_, _, _, _]]⟩, _] rfl ⟨rfl, rfl, rfl, rfl, rfl, rfl, rfl, rfl, trivial⟩ rfl rfl ?_
      refine wn ?_
      refine W.condP rfl (fun hc28 => ?_) (fun hc28 => ?_)
      · try simp only [td] at hc28
        have hol2 := LG.app hol (LG.one hfk.1) (k := Rx.nodesL (fl.take (k + 1).toNat)) (by rw [hstm]; omega)
        refine W.region ?_
        refine mv rfl rfl ?_
        refine mv rfl rfl ?_
        refine mv rfl rfl ?_
        refine WL.v (Val.ixRx Tryd.underlying96 zs98 (tm rfl) (tm rfl) (by omega) (gA_at (by omega) (by omega))) rfl ?_
        refine WL.v (Val.loadAgg Tryd.underlying98 rfl zs98 (tm rfl) (bl rfl)) rfl ?_
        refine WL.stp rfl (Stp.buildFrozen (xs := [_]) (fs := ([gA fl k] : List Rx).map Rx.cells) Tryd.underlying96 zs98 zz98 rfl rfl (evc (tm rfl) evn) fitL (bl rfl) (els_rx ([gA fl k] : List Rx)) rfl) ?_
        refine WL.appE (enc := Rx.cells) ap96_96 (tm rfl) rfl hO (ArgE.lst (enc := Rx.cells) (tm rfl) rxOne) (by simp only [List.length_cons, List.length_nil]; omega) rfl ?_
        intro v' o' hO2
        refine asg rfl rfl ?_
        refine WL.norm 146 [(0, _), (4, _), (6, _), (8, _), (9, _), (10, _), (11, _)] [some ⟨_, _, [[_, _, _, _]]⟩, some ⟨_, _, [[_, _, _, _]]⟩, some ⟨_, _, [[_, _, _, _]]⟩, some ⟨_, _, [[_, _, _, _]]⟩, _] rfl ⟨rfl, rfl, rfl, rfl, rfl, rfl, rfl, trivial⟩ rfl rfl ?_
        refine WL.nil (nb (nm ?_))
        refine W.region ?_
        refine mv rfl rfl ?_
        refine WL.v (Val.add (tm rfl) Ev.const (IntWalk.i64_in _ (by omega))) rfl ?_
        refine asg rfl rfl ?_
        refine WL.norm 146 [(0, _), (4, _), (6, _), (8, _), (9, _), (10, _), (11, _)] [some ⟨_, _, [[_, _, _, _]]⟩, some ⟨_, _, [[_, _, _, _]]⟩, some ⟨_, _, [[_, _, _, _]]⟩, some ⟨_, _, [[_, _, _, _]]⟩, _] rfl ⟨rfl, rfl, rfl, rfl, rfl, rfl, rfl, trivial⟩ rfl rfl ?_
        refine wn ?_
        exact ⟨_, by omega, k + 1, _, _, _, rfl, rfl, by omega, by omega, hol2, hO2⟩
      try simp only [td] at hc28
      exact absurd h3 hc28
    try simp only [td] at hc23
    refine W.exit (ex1 (ex1 (ex2 (nm ?_))))
    refine W.seq ?_
    refine W.seq ?_
    refine W.cut (env := [(0, _), (4, _), (8, _), (10, _)]) (h' := [some ⟨_, _, [[_, _, _, _]]⟩, some ⟨_, _, [[_, _, _, _]]⟩, some ⟨_, _, [[_, _, _, _]]⟩, some ⟨_, _, [[_, _, _, _]]⟩]) (Fewer.pre _ rfl) (.inr (HLo.box (lo1 (lo1 (lo1 (lo1 lo0)))) (HLo.box (lo1 (lo1 (lo1 (lo1 lo0)))) (HLo.box (lo1 (lo1 (lo1 (lo1 lo0)))) (HLo.box (lo1 (lo1 (lo1 (lo1 lo0)))) HLo.nil))))) (fun id h => absurd h (Nat.not_lt_zero _)) ⟨⟨_, rfl, (.same rfl)⟩, ⟨_, rfl, (.same rfl)⟩, ⟨_, rfl, (.same rfl)⟩, ⟨_, rfl, (Acc.thaw hO rfl rfl (encL (by intro x; first | rfl | exact rxLen x)))⟩, trivial⟩ ?_
    have hall2 : fl.take k.toNat = fl := List.take_of_length_le (by omega)
    rw [hall2] at hol
    have hol2n := hol.2
    refine W.region ?_
    refine mv rfl rfl ?_
    refine WL.v (Val.ln (enc := Rx.cells) Tryd.underlying96 (tm rfl)) rfl ?_
    refine WL.v (Val.eql (tm rfl) Ev.const) rfl ?_
    refine WL.norm 146 [(0, _), (4, _), (8, _), (10, _), (135, _)] [some ⟨_, _, [[_, _, _, _]]⟩, some ⟨_, _, [[_, _, _, _]]⟩, some ⟨_, _, [[_, _, _, _]]⟩, some ⟨_, _, [[_, _, _, _]]⟩] rfl ⟨rfl, rfl, rfl, rfl, rfl, trivial⟩ rfl rfl ?_
    refine wn ?_
    refine W.condP rfl (fun hc31 => ?_) (fun hc31 => ?_)
    · try simp only [td] at hc31
      refine sr ?_
      refine WL.v (Val.loadLiveAgg Tryd.underlying98 rfl zs98 (tm rfl) rfl rfl rfl rfl (bl rfl)) rfl ?_
      refine WL.stp rfl (Stp.st (tm rfl) (tm rfl) zs98 rfl rfl rfl rfl rfl rfl rfl rfl) ?_
      refine WL.norm 146 [(4, _)] [some ⟨_, _, [[_, _, _, _]]⟩, some ⟨_, _, [[_, _, _, _]]⟩, some ⟨_, _, [[_, _, _, _]]⟩, some ⟨_, _, [[_, _, _, _]]⟩] rfl ⟨rfl, trivial⟩ rfl rfl ?_
      refine wn ?_
      refine W.ret (rt1 ?_)
      exact Ret.of (.inr rfl) rfl (resCell rfl Tryd.underlying98 rfl zs98 rfl rfl rfl rfl rfl rfl) (Fewer.nil _) (.inr trivial) (fun id h => absurd h (Nat.not_lt_zero _)) (.same rfl) ⟨rfl, (gA ([.mk 1 0 0 [], .mk 0 0 0 [], rxAll] : List Rx) (kind - 3)), rfl, hnt.1, (by omega)⟩
    try simp only [td] at hc31
    refine W.skip (nm ?_)
    refine W.seq ?_
    refine sr ?_
    refine mv rfl rfl ?_
    refine WL.v (Val.ln (enc := Rx.cells) Tryd.underlying96 (tm rfl)) rfl ?_
    refine WL.v (Val.eql (tm rfl) Ev.const) rfl ?_
    refine WL.norm 146 [(0, _), (4, _), (10, _), (139, _)] [some ⟨_, _, [[_, _, _, _]]⟩, some ⟨_, _, [[_, _, _, _]]⟩, some ⟨_, _, [[_, _, _, _]]⟩, some ⟨_, _, [[_, _, _, _]]⟩] rfl ⟨rfl, rfl, rfl, rfl, trivial⟩ rfl rfl ?_
    refine wn ?_
    refine W.condP rfl (fun hc33 => ?_) (fun hc33 => ?_)
    · try simp only [td] at hc33
      refine sr ?_
      refine mv rfl rfl ?_
      refine WL.v (Val.ixRx Tryd.underlying96 zs98 (tm rfl) Ev.const (by omega) (gA_at (by omega) (by omega))) rfl ?_
      refine WL.v (Val.loadAgg Tryd.underlying98 rfl zs98 (tm rfl) (bl rfl)) rfl ?_
      refine WL.stp rfl (Stp.st (tm rfl) (tm rfl) zs98 rfl rfl rfl rfl rfl rfl rfl rfl) ?_
      refine WL.norm 146 [(4, _)] [some ⟨_, _, [[_, _, _, _]]⟩, some ⟨_, _, [[_, _, _, _]]⟩, some ⟨_, _, [[_, _, _, _]]⟩, some ⟨_, _, [[_, _, _, _]]⟩] rfl ⟨rfl, trivial⟩ rfl rfl ?_
      refine wn ?_
      refine W.ret (rt1 ?_)
      exact Ret.of (.inr rfl) rfl (resCell rfl Tryd.underlying98 rfl zs98 rfl rfl rfl rfl rfl rfl) (Fewer.nil _) (.inr trivial) (fun id h => absurd h (Nat.not_lt_zero _)) (.same rfl) ⟨rfl, gA ol 0, rfl, (LG.at hol (k := 0) (by omega) (by omega)).1, (by have := (LG.at hol (k := 0) (by omega) (by omega)).2; omega)⟩
    try simp only [td] at hc33
    refine W.skip (nm ?_)
    refine sr ?_
    refine mv rfl rfl ?_
    refine mv rfl rfl ?_
    refine WL.v (Val.build (vs := [(0, _), (3, _)]) Tryd.underlying98 zz98 rfl rfl pl98 rfl ⟨(tm rfl), rfl, rfl, rfl, ⟨(tm rfl), rfl, rfl, rfl, trivial⟩⟩) rfl ?_
    refine WL.stp rfl (Stp.st (tm rfl) (tm rfl) zs98 rfl rfl rfl rfl rfl rfl rfl rfl) ?_
    refine WL.norm 146 [(4, _)] [some ⟨_, _, [[_, _, _, _]]⟩, some ⟨_, _, [[_, _, _, _]]⟩, some ⟨_, _, [[_, _, _, _]]⟩, some ⟨_, _, [[_, _, _, _]]⟩] rfl ⟨rfl, trivial⟩ rfl rfl ?_
    refine wn ?_
    refine W.ret ?_
    exact Ret.of (.inr rfl) rfl (resCell rfl Tryd.underlying98 rfl zs98 rfl rfl rfl rfl rfl rfl) (Fewer.nil _) (.inr trivial) (fun id h => absurd h (Nat.not_lt_zero _)) (.same rfl) ⟨rfl, .mk kind 0 0 ol, rfl, RxG.list (by omega) (by omega) hol.1, (by rw [Rx.nodes_eq]; show 1 + Rx.nodesL ol ≤ _; have := hol.2; omega)⟩
  refine W.region ?_
  refine WL.v (Val.le (Val.assign Ev.const) (Le.nil (s := 4))) rfl ?_
  refine WL.norm 146 [(0, _), (4, _), (6, _), (8, _), (9, _), (10, _)] [some ⟨_, _, [[_, _, _, _]]⟩, some ⟨_, _, [[_, _, _, _]]⟩, some ⟨_, _, [[_, _, _, _]]⟩, some ⟨_, _, [[_, _, _, _]]⟩] rfl ⟨rfl, rfl, rfl, rfl, rfl, rfl, trivial⟩ rfl rfl ?_
  refine wn ?_
  refine W.seq ?_
  refine sr ?_
  refine WL.v (Val.assign Ev.const) rfl ?_
  refine WL.norm 146 [(0, _), (4, _), (6, _), (8, _), (9, _), (10, _), (11, _)] [some ⟨_, _, [[_, _, _, _]]⟩, some ⟨_, _, [[_, _, _, _]]⟩, some ⟨_, _, [[_, _, _, _]]⟩, some ⟨_, _, [[_, _, _, _]]⟩] rfl ⟨rfl, rfl, rfl, rfl, rfl, rfl, rfl, trivial⟩ rfl rfl ?_
  refine wn ?_
  refine W.norm 146 [(0, _), (4, _), (6, _), (8, _), (9, _), (10, _), (11, _)] [some ⟨_, _, [[_, _, _, _]]⟩, some ⟨_, _, [[_, _, _, _]]⟩, some ⟨_, _, [[_, _, _, _]]⟩, some ⟨_, _, [[_, _, _, _]]⟩] rfl ⟨rfl, rfl, rfl, rfl, rfl, rfl, rfl, trivial⟩ rfl rfl ?_
  refine W.block (W.loop (fun nn S => ∃ (k : Int) (ol : List Rx), S = ⟨146, [(0, .i kind), (4, .ptr 0 0 4 0 0), (6, .f (.lst 4 (fl.map Rx.cells))), (8, .ptr 2 0 4 0 0), (9, .ptr 3 0 4 0 0), (10, .f (.lst 4 (ol.map Rx.cells))), (11, .i k)], [some ⟨0, 4, [[.i 0, .c 0, .c 0, .nil]]⟩, some ⟨0, 4, [[.i 6, .c 0, .c 0, .f (.lst 4 (([.mk 0 0 0 []] : List Rx).map Rx.cells))]]⟩, some ⟨0, 4, [[.i (gA ([.mk 1 0 0 [], .mk 0 0 0 [], rxAll] : List Rx) (kind - 3)).kind, .c (gA ([.mk 1 0 0 [], .mk 0 0 0 [], rxAll] : List Rx) (kind - 3)).lo, .c (gA ([.mk 1 0 0 [], .mk 0 0 0 [], rxAll] : List Rx) (kind - 3)).hi, .f (.lst 4 ((gA ([.mk 1 0 0 [], .mk 0 0 0 [], rxAll] : List Rx) (kind - 3)).kids.map Rx.cells))]]⟩, some ⟨0, 4, [[.i (gA ([.mk 0 0 0 [], rxAll, .mk 0 0 0 []] : List Rx) (kind - 3)).kind, .c (gA ([.mk 0 0 0 [], rxAll, .mk 0 0 0 []] : List Rx) (kind - 3)).lo, .c (gA ([.mk 0 0 0 [], rxAll, .mk 0 0 0 []] : List Rx) (kind - 3)).hi, .f (.lst 4 ((gA ([.mk 0 0 0 [], rxAll, .mk 0 0 0 []] : List Rx) (kind - 3)).kids.map Rx.cells))]]⟩], []⟩ ∧ nn = ((fl.length - k).toNat) ∧ (0 ≤ k) ∧ (k ≤ fl.length) ∧ (LG ol (Rx.nodesL (fl.take k.toNat)))) ⟨0, [], rfl, rfl, by omega, by omega, LG.nil⟩ ?_)
  rintro nn S ⟨k, ol, rfl, rfl, hm0, hm1, hol⟩
  refine W.seq ?_
  refine sr ?_
  refine mv rfl rfl ?_
  refine mv rfl rfl ?_
  refine WL.v (Val.ln (enc := Rx.cells) Tryd.underlying96 (tm rfl)) rfl ?_
  refine WL.v (Val.lss (tm rfl) (tm rfl)) rfl ?_
  refine WL.norm 146 [(0, _), (4, _), (6, _), (8, _), (9, _), (10, _), (11, _), (100, _)] [some ⟨_, _, [[_, _, _, _]]⟩, some ⟨_, _, [[_, _, _, _]]⟩, some ⟨_, _, [[_, _, _, _]]⟩, some ⟨_, _, [[_, _, _, _]]⟩] rfl ⟨rfl, rfl, rfl, rfl, rfl, rfl, rfl, rfl, trivial⟩ rfl rfl ?_
  refine wn ?_
  refine W.condP rfl (fun hc23 => ?_) (fun hc23 => ?_)
  · try simp only [td] at hc23
    refine W.skip (nm ?_)
    refine W.seq ?_
    refine W.block ?_
    refine W.seq ?_
    refine W.seq ?_
    have hfk := LG.at hfl hm0 hc23
    have hstm := Rx.nodesL_take hm0 hc23
    have hlem := Rx.nodesL_le_take fl (k + 1).toNat
    have holen := hol.len
    refine W.drawE (fun k => ([([], []), ([], []), ([], []), ([], []), ([3], []), ([], []), ([], [])] : List (List Nat × List Nat)).getD k ([], [])) rfl (by kernel_rfl) (bl rfl) ?_
    refine LexE.val rfl rfl rfl (fun h' ha => Val.move (tm rfl)) ?_
    refine LexE.val rfl rfl rfl (fun h' ha => Val.move (tm rfl)) ?_
    refine LexE.val rfl rfl rfl (fun h' ha => Val.ixRx Tryd.underlying96 zs98 (tm rfl) (tm rfl) (by omega) (gA_at (by omega) (by omega))) ?_
    refine LexE.val rfl rfl rfl (fun h' ha => Val.loadAgg Tryd.underlying98 rfl zs98 (tm rfl) (bl rfl)) ?_
    refine LexE.val rfl rfl rfl (fun h' ha => Val.loadLiveAgg Tryd.underlying98 rfl zs98 (tm rfl) ((ha.at_ 3 (by decide)).trans rfl) rfl rfl rfl (bl rfl)) ?_
    refine LexE.call ca85 (fun h' ha => (evc (tm rfl) (evc (tm rfl) evn))) (lo2 rfl (lo2 rfl lo0)) rfl (c_Compare W0 N _ (gA fl k) (gA ([.mk 0 0 0 [], rxAll, .mk 0 0 0 []] : List Rx) (kind - 3)) (Nat.lt_succ_self _) (by omega) (by omega) hfk.1.1 hdc.1.1) rfl ?_
    refine LexE.val rfl rfl rfl (fun h' ha => Val.eql (tm rfl) Ev.const) ?_
    refine LexE.nil (nm ?_)
    refine W.norm 146 [(0, _), (4, _), (6, _), (8, _), (9, _), (10, _), (11, _), (109, _)] [some ⟨_, _, [[_, _, _, _]]⟩, some ⟨_, _, [[_, _, _, _]]⟩, some ⟨_, _, [[_, _, _, _]]⟩, some ⟨_, _, [[_, _, _, _]]⟩] rfl ⟨rfl, rfl, rfl, rfl, rfl, rfl, rfl, rfl, trivial⟩ rfl rfl ?_
    refine W.condP rfl (fun hc25 => ?_) (fun hc25 => ?_)
    · try simp only [td] at hc25
      refine sr ?_
      refine WL.v (Val.loadLiveAgg Tryd.underlying98 rfl zs98 (tm rfl) rfl rfl rfl rfl (bl rfl)) rfl ?_
      refine WL.stp rfl (Stp.st (tm rfl) (tm rfl) zs98 rfl rfl rfl rfl rfl rfl rfl rfl) ?_
      refine WL.norm 146 [(4, _)] [some ⟨_, _, [[_, _, _, _]]⟩, some ⟨_, _, [[_, _, _, _]]⟩, some ⟨_, _, [[_, _, _, _]]⟩, some ⟨_, _, [[_, _, _, _]]⟩] rfl ⟨rfl, trivial⟩ rfl rfl ?_
      refine wn ?_
      refine W.ret (rt1 (rt2 (rt1 (rt1 (rt2 (rt1 ?_))))))
      exact Ret.of (.inr rfl) rfl (resCell rfl Tryd.underlying98 rfl zs98 rfl rfl rfl rfl rfl rfl) (Fewer.nil _) (.inr trivial) (fun id h => absurd h (Nat.not_lt_zero _)) (.same rfl) ⟨rfl, (gA ([.mk 0 0 0 [], rxAll, .mk 0 0 0 []] : List Rx) (kind - 3)), rfl, hdc.1, (by omega)⟩
    try simp only [td] at hc25
    refine W.skip (nm ?_)
    refine W.seq ?_
    refine W.seq ?_
    refine W.drawE (fun k => ([([], []), ([], []), ([], []), ([], []), ([2], []), ([], []), ([], [])] : List (List Nat × List Nat)).getD k ([], [])) rfl (by kernel_rfl) (bl rfl) ?_
    refine LexE.val rfl rfl rfl (fun h' ha => Val.move (tm rfl)) ?_
    refine LexE.val rfl rfl rfl (fun h' ha => Val.move (tm rfl)) ?_
    refine LexE.val rfl rfl rfl (fun h' ha => Val.ixRx Tryd.underlying96 zs98 (tm rfl) (tm rfl) (by omega) (gA_at (by omega) (by omega))) ?_
    refine LexE.val rfl rfl rfl (fun h' ha => Val.loadAgg Tryd.underlying98 rfl zs98 (tm rfl) (bl rfl)) ?_
    refine LexE.val rfl rfl rfl (fun h' ha => Val.loadLiveAgg Tryd.underlying98 rfl zs98 (tm rfl) ((ha.at_ 2 (by decide)).trans rfl) rfl rfl rfl (bl rfl)) ?_
    refine LexE.call ca85 (fun h' ha => (evc (tm rfl) (evc (tm rfl) evn))) (lo2 rfl (lo2 rfl lo0)) rfl (c_Compare W0 N _ (gA fl k) (gA ([.mk 1 0 0 [], .mk 0 0 0 [], rxAll] : List Rx) (kind - 3)) (Nat.lt_succ_self _) (by omega) (by omega) hfk.1.1 hnt.1.1) rfl ?_
    refine LexE.val rfl rfl rfl (fun h' ha => Val.eql (tm rfl) Ev.const) ?_
    refine LexE.nil (nm ?_)
    refine W.norm 146 [(0, _), (4, _), (6, _), (8, _), (9, _), (10, _), (11, _), (117, _)] [some ⟨_, _, [[_, _, _, _]]⟩, some ⟨_, _, [[_, _, _, _]]⟩, some ⟨_, _, [[_, _, _, _]]⟩, some ⟨_, _, [[_, _, _, _]]⟩] rfl ⟨rfl, rfl, rfl, rfl, rfl, rfl, rfl, rfl, trivial⟩ rfl rfl ?_
    refine W.condP rfl (fun hc27 => ?_) (fun hc27 => ?_)
    · try simp only [td] at hc27
      have hol2 : LG ol (Rx.nodesL (fl.take (k + 1).toNat)) := ⟨hol.1, by have := hol.2; omega⟩
      refine W.exit (ex1 (ex2 (nm ?_)))
      refine W.region ?_
      refine mv rfl rfl ?_
      refine WL.v (Val.add (tm rfl) Ev.const (IntWalk.i64_in _ (by omega))) rfl ?_
      refine asg rfl rfl ?_
      refine WL.norm 146 [(0, _), (4, _), (6, _), (8, _), (9, _), (10, _), (11, _)] [some ⟨_, _, [[_, _, _, _]]⟩, some ⟨_, _, [[_, _, _, _]]⟩, some ⟨_, _, [[_, _, _, _]]⟩, some ⟨_, _, [[_, _, _, _]]⟩] rfl ⟨rfl, rfl, rfl, rfl, rfl, rfl, rfl, trivial⟩ rfl rfl ?_
      refine wn ?_
      exact ⟨_, by omega, k + 1, _, rfl, rfl, by omega, by omega, hol2⟩
    try simp only [td] at hc27
    refine W.skip (nm ?_)
    refine sr ?_
    refine mv rfl rfl ?_
    refine WL.v (Val.eql (tm rfl) Ev.const) rfl ?_
    refine WL.norm 146 [(0, _), (4, _), (6, _), (8, _), (9, _), (10, _), (11, _), (119, _)] [some ⟨_, _, [[_, _, _, _]]⟩, some ⟨_, _, [[_, _, _, _]]⟩, some ⟨_, _, [[_, _, _, _]]⟩, some ⟨_, _, [[_, _, _, _]]⟩] rfl ⟨rfl, rfl, rfl, rfl, rfl, rfl, rfl, rfl, trivial⟩ rfl rfl ?_
    refine wn ?_
    refine W.condP rfl (fun hc28 => ?_) (fun hc28 => ?_)
    · try simp only [td] at hc28
      exact absurd hc28 h3
    try simp only [td] at hc28
    refine W.region ?_
    refine mv rfl rfl ?_
    refine mv rfl rfl ?_
    refine mv rfl rfl ?_
    refine WL.v (Val.ixRx Tryd.underlying96 zs98 (tm rfl) (tm rfl) (by omega) (gA_at (by omega) (by omega))) rfl ?_
    refine WL.v (Val.loadAgg Tryd.underlying98 rfl zs98 (tm rfl) (bl rfl)) rfl ?_
    refine WL.callV ca86 (evc (tm rfl) (evc (tm rfl) evn)) (lo1 (lo2 rfl lo0)) rfl (c_put W0 N _ _ (by omega) (fun x hx => by have := Rx.nodesL_mem hx; have := hol.2; omega) (by omega) (fun x hx => (hol.1 x hx).1) hfk.1.1) ?_
    rintro _ ⟨l', rfl, hl'_1, hl'_2, hl'_3⟩
    have hol2 := LG.put hol hfk.1 hl'_1 hl'_2 (n := Rx.nodesL (fl.take (k + 1).toNat)) (by rw [hstm]; omega)
    refine asg rfl rfl ?_
    refine WL.norm 146 [(0, _), (4, _), (6, _), (8, _), (9, _), (10, _), (11, _)] [some ⟨_, _, [[_, _, _, _]]⟩, some ⟨_, _, [[_, _, _, _]]⟩, some ⟨_, _, [[_, _, _, _]]⟩, some ⟨_, _, [[_, _, _, _]]⟩] rfl ⟨rfl, rfl, rfl, rfl, rfl, rfl, rfl, trivial⟩ rfl rfl ?_
    refine WL.nil (nb (nm ?_))
    refine W.region ?_
    refine mv rfl rfl ?_
    refine WL.v (Val.add (tm rfl) Ev.const (IntWalk.i64_in _ (by omega))) rfl ?_
    refine asg rfl rfl ?_
    refine WL.norm 146 [(0, _), (4, _), (6, _), (8, _), (9, _), (10, _), (11, _)] [some ⟨_, _, [[_, _, _, _]]⟩, some ⟨_, _, [[_, _, _, _]]⟩, some ⟨_, _, [[_, _, _, _]]⟩, some ⟨_, _, [[_, _, _, _]]⟩] rfl ⟨rfl, rfl, rfl, rfl, rfl, rfl, rfl, trivial⟩ rfl rfl ?_
    refine wn ?_
    exact ⟨_, by omega, k + 1, _, rfl, rfl, by omega, by omega, hol2⟩
  try simp only [td] at hc23
  refine W.exit (ex1 (ex1 (ex2 (nm ?_))))
  refine W.seq ?_
  refine W.seq ?_
  have hall2 : fl.take k.toNat = fl := List.take_of_length_le (by omega)
  rw [hall2] at hol
  have hol2n := hol.2
  refine W.region ?_
  refine mv rfl rfl ?_
  refine WL.v (Val.ln (enc := Rx.cells) Tryd.underlying96 (tm rfl)) rfl ?_
  refine WL.v (Val.eql (tm rfl) Ev.const) rfl ?_
  refine WL.norm 146 [(0, _), (4, _), (8, _), (10, _), (135, _)] [some ⟨_, _, [[_, _, _, _]]⟩, some ⟨_, _, [[_, _, _, _]]⟩, some ⟨_, _, [[_, _, _, _]]⟩, some ⟨_, _, [[_, _, _, _]]⟩] rfl ⟨rfl, rfl, rfl, rfl, rfl, trivial⟩ rfl rfl ?_
  refine wn ?_
  refine W.condP rfl (fun hc31 => ?_) (fun hc31 => ?_)
  · try simp only [td] at hc31
    refine sr ?_
    refine WL.v (Val.loadLiveAgg Tryd.underlying98 rfl zs98 (tm rfl) rfl rfl rfl rfl (bl rfl)) rfl ?_
    refine WL.stp rfl (Stp.st (tm rfl) (tm rfl) zs98 rfl rfl rfl rfl rfl rfl rfl rfl) ?_
    refine WL.norm 146 [(4, _)] [some ⟨_, _, [[_, _, _, _]]⟩, some ⟨_, _, [[_, _, _, _]]⟩, some ⟨_, _, [[_, _, _, _]]⟩, some ⟨_, _, [[_, _, _, _]]⟩] rfl ⟨rfl, trivial⟩ rfl rfl ?_
    refine wn ?_
    refine W.ret (rt1 ?_)
    exact Ret.of (.inr rfl) rfl (resCell rfl Tryd.underlying98 rfl zs98 rfl rfl rfl rfl rfl rfl) (Fewer.nil _) (.inr trivial) (fun id h => absurd h (Nat.not_lt_zero _)) (.same rfl) ⟨rfl, (gA ([.mk 1 0 0 [], .mk 0 0 0 [], rxAll] : List Rx) (kind - 3)), rfl, hnt.1, (by omega)⟩
  try simp only [td] at hc31
  refine W.skip (nm ?_)
  refine W.seq ?_
  refine sr ?_
  refine mv rfl rfl ?_
  refine WL.v (Val.ln (enc := Rx.cells) Tryd.underlying96 (tm rfl)) rfl ?_
  refine WL.v (Val.eql (tm rfl) Ev.const) rfl ?_
  refine WL.norm 146 [(0, _), (4, _), (10, _), (139, _)] [some ⟨_, _, [[_, _, _, _]]⟩, some ⟨_, _, [[_, _, _, _]]⟩, some ⟨_, _, [[_, _, _, _]]⟩, some ⟨_, _, [[_, _, _, _]]⟩] rfl ⟨rfl, rfl, rfl, rfl, trivial⟩ rfl rfl ?_
  refine wn ?_
  refine W.condP rfl (fun hc33 => ?_) (fun hc33 => ?_)
  · try simp only [td] at hc33
    refine sr ?_
    refine mv rfl rfl ?_
    refine WL.v (Val.ixRx Tryd.underlying96 zs98 (tm rfl) Ev.const (by omega) (gA_at (by omega) (by omega))) rfl ?_
    refine WL.v (Val.loadAgg Tryd.underlying98 rfl zs98 (tm rfl) (bl rfl)) rfl ?_
    refine WL.stp rfl (Stp.st (tm rfl) (tm rfl) zs98 rfl rfl rfl rfl rfl rfl rfl rfl) ?_
    refine WL.norm 146 [(4, _)] [some ⟨_, _, [[_, _, _, _]]⟩, some ⟨_, _, [[_, _, _, _]]⟩, some ⟨_, _, [[_, _, _, _]]⟩, some ⟨_, _, [[_, _, _, _]]⟩] rfl ⟨rfl, trivial⟩ rfl rfl ?_
    refine wn ?_
    refine W.ret (rt1 ?_)
    exact Ret.of (.inr rfl) rfl (resCell rfl Tryd.underlying98 rfl zs98 rfl rfl rfl rfl rfl rfl) (Fewer.nil _) (.inr trivial) (fun id h => absurd h (Nat.not_lt_zero _)) (.same rfl) ⟨rfl, gA ol 0, rfl, (LG.at hol (k := 0) (by omega) (by omega)).1, (by have := (LG.at hol (k := 0) (by omega) (by omega)).2; omega)⟩
  try simp only [td] at hc33
  refine W.skip (nm ?_)
  refine sr ?_
  refine mv rfl rfl ?_
  refine mv rfl rfl ?_
  refine WL.v (Val.build (vs := [(0, _), (3, _)]) Tryd.underlying98 zz98 rfl rfl pl98 rfl ⟨(tm rfl), rfl, rfl, rfl, ⟨(tm rfl), rfl, rfl, rfl, trivial⟩⟩) rfl ?_
  refine WL.stp rfl (Stp.st (tm rfl) (tm rfl) zs98 rfl rfl rfl rfl rfl rfl rfl rfl) ?_
  refine WL.norm 146 [(4, _)] [some ⟨_, _, [[_, _, _, _]]⟩, some ⟨_, _, [[_, _, _, _]]⟩, some ⟨_, _, [[_, _, _, _]]⟩, some ⟨_, _, [[_, _, _, _]]⟩] rfl ⟨rfl, trivial⟩ rfl rfl ?_
  refine wn ?_
  refine W.ret ?_
  exact Ret.of (.inr rfl) rfl (resCell rfl Tryd.underlying98 rfl zs98 rfl rfl rfl rfl rfl rfl) (Fewer.nil _) (.inr trivial) (fun id h => absurd h (Nat.not_lt_zero _)) (.same rfl) ⟨rfl, .mk kind 0 0 ol, rfl, RxG.list (by omega) (by omega) hol.1, (by rw [Rx.nodes_eq]; show 1 + Rx.nodesL ol ≤ _; have := hol.2; omega)⟩
end Go.Aw
namespace Go.Aw
open Go.RowKit Go.Proofs

theorem word3 {k : Int} (h0 : 0 ≤ k) (h1 : k < 3) : (gA ([⟨#[99, 97, 116, 40]⟩, ⟨#[97, 108, 116, 40]⟩, ⟨#[97, 108, 108, 40]⟩] : List ByteArray) k).size = 4 := by
  have : k = 0 ∨ k = 1 ∨ k = 2 := by omega
  rcases this with rfl | rfl | rfl <;> rfl
theorem sign3 {k : Int} (h0 : 0 ≤ k) (h1 : k < 3) : (gA ([⟨#[]⟩, ⟨#[124]⟩, ⟨#[38]⟩] : List ByteArray) k).size ≤ 1 := by
  have : k = 0 ∨ k = 1 ∨ k = 2 := by omega
  rcases this with rfl | rfl | rfl <;> decide

-- enthymemeref04.simple
set_option maxHeartbeats 1000000 in
theorem c_simple (W0 : World) (N : Nat)  : ∀ (b : Nat) (r : Rx), r.nodes < b → r.nodes ≤ 10000 → RxG r → AC (En W0 N) 58 [rxE r] [] (fun r' h => h = [] ∧ ∃ x, r' = rxE x ∧ RxG x ∧ x.nodes ≤ 2 * r.nodes) := by
  intro b
  induction b with
  | zero => intro r h1; omega
  | succ b ih =>
  intro r hb hn hG
  have hkl := r.kids_len
  have hkind := hG.2.kind
  have hne := r.nodes_eq
  refine AC.enter Tryd.func58 rfl Tryd.ntmps58 (bl rfl) fun X => ?_
  refine sr ?_
  refine WL.stp rfl (Stp.box (tm rfl) rfl rfl) ?_
  refine WL.stp rfl (Stp.alloc zz98 rfl rfl) ?_
  refine WL.norm 29 [(1, _), (2, _)] [some ⟨_, _, [[_, _, _, _]]⟩, some ⟨_, _, [[_, _, _, _]]⟩] rfl ⟨rfl, rfl, trivial⟩ rfl rfl ?_
  refine wn ?_
  refine W.seq ?_
  refine sr ?_
  refine WL.v (Val.fal (off := 0) Tryd.underlying98 rfl rfl zs3 (tm rfl)) rfl ?_
  refine WL.v (Val.loadLive Tryd.underlying3 rfl (tm rfl) rfl rfl rfl rfl rfl) rfl ?_
  refine WL.v (Val.lss (tm rfl) Ev.const) rfl ?_
  refine WL.norm 29 [(1, _), (2, _), (7, _)] [some ⟨_, _, [[_, _, _, _]]⟩, some ⟨_, _, [[_, _, _, _]]⟩] rfl ⟨rfl, rfl, rfl, trivial⟩ rfl rfl ?_
  refine wn ?_
  refine W.condP rfl (fun hc1 => ?_) (fun hc1 => ?_)
  · try simp only [td] at hc1
    refine sr ?_
    refine WL.v (Val.loadLiveAgg Tryd.underlying98 rfl zs98 (tm rfl) rfl rfl rfl rfl (bl rfl)) rfl ?_
    refine WL.stp rfl (Stp.st (tm rfl) (tm rfl) zs98 rfl rfl rfl rfl rfl rfl rfl rfl) ?_
    refine WL.norm 29 [(2, _)] [some ⟨_, _, [[_, _, _, _]]⟩, some ⟨_, _, [[_, _, _, _]]⟩] rfl ⟨rfl, trivial⟩ rfl rfl ?_
    refine wn ?_
    refine W.ret (rt1 ?_)
    exact Ret.of (.inr rfl) rfl (resCell rfl Tryd.underlying98 rfl zs98 rfl rfl rfl rfl rfl rfl) (Fewer.nil _) (.inr trivial) (fun id h => absurd h (Nat.not_lt_zero _)) (.same rfl) ⟨rfl, r, rfl, hG, by omega⟩
  try simp only [td] at hc1
  refine W.skip (nm ?_)
  refine sr ?_
  refine WL.v (Val.assign Ev.const) rfl ?_
  refine WL.norm 29 [(1, _), (2, _), (3, _)] [some ⟨_, _, [[_, _, _, _]]⟩, some ⟨_, _, [[_, _, _, _]]⟩] rfl ⟨rfl, rfl, rfl, trivial⟩ rfl rfl ?_
  refine wn ?_
  refine W.seq ?_
  refine sr ?_
  refine WL.v (Val.assign Ev.const) rfl ?_
  refine WL.norm 29 [(1, _), (2, _), (3, _), (4, _)] [some ⟨_, _, [[_, _, _, _]]⟩, some ⟨_, _, [[_, _, _, _]]⟩] rfl ⟨rfl, rfl, rfl, rfl, trivial⟩ rfl rfl ?_
  refine wn ?_
  refine W.reserve ?_
  refine W.norm 29 [(1, _), (2, _), (3, _), (4, _)] [some ⟨_, _, [[_, _, _, _]]⟩, some ⟨_, _, [[_, _, _, _]]⟩, _] rfl ⟨rfl, rfl, rfl, rfl, trivial⟩ rfl rfl ?_
  refine W.block (W.loop (fun nn S => ∃ (k : Int) (kl : List Rx) (v : AV) (o : Option Row), S = ⟨29, [(1, .ptr 0 0 4 0 0), (2, .ptr 1 0 4 0 0), (3, v), (4, .i k)], [some ⟨0, 4, [[.i r.kind, .c r.lo, .c r.hi, .f (.lst 4 (r.kids.map Rx.cells))]]⟩, some ⟨0, 4, [[.i 0, .c 0, .c 0, .nil]]⟩, o], []⟩ ∧ nn = ((r.kids.length - k).toNat) ∧ (0 ≤ k) ∧ (k ≤ r.kids.length) ∧ (kl.length = k.toNat) ∧ (LG kl (2 * Rx.nodesL (r.kids.take k.toNat))) ∧ (Acc 2 4 (fz (kl.map Rx.cells)) v o)) ⟨0, [], _, _, rfl, rfl, by omega, by omega, rfl, LG.nil, Acc.zero⟩ ?_)
  rintro nn S ⟨k, kl, v, o, rfl, rfl, hk0, hk1, hkl2, hkg, ha⟩
  refine W.seq ?_
  refine sr ?_
  refine mv rfl rfl ?_
  refine WL.v (Val.fal (off := 3) Tryd.underlying98 rfl rfl zs96 (tm rfl)) rfl ?_
  refine WL.v (Val.loadLive Tryd.underlying96 rfl (tm rfl) rfl rfl rfl rfl rfl) rfl ?_
  refine WL.v (Val.ln (enc := Rx.cells) Tryd.underlying96 (tm rfl)) rfl ?_
  refine WL.v (Val.lss (tm rfl) (tm rfl)) rfl ?_
  refine WL.norm 29 [(1, _), (2, _), (3, _), (4, _), (13, _)] [some ⟨_, _, [[_, _, _, _]]⟩, some ⟨_, _, [[_, _, _, _]]⟩, _] rfl ⟨rfl, rfl, rfl, rfl, rfl, trivial⟩ rfl rfl ?_
  refine wn ?_
  refine W.condP rfl (fun hc5 => ?_) (fun hc5 => ?_)
  · try simp only [td] at hc5
    refine W.skip (nm ?_)
    refine W.seq ?_
    refine W.block ?_
    have hmem := gA_mem (l := r.kids) hk0 hc5
    have hlt := Rx.kid_lt hmem
    have hst := Rx.nodesL_take hk0 hc5
    have hle := Rx.nodesL_le_take r.kids (k + 1).toNat
    have hkglen := hkg.len
    have hkgn := hkg.2
    refine W.region ?_
    refine mv rfl rfl ?_
    refine WL.v (Val.fal (off := 3) Tryd.underlying98 rfl rfl zs96 (tm rfl)) rfl ?_
    refine WL.v (Val.loadLive Tryd.underlying96 rfl (tm rfl) rfl rfl rfl rfl rfl) rfl ?_
    refine mv rfl rfl ?_
    refine WL.v (Val.ixRx Tryd.underlying96 zs98 (tm rfl) (tm rfl) (by omega) (gA_at (by omega) (by omega))) rfl ?_
    refine WL.v (Val.loadAgg Tryd.underlying98 rfl zs98 (tm rfl) (bl rfl)) rfl ?_
    refine WL.callV ca58 (evc (tm rfl) evn) (lo2 rfl lo0) rfl (ih _ (by omega) (by omega) (hG.kid hmem)) ?_
    rintro _ ⟨x_, rfl, hx_1, hx_2⟩
    refine WL.stp rfl (Stp.buildFrozen (xs := [_]) (fs := ([x_] : List Rx).map Rx.cells) Tryd.underlying96 zs98 zz98 rfl rfl (evc (tm rfl) evn) fitL (bl rfl) (els_rx ([x_] : List Rx)) rfl) ?_
    refine WL.appE (enc := Rx.cells) ap96_96 (tm rfl) rfl ha (ArgE.lst (enc := Rx.cells) (tm rfl) rxOne) (by simp only [List.length_cons, List.length_nil]; omega) rfl ?_
    intro v' o' ha'
    refine asg rfl rfl ?_
    refine WL.norm 29 [(1, _), (2, _), (3, _), (4, _)] [some ⟨_, _, [[_, _, _, _]]⟩, some ⟨_, _, [[_, _, _, _]]⟩, _] rfl ⟨rfl, rfl, rfl, rfl, trivial⟩ rfl rfl ?_
    refine WL.nil (nb (nm ?_))
    refine W.region ?_
    refine mv rfl rfl ?_
    refine WL.v (Val.add (tm rfl) Ev.const (IntWalk.i64_in _ (by omega))) rfl ?_
    refine asg rfl rfl ?_
    refine WL.norm 29 [(1, _), (2, _), (3, _), (4, _)] [some ⟨_, _, [[_, _, _, _]]⟩, some ⟨_, _, [[_, _, _, _]]⟩, _] rfl ⟨rfl, rfl, rfl, rfl, trivial⟩ rfl rfl ?_
    refine wn ?_
    exact ⟨_, by omega, k + 1, _, _, _, rfl, rfl, by omega, by omega, by rw [List.length_append, hkl2]; simp only [List.length_cons, List.length_nil]; omega, LG.app hkg (LG.one hx_1) (by rw [hst]; omega), ha'⟩
  try simp only [td] at hc5
  refine W.exit (ex1 (ex1 (ex2 (nm ?_))))
  refine W.seq ?_
  refine W.cut (env := [(1, _), (2, _), (3, _)]) (h' := [some ⟨_, _, [[_, _, _, _]]⟩, some ⟨_, _, [[_, _, _, _]]⟩]) (Fewer.pre _ rfl) (.inr (HLo.box (lo1 (lo1 (lo1 (lo1 lo0)))) (HLo.box (lo1 (lo1 (lo1 (lo1 lo0)))) HLo.nil))) (fun id h => absurd h (Nat.not_lt_zero _)) ⟨⟨_, rfl, (.same rfl)⟩, ⟨_, rfl, (.same rfl)⟩, ⟨_, rfl, (Acc.thaw ha rfl rfl (encL (by intro x; first | rfl | exact rxLen x)))⟩, trivial⟩ ?_
  have hall : r.kids.take k.toNat = r.kids := List.take_of_length_le (by omega)
  rw [hall] at hkg
  have hkgn := hkg.2
  refine W.region ?_
  refine WL.v (Val.fal (off := 0) Tryd.underlying98 rfl rfl zs3 (tm rfl)) rfl ?_
  refine WL.v (Val.loadLive Tryd.underlying3 rfl (tm rfl) rfl rfl rfl rfl rfl) rfl ?_
  refine mv rfl rfl ?_
  refine WL.callV ca71 (evc (tm rfl) (evc (tm rfl) evn)) (lo1 (lo1 lo0)) rfl (c_normal W0 N _ kl (by omega) (fun h => by have := hG.2.one h; omega) ⟨hkg.1, Nat.le_refl _⟩ (by omega)) ?_
  rintro _ ⟨x_, rfl, hx_1, hx_2⟩
  refine WL.stp rfl (Stp.st (tm rfl) (tm rfl) zs98 rfl rfl rfl rfl rfl rfl rfl rfl) ?_
  refine WL.norm 29 [(2, _)] [some ⟨_, _, [[_, _, _, _]]⟩, some ⟨_, _, [[_, _, _, _]]⟩] rfl ⟨rfl, trivial⟩ rfl rfl ?_
  refine wn ?_
  refine W.ret ?_
  exact Ret.of (.inr rfl) rfl (resCell rfl Tryd.underlying98 rfl zs98 rfl rfl rfl rfl rfl rfl) (Fewer.nil _) (.inr trivial) (fun id h => absurd h (Nat.not_lt_zero _)) (.same rfl) ⟨rfl, x_, rfl, hx_1, by omega⟩
-- enthymemeref04.Normal
set_option maxHeartbeats 1000000 in
theorem c_RxNormal (W0 : World) (N : Nat) (r : Rx) (hn : r.nodes ≤ 10000) (hB : RxB r) : AC (En W0 N) 67 [rxE r] [] (fun r' h => h = [] ∧ ∃ x e, r' = .tup [rxE x, .i e] ∧ (e = 0 → RxG x ∧ x.nodes ≤ 64)) := by
  refine AC.enter Tryd.func67 rfl Tryd.ntmps67 (bl rfl) fun X => ?_
  refine sr ?_
  refine WL.stp rfl (Stp.box (tm rfl) rfl rfl) ?_
  refine WL.stp rfl (Stp.alloc zz98 rfl rfl) ?_
  refine WL.v (Val.assign Ev.const) rfl ?_
  refine WL.norm 16 [(1, _), (2, _)] [some ⟨_, _, [[_, _, _, _]]⟩, some ⟨_, _, [[_, _, _, _]]⟩] rfl ⟨rfl, rfl, trivial⟩ rfl rfl ?_
  refine wn ?_
  refine sr ?_
  refine WL.v (Val.loadLiveAgg Tryd.underlying98 rfl zs98 (tm rfl) rfl rfl rfl rfl (bl rfl)) rfl ?_
  refine WL.callV ca81 (evc (tm rfl) evn) (lo2 rfl lo0) rfl (c_RxValid W0 N _ (by omega) (by assumption)) ?_
  rintro _ ⟨e_, rfl, he_⟩
  refine asg rfl rfl ?_
  refine WL.norm 16 [(1, _), (2, _), (4, _)] [some ⟨_, _, [[_, _, _, _]]⟩, some ⟨_, _, [[_, _, _, _]]⟩] rfl ⟨rfl, rfl, rfl, trivial⟩ rfl rfl ?_
  refine wn ?_
  refine W.seq ?_
  refine sr ?_
  refine mv rfl rfl ?_
  refine WL.v (Val.neq (tm rfl) Ev.const) rfl ?_
  refine WL.norm 16 [(1, _), (2, _), (4, _), (8, _)] [some ⟨_, _, [[_, _, _, _]]⟩, some ⟨_, _, [[_, _, _, _]]⟩] rfl ⟨rfl, rfl, rfl, rfl, trivial⟩ rfl rfl ?_
  refine wn ?_
  refine W.condP rfl (fun hc2 => ?_) (fun hc2 => ?_)
  · try simp only [td] at hc2
    refine sr ?_
    refine WL.v (Val.le (Val.build (vs := []) Tryd.underlying98 zz98 rfl rfl pl98 rfl trivial) (Le.agg (ys := [_, _, _, .f (.lst 4 [])]) (LeL.cons (Le.refl _) (LeL.cons (Le.refl _) (LeL.cons (Le.refl _) (LeL.cons Le.nil LeL.nil)))))) rfl ?_
    refine mv rfl rfl ?_
    refine WL.stp rfl (Stp.st (tm rfl) (tm rfl) zs98 rfl rfl rfl rfl rfl rfl rfl rfl) ?_
    refine asg rfl rfl ?_
    refine WL.norm 16 [(2, _), (3, _)] [some ⟨_, _, [[_, _, _, _]]⟩, some ⟨_, _, [[_, _, _, _]]⟩] rfl ⟨rfl, rfl, trivial⟩ rfl rfl ?_
    refine wn ?_
    refine W.ret (rt1 ?_)
    exact Ret.of (.inr rfl) rfl (resCell2 rfl Tryd.underlying98 rfl zs98 rfl rfl rfl rfl rfl rfl rfl) (Fewer.nil _) (.inr trivial) (fun id h => absurd h (Nat.not_lt_zero _)) (.same rfl) ⟨rfl, .mk 0 0 0 [], e_, rfl, fun h => absurd h (by omega)⟩
  try simp only [td] at hc2
  refine W.skip (nm ?_)
  refine W.seq ?_
  have hGr := he_ (by omega)
  refine W.region ?_
  refine WL.v (Val.loadLiveAgg Tryd.underlying98 rfl zs98 (tm rfl) rfl rfl rfl rfl (bl rfl)) rfl ?_
  refine WL.callV ca58 (evc (tm rfl) evn) (lo2 rfl lo0) rfl (c_simple W0 N _ r (Nat.lt_succ_self _) hn hGr) ?_
  rintro _ ⟨x_, rfl, hx_1, hx_2⟩
  refine WL.callV ca82 (evc (tm rfl) evn) (lo2 rfl lo0) rfl (c_few W0 N x_ (by omega)) ?_
  rintro _ ⟨y_, e2_, rfl, he2_⟩
  refine WL.v (Val.extract (tm rfl) rfl) rfl ?_
  refine WL.v (Val.extract (tm rfl) rfl) rfl ?_
  refine WL.stp rfl (Stp.st (tm rfl) (tm rfl) zs98 rfl rfl rfl rfl rfl rfl rfl rfl) ?_
  refine asg rfl rfl ?_
  refine WL.norm 16 [(2, _), (3, _)] [some ⟨_, _, [[_, _, _, _]]⟩, some ⟨_, _, [[_, _, _, _]]⟩] rfl ⟨rfl, rfl, trivial⟩ rfl rfl ?_
  refine wn ?_
  refine W.ret ?_
  exact Ret.of (.inr rfl) rfl (resCell2 rfl Tryd.underlying98 rfl zs98 rfl rfl rfl rfl rfl rfl rfl) (Fewer.nil _) (.inr trivial) (fun id h => absurd h (Nat.not_lt_zero _)) (.same rfl) ⟨rfl, y_, e2_, rfl, fun h => by obtain ⟨rfl, h2⟩ := he2_ h; exact ⟨hx_1, h2⟩⟩
end Go.Aw
namespace Go.Aw
open Go.RowKit Go.Proofs

theorem sz1 (a : UInt8) : (⟨#[a]⟩ : ByteArray).size = 1 := rfl
theorem sz0 : (⟨#[]⟩ : ByteArray).size = 0 := rfl
theorem sz4 (a b c d : UInt8) : (⟨#[a, b, c, d]⟩ : ByteArray).size = 4 := rfl
theorem sz5 (a b c d e : UInt8) : (⟨#[a, b, c, d, e]⟩ : ByteArray).size = 5 := rfl

-- enthymemeref04.Write
set_option maxHeartbeats 1000000 in
theorem c_Write (W0 : World) (N : Nat)  : ∀ (b : Nat) (r : Rx) (level : Int), 2 * r.nodes + (if 0 < level then 1 else 0) < b → r.nodes ≤ 1000 → RxG r → 0 ≤ level → level ≤ 5 → AC (En W0 N) 57 [rxE r, .i level] [] (fun r' h => h = [] ∧ ∃ t, r' = .s t ∧ 1 ≤ t.size ∧ t.size + 4 ≤ 20 * r.nodes ∧ (level ≤ 0 → t.size + 6 ≤ 20 * r.nodes)) := by
  intro b
  induction b with
  | zero => intro r level h1; omega
  | succ b ih =>
  intro r level hb hn hG hl0 hl5
  have hkl := r.kids_len
  have hkind := hG.2.kind
  have hlo := hG.1.lo
  have hhi := hG.1.hi
  have hone := hG.2.one
  have hK := hG.2
  have hne := r.nodes_eq
  have hpos := r.pos
  have hb1 := byteS_size r.lo
  have hb2 := byteS_size r.hi
  have hlev : 2 * r.nodes < b + 1 := by omega
  refine AC.enter Tryd.func57 rfl Tryd.ntmps57 (bl rfl) fun X => ?_
  refine sr ?_
  refine WL.stp rfl (Stp.box (tm rfl) rfl rfl) ?_
  refine WL.v (Val.assign Ev.const) rfl ?_
  refine WL.norm 137 [(1, _), (2, _)] [some ⟨_, _, [[_, _, _, _]]⟩] rfl ⟨rfl, rfl, trivial⟩ rfl rfl ?_
  refine wn ?_
  refine W.seq ?_
  refine sr ?_
  refine WL.v (Val.loadLiveAgg Tryd.underlying98 rfl zs98 (tm rfl) rfl rfl rfl rfl (bl rfl)) rfl ?_
  refine WL.callV ca68 (evc (tm rfl) evn) (lo2 rfl lo0) rfl (c_binds W0 N r hK) ?_
  rintro _ ⟨q_, rfl, hq_0, hq_1⟩
  refine mv rfl rfl ?_
  refine WL.v (Val.lss (tm rfl) (tm rfl)) rfl ?_
  refine WL.norm 137 [(2, _), (14, _)] [some ⟨_, _, [[_, _, _, _]]⟩] rfl ⟨rfl, rfl, trivial⟩ rfl rfl ?_
  refine wn ?_
  refine W.condP rfl (fun hc1 => ?_) (fun hc1 => ?_)
  · try simp only [td] at hc1
    refine W.seq ?_
    rw [if_pos (by omega)] at hb
    refine W.region ?_
    refine WL.v (Val.loadLiveAgg Tryd.underlying98 rfl zs98 (tm rfl) rfl rfl rfl rfl (bl rfl)) rfl ?_
    refine WL.callV ca57 (evc (tm rfl) (evc Ev.const evn)) (lo2 rfl (lo1 lo0)) rfl (ih r 0 (by rw [if_neg (by omega)]; omega) hn hG (by omega) (by omega)) ?_
    rintro _ ⟨t_, rfl, ht_1, ht_2, ht_3⟩
    refine WL.v (Val.addS Ev.const (tm rfl) (by (try simp only [ba_size, sz0, sz1, sz4, sz5]); omega)) rfl ?_
    refine WL.v (Val.addS (tm rfl) Ev.const (by (try simp only [ba_size, sz0, sz1, sz4, sz5]); omega)) rfl ?_
    refine asg rfl rfl ?_
    refine WL.norm 137 [(4, _)] [some ⟨_, _, [[_, _, _, _]]⟩] rfl ⟨rfl, trivial⟩ rfl rfl ?_
    refine wn ?_
    refine W.ret (rt1 ?_)
    exact Ret.of (.inr rfl) rfl (res1 rfl rfl) (Fewer.nil _) (.inr trivial) (fun id h => absurd h (Nat.not_lt_zero _)) (.same rfl) ⟨rfl, _, rfl, by (try simp only [ba_size, sz0, sz1, sz4, sz5]); omega, by (try simp only [ba_size, sz0, sz1, sz4, sz5]); omega, fun _ => by (try simp only [ba_size, sz0, sz1, sz4, sz5]); omega⟩
  try simp only [td] at hc1
  refine W.skip (nm ?_)
  refine W.seq ?_
  refine sr ?_
  refine WL.v (Val.fal (off := 0) Tryd.underlying98 rfl rfl zs3 (tm rfl)) rfl ?_
  refine WL.v (Val.loadLive Tryd.underlying3 rfl (tm rfl) rfl rfl rfl rfl rfl) rfl ?_
  refine WL.norm 137 [(2, _), (20, _)] [some ⟨_, _, [[_, _, _, _]]⟩] rfl ⟨rfl, rfl, trivial⟩ rfl rfl ?_
  refine wn ?_
  refine W.block ?_
  refine sr ?_
  refine WL.v (Val.eql (tm rfl) Ev.const) rfl ?_
  refine asg rfl rfl ?_
  refine WL.norm 137 [(2, _), (20, _), (21, _)] [some ⟨_, _, [[_, _, _, _]]⟩] rfl ⟨rfl, rfl, rfl, trivial⟩ rfl rfl ?_
  refine wn ?_
  refine W.condP rfl (fun hc4 => ?_) (fun hc4 => ?_)
  · try simp only [td] at hc4
    refine sr ?_
    refine WL.v (Val.assign Ev.const) rfl ?_
    refine WL.norm 137 [(4, _)] [some ⟨_, _, [[_, _, _, _]]⟩] rfl ⟨rfl, trivial⟩ rfl rfl ?_
    refine wn ?_
    refine W.ret (rt2 (rt1 ?_))
    exact Ret.of (.inr rfl) rfl (res1 rfl rfl) (Fewer.nil _) (.inr trivial) (fun id h => absurd h (Nat.not_lt_zero _)) (.same rfl) ⟨rfl, _, rfl, by (try simp only [ba_size, sz0, sz1, sz4, sz5]); omega, by (try simp only [ba_size, sz0, sz1, sz4, sz5]); omega, fun _ => by (try simp only [ba_size, sz0, sz1, sz4, sz5]); omega⟩
  try simp only [td] at hc4
  refine sr ?_
  refine WL.v (Val.eql (tm rfl) Ev.const) rfl ?_
  refine asg rfl rfl ?_
  refine WL.norm 137 [(2, _), (20, _), (23, _)] [some ⟨_, _, [[_, _, _, _]]⟩] rfl ⟨rfl, rfl, rfl, trivial⟩ rfl rfl ?_
  refine wn ?_
  refine W.condP rfl (fun hc6 => ?_) (fun hc6 => ?_)
  · try simp only [td] at hc6
    refine sr ?_
    refine WL.v (Val.assign Ev.const) rfl ?_
    refine WL.norm 137 [(4, _)] [some ⟨_, _, [[_, _, _, _]]⟩] rfl ⟨rfl, trivial⟩ rfl rfl ?_
    refine wn ?_
    refine W.ret (rt2 (rt1 ?_))
    exact Ret.of (.inr rfl) rfl (res1 rfl rfl) (Fewer.nil _) (.inr trivial) (fun id h => absurd h (Nat.not_lt_zero _)) (.same rfl) ⟨rfl, _, rfl, by (try simp only [ba_size, sz0, sz1, sz4, sz5]); omega, by (try simp only [ba_size, sz0, sz1, sz4, sz5]); omega, fun _ => by (try simp only [ba_size, sz0, sz1, sz4, sz5]); omega⟩
  try simp only [td] at hc6
  refine sr ?_
  refine WL.v (Val.eql (tm rfl) Ev.const) rfl ?_
  refine asg rfl rfl ?_
  refine WL.norm 137 [(2, _), (20, _), (25, _)] [some ⟨_, _, [[_, _, _, _]]⟩] rfl ⟨rfl, rfl, rfl, trivial⟩ rfl rfl ?_
  refine wn ?_
  refine W.condP rfl (fun hc8 => ?_) (fun hc8 => ?_)
  · try simp only [td] at hc8
    refine W.seq ?_
    refine sr ?_
    refine WL.v (Val.fal (off := 1) Tryd.underlying98 rfl rfl zs5 (tm rfl)) rfl ?_
    refine WL.v (Val.loadLive Tryd.underlying5 rfl (tm rfl) rfl rfl rfl rfl rfl) rfl ?_
    refine WL.v (Val.fal (off := 2) Tryd.underlying98 rfl rfl zs5 (tm rfl)) rfl ?_
    refine WL.v (Val.loadLive Tryd.underlying5 rfl (tm rfl) rfl rfl rfl rfl rfl) rfl ?_
    refine WL.v (Val.eql (tm rfl) (tm rfl)) rfl ?_
    refine WL.norm 137 [(2, _), (31, _)] [some ⟨_, _, [[_, _, _, _]]⟩] rfl ⟨rfl, rfl, trivial⟩ rfl rfl ?_
    refine wn ?_
    refine W.condP rfl (fun hc9 => ?_) (fun hc9 => ?_)
    · try simp only [td] at hc9
      refine sr ?_
      refine WL.v (Val.fal (off := 1) Tryd.underlying98 rfl rfl zs5 (tm rfl)) rfl ?_
      refine WL.v (Val.loadLive Tryd.underlying5 rfl (tm rfl) rfl rfl rfl rfl rfl) rfl ?_
      refine WL.callV ca69 (evc (tm rfl) evn) (lo1 lo0) rfl (c_Byte W0 N _ (by omega) (by omega)) ?_
      rintro _ rfl
      refine asg rfl rfl ?_
      refine WL.norm 137 [(4, _)] [some ⟨_, _, [[_, _, _, _]]⟩] rfl ⟨rfl, trivial⟩ rfl rfl ?_
      refine wn ?_
      refine W.ret (rt1 (rt2 (rt1 ?_)))
      exact Ret.of (.inr rfl) rfl (res1 rfl rfl) (Fewer.nil _) (.inr trivial) (fun id h => absurd h (Nat.not_lt_zero _)) (.same rfl) ⟨rfl, _, rfl, by (try simp only [ba_size, sz0, sz1, sz4, sz5]); omega, by (try simp only [ba_size, sz0, sz1, sz4, sz5]); omega, fun _ => by (try simp only [ba_size, sz0, sz1, sz4, sz5]); omega⟩
    try simp only [td] at hc9
    refine W.skip (nm ?_)
    refine W.seq ?_
    refine W.drawE (fun k => ([([], []), ([0], []), ([], []), ([], []), ([], []), ([], []), ([0], []), ([], []), ([], []), ([], []), ([], [])] : List (List Nat × List Nat)).getD k ([], [])) rfl (by kernel_rfl) (bl rfl) ?_
    refine LexE.val rfl rfl rfl (fun h' ha => Val.fal (off := 1) Tryd.underlying98 rfl rfl zs5 (tm rfl)) ?_
    refine LexE.val rfl rfl rfl (fun h' ha => Val.loadLive Tryd.underlying5 rfl (tm rfl) ((ha.at_ 0 (by decide)).trans rfl) rfl rfl rfl rfl) ?_
    refine LexE.call ca69 (fun h' ha => (evc (tm rfl) evn)) (lo1 lo0) rfl (c_Byte W0 N _ (by omega) (by omega)) rfl ?_
    refine LexE.val rfl rfl rfl (fun h' ha => Val.addS Ev.const (tm rfl) (by (try simp only [ba_size, sz0, sz1, sz4, sz5]); omega)) ?_
    refine LexE.val rfl rfl rfl (fun h' ha => Val.addS (tm rfl) Ev.const (by (try simp only [ba_size, sz0, sz1, sz4, sz5]); omega)) ?_
    refine LexE.val rfl rfl rfl (fun h' ha => Val.fal (off := 2) Tryd.underlying98 rfl rfl zs5 (tm rfl)) ?_
    refine LexE.val rfl rfl rfl (fun h' ha => Val.loadLive Tryd.underlying5 rfl (tm rfl) ((ha.at_ 0 (by decide)).trans rfl) rfl rfl rfl rfl) ?_
    refine LexE.call ca69 (fun h' ha => (evc (tm rfl) evn)) (lo1 lo0) rfl (c_Byte W0 N _ (by omega) (by omega)) rfl ?_
    refine LexE.val rfl rfl rfl (fun h' ha => Val.addS (tm rfl) (tm rfl) (by (try simp only [ba_size, sz0, sz1, sz4, sz5]); omega)) ?_
    refine LexE.val rfl rfl rfl (fun h' ha => Val.addS (tm rfl) Ev.const (by (try simp only [ba_size, sz0, sz1, sz4, sz5]); omega)) ?_
    refine LexE.val rfl rfl rfl (fun h' ha => Val.assign (tm rfl)) ?_
    refine LexE.nil (nm ?_)
    refine W.norm 137 [(4, _)] [some ⟨_, _, [[_, _, _, _]]⟩] rfl ⟨rfl, trivial⟩ rfl rfl ?_
    refine W.ret (rt2 (rt1 ?_))
    exact Ret.of (.inr rfl) rfl (res1 rfl rfl) (Fewer.nil _) (.inr trivial) (fun id h => absurd h (Nat.not_lt_zero _)) (.same rfl) ⟨rfl, _, rfl, by (try simp only [ba_size, sz0, sz1, sz4, sz5]); omega, by (try simp only [ba_size, sz0, sz1, sz4, sz5]); omega, fun _ => by (try simp only [ba_size, sz0, sz1, sz4, sz5]); omega⟩
  try simp only [td] at hc8
  refine sr ?_
  refine WL.v (Val.eql (tm rfl) Ev.const) rfl ?_
  refine asg rfl rfl ?_
  refine WL.norm 137 [(2, _), (20, _), (45, _)] [some ⟨_, _, [[_, _, _, _]]⟩] rfl ⟨rfl, rfl, rfl, trivial⟩ rfl rfl ?_
  refine wn ?_
  refine W.condP rfl (fun hc12 => ?_) (fun hc12 => ?_)
  · try simp only [td] at hc12
    refine W.seq ?_
    have hmem := gA_mem (l := r.kids) (i := 0) (by omega) (by omega)
    have hlt := Rx.kid_lt hmem
    have hKid := hG.kid hmem
    refine W.region ?_
    refine WL.v (Val.fal (off := 3) Tryd.underlying98 rfl rfl zs96 (tm rfl)) rfl ?_
    refine WL.v (Val.loadLive Tryd.underlying96 rfl (tm rfl) rfl rfl rfl rfl rfl) rfl ?_
    refine WL.v (Val.ixRx Tryd.underlying96 zs98 (tm rfl) Ev.const (by omega) (gA_at (by omega) (by omega))) rfl ?_
    refine WL.v (Val.loadAgg Tryd.underlying98 rfl zs98 (tm rfl) (bl rfl)) rfl ?_
    refine WL.callV ca57 (evc (tm rfl) (evc Ev.const evn)) (lo2 rfl (lo1 lo0)) rfl (ih _ _ (by split <;> omega) (by omega) hKid (by omega) (by omega)) ?_
    rintro _ ⟨t_, rfl, ht_1, ht_2, ht_3⟩
    refine WL.v (Val.addS Ev.const (tm rfl) (by (try simp only [ba_size, sz0, sz1, sz4, sz5]); omega)) rfl ?_
    refine asg rfl rfl ?_
    refine WL.norm 137 [(4, _)] [some ⟨_, _, [[_, _, _, _]]⟩] rfl ⟨rfl, trivial⟩ rfl rfl ?_
    refine wn ?_
    refine W.ret (rt2 (rt1 ?_))
    exact Ret.of (.inr rfl) rfl (res1 rfl rfl) (Fewer.nil _) (.inr trivial) (fun id h => absurd h (Nat.not_lt_zero _)) (.same rfl) ⟨rfl, _, rfl, by (try simp only [ba_size, sz0, sz1, sz4, sz5]); omega, by (try simp only [ba_size, sz0, sz1, sz4, sz5]); omega, fun _ => by (try simp only [ba_size, sz0, sz1, sz4, sz5]); omega⟩
  try simp only [td] at hc12
  refine sr ?_
  refine WL.v (Val.eql (tm rfl) Ev.const) rfl ?_
  refine asg rfl rfl ?_
  refine WL.norm 137 [(2, _), (53, _)] [some ⟨_, _, [[_, _, _, _]]⟩] rfl ⟨rfl, rfl, trivial⟩ rfl rfl ?_
  refine wn ?_
  refine W.condP rfl (fun hc14 => ?_) (fun hc14 => ?_)
  · try simp only [td] at hc14
    refine W.seq ?_
    have hmem := gA_mem (l := r.kids) (i := 0) (by omega) (by omega)
    have hlt := Rx.kid_lt hmem
    have hKid := hG.kid hmem
    refine W.region ?_
    refine WL.v (Val.fal (off := 3) Tryd.underlying98 rfl rfl zs96 (tm rfl)) rfl ?_
    refine WL.v (Val.loadLive Tryd.underlying96 rfl (tm rfl) rfl rfl rfl rfl rfl) rfl ?_
    refine WL.v (Val.ixRx Tryd.underlying96 zs98 (tm rfl) Ev.const (by omega) (gA_at (by omega) (by omega))) rfl ?_
    refine WL.v (Val.loadAgg Tryd.underlying98 rfl zs98 (tm rfl) (bl rfl)) rfl ?_
    refine WL.callV ca57 (evc (tm rfl) (evc Ev.const evn)) (lo2 rfl (lo1 lo0)) rfl (ih _ _ (by split <;> omega) (by omega) hKid (by omega) (by omega)) ?_
    rintro _ ⟨t_, rfl, ht_1, ht_2, ht_3⟩
    refine WL.v (Val.addS (tm rfl) Ev.const (by (try simp only [ba_size, sz0, sz1, sz4, sz5]); omega)) rfl ?_
    refine asg rfl rfl ?_
    refine WL.norm 137 [(4, _)] [some ⟨_, _, [[_, _, _, _]]⟩] rfl ⟨rfl, trivial⟩ rfl rfl ?_
    refine wn ?_
    refine W.ret (rt2 (rt1 ?_))
    exact Ret.of (.inr rfl) rfl (res1 rfl rfl) (Fewer.nil _) (.inr trivial) (fun id h => absurd h (Nat.not_lt_zero _)) (.same rfl) ⟨rfl, _, rfl, by (try simp only [ba_size, sz0, sz1, sz4, sz5]); omega, by (try simp only [ba_size, sz0, sz1, sz4, sz5]); omega, fun _ => by (try simp only [ba_size, sz0, sz1, sz4, sz5]); omega⟩
  try simp only [td] at hc14
  refine W.skip (nb (nm ?_))
  refine W.seq ?_
  refine W.seq ?_
  have hk35 : 3 ≤ r.kind ∧ r.kind ≤ 5 := by omega
  refine W.region ?_
  refine WL.v (Val.fal (off := 3) Tryd.underlying98 rfl rfl zs96 (tm rfl)) rfl ?_
  refine WL.v (Val.loadLive Tryd.underlying96 rfl (tm rfl) rfl rfl rfl rfl rfl) rfl ?_
  refine WL.v (Val.ln (enc := Rx.cells) Tryd.underlying96 (tm rfl)) rfl ?_
  refine WL.v (Val.lss (tm rfl) Ev.const) rfl ?_
  refine WL.norm 137 [(2, _), (64, _)] [some ⟨_, _, [[_, _, _, _]]⟩] rfl ⟨rfl, rfl, trivial⟩ rfl rfl ?_
  refine wn ?_
  refine W.condP rfl (fun hc16 => ?_) (fun hc16 => ?_)
  · try simp only [td] at hc16
    refine sr ?_
    refine WL.v (Val.assign Ev.const) rfl ?_
    refine WL.norm 137 [(2, _), (5, _)] [some ⟨_, _, [[_, _, _, _]]⟩] rfl ⟨rfl, rfl, trivial⟩ rfl rfl ?_
    refine wn ?_
    refine W.seq ?_
    refine sr ?_
    refine WL.v (Val.fal (off := 3) Tryd.underlying98 rfl rfl zs96 (tm rfl)) rfl ?_
    refine WL.v (Val.loadLive Tryd.underlying96 rfl (tm rfl) rfl rfl rfl rfl rfl) rfl ?_
    refine WL.v (Val.ln (enc := Rx.cells) Tryd.underlying96 (tm rfl)) rfl ?_
    refine WL.v (Val.eql (tm rfl) Ev.const) rfl ?_
    refine WL.norm 137 [(2, _), (5, _), (68, _)] [some ⟨_, _, [[_, _, _, _]]⟩] rfl ⟨rfl, rfl, rfl, trivial⟩ rfl rfl ?_
    refine wn ?_
    refine W.condP rfl (fun hc18 => ?_) (fun hc18 => ?_)
    · try simp only [td] at hc18
      have hmem := gA_mem (l := r.kids) (i := 0) (by omega) (by omega)
      have hlt := Rx.kid_lt hmem
      have hKid := hG.kid hmem
      refine W.region ?_
      refine WL.v (Val.fal (off := 3) Tryd.underlying98 rfl rfl zs96 (tm rfl)) rfl ?_
      refine WL.v (Val.loadLive Tryd.underlying96 rfl (tm rfl) rfl rfl rfl rfl rfl) rfl ?_
      refine WL.v (Val.ixRx Tryd.underlying96 zs98 (tm rfl) Ev.const (by omega) (gA_at (by omega) (by omega))) rfl ?_
      refine WL.v (Val.loadAgg Tryd.underlying98 rfl zs98 (tm rfl) (bl rfl)) rfl ?_
      refine WL.callV ca57 (evc (tm rfl) (evc Ev.const evn)) (lo2 rfl (lo1 lo0)) rfl (ih _ _ (by split <;> omega) (by omega) hKid (by omega) (by omega)) ?_
      rintro _ ⟨t_, rfl, ht_1, ht_2, ht_3⟩
      refine asg rfl rfl ?_
      refine WL.norm 137 [(2, _), (5, _)] [some ⟨_, _, [[_, _, _, _]]⟩] rfl ⟨rfl, rfl, trivial⟩ rfl rfl ?_
      refine wn ?_
      refine W.seq ?_
      have hw := word3 (k := r.kind - 3) (by omega) (by omega)
      refine W.region ?_
      refine WL.stp rfl (Stp.buildFrozen (xs := [_, _, _]) (fs := ([⟨#[99, 97, 116, 40]⟩, ⟨#[97, 108, 116, 40]⟩, ⟨#[97, 108, 108, 40]⟩] : List ByteArray).map encS) Tryd.underlying84 zs9 zz9 rfl rfl (evc Ev.const (evc Ev.const (evc Ev.const evn))) fitL (bl rfl) rfl rfl) ?_
      refine WL.v (Val.fal (off := 0) Tryd.underlying98 rfl rfl zs3 (tm rfl)) rfl ?_
      refine WL.v (Val.loadLive Tryd.underlying3 rfl (tm rfl) rfl rfl rfl rfl rfl) rfl ?_
      refine WL.v (Val.sub (tm rfl) Ev.const (IntWalk.i64_in _ (by omega))) rfl ?_
      refine WL.v (Val.ix (enc := encS) Tryd.underlying84 zs9 (tm rfl) (tm rfl) (by omega) (gA_at (by omega) (by show _ < (3 : Int); omega))) rfl ?_
      refine WL.v (Val.load Tryd.underlying9 rfl (tm rfl)) rfl ?_
      refine mv rfl rfl ?_
      refine WL.v (Val.addS (tm rfl) (tm rfl) (by (try simp only [ba_size, sz0, sz1, sz4, sz5]); omega)) rfl ?_
      refine WL.v (Val.addS (tm rfl) Ev.const (by (try simp only [ba_size, sz0, sz1, sz4, sz5]); omega)) rfl ?_
      refine asg rfl rfl ?_
      refine WL.norm 137 [(4, _)] [some ⟨_, _, [[_, _, _, _]]⟩] rfl ⟨rfl, trivial⟩ rfl rfl ?_
      refine wn ?_
      refine W.ret (rt1 ?_)
      exact Ret.of (.inr rfl) rfl (res1 rfl rfl) (Fewer.nil _) (.inr trivial) (fun id h => absurd h (Nat.not_lt_zero _)) (.same rfl) ⟨rfl, _, rfl, by (try simp only [ba_size, sz0, sz1, sz4, sz5]); omega, by (try simp only [ba_size, sz0, sz1, sz4, sz5]); omega, fun _ => by (try simp only [ba_size, sz0, sz1, sz4, sz5]); omega⟩
    try simp only [td] at hc18
    refine W.skip (nm ?_)
    refine W.seq ?_
    have hw := word3 (k := r.kind - 3) (by omega) (by omega)
    refine W.region ?_
    refine WL.stp rfl (Stp.buildFrozen (xs := [_, _, _]) (fs := ([⟨#[99, 97, 116, 40]⟩, ⟨#[97, 108, 116, 40]⟩, ⟨#[97, 108, 108, 40]⟩] : List ByteArray).map encS) Tryd.underlying84 zs9 zz9 rfl rfl (evc Ev.const (evc Ev.const (evc Ev.const evn))) fitL (bl rfl) rfl rfl) ?_
    refine WL.v (Val.fal (off := 0) Tryd.underlying98 rfl rfl zs3 (tm rfl)) rfl ?_
    refine WL.v (Val.loadLive Tryd.underlying3 rfl (tm rfl) rfl rfl rfl rfl rfl) rfl ?_
    refine WL.v (Val.sub (tm rfl) Ev.const (IntWalk.i64_in _ (by omega))) rfl ?_
    refine WL.v (Val.ix (enc := encS) Tryd.underlying84 zs9 (tm rfl) (tm rfl) (by omega) (gA_at (by omega) (by show _ < (3 : Int); omega))) rfl ?_
    refine WL.v (Val.load Tryd.underlying9 rfl (tm rfl)) rfl ?_
    refine mv rfl rfl ?_
    refine WL.v (Val.addS (tm rfl) (tm rfl) (by (try simp only [ba_size, sz0, sz1, sz4, sz5]); omega)) rfl ?_
    refine WL.v (Val.addS (tm rfl) Ev.const (by (try simp only [ba_size, sz0, sz1, sz4, sz5]); omega)) rfl ?_
    refine asg rfl rfl ?_
    refine WL.norm 137 [(4, _)] [some ⟨_, _, [[_, _, _, _]]⟩] rfl ⟨rfl, trivial⟩ rfl rfl ?_
    refine wn ?_
    refine W.ret (rt1 ?_)
    exact Ret.of (.inr rfl) rfl (res1 rfl rfl) (Fewer.nil _) (.inr trivial) (fun id h => absurd h (Nat.not_lt_zero _)) (.same rfl) ⟨rfl, _, rfl, by (try simp only [ba_size, sz0, sz1, sz4, sz5]); omega, by (try simp only [ba_size, sz0, sz1, sz4, sz5]); omega, fun _ => by (try simp only [ba_size, sz0, sz1, sz4, sz5]); omega⟩
  try simp only [td] at hc16
  refine W.skip (nm ?_)
  refine W.seq ?_
  have hsg := sign3 (k := r.kind - 3) (by omega) (by omega)
  refine W.region ?_
  refine WL.stp rfl (Stp.buildFrozen (xs := [_, _, _]) (fs := ([⟨#[]⟩, ⟨#[124]⟩, ⟨#[38]⟩] : List ByteArray).map encS) Tryd.underlying84 zs9 zz9 rfl rfl (evc Ev.const (evc Ev.const (evc Ev.const evn))) fitL (bl rfl) rfl rfl) ?_
  refine WL.v (Val.fal (off := 0) Tryd.underlying98 rfl rfl zs3 (tm rfl)) rfl ?_
  refine WL.v (Val.loadLive Tryd.underlying3 rfl (tm rfl) rfl rfl rfl rfl rfl) rfl ?_
  refine WL.v (Val.sub (tm rfl) Ev.const (IntWalk.i64_in _ (by omega))) rfl ?_
  refine WL.v (Val.ix (enc := encS) Tryd.underlying84 zs9 (tm rfl) (tm rfl) (by omega) (gA_at (by omega) (by show _ < (3 : Int); omega))) rfl ?_
  refine WL.v (Val.load Tryd.underlying9 rfl (tm rfl)) rfl ?_
  refine asg rfl rfl ?_
  refine WL.norm 137 [(2, _), (6, _)] [some ⟨_, _, [[_, _, _, _]]⟩] rfl ⟨rfl, rfl, trivial⟩ rfl rfl ?_
  refine wn ?_
  refine sr ?_
  refine WL.v (Val.loadLiveAgg Tryd.underlying98 rfl zs98 (tm rfl) rfl rfl rfl rfl (bl rfl)) rfl ?_
  refine WL.callV ca68 (evc (tm rfl) evn) (lo2 rfl lo0) rfl (c_binds W0 N r hK) ?_
  rintro _ ⟨own_, rfl, ho_0, ho_1⟩
  refine asg rfl rfl ?_
  refine WL.norm 137 [(2, _), (6, _), (7, _)] [some ⟨_, _, [[_, _, _, _]]⟩] rfl ⟨rfl, rfl, rfl, trivial⟩ rfl rfl ?_
  refine wn ?_
  refine W.seq ?_
  have hmem := gA_mem (l := r.kids) (i := 0) (by omega) (by omega)
  have hlt := Rx.kid_lt hmem
  have hKid := hG.kid hmem
  refine W.region ?_
  refine WL.v (Val.fal (off := 3) Tryd.underlying98 rfl rfl zs96 (tm rfl)) rfl ?_
  refine WL.v (Val.loadLive Tryd.underlying96 rfl (tm rfl) rfl rfl rfl rfl rfl) rfl ?_
  refine WL.v (Val.ixRx Tryd.underlying96 zs98 (tm rfl) Ev.const (by omega) (gA_at (by omega) (by omega))) rfl ?_
  refine WL.v (Val.loadAgg Tryd.underlying98 rfl zs98 (tm rfl) (bl rfl)) rfl ?_
  refine mv rfl rfl ?_
  refine WL.v (Val.add (tm rfl) Ev.const (IntWalk.i64_in _ (by omega))) rfl ?_
  refine WL.callV ca57 (evc (tm rfl) (evc (tm rfl) evn)) (lo2 rfl (lo1 lo0)) rfl (ih _ _ (by split <;> omega) (by omega) hKid (by omega) (by omega)) ?_
  rintro _ ⟨t_, rfl, ht_1, ht_2, ht_3⟩
  refine asg rfl rfl ?_
  refine WL.norm 137 [(2, _), (6, _), (7, _), (8, _)] [some ⟨_, _, [[_, _, _, _]]⟩] rfl ⟨rfl, rfl, rfl, rfl, trivial⟩ rfl rfl ?_
  refine wn ?_
  refine W.seq ?_
  refine W.seq ?_
  have hst1 : Rx.nodesL (r.kids.take (1 : Int).toNat) = (gA r.kids 0).nodes := (Rx.nodesL_take (l := r.kids) (k := 0) (by omega) (by omega)).trans (by simp [Rx.nodesL])
  refine W.region ?_
  refine WL.v (Val.assign Ev.const) rfl ?_
  refine WL.norm 137 [(2, _), (6, _), (7, _), (8, _), (9, _)] [some ⟨_, _, [[_, _, _, _]]⟩] rfl ⟨rfl, rfl, rfl, rfl, rfl, trivial⟩ rfl rfl ?_
  refine wn ?_
  refine W.norm 137 [(2, _), (6, _), (7, _), (8, _), (9, _)] [some ⟨_, _, [[_, _, _, _]]⟩] rfl ⟨rfl, rfl, rfl, rfl, rfl, trivial⟩ rfl rfl ?_
  refine W.block (W.loop (fun nn S => ∃ (k : Int) (out : ByteArray), S = ⟨137, [(2, .ptr 0 0 4 0 0), (6, .s (gA ([⟨#[]⟩, ⟨#[124]⟩, ⟨#[38]⟩] : List ByteArray) (r.kind - 3))), (7, .i own_), (8, .s out), (9, .i k)], [some ⟨0, 4, [[.i r.kind, .c r.lo, .c r.hi, .f (.lst 4 (r.kids.map Rx.cells))]]⟩], []⟩ ∧ nn = ((r.kids.length - k).toNat) ∧ (1 ≤ k) ∧ (k ≤ r.kids.length) ∧ (1 ≤ out.size) ∧ (out.size + 4 ≤ 20 * Rx.nodesL (r.kids.take k.toNat))) ⟨1, _, rfl, rfl, by omega, by omega, ht_1, by rw [hst1]; omega⟩ ?_)
  rintro nn S ⟨k, out, rfl, rfl, hk0, hk1, hout1, hout2⟩
  refine W.seq ?_
  refine sr ?_
  refine mv rfl rfl ?_
  refine WL.v (Val.fal (off := 3) Tryd.underlying98 rfl rfl zs96 (tm rfl)) rfl ?_
  refine WL.v (Val.loadLive Tryd.underlying96 rfl (tm rfl) rfl rfl rfl rfl rfl) rfl ?_
  refine WL.v (Val.ln (enc := Rx.cells) Tryd.underlying96 (tm rfl)) rfl ?_
  refine WL.v (Val.lss (tm rfl) (tm rfl)) rfl ?_
  refine WL.norm 137 [(2, _), (6, _), (7, _), (8, _), (9, _), (102, _)] [some ⟨_, _, [[_, _, _, _]]⟩] rfl ⟨rfl, rfl, rfl, rfl, rfl, rfl, trivial⟩ rfl rfl ?_
  refine wn ?_
  refine W.condP rfl (fun hc25 => ?_) (fun hc25 => ?_)
  · try simp only [td] at hc25
    refine W.skip (nm ?_)
    refine W.seq ?_
    refine W.block ?_
    refine W.seq ?_
    have hmem := gA_mem (l := r.kids) (i := k) (by omega) (by omega)
    have hlt := Rx.kid_lt hmem
    have hKid := hG.kid hmem
    have hst := Rx.nodesL_take (l := r.kids) (k := k) (by omega) (by omega)
    have hle := Rx.nodesL_le_take r.kids (k + 1).toNat
    refine W.region ?_
    refine WL.v (Val.fal (off := 3) Tryd.underlying98 rfl rfl zs96 (tm rfl)) rfl ?_
    refine WL.v (Val.loadLive Tryd.underlying96 rfl (tm rfl) rfl rfl rfl rfl rfl) rfl ?_
    refine mv rfl rfl ?_
    refine WL.v (Val.ixRx Tryd.underlying96 zs98 (tm rfl) (tm rfl) (by omega) (gA_at (by omega) (by omega))) rfl ?_
    refine WL.v (Val.loadAgg Tryd.underlying98 rfl zs98 (tm rfl) (bl rfl)) rfl ?_
    refine mv rfl rfl ?_
    refine WL.v (Val.add (tm rfl) Ev.const (IntWalk.i64_in _ (by omega))) rfl ?_
    refine WL.callV ca57 (evc (tm rfl) (evc (tm rfl) evn)) (lo2 rfl (lo1 lo0)) rfl (ih _ _ (by split <;> omega) (by omega) hKid (by omega) (by omega)) ?_
    rintro _ ⟨u_, rfl, hu_1, hu_2, hu_3⟩
    refine asg rfl rfl ?_
    refine WL.norm 137 [(2, _), (6, _), (7, _), (8, _), (9, _), (10, _)] [some ⟨_, _, [[_, _, _, _]]⟩] rfl ⟨rfl, rfl, rfl, rfl, rfl, rfl, trivial⟩ rfl rfl ?_
    refine wn ?_
    refine W.seq ?_
    refine sr ?_
    refine WL.v (Val.fal (off := 0) Tryd.underlying98 rfl rfl zs3 (tm rfl)) rfl ?_
    refine WL.v (Val.loadLive Tryd.underlying3 rfl (tm rfl) rfl rfl rfl rfl rfl) rfl ?_
    refine WL.v (Val.eql (tm rfl) Ev.const) rfl ?_
    refine mv rfl rfl ?_
    refine WL.g (Grd.t rfl rfl rfl) (fun hG => Val.move (tm rfl)) rfl ?_
    refine WL.g (Grd.t rfl rfl rfl) (fun hG => Val.move (tm rfl)) rfl ?_
    refine WL.g (Grd.t rfl rfl rfl) (fun hG => Val.lenS Tryd.underlying9 (Ev.opt rfl hG)) rfl ?_
    refine WL.g (Grd.t rfl rfl rfl) (fun hG => Val.sub (Ev.opt rfl hG) Ev.const (IntWalk.i64_in _ (by omega))) rfl ?_
    refine WL.g (Grd.t rfl rfl rfl) (fun hG => Val.ixB Tryd.underlying9 (Ev.opt rfl hG) (Ev.opt rfl hG) (by try simp only [td] at hG; omega) (by try simp only [td] at hG; omega)) rfl ?_
    refine WL.gcallE AV.b (Grd.t rfl rfl rfl) ca70 (fun hG => (evc (Ev.opt rfl hG) evn)) (lo1 lo0) rfl (fun hG => c_low W0 N _) ?_
    intro bl_ _
    refine WL.v (Val.and (tm rfl) (fun hb => Ev.opt rfl hb)) rfl ?_
    refine mv rfl rfl ?_
    refine WL.g (Grd.t rfl rfl rfl) (fun hG => Val.move (tm rfl)) rfl ?_
    refine WL.g (Grd.t rfl rfl rfl) (fun hG => Val.ixB Tryd.underlying9 (Ev.opt rfl hG) Ev.const (by try simp only [td] at hG; omega) (by try simp only [td] at hG; omega)) rfl ?_
    refine WL.gcallE AV.b (Grd.t rfl rfl rfl) ca70 (fun hG => (evc (Ev.opt rfl hG) evn)) (lo1 lo0) rfl (fun hG => c_low W0 N _) ?_
    intro bl_ _
    refine WL.v (Val.and (tm rfl) (fun hb => Ev.opt rfl hb)) rfl ?_
    refine WL.norm 137 [(2, _), (6, _), (7, _), (8, _), (9, _), (10, _), (128, _)] [some ⟨_, _, [[_, _, _, _]]⟩] rfl ⟨rfl, rfl, rfl, rfl, rfl, rfl, rfl, trivial⟩ rfl rfl ?_
    refine wn ?_
    refine W.condP rfl (fun hc28 => ?_) (fun hc28 => ?_)
    · try simp only [td] at hc28
      refine W.region ?_
      refine mv rfl rfl ?_
      refine WL.v (Val.addS (tm rfl) Ev.const (by (try simp only [ba_size, sz0, sz1, sz4, sz5]); omega)) rfl ?_
      refine asg rfl rfl ?_
      refine WL.norm 137 [(2, _), (6, _), (7, _), (8, _), (9, _), (10, _)] [some ⟨_, _, [[_, _, _, _]]⟩] rfl ⟨rfl, rfl, rfl, rfl, rfl, rfl, trivial⟩ rfl rfl ?_
      refine wn ?_
      refine W.region ?_
      refine mv rfl rfl ?_
      refine mv rfl rfl ?_
      refine WL.v (Val.addS (tm rfl) (tm rfl) (by (try simp only [ba_size, sz0, sz1, sz4, sz5]); omega)) rfl ?_
      refine mv rfl rfl ?_
      refine WL.v (Val.addS (tm rfl) (tm rfl) (by (try simp only [ba_size, sz0, sz1, sz4, sz5]); omega)) rfl ?_
      refine asg rfl rfl ?_
      refine WL.norm 137 [(2, _), (6, _), (7, _), (8, _), (9, _)] [some ⟨_, _, [[_, _, _, _]]⟩] rfl ⟨rfl, rfl, rfl, rfl, rfl, trivial⟩ rfl rfl ?_
      refine WL.nil (nb (nm ?_))
      refine W.region ?_
      refine mv rfl rfl ?_
      refine WL.v (Val.add (tm rfl) Ev.const (IntWalk.i64_in _ (by omega))) rfl ?_
      refine asg rfl rfl ?_
      refine WL.norm 137 [(2, _), (6, _), (7, _), (8, _), (9, _)] [some ⟨_, _, [[_, _, _, _]]⟩] rfl ⟨rfl, rfl, rfl, rfl, rfl, trivial⟩ rfl rfl ?_
      refine wn ?_
      exact ⟨_, by omega, k + 1, _, rfl, rfl, by omega, by omega, by (try simp only [ba_size, sz0, sz1, sz4, sz5]); omega, by rw [hst]; (try simp only [ba_size, sz0, sz1, sz4, sz5]); omega⟩
    try simp only [td] at hc28
    refine W.skip (nm ?_)
    refine W.region ?_
    refine mv rfl rfl ?_
    refine mv rfl rfl ?_
    refine WL.v (Val.addS (tm rfl) (tm rfl) (by (try simp only [ba_size, sz0, sz1, sz4, sz5]); omega)) rfl ?_
    refine mv rfl rfl ?_
    refine WL.v (Val.addS (tm rfl) (tm rfl) (by (try simp only [ba_size, sz0, sz1, sz4, sz5]); omega)) rfl ?_
    refine asg rfl rfl ?_
    refine WL.norm 137 [(2, _), (6, _), (7, _), (8, _), (9, _)] [some ⟨_, _, [[_, _, _, _]]⟩] rfl ⟨rfl, rfl, rfl, rfl, rfl, trivial⟩ rfl rfl ?_
    refine WL.nil (nb (nm ?_))
    refine W.region ?_
    refine mv rfl rfl ?_
    refine WL.v (Val.add (tm rfl) Ev.const (IntWalk.i64_in _ (by omega))) rfl ?_
    refine asg rfl rfl ?_
    refine WL.norm 137 [(2, _), (6, _), (7, _), (8, _), (9, _)] [some ⟨_, _, [[_, _, _, _]]⟩] rfl ⟨rfl, rfl, rfl, rfl, rfl, trivial⟩ rfl rfl ?_
    refine wn ?_
    exact ⟨_, by omega, k + 1, _, rfl, rfl, by omega, by omega, by (try simp only [ba_size, sz0, sz1, sz4, sz5]); omega, by rw [hst]; (try simp only [ba_size, sz0, sz1, sz4, sz5]); omega⟩
  try simp only [td] at hc25
  refine W.exit (ex1 (ex1 (ex2 (nm ?_))))
  refine W.seq ?_
  have hle2 := Rx.nodesL_le_take r.kids k.toNat
  refine W.region ?_
  refine mv rfl rfl ?_
  refine asg rfl rfl ?_
  refine WL.norm 137 [(4, _)] [some ⟨_, _, [[_, _, _, _]]⟩] rfl ⟨rfl, trivial⟩ rfl rfl ?_
  refine wn ?_
  refine W.ret ?_
  exact Ret.of (.inr rfl) rfl (res1 rfl rfl) (Fewer.nil _) (.inr trivial) (fun id h => absurd h (Nat.not_lt_zero _)) (.same rfl) ⟨rfl, _, rfl, by (try simp only [ba_size, sz0, sz1, sz4, sz5]); omega, by (try simp only [ba_size, sz0, sz1, sz4, sz5]); omega, fun _ => by (try simp only [ba_size, sz0, sz1, sz4, sz5]); omega⟩
end Go.Aw
namespace Go.Aw
open Go.RowKit Go.Proofs

def AT : List Rx := [.mk 2 97 97 [], .mk 2 98 98 [], .mk 2 0 0 [], .mk 2 97 98 [], .mk 1 0 0 [], rxAll]
def Small (n : Nat) (r : Rx) : Prop := RxG r ∧ r.nodes ≤ n
theorem AT_ok : ∀ x, x ∈ AT → Small 2 x := by
  intro x hx
  simp only [AT, List.mem_cons, List.not_mem_nil, or_false] at hx
  rcases hx with rfl | rfl | rfl | rfl | rfl | rfl
  · exact ⟨RxG.leaf (by decide) (by decide) (by decide), by decide⟩
  · exact ⟨RxG.leaf (by decide) (by decide) (by decide), by decide⟩
  · exact ⟨RxG.leaf (by decide) (by decide) (by decide), by decide⟩
  · exact ⟨RxG.leaf (by decide) (by decide) (by decide), by decide⟩
  · exact ⟨RxG.leaf (by decide) (by decide) (by decide), by decide⟩
  · exact ⟨rxAll_good, by decide⟩
theorem AT_at {k : Int} (h0 : 0 ≤ k) (h1 : k < 6) : Small 2 (gA AT k) := AT_ok _ (gA_mem h0 h1)
theorem Small.le {n m : Nat} {r : Rx} (h : Small n r) (hm : n ≤ m) : Small m r := ⟨h.1, Nat.le_trans h.2 hm⟩
theorem Small.one {n : Nat} {k : Int} {a : Rx} (hk : 0 ≤ k ∧ k ≤ 7) (ha : Small n a) : Small (n + 1) (.mk k 0 0 [a]) :=
  ⟨RxG.list hk (fun _ => rfl) (fun x hx => by rw [List.mem_singleton.1 hx]; exact ha.1), by have := ha.2; rw [Rx.nodes_eq]; show 1 + Rx.nodesL [a] ≤ _; simp only [Rx.nodesL]; omega⟩
theorem Small.two {n m : Nat} {k : Int} {a b : Rx} (hk : 0 ≤ k ∧ k ≤ 5) (ha : Small n a) (hb : Small m b) : Small (n + m + 1) (.mk k 0 0 [a, b]) :=
  ⟨RxG.list ⟨hk.1, by omega⟩ (fun h => by exfalso; omega) (fun x hx => by simp only [List.mem_cons, List.not_mem_nil, or_false] at hx; rcases hx with rfl | rfl; exact ha.1; exact hb.1), by have := ha.2; have := hb.2; rw [Rx.nodes_eq]; show 1 + Rx.nodesL [a, b] ≤ _; simp only [Rx.nodesL]; omega⟩
theorem Small.three {n m q : Nat} {k : Int} {a b c : Rx} (hk : 0 ≤ k ∧ k ≤ 5) (ha : Small n a) (hb : Small m b) (hc : Small q c) : Small (n + m + q + 1) (.mk k 0 0 [a, b, c]) :=
  ⟨RxG.list ⟨hk.1, by omega⟩ (fun h => by exfalso; omega) (fun x hx => by simp only [List.mem_cons, List.not_mem_nil, or_false] at hx; rcases hx with rfl | rfl | rfl; exact ha.1; exact hb.1; exact hc.1), by have := ha.2; have := hb.2; have := hc.2; rw [Rx.nodes_eq]; show 1 + Rx.nodesL [a, b, c] ≤ _; simp only [Rx.nodesL]; omega⟩
abbrev formsR (a b c : Rx) : List Rx := [a, .mk 3 0 0 [a, b], .mk 4 0 0 [a, b, c], .mk 7 0 0 [a], .mk 3 0 0 [.mk 7 0 0 [a], b], .mk 6 0 0 [.mk 3 0 0 [a, b]], .mk 3 0 0 [b, .mk 7 0 0 [.mk 4 0 0 [a, c]]], .mk 5 0 0 [.mk 6 0 0 [b], .mk 3 0 0 [a, rxAll]]]
theorem forms_ok {a b c : Rx} (ha : Small 2 a) (hb : Small 2 b) (hc : Small 2 c) : ∀ x, x ∈ formsR a b c → Small 20 x := by
  have hall : Small 2 rxAll := ⟨rxAll_good, by decide⟩
  intro x hx
  simp only [formsR, List.mem_cons, List.not_mem_nil, or_false] at hx
  rcases hx with rfl | rfl | rfl | rfl | rfl | rfl | rfl | rfl
  · exact ha.le (by decide)
  · exact (Small.two (by decide) ha hb).le (by decide)
  · exact (Small.three (by decide) ha hb hc).le (by decide)
  · exact (Small.one (by decide) ha).le (by decide)
  · exact (Small.two (by decide) (Small.one (by decide) ha) hb).le (by decide)
  · exact (Small.one (by decide) (Small.two (by decide) ha hb)).le (by decide)
  · exact (Small.two (by decide) hb (Small.one (by decide) (Small.two (by decide) ha hc))).le (by decide)
  · exact (Small.two (by decide) (Small.one (by decide) hb) (Small.two (by decide) ha hall)).le (by decide)

-- enthymemeref04.Text
set_option maxHeartbeats 1000000 in
theorem c_RxText (W0 : World) (N : Nat) (m : Int) (hm : I6 m) : AC (En W0 N) 45 [.i m] [] (fun r h => h = [] ∧ ∃ t, r = .s t ∧ t.size ≤ 1000000) := by
  refine AC.enter Tryd.func45 rfl Tryd.ntmps45 (bl rfl) fun X => ?_
  refine sr ?_
  refine WL.v (Val.assign Ev.const) rfl ?_
  refine WL.norm 87 [(0, _)] [] rfl ⟨rfl, trivial⟩ rfl rfl ?_
  refine wn ?_
  refine sr ?_
  refine mv rfl rfl ?_
  refine WL.callV ca8 (evc (tm rfl) (evc Ev.const evn)) (lo1 (lo1 lo0)) rfl (c_Around W0 N _ _ (by assumption) (by omega)) ?_
  rintro _ rfl
  refine asg rfl rfl ?_
  refine WL.norm 87 [(3, _)] [] rfl ⟨rfl, trivial⟩ rfl rfl ?_
  refine wn ?_
  refine sr ?_
  refine WL.v (Val.le (Val.build (vs := [(0, _), (1, _), (2, _)]) Tryd.underlying98 zz98 rfl rfl pl98 rfl ⟨Ev.const, rfl, rfl, rfl, ⟨Ev.const, rfl, rfl, rfl, ⟨Ev.const, rfl, rfl, rfl, trivial⟩⟩⟩) (Le.agg (ys := [_, _, _, .f (.lst 4 [])]) (LeL.cons (Le.refl _) (LeL.cons (Le.refl _) (LeL.cons (Le.refl _) (LeL.cons Le.nil LeL.nil)))))) rfl ?_
  refine WL.v (Val.le (Val.build (vs := [(0, _), (1, _), (2, _)]) Tryd.underlying98 zz98 rfl rfl pl98 rfl ⟨Ev.const, rfl, rfl, rfl, ⟨Ev.const, rfl, rfl, rfl, ⟨Ev.const, rfl, rfl, rfl, trivial⟩⟩⟩) (Le.agg (ys := [_, _, _, .f (.lst 4 [])]) (LeL.cons (Le.refl _) (LeL.cons (Le.refl _) (LeL.cons (Le.refl _) (LeL.cons Le.nil LeL.nil)))))) rfl ?_
  refine WL.v (Val.le (Val.build (vs := [(0, _)]) Tryd.underlying98 zz98 rfl rfl pl98 rfl ⟨Ev.const, rfl, rfl, rfl, trivial⟩) (Le.agg (ys := [_, _, _, .f (.lst 4 [])]) (LeL.cons (Le.refl _) (LeL.cons (Le.refl _) (LeL.cons (Le.refl _) (LeL.cons Le.nil LeL.nil)))))) rfl ?_
  refine WL.v (Val.le (Val.build (vs := [(0, _), (1, _), (2, _)]) Tryd.underlying98 zz98 rfl rfl pl98 rfl ⟨Ev.const, rfl, rfl, rfl, ⟨Ev.const, rfl, rfl, rfl, ⟨Ev.const, rfl, rfl, rfl, trivial⟩⟩⟩) (Le.agg (ys := [_, _, _, .f (.lst 4 [])]) (LeL.cons (Le.refl _) (LeL.cons (Le.refl _) (LeL.cons (Le.refl _) (LeL.cons Le.nil LeL.nil)))))) rfl ?_
  refine WL.v (Val.le (Val.build (vs := [(0, _)]) Tryd.underlying98 zz98 rfl rfl pl98 rfl ⟨Ev.const, rfl, rfl, rfl, trivial⟩) (Le.agg (ys := [_, _, _, .f (.lst 4 [])]) (LeL.cons (Le.refl _) (LeL.cons (Le.refl _) (LeL.cons (Le.refl _) (LeL.cons Le.nil LeL.nil)))))) rfl ?_
  refine WL.callV ca56 evn lo0 rfl (c_Everything W0 N) ?_
  rintro _ rfl
  refine WL.stp rfl (Stp.buildFrozen (xs := [_, _, _, _, _, _]) (fs := (AT : List Rx).map Rx.cells) Tryd.underlying96 zs98 zz98 rfl rfl (evc (tm rfl) (evc (tm rfl) (evc (tm rfl) (evc (tm rfl) (evc (tm rfl) (evc (tm rfl) evn)))))) fitL (bl rfl) (els_rx (AT : List Rx)) rfl) ?_
  refine asg rfl rfl ?_
  refine WL.norm 87 [(3, _), (4, _)] [] rfl ⟨rfl, rfl, trivial⟩ rfl rfl ?_
  refine wn ?_
  refine W.seq ?_
  have hk := around_range (n := m) (most := 1048576) (by omega)
  refine W.region ?_
  refine mv rfl rfl ?_
  refine mv rfl rfl ?_
  refine WL.v (Val.rem (tm rfl) Ev.const (by omega) (IntWalk.rem_in _ _ (by omega))) rfl ?_
  refine WL.v (Val.ixRx Tryd.underlying96 zs98 (tm rfl) (tm rfl) (by omega) (gA_at (by omega) (by show _ < (6 : Int); omega))) rfl ?_
  refine WL.v (Val.loadAgg Tryd.underlying98 rfl zs98 (tm rfl) (bl rfl)) rfl ?_
  refine WL.stp rfl (Stp.alloc zz98 rfl rfl) ?_
  refine WL.stp rfl (Stp.st (tm rfl) (tm rfl) zs98 rfl rfl rfl rfl rfl rfl rfl rfl) ?_
  refine WL.norm 87 [(3, _), (4, _), (5, _)] [some ⟨_, _, [[_, _, _, _]]⟩] rfl ⟨rfl, rfl, rfl, trivial⟩ rfl rfl ?_
  refine wn ?_
  refine sr ?_
  refine mv rfl rfl ?_
  refine mv rfl rfl ?_
  refine WL.v (Val.quo (tm rfl) Ev.const (by omega) (IntWalk.i64_quo _ _ (by omega))) rfl ?_
  refine WL.v (Val.rem (tm rfl) Ev.const (by omega) (IntWalk.rem_in _ _ (by omega))) rfl ?_
  refine WL.v (Val.ixRx Tryd.underlying96 zs98 (tm rfl) (tm rfl) (by omega) (gA_at (by omega) (by show _ < (6 : Int); omega))) rfl ?_
  refine WL.v (Val.loadAgg Tryd.underlying98 rfl zs98 (tm rfl) (bl rfl)) rfl ?_
  refine WL.stp rfl (Stp.alloc zz98 rfl rfl) ?_
  refine WL.stp rfl (Stp.st (tm rfl) (tm rfl) zs98 rfl rfl rfl rfl rfl rfl rfl rfl) ?_
  refine WL.norm 87 [(3, _), (4, _), (5, _), (6, _)] [some ⟨_, _, [[_, _, _, _]]⟩, some ⟨_, _, [[_, _, _, _]]⟩] rfl ⟨rfl, rfl, rfl, rfl, trivial⟩ rfl rfl ?_
  refine wn ?_
  refine sr ?_
  refine mv rfl rfl ?_
  refine mv rfl rfl ?_
  refine WL.v (Val.quo (tm rfl) Ev.const (by omega) (IntWalk.i64_quo _ _ (by omega))) rfl ?_
  refine WL.v (Val.rem (tm rfl) Ev.const (by omega) (IntWalk.rem_in _ _ (by omega))) rfl ?_
  refine WL.v (Val.ixRx Tryd.underlying96 zs98 (tm rfl) (tm rfl) (by omega) (gA_at (by omega) (by show _ < (6 : Int); omega))) rfl ?_
  refine WL.v (Val.loadAgg Tryd.underlying98 rfl zs98 (tm rfl) (bl rfl)) rfl ?_
  refine WL.stp rfl (Stp.alloc zz98 rfl rfl) ?_
  refine WL.stp rfl (Stp.st (tm rfl) (tm rfl) zs98 rfl rfl rfl rfl rfl rfl rfl rfl) ?_
  refine WL.norm 87 [(3, _), (5, _), (6, _), (7, _)] [some ⟨_, _, [[_, _, _, _]]⟩, some ⟨_, _, [[_, _, _, _]]⟩, some ⟨_, _, [[_, _, _, _]]⟩] rfl ⟨rfl, rfl, rfl, rfl, trivial⟩ rfl rfl ?_
  refine wn ?_
  refine sr ?_
  refine WL.v (Val.loadLiveAgg Tryd.underlying98 rfl zs98 (tm rfl) rfl rfl rfl rfl (bl rfl)) rfl ?_
  refine WL.stp rfl (Stp.buildFrozen (xs := [_]) (fs := ([(gA AT ((around m 1048576) % 6))] : List Rx).map Rx.cells) Tryd.underlying96 zs98 zz98 rfl rfl (evc (tm rfl) evn) fitL (bl rfl) (els_rx ([(gA AT ((around m 1048576) % 6))] : List Rx)) rfl) ?_
  refine WL.v (Val.build (vs := [(0, _), (3, _)]) Tryd.underlying98 zz98 rfl rfl pl98 rfl ⟨Ev.const, rfl, rfl, rfl, ⟨(tm rfl), rfl, rfl, rfl, trivial⟩⟩) rfl ?_
  refine WL.stp rfl (Stp.alloc zz98 rfl rfl) ?_
  refine WL.stp rfl (Stp.st (tm rfl) (tm rfl) zs98 rfl rfl rfl rfl rfl rfl rfl rfl) ?_
  refine WL.norm 87 [(3, _), (5, _), (6, _), (7, _), (8, _)] [some ⟨_, _, [[_, _, _, _]]⟩, some ⟨_, _, [[_, _, _, _]]⟩, some ⟨_, _, [[_, _, _, _]]⟩, some ⟨_, _, [[_, _, _, _]]⟩] rfl ⟨rfl, rfl, rfl, rfl, rfl, trivial⟩ rfl rfl ?_
  refine wn ?_
  refine W.seq ?_
  refine W.drawE (fun k => ([([0], []), ([0], []), ([1], []), ([], []), ([], []), ([0], []), ([1], []), ([2], []), ([], []), ([], []), ([3], []), ([3], []), ([1], []), ([], []), ([], []), ([0], []), ([1], []), ([], []), ([], []), ([], []), ([], []), ([1], []), ([0], []), ([2], []), ([], []), ([], []), ([], []), ([], []), ([], []), ([], []), ([1], []), ([], []), ([], []), ([0], []), ([], []), ([], []), ([], []), ([], []), ([], []), ([], []), ([], [])] : List (List Nat × List Nat)).getD k ([], [])) rfl (by kernel_rfl) (bl rfl) ?_
  refine LexE.val rfl rfl rfl (fun h' ha => Val.loadLiveAgg Tryd.underlying98 rfl zs98 (tm rfl) ((ha.at_ 0 (by decide)).trans rfl) rfl rfl rfl (bl rfl)) ?_
  refine LexE.val rfl rfl rfl (fun h' ha => Val.loadLiveAgg Tryd.underlying98 rfl zs98 (tm rfl) ((ha.at_ 0 (by decide)).trans rfl) rfl rfl rfl (bl rfl)) ?_
  refine LexE.val rfl rfl rfl (fun h' ha => Val.loadLiveAgg Tryd.underlying98 rfl zs98 (tm rfl) ((ha.at_ 1 (by decide)).trans rfl) rfl rfl rfl (bl rfl)) ?_
  refine LexE.stp (U := []) rfl rfl rfl rfl (fun h => by first | rfl | cases h) (fun h' ha m' => Stp.buildFrozen (xs := [_, _]) (fs := ([(gA AT ((around m 1048576) % 6)), (gA AT ((around m 1048576) / 6 % 6))] : List Rx).map Rx.cells) Tryd.underlying96 zs98 zz98 rfl rfl (evc (tm rfl) (evc (tm rfl) evn)) fitL (bl rfl) (els_rx ([(gA AT ((around m 1048576) % 6)), (gA AT ((around m 1048576) / 6 % 6))] : List Rx)) rfl) ?_
  refine LexE.val rfl rfl rfl (fun h' ha => Val.build (vs := [(0, _), (3, _)]) Tryd.underlying98 zz98 rfl rfl pl98 rfl ⟨Ev.const, rfl, rfl, rfl, ⟨(tm rfl), rfl, rfl, rfl, trivial⟩⟩) ?_
  refine LexE.val rfl rfl rfl (fun h' ha => Val.loadLiveAgg Tryd.underlying98 rfl zs98 (tm rfl) ((ha.at_ 0 (by decide)).trans rfl) rfl rfl rfl (bl rfl)) ?_
  refine LexE.val rfl rfl rfl (fun h' ha => Val.loadLiveAgg Tryd.underlying98 rfl zs98 (tm rfl) ((ha.at_ 1 (by decide)).trans rfl) rfl rfl rfl (bl rfl)) ?_
  refine LexE.val rfl rfl rfl (fun h' ha => Val.loadLiveAgg Tryd.underlying98 rfl zs98 (tm rfl) ((ha.at_ 2 (by decide)).trans rfl) rfl rfl rfl (bl rfl)) ?_
  refine LexE.stp (U := []) rfl rfl rfl rfl (fun h => by first | rfl | cases h) (fun h' ha m' => Stp.buildFrozen (xs := [_, _, _]) (fs := ([(gA AT ((around m 1048576) % 6)), (gA AT ((around m 1048576) / 6 % 6)), (gA AT ((around m 1048576) / 36 % 6))] : List Rx).map Rx.cells) Tryd.underlying96 zs98 zz98 rfl rfl (evc (tm rfl) (evc (tm rfl) (evc (tm rfl) evn))) fitL (bl rfl) (els_rx ([(gA AT ((around m 1048576) % 6)), (gA AT ((around m 1048576) / 6 % 6)), (gA AT ((around m 1048576) / 36 % 6))] : List Rx)) rfl) ?_
  refine LexE.val rfl rfl rfl (fun h' ha => Val.build (vs := [(0, _), (3, _)]) Tryd.underlying98 zz98 rfl rfl pl98 rfl ⟨Ev.const, rfl, rfl, rfl, ⟨(tm rfl), rfl, rfl, rfl, trivial⟩⟩) ?_
  refine LexE.val rfl rfl rfl (fun h' ha => Val.loadLiveAgg Tryd.underlying98 rfl zs98 (tm rfl) ((ha.at_ 3 (by decide)).trans rfl) rfl rfl rfl (bl rfl)) ?_
  refine LexE.val rfl rfl rfl (fun h' ha => Val.loadLiveAgg Tryd.underlying98 rfl zs98 (tm rfl) ((ha.at_ 3 (by decide)).trans rfl) rfl rfl rfl (bl rfl)) ?_
  refine LexE.val rfl rfl rfl (fun h' ha => Val.loadLiveAgg Tryd.underlying98 rfl zs98 (tm rfl) ((ha.at_ 1 (by decide)).trans rfl) rfl rfl rfl (bl rfl)) ?_
  refine LexE.stp (U := []) rfl rfl rfl rfl (fun h => by first | rfl | cases h) (fun h' ha m' => Stp.buildFrozen (xs := [_, _]) (fs := ([Rx.mk 7 0 0 [(gA AT ((around m 1048576) % 6))], (gA AT ((around m 1048576) / 6 % 6))] : List Rx).map Rx.cells) Tryd.underlying96 zs98 zz98 rfl rfl (evc (tm rfl) (evc (tm rfl) evn)) fitL (bl rfl) (els_rx ([Rx.mk 7 0 0 [(gA AT ((around m 1048576) % 6))], (gA AT ((around m 1048576) / 6 % 6))] : List Rx)) rfl) ?_
  refine LexE.val rfl rfl rfl (fun h' ha => Val.build (vs := [(0, _), (3, _)]) Tryd.underlying98 zz98 rfl rfl pl98 rfl ⟨Ev.const, rfl, rfl, rfl, ⟨(tm rfl), rfl, rfl, rfl, trivial⟩⟩) ?_
  refine LexE.val rfl rfl rfl (fun h' ha => Val.loadLiveAgg Tryd.underlying98 rfl zs98 (tm rfl) ((ha.at_ 0 (by decide)).trans rfl) rfl rfl rfl (bl rfl)) ?_
  refine LexE.val rfl rfl rfl (fun h' ha => Val.loadLiveAgg Tryd.underlying98 rfl zs98 (tm rfl) ((ha.at_ 1 (by decide)).trans rfl) rfl rfl rfl (bl rfl)) ?_
  refine LexE.stp (U := []) rfl rfl rfl rfl (fun h => by first | rfl | cases h) (fun h' ha m' => Stp.buildFrozen (xs := [_, _]) (fs := ([(gA AT ((around m 1048576) % 6)), (gA AT ((around m 1048576) / 6 % 6))] : List Rx).map Rx.cells) Tryd.underlying96 zs98 zz98 rfl rfl (evc (tm rfl) (evc (tm rfl) evn)) fitL (bl rfl) (els_rx ([(gA AT ((around m 1048576) % 6)), (gA AT ((around m 1048576) / 6 % 6))] : List Rx)) rfl) ?_
  refine LexE.val rfl rfl rfl (fun h' ha => Val.build (vs := [(0, _), (3, _)]) Tryd.underlying98 zz98 rfl rfl pl98 rfl ⟨Ev.const, rfl, rfl, rfl, ⟨(tm rfl), rfl, rfl, rfl, trivial⟩⟩) ?_
  refine LexE.stp (U := []) rfl rfl rfl rfl (fun h => by first | rfl | cases h) (fun h' ha m' => Stp.buildFrozen (xs := [_]) (fs := ([Rx.mk 3 0 0 [(gA AT ((around m 1048576) % 6)), (gA AT ((around m 1048576) / 6 % 6))]] : List Rx).map Rx.cells) Tryd.underlying96 zs98 zz98 rfl rfl (evc (tm rfl) evn) fitL (bl rfl) (els_rx ([Rx.mk 3 0 0 [(gA AT ((around m 1048576) % 6)), (gA AT ((around m 1048576) / 6 % 6))]] : List Rx)) rfl) ?_
  refine LexE.val rfl rfl rfl (fun h' ha => Val.build (vs := [(0, _), (3, _)]) Tryd.underlying98 zz98 rfl rfl pl98 rfl ⟨Ev.const, rfl, rfl, rfl, ⟨(tm rfl), rfl, rfl, rfl, trivial⟩⟩) ?_
  refine LexE.val rfl rfl rfl (fun h' ha => Val.loadLiveAgg Tryd.underlying98 rfl zs98 (tm rfl) ((ha.at_ 1 (by decide)).trans rfl) rfl rfl rfl (bl rfl)) ?_
  refine LexE.val rfl rfl rfl (fun h' ha => Val.loadLiveAgg Tryd.underlying98 rfl zs98 (tm rfl) ((ha.at_ 0 (by decide)).trans rfl) rfl rfl rfl (bl rfl)) ?_
  refine LexE.val rfl rfl rfl (fun h' ha => Val.loadLiveAgg Tryd.underlying98 rfl zs98 (tm rfl) ((ha.at_ 2 (by decide)).trans rfl) rfl rfl rfl (bl rfl)) ?_
  refine LexE.stp (U := []) rfl rfl rfl rfl (fun h => by first | rfl | cases h) (fun h' ha m' => Stp.buildFrozen (xs := [_, _]) (fs := ([(gA AT ((around m 1048576) % 6)), (gA AT ((around m 1048576) / 36 % 6))] : List Rx).map Rx.cells) Tryd.underlying96 zs98 zz98 rfl rfl (evc (tm rfl) (evc (tm rfl) evn)) fitL (bl rfl) (els_rx ([(gA AT ((around m 1048576) % 6)), (gA AT ((around m 1048576) / 36 % 6))] : List Rx)) rfl) ?_
  refine LexE.val rfl rfl rfl (fun h' ha => Val.build (vs := [(0, _), (3, _)]) Tryd.underlying98 zz98 rfl rfl pl98 rfl ⟨Ev.const, rfl, rfl, rfl, ⟨(tm rfl), rfl, rfl, rfl, trivial⟩⟩) ?_
  refine LexE.stp (U := []) rfl rfl rfl rfl (fun h => by first | rfl | cases h) (fun h' ha m' => Stp.buildFrozen (xs := [_]) (fs := ([Rx.mk 4 0 0 [(gA AT ((around m 1048576) % 6)), (gA AT ((around m 1048576) / 36 % 6))]] : List Rx).map Rx.cells) Tryd.underlying96 zs98 zz98 rfl rfl (evc (tm rfl) evn) fitL (bl rfl) (els_rx ([Rx.mk 4 0 0 [(gA AT ((around m 1048576) % 6)), (gA AT ((around m 1048576) / 36 % 6))]] : List Rx)) rfl) ?_
  refine LexE.val rfl rfl rfl (fun h' ha => Val.build (vs := [(0, _), (3, _)]) Tryd.underlying98 zz98 rfl rfl pl98 rfl ⟨Ev.const, rfl, rfl, rfl, ⟨(tm rfl), rfl, rfl, rfl, trivial⟩⟩) ?_
  refine LexE.stp (U := []) rfl rfl rfl rfl (fun h => by first | rfl | cases h) (fun h' ha m' => Stp.buildFrozen (xs := [_, _]) (fs := ([(gA AT ((around m 1048576) / 6 % 6)), Rx.mk 7 0 0 [Rx.mk 4 0 0 [(gA AT ((around m 1048576) % 6)), (gA AT ((around m 1048576) / 36 % 6))]]] : List Rx).map Rx.cells) Tryd.underlying96 zs98 zz98 rfl rfl (evc (tm rfl) (evc (tm rfl) evn)) fitL (bl rfl) (els_rx ([(gA AT ((around m 1048576) / 6 % 6)), Rx.mk 7 0 0 [Rx.mk 4 0 0 [(gA AT ((around m 1048576) % 6)), (gA AT ((around m 1048576) / 36 % 6))]]] : List Rx)) rfl) ?_
  refine LexE.val rfl rfl rfl (fun h' ha => Val.build (vs := [(0, _), (3, _)]) Tryd.underlying98 zz98 rfl rfl pl98 rfl ⟨Ev.const, rfl, rfl, rfl, ⟨(tm rfl), rfl, rfl, rfl, trivial⟩⟩) ?_
  refine LexE.val rfl rfl rfl (fun h' ha => Val.loadLiveAgg Tryd.underlying98 rfl zs98 (tm rfl) ((ha.at_ 1 (by decide)).trans rfl) rfl rfl rfl (bl rfl)) ?_
  refine LexE.stp (U := []) rfl rfl rfl rfl (fun h => by first | rfl | cases h) (fun h' ha m' => Stp.buildFrozen (xs := [_]) (fs := ([(gA AT ((around m 1048576) / 6 % 6))] : List Rx).map Rx.cells) Tryd.underlying96 zs98 zz98 rfl rfl (evc (tm rfl) evn) fitL (bl rfl) (els_rx ([(gA AT ((around m 1048576) / 6 % 6))] : List Rx)) rfl) ?_
  refine LexE.val rfl rfl rfl (fun h' ha => Val.build (vs := [(0, _), (3, _)]) Tryd.underlying98 zz98 rfl rfl pl98 rfl ⟨Ev.const, rfl, rfl, rfl, ⟨(tm rfl), rfl, rfl, rfl, trivial⟩⟩) ?_
  refine LexE.val rfl rfl rfl (fun h' ha => Val.loadLiveAgg Tryd.underlying98 rfl zs98 (tm rfl) ((ha.at_ 0 (by decide)).trans rfl) rfl rfl rfl (bl rfl)) ?_
  refine LexE.call ca56 (fun h' ha => evn) lo0 rfl (c_Everything W0 N) rfl ?_
  refine LexE.stp (U := []) rfl rfl rfl rfl (fun h => by first | rfl | cases h) (fun h' ha m' => Stp.buildFrozen (xs := [_, _]) (fs := ([(gA AT ((around m 1048576) % 6)), rxAll] : List Rx).map Rx.cells) Tryd.underlying96 zs98 zz98 rfl rfl (evc (tm rfl) (evc (tm rfl) evn)) fitL (bl rfl) (els_rx ([(gA AT ((around m 1048576) % 6)), rxAll] : List Rx)) rfl) ?_
  refine LexE.val rfl rfl rfl (fun h' ha => Val.build (vs := [(0, _), (3, _)]) Tryd.underlying98 zz98 rfl rfl pl98 rfl ⟨Ev.const, rfl, rfl, rfl, ⟨(tm rfl), rfl, rfl, rfl, trivial⟩⟩) ?_
  refine LexE.stp (U := []) rfl rfl rfl rfl (fun h => by first | rfl | cases h) (fun h' ha m' => Stp.buildFrozen (xs := [_, _]) (fs := ([Rx.mk 6 0 0 [(gA AT ((around m 1048576) / 6 % 6))], Rx.mk 3 0 0 [(gA AT ((around m 1048576) % 6)), rxAll]] : List Rx).map Rx.cells) Tryd.underlying96 zs98 zz98 rfl rfl (evc (tm rfl) (evc (tm rfl) evn)) fitL (bl rfl) (els_rx ([Rx.mk 6 0 0 [(gA AT ((around m 1048576) / 6 % 6))], Rx.mk 3 0 0 [(gA AT ((around m 1048576) % 6)), rxAll]] : List Rx)) rfl) ?_
  refine LexE.val rfl rfl rfl (fun h' ha => Val.build (vs := [(0, _), (3, _)]) Tryd.underlying98 zz98 rfl rfl pl98 rfl ⟨Ev.const, rfl, rfl, rfl, ⟨(tm rfl), rfl, rfl, rfl, trivial⟩⟩) ?_
  refine LexE.stp (U := []) rfl rfl rfl rfl (fun h => by first | rfl | cases h) (fun h' ha m' => Stp.buildFrozen (xs := [_, _, _, _, _, _, _, _]) (fs := ((formsR (gA AT ((around m 1048576) % 6)) (gA AT ((around m 1048576) / 6 % 6)) (gA AT ((around m 1048576) / 36 % 6))) : List Rx).map Rx.cells) Tryd.underlying96 zs98 zz98 rfl rfl (evc (tm rfl) (evc (tm rfl) (evc (tm rfl) (evc (tm rfl) (evc (tm rfl) (evc (tm rfl) (evc (tm rfl) (evc (tm rfl) evn)))))))) fitL (bl rfl) (els_rx ((formsR (gA AT ((around m 1048576) % 6)) (gA AT ((around m 1048576) / 6 % 6)) (gA AT ((around m 1048576) / 36 % 6))) : List Rx)) rfl) ?_
  refine LexE.val rfl rfl rfl (fun h' ha => Val.assign (tm rfl)) ?_
  refine LexE.nil (nm ?_)
  refine W.norm 87 [(3, _), (9, _)] [some ⟨_, _, [[_, _, _, _]]⟩, some ⟨_, _, [[_, _, _, _]]⟩, some ⟨_, _, [[_, _, _, _]]⟩, some ⟨_, _, [[_, _, _, _]]⟩] rfl ⟨rfl, rfl, trivial⟩ rfl rfl ?_
  refine W.seq ?_
  have hsm := forms_ok (AT_at (k := (around m 1048576) % 6) (by omega) (by omega)) (AT_at (k := (around m 1048576) / 6 % 6) (by omega) (by omega)) (AT_at (k := (around m 1048576) / 36 % 6) (by omega) (by omega)) _ (gA_mem (l := (formsR (gA AT ((around m 1048576) % 6)) (gA AT ((around m 1048576) / 6 % 6)) (gA AT ((around m 1048576) / 36 % 6)))) (i := (around m 1048576) / 216 % 8) (by omega) (by show _ < (8 : Int); omega))
  have hsn := hsm.2
  refine W.region ?_
  refine mv rfl rfl ?_
  refine mv rfl rfl ?_
  refine WL.v (Val.quo (tm rfl) Ev.const (by omega) (IntWalk.i64_quo _ _ (by omega))) rfl ?_
  refine WL.v (Val.rem (tm rfl) Ev.const (by omega) (IntWalk.rem_in _ _ (by omega))) rfl ?_
  refine WL.v (Val.ixRx Tryd.underlying96 zs98 (tm rfl) (tm rfl) (by omega) (gA_at (by omega) (by show _ < (8 : Int); omega))) rfl ?_
  refine WL.v (Val.loadAgg Tryd.underlying98 rfl zs98 (tm rfl) (bl rfl)) rfl ?_
  refine WL.callV ca58 (evc (tm rfl) evn) (lo2 rfl lo0) rfl (c_simple W0 N _ _ (Nat.lt_succ_self _) (by have := hsm.2; omega) hsm.1) ?_
  rintro _ ⟨x_, rfl, hx_1, hx_2⟩
  refine WL.callV ca57 (evc (tm rfl) (evc Ev.const evn)) (lo2 rfl (lo1 lo0)) rfl (c_Write W0 N _ _ 0 (Nat.lt_succ_self _) (by have := hsm.2; omega) hx_1 (by omega) (by omega)) ?_
  rintro _ ⟨t_, rfl, ht_1, ht_2, ht_3⟩
  refine asg rfl rfl ?_
  refine WL.norm 87 [(2, _)] [some ⟨_, _, [[_, _, _, _]]⟩, some ⟨_, _, [[_, _, _, _]]⟩, some ⟨_, _, [[_, _, _, _]]⟩, some ⟨_, _, [[_, _, _, _]]⟩] rfl ⟨rfl, trivial⟩ rfl rfl ?_
  refine wn ?_
  refine W.ret ?_
  exact Ret.of (.inr rfl) rfl (res1 rfl rfl) (Fewer.nil _) (.inr trivial) (fun id h => absurd h (Nat.not_lt_zero _)) (.same rfl) ⟨rfl, t_, rfl, by omega⟩
end Go.Aw
namespace Go.Aw
open Go.RowKit Go.Proofs

def numFrom (c : Int) : Nat → Int → Int
  | 0, _ => -1
  | k + 1, i => if digB i = c then i else numFrom c k (i + 1)
def numF (c : Int) : Int := numFrom c 16 0
theorem numFrom_ok (c : Int) : ∀ (k : Nat) (i : Int), 0 ≤ i → i + k ≤ 16 → -1 ≤ numFrom c k i ∧ numFrom c k i ≤ 15
  | 0, i, _, _ => by simp [numFrom]
  | k + 1, i, h0, h1 => by
    rw [numFrom]
    split
    · omega
    · exact numFrom_ok c k (i + 1) (by omega) (by omega)
theorem numF_ok (c : Int) : -1 ≤ numF c ∧ numF c ≤ 15 := numFrom_ok c 16 0 (by omega) (by omega)
theorem num_step {c i : Int} (h0 : 0 ≤ i) (h1 : i < 16) : numFrom c (16 - i).toNat i = if digB i = c then i else numFrom c (16 - (i + 1)).toNat (i + 1) := by
  rw [show (16 - i).toNat = (16 - (i + 1)).toNat + 1 from by omega, numFrom]
theorem byte_ok (b : UInt8) : 0 ≤ (b.toNat : Int) ∧ (b.toNat : Int) ≤ 255 := ⟨by omega, byte_le b⟩
/-- A range's expression. -/
def RangeOk (r : Rx) : Prop := r = .mk 0 0 0 [] ∨ ∃ lo hi, r = .mk 2 lo hi [] ∧ (0 ≤ lo ∧ lo ≤ 255) ∧ (0 ≤ hi ∧ hi ≤ 255)
structure Tk where
  text : ByteArray
  pos : Int
  r : Rx
instance : Inhabited Tk := ⟨⟨ByteArray.empty, 0, default⟩⟩
def Tk.cells (t : Tk) : List FV := [.s t.text, .i t.pos, .i t.r.kind, .v (.int .u8 t.r.lo), .v (.int .u8 t.r.hi), .lst 4 (t.r.kids.map Rx.cells)]
abbrev FV.tks (l : List Tk) : FV := .lst 6 (l.map Tk.cells)
def TkOk (t : Tk) : Prop := t.text.size ≤ 4096 ∧ RangeOk t.r

-- enthymemeref04.number
set_option maxHeartbeats 1000000 in
theorem c_number (W0 : World) (N : Nat) (c : Int) : AC (En W0 N) 102 [.c c] [] (fun r h => h = [] ∧ r = .i (numF c)) := by
  refine AC.enter Tryd.func102 rfl Tryd.ntmps102 (bl rfl) fun X => ?_
  refine sr ?_
  refine WL.v (Val.assign Ev.const) rfl ?_
  refine WL.norm 13 [(0, _)] [] rfl ⟨rfl, trivial⟩ rfl rfl ?_
  refine wn ?_
  refine W.seq ?_
  refine sr ?_
  refine WL.v (Val.assign Ev.const) rfl ?_
  refine WL.norm 13 [(0, _), (3, _)] [] rfl ⟨rfl, rfl, trivial⟩ rfl rfl ?_
  refine wn ?_
  refine W.norm 13 [(0, _), (3, _)] [] rfl ⟨rfl, rfl, trivial⟩ rfl rfl ?_
  refine W.block (W.loop (fun nn S => ∃ (i : Int), S = ⟨13, [(0, .c c), (3, .i i)], [], []⟩ ∧ nn = ((16 - i).toNat) ∧ (0 ≤ i) ∧ (i ≤ 16) ∧ (numF c = numFrom c (16 - i).toNat i)) ⟨0, rfl, rfl, by omega, by omega, rfl⟩ ?_)
  rintro nn S ⟨i, rfl, rfl, hi0, hi1, hn⟩
  refine W.seq ?_
  refine sr ?_
  refine mv rfl rfl ?_
  refine WL.v (Val.lss (tm rfl) Ev.const) rfl ?_
  refine WL.norm 13 [(0, _), (3, _), (5, _)] [] rfl ⟨rfl, rfl, rfl, trivial⟩ rfl rfl ?_
  refine wn ?_
  refine W.condP rfl (fun hc2 => ?_) (fun hc2 => ?_)
  · try simp only [td] at hc2
    refine W.skip (nm ?_)
    refine W.seq ?_
    refine W.block ?_
    refine sr ?_
    refine mv rfl rfl ?_
    refine WL.callV ca84 (evc (tm rfl) evn) (lo1 lo0) rfl (c_digit W0 N _ (by omega) (by omega)) ?_
    rintro _ rfl
    refine mv rfl rfl ?_
    refine WL.v (Val.eql (tm rfl) (tm rfl)) rfl ?_
    refine WL.norm 13 [(0, _), (3, _), (11, _)] [] rfl ⟨rfl, rfl, rfl, trivial⟩ rfl rfl ?_
    refine wn ?_
    refine W.condP rfl (fun hc4 => ?_) (fun hc4 => ?_)
    · try simp only [td] at hc4
      refine sr ?_
      refine mv rfl rfl ?_
      refine asg rfl rfl ?_
      refine WL.norm 13 [(2, _)] [] rfl ⟨rfl, trivial⟩ rfl rfl ?_
      refine wn ?_
      refine W.ret (rt2 (rt1 (rt1 (rt2 (rt1 ?_)))))
      exact Ret.of (.inr rfl) rfl (res1 rfl rfl) (Fewer.nil _) (.inr trivial) (fun id h => absurd h (Nat.not_lt_zero _)) (.same rfl) ⟨rfl, by rw [hn, num_step hi0 (by omega), if_pos hc4]⟩
    try simp only [td] at hc4
    refine W.skip (nb (nm ?_))
    refine W.region ?_
    refine mv rfl rfl ?_
    refine WL.v (Val.add (tm rfl) Ev.const (IntWalk.i64_in _ (by omega))) rfl ?_
    refine asg rfl rfl ?_
    refine WL.norm 13 [(0, _), (3, _)] [] rfl ⟨rfl, rfl, trivial⟩ rfl rfl ?_
    refine wn ?_
    exact ⟨_, by omega, i + 1, rfl, rfl, by omega, by omega, by rw [hn, num_step hi0 (by omega), if_neg hc4]⟩
  try simp only [td] at hc2
  refine W.exit (ex1 (ex1 (ex2 (nm ?_))))
  refine sr ?_
  refine WL.v (Val.assign Ev.const) rfl ?_
  refine WL.norm 13 [(2, _)] [] rfl ⟨rfl, trivial⟩ rfl rfl ?_
  refine wn ?_
  refine W.ret ?_
  exact Ret.of (.inr rfl) rfl (res1 rfl rfl) (Fewer.nil _) (.inr trivial) (fun id h => absurd h (Nat.not_lt_zero _)) (.same rfl) ⟨rfl, by rw [hn, show (16 - i).toNat = 0 from by omega, numFrom]⟩
-- enthymemeref04.byteAt
set_option maxHeartbeats 1000000 in
theorem c_byteAt (W0 : World) (N : Nat) (s : ByteArray) (hs : s.size ≤ 100000) (at_ : Int) (h0 : 0 ≤ at_) (h1 : at_ ≤ 100000) : AC (En W0 N) 99 [.s s, .i at_] [] (fun r h => h = [] ∧ ∃ c n, r = .tup [.c c, .i n] ∧ (0 ≤ c ∧ c ≤ 255) ∧ 0 ≤ n ∧ n ≤ 4 ∧ (0 < n → at_ + n ≤ s.size)) := by
  refine AC.enter Tryd.func99 rfl Tryd.ntmps99 (bl rfl) fun X => ?_
  refine sr ?_
  refine WL.v (Val.assign Ev.const) rfl ?_
  refine WL.v (Val.assign Ev.const) rfl ?_
  refine WL.norm 82 [(0, _), (1, _)] [] rfl ⟨rfl, rfl, trivial⟩ rfl rfl ?_
  refine wn ?_
  refine W.seq ?_
  refine sr ?_
  refine mv rfl rfl ?_
  refine WL.v (Val.add (tm rfl) Ev.const (IntWalk.i64_in _ (by omega))) rfl ?_
  refine mv rfl rfl ?_
  refine WL.v (Val.lenS Tryd.underlying9 (tm rfl)) rfl ?_
  refine WL.v (Val.leq (tm rfl) (tm rfl)) rfl ?_
  refine mv rfl rfl ?_
  refine WL.g (Grd.t rfl rfl rfl) (fun hG => Val.move (tm rfl)) rfl ?_
  refine WL.g (Grd.t rfl rfl rfl) (fun hG => Val.move (tm rfl)) rfl ?_
  refine WL.g (Grd.t rfl rfl rfl) (fun hG => Val.ixB Tryd.underlying9 (Ev.opt rfl hG) (Ev.opt rfl hG) (by try simp only [td] at hG; omega) (by try simp only [td] at hG; omega)) rfl ?_
  refine WL.g (Grd.t rfl rfl rfl) (fun hG => Val.eql (Ev.opt rfl hG) Ev.const) rfl ?_
  refine WL.v (Val.and (tm rfl) (fun hb => Ev.opt rfl hb)) rfl ?_
  refine mv rfl rfl ?_
  refine WL.g (Grd.t rfl rfl rfl) (fun hG => Val.move (tm rfl)) rfl ?_
  refine WL.g (Grd.t rfl rfl rfl) (fun hG => Val.move (tm rfl)) rfl ?_
  refine WL.g (Grd.t rfl rfl rfl) (fun hG => Val.add (Ev.opt rfl hG) Ev.const (IntWalk.i64_in _ (by omega))) rfl ?_
  refine WL.g (Grd.t rfl rfl rfl) (fun hG => Val.ixB Tryd.underlying9 (Ev.opt rfl hG) (Ev.opt rfl hG) (by try simp only [td] at hG; omega) (by try simp only [td] at hG; omega)) rfl ?_
  refine WL.g (Grd.t rfl rfl rfl) (fun hG => Val.eql (Ev.opt rfl hG) Ev.const) rfl ?_
  refine WL.v (Val.and (tm rfl) (fun hb => Ev.opt rfl hb)) rfl ?_
  refine mv rfl rfl ?_
  refine WL.g (Grd.t rfl rfl rfl) (fun hG => Val.move (tm rfl)) rfl ?_
  refine WL.g (Grd.t rfl rfl rfl) (fun hG => Val.move (tm rfl)) rfl ?_
  refine WL.g (Grd.t rfl rfl rfl) (fun hG => Val.add (Ev.opt rfl hG) Ev.const (IntWalk.i64_in _ (by omega))) rfl ?_
  refine WL.g (Grd.t rfl rfl rfl) (fun hG => Val.ixB Tryd.underlying9 (Ev.opt rfl hG) (Ev.opt rfl hG) (by try simp only [td] at hG; omega) (by try simp only [td] at hG; omega)) rfl ?_
  refine WL.gcall (Grd.t rfl rfl rfl) ca83 (fun hG => (evc (Ev.opt rfl hG) evn)) (lo1 lo0) rfl (fun hG => c_plain W0 N _) ?_
  refine WL.v (Val.and (tm rfl) (fun hb => Ev.opt rfl hb)) rfl ?_
  refine WL.norm 82 [(0, _), (1, _), (30, _)] [] rfl ⟨rfl, rfl, rfl, trivial⟩ rfl rfl ?_
  refine wn ?_
  refine W.condP rfl (fun hc1 => ?_) (fun hc1 => ?_)
  · try simp only [td] at hc1
    refine sr ?_
    refine mv rfl rfl ?_
    refine mv rfl rfl ?_
    refine WL.v (Val.add (tm rfl) Ev.const (IntWalk.i64_in _ (by omega))) rfl ?_
    refine WL.v (Val.ixB Tryd.underlying9 (tm rfl) (tm rfl) (by omega) (by omega)) rfl ?_
    refine asg rfl rfl ?_
    refine WL.v (Val.assign Ev.const) rfl ?_
    refine WL.norm 82 [(4, _), (5, _)] [] rfl ⟨rfl, rfl, trivial⟩ rfl rfl ?_
    refine wn ?_
    refine W.ret (rt1 ?_)
    exact Ret.of (.inr rfl) rfl (res2 rfl rfl rfl) (Fewer.nil _) (.inr trivial) (fun id h => absurd h (Nat.not_lt_zero _)) (.same rfl) ⟨rfl, _, 3, rfl, byte_ok _, by omega, by omega, fun _ => by omega⟩
  try simp only [td] at hc1
  refine W.skip (nm ?_)
  refine W.seq ?_
  refine sr ?_
  refine mv rfl rfl ?_
  refine WL.v (Val.add (tm rfl) Ev.const (IntWalk.i64_in _ (by omega))) rfl ?_
  refine mv rfl rfl ?_
  refine WL.v (Val.lenS Tryd.underlying9 (tm rfl)) rfl ?_
  refine WL.v (Val.leq (tm rfl) (tm rfl)) rfl ?_
  refine mv rfl rfl ?_
  refine WL.g (Grd.t rfl rfl rfl) (fun hG => Val.move (tm rfl)) rfl ?_
  refine WL.g (Grd.t rfl rfl rfl) (fun hG => Val.move (tm rfl)) rfl ?_
  refine WL.g (Grd.t rfl rfl rfl) (fun hG => Val.ixB Tryd.underlying9 (Ev.opt rfl hG) (Ev.opt rfl hG) (by try simp only [td] at hG; omega) (by try simp only [td] at hG; omega)) rfl ?_
  refine WL.g (Grd.t rfl rfl rfl) (fun hG => Val.eql (Ev.opt rfl hG) Ev.const) rfl ?_
  refine WL.v (Val.and (tm rfl) (fun hb => Ev.opt rfl hb)) rfl ?_
  refine mv rfl rfl ?_
  refine WL.g (Grd.t rfl rfl rfl) (fun hG => Val.move (tm rfl)) rfl ?_
  refine WL.g (Grd.t rfl rfl rfl) (fun hG => Val.move (tm rfl)) rfl ?_
  refine WL.g (Grd.t rfl rfl rfl) (fun hG => Val.add (Ev.opt rfl hG) Ev.const (IntWalk.i64_in _ (by omega))) rfl ?_
  refine WL.g (Grd.t rfl rfl rfl) (fun hG => Val.ixB Tryd.underlying9 (Ev.opt rfl hG) (Ev.opt rfl hG) (by try simp only [td] at hG; omega) (by try simp only [td] at hG; omega)) rfl ?_
  refine WL.g (Grd.t rfl rfl rfl) (fun hG => Val.eql (Ev.opt rfl hG) Ev.const) rfl ?_
  refine WL.v (Val.and (tm rfl) (fun hb => Ev.opt rfl hb)) rfl ?_
  refine mv rfl rfl ?_
  refine WL.g (Grd.t rfl rfl rfl) (fun hG => Val.move (tm rfl)) rfl ?_
  refine WL.g (Grd.t rfl rfl rfl) (fun hG => Val.move (tm rfl)) rfl ?_
  refine WL.g (Grd.t rfl rfl rfl) (fun hG => Val.add (Ev.opt rfl hG) Ev.const (IntWalk.i64_in _ (by omega))) rfl ?_
  refine WL.g (Grd.t rfl rfl rfl) (fun hG => Val.ixB Tryd.underlying9 (Ev.opt rfl hG) (Ev.opt rfl hG) (by try simp only [td] at hG; omega) (by try simp only [td] at hG; omega)) rfl ?_
  refine WL.gcall (Grd.t rfl rfl rfl) ca102 (fun hG => (evc (Ev.opt rfl hG) evn)) (lo1 lo0) rfl (fun hG => c_number W0 N _) ?_
  refine WL.g (Grd.t rfl rfl rfl) (fun hG => Val.geq (Ev.opt rfl hG) Ev.const) rfl ?_
  refine WL.v (Val.and (tm rfl) (fun hb => Ev.opt rfl hb)) rfl ?_
  refine mv rfl rfl ?_
  refine WL.g (Grd.t rfl rfl rfl) (fun hG => Val.move (tm rfl)) rfl ?_
  refine WL.g (Grd.t rfl rfl rfl) (fun hG => Val.move (tm rfl)) rfl ?_
  refine WL.g (Grd.t rfl rfl rfl) (fun hG => Val.add (Ev.opt rfl hG) Ev.const (IntWalk.i64_in _ (by omega))) rfl ?_
  refine WL.g (Grd.t rfl rfl rfl) (fun hG => Val.ixB Tryd.underlying9 (Ev.opt rfl hG) (Ev.opt rfl hG) (by try simp only [td] at hG; omega) (by try simp only [td] at hG; omega)) rfl ?_
  refine WL.gcall (Grd.t rfl rfl rfl) ca102 (fun hG => (evc (Ev.opt rfl hG) evn)) (lo1 lo0) rfl (fun hG => c_number W0 N _) ?_
  refine WL.g (Grd.t rfl rfl rfl) (fun hG => Val.geq (Ev.opt rfl hG) Ev.const) rfl ?_
  refine WL.v (Val.and (tm rfl) (fun hb => Ev.opt rfl hb)) rfl ?_
  refine WL.norm 82 [(0, _), (1, _), (68, _)] [] rfl ⟨rfl, rfl, rfl, trivial⟩ rfl rfl ?_
  refine wn ?_
  refine W.condP rfl (fun hc3 => ?_) (fun hc3 => ?_)
  · try simp only [td] at hc3
    refine W.seq ?_
    refine W.drawE (fun _ => ([], [])) rfl (by kernel_rfl) (bl rfl) ?_
    refine LexE.val rfl rfl rfl (fun h' ha => Val.move (tm rfl)) ?_
    refine LexE.val rfl rfl rfl (fun h' ha => Val.move (tm rfl)) ?_
    refine LexE.val rfl rfl rfl (fun h' ha => Val.add (tm rfl) Ev.const (IntWalk.i64_in _ (by omega))) ?_
    refine LexE.val rfl rfl rfl (fun h' ha => Val.ixB Tryd.underlying9 (tm rfl) (tm rfl) (by omega) (by omega)) ?_
    refine LexE.call ca102 (fun h' ha => (evc (tm rfl) evn)) (lo1 lo0) rfl (c_number W0 N _) rfl ?_
    refine LexE.val rfl rfl rfl (fun h' ha => Val.mul Ev.const (tm rfl) (IntWalk.i64_in _ (by have h1 := (numF_ok (gB s (at_ + 2)).toNat); have h2 := (numF_ok (gB s (at_ + 3)).toNat); omega))) ?_
    refine LexE.val rfl rfl rfl (fun h' ha => Val.move (tm rfl)) ?_
    refine LexE.val rfl rfl rfl (fun h' ha => Val.move (tm rfl)) ?_
    refine LexE.val rfl rfl rfl (fun h' ha => Val.add (tm rfl) Ev.const (IntWalk.i64_in _ (by omega))) ?_
    refine LexE.val rfl rfl rfl (fun h' ha => Val.ixB Tryd.underlying9 (tm rfl) (tm rfl) (by omega) (by omega)) ?_
    refine LexE.call ca102 (fun h' ha => (evc (tm rfl) evn)) (lo1 lo0) rfl (c_number W0 N _) rfl ?_
    refine LexE.val rfl rfl rfl (fun h' ha => Val.add (tm rfl) (tm rfl) (IntWalk.i64_in _ (by have h1 := (numF_ok (gB s (at_ + 2)).toNat); have h2 := (numF_ok (gB s (at_ + 3)).toNat); omega))) ?_
    refine LexE.val rfl rfl rfl (fun h' ha => Val.convInt Tryd.underlying3 Tryd.underlying5 (tm rfl) (IntWalk.u8_in _ (by have h1 := (numF_ok (gB s (at_ + 2)).toNat); have h2 := (numF_ok (gB s (at_ + 3)).toNat); omega))) ?_
    refine LexE.val rfl rfl rfl (fun h' ha => Val.assign (tm rfl)) ?_
    refine LexE.val rfl rfl rfl (fun h' ha => Val.assign Ev.const) ?_
    refine LexE.nil (nm ?_)
    refine W.norm 82 [(4, _), (5, _)] [] rfl ⟨rfl, rfl, trivial⟩ rfl rfl ?_
    refine W.ret (rt1 ?_)
    exact Ret.of (.inr rfl) rfl (res2 rfl rfl rfl) (Fewer.nil _) (.inr trivial) (fun id h => absurd h (Nat.not_lt_zero _)) (.same rfl) ⟨rfl, _, 4, rfl, by have h1 := (numF_ok (gB s (at_ + 2)).toNat); have h2 := (numF_ok (gB s (at_ + 3)).toNat); omega, by omega, by omega, fun _ => by omega⟩
  try simp only [td] at hc3
  refine W.skip (nm ?_)
  refine sr ?_
  refine WL.v (Val.assign Ev.const) rfl ?_
  refine WL.v (Val.assign Ev.const) rfl ?_
  refine WL.norm 82 [(4, _), (5, _)] [] rfl ⟨rfl, rfl, trivial⟩ rfl rfl ?_
  refine wn ?_
  refine W.ret ?_
  exact Ret.of (.inr rfl) rfl (res2 rfl rfl rfl) (Fewer.nil _) (.inr trivial) (fun id h => absurd h (Nat.not_lt_zero _)) (.same rfl) ⟨rfl, 0, 0, rfl, by omega, by omega, by omega, fun h => by omega⟩
-- enthymemeref04.rangeAt
set_option maxHeartbeats 1000000 in
theorem c_rangeAt (W0 : World) (N : Nat) (s : ByteArray) (hs : s.size ≤ 100000) (at_ : Int) (h0 : 0 ≤ at_) (h1 : at_ < s.size) : AC (En W0 N) 92 [.s s, .i at_] [] (fun r h => h = [] ∧ ∃ x n, r = .tup [rxE x, .i n] ∧ RangeOk x ∧ 0 ≤ n ∧ (0 < n → at_ + n ≤ s.size)) := by
  refine AC.enter Tryd.func92 rfl Tryd.ntmps92 (bl rfl) fun X => ?_
  refine sr ?_
  refine WL.stp rfl (Stp.alloc zz98 rfl rfl) ?_
  refine WL.v (Val.assign Ev.const) rfl ?_
  refine WL.norm 95 [(0, _), (1, _), (4, _)] [some ⟨_, _, [[_, _, _, _]]⟩] rfl ⟨rfl, rfl, rfl, trivial⟩ rfl rfl ?_
  refine wn ?_
  refine sr ?_
  refine mv rfl rfl ?_
  refine mv rfl rfl ?_
  refine WL.callV ca99 (evc (tm rfl) (evc (tm rfl) evn)) (lo1 (lo1 lo0)) rfl (c_byteAt W0 N _ hs _ (by omega) (by omega)) ?_
  rintro _ ⟨c_, n_, rfl, hc_, hn_0, hn_1, hn_2⟩
  refine mv rfl rfl ?_
  refine WL.v (Val.extract (tm rfl) rfl) rfl ?_
  refine WL.v (Val.extract (tm rfl) rfl) rfl ?_
  refine asg rfl rfl ?_
  refine asg rfl rfl ?_
  refine WL.norm 95 [(0, _), (1, _), (4, _), (6, _), (7, _)] [some ⟨_, _, [[_, _, _, _]]⟩] rfl ⟨rfl, rfl, rfl, rfl, rfl, trivial⟩ rfl rfl ?_
  refine wn ?_
  refine W.seq ?_
  refine sr ?_
  refine mv rfl rfl ?_
  refine WL.v (Val.gtr (tm rfl) Ev.const) rfl ?_
  refine WL.norm 95 [(0, _), (1, _), (4, _), (6, _), (7, _), (21, _)] [some ⟨_, _, [[_, _, _, _]]⟩] rfl ⟨rfl, rfl, rfl, rfl, rfl, rfl, trivial⟩ rfl rfl ?_
  refine wn ?_
  refine W.condP rfl (fun hc2 => ?_) (fun hc2 => ?_)
  · try simp only [td] at hc2
    refine sr ?_
    refine mv rfl rfl ?_
    refine mv rfl rfl ?_
    refine WL.v (Val.le (Val.build (vs := [(0, _), (1, _), (2, _)]) Tryd.underlying98 zz98 rfl rfl pl98 rfl ⟨Ev.const, rfl, rfl, rfl, ⟨(tm rfl), rfl, rfl, rfl, ⟨(tm rfl), rfl, rfl, rfl, trivial⟩⟩⟩) (Le.agg (ys := [_, _, _, .f (.lst 4 [])]) (LeL.cons (Le.refl _) (LeL.cons (Le.refl _) (LeL.cons (Le.refl _) (LeL.cons Le.nil LeL.nil)))))) rfl ?_
    refine mv rfl rfl ?_
    refine WL.stp rfl (Stp.st (tm rfl) (tm rfl) zs98 rfl rfl rfl rfl rfl rfl rfl rfl) ?_
    refine asg rfl rfl ?_
    refine WL.norm 95 [(4, _), (5, _)] [some ⟨_, _, [[_, _, _, _]]⟩] rfl ⟨rfl, rfl, trivial⟩ rfl rfl ?_
    refine wn ?_
    refine W.ret (rt1 ?_)
    exact Ret.of (.inr rfl) rfl (resCell2 rfl Tryd.underlying98 rfl zs98 rfl rfl rfl rfl rfl rfl rfl) (Fewer.nil _) (.inr trivial) (fun id h => absurd h (Nat.not_lt_zero _)) (.same rfl) ⟨rfl, .mk 2 c_ c_ [], n_, rfl, .inr ⟨_, _, rfl, hc_, hc_⟩, by omega, fun h => hn_2 h⟩
  try simp only [td] at hc2
  refine W.skip (nm ?_)
  refine W.seq ?_
  refine sr ?_
  refine mv rfl rfl ?_
  refine mv rfl rfl ?_
  refine WL.v (Val.ixB Tryd.underlying9 (tm rfl) (tm rfl) (by omega) (by omega)) rfl ?_
  refine WL.v (Val.neq (tm rfl) Ev.const) rfl ?_
  refine WL.norm 95 [(0, _), (1, _), (4, _), (29, _)] [some ⟨_, _, [[_, _, _, _]]⟩] rfl ⟨rfl, rfl, rfl, rfl, trivial⟩ rfl rfl ?_
  refine wn ?_
  refine W.condP rfl (fun hc4 => ?_) (fun hc4 => ?_)
  · try simp only [td] at hc4
    refine sr ?_
    refine WL.v (Val.le (Val.build (vs := []) Tryd.underlying98 zz98 rfl rfl pl98 rfl trivial) (Le.agg (ys := [_, _, _, .f (.lst 4 [])]) (LeL.cons (Le.refl _) (LeL.cons (Le.refl _) (LeL.cons (Le.refl _) (LeL.cons Le.nil LeL.nil)))))) rfl ?_
    refine WL.stp rfl (Stp.st (tm rfl) (tm rfl) zs98 rfl rfl rfl rfl rfl rfl rfl rfl) ?_
    refine WL.v (Val.assign Ev.const) rfl ?_
    refine WL.norm 95 [(4, _), (5, _)] [some ⟨_, _, [[_, _, _, _]]⟩] rfl ⟨rfl, rfl, trivial⟩ rfl rfl ?_
    refine wn ?_
    refine W.ret (rt1 ?_)
    exact Ret.of (.inr rfl) rfl (resCell2 rfl Tryd.underlying98 rfl zs98 rfl rfl rfl rfl rfl rfl rfl) (Fewer.nil _) (.inr trivial) (fun id h => absurd h (Nat.not_lt_zero _)) (.same rfl) ⟨rfl, .mk 0 0 0 [], 0, rfl, .inl rfl, by omega, fun h => by omega⟩
  try simp only [td] at hc4
  refine W.skip (nm ?_)
  refine sr ?_
  refine mv rfl rfl ?_
  refine mv rfl rfl ?_
  refine WL.v (Val.add (tm rfl) Ev.const (IntWalk.i64_in _ (by omega))) rfl ?_
  refine WL.callV ca99 (evc (tm rfl) (evc (tm rfl) evn)) (lo1 (lo1 lo0)) rfl (c_byteAt W0 N _ hs _ (by omega) (by omega)) ?_
  rintro _ ⟨lo_, k_, rfl, hlo_, hk_0, hk_1, hk_2⟩
  refine mv rfl rfl ?_
  refine WL.v (Val.extract (tm rfl) rfl) rfl ?_
  refine WL.v (Val.extract (tm rfl) rfl) rfl ?_
  refine asg rfl rfl ?_
  refine asg rfl rfl ?_
  refine WL.norm 95 [(0, _), (1, _), (4, _), (8, _), (9, _)] [some ⟨_, _, [[_, _, _, _]]⟩] rfl ⟨rfl, rfl, rfl, rfl, rfl, trivial⟩ rfl rfl ?_
  refine wn ?_
  refine sr ?_
  refine mv rfl rfl ?_
  refine WL.v (Val.add (tm rfl) Ev.const (IntWalk.i64_in _ (by omega))) rfl ?_
  refine mv rfl rfl ?_
  refine WL.v (Val.add (tm rfl) (tm rfl) (IntWalk.i64_in _ (by omega))) rfl ?_
  refine asg rfl rfl ?_
  refine WL.norm 95 [(0, _), (1, _), (4, _), (8, _), (9, _), (10, _)] [some ⟨_, _, [[_, _, _, _]]⟩] rfl ⟨rfl, rfl, rfl, rfl, rfl, rfl, trivial⟩ rfl rfl ?_
  refine wn ?_
  refine W.seq ?_
  refine sr ?_
  refine mv rfl rfl ?_
  refine WL.v (Val.eql (tm rfl) Ev.const) rfl ?_
  refine mv rfl rfl ?_
  refine WL.g (Grd.f rfl rfl rfl) (fun hG => Val.move (tm rfl)) rfl ?_
  refine WL.g (Grd.f rfl rfl rfl) (fun hG => Val.move (tm rfl)) rfl ?_
  refine WL.g (Grd.f rfl rfl rfl) (fun hG => Val.lenS Tryd.underlying9 (Ev.opt rfl hG)) rfl ?_
  refine WL.g (Grd.f rfl rfl rfl) (fun hG => Val.geq (Ev.opt rfl hG) (Ev.opt rfl hG)) rfl ?_
  refine WL.v (Val.or (tm rfl) (fun hb => Ev.opt rfl (nt hb))) rfl ?_
  refine mv rfl rfl ?_
  refine WL.g (Grd.f rfl rfl rfl) (fun hG => Val.move (tm rfl)) rfl ?_
  refine WL.g (Grd.f rfl rfl rfl) (fun hG => Val.move (tm rfl)) rfl ?_
  refine WL.g (Grd.f rfl rfl rfl) (fun hG => Val.ixB Tryd.underlying9 (Ev.opt rfl hG) (Ev.opt rfl hG) (by try simp only [td] at hG; omega) (by try simp only [td] at hG; omega)) rfl ?_
  refine WL.g (Grd.f rfl rfl rfl) (fun hG => Val.neq (Ev.opt rfl hG) Ev.const) rfl ?_
  refine WL.v (Val.or (tm rfl) (fun hb => Ev.opt rfl (nt hb))) rfl ?_
  refine WL.norm 95 [(0, _), (1, _), (4, _), (8, _), (10, _), (55, _)] [some ⟨_, _, [[_, _, _, _]]⟩] rfl ⟨rfl, rfl, rfl, rfl, rfl, rfl, trivial⟩ rfl rfl ?_
  refine wn ?_
  refine W.condP rfl (fun hc8 => ?_) (fun hc8 => ?_)
  · try simp only [td] at hc8
    refine sr ?_
    refine WL.v (Val.le (Val.build (vs := []) Tryd.underlying98 zz98 rfl rfl pl98 rfl trivial) (Le.agg (ys := [_, _, _, .f (.lst 4 [])]) (LeL.cons (Le.refl _) (LeL.cons (Le.refl _) (LeL.cons (Le.refl _) (LeL.cons Le.nil LeL.nil)))))) rfl ?_
    refine WL.stp rfl (Stp.st (tm rfl) (tm rfl) zs98 rfl rfl rfl rfl rfl rfl rfl rfl) ?_
    refine WL.v (Val.assign Ev.const) rfl ?_
    refine WL.norm 95 [(4, _), (5, _)] [some ⟨_, _, [[_, _, _, _]]⟩] rfl ⟨rfl, rfl, trivial⟩ rfl rfl ?_
    refine wn ?_
    refine W.ret (rt1 ?_)
    exact Ret.of (.inr rfl) rfl (resCell2 rfl Tryd.underlying98 rfl zs98 rfl rfl rfl rfl rfl rfl rfl) (Fewer.nil _) (.inr trivial) (fun id h => absurd h (Nat.not_lt_zero _)) (.same rfl) ⟨rfl, .mk 0 0 0 [], 0, rfl, .inl rfl, by omega, fun h => by omega⟩
  try simp only [td] at hc8
  refine W.skip (nm ?_)
  refine sr ?_
  refine mv rfl rfl ?_
  refine mv rfl rfl ?_
  refine WL.v (Val.add (tm rfl) Ev.const (IntWalk.i64_in _ (by omega))) rfl ?_
  refine WL.callV ca99 (evc (tm rfl) (evc (tm rfl) evn)) (lo1 (lo1 lo0)) rfl (c_byteAt W0 N _ hs _ (by omega) (by omega)) ?_
  rintro _ ⟨hi_, m_, rfl, hhi_, hm_0, hm_1, hm_2⟩
  refine mv rfl rfl ?_
  refine WL.v (Val.extract (tm rfl) rfl) rfl ?_
  refine WL.v (Val.extract (tm rfl) rfl) rfl ?_
  refine asg rfl rfl ?_
  refine asg rfl rfl ?_
  refine WL.norm 95 [(0, _), (1, _), (4, _), (8, _), (10, _), (11, _), (12, _)] [some ⟨_, _, [[_, _, _, _]]⟩] rfl ⟨rfl, rfl, rfl, rfl, rfl, rfl, rfl, trivial⟩ rfl rfl ?_
  refine wn ?_
  refine sr ?_
  refine mv rfl rfl ?_
  refine WL.v (Val.add (tm rfl) Ev.const (IntWalk.i64_in _ (by omega))) rfl ?_
  refine mv rfl rfl ?_
  refine WL.v (Val.add (tm rfl) (tm rfl) (IntWalk.i64_in _ (by omega))) rfl ?_
  refine asg rfl rfl ?_
  refine WL.norm 95 [(0, _), (1, _), (4, _), (8, _), (11, _), (12, _), (13, _)] [some ⟨_, _, [[_, _, _, _]]⟩] rfl ⟨rfl, rfl, rfl, rfl, rfl, rfl, rfl, trivial⟩ rfl rfl ?_
  refine wn ?_
  refine W.seq ?_
  refine sr ?_
  refine mv rfl rfl ?_
  refine WL.v (Val.eql (tm rfl) Ev.const) rfl ?_
  refine mv rfl rfl ?_
  refine WL.g (Grd.f rfl rfl rfl) (fun hG => Val.move (tm rfl)) rfl ?_
  refine WL.g (Grd.f rfl rfl rfl) (fun hG => Val.move (tm rfl)) rfl ?_
  refine WL.g (Grd.f rfl rfl rfl) (fun hG => Val.lenS Tryd.underlying9 (Ev.opt rfl hG)) rfl ?_
  refine WL.g (Grd.f rfl rfl rfl) (fun hG => Val.geq (Ev.opt rfl hG) (Ev.opt rfl hG)) rfl ?_
  refine WL.v (Val.or (tm rfl) (fun hb => Ev.opt rfl (nt hb))) rfl ?_
  refine mv rfl rfl ?_
  refine WL.g (Grd.f rfl rfl rfl) (fun hG => Val.move (tm rfl)) rfl ?_
  refine WL.g (Grd.f rfl rfl rfl) (fun hG => Val.move (tm rfl)) rfl ?_
  refine WL.g (Grd.f rfl rfl rfl) (fun hG => Val.ixB Tryd.underlying9 (Ev.opt rfl hG) (Ev.opt rfl hG) (by try simp only [td] at hG; omega) (by try simp only [td] at hG; omega)) rfl ?_
  refine WL.g (Grd.f rfl rfl rfl) (fun hG => Val.neq (Ev.opt rfl hG) Ev.const) rfl ?_
  refine WL.v (Val.or (tm rfl) (fun hb => Ev.opt rfl (nt hb))) rfl ?_
  refine mv rfl rfl ?_
  refine WL.g (Grd.f rfl rfl rfl) (fun hG => Val.move (tm rfl)) rfl ?_
  refine WL.g (Grd.f rfl rfl rfl) (fun hG => Val.move (tm rfl)) rfl ?_
  refine WL.g (Grd.f rfl rfl rfl) (fun hG => Val.gtr (Ev.opt rfl hG) (Ev.opt rfl hG)) rfl ?_
  refine WL.v (Val.or (tm rfl) (fun hb => Ev.opt rfl (nt hb))) rfl ?_
  refine WL.norm 95 [(1, _), (4, _), (8, _), (11, _), (13, _), (86, _)] [some ⟨_, _, [[_, _, _, _]]⟩] rfl ⟨rfl, rfl, rfl, rfl, rfl, rfl, trivial⟩ rfl rfl ?_
  refine wn ?_
  refine W.condP rfl (fun hc12 => ?_) (fun hc12 => ?_)
  · try simp only [td] at hc12
    refine sr ?_
    refine WL.v (Val.le (Val.build (vs := []) Tryd.underlying98 zz98 rfl rfl pl98 rfl trivial) (Le.agg (ys := [_, _, _, .f (.lst 4 [])]) (LeL.cons (Le.refl _) (LeL.cons (Le.refl _) (LeL.cons (Le.refl _) (LeL.cons Le.nil LeL.nil)))))) rfl ?_
    refine WL.stp rfl (Stp.st (tm rfl) (tm rfl) zs98 rfl rfl rfl rfl rfl rfl rfl rfl) ?_
    refine WL.v (Val.assign Ev.const) rfl ?_
    refine WL.norm 95 [(4, _), (5, _)] [some ⟨_, _, [[_, _, _, _]]⟩] rfl ⟨rfl, rfl, trivial⟩ rfl rfl ?_
    refine wn ?_
    refine W.ret (rt1 ?_)
    exact Ret.of (.inr rfl) rfl (resCell2 rfl Tryd.underlying98 rfl zs98 rfl rfl rfl rfl rfl rfl rfl) (Fewer.nil _) (.inr trivial) (fun id h => absurd h (Nat.not_lt_zero _)) (.same rfl) ⟨rfl, .mk 0 0 0 [], 0, rfl, .inl rfl, by omega, fun h => by omega⟩
  try simp only [td] at hc12
  refine W.skip (nm ?_)
  refine sr ?_
  refine mv rfl rfl ?_
  refine mv rfl rfl ?_
  refine WL.v (Val.le (Val.build (vs := [(0, _), (1, _), (2, _)]) Tryd.underlying98 zz98 rfl rfl pl98 rfl ⟨Ev.const, rfl, rfl, rfl, ⟨(tm rfl), rfl, rfl, rfl, ⟨(tm rfl), rfl, rfl, rfl, trivial⟩⟩⟩) (Le.agg (ys := [_, _, _, .f (.lst 4 [])]) (LeL.cons (Le.refl _) (LeL.cons (Le.refl _) (LeL.cons (Le.refl _) (LeL.cons Le.nil LeL.nil)))))) rfl ?_
  refine mv rfl rfl ?_
  refine WL.v (Val.add (tm rfl) Ev.const (IntWalk.i64_in _ (by omega))) rfl ?_
  refine mv rfl rfl ?_
  refine WL.v (Val.sub (tm rfl) (tm rfl) (IntWalk.i64_in _ (by omega))) rfl ?_
  refine WL.stp rfl (Stp.st (tm rfl) (tm rfl) zs98 rfl rfl rfl rfl rfl rfl rfl rfl) ?_
  refine asg rfl rfl ?_
  refine WL.norm 95 [(4, _), (5, _)] [some ⟨_, _, [[_, _, _, _]]⟩] rfl ⟨rfl, rfl, trivial⟩ rfl rfl ?_
  refine wn ?_
  refine W.ret ?_
  exact Ret.of (.inr rfl) rfl (resCell2 rfl Tryd.underlying98 rfl zs98 rfl rfl rfl rfl rfl rfl rfl) (Fewer.nil _) (.inr trivial) (fun id h => absurd h (Nat.not_lt_zero _)) (.same rfl) ⟨rfl, .mk 2 lo_ hi_ [], _, rfl, .inr ⟨_, _, rfl, hlo_, hhi_⟩, by omega, fun h => by omega⟩
end Go.Aw
namespace Go.Aw
open Go.RowKit Go.Proofs

/-- The tokens of a text: an empty one at the end. -/
structure TOk (ts : List Tk) : Prop where
  pos : 1 ≤ ts.length
  len : ts.length ≤ 5000
  all : ∀ t, t ∈ ts → TkOk t
  last : (gA ts ((ts.length : Int) - 1)).text = ByteArray.empty ∧ (gA ts ((ts.length : Int) - 1)).r = .mk 0 0 0 []
theorem TOk.snoc {tl : List Tk} {p : Int} (h : ∀ t, t ∈ tl → TkOk t) (hl : tl.length ≤ 4999) : TOk (tl ++ [⟨ByteArray.empty, p, .mk 0 0 0 []⟩]) := by
  have e : gA (tl ++ [(⟨ByteArray.empty, p, .mk 0 0 0 []⟩ : Tk)]) (((tl ++ [(⟨ByteArray.empty, p, .mk 0 0 0 []⟩ : Tk)]).length : Int) - 1) = ⟨ByteArray.empty, p, .mk 0 0 0 []⟩ := by
    have h1 := gA_natX (l := tl ++ [(⟨ByteArray.empty, p, .mk 0 0 0 []⟩ : Tk)]) (j := tl.length) (by simp)
    rw [List.getElem?_append_right (Nat.le_refl _)] at h1
    simp at h1
    rw [show (((tl ++ [(⟨ByteArray.empty, p, .mk 0 0 0 []⟩ : Tk)]).length : Int) - 1) = ((tl.length : Nat) : Int) from by simp]
    exact h1.symm
  refine ⟨by simp, by simp; omega, fun t ht => ?_, by rw [e]; exact ⟨rfl, rfl⟩⟩
  rcases List.mem_append.1 ht with ht | ht
  · exact h t ht
  · rw [List.mem_singleton.1 ht]; exact ⟨Nat.zero_le _, .inl rfl⟩
theorem all_snoc {tl : List Tk} {t : Tk} (h : ∀ t, t ∈ tl → TkOk t) (ht : TkOk t) : ∀ x, x ∈ tl ++ [t] → TkOk x := fun x hx => by
  rcases List.mem_append.1 hx with hx | hx
  · exact h x hx
  · rw [List.mem_singleton.1 hx]; exact ht
theorem extract_size (s : ByteArray) (a b : Nat) : (s.extract a b).size ≤ s.size := by rw [ByteArray.size_extract]; omega

theorem Acc.some' {α : Type} {enc : α → List FV} {l : List α} {j s : Nat} {v : AV} {o : Option Row} (ha : Acc j s (fz (l.map enc)) v o) (hl : ¬ l.length = 0) : ∃ gen, v = .row j gen s 0 l.length ∧ o = Option.some ⟨gen, s, fz (l.map enc)⟩ := by
  rcases ha with ⟨he, _, _⟩ | ⟨gen, hv, ho⟩
  · exfalso; apply hl; cases l with | nil => rfl | cons => simp [fz] at he
  · exact ⟨gen, by rw [hv]; simp [fz], ho⟩

-- enthymemeref04.Tokens
set_option maxHeartbeats 1000000 in
theorem c_Tokens (W0 : World) (N : Nat) (s : ByteArray) (hs4 : s.size ≤ 4096) : AC (En W0 N) 77 [.s s] [] (fun r h => h = [] ∧ ∃ ts, r = .f (.tks ts) ∧ TOk ts) := by
  have hs : s.size ≤ 100000 := by omega
  refine AC.enter Tryd.func77 rfl Tryd.ntmps77 (bl rfl) fun X => ?_
  refine sr ?_
  refine WL.v (Val.assign Ev.const) rfl ?_
  refine WL.norm 82 [(0, _)] [] rfl ⟨rfl, trivial⟩ rfl rfl ?_
  refine wn ?_
  refine sr ?_
  refine WL.v (Val.assign Ev.const) rfl ?_
  refine WL.norm 82 [(0, _), (3, _)] [] rfl ⟨rfl, rfl, trivial⟩ rfl rfl ?_
  refine wn ?_
  refine W.seq ?_
  refine sr ?_
  refine WL.v (Val.assign Ev.const) rfl ?_
  refine WL.norm 82 [(0, _), (3, _), (4, _)] [] rfl ⟨rfl, rfl, rfl, trivial⟩ rfl rfl ?_
  refine wn ?_
  refine W.reserve ?_
  refine W.norm 82 [(0, _), (3, _), (4, _)] [_] rfl ⟨rfl, rfl, rfl, trivial⟩ rfl rfl ?_
  refine W.block (W.loop (fun nn S => ∃ (i : Int) (tl : List Tk) (v : AV) (o : Option Row), S = ⟨82, [(0, .s s), (3, v), (4, .i i)], [o], []⟩ ∧ nn = ((s.size - i).toNat) ∧ (0 ≤ i) ∧ (i ≤ s.size) ∧ (∀ t, t ∈ tl → TkOk t) ∧ (tl.length ≤ i) ∧ (Acc 0 6 (fz (tl.map Tk.cells)) v o) ∧ (tl = [] → v = .nil ∧ o = none)) ⟨0, [], _, _, rfl, rfl, by omega, by omega, fun t ht => by simp at ht, by simp, Acc.zero, fun _ => ⟨rfl, rfl⟩⟩ ?_)
  rintro nn S ⟨i, tl, v, o, rfl, rfl, hi0, hi1, htl, hlen, ha, hnil⟩
  refine W.seq ?_
  refine sr ?_
  refine mv rfl rfl ?_
  refine mv rfl rfl ?_
  refine WL.v (Val.lenS Tryd.underlying9 (tm rfl)) rfl ?_
  refine WL.v (Val.lss (tm rfl) (tm rfl)) rfl ?_
  refine WL.norm 82 [(0, _), (3, _), (4, _), (10, _)] [_] rfl ⟨rfl, rfl, rfl, rfl, trivial⟩ rfl rfl ?_
  refine wn ?_
  refine W.condP rfl (fun hc3 => ?_) (fun hc3 => ?_)
  · try simp only [td] at hc3
    refine W.skip (nm ?_)
    refine W.block ?_
    refine W.seq ?_
    refine sr ?_
    refine mv rfl rfl ?_
    refine mv rfl rfl ?_
    refine WL.v (Val.ixB Tryd.underlying9 (tm rfl) (tm rfl) (by omega) (by omega)) rfl ?_
    refine WL.v (Val.eql (tm rfl) Ev.const) rfl ?_
    refine WL.norm 82 [(0, _), (3, _), (4, _), (14, _)] [_] rfl ⟨rfl, rfl, rfl, rfl, trivial⟩ rfl rfl ?_
    refine wn ?_
    refine W.condP rfl (fun hc4 => ?_) (fun hc4 => ?_)
    · try simp only [td] at hc4
      refine sr ?_
      refine mv rfl rfl ?_
      refine WL.v (Val.add (tm rfl) Ev.const (IntWalk.i64_in _ (by omega))) rfl ?_
      refine asg rfl rfl ?_
      refine WL.norm 82 [(0, _), (3, _), (4, _)] [_] rfl ⟨rfl, rfl, rfl, trivial⟩ rfl rfl ?_
      refine wn ?_
      refine W.norm 82 [(0, _), (3, _), (4, _)] [_] rfl ⟨rfl, rfl, rfl, trivial⟩ rfl rfl ?_
      refine W.exit (ex1 (ex2 (nm ?_)))
      exact ⟨_, by omega, _, tl, _, _, rfl, rfl, by omega, by omega, htl, by omega, ha, hnil⟩
    try simp only [td] at hc4
    refine W.skip (nm ?_)
    refine sr ?_
    refine mv rfl rfl ?_
    refine mv rfl rfl ?_
    refine WL.callV ca92 (evc (tm rfl) (evc (tm rfl) evn)) (lo1 (lo1 lo0)) rfl (c_rangeAt W0 N _ hs _ (by omega) (by omega)) ?_
    rintro _ ⟨x_, n_, rfl, hx_, hn_0, hn_1⟩
    refine mv rfl rfl ?_
    refine WL.v (Val.extract (tm rfl) rfl) rfl ?_
    refine WL.v (Val.extract (tm rfl) rfl) rfl ?_
    refine WL.stp rfl (Stp.alloc zz98 rfl rfl) ?_
    refine WL.stp rfl (Stp.st (tm rfl) (tm rfl) zs98 rfl rfl rfl rfl rfl rfl rfl rfl) ?_
    refine asg rfl rfl ?_
    refine WL.norm 82 [(0, _), (3, _), (4, _), (5, _), (6, _)] [_, some ⟨_, _, [[_, _, _, _]]⟩] rfl ⟨rfl, rfl, rfl, rfl, rfl, trivial⟩ rfl rfl ?_
    refine wn ?_
    refine W.seq ?_
    refine sr ?_
    refine mv rfl rfl ?_
    refine WL.v (Val.eql (tm rfl) Ev.const) rfl ?_
    refine WL.norm 82 [(0, _), (3, _), (4, _), (5, _), (6, _), (24, _)] [_, some ⟨_, _, [[_, _, _, _]]⟩] rfl ⟨rfl, rfl, rfl, rfl, rfl, rfl, trivial⟩ rfl rfl ?_
    refine wn ?_
    refine W.condP rfl (fun hc7 => ?_) (fun hc7 => ?_)
    · try simp only [td] at hc7
      refine sr ?_
      refine WL.v (Val.assign Ev.const) rfl ?_
      refine WL.norm 82 [(0, _), (3, _), (4, _), (5, _), (6, _)] [_, some ⟨_, _, [[_, _, _, _]]⟩] rfl ⟨rfl, rfl, rfl, rfl, rfl, trivial⟩ rfl rfl ?_
      refine wn ?_
      refine W.norm 82 [(0, _), (3, _), (4, _), (5, _), (6, _)] [_, some ⟨_, _, [[_, _, _, _]]⟩] rfl ⟨rfl, rfl, rfl, rfl, rfl, trivial⟩ rfl rfl ?_
      refine W.block (W.loop (fun nn S => ∃ (n : Int), S = ⟨82, [(0, .s s), (3, v), (4, .i i), (5, .ptr 1 0 4 0 0), (6, .i n)], [o, some ⟨0, 4, [[.i x_.kind, .c x_.lo, .c x_.hi, .f (.lst 4 (x_.kids.map Rx.cells))]]⟩], []⟩ ∧ nn = ((s.size - n).toNat) ∧ (1 ≤ n) ∧ (i + n ≤ s.size)) ⟨1, rfl, rfl, by omega, by omega⟩ ?_)
      rintro nn S ⟨n, rfl, rfl, hq0, hq1⟩
      refine W.seq ?_
      refine sr ?_
      refine mv rfl rfl ?_
      refine mv rfl rfl ?_
      refine WL.v (Val.ixB Tryd.underlying9 (tm rfl) (tm rfl) (by omega) (by omega)) rfl ?_
      refine WL.v (Val.geq (tm rfl) Ev.const) rfl ?_
      refine mv rfl rfl ?_
      refine WL.g (Grd.t rfl rfl rfl) (fun hG => Val.move (tm rfl)) rfl ?_
      refine WL.g (Grd.t rfl rfl rfl) (fun hG => Val.move (tm rfl)) rfl ?_
      refine WL.g (Grd.t rfl rfl rfl) (fun hG => Val.ixB Tryd.underlying9 (Ev.opt rfl hG) (Ev.opt rfl hG) (by try simp only [td] at hG; omega) (by try simp only [td] at hG; omega)) rfl ?_
      refine WL.g (Grd.t rfl rfl rfl) (fun hG => Val.leq (Ev.opt rfl hG) Ev.const) rfl ?_
      refine WL.v (Val.and (tm rfl) (fun hb => Ev.opt rfl hb)) rfl ?_
      refine mv rfl rfl ?_
      refine WL.g (Grd.t rfl rfl rfl) (fun hG => Val.move (tm rfl)) rfl ?_
      refine WL.g (Grd.t rfl rfl rfl) (fun hG => Val.move (tm rfl)) rfl ?_
      refine WL.g (Grd.t rfl rfl rfl) (fun hG => Val.add (Ev.opt rfl hG) (Ev.opt rfl hG) (IntWalk.i64_in _ (by omega))) rfl ?_
      refine WL.g (Grd.t rfl rfl rfl) (fun hG => Val.move (tm rfl)) rfl ?_
      refine WL.g (Grd.t rfl rfl rfl) (fun hG => Val.lenS Tryd.underlying9 (Ev.opt rfl hG)) rfl ?_
      refine WL.g (Grd.t rfl rfl rfl) (fun hG => Val.lss (Ev.opt rfl hG) (Ev.opt rfl hG)) rfl ?_
      refine WL.v (Val.and (tm rfl) (fun hb => Ev.opt rfl hb)) rfl ?_
      refine mv rfl rfl ?_
      refine WL.g (Grd.t rfl rfl rfl) (fun hG => Val.move (tm rfl)) rfl ?_
      refine WL.g (Grd.t rfl rfl rfl) (fun hG => Val.move (tm rfl)) rfl ?_
      refine WL.g (Grd.t rfl rfl rfl) (fun hG => Val.move (tm rfl)) rfl ?_
      refine WL.g (Grd.t rfl rfl rfl) (fun hG => Val.add (Ev.opt rfl hG) (Ev.opt rfl hG) (IntWalk.i64_in _ (by omega))) rfl ?_
      refine WL.g (Grd.t rfl rfl rfl) (fun hG => Val.ixB Tryd.underlying9 (Ev.opt rfl hG) (Ev.opt rfl hG) (by try simp only [td] at hG; omega) (by try simp only [td] at hG; omega)) rfl ?_
      refine WL.g (Grd.t rfl rfl rfl) (fun hG => Val.geq (Ev.opt rfl hG) Ev.const) rfl ?_
      refine WL.v (Val.and (tm rfl) (fun hb => Ev.opt rfl hb)) rfl ?_
      refine mv rfl rfl ?_
      refine WL.g (Grd.t rfl rfl rfl) (fun hG => Val.move (tm rfl)) rfl ?_
      refine WL.g (Grd.t rfl rfl rfl) (fun hG => Val.move (tm rfl)) rfl ?_
      refine WL.g (Grd.t rfl rfl rfl) (fun hG => Val.move (tm rfl)) rfl ?_
      refine WL.g (Grd.t rfl rfl rfl) (fun hG => Val.add (Ev.opt rfl hG) (Ev.opt rfl hG) (IntWalk.i64_in _ (by omega))) rfl ?_
      refine WL.g (Grd.t rfl rfl rfl) (fun hG => Val.ixB Tryd.underlying9 (Ev.opt rfl hG) (Ev.opt rfl hG) (by try simp only [td] at hG; omega) (by try simp only [td] at hG; omega)) rfl ?_
      refine WL.g (Grd.t rfl rfl rfl) (fun hG => Val.leq (Ev.opt rfl hG) Ev.const) rfl ?_
      refine WL.v (Val.and (tm rfl) (fun hb => Ev.opt rfl hb)) rfl ?_
      refine WL.norm 82 [(0, _), (3, _), (4, _), (5, _), (6, _), (58, _)] [_, some ⟨_, _, [[_, _, _, _]]⟩] rfl ⟨rfl, rfl, rfl, rfl, rfl, rfl, trivial⟩ rfl rfl ?_
      refine wn ?_
      refine W.condP rfl (fun hc9 => ?_) (fun hc9 => ?_)
      · try simp only [td] at hc9
        refine W.skip (nm ?_)
        refine W.block ?_
        refine W.region ?_
        refine mv rfl rfl ?_
        refine WL.v (Val.add (tm rfl) Ev.const (IntWalk.i64_in _ (by omega))) rfl ?_
        refine asg rfl rfl ?_
        refine WL.norm 82 [(0, _), (3, _), (4, _), (5, _), (6, _)] [_, some ⟨_, _, [[_, _, _, _]]⟩] rfl ⟨rfl, rfl, rfl, rfl, rfl, trivial⟩ rfl rfl ?_
        refine WL.nil (nb (nm ?_))
        exact ⟨_, by omega, n + 1, rfl, rfl, by omega, by omega⟩
      try simp only [td] at hc9
      refine W.exit (ex1 (ex1 (ex2 (nm ?_))))
      refine W.seq ?_
      by_cases hz : tl = []
      · subst hz
        obtain ⟨rfl, rfl⟩ := hnil rfl
        refine W.drawE (fun k => ([([], []), ([], []), ([], []), ([], []), ([], []), ([], []), ([], []), ([], []), ([1], []), ([], []), ([], []), ([0], [0]), ([], [])] : List (List Nat × List Nat)).getD k ([], [])) rfl (by kernel_rfl) (bl rfl) ?_
        refine LexE.val rfl rfl rfl (fun h' ha => Val.move (tm rfl)) ?_
        refine LexE.val rfl rfl rfl (fun h' ha => Val.move (tm rfl)) ?_
        refine LexE.val rfl rfl rfl (fun h' ha => Val.move (tm rfl)) ?_
        refine LexE.val rfl rfl rfl (fun h' ha => Val.move (tm rfl)) ?_
        refine LexE.val rfl rfl rfl (fun h' ha => Val.move (tm rfl)) ?_
        refine LexE.val rfl rfl rfl (fun h' ha => Val.add (tm rfl) (tm rfl) (IntWalk.i64_in _ (by omega))) ?_
        refine LexE.val rfl rfl rfl (fun h' ha => Val.sliceSI Tryd.underlying9 (tm rfl) ⟨_, (tm rfl)⟩ ⟨_, (tm rfl)⟩ (by omega) (by omega) (by omega)) ?_
        refine LexE.val rfl rfl rfl (fun h' ha => Val.move (tm rfl)) ?_
        refine LexE.val rfl rfl rfl (fun h' ha => Val.loadLiveAgg Tryd.underlying98 rfl zs98 (tm rfl) ((ha.at_ 1 (by decide)).trans rfl) rfl rfl rfl (bl rfl)) ?_
        refine LexE.val rfl rfl rfl (fun h' ha => Val.build (vs := [(0, _), (1, _), (2, _)]) Tryd.underlying127 zz127 rfl rfl pl127 rfl ⟨(tm rfl), rfl, rfl, rfl, ⟨(tm rfl), rfl, rfl, rfl, ⟨(tm rfl), rfl, rfl, rfl, trivial⟩⟩⟩) ?_
        refine LexE.stp (U := []) rfl rfl rfl rfl (fun h => by first | rfl | cases h) (fun h' ha m' => Stp.buildFrozen (xs := [_]) (fs := ([⟨_, i, x_⟩] : List Tk).map Tk.cells) Tryd.underlying121 zs127 zz127 rfl rfl (evc (tm rfl) evn) fitL (bl rfl) rfl rfl) ?_
        refine LexE.stp (U := [(0, _)]) rfl rfl rfl rfl (fun h => by first | rfl | cases h) (fun h' ha m' => Stp.appendPlant ap121_121 (tm rfl) ((ha.at_ 0 (by decide)).trans rfl) (ArgE.lst (enc := Tk.cells) (tm rfl) (by intro x; first | rfl | exact rxLen x)) (by simp [fz]) (by simp [fz]) rfl) ?_
        refine LexE.val rfl rfl rfl (fun h' ha => Val.assign (tm rfl)) ?_
        refine LexE.nil (nm ?_)
        refine W.norm 82 [(0, _), (3, _), (4, _), (6, _)] [some ⟨_, _, _⟩, some ⟨_, _, [[_, _, _, _]]⟩] rfl ⟨rfl, rfl, rfl, rfl, trivial⟩ rfl rfl ?_
        refine W.region ?_
        refine mv rfl rfl ?_
        refine mv rfl rfl ?_
        refine WL.v (Val.add (tm rfl) (tm rfl) (IntWalk.i64_in _ (by omega))) rfl ?_
        refine asg rfl rfl ?_
        refine WL.cut (env := [(0, _), (3, _), (4, _)]) (h' := [some ⟨_, _, _⟩]) (Fewer.pre _ rfl) (.inr (HLo.fz HLo.nil)) (fun id h => absurd h (Nat.not_lt_zero _)) ⟨⟨_, rfl, (.same rfl)⟩, ⟨_, rfl, (.same rfl)⟩, ⟨_, rfl, (.same rfl)⟩, trivial⟩ ?_
        refine WL.nil (nb (nm ?_))
        exact ⟨_, by omega, _, [⟨_, i, x_⟩], _, _, rfl, rfl, by omega, by omega, all_snoc (tl := []) (fun t ht => by simp at ht) ⟨Nat.le_trans (extract_size _ _ _) (by omega), hx_⟩, by simp only [List.length_cons, List.length_nil]; omega, Acc.row (by simp [fz]), fun h => by simp at h⟩
      obtain ⟨gen', rfl, rfl⟩ := Acc.some' ha (by intro h; exact hz (List.length_eq_zero_iff.1 h))
      refine W.drawE (fun k => ([([], []), ([], []), ([], []), ([], []), ([], []), ([], []), ([], []), ([], []), ([1], []), ([], []), ([], []), ([0], [0]), ([], [])] : List (List Nat × List Nat)).getD k ([], [])) rfl (by kernel_rfl) (bl rfl) ?_
      refine LexE.val rfl rfl rfl (fun h' ha => Val.move (tm rfl)) ?_
      refine LexE.val rfl rfl rfl (fun h' ha => Val.move (tm rfl)) ?_
      refine LexE.val rfl rfl rfl (fun h' ha => Val.move (tm rfl)) ?_
      refine LexE.val rfl rfl rfl (fun h' ha => Val.move (tm rfl)) ?_
      refine LexE.val rfl rfl rfl (fun h' ha => Val.move (tm rfl)) ?_
      refine LexE.val rfl rfl rfl (fun h' ha => Val.add (tm rfl) (tm rfl) (IntWalk.i64_in _ (by omega))) ?_
      refine LexE.val rfl rfl rfl (fun h' ha => Val.sliceSI Tryd.underlying9 (tm rfl) ⟨_, (tm rfl)⟩ ⟨_, (tm rfl)⟩ (by omega) (by omega) (by omega)) ?_
      refine LexE.val rfl rfl rfl (fun h' ha => Val.move (tm rfl)) ?_
      refine LexE.val rfl rfl rfl (fun h' ha => Val.loadLiveAgg Tryd.underlying98 rfl zs98 (tm rfl) ((ha.at_ 1 (by decide)).trans rfl) rfl rfl rfl (bl rfl)) ?_
      refine LexE.val rfl rfl rfl (fun h' ha => Val.build (vs := [(0, _), (1, _), (2, _)]) Tryd.underlying127 zz127 rfl rfl pl127 rfl ⟨(tm rfl), rfl, rfl, rfl, ⟨(tm rfl), rfl, rfl, rfl, ⟨(tm rfl), rfl, rfl, rfl, trivial⟩⟩⟩) ?_
      refine LexE.stp (U := []) rfl rfl rfl rfl (fun h => by first | rfl | cases h) (fun h' ha m' => Stp.buildFrozen (xs := [_]) (fs := ([⟨_, i, x_⟩] : List Tk).map Tk.cells) Tryd.underlying121 zs127 zz127 rfl rfl (evc (tm rfl) evn) fitL (bl rfl) rfl rfl) ?_
      refine LexE.stp (U := [(0, _)]) rfl rfl rfl rfl (fun h => by first | rfl | cases h) (fun h' ha m' => Stp.appendE (enc := Tk.cells) (l := _) ap121_121 (tm rfl) ((ha.at_ 0 (by decide)).trans rfl) (by simp [fz]) (ArgE.lst (enc := Tk.cells) (tm rfl) (by intro x; first | rfl | exact rxLen x)) (by simp only [List.length_cons, List.length_nil]; omega) rfl) ?_
      refine LexE.val rfl rfl rfl (fun h' ha => Val.assign (tm rfl)) ?_
      refine LexE.nil (nm ?_)
      refine W.norm 82 [(0, _), (3, _), (4, _), (6, _)] [some ⟨_, _, _⟩, some ⟨_, _, [[_, _, _, _]]⟩] rfl ⟨rfl, rfl, rfl, rfl, trivial⟩ rfl rfl ?_
      refine W.region ?_
      refine mv rfl rfl ?_
      refine mv rfl rfl ?_
      refine WL.v (Val.add (tm rfl) (tm rfl) (IntWalk.i64_in _ (by omega))) rfl ?_
      refine asg rfl rfl ?_
      refine WL.cut (env := [(0, _), (3, _), (4, _)]) (h' := [some ⟨_, _, _⟩]) (Fewer.pre _ rfl) (.inr (HLo.fz HLo.nil)) (fun id h => absurd h (Nat.not_lt_zero _)) ⟨⟨_, rfl, (.same rfl)⟩, ⟨_, rfl, (.same rfl)⟩, ⟨_, rfl, (.same rfl)⟩, trivial⟩ ?_
      refine WL.nil (nb (nm ?_))
      exact ⟨_, by omega, _, tl ++ [⟨_, i, x_⟩], _, _, rfl, rfl, by omega, by omega, all_snoc htl ⟨Nat.le_trans (extract_size _ _ _) (by omega), hx_⟩, by rw [List.length_append]; simp only [List.length_cons, List.length_nil]; omega, Acc.row (by simp [fz]), fun h => by simp at h⟩
    try simp only [td] at hc7
    refine W.skip (nm ?_)
    refine W.seq ?_
    by_cases hz : tl = []
    · subst hz
      obtain ⟨rfl, rfl⟩ := hnil rfl
      refine W.drawE (fun k => ([([], []), ([], []), ([], []), ([], []), ([], []), ([], []), ([], []), ([], []), ([1], []), ([], []), ([], []), ([0], [0]), ([], [])] : List (List Nat × List Nat)).getD k ([], [])) rfl (by kernel_rfl) (bl rfl) ?_
      refine LexE.val rfl rfl rfl (fun h' ha => Val.move (tm rfl)) ?_
      refine LexE.val rfl rfl rfl (fun h' ha => Val.move (tm rfl)) ?_
      refine LexE.val rfl rfl rfl (fun h' ha => Val.move (tm rfl)) ?_
      refine LexE.val rfl rfl rfl (fun h' ha => Val.move (tm rfl)) ?_
      refine LexE.val rfl rfl rfl (fun h' ha => Val.move (tm rfl)) ?_
      refine LexE.val rfl rfl rfl (fun h' ha => Val.add (tm rfl) (tm rfl) (IntWalk.i64_in _ (by omega))) ?_
      refine LexE.val rfl rfl rfl (fun h' ha => Val.sliceSI Tryd.underlying9 (tm rfl) ⟨_, (tm rfl)⟩ ⟨_, (tm rfl)⟩ (by omega) (by omega) (by omega)) ?_
      refine LexE.val rfl rfl rfl (fun h' ha => Val.move (tm rfl)) ?_
      refine LexE.val rfl rfl rfl (fun h' ha => Val.loadLiveAgg Tryd.underlying98 rfl zs98 (tm rfl) ((ha.at_ 1 (by decide)).trans rfl) rfl rfl rfl (bl rfl)) ?_
      refine LexE.val rfl rfl rfl (fun h' ha => Val.build (vs := [(0, _), (1, _), (2, _)]) Tryd.underlying127 zz127 rfl rfl pl127 rfl ⟨(tm rfl), rfl, rfl, rfl, ⟨(tm rfl), rfl, rfl, rfl, ⟨(tm rfl), rfl, rfl, rfl, trivial⟩⟩⟩) ?_
      refine LexE.stp (U := []) rfl rfl rfl rfl (fun h => by first | rfl | cases h) (fun h' ha m' => Stp.buildFrozen (xs := [_]) (fs := ([⟨_, i, x_⟩] : List Tk).map Tk.cells) Tryd.underlying121 zs127 zz127 rfl rfl (evc (tm rfl) evn) fitL (bl rfl) rfl rfl) ?_
      refine LexE.stp (U := [(0, _)]) rfl rfl rfl rfl (fun h => by first | rfl | cases h) (fun h' ha m' => Stp.appendPlant ap121_121 (tm rfl) ((ha.at_ 0 (by decide)).trans rfl) (ArgE.lst (enc := Tk.cells) (tm rfl) (by intro x; first | rfl | exact rxLen x)) (by simp [fz]) (by simp [fz]) rfl) ?_
      refine LexE.val rfl rfl rfl (fun h' ha => Val.assign (tm rfl)) ?_
      refine LexE.nil (nm ?_)
      refine W.norm 82 [(0, _), (3, _), (4, _), (6, _)] [some ⟨_, _, _⟩, some ⟨_, _, [[_, _, _, _]]⟩] rfl ⟨rfl, rfl, rfl, rfl, trivial⟩ rfl rfl ?_
      refine W.region ?_
      refine mv rfl rfl ?_
      refine mv rfl rfl ?_
      refine WL.v (Val.add (tm rfl) (tm rfl) (IntWalk.i64_in _ (by omega))) rfl ?_
      refine asg rfl rfl ?_
      refine WL.cut (env := [(0, _), (3, _), (4, _)]) (h' := [some ⟨_, _, _⟩]) (Fewer.pre _ rfl) (.inr (HLo.fz HLo.nil)) (fun id h => absurd h (Nat.not_lt_zero _)) ⟨⟨_, rfl, (.same rfl)⟩, ⟨_, rfl, (.same rfl)⟩, ⟨_, rfl, (.same rfl)⟩, trivial⟩ ?_
      refine WL.nil (nb (nm ?_))
      exact ⟨_, by omega, _, [⟨_, i, x_⟩], _, _, rfl, rfl, by omega, by omega, all_snoc (tl := []) (fun t ht => by simp at ht) ⟨Nat.le_trans (extract_size _ _ _) (by omega), hx_⟩, by simp only [List.length_cons, List.length_nil]; omega, Acc.row (by simp [fz]), fun h => by simp at h⟩
    obtain ⟨gen', rfl, rfl⟩ := Acc.some' ha (by intro h; exact hz (List.length_eq_zero_iff.1 h))
    refine W.drawE (fun k => ([([], []), ([], []), ([], []), ([], []), ([], []), ([], []), ([], []), ([], []), ([1], []), ([], []), ([], []), ([0], [0]), ([], [])] : List (List Nat × List Nat)).getD k ([], [])) rfl (by kernel_rfl) (bl rfl) ?_
    refine LexE.val rfl rfl rfl (fun h' ha => Val.move (tm rfl)) ?_
    refine LexE.val rfl rfl rfl (fun h' ha => Val.move (tm rfl)) ?_
    refine LexE.val rfl rfl rfl (fun h' ha => Val.move (tm rfl)) ?_
    refine LexE.val rfl rfl rfl (fun h' ha => Val.move (tm rfl)) ?_
    refine LexE.val rfl rfl rfl (fun h' ha => Val.move (tm rfl)) ?_
    refine LexE.val rfl rfl rfl (fun h' ha => Val.add (tm rfl) (tm rfl) (IntWalk.i64_in _ (by omega))) ?_
    refine LexE.val rfl rfl rfl (fun h' ha => Val.sliceSI Tryd.underlying9 (tm rfl) ⟨_, (tm rfl)⟩ ⟨_, (tm rfl)⟩ (by omega) (by omega) (by omega)) ?_
    refine LexE.val rfl rfl rfl (fun h' ha => Val.move (tm rfl)) ?_
    refine LexE.val rfl rfl rfl (fun h' ha => Val.loadLiveAgg Tryd.underlying98 rfl zs98 (tm rfl) ((ha.at_ 1 (by decide)).trans rfl) rfl rfl rfl (bl rfl)) ?_
    refine LexE.val rfl rfl rfl (fun h' ha => Val.build (vs := [(0, _), (1, _), (2, _)]) Tryd.underlying127 zz127 rfl rfl pl127 rfl ⟨(tm rfl), rfl, rfl, rfl, ⟨(tm rfl), rfl, rfl, rfl, ⟨(tm rfl), rfl, rfl, rfl, trivial⟩⟩⟩) ?_
    refine LexE.stp (U := []) rfl rfl rfl rfl (fun h => by first | rfl | cases h) (fun h' ha m' => Stp.buildFrozen (xs := [_]) (fs := ([⟨_, i, x_⟩] : List Tk).map Tk.cells) Tryd.underlying121 zs127 zz127 rfl rfl (evc (tm rfl) evn) fitL (bl rfl) rfl rfl) ?_
    refine LexE.stp (U := [(0, _)]) rfl rfl rfl rfl (fun h => by first | rfl | cases h) (fun h' ha m' => Stp.appendE (enc := Tk.cells) (l := _) ap121_121 (tm rfl) ((ha.at_ 0 (by decide)).trans rfl) (by simp [fz]) (ArgE.lst (enc := Tk.cells) (tm rfl) (by intro x; first | rfl | exact rxLen x)) (by simp only [List.length_cons, List.length_nil]; omega) rfl) ?_
    refine LexE.val rfl rfl rfl (fun h' ha => Val.assign (tm rfl)) ?_
    refine LexE.nil (nm ?_)
    refine W.norm 82 [(0, _), (3, _), (4, _), (6, _)] [some ⟨_, _, _⟩, some ⟨_, _, [[_, _, _, _]]⟩] rfl ⟨rfl, rfl, rfl, rfl, trivial⟩ rfl rfl ?_
    refine W.region ?_
    refine mv rfl rfl ?_
    refine mv rfl rfl ?_
    refine WL.v (Val.add (tm rfl) (tm rfl) (IntWalk.i64_in _ (by omega))) rfl ?_
    refine asg rfl rfl ?_
    refine WL.cut (env := [(0, _), (3, _), (4, _)]) (h' := [some ⟨_, _, _⟩]) (Fewer.pre _ rfl) (.inr (HLo.fz HLo.nil)) (fun id h => absurd h (Nat.not_lt_zero _)) ⟨⟨_, rfl, (.same rfl)⟩, ⟨_, rfl, (.same rfl)⟩, ⟨_, rfl, (.same rfl)⟩, trivial⟩ ?_
    refine WL.nil (nb (nm ?_))
    exact ⟨_, by omega, _, tl ++ [⟨_, i, x_⟩], _, _, rfl, rfl, by omega, by omega, all_snoc htl ⟨Nat.le_trans (extract_size _ _ _) (by omega), hx_⟩, by rw [List.length_append]; simp only [List.length_cons, List.length_nil]; omega, Acc.row (by simp [fz]), fun h => by simp at h⟩
  try simp only [td] at hc3
  refine W.exit (ex1 (ex1 (ex2 (nm ?_))))
  refine sr ?_
  refine mv rfl rfl ?_
  refine mv rfl rfl ?_
  refine WL.v (Val.lenS Tryd.underlying9 (tm rfl)) rfl ?_
  refine WL.v (Val.le (Val.build (vs := [(1, _)]) Tryd.underlying127 zz127 rfl rfl pl127 rfl ⟨(tm rfl), rfl, rfl, rfl, trivial⟩) (Le.agg (ys := [_, _, _, _, _, .f (.lst 4 [])]) (LeL.cons (Le.refl _) (LeL.cons (Le.refl _) (LeL.cons (Le.refl _) (LeL.cons (Le.refl _) (LeL.cons (Le.refl _) (LeL.cons Le.nil LeL.nil)))))))) rfl ?_
  refine WL.stp rfl (Stp.buildFrozen (xs := [_]) (fs := ([⟨ByteArray.empty, s.size, .mk 0 0 0 []⟩] : List Tk).map Tk.cells) Tryd.underlying121 zs127 zz127 rfl rfl (evc (tm rfl) evn) fitL (bl rfl) rfl rfl) ?_
  refine WL.appE (enc := Tk.cells) ap121_121 (tm rfl) rfl ha (ArgE.lst (enc := Tk.cells) (tm rfl) (by intro x; first | rfl | exact rxLen x)) (by simp only [List.length_cons, List.length_nil]; omega) rfl ?_
  intro v' o' ha'
  refine asg rfl rfl ?_
  refine WL.norm 82 [(2, _)] [_] rfl ⟨rfl, trivial⟩ rfl rfl ?_
  refine wn ?_
  refine W.ret ?_
  exact Ret.of (.inr rfl) rfl (res1 rfl rfl) (Fewer.nil _) (.inr trivial) (fun id h => absurd h (Nat.not_lt_zero _)) (Acc.thaw ha' rfl rfl (encL (by intro x; first | rfl | exact rxLen x))) ⟨rfl, _, rfl, TOk.snoc htl (by omega)⟩
end Go.Aw
namespace Go.Aw
open Go.RowKit Go.Proofs
section
variable {K : Ctx} {ops : Array Oper}
theorem LexE.gcallAll {ft : Nat → List Nat × List Nat} {Q : St → Prop} {k : Nat} {S : St} {rest : List Oper} {t : Nat} {ty : TypeId} {pos : String} {af : Array Edge} {gd : Option (Nat × Bool)} {f : FuncId} {xs : List Operand} {ts : Array TypeId} {args : List AV} {r : AV} {G : Bool}
    (hg : ∀ h', Grd K ops { S with env := S.env.filter (fun p => ((⟨some t, .call ⟨.value (.func f), xs.toArray, ts⟩, ty, pos, af, gd⟩ : Oper).looksAt ops).contains p.1), heap := h' } ⟨some t, .call ⟨.value (.func f), xs.toArray, ts⟩, ty, pos, af, gd⟩ G) (hf : Callable K.P f)
    (hx : G = true → ∀ h', Agree (ft k).1 S.heap h' → EvL K { S with env := S.env.filter (fun p => ((⟨some t, .call ⟨.value (.func f), xs.toArray, ts⟩, ty, pos, af, gd⟩ : Oper).looksAt ops).contains p.1), heap := h' } xs args) (hd : Nat.ble (t + 1) S.n = true)
    (hc : G = true → ∀ h', Agree (ft k).1 S.heap h' → AC ⟨K.P, K.W0, K.N⟩ f args h' fun r' k => k = h' ∧ r' = r) (hU : (ft k).2 = []) (h : LexE K ops ft Q rest (k + 1) (S.put t (.opt G r))) : LexE K ops ft Q (⟨some t, .call ⟨.value (.func f), xs.toArray, ts⟩, ty, pos, af, gd⟩ :: rest) k S := by
  refine LexE.cons (U := []) hU.symm (x := .opt G r) ⟨by simp only [dstOk]; exact decide_eq_true (Nat.le_of_ble_eq_true hd), rfl, fun h' ha m' => .inr (.inr (.inr ⟨G, r, rfl, rfl, hg h', fun hG L a w Kc Qc hs hk => ?_⟩))⟩ h
  simp only [Oper.wp, run_callV (cs := #[]) (c := .func f) (ρ := a.eval) hf rfl, Oper.upon_enter]
  have hxs := EvL.rep hs (hx hG h' ha)
  rw [show (xs.toArray.map a.eval ++ #[]) = (xs.map a.eval).toArray from by simp]
  refine (hc hG h' ha K.X L w _ hs.hs hs.base hs.big hxs).mono ?_
  rintro e w' ⟨r', k', L', v, rfl, ⟨rfl, rfl⟩, hrep, hh, hb, hbig, hext⟩
  refine hk v w' L' ⟨hh, hb, hbig, fun t y hy => by simp [St.get, look] at hy, hs.size, hs.defers⟩ hrep ⟨fun id g x hi hx => ?_, hext.stays, hext.own⟩
  refine hext.link id g x ?_ hx
  by_cases hlt : id < k'.length
  · exact hlt
  · rw [hs.hs.past id g (by
      show k'[id]?.join = none
      rw [List.getElem?_eq_none (by omega)]; rfl)] at hx
    simp at hx
end
end Go.Aw
namespace Go.Aw
open Go.RowKit Go.Proofs

/-- The reader's row. -/
abbrev HR (ts : List Tk) (i : Int) (bad : Bool) : Heap := [some ⟨0, 3, [[.f (.tks ts), .i i, .b bad]]⟩]
theorem HR.lo {ts : List Tk} {i : Int} {bad : Bool} : HLo (HR ts i bad) (HR ts i bad) := HLo.box (lo1 (lo1 (lo1 lo0))) HLo.nil
def seeF (ts : List Tk) (i : Int) (bad : Bool) : ByteArray := if bad = true then ⟨#[32]⟩ else (gA ts i).text
def takeI (ts : List Tk) (i : Int) (bad : Bool) (w : ByteArray) : Int := if seeF ts i bad = w ∧ ¬ w = ⟨#[]⟩ then i + 1 else i
def RTk (ts : List Tk) (i : Int) (bad : Bool) (w : ByteArray) : AV → Heap → Prop := fun r h => r = .b (decide (seeF ts i bad = w)) ∧ h = HR ts (takeI ts i bad w) bad
def RNd (ts : List Tk) (i : Int) (bad : Bool) (w : ByteArray) : AV → Heap → Prop := fun r h => r = .tup [] ∧ h = HR ts (takeI ts i bad w) (bad || !decide (seeF ts i bad = w))
def RSe (ts : List Tk) (i : Int) (bad : Bool) : AV → Heap → Prop := fun r h => r = .s (seeF ts i bad) ∧ h = HR ts i bad
def RBe (ts : List Tk) (i : Int) (bad : Bool) : AV → Heap → Prop := fun r h => ∃ q, r = .b q ∧ h = HR ts i bad ∧ (q = true → bad = false)
theorem RSe.ok {ts : List Tk} {i : Int} {bad : Bool} {n : Nat} (hn : n = 1) : ∀ r h', RSe ts i bad r h' → r.lo h' = true ∧ HLo h' h' ∧ h'.length = n := by
  rintro r h' ⟨rfl, rfl⟩; exact ⟨rfl, HR.lo, hn.symm⟩
theorem RTk.ok {ts : List Tk} {i : Int} {bad : Bool} {w : ByteArray} {n : Nat} (hn : n = 1) : ∀ r h', RTk ts i bad w r h' → r.lo h' = true ∧ HLo h' h' ∧ h'.length = n := by
  rintro r h' ⟨rfl, rfl⟩; exact ⟨rfl, HR.lo, hn.symm⟩
theorem RNd.ok {ts : List Tk} {i : Int} {bad : Bool} {w : ByteArray} {n : Nat} (hn : n = 1) : ∀ r h', RNd ts i bad w r h' → r.lo h' = true ∧ HLo h' h' ∧ h'.length = n := by
  rintro r h' ⟨rfl, rfl⟩; exact ⟨rfl, HR.lo, hn.symm⟩
theorem RBe.ok {ts : List Tk} {i : Int} {bad : Bool} {n : Nat} (hn : n = 1) : ∀ r h', RBe ts i bad r h' → r.lo h' = true ∧ HLo h' h' ∧ h'.length = n := by
  rintro r h' ⟨q, rfl, rfl, _⟩; exact ⟨rfl, HR.lo, hn.symm⟩
/-- A text that is one of the words is not the end's, nor the one behind an error. -/
theorem see_lt {ts : List Tk} (hts : TOk ts) {i : Int} {bad : Bool} {w : ByteArray} (h1 : i < ts.length) (hw : ¬ w = ⟨#[]⟩) (hw2 : ¬ w = ⟨#[32]⟩) (h : seeF ts i bad = w) : bad = false ∧ i + 1 < ts.length := by
  cases bad with
  | true => exact absurd h.symm hw2
  | false =>
    refine ⟨rfl, ?_⟩
    by_cases hl : i = (ts.length : Int) - 1
    · exfalso
      apply hw
      rw [← h, hl]
      exact hts.last.1
    · omega
theorem take_cases {ts : List Tk} (hts : TOk ts) {i : Int} {bad : Bool} {w : ByteArray} (h1 : i < ts.length) (hw : ¬ w = ⟨#[]⟩) (hw2 : ¬ w = ⟨#[32]⟩) : (decide (seeF ts i bad = w) = true ∧ takeI ts i bad w = i + 1 ∧ bad = false ∧ i + 1 < ts.length) ∨ (decide (seeF ts i bad = w) = false ∧ takeI ts i bad w = i) := by
  by_cases h : seeF ts i bad = w
  · obtain ⟨a, b⟩ := see_lt hts h1 hw hw2 h
    exact .inl ⟨decide_eq_true h, by rw [takeI, if_pos ⟨h, hw⟩], a, b⟩
  · exact .inr ⟨decide_eq_false h, by rw [takeI, if_neg (fun hh => h hh.1)]⟩

-- (*enthymemeref04.reader).see
set_option maxHeartbeats 1000000 in
theorem c_seeH (W0 : World) (N : Nat) (ts : List Tk) (hts : TOk ts) (i : Int) (bad : Bool) (h0 : 0 ≤ i) (h1 : i < ts.length) (h : Heap) (hh : h[0]? = some (some ⟨0, 3, [[.f (.tks ts), .i i, .b bad]]⟩)) : AC (En W0 N) 101 [.ptr 0 0 3 0 0] h (fun r k => k = h ∧ r = .s (seeF ts i bad)) := by
  have hlen := hts.len
  refine AC.enter Tryd.func101 rfl Tryd.ntmps101 (bl rfl) fun X => ?_
  refine sr ?_
  refine WL.v (Val.assign Ev.const) rfl ?_
  refine WL.norm 18 [(0, _)] h rfl ⟨rfl, trivial⟩ rfl rfl ?_
  refine wn ?_
  refine W.seq ?_
  refine sr ?_
  refine mv rfl rfl ?_
  refine WL.v (Val.nilCheck (tm rfl)) rfl ?_
  refine WL.v (Val.fal (off := 2) Tryd.underlying124 rfl rfl zs4 (tm rfl)) rfl ?_
  refine WL.v (Val.loadLive Tryd.underlying4 rfl (tm rfl) hh rfl rfl rfl rfl) rfl ?_
  refine WL.norm 18 [(0, _), (6, _)] h rfl ⟨rfl, rfl, trivial⟩ rfl rfl ?_
  refine wn ?_
  refine W.condP rfl (fun hc1 => ?_) (fun hc1 => ?_)
  · try simp only [td] at hc1
    refine sr ?_
    refine WL.v (Val.assign Ev.const) rfl ?_
    refine WL.norm 18 [(2, _)] h rfl ⟨rfl, trivial⟩ rfl rfl ?_
    refine wn ?_
    refine W.ret (rt1 ?_)
    exact Ret.keep (.inr rfl) rfl (res1 rfl rfl) rfl ⟨rfl, by rw [seeF, if_pos hc1]⟩
  try simp only [td] at hc1
  refine W.skip (nm ?_)
  refine W.seq ?_
  refine W.drawE (fun k => ([([], []), ([], []), ([], []), ([0], []), ([], []), ([], []), ([], []), ([0], []), ([], []), ([], []), ([], []), ([], [])] : List (List Nat × List Nat)).getD k ([], [])) rfl (by kernel_rfl) (Nat.le_refl _) ?_
  refine LexE.val rfl rfl rfl (fun h' ha => Val.move (tm rfl)) ?_
  refine LexE.val rfl rfl rfl (fun h' ha => Val.nilCheck (tm rfl)) ?_
  refine LexE.val rfl rfl rfl (fun h' ha => Val.fal (off := 0) Tryd.underlying124 rfl rfl zs121 (tm rfl)) ?_
  refine LexE.val rfl rfl rfl (fun h' ha => Val.loadLive Tryd.underlying121 rfl (tm rfl) ((ha.at_ 0 (by decide)).trans hh) rfl rfl rfl rfl) ?_
  refine LexE.val rfl rfl rfl (fun h' ha => Val.move (tm rfl)) ?_
  refine LexE.val rfl rfl rfl (fun h' ha => Val.nilCheck (tm rfl)) ?_
  refine LexE.val rfl rfl rfl (fun h' ha => Val.fal (off := 1) Tryd.underlying124 rfl rfl zs3 (tm rfl)) ?_
  refine LexE.val rfl rfl rfl (fun h' ha => Val.loadLive Tryd.underlying3 rfl (tm rfl) ((ha.at_ 0 (by decide)).trans hh) rfl rfl rfl rfl) ?_
  refine LexE.val rfl rfl rfl (fun h' ha => Val.ix (enc := Tk.cells) Tryd.underlying121 zs127 (tm rfl) (tm rfl) (by omega) (gA_at (by omega) (by omega))) ?_
  refine LexE.val rfl rfl rfl (fun h' ha => Val.fa (off := 0) Tryd.underlying127 rfl rfl zs9 (tm rfl)) ?_
  refine LexE.val rfl rfl rfl (fun h' ha => Val.load Tryd.underlying9 rfl (tm rfl)) ?_
  refine LexE.val rfl rfl rfl (fun h' ha => Val.assign (tm rfl)) ?_
  refine LexE.nil (nm ?_)
  refine W.norm 18 [(2, _)] h rfl ⟨rfl, trivial⟩ rfl rfl ?_
  refine W.ret ?_
  exact Ret.keep (.inr rfl) rfl (res1 rfl rfl) rfl ⟨rfl, by rw [seeF, if_neg (by rw [hc1]; decide)]⟩
theorem c_see (W0 : World) (N : Nat) (ts : List Tk) (hts : TOk ts) (i : Int) (bad : Bool) (h0 : 0 ≤ i) (h1 : i < ts.length) : AC (En W0 N) 101 [.ptr 0 0 3 0 0] (HR ts i bad) (RSe ts i bad) :=
  (c_seeH W0 N ts hts i bad h0 h1 (HR ts i bad) rfl).mono fun r k h => ⟨h.2, h.1⟩
-- (*enthymemeref04.reader).take
set_option maxHeartbeats 1000000 in
theorem c_take (W0 : World) (N : Nat) (ts : List Tk) (hts : TOk ts) (i : Int) (bad : Bool) (w : ByteArray) (h0 : 0 ≤ i) (h1 : i < ts.length) : AC (En W0 N) 94 [.ptr 0 0 3 0 0, .s w] (HR ts i bad) (RTk ts i bad w) := by
  have hlen := hts.len
  refine AC.enter Tryd.func94 rfl Tryd.ntmps94 (bl rfl) fun X => ?_
  refine sr ?_
  refine WL.v (Val.assign Ev.const) rfl ?_
  refine WL.norm 18 [(0, _), (1, _)] [some ⟨_, _, [[_, _, _]]⟩] rfl ⟨rfl, rfl, trivial⟩ rfl rfl ?_
  refine wn ?_
  refine W.seq ?_
  refine sr ?_
  refine mv rfl rfl ?_
  refine WL.callPre (args := [.ptr 0 0 3 0 0]) (caps := []) (HR _ _ _) _ ca101 Fun.func (evc (tm rfl) evn) rfl rfl rfl HR.lo (c_see W0 N ts hts _ _ (by omega) (by omega)) (RSe.ok rfl) rfl ?_
  rintro _ _ ⟨rfl, rfl⟩
  refine mv rfl rfl ?_
  refine WL.v (Val.neqS (tm rfl) (tm rfl)) rfl ?_
  refine WL.norm 18 [(0, _), (1, _), (8, _)] [some ⟨_, _, [[_, _, _]]⟩] rfl ⟨rfl, rfl, rfl, trivial⟩ rfl rfl ?_
  refine wn ?_
  refine W.condP rfl (fun hc1 => ?_) (fun hc1 => ?_)
  · try simp only [td] at hc1
    refine sr ?_
    refine WL.v (Val.assign Ev.const) rfl ?_
    refine WL.norm 18 [(4, _)] [some ⟨_, _, [[_, _, _]]⟩] rfl ⟨rfl, trivial⟩ rfl rfl ?_
    refine wn ?_
    refine W.ret (rt1 ?_)
    exact Ret.keep (.inr rfl) rfl (res1 rfl rfl) rfl ⟨by rw [decide_eq_false hc1], by rw [takeI, if_neg (fun hh => hc1 hh.1)]⟩
  try simp only [td] at hc1
  refine W.skip (nm ?_)
  refine W.seq ?_
  refine sr ?_
  refine mv rfl rfl ?_
  refine WL.v (Val.neqS (tm rfl) Ev.const) rfl ?_
  refine WL.norm 18 [(0, _), (10, _)] [some ⟨_, _, [[_, _, _]]⟩] rfl ⟨rfl, rfl, trivial⟩ rfl rfl ?_
  refine wn ?_
  refine W.condP rfl (fun hc3 => ?_) (fun hc3 => ?_)
  · try simp only [td] at hc3
    refine W.region ?_
    refine mv rfl rfl ?_
    refine WL.v (Val.nilCheck (tm rfl)) rfl ?_
    refine WL.v (Val.fal (off := 1) Tryd.underlying124 rfl rfl zs3 (tm rfl)) rfl ?_
    refine WL.v (Val.loadLive Tryd.underlying3 rfl (tm rfl) rfl rfl rfl rfl rfl) rfl ?_
    refine WL.v (Val.add (tm rfl) Ev.const (IntWalk.i64_in _ (by omega))) rfl ?_
    refine WL.v (Val.nilCheck (tm rfl)) rfl ?_
    refine WL.v (Val.fal (off := 1) Tryd.underlying124 rfl rfl zs3 (tm rfl)) rfl ?_
    refine WL.stp rfl (Stp.st (tm rfl) (tm rfl) zs3 rfl rfl rfl rfl rfl rfl rfl rfl) ?_
    refine WL.norm 18 [] [some ⟨_, _, [[_, _, _]]⟩] rfl trivial rfl rfl ?_
    refine wn ?_
    refine sr ?_
    refine WL.v (Val.assign Ev.const) rfl ?_
    refine WL.norm 18 [(4, _)] [some ⟨_, _, [[_, _, _]]⟩] rfl ⟨rfl, trivial⟩ rfl rfl ?_
    refine wn ?_
    refine W.ret ?_
    exact Ret.keep (.inr rfl) rfl (res1 rfl rfl) rfl ⟨by rw [decide_eq_true hc1], by rw [takeI, if_pos ⟨hc1, hc3⟩]⟩
  try simp only [td] at hc3
  refine W.skip (nm ?_)
  refine sr ?_
  refine WL.v (Val.assign Ev.const) rfl ?_
  refine WL.norm 18 [(4, _)] [some ⟨_, _, [[_, _, _]]⟩] rfl ⟨rfl, trivial⟩ rfl rfl ?_
  refine wn ?_
  refine W.ret ?_
  exact Ret.keep (.inr rfl) rfl (res1 rfl rfl) rfl ⟨by rw [decide_eq_true hc1], by rw [takeI, if_neg (fun hh => hh.2 hc3)]⟩
-- (*enthymemeref04.reader).need
set_option maxHeartbeats 1000000 in
theorem c_need (W0 : World) (N : Nat) (ts : List Tk) (hts : TOk ts) (i : Int) (bad : Bool) (w : ByteArray) (h0 : 0 ≤ i) (h1 : i < ts.length) : AC (En W0 N) 79 [.ptr 0 0 3 0 0, .s w] (HR ts i bad) (RNd ts i bad w) := by
  have hlen := hts.len
  refine AC.enter Tryd.func79 rfl Tryd.ntmps79 (bl rfl) fun X => ?_
  refine sr ?_
  refine mv rfl rfl ?_
  refine mv rfl rfl ?_
  refine WL.callPre (args := [.ptr 0 0 3 0 0, .s w]) (caps := []) (HR _ _ _) _ ca94 Fun.func (evc (tm rfl) (evc (tm rfl) evn)) rfl rfl rfl HR.lo (c_take W0 N ts hts _ _ _ (by omega) (by omega)) (RTk.ok rfl) rfl ?_
  rintro _ _ ⟨rfl, rfl⟩
  refine asg rfl rfl ?_
  refine WL.norm 13 [(0, _), (4, _)] [some ⟨_, _, [[_, _, _]]⟩] rfl ⟨rfl, rfl, trivial⟩ rfl rfl ?_
  refine wn ?_
  refine sr ?_
  refine mv rfl rfl ?_
  refine WL.v (Val.not (tm rfl)) rfl ?_
  refine WL.norm 13 [(0, _), (9, _)] [some ⟨_, _, [[_, _, _]]⟩] rfl ⟨rfl, rfl, trivial⟩ rfl rfl ?_
  refine wn ?_
  refine W.condP rfl (fun hc1 => ?_) (fun hc1 => ?_)
  · try simp only [td] at hc1
    refine W.region ?_
    refine mv rfl rfl ?_
    refine WL.v (Val.nilCheck (tm rfl)) rfl ?_
    refine WL.v (Val.fal (off := 2) Tryd.underlying124 rfl rfl zs4 (tm rfl)) rfl ?_
    refine WL.stp rfl (Stp.st (tm rfl) Ev.const zs4 rfl rfl rfl rfl rfl rfl rfl rfl) ?_
    refine WL.norm 13 [] [some ⟨_, _, [[_, _, _]]⟩] rfl trivial rfl rfl ?_
    refine WL.nil ?_
    exact Ret.keep (.inl rfl) rfl (res0 rfl) rfl ⟨rfl, by rw [decide_eq_false hc1]; cases bad <;> rfl⟩
  try simp only [td] at hc1
  refine W.skip ?_
  exact Ret.keep (.inl rfl) rfl (res0 rfl) rfl ⟨rfl, by rw [decide_eq_true hc1]; cases bad <;> rfl⟩
-- (*enthymemeref04.reader).begins
set_option maxHeartbeats 1000000 in
theorem c_begins (W0 : World) (N : Nat) (ts : List Tk) (hts : TOk ts) (i : Int) (bad : Bool) (h0 : 0 ≤ i) (h1 : i < ts.length) : AC (En W0 N) 104 [.ptr 0 0 3 0 0] (HR ts i bad) (RBe ts i bad) := by
  have hlen := hts.len
  refine AC.enter Tryd.func104 rfl Tryd.ntmps104 (bl rfl) fun X => ?_
  refine sr ?_
  refine WL.v (Val.assign Ev.const) rfl ?_
  refine WL.norm 31 [(0, _)] [some ⟨_, _, [[_, _, _]]⟩] rfl ⟨rfl, trivial⟩ rfl rfl ?_
  refine wn ?_
  refine sr ?_
  refine mv rfl rfl ?_
  refine WL.callPre (args := [.ptr 0 0 3 0 0]) (caps := []) (HR _ _ _) _ ca101 Fun.func (evc (tm rfl) evn) rfl rfl rfl HR.lo (c_see W0 N ts hts _ _ (by omega) (by omega)) (RSe.ok rfl) rfl ?_
  rintro _ _ ⟨rfl, rfl⟩
  refine asg rfl rfl ?_
  refine WL.norm 31 [(0, _), (3, _)] [some ⟨_, _, [[_, _, _]]⟩] rfl ⟨rfl, rfl, trivial⟩ rfl rfl ?_
  refine wn ?_
  refine sr ?_
  refine mv rfl rfl ?_
  refine WL.v (Val.nilCheck (tm rfl)) rfl ?_
  refine WL.v (Val.fal (off := 2) Tryd.underlying124 rfl rfl zs4 (tm rfl)) rfl ?_
  refine WL.v (Val.loadLive Tryd.underlying4 rfl (tm rfl) rfl rfl rfl rfl rfl) rfl ?_
  refine WL.v (Val.not (tm rfl)) rfl ?_
  refine mv rfl rfl ?_
  refine WL.g (Grd.t rfl rfl rfl) (fun hG => Val.move (tm rfl)) rfl ?_
  refine WL.g (Grd.t rfl rfl rfl) (fun hG => Val.neqS (Ev.opt rfl hG) Ev.const) rfl ?_
  refine WL.v (Val.and (tm rfl) (fun hb => Ev.opt rfl hb)) rfl ?_
  refine mv rfl rfl ?_
  refine WL.g (Grd.t rfl rfl rfl) (fun hG => Val.move (tm rfl)) rfl ?_
  refine WL.g (Grd.t rfl rfl rfl) (fun hG => Val.neqS (Ev.opt rfl hG) Ev.const) rfl ?_
  refine WL.v (Val.and (tm rfl) (fun hb => Ev.opt rfl hb)) rfl ?_
  refine mv rfl rfl ?_
  refine WL.g (Grd.t rfl rfl rfl) (fun hG => Val.move (tm rfl)) rfl ?_
  refine WL.g (Grd.t rfl rfl rfl) (fun hG => Val.neqS (Ev.opt rfl hG) Ev.const) rfl ?_
  refine WL.v (Val.and (tm rfl) (fun hb => Ev.opt rfl hb)) rfl ?_
  refine mv rfl rfl ?_
  refine WL.g (Grd.t rfl rfl rfl) (fun hG => Val.move (tm rfl)) rfl ?_
  refine WL.g (Grd.t rfl rfl rfl) (fun hG => Val.neqS (Ev.opt rfl hG) Ev.const) rfl ?_
  refine WL.v (Val.and (tm rfl) (fun hb => Ev.opt rfl hb)) rfl ?_
  refine mv rfl rfl ?_
  refine WL.g (Grd.t rfl rfl rfl) (fun hG => Val.move (tm rfl)) rfl ?_
  refine WL.g (Grd.t rfl rfl rfl) (fun hG => Val.neqS (Ev.opt rfl hG) Ev.const) rfl ?_
  refine WL.v (Val.and (tm rfl) (fun hb => Ev.opt rfl hb)) rfl ?_
  refine asg rfl rfl ?_
  refine WL.norm 31 [(2, _)] [some ⟨_, _, [[_, _, _]]⟩] rfl ⟨rfl, trivial⟩ rfl rfl ?_
  refine wn ?_
  refine W.ret ?_
  exact Ret.keep (.inr rfl) rfl (res1 rfl rfl) rfl ⟨_, rfl, rfl, fun h => by cases bad <;> simp_all⟩
end Go.Aw
namespace Go.Aw
open Go.RowKit Go.Proofs

/-- What reading an expression leaves: a number of nodes that the tokens taken bound. -/
def PX (ts : List Tk) (i : Int) (bad : Bool) : AV → Heap → Prop := fun r h => ∃ x i' bad', r = rxE x ∧ h = HR ts i' bad' ∧ i ≤ i' ∧ i' < ts.length ∧ RxB x ∧ (x.nodes : Int) ≤ 4 * (i' - i) + 1 ∧ (bad = true → bad' = true)
def PI (ts : List Tk) (i : Int) (bad : Bool) : AV → Heap → Prop := fun r h => ∃ x i' bad', r = rxE x ∧ h = HR ts i' bad' ∧ i ≤ i' ∧ i' < ts.length ∧ RxB x ∧ (x.nodes : Int) ≤ 4 * (i' - i) + 1 ∧ (bad = true → bad' = true) ∧ (i < i' → (x.nodes : Int) + 2 ≤ 4 * (i' - i)) ∧ (bad' = false → i < i')
def PK (ts : List Tk) (i : Int) (bad : Bool) : AV → Heap → Prop := fun r h => ∃ l i' bad', r = .f (.lst 4 (l.map Rx.cells)) ∧ h = HR ts i' bad' ∧ i ≤ i' ∧ i' < ts.length ∧ (∀ x, x ∈ l → RxB x) ∧ (Rx.nodesL l : Int) ≤ 4 * (i' - i) ∧ (bad = true → bad' = true)
theorem PX.ok {ts : List Tk} {i : Int} {bad : Bool} {n : Nat} (hn : n = 1) : ∀ r h', PX ts i bad r h' → r.lo h' = true ∧ HLo h' h' ∧ h'.length = n := by
  rintro r h' ⟨x, i', bad', rfl, rfl, _⟩; exact ⟨rfl, HR.lo, hn.symm⟩
theorem PI.ok {ts : List Tk} {i : Int} {bad : Bool} {n : Nat} (hn : n = 1) : ∀ r h', PI ts i bad r h' → r.lo h' = true ∧ HLo h' h' ∧ h'.length = n := by
  rintro r h' ⟨x, i', bad', rfl, rfl, _⟩; exact ⟨rfl, HR.lo, hn.symm⟩
theorem PK.ok {ts : List Tk} {i : Int} {bad : Bool} {n : Nat} (hn : n = 1) : ∀ r h', PK ts i bad r h' → r.lo h' = true ∧ HLo h' h' ∧ h'.length = n := by
  rintro r h' ⟨l, i', bad', rfl, rfl, _⟩; exact ⟨rfl, HR.lo, hn.symm⟩
def EX (W0 : World) (N : Nat) (ts : List Tk) (b : Nat) : Prop := ∀ (i : Int) (bad : Bool), 0 ≤ i → i < ts.length → ts.length - i < (b : Int) → AC (En W0 N) 78 [.ptr 0 0 3 0 0] (HR ts i bad) (PX ts i bad)
def IX (W0 : World) (N : Nat) (ts : List Tk) (b : Nat) : Prop := ∀ (i : Int) (bad : Bool), 0 ≤ i → i < ts.length → ts.length - i < (b : Int) → AC (En W0 N) 103 [.ptr 0 0 3 0 0] (HR ts i bad) (PI ts i bad)
theorem RangeOk.b {r : Rx} (h : RangeOk r) : RxB r ∧ r.nodes = 1 := by
  rcases h with rfl | ⟨lo, hi, rfl, h1, h2⟩
  · exact ⟨(RxG.leaf (by decide) (by decide) (by decide)).1, rfl⟩
  · exact ⟨.mk h1 h2 (fun x hx => by have : x ∈ ([] : List Rx) := hx; simp at this), rfl⟩
theorem RxB.list {k : Int} {ks : List Rx} (h : ∀ x, x ∈ ks → RxB x) : RxB (.mk k 0 0 ks) := .mk ⟨Int.le_refl _, by show (0 : Int) ≤ 255; decide⟩ ⟨Int.le_refl _, by show (0 : Int) ≤ 255; decide⟩ h
theorem nodes_list (k : Int) (ks : List Rx) : (Rx.mk k 0 0 ks).nodes = 1 + Rx.nodesL ks := by rw [Rx.nodes_eq]; rfl
theorem nodesL_one (x : Rx) : Rx.nodesL [x] = x.nodes := by simp [Rx.nodesL]
theorem nodesL_snoc (l : List Rx) (x : Rx) : Rx.nodesL (l ++ [x]) = Rx.nodesL l + x.nodes := by rw [Rx.nodesL_append, nodesL_one]
theorem mem_snoc {P : Rx → Prop} {l : List Rx} {x : Rx} (h : ∀ x, x ∈ l → P x) (hx : P x) : ∀ y, y ∈ l ++ [x] → P y := fun y hy => by
  rcases List.mem_append.1 hy with hy | hy
  · exact h y hy
  · rw [List.mem_singleton.1 hy]; exact hx
theorem group_ok {k : Int} {l : List Rx} {x : Rx} {d : Int} (h : (l.length = 1 ∧ x ∈ l) ∨ (2 ≤ l.length ∧ x = .mk k 0 0 l)) (hB : ∀ x, x ∈ l → RxB x) (h1 : (Rx.nodesL l : Int) ≤ 4 * d + 1) (h2 : 2 ≤ l.length → (Rx.nodesL l : Int) + 1 ≤ 4 * d + 1) : RxB x ∧ (x.nodes : Int) ≤ 4 * d + 1 := by
  rcases h with ⟨_, hx⟩ | ⟨hl, rfl⟩
  · exact ⟨hB x hx, by have := Rx.nodesL_mem hx; omega⟩
  · have := h2 hl; exact ⟨RxB.list hB, by rw [nodes_list]; omega⟩
theorem lit_ne {a b : Array UInt8} (h : a ≠ b) : ¬ (⟨a⟩ : ByteArray) = ⟨b⟩ := fun e => h (by injection e)

-- (*enthymemeref04.reader).seq
set_option maxHeartbeats 1000000 in
theorem c_seq (W0 : World) (N : Nat) (ts : List Tk) (hts : TOk ts) (b : Nat) : (∀ (i : Int) (bad : Bool), 0 ≤ i → i < ts.length → ts.length - i < ((b : Nat) : Int) → AC (En W0 N) 103 [.ptr 0 0 3 0 0] (HR ts i bad) (PI ts i bad)) → ∀ (i : Int) (bad : Bool), 0 ≤ i → i < ts.length → ts.length - i < ((b : Nat) : Int) → AC (En W0 N) 100 [.ptr 0 0 3 0 0] (HR ts i bad) (PX ts i bad) := by
  intro hC
  intro i bad h0 h1 hb
  have hlen := hts.len
  refine AC.enter Tryd.func100 rfl Tryd.ntmps100 (bl rfl) fun X => ?_
  refine sr ?_
  refine WL.stp rfl (Stp.alloc zz98 rfl rfl) ?_
  refine WL.norm 16 [(0, _), (2, _)] [some ⟨_, _, [[_, _, _]]⟩, some ⟨_, _, [[_, _, _, _]]⟩] rfl ⟨rfl, rfl, trivial⟩ rfl rfl ?_
  refine wn ?_
  refine sr ?_
  refine mv rfl rfl ?_
  refine WL.callPre (args := [.ptr 0 0 3 0 0]) (caps := []) (HR _ _ _) _ ca103 Fun.func (evc (tm rfl) evn) rfl rfl rfl HR.lo (hC _ _ (by omega) (by omega) (by omega)) (PI.ok rfl) rfl ?_
  rintro _ _ ⟨x_, i2_, b2_, rfl, rfl, hi2, hl2, hB2, hn2, hbb2, hp2, hq2⟩
  refine WL.stp rfl (Stp.buildSlice (xs := [_]) Tryd.underlying96 zs98 zz98 rfl rfl (evc (tm rfl) evn) fitL (bl rfl) rfl) ?_
  refine asg rfl rfl ?_
  refine WL.norm 16 [(0, _), (2, _), (3, _)] [some ⟨_, _, [[_, _, _]]⟩, some ⟨_, _, [[_, _, _, _]]⟩, some ⟨_, 4, fz (([x_] : List Rx).map Rx.cells)⟩] rfl ⟨rfl, rfl, rfl, trivial⟩ (by rw [← els_rx]; rfl) rfl ?_
  refine wn ?_
  refine W.seq ?_
  refine W.norm 16 [(0, _), (2, _), (3, _)] [some ⟨_, _, [[_, _, _]]⟩, some ⟨_, _, [[_, _, _, _]]⟩, some ⟨_, _, _⟩] rfl ⟨rfl, rfl, rfl, trivial⟩ rfl rfl ?_
  refine W.block (W.loop (fun nn S => ∃ (i2 : Int) (bad2 : Bool) (l : List Rx) (gen : Nat), S = ⟨16, [(0, .ptr 0 0 3 0 0), (2, .ptr 1 0 4 0 0), (3, .row 2 gen 4 0 l.length)], HR ts i2 bad2 ++ [some ⟨0, 4, [[.i 0, .c 0, .c 0, .nil]]⟩, some ⟨gen, 4, fz (l.map Rx.cells)⟩], []⟩ ∧ nn = ((2 * (ts.length - i2) + (if bad2 = true then 0 else 1)).toNat) ∧ (i ≤ i2) ∧ (i2 < ts.length) ∧ (1 ≤ l.length) ∧ (∀ x, x ∈ l → RxB x) ∧ ((Rx.nodesL l : Int) ≤ 4 * (i2 - i) + 1) ∧ (2 ≤ l.length → (Rx.nodesL l : Int) + 1 ≤ 4 * (i2 - i) + 1) ∧ (bad = true → bad2 = true) ∧ (bad2 = false → (Rx.nodesL l : Int) + 2 ≤ 4 * (i2 - i))) ⟨_, _, [x_], _, rfl, rfl, by omega, by omega, by simp, fun x hx => by rw [List.mem_singleton.1 hx]; exact hB2, by rw [nodesL_one]; omega, fun h => by simp at h, hbb2, fun h => by rw [nodesL_one]; have := hq2 h; have := hp2 this; omega⟩ ?_)
  rintro nn S ⟨i2, bad2, l, gen, rfl, rfl, hv0, hv1, hv2, hv3, hv4, hv5, hv6, hv7⟩
  refine W.seq ?_
  refine sr ?_
  refine mv rfl rfl ?_
  refine WL.callPre (args := [.ptr 0 0 3 0 0]) (caps := []) (HR _ _ _) _ ca104 Fun.func (evc (tm rfl) evn) rfl rfl rfl HR.lo (c_begins W0 N ts hts _ _ (by omega) (by omega)) (RBe.ok rfl) rfl ?_
  rintro _ _ ⟨q_, rfl, rfl, hq_⟩
  refine WL.norm 16 [(0, _), (2, _), (3, _), (8, _)] [some ⟨_, _, [[_, _, _]]⟩, some ⟨_, _, [[_, _, _, _]]⟩, some ⟨_, _, _⟩] rfl ⟨rfl, rfl, rfl, rfl, trivial⟩ rfl rfl ?_
  refine wn ?_
  refine W.condP rfl (fun hc2 => ?_) (fun hc2 => ?_)
  · have hbf := hq_ hc2
    subst hbf
    have hv8 := hv7 rfl
    refine W.skip (nm ?_)
    refine W.block ?_
    have hll := Rx.nodesL_len l
    refine W.region ?_
    refine mv rfl rfl ?_
    refine mv rfl rfl ?_
    refine WL.callPre (args := [.ptr 0 0 3 0 0]) (caps := []) (HR _ _ _) _ ca103 Fun.func (evc (tm rfl) evn) rfl rfl rfl HR.lo (hC _ _ (by omega) (by omega) (by omega)) (PI.ok rfl) rfl ?_
    rintro _ _ ⟨y_, i3_, b3_, rfl, rfl, hi3, hl3, hB3, hn3, hbb3, hp3, hq3⟩
    refine WL.stp rfl (Stp.buildFrozen (xs := [_]) (fs := ([y_] : List Rx).map Rx.cells) Tryd.underlying96 zs98 zz98 rfl rfl (evc (tm rfl) evn) fitL (bl rfl) (els_rx ([y_] : List Rx)) rfl) ?_
    refine WL.stp rfl (Stp.appendE (enc := Rx.cells) (l := _) ap96_96 (tm rfl) rfl rfl (ArgE.lst (enc := Rx.cells) (tm rfl) rxOne) (by simp only [List.length_cons, List.length_nil]; omega) rfl) ?_
    refine asg rfl rfl ?_
    refine WL.norm 16 [(0, _), (2, _), (3, _)] [some ⟨_, _, [[_, _, _]]⟩, some ⟨_, _, [[_, _, _, _]]⟩, some ⟨_, _, _⟩] rfl ⟨rfl, rfl, rfl, trivial⟩ rfl rfl ?_
    refine WL.nil (nb (nm ?_))
    exact ⟨_, by cases b3_ with | true => simp only [if_true, Bool.false_eq_true, if_false]; omega | false => have := hq3 rfl; simp only [Bool.false_eq_true, if_false]; omega, _, _, _, _, rfl, rfl, by omega, by omega, by simp, mem_snoc hv3 hB3, by rw [nodesL_snoc]; omega, fun _ => by rw [nodesL_snoc]; omega, fun h => hbb3 (hv6 h), fun h => by rw [nodesL_snoc]; have := hq3 h; have := hp3 this; omega⟩
  try simp only [td] at hc2
  refine W.exit (ex1 (ex1 (ex2 (nm ?_))))
  refine W.seq ?_
  refine W.cut (env := [(2, _), (3, _)]) (h' := [some ⟨_, _, [[_, _, _]]⟩, some ⟨_, _, [[_, _, _, _]]⟩]) (Fewer.pre _ rfl) (.inr (HLo.box (lo1 (lo1 (lo1 lo0))) (HLo.box (lo1 (lo1 (lo1 (lo1 lo0)))) HLo.nil))) (fun id h => by have h0 : id = 0 := Nat.lt_one_iff.1 h; subst h0; exact .inl rfl) ⟨⟨_, rfl, (.same rfl)⟩, ⟨_, rfl, (.whole rfl rfl (by first | (simp; done) | (simp only [List.length_map]; omega)) (encL (by intro x; first | rfl | exact rxLen x)))⟩, trivial⟩ ?_
  have hll := Rx.nodesL_len l
  have hlb : 1 ≤ l.length ∧ l.length ≤ 1000000 := by omega
  refine W.region ?_
  refine mv rfl rfl ?_
  refine WL.callV ca95 (evc Ev.const (evc (tm rfl) evn)) (lo1 (lo1 lo0)) rfl (c_group W0 N _ _ hlb) ?_
  rintro _ ⟨z_, rfl, hx_⟩
  refine WL.stp rfl (Stp.st (tm rfl) (tm rfl) zs98 rfl rfl rfl rfl rfl rfl rfl rfl) ?_
  refine WL.norm 16 [(2, _)] [some ⟨_, _, [[_, _, _]]⟩, some ⟨_, _, [[_, _, _, _]]⟩] rfl ⟨rfl, trivial⟩ rfl rfl ?_
  refine wn ?_
  refine W.ret ?_
  obtain ⟨hgB, hgn⟩ := group_ok hx_ hv3 hv4 hv5
  exact Ret.of (h' := HR ts i2 bad2) (.inr rfl) rfl (resCell rfl Tryd.underlying98 rfl zs98 rfl rfl rfl rfl rfl rfl) (Fewer.pre _ rfl) (.inr HR.lo) (fun id h => by have h0 : id = 0 := Nat.lt_one_iff.1 h; subst h0; exact .inl rfl) (.same rfl) ⟨z_, i2, bad2, rfl, rfl, by omega, by omega, hgB, hgn, hv6⟩
-- (*enthymemeref04.reader).conj
set_option maxHeartbeats 1000000 in
theorem c_conj (W0 : World) (N : Nat) (ts : List Tk) (hts : TOk ts) (b : Nat) : (∀ (i : Int) (bad : Bool), 0 ≤ i → i < ts.length → ts.length - i < ((b : Nat) : Int) → AC (En W0 N) 100 [.ptr 0 0 3 0 0] (HR ts i bad) (PX ts i bad)) → ∀ (i : Int) (bad : Bool), 0 ≤ i → i < ts.length → ts.length - i < ((b : Nat) : Int) → AC (En W0 N) 93 [.ptr 0 0 3 0 0] (HR ts i bad) (PX ts i bad) := by
  intro hC
  intro i bad h0 h1 hb
  have hlen := hts.len
  refine AC.enter Tryd.func93 rfl Tryd.ntmps93 (bl rfl) fun X => ?_
  refine sr ?_
  refine WL.stp rfl (Stp.alloc zz98 rfl rfl) ?_
  refine WL.norm 16 [(0, _), (2, _)] [some ⟨_, _, [[_, _, _]]⟩, some ⟨_, _, [[_, _, _, _]]⟩] rfl ⟨rfl, rfl, trivial⟩ rfl rfl ?_
  refine wn ?_
  refine sr ?_
  refine mv rfl rfl ?_
  refine WL.callPre (args := [.ptr 0 0 3 0 0]) (caps := []) (HR _ _ _) _ ca100 Fun.func (evc (tm rfl) evn) rfl rfl rfl HR.lo (hC _ _ (by omega) (by omega) (by omega)) (PX.ok rfl) rfl ?_
  rintro _ _ ⟨x_, i2_, b2_, rfl, rfl, hi2, hl2, hB2, hn2, hbb2⟩
  refine WL.stp rfl (Stp.buildSlice (xs := [_]) Tryd.underlying96 zs98 zz98 rfl rfl (evc (tm rfl) evn) fitL (bl rfl) rfl) ?_
  refine asg rfl rfl ?_
  refine WL.norm 16 [(0, _), (2, _), (3, _)] [some ⟨_, _, [[_, _, _]]⟩, some ⟨_, _, [[_, _, _, _]]⟩, some ⟨_, 4, fz (([x_] : List Rx).map Rx.cells)⟩] rfl ⟨rfl, rfl, rfl, trivial⟩ (by rw [← els_rx]; rfl) rfl ?_
  refine wn ?_
  refine W.seq ?_
  refine W.norm 16 [(0, _), (2, _), (3, _)] [some ⟨_, _, [[_, _, _]]⟩, some ⟨_, _, [[_, _, _, _]]⟩, some ⟨_, _, _⟩] rfl ⟨rfl, rfl, rfl, trivial⟩ rfl rfl ?_
  refine W.block (W.loop (fun nn S => ∃ (i2 : Int) (bad2 : Bool) (l : List Rx) (gen : Nat), S = ⟨16, [(0, .ptr 0 0 3 0 0), (2, .ptr 1 0 4 0 0), (3, .row 2 gen 4 0 l.length)], HR ts i2 bad2 ++ [some ⟨0, 4, [[.i 0, .c 0, .c 0, .nil]]⟩, some ⟨gen, 4, fz (l.map Rx.cells)⟩], []⟩ ∧ nn = ((ts.length - i2).toNat) ∧ (i ≤ i2) ∧ (i2 < ts.length) ∧ (1 ≤ l.length) ∧ (∀ x, x ∈ l → RxB x) ∧ ((Rx.nodesL l : Int) ≤ 4 * (i2 - i) + 1) ∧ (2 ≤ l.length → (Rx.nodesL l : Int) + 1 ≤ 4 * (i2 - i) + 1) ∧ (bad = true → bad2 = true)) ⟨_, _, [x_], _, rfl, rfl, by omega, by omega, by simp, fun x hx => by rw [List.mem_singleton.1 hx]; exact hB2, by rw [nodesL_one]; omega, fun h => by simp at h, hbb2⟩ ?_)
  rintro nn S ⟨i2, bad2, l, gen, rfl, rfl, hv0, hv1, hv2, hv3, hv4, hv5, hv6⟩
  refine W.seq ?_
  refine sr ?_
  refine mv rfl rfl ?_
  refine WL.callPre (args := [.ptr 0 0 3 0 0, .s ⟨#[38]⟩]) (caps := []) (HR _ _ _) _ ca94 Fun.func (evc (tm rfl) (evc Ev.const evn)) rfl rfl rfl HR.lo (c_take W0 N ts hts _ _ _ (by omega) (by omega)) (RTk.ok rfl) rfl ?_
  rintro _ _ ⟨rfl, rfl⟩
  refine WL.norm 16 [(0, _), (2, _), (3, _), (8, _)] [some ⟨_, _, [[_, _, _]]⟩, some ⟨_, _, [[_, _, _, _]]⟩, some ⟨_, _, _⟩] rfl ⟨rfl, rfl, rfl, rfl, trivial⟩ rfl rfl ?_
  refine wn ?_
  refine W.condP rfl (fun hc2 => ?_) (fun hc2 => ?_)
  · rcases take_cases hts (i := i2) (bad := bad2) (w := ⟨#[38]⟩) (by omega) (lit_ne (by decide)) (lit_ne (by decide)) with ⟨ht, hti, htb, htl⟩ | ⟨ht, hti⟩
    rotate_left
    · rw [hc2] at ht; cases ht
    rw [hti]
    refine W.skip (nm ?_)
    refine W.block ?_
    have hll := Rx.nodesL_len l
    refine W.region ?_
    refine mv rfl rfl ?_
    refine mv rfl rfl ?_
    refine WL.callPre (args := [.ptr 0 0 3 0 0]) (caps := []) (HR _ _ _) _ ca100 Fun.func (evc (tm rfl) evn) rfl rfl rfl HR.lo (hC _ _ (by omega) (by omega) (by omega)) (PX.ok rfl) rfl ?_
    rintro _ _ ⟨y_, i3_, b3_, rfl, rfl, hi3, hl3, hB3, hn3, hbb3⟩
    refine WL.stp rfl (Stp.buildFrozen (xs := [_]) (fs := ([y_] : List Rx).map Rx.cells) Tryd.underlying96 zs98 zz98 rfl rfl (evc (tm rfl) evn) fitL (bl rfl) (els_rx ([y_] : List Rx)) rfl) ?_
    refine WL.stp rfl (Stp.appendE (enc := Rx.cells) (l := _) ap96_96 (tm rfl) rfl rfl (ArgE.lst (enc := Rx.cells) (tm rfl) rxOne) (by simp only [List.length_cons, List.length_nil]; omega) rfl) ?_
    refine asg rfl rfl ?_
    refine WL.norm 16 [(0, _), (2, _), (3, _)] [some ⟨_, _, [[_, _, _]]⟩, some ⟨_, _, [[_, _, _, _]]⟩, some ⟨_, _, _⟩] rfl ⟨rfl, rfl, rfl, trivial⟩ rfl rfl ?_
    refine WL.nil (nb (nm ?_))
    exact ⟨_, by omega, _, _, _, _, rfl, rfl, by omega, by omega, by simp, mem_snoc hv3 hB3, by rw [nodesL_snoc]; omega, fun _ => by rw [nodesL_snoc]; omega, fun h => hbb3 (by rw [hv6 h] at htb; cases htb)⟩
  rcases take_cases hts (i := i2) (bad := bad2) (w := ⟨#[38]⟩) (by omega) (lit_ne (by decide)) (lit_ne (by decide)) with ⟨ht, hti, htb, htl⟩ | ⟨ht, hti⟩
  · rw [hc2] at ht; cases ht
  rw [hti]
  refine W.exit (ex1 (ex1 (ex2 (nm ?_))))
  refine W.seq ?_
  refine W.cut (env := [(2, _), (3, _)]) (h' := [some ⟨_, _, [[_, _, _]]⟩, some ⟨_, _, [[_, _, _, _]]⟩]) (Fewer.pre _ rfl) (.inr (HLo.box (lo1 (lo1 (lo1 lo0))) (HLo.box (lo1 (lo1 (lo1 (lo1 lo0)))) HLo.nil))) (fun id h => by have h0 : id = 0 := Nat.lt_one_iff.1 h; subst h0; exact .inl rfl) ⟨⟨_, rfl, (.same rfl)⟩, ⟨_, rfl, (.whole rfl rfl (by first | (simp; done) | (simp only [List.length_map]; omega)) (encL (by intro x; first | rfl | exact rxLen x)))⟩, trivial⟩ ?_
  have hll := Rx.nodesL_len l
  have hlb : 1 ≤ l.length ∧ l.length ≤ 1000000 := by omega
  refine W.region ?_
  refine mv rfl rfl ?_
  refine WL.callV ca95 (evc Ev.const (evc (tm rfl) evn)) (lo1 (lo1 lo0)) rfl (c_group W0 N _ _ hlb) ?_
  rintro _ ⟨z_, rfl, hx_⟩
  refine WL.stp rfl (Stp.st (tm rfl) (tm rfl) zs98 rfl rfl rfl rfl rfl rfl rfl rfl) ?_
  refine WL.norm 16 [(2, _)] [some ⟨_, _, [[_, _, _]]⟩, some ⟨_, _, [[_, _, _, _]]⟩] rfl ⟨rfl, trivial⟩ rfl rfl ?_
  refine wn ?_
  refine W.ret ?_
  obtain ⟨hgB, hgn⟩ := group_ok hx_ hv3 hv4 hv5
  exact Ret.of (h' := HR ts i2 bad2) (.inr rfl) rfl (resCell rfl Tryd.underlying98 rfl zs98 rfl rfl rfl rfl rfl rfl) (Fewer.pre _ rfl) (.inr HR.lo) (fun id h => by have h0 : id = 0 := Nat.lt_one_iff.1 h; subst h0; exact .inl rfl) (.same rfl) ⟨z_, i2, bad2, rfl, rfl, by omega, by omega, hgB, hgn, hv6⟩
-- (*enthymemeref04.reader).expr
set_option maxHeartbeats 1000000 in
theorem c_expr (W0 : World) (N : Nat) (ts : List Tk) (hts : TOk ts) (b : Nat) : (∀ (i : Int) (bad : Bool), 0 ≤ i → i < ts.length → ts.length - i < ((b : Nat) : Int) → AC (En W0 N) 93 [.ptr 0 0 3 0 0] (HR ts i bad) (PX ts i bad)) → ∀ (i : Int) (bad : Bool), 0 ≤ i → i < ts.length → ts.length - i < ((b : Nat) : Int) → AC (En W0 N) 78 [.ptr 0 0 3 0 0] (HR ts i bad) (PX ts i bad) := by
  intro hC
  intro i bad h0 h1 hb
  have hlen := hts.len
  refine AC.enter Tryd.func78 rfl Tryd.ntmps78 (bl rfl) fun X => ?_
  refine sr ?_
  refine WL.stp rfl (Stp.alloc zz98 rfl rfl) ?_
  refine WL.norm 16 [(0, _), (2, _)] [some ⟨_, _, [[_, _, _]]⟩, some ⟨_, _, [[_, _, _, _]]⟩] rfl ⟨rfl, rfl, trivial⟩ rfl rfl ?_
  refine wn ?_
  refine sr ?_
  refine mv rfl rfl ?_
  refine WL.callPre (args := [.ptr 0 0 3 0 0]) (caps := []) (HR _ _ _) _ ca93 Fun.func (evc (tm rfl) evn) rfl rfl rfl HR.lo (hC _ _ (by omega) (by omega) (by omega)) (PX.ok rfl) rfl ?_
  rintro _ _ ⟨x_, i2_, b2_, rfl, rfl, hi2, hl2, hB2, hn2, hbb2⟩
  refine WL.stp rfl (Stp.buildSlice (xs := [_]) Tryd.underlying96 zs98 zz98 rfl rfl (evc (tm rfl) evn) fitL (bl rfl) rfl) ?_
  refine asg rfl rfl ?_
  refine WL.norm 16 [(0, _), (2, _), (3, _)] [some ⟨_, _, [[_, _, _]]⟩, some ⟨_, _, [[_, _, _, _]]⟩, some ⟨_, 4, fz (([x_] : List Rx).map Rx.cells)⟩] rfl ⟨rfl, rfl, rfl, trivial⟩ (by rw [← els_rx]; rfl) rfl ?_
  refine wn ?_
  refine W.seq ?_
  refine W.norm 16 [(0, _), (2, _), (3, _)] [some ⟨_, _, [[_, _, _]]⟩, some ⟨_, _, [[_, _, _, _]]⟩, some ⟨_, _, _⟩] rfl ⟨rfl, rfl, rfl, trivial⟩ rfl rfl ?_
  refine W.block (W.loop (fun nn S => ∃ (i2 : Int) (bad2 : Bool) (l : List Rx) (gen : Nat), S = ⟨16, [(0, .ptr 0 0 3 0 0), (2, .ptr 1 0 4 0 0), (3, .row 2 gen 4 0 l.length)], HR ts i2 bad2 ++ [some ⟨0, 4, [[.i 0, .c 0, .c 0, .nil]]⟩, some ⟨gen, 4, fz (l.map Rx.cells)⟩], []⟩ ∧ nn = ((ts.length - i2).toNat) ∧ (i ≤ i2) ∧ (i2 < ts.length) ∧ (1 ≤ l.length) ∧ (∀ x, x ∈ l → RxB x) ∧ ((Rx.nodesL l : Int) ≤ 4 * (i2 - i) + 1) ∧ (2 ≤ l.length → (Rx.nodesL l : Int) + 1 ≤ 4 * (i2 - i) + 1) ∧ (bad = true → bad2 = true)) ⟨_, _, [x_], _, rfl, rfl, by omega, by omega, by simp, fun x hx => by rw [List.mem_singleton.1 hx]; exact hB2, by rw [nodesL_one]; omega, fun h => by simp at h, hbb2⟩ ?_)
  rintro nn S ⟨i2, bad2, l, gen, rfl, rfl, hv0, hv1, hv2, hv3, hv4, hv5, hv6⟩
  refine W.seq ?_
  refine sr ?_
  refine mv rfl rfl ?_
  refine WL.callPre (args := [.ptr 0 0 3 0 0, .s ⟨#[124]⟩]) (caps := []) (HR _ _ _) _ ca94 Fun.func (evc (tm rfl) (evc Ev.const evn)) rfl rfl rfl HR.lo (c_take W0 N ts hts _ _ _ (by omega) (by omega)) (RTk.ok rfl) rfl ?_
  rintro _ _ ⟨rfl, rfl⟩
  refine WL.norm 16 [(0, _), (2, _), (3, _), (8, _)] [some ⟨_, _, [[_, _, _]]⟩, some ⟨_, _, [[_, _, _, _]]⟩, some ⟨_, _, _⟩] rfl ⟨rfl, rfl, rfl, rfl, trivial⟩ rfl rfl ?_
  refine wn ?_
  refine W.condP rfl (fun hc2 => ?_) (fun hc2 => ?_)
  · rcases take_cases hts (i := i2) (bad := bad2) (w := ⟨#[124]⟩) (by omega) (lit_ne (by decide)) (lit_ne (by decide)) with ⟨ht, hti, htb, htl⟩ | ⟨ht, hti⟩
    rotate_left
    · rw [hc2] at ht; cases ht
    rw [hti]
    refine W.skip (nm ?_)
    refine W.block ?_
    have hll := Rx.nodesL_len l
    refine W.region ?_
    refine mv rfl rfl ?_
    refine mv rfl rfl ?_
    refine WL.callPre (args := [.ptr 0 0 3 0 0]) (caps := []) (HR _ _ _) _ ca93 Fun.func (evc (tm rfl) evn) rfl rfl rfl HR.lo (hC _ _ (by omega) (by omega) (by omega)) (PX.ok rfl) rfl ?_
    rintro _ _ ⟨y_, i3_, b3_, rfl, rfl, hi3, hl3, hB3, hn3, hbb3⟩
    refine WL.stp rfl (Stp.buildFrozen (xs := [_]) (fs := ([y_] : List Rx).map Rx.cells) Tryd.underlying96 zs98 zz98 rfl rfl (evc (tm rfl) evn) fitL (bl rfl) (els_rx ([y_] : List Rx)) rfl) ?_
    refine WL.stp rfl (Stp.appendE (enc := Rx.cells) (l := _) ap96_96 (tm rfl) rfl rfl (ArgE.lst (enc := Rx.cells) (tm rfl) rxOne) (by simp only [List.length_cons, List.length_nil]; omega) rfl) ?_
    refine asg rfl rfl ?_
    refine WL.norm 16 [(0, _), (2, _), (3, _)] [some ⟨_, _, [[_, _, _]]⟩, some ⟨_, _, [[_, _, _, _]]⟩, some ⟨_, _, _⟩] rfl ⟨rfl, rfl, rfl, trivial⟩ rfl rfl ?_
    refine WL.nil (nb (nm ?_))
    exact ⟨_, by omega, _, _, _, _, rfl, rfl, by omega, by omega, by simp, mem_snoc hv3 hB3, by rw [nodesL_snoc]; omega, fun _ => by rw [nodesL_snoc]; omega, fun h => hbb3 (by rw [hv6 h] at htb; cases htb)⟩
  rcases take_cases hts (i := i2) (bad := bad2) (w := ⟨#[124]⟩) (by omega) (lit_ne (by decide)) (lit_ne (by decide)) with ⟨ht, hti, htb, htl⟩ | ⟨ht, hti⟩
  · rw [hc2] at ht; cases ht
  rw [hti]
  refine W.exit (ex1 (ex1 (ex2 (nm ?_))))
  refine W.seq ?_
  refine W.cut (env := [(2, _), (3, _)]) (h' := [some ⟨_, _, [[_, _, _]]⟩, some ⟨_, _, [[_, _, _, _]]⟩]) (Fewer.pre _ rfl) (.inr (HLo.box (lo1 (lo1 (lo1 lo0))) (HLo.box (lo1 (lo1 (lo1 (lo1 lo0)))) HLo.nil))) (fun id h => by have h0 : id = 0 := Nat.lt_one_iff.1 h; subst h0; exact .inl rfl) ⟨⟨_, rfl, (.same rfl)⟩, ⟨_, rfl, (.whole rfl rfl (by first | (simp; done) | (simp only [List.length_map]; omega)) (encL (by intro x; first | rfl | exact rxLen x)))⟩, trivial⟩ ?_
  have hll := Rx.nodesL_len l
  have hlb : 1 ≤ l.length ∧ l.length ≤ 1000000 := by omega
  refine W.region ?_
  refine mv rfl rfl ?_
  refine WL.callV ca95 (evc Ev.const (evc (tm rfl) evn)) (lo1 (lo1 lo0)) rfl (c_group W0 N _ _ hlb) ?_
  rintro _ ⟨z_, rfl, hx_⟩
  refine WL.stp rfl (Stp.st (tm rfl) (tm rfl) zs98 rfl rfl rfl rfl rfl rfl rfl rfl) ?_
  refine WL.norm 16 [(2, _)] [some ⟨_, _, [[_, _, _]]⟩, some ⟨_, _, [[_, _, _, _]]⟩] rfl ⟨rfl, trivial⟩ rfl rfl ?_
  refine wn ?_
  refine W.ret ?_
  obtain ⟨hgB, hgn⟩ := group_ok hx_ hv3 hv4 hv5
  exact Ret.of (h' := HR ts i2 bad2) (.inr rfl) rfl (resCell rfl Tryd.underlying98 rfl zs98 rfl rfl rfl rfl rfl rfl) (Fewer.pre _ rfl) (.inr HR.lo) (fun id h => by have h0 : id = 0 := Nat.lt_one_iff.1 h; subst h0; exact .inl rfl) (.same rfl) ⟨z_, i2, bad2, rfl, rfl, by omega, by omega, hgB, hgn, hv6⟩
end Go.Aw
