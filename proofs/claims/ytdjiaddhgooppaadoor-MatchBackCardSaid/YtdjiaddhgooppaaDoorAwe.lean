/- The walks of the reader's parts. The walks of the reader's items. A result of three parts, the first a struct's variable; a call that is lent the second row. The walks of Parse and Canonical of regular expressions. The walks of the functions that make graphs grow. The walks of the functions that make nodes. The walks of the functions on patterns. The walks of the functions on canonical forms. The walks of the reference's canonical forms. The walks of small functions under match. -/
import Derived.Test.YtdjiaddhgooppaaDoorAwd
set_option linter.unusedVariables false
set_option linter.unusedSimpArgs false
namespace Go.Aw
open Go.RowKit Go.Proofs

abbrev wordsL : List ByteArray := [⟨#[110, 111, 110, 101]⟩, ⟨#[101, 109, 112, 116, 121]⟩, ⟨#[]⟩, ⟨#[99, 97, 116]⟩, ⟨#[97, 108, 116]⟩, ⟨#[97, 108, 108]⟩]
theorem words_ok {k : Int} (h0 : 0 ≤ k) (h1 : k < 6) (h2 : ¬ k = 2) : ¬ gA wordsL k = ⟨#[]⟩ ∧ ¬ gA wordsL k = ⟨#[32]⟩ := by
  have : k = 0 ∨ k = 1 ∨ k = 3 ∨ k = 4 ∨ k = 5 := by omega
  rcases this with rfl | rfl | rfl | rfl | rfl <;> exact ⟨lit_ne (by decide), lit_ne (by decide)⟩
theorem tk_at {ts : List Tk} (hts : TOk ts) {i : Int} (h0 : 0 ≤ i) (h1 : i < ts.length) : RxB (gA ts i).r ∧ (gA ts i).r.nodes = 1 := (hts.all _ (gA_mem h0 h1)).2.b
theorem kind_lt {ts : List Tk} (hts : TOk ts) {i : Int} (h1 : i < ts.length) (h : (gA ts i).r.kind = 2) : i + 1 < ts.length := by
  by_cases hl : i = (ts.length : Int) - 1
  · exfalso
    have := hts.last.2
    rw [← hl] at this
    rw [this] at h
    exact absurd h (by decide)
  · omega

theorem take_cases' {ts : List Tk} (hts : TOk ts) {i : Int} {bad : Bool} {w : ByteArray} (h1 : i < ts.length) (hw : ¬ w = ⟨#[]⟩) (hw2 : ¬ w = ⟨#[32]⟩) : ∃ i' q, takeI ts i bad w = i' ∧ decide (seeF ts i bad = w) = q ∧ ((q = true ∧ i' = i + 1 ∧ bad = false ∧ i + 1 < ts.length) ∨ (q = false ∧ i' = i)) :=
  ⟨_, _, rfl, rfl, take_cases hts h1 hw hw2⟩
theorem need_cases {ts : List Tk} (hts : TOk ts) {i : Int} {bad : Bool} {w : ByteArray} (h1 : i < ts.length) (hw : ¬ w = ⟨#[]⟩) (hw2 : ¬ w = ⟨#[32]⟩) : ∃ i' b', takeI ts i bad w = i' ∧ (bad || !decide (seeF ts i bad = w)) = b' ∧ ((i' = i + 1 ∧ b' = bad ∧ bad = false ∧ i + 1 < ts.length) ∨ (i' = i ∧ b' = true)) := by
  refine ⟨_, _, rfl, rfl, ?_⟩
  rcases take_cases hts (bad := bad) h1 hw hw2 with ⟨a, b, c, d⟩ | ⟨a, b⟩
  · rw [a]; exact .inl ⟨b, by cases bad <;> rfl, c, d⟩
  · rw [a]; exact .inr ⟨b, by cases bad <;> rfl⟩

-- (*enthymemeref04.reader).kids
set_option maxHeartbeats 1000000 in
theorem c_kids (W0 : World) (N : Nat) (ts : List Tk) (hts : TOk ts) (b : Nat) : EX W0 N ts b → ∀ (i : Int) (bad : Bool), 0 ≤ i → i < ts.length → ts.length - i < ((b + 1 : Nat) : Int) → AC (En W0 N) 106 [.ptr 0 0 3 0 0] (HR ts i bad) (PK ts i bad) := by
  intro hE
  intro i bad h0 h1 hb
  have hlen := hts.len
  refine AC.enter Tryd.func106 rfl Tryd.ntmps106 (bl rfl) fun X => ?_
  refine sr ?_
  refine WL.v (Val.assign Ev.const) rfl ?_
  refine WL.norm 29 [(0, _)] [some ⟨_, _, [[_, _, _]]⟩] rfl ⟨rfl, trivial⟩ rfl rfl ?_
  refine wn ?_
  refine sr ?_
  refine mv rfl rfl ?_
  refine WL.callPre (args := [.ptr 0 0 3 0 0, .s ⟨#[40]⟩]) (caps := []) (HR _ _ _) _ ca79 Fun.func (evc (tm rfl) (evc Ev.const evn)) rfl rfl rfl HR.lo (c_need W0 N ts hts _ _ _ (by omega) (by omega)) (RNd.ok rfl) rfl ?_
  rintro _ _ ⟨rfl, rfl⟩
  obtain ⟨i_1, b_1, hi_1, hb_1, hN1⟩ := need_cases hts (i := i) (bad := bad) (w := ⟨#[40]⟩) (by omega) (lit_ne (by decide)) (lit_ne (by decide))
  rw [hi_1, hb_1]
  refine WL.norm 29 [(0, _)] [some ⟨_, _, [[_, _, _]]⟩] rfl ⟨rfl, trivial⟩ rfl rfl ?_
  refine wn ?_
  refine sr ?_
  refine mv rfl rfl ?_
  refine WL.callPre (args := [.ptr 0 0 3 0 0, .s ⟨#[41]⟩]) (caps := []) (HR _ _ _) _ ca94 Fun.func (evc (tm rfl) (evc Ev.const evn)) rfl rfl rfl HR.lo (c_take W0 N ts hts _ _ _ (by omega) (by omega)) (RTk.ok rfl) rfl ?_
  rintro _ _ ⟨rfl, rfl⟩
  obtain ⟨i_2, q_2, hi_2, hq_2, hT2⟩ := take_cases' hts (i := i_1) (bad := b_1) (w := ⟨#[41]⟩) (by omega) (lit_ne (by decide)) (lit_ne (by decide))
  rw [hi_2, hq_2]
  refine asg rfl rfl ?_
  refine WL.norm 29 [(0, _), (3, _)] [some ⟨_, _, [[_, _, _]]⟩] rfl ⟨rfl, rfl, trivial⟩ rfl rfl ?_
  refine wn ?_
  refine W.seq ?_
  refine sr ?_
  refine mv rfl rfl ?_
  refine WL.v (Val.nilCheck (tm rfl)) rfl ?_
  refine WL.v (Val.fal (off := 2) Tryd.underlying124 rfl rfl zs4 (tm rfl)) rfl ?_
  refine WL.v (Val.loadLive Tryd.underlying4 rfl (tm rfl) rfl rfl rfl rfl rfl) rfl ?_
  refine mv rfl rfl ?_
  refine WL.g (Grd.f rfl rfl rfl) (fun hG => Val.move (tm rfl)) rfl ?_
  refine WL.v (Val.or (tm rfl) (fun hb => Ev.opt rfl (nt hb))) rfl ?_
  refine WL.norm 29 [(0, _), (15, _)] [some ⟨_, _, [[_, _, _]]⟩] rfl ⟨rfl, rfl, trivial⟩ rfl rfl ?_
  refine wn ?_
  refine W.condP rfl (fun hc3 => ?_) (fun hc3 => ?_)
  · try simp only [td] at hc3
    refine sr ?_
    refine WL.v (Val.assign Ev.const) rfl ?_
    refine WL.norm 29 [(2, _)] [some ⟨_, _, [[_, _, _]]⟩] rfl ⟨rfl, trivial⟩ rfl rfl ?_
    refine wn ?_
    refine W.ret (rt1 ?_)
    exact Ret.of (h' := HR ts i_2 b_1) (.inr rfl) rfl (res1 rfl rfl) (Fewer.pre _ rfl) (.inr HR.lo) (fun id h => by have h0 : id = 0 := Nat.lt_one_iff.1 h; subst h0; exact .inl rfl) .nil ⟨[], i_2, b_1, rfl, rfl, by omega, by omega, fun x hx => by simp at hx, by simp only [Rx.nodesL]; omega, fun h => by rcases hN1 with ⟨_, a, c, _⟩ | ⟨_, a⟩; rw [c] at h; cases h; exact a⟩
  have hb1 : b_1 = false ∧ q_2 = false := by cases b_1 <;> cases q_2 <;> simp_all
  obtain ⟨hb1, hq2⟩ := hb1
  have hN : i_1 = i + 1 ∧ bad = false ∧ i + 1 < ts.length := by rcases hN1 with ⟨a, c, d, e⟩ | ⟨a, c⟩; exact ⟨a, d, e⟩; rw [c] at hb1; cases hb1
  have hT : i_2 = i_1 := by rcases hT2 with ⟨a, _⟩ | ⟨_, a⟩; rw [hq2] at a; cases a; exact a
  refine W.skip (nm ?_)
  refine sr ?_
  refine mv rfl rfl ?_
  refine WL.callPre (args := [.ptr 0 0 3 0 0]) (caps := []) (HR _ _ _) _ ca78 Fun.func (evc (tm rfl) evn) rfl rfl rfl HR.lo (hE _ _ (by omega) (by omega) (by omega)) (PX.ok rfl) rfl ?_
  rintro _ _ ⟨x_, i2_, b2_, rfl, rfl, hi2, hl2, hB2, hn2, hbb2⟩
  refine WL.stp rfl (Stp.buildSlice (xs := [_]) Tryd.underlying96 zs98 zz98 rfl rfl (evc (tm rfl) evn) fitL (bl rfl) rfl) ?_
  refine asg rfl rfl ?_
  refine WL.norm 29 [(0, _), (4, _)] [some ⟨_, _, [[_, _, _]]⟩, some ⟨_, 4, fz (([x_] : List Rx).map Rx.cells)⟩] rfl ⟨rfl, rfl, trivial⟩ (by rw [← els_rx]; rfl) rfl ?_
  refine wn ?_
  refine W.seq ?_
  refine W.norm 29 [(0, _), (4, _)] [some ⟨_, _, [[_, _, _]]⟩, some ⟨_, _, _⟩] rfl ⟨rfl, rfl, trivial⟩ rfl rfl ?_
  refine W.block (W.loop (fun nn S => ∃ (i2 : Int) (bad2 : Bool) (l : List Rx) (gen : Nat), S = ⟨29, [(0, .ptr 0 0 3 0 0), (4, .row 1 gen 4 0 l.length)], HR ts i2 bad2 ++ [some ⟨gen, 4, fz (l.map Rx.cells)⟩], []⟩ ∧ nn = ((ts.length - i2).toNat) ∧ (i ≤ i2) ∧ (i2 < ts.length) ∧ (∀ x, x ∈ l → RxB x) ∧ ((Rx.nodesL l : Int) + 3 ≤ 4 * (i2 - i)) ∧ (bad = true → bad2 = true)) ⟨_, _, [x_], _, rfl, rfl, by omega, by omega, fun x hx => by rw [List.mem_singleton.1 hx]; exact hB2, by rw [nodesL_one]; omega, fun h => by rw [hN.2.1] at h; cases h⟩ ?_)
  rintro nn S ⟨i2, bad2, l, gen, rfl, rfl, hv0, hv1, hv2, hv3, hv4⟩
  refine W.seq ?_
  refine sr ?_
  refine mv rfl rfl ?_
  refine WL.callPre (args := [.ptr 0 0 3 0 0, .s ⟨#[44]⟩]) (caps := []) (HR _ _ _) _ ca94 Fun.func (evc (tm rfl) (evc Ev.const evn)) rfl rfl rfl HR.lo (c_take W0 N ts hts _ _ _ (by omega) (by omega)) (RTk.ok rfl) rfl ?_
  rintro _ _ ⟨rfl, rfl⟩
  obtain ⟨i_3, q_3, hi_3, hq_3, hT3⟩ := take_cases' hts (i := i2) (bad := bad2) (w := ⟨#[44]⟩) (by omega) (lit_ne (by decide)) (lit_ne (by decide))
  rw [hi_3, hq_3]
  refine WL.norm 29 [(0, _), (4, _), (20, _)] [some ⟨_, _, [[_, _, _]]⟩, some ⟨_, _, _⟩] rfl ⟨rfl, rfl, rfl, trivial⟩ rfl rfl ?_
  refine wn ?_
  refine W.condP rfl (fun hc6 => ?_) (fun hc6 => ?_)
  · have hT : i_3 = i2 + 1 ∧ bad2 = false ∧ i2 + 1 < ts.length := by rcases hT3 with ⟨_, a, c, d⟩ | ⟨a, _⟩; exact ⟨a, c, d⟩; rw [hc6] at a; cases a
    refine W.skip (nm ?_)
    refine W.block ?_
    have hll := Rx.nodesL_len l
    refine W.region ?_
    refine mv rfl rfl ?_
    refine mv rfl rfl ?_
    refine WL.callPre (args := [.ptr 0 0 3 0 0]) (caps := []) (HR _ _ _) _ ca78 Fun.func (evc (tm rfl) evn) rfl rfl rfl HR.lo (hE _ _ (by omega) (by omega) (by omega)) (PX.ok rfl) rfl ?_
    rintro _ _ ⟨y_, i3_, b3_, rfl, rfl, hi3, hl3, hB3, hn3, hbb3⟩
    refine WL.stp rfl (Stp.buildFrozen (xs := [_]) (fs := ([y_] : List Rx).map Rx.cells) Tryd.underlying96 zs98 zz98 rfl rfl (evc (tm rfl) evn) fitL (bl rfl) (els_rx ([y_] : List Rx)) rfl) ?_
    refine WL.stp rfl (Stp.appendE (enc := Rx.cells) (l := _) ap96_96 (tm rfl) rfl rfl (ArgE.lst (enc := Rx.cells) (tm rfl) rxOne) (by simp only [List.length_cons, List.length_nil]; omega) rfl) ?_
    refine asg rfl rfl ?_
    refine WL.norm 29 [(0, _), (4, _)] [some ⟨_, _, [[_, _, _]]⟩, some ⟨_, _, _⟩] rfl ⟨rfl, rfl, trivial⟩ rfl rfl ?_
    refine WL.nil (nb (nm ?_))
    exact ⟨_, by omega, _, _, l ++ [y_], _, rfl, rfl, by omega, by omega, mem_snoc hv2 hB3, by rw [nodesL_snoc]; omega, fun h => by have := hv4 h; rw [hT.2.1] at this; cases this⟩
  have hT : i_3 = i2 := by rcases hT3 with ⟨a, _⟩ | ⟨_, a⟩; rw [hc6] at a; cases a; exact a
  rw [hT]
  refine W.exit (ex1 (ex1 (ex2 (nm ?_))))
  refine sr ?_
  refine mv rfl rfl ?_
  refine WL.callPre (args := [.ptr 0 0 3 0 0, .s ⟨#[41]⟩]) (caps := []) (HR _ _ _) _ ca79 Fun.func (evc (tm rfl) (evc Ev.const evn)) rfl rfl rfl HR.lo (c_need W0 N ts hts _ _ _ (by omega) (by omega)) (RNd.ok rfl) rfl ?_
  rintro _ _ ⟨rfl, rfl⟩
  obtain ⟨i_4, b_4, hi_4, hb_4, hN4⟩ := need_cases hts (i := i2) (bad := bad2) (w := ⟨#[41]⟩) (by omega) (lit_ne (by decide)) (lit_ne (by decide))
  rw [hi_4, hb_4]
  refine WL.norm 29 [(4, _)] [some ⟨_, _, [[_, _, _]]⟩, some ⟨_, _, _⟩] rfl ⟨rfl, trivial⟩ rfl rfl ?_
  refine wn ?_
  refine W.seq ?_
  have hll := Rx.nodesL_len l
  refine W.region ?_
  refine mv rfl rfl ?_
  refine asg rfl rfl ?_
  refine WL.norm 29 [(2, _)] [some ⟨_, _, [[_, _, _]]⟩, some ⟨_, _, _⟩] rfl ⟨rfl, trivial⟩ rfl rfl ?_
  refine wn ?_
  refine W.ret ?_
  exact Ret.of (h' := HR ts i_4 b_4) (.inr rfl) rfl (res1 rfl rfl) (Fewer.pre _ rfl) (.inr HR.lo) (fun id h => by have h0 : id = 0 := Nat.lt_one_iff.1 h; subst h0; exact .inl rfl) (.whole rfl rfl (by first | (simp; done) | (simp only [List.length_map]; omega)) (encL (by intro x; first | rfl | exact rxLen x))) ⟨l, i_4, b_4, rfl, rfl, by omega, by omega, hv2, by omega, fun h => by have := hv4 h; rcases hN4 with ⟨_, a, c, _⟩ | ⟨_, a⟩; rw [c] at this; cases this; exact a⟩
end Go.Aw
namespace Go.Aw
open Go.RowKit Go.Proofs

-- (*enthymemeref04.reader).atom
set_option maxHeartbeats 1000000 in
theorem c_atom (W0 : World) (N : Nat) (ts : List Tk) (hts : TOk ts) (b : Nat) : EX W0 N ts b → ∀ (i : Int) (bad : Bool), 0 ≤ i → i < ts.length → ts.length - i < ((b + 1 : Nat) : Int) → AC (En W0 N) 105 [.ptr 0 0 3 0 0] (HR ts i bad) (PI ts i bad) := by
  intro hE
  intro i bad h0 h1 hb
  have hlen := hts.len
  refine AC.enter Tryd.func105 rfl Tryd.ntmps105 (bl rfl) fun X => ?_
  refine sr ?_
  refine WL.stp rfl (Stp.alloc zz98 rfl rfl) ?_
  refine WL.norm 89 [(0, _), (2, _)] [some ⟨_, _, [[_, _, _]]⟩, some ⟨_, _, [[_, _, _, _]]⟩] rfl ⟨rfl, rfl, trivial⟩ rfl rfl ?_
  refine wn ?_
  refine W.seq ?_
  refine W.seq ?_
  refine W.drawE (fun k => ([([], []), ([], []), ([], []), ([0], []), ([], []), ([], []), ([], []), ([], []), ([], []), ([0], []), ([], []), ([], []), ([], []), ([0], []), ([], []), ([], []), ([], []), ([], []), ([], []), ([], [])] : List (List Nat × List Nat)).getD k ([], [])) rfl (by kernel_rfl) (bl rfl) ?_
  refine LexE.val rfl rfl rfl (fun h' ha => Val.move (tm rfl)) ?_
  refine LexE.val rfl rfl rfl (fun h' ha => Val.nilCheck (tm rfl)) ?_
  refine LexE.val rfl rfl rfl (fun h' ha => Val.fal (off := 2) Tryd.underlying124 rfl rfl zs4 (tm rfl)) ?_
  refine LexE.val rfl rfl rfl (fun h' ha => Val.loadLive Tryd.underlying4 rfl (tm rfl) ((ha.at_ 0 (by decide)).trans rfl) rfl rfl rfl rfl) ?_
  refine LexE.val rfl rfl rfl (fun h' ha => Val.not (tm rfl)) ?_
  refine LexE.val rfl rfl rfl (fun h' ha => Val.move (tm rfl)) ?_
  refine LexE.gval rfl (fun h' => (Grd.t rfl rfl rfl)) rfl (fun hG h' ha => Val.move (tm rfl)) ?_
  refine LexE.gval rfl (fun h' => (Grd.t rfl rfl rfl)) rfl (fun hG h' ha => Val.nilCheck (Ev.opt rfl hG)) ?_
  refine LexE.gval rfl (fun h' => (Grd.t rfl rfl rfl)) rfl (fun hG h' ha => Val.fal (off := 0) Tryd.underlying124 rfl rfl zs121 (Ev.opt rfl hG)) ?_
  refine LexE.gval rfl (fun h' => (Grd.t rfl rfl rfl)) rfl (fun hG h' ha => Val.loadLive Tryd.underlying121 rfl (Ev.opt rfl hG) ((ha.at_ 0 (by decide)).trans rfl) rfl rfl rfl rfl) ?_
  refine LexE.gval rfl (fun h' => (Grd.t rfl rfl rfl)) rfl (fun hG h' ha => Val.move (tm rfl)) ?_
  refine LexE.gval rfl (fun h' => (Grd.t rfl rfl rfl)) rfl (fun hG h' ha => Val.nilCheck (Ev.opt rfl hG)) ?_
  refine LexE.gval rfl (fun h' => (Grd.t rfl rfl rfl)) rfl (fun hG h' ha => Val.fal (off := 1) Tryd.underlying124 rfl rfl zs3 (Ev.opt rfl hG)) ?_
  refine LexE.gval rfl (fun h' => (Grd.t rfl rfl rfl)) rfl (fun hG h' ha => Val.loadLive Tryd.underlying3 rfl (Ev.opt rfl hG) ((ha.at_ 0 (by decide)).trans rfl) rfl rfl rfl rfl) ?_
  refine LexE.gval rfl (fun h' => (Grd.t rfl rfl rfl)) rfl (fun hG h' ha => Val.ix (enc := Tk.cells) Tryd.underlying121 zs127 (Ev.opt rfl hG) (Ev.opt rfl hG) (by try simp only [td] at hG; omega) (gA_at (by try simp only [td] at hG; omega) (by try simp only [td] at hG; omega))) ?_
  refine LexE.gval rfl (fun h' => (Grd.t rfl rfl rfl)) rfl (fun hG h' ha => Val.fa (off := 2) Tryd.underlying127 rfl rfl zs98 (Ev.opt rfl hG)) ?_
  refine LexE.gval rfl (fun h' => (Grd.t rfl rfl rfl)) rfl (fun hG h' ha => Val.fa (off := 0) Tryd.underlying98 rfl rfl zs3 (Ev.opt rfl hG)) ?_
  refine LexE.gval rfl (fun h' => (Grd.t rfl rfl rfl)) rfl (fun hG h' ha => Val.load Tryd.underlying3 rfl (Ev.opt rfl hG)) ?_
  refine LexE.gval rfl (fun h' => (Grd.t rfl rfl rfl)) rfl (fun hG h' ha => Val.eql (Ev.opt rfl hG) Ev.const) ?_
  refine LexE.val rfl rfl rfl (fun h' ha => Val.and (tm rfl) (fun hb => Ev.opt rfl hb)) ?_
  refine LexE.nil (nm ?_)
  refine W.norm 89 [(0, _), (2, _), (26, _)] [some ⟨_, _, [[_, _, _]]⟩, some ⟨_, _, [[_, _, _, _]]⟩] rfl ⟨rfl, rfl, rfl, trivial⟩ rfl rfl ?_
  refine W.condP rfl (fun hc1 => ?_) (fun hc1 => ?_)
  · try simp only [td] at hc1
    refine W.seq ?_
    have hkl := kind_lt hts h1 hc1.2
    refine W.region ?_
    refine mv rfl rfl ?_
    refine WL.v (Val.nilCheck (tm rfl)) rfl ?_
    refine WL.v (Val.fal (off := 1) Tryd.underlying124 rfl rfl zs3 (tm rfl)) rfl ?_
    refine WL.v (Val.loadLive Tryd.underlying3 rfl (tm rfl) rfl rfl rfl rfl rfl) rfl ?_
    refine WL.v (Val.add (tm rfl) Ev.const (IntWalk.i64_in _ (by omega))) rfl ?_
    refine WL.v (Val.nilCheck (tm rfl)) rfl ?_
    refine WL.v (Val.fal (off := 1) Tryd.underlying124 rfl rfl zs3 (tm rfl)) rfl ?_
    refine WL.stp rfl (Stp.st (tm rfl) (tm rfl) zs3 rfl rfl rfl rfl rfl rfl rfl rfl) ?_
    refine WL.norm 89 [(0, _), (2, _)] [some ⟨_, _, [[_, _, _]]⟩, some ⟨_, _, [[_, _, _, _]]⟩] rfl ⟨rfl, rfl, trivial⟩ rfl rfl ?_
    refine wn ?_
    refine W.seq ?_
    have htk := tk_at hts (i := i + 1 - 1) (by omega) (by omega)
    refine W.drawE (fun k => ([([], []), ([], []), ([], []), ([0], []), ([], []), ([], []), ([], []), ([0], []), ([], []), ([], []), ([], []), ([], []), ([1], [1])] : List (List Nat × List Nat)).getD k ([], [])) rfl (by kernel_rfl) (bl rfl) ?_
    refine LexE.val rfl rfl rfl (fun h' ha => Val.move (tm rfl)) ?_
    refine LexE.val rfl rfl rfl (fun h' ha => Val.nilCheck (tm rfl)) ?_
    refine LexE.val rfl rfl rfl (fun h' ha => Val.fal (off := 0) Tryd.underlying124 rfl rfl zs121 (tm rfl)) ?_
    refine LexE.val rfl rfl rfl (fun h' ha => Val.loadLive Tryd.underlying121 rfl (tm rfl) ((ha.at_ 0 (by decide)).trans rfl) rfl rfl rfl rfl) ?_
    refine LexE.val rfl rfl rfl (fun h' ha => Val.move (tm rfl)) ?_
    refine LexE.val rfl rfl rfl (fun h' ha => Val.nilCheck (tm rfl)) ?_
    refine LexE.val rfl rfl rfl (fun h' ha => Val.fal (off := 1) Tryd.underlying124 rfl rfl zs3 (tm rfl)) ?_
    refine LexE.val rfl rfl rfl (fun h' ha => Val.loadLive Tryd.underlying3 rfl (tm rfl) ((ha.at_ 0 (by decide)).trans rfl) rfl rfl rfl rfl) ?_
    refine LexE.val rfl rfl rfl (fun h' ha => Val.sub (tm rfl) Ev.const (IntWalk.i64_in _ (by omega))) ?_
    refine LexE.val rfl rfl rfl (fun h' ha => Val.ix (enc := Tk.cells) Tryd.underlying121 zs127 (tm rfl) (tm rfl) (by omega) (gA_at (by omega) (by omega))) ?_
    refine LexE.val rfl rfl rfl (fun h' ha => Val.fa (off := 2) Tryd.underlying127 rfl rfl zs98 (tm rfl)) ?_
    refine LexE.val rfl rfl rfl (fun h' ha => Val.loadAgg Tryd.underlying98 rfl zs98 (tm rfl) (bl rfl)) ?_
    refine LexE.stp (U := [(1, _)]) rfl rfl rfl rfl (fun h => by first | rfl | cases h) (fun h' ha m' => Stp.st (tm rfl) (tm rfl) zs98 rfl rfl ((ha.at_ 1 (by decide)).trans rfl) rfl rfl rfl rfl rfl) ?_
    refine LexE.nil (nm ?_)
    refine W.norm 89 [(2, _)] [some ⟨_, _, [[_, _, _]]⟩, some ⟨_, _, [[_, _, _, _]]⟩] rfl ⟨rfl, trivial⟩ rfl rfl ?_
    refine W.ret (rt1 ?_)
    exact Ret.of (h' := HR ts (i + 1) bad) (.inr rfl) rfl (resCell rfl Tryd.underlying98 rfl zs98 rfl rfl rfl rfl rfl rfl) (Fewer.pre _ rfl) (.inr HR.lo) (fun id h => by have h0 : id = 0 := Nat.lt_one_iff.1 h; subst h0; exact .inl rfl) (.same rfl) ⟨(gA ts (i + 1 - 1)).r, i + 1, bad, rfl, rfl, by omega, by omega, htk.1, by rw [htk.2]; omega, fun h => h, fun _ => by rw [htk.2]; omega, fun _ => by omega⟩
  try simp only [td] at hc1
  refine W.skip (nm ?_)
  refine sr ?_
  refine WL.stp rfl (Stp.buildFrozen (xs := [_, _, _, _, _, _]) (fs := wordsL.map encS) Tryd.underlying84 zs9 zz9 rfl rfl (evc Ev.const (evc Ev.const (evc Ev.const (evc Ev.const (evc Ev.const (evc Ev.const evn)))))) fitL (bl rfl) rfl rfl) ?_
  refine asg rfl rfl ?_
  refine WL.norm 89 [(0, _), (2, _), (3, _)] [some ⟨_, _, [[_, _, _]]⟩, some ⟨_, _, [[_, _, _, _]]⟩] rfl ⟨rfl, rfl, rfl, trivial⟩ rfl rfl ?_
  refine wn ?_
  refine W.seq ?_
  refine sr ?_
  refine WL.v (Val.assign Ev.const) rfl ?_
  refine WL.norm 89 [(0, _), (2, _), (3, _), (4, _)] [some ⟨_, _, [[_, _, _]]⟩, some ⟨_, _, [[_, _, _, _]]⟩] rfl ⟨rfl, rfl, rfl, rfl, trivial⟩ rfl rfl ?_
  refine wn ?_
  refine W.norm 89 [(0, _), (2, _), (3, _), (4, _)] [some ⟨_, _, [[_, _, _]]⟩, some ⟨_, _, [[_, _, _, _]]⟩] rfl ⟨rfl, rfl, rfl, rfl, trivial⟩ rfl rfl ?_
  refine W.block (W.loop (fun nn S => ∃ (k : Int), S = ⟨89, [(0, .ptr 0 0 3 0 0), (2, .ptr 1 0 4 0 0), (3, .f (.lst 1 (wordsL.map encS))), (4, .i k)], HR ts i bad ++ [some ⟨0, 4, [[.i 0, .c 0, .c 0, .nil]]⟩], []⟩ ∧ nn = ((6 - k).toNat) ∧ (0 ≤ k) ∧ (k ≤ 6)) ⟨0, rfl, rfl, by omega, by omega⟩ ?_)
  rintro nn S ⟨k, rfl, rfl, hk0, hk1⟩
  refine W.seq ?_
  refine sr ?_
  refine mv rfl rfl ?_
  refine WL.v (Val.lss (tm rfl) Ev.const) rfl ?_
  refine WL.norm 89 [(0, _), (2, _), (3, _), (4, _), (48, _)] [some ⟨_, _, [[_, _, _]]⟩, some ⟨_, _, [[_, _, _, _]]⟩] rfl ⟨rfl, rfl, rfl, rfl, rfl, trivial⟩ rfl rfl ?_
  refine wn ?_
  refine W.condP rfl (fun hc6 => ?_) (fun hc6 => ?_)
  · try simp only [td] at hc6
    refine W.skip (nm ?_)
    refine W.seq ?_
    refine W.block ?_
    refine W.seq ?_
    refine W.seq ?_
    refine W.drawE (fun k => ([([], []), ([], []), ([], []), ([], []), ([0], []), ([], []), ([], []), ([], []), ([], []), ([], []), ([], [])] : List (List Nat × List Nat)).getD k ([], [])) rfl (by kernel_rfl) (bl rfl) ?_
    refine LexE.val rfl rfl rfl (fun h' ha => Val.move (tm rfl)) ?_
    refine LexE.val rfl rfl rfl (fun h' ha => Val.eql (tm rfl) Ev.const) ?_
    refine LexE.val rfl rfl rfl (fun h' ha => Val.move (tm rfl)) ?_
    refine LexE.gval rfl (fun h' => (Grd.f rfl rfl rfl)) rfl (fun hG h' ha => Val.move (tm rfl)) ?_
    refine LexE.gcallAll (fun h' => (Grd.f rfl rfl rfl)) ca101 (fun hG h' ha => (evc (Ev.opt rfl hG) evn)) rfl (fun hG h' ha => c_seeH W0 N ts hts i bad h0 h1 h' ((ha.at_ 0 (by decide)).trans rfl)) rfl ?_
    refine LexE.gval rfl (fun h' => (Grd.f rfl rfl rfl)) rfl (fun hG h' ha => Val.move (tm rfl)) ?_
    refine LexE.gval rfl (fun h' => (Grd.f rfl rfl rfl)) rfl (fun hG h' ha => Val.move (tm rfl)) ?_
    refine LexE.gval rfl (fun h' => (Grd.f rfl rfl rfl)) rfl (fun hG h' ha => Val.ix (enc := encS) Tryd.underlying84 zs9 (Ev.opt rfl hG) (Ev.opt rfl hG) (by try simp only [td] at hG; omega) (gA_at (by try simp only [td] at hG; omega) (by show _ < (6 : Int); omega))) ?_
    refine LexE.gval rfl (fun h' => (Grd.f rfl rfl rfl)) rfl (fun hG h' ha => Val.load Tryd.underlying9 rfl (Ev.opt rfl hG)) ?_
    refine LexE.gval rfl (fun h' => (Grd.f rfl rfl rfl)) rfl (fun hG h' ha => Val.neqS (Ev.opt rfl hG) (Ev.opt rfl hG)) ?_
    refine LexE.val rfl rfl rfl (fun h' ha => Val.or (tm rfl) (fun hb => Ev.opt rfl (nt hb))) ?_
    refine LexE.nil (nm ?_)
    refine W.norm 89 [(0, _), (2, _), (3, _), (4, _), (61, _)] [some ⟨_, _, [[_, _, _]]⟩, some ⟨_, _, [[_, _, _, _]]⟩] rfl ⟨rfl, rfl, rfl, rfl, rfl, trivial⟩ rfl rfl ?_
    refine W.condP rfl (fun hc8 => ?_) (fun hc8 => ?_)
    · try simp only [td] at hc8
      refine W.exit (ex1 (ex2 (nm ?_)))
      refine W.region ?_
      refine mv rfl rfl ?_
      refine WL.v (Val.add (tm rfl) Ev.const (IntWalk.i64_in _ (by omega))) rfl ?_
      refine asg rfl rfl ?_
      refine WL.norm 89 [(0, _), (2, _), (3, _), (4, _)] [some ⟨_, _, [[_, _, _]]⟩, some ⟨_, _, [[_, _, _, _]]⟩] rfl ⟨rfl, rfl, rfl, rfl, trivial⟩ rfl rfl ?_
      refine wn ?_
      exact ⟨_, by omega, k + 1, rfl, rfl, by omega, by omega⟩
    try simp only [td] at hc8
    refine W.skip (nm ?_)
    refine W.seq ?_
    obtain ⟨hw1, hw2⟩ := words_ok hk0 hc6 hc8.1
    obtain ⟨hbf, hlt⟩ := see_lt hts (by omega) hw1 hw2 hc8.2
    refine W.region ?_
    refine mv rfl rfl ?_
    refine WL.v (Val.nilCheck (tm rfl)) rfl ?_
    refine WL.v (Val.fal (off := 1) Tryd.underlying124 rfl rfl zs3 (tm rfl)) rfl ?_
    refine WL.v (Val.loadLive Tryd.underlying3 rfl (tm rfl) rfl rfl rfl rfl rfl) rfl ?_
    refine WL.v (Val.add (tm rfl) Ev.const (IntWalk.i64_in _ (by omega))) rfl ?_
    refine WL.v (Val.nilCheck (tm rfl)) rfl ?_
    refine WL.v (Val.fal (off := 1) Tryd.underlying124 rfl rfl zs3 (tm rfl)) rfl ?_
    refine WL.stp rfl (Stp.st (tm rfl) (tm rfl) zs3 rfl rfl rfl rfl rfl rfl rfl rfl) ?_
    refine WL.norm 89 [(0, _), (2, _), (4, _)] [some ⟨_, _, [[_, _, _]]⟩, some ⟨_, _, [[_, _, _, _]]⟩] rfl ⟨rfl, rfl, rfl, trivial⟩ rfl rfl ?_
    refine wn ?_
    refine sr ?_
    refine mv rfl rfl ?_
    refine WL.v (Val.le (Val.build (vs := [(0, _)]) Tryd.underlying98 zz98 rfl rfl pl98 rfl ⟨(tm rfl), rfl, rfl, rfl, trivial⟩) (Le.agg (ys := [_, _, _, .f (.lst 4 [])]) (LeL.cons (Le.refl _) (LeL.cons (Le.refl _) (LeL.cons (Le.refl _) (LeL.cons Le.nil LeL.nil)))))) rfl ?_
    refine WL.stp rfl (Stp.alloc zz98 rfl rfl) ?_
    refine WL.stp rfl (Stp.st (tm rfl) (tm rfl) zs98 rfl rfl rfl rfl rfl rfl rfl rfl) ?_
    refine WL.norm 89 [(0, _), (2, _), (4, _), (5, _)] [some ⟨_, _, [[_, _, _]]⟩, some ⟨_, _, [[_, _, _, _]]⟩, some ⟨_, _, [[_, _, _, _]]⟩] rfl ⟨rfl, rfl, rfl, rfl, trivial⟩ rfl rfl ?_
    refine wn ?_
    refine W.seq ?_
    refine sr ?_
    refine mv rfl rfl ?_
    refine WL.v (Val.gtr (tm rfl) Ev.const) rfl ?_
    refine WL.norm 89 [(0, _), (2, _), (5, _), (72, _)] [some ⟨_, _, [[_, _, _]]⟩, some ⟨_, _, [[_, _, _, _]]⟩, some ⟨_, _, [[_, _, _, _]]⟩] rfl ⟨rfl, rfl, rfl, rfl, trivial⟩ rfl rfl ?_
    refine wn ?_
    refine W.condP rfl (fun hc11 => ?_) (fun hc11 => ?_)
    · try simp only [td] at hc11
      refine W.region ?_
      refine mv rfl rfl ?_
      refine WL.callPre (args := [.ptr 0 0 3 0 0]) (caps := []) (HR _ _ _) _ ca106 Fun.func (evc (tm rfl) evn) rfl rfl rfl HR.lo (c_kids W0 N ts hts b hE _ _ (by omega) (by omega) (by omega)) (PK.ok rfl) rfl ?_
      rintro _ _ ⟨l_, i2_, b2_, rfl, rfl, hi2, hl2, hB2, hn2, hbb2⟩
      refine WL.v (Val.fal (off := 3) Tryd.underlying98 rfl rfl zs96 (tm rfl)) rfl ?_
      refine WL.stp rfl (Stp.st (tm rfl) (tm rfl) zs96 rfl rfl rfl rfl rfl rfl rfl rfl) ?_
      refine WL.norm 89 [(2, _), (5, _)] [some ⟨_, _, [[_, _, _]]⟩, some ⟨_, _, [[_, _, _, _]]⟩, some ⟨_, _, [[_, _, _, _]]⟩] rfl ⟨rfl, rfl, trivial⟩ rfl rfl ?_
      refine wn ?_
      refine sr ?_
      refine WL.v (Val.loadLiveAgg Tryd.underlying98 rfl zs98 (tm rfl) rfl rfl rfl rfl (bl rfl)) rfl ?_
      refine WL.stp rfl (Stp.st (tm rfl) (tm rfl) zs98 rfl rfl rfl rfl rfl rfl rfl rfl) ?_
      refine WL.norm 89 [(2, _)] [some ⟨_, _, [[_, _, _]]⟩, some ⟨_, _, [[_, _, _, _]]⟩, some ⟨_, _, [[_, _, _, _]]⟩] rfl ⟨rfl, trivial⟩ rfl rfl ?_
      refine wn ?_
      refine W.ret (rt2 (rt1 (rt1 (rt2 (rt1 ?_)))))
      exact Ret.of (h' := HR ts i2_ b2_) (.inr rfl) rfl (resCell rfl Tryd.underlying98 rfl zs98 rfl rfl rfl rfl rfl rfl) (Fewer.pre _ rfl) (.inr HR.lo) (fun id h => by have h0 : id = 0 := Nat.lt_one_iff.1 h; subst h0; exact .inl rfl) (.same rfl) ⟨.mk k 0 0 l_, i2_, b2_, rfl, rfl, by omega, by omega, RxB.list hB2, by rw [nodes_list]; omega, fun h => (by rw [hbf] at h; cases h), fun _ => by rw [nodes_list]; omega, fun _ => by omega⟩
    try simp only [td] at hc11
    refine W.skip (nm ?_)
    refine sr ?_
    refine WL.v (Val.loadLiveAgg Tryd.underlying98 rfl zs98 (tm rfl) rfl rfl rfl rfl (bl rfl)) rfl ?_
    refine WL.stp rfl (Stp.st (tm rfl) (tm rfl) zs98 rfl rfl rfl rfl rfl rfl rfl rfl) ?_
    refine WL.norm 89 [(2, _)] [some ⟨_, _, [[_, _, _]]⟩, some ⟨_, _, [[_, _, _, _]]⟩, some ⟨_, _, [[_, _, _, _]]⟩] rfl ⟨rfl, trivial⟩ rfl rfl ?_
    refine wn ?_
    refine W.ret (rt2 (rt1 (rt1 (rt2 (rt1 ?_)))))
    exact Ret.of (h' := HR ts (i + 1) bad) (.inr rfl) rfl (resCell rfl Tryd.underlying98 rfl zs98 rfl rfl rfl rfl rfl rfl) (Fewer.pre _ rfl) (.inr HR.lo) (fun id h => by have h0 : id = 0 := Nat.lt_one_iff.1 h; subst h0; exact .inl rfl) (.same rfl) ⟨.mk k 0 0 [], i + 1, bad, rfl, rfl, by omega, by omega, RxB.list (fun x hx => by simp at hx), by rw [nodes_list]; simp only [Rx.nodesL]; omega, fun h => h, fun _ => by rw [nodes_list]; simp only [Rx.nodesL]; omega, fun _ => by omega⟩
  try simp only [td] at hc6
  refine W.exit (ex1 (ex1 (ex2 (nm ?_))))
  refine sr ?_
  refine mv rfl rfl ?_
  refine WL.callPre (args := [.ptr 0 0 3 0 0, .s ⟨#[40]⟩]) (caps := []) (HR _ _ _) _ ca79 Fun.func (evc (tm rfl) (evc Ev.const evn)) rfl rfl rfl HR.lo (c_need W0 N ts hts _ _ _ (by omega) (by omega)) (RNd.ok rfl) rfl ?_
  rintro _ _ ⟨rfl, rfl⟩
  obtain ⟨i_1, b_1, hi_1, hb_1, hN1⟩ := need_cases hts (i := i) (bad := bad) (w := ⟨#[40]⟩) (by omega) (lit_ne (by decide)) (lit_ne (by decide))
  rw [hi_1, hb_1]
  refine WL.norm 89 [(0, _), (2, _)] [some ⟨_, _, [[_, _, _]]⟩, some ⟨_, _, [[_, _, _, _]]⟩] rfl ⟨rfl, rfl, trivial⟩ rfl rfl ?_
  refine wn ?_
  refine W.seq ?_
  refine sr ?_
  refine mv rfl rfl ?_
  refine WL.v (Val.nilCheck (tm rfl)) rfl ?_
  refine WL.v (Val.fal (off := 2) Tryd.underlying124 rfl rfl zs4 (tm rfl)) rfl ?_
  refine WL.v (Val.loadLive Tryd.underlying4 rfl (tm rfl) rfl rfl rfl rfl rfl) rfl ?_
  refine WL.norm 89 [(0, _), (2, _), (82, _)] [some ⟨_, _, [[_, _, _]]⟩, some ⟨_, _, [[_, _, _, _]]⟩] rfl ⟨rfl, rfl, rfl, trivial⟩ rfl rfl ?_
  refine wn ?_
  refine W.condP rfl (fun hc15 => ?_) (fun hc15 => ?_)
  · have hi1 : i_1 = i := by rcases hN1 with ⟨_, a, c, _⟩ | ⟨a, _⟩; rw [a, c] at hc15; cases hc15; exact a
    refine sr ?_
    refine WL.v (Val.le (Val.build (vs := []) Tryd.underlying98 zz98 rfl rfl pl98 rfl trivial) (Le.agg (ys := [_, _, _, .f (.lst 4 [])]) (LeL.cons (Le.refl _) (LeL.cons (Le.refl _) (LeL.cons (Le.refl _) (LeL.cons Le.nil LeL.nil)))))) rfl ?_
    refine WL.stp rfl (Stp.st (tm rfl) (tm rfl) zs98 rfl rfl rfl rfl rfl rfl rfl rfl) ?_
    refine WL.norm 89 [(2, _)] [some ⟨_, _, [[_, _, _]]⟩, some ⟨_, _, [[_, _, _, _]]⟩] rfl ⟨rfl, trivial⟩ rfl rfl ?_
    refine wn ?_
    refine W.ret (rt1 ?_)
    exact Ret.of (h' := HR ts i_1 b_1) (.inr rfl) rfl (resCell rfl Tryd.underlying98 rfl zs98 rfl rfl rfl rfl rfl rfl) (Fewer.pre _ rfl) (.inr HR.lo) (fun id h => by have h0 : id = 0 := Nat.lt_one_iff.1 h; subst h0; exact .inl rfl) (.same rfl) ⟨.mk 0 0 0 [], i_1, b_1, rfl, rfl, by omega, by omega, (RxG.leaf (by decide) (by decide) (by decide)).1, (by have : (Rx.mk 0 0 0 []).nodes = 1 := rfl; omega), fun _ => hc15, fun h => by omega, fun h => by rw [hc15] at h; cases h⟩
  have hi1 : i_1 = i + 1 ∧ bad = false ∧ i + 1 < ts.length := by rcases hN1 with ⟨a, _, c, d⟩ | ⟨_, a⟩; exact ⟨a, c, d⟩; rw [a] at hc15; cases hc15
  refine W.skip (nm ?_)
  refine sr ?_
  refine mv rfl rfl ?_
  refine WL.callPre (args := [.ptr 0 0 3 0 0]) (caps := []) (HR _ _ _) _ ca78 Fun.func (evc (tm rfl) evn) rfl rfl rfl HR.lo (hE _ _ (by omega) (by omega) (by omega)) (PX.ok rfl) rfl ?_
  rintro _ _ ⟨x_, i2_, b2_, rfl, rfl, hi2, hl2, hB2, hn2, hbb2⟩
  refine WL.stp rfl (Stp.alloc zz98 rfl rfl) ?_
  refine WL.stp rfl (Stp.st (tm rfl) (tm rfl) zs98 rfl rfl rfl rfl rfl rfl rfl rfl) ?_
  refine WL.norm 89 [(0, _), (2, _), (6, _)] [some ⟨_, _, [[_, _, _]]⟩, some ⟨_, _, [[_, _, _, _]]⟩, some ⟨_, _, [[_, _, _, _]]⟩] rfl ⟨rfl, rfl, rfl, trivial⟩ rfl rfl ?_
  refine wn ?_
  refine sr ?_
  refine mv rfl rfl ?_
  refine WL.callPre (args := [.ptr 0 0 3 0 0, .s ⟨#[41]⟩]) (caps := []) (HR _ _ _) _ ca79 Fun.func (evc (tm rfl) (evc Ev.const evn)) rfl rfl rfl HR.lo (c_need W0 N ts hts _ _ _ (by omega) (by omega)) (RNd.ok rfl) rfl ?_
  rintro _ _ ⟨rfl, rfl⟩
  obtain ⟨i_4, b_4, hi_4, hb_4, hN4⟩ := need_cases hts (i := i2_) (bad := b2_) (w := ⟨#[41]⟩) (by omega) (lit_ne (by decide)) (lit_ne (by decide))
  rw [hi_4, hb_4]
  refine WL.norm 89 [(2, _), (6, _)] [some ⟨_, _, [[_, _, _]]⟩, some ⟨_, _, [[_, _, _, _]]⟩, some ⟨_, _, [[_, _, _, _]]⟩] rfl ⟨rfl, rfl, trivial⟩ rfl rfl ?_
  refine wn ?_
  refine sr ?_
  refine WL.v (Val.loadLiveAgg Tryd.underlying98 rfl zs98 (tm rfl) rfl rfl rfl rfl (bl rfl)) rfl ?_
  refine WL.stp rfl (Stp.st (tm rfl) (tm rfl) zs98 rfl rfl rfl rfl rfl rfl rfl rfl) ?_
  refine WL.norm 89 [(2, _)] [some ⟨_, _, [[_, _, _]]⟩, some ⟨_, _, [[_, _, _, _]]⟩, some ⟨_, _, [[_, _, _, _]]⟩] rfl ⟨rfl, trivial⟩ rfl rfl ?_
  refine wn ?_
  refine W.ret ?_
  exact Ret.of (h' := HR ts i_4 b_4) (.inr rfl) rfl (resCell rfl Tryd.underlying98 rfl zs98 rfl rfl rfl rfl rfl rfl) (Fewer.pre _ rfl) (.inr HR.lo) (fun id h => by have h0 : id = 0 := Nat.lt_one_iff.1 h; subst h0; exact .inl rfl) (.same rfl) ⟨x_, i_4, b_4, rfl, rfl, by omega, by omega, hB2, by omega, fun h => (by rw [hi1.2.1] at h; cases h), fun _ => by omega, fun _ => by omega⟩
-- (*enthymemeref04.reader).item
set_option maxHeartbeats 1000000 in
theorem c_item (W0 : World) (N : Nat) (ts : List Tk) (hts : TOk ts) (b : Nat) : EX W0 N ts b → IX W0 N ts b → ∀ (i : Int) (bad : Bool), 0 ≤ i → i < ts.length → ts.length - i < ((b + 1 : Nat) : Int) → AC (En W0 N) 103 [.ptr 0 0 3 0 0] (HR ts i bad) (PI ts i bad) := by
  intro hE hI
  intro i bad h0 h1 hb
  have hlen := hts.len
  refine AC.enter Tryd.func103 rfl Tryd.ntmps103 (bl rfl) fun X => ?_
  refine sr ?_
  refine WL.stp rfl (Stp.alloc zz98 rfl rfl) ?_
  refine WL.norm 20 [(0, _), (2, _)] [some ⟨_, _, [[_, _, _]]⟩, some ⟨_, _, [[_, _, _, _]]⟩] rfl ⟨rfl, rfl, trivial⟩ rfl rfl ?_
  refine wn ?_
  refine sr ?_
  refine mv rfl rfl ?_
  refine WL.callPre (args := [.ptr 0 0 3 0 0, .s ⟨#[33]⟩]) (caps := []) (HR _ _ _) _ ca94 Fun.func (evc (tm rfl) (evc Ev.const evn)) rfl rfl rfl HR.lo (c_take W0 N ts hts _ _ _ (by omega) (by omega)) (RTk.ok rfl) rfl ?_
  rintro _ _ ⟨rfl, rfl⟩
  obtain ⟨i_1, q_1, hi_1, hq_1, hT1⟩ := take_cases' hts (i := i) (bad := bad) (w := ⟨#[33]⟩) (by omega) (lit_ne (by decide)) (lit_ne (by decide))
  rw [hi_1, hq_1]
  refine asg rfl rfl ?_
  refine WL.norm 20 [(0, _), (2, _), (3, _)] [some ⟨_, _, [[_, _, _]]⟩, some ⟨_, _, [[_, _, _, _]]⟩] rfl ⟨rfl, rfl, rfl, trivial⟩ rfl rfl ?_
  refine wn ?_
  refine W.seq ?_
  refine sr ?_
  refine mv rfl rfl ?_
  refine WL.norm 20 [(0, _), (2, _), (7, _)] [some ⟨_, _, [[_, _, _]]⟩, some ⟨_, _, [[_, _, _, _]]⟩] rfl ⟨rfl, rfl, rfl, trivial⟩ rfl rfl ?_
  refine wn ?_
  refine W.condP rfl (fun hc2 => ?_) (fun hc2 => ?_)
  · have hT1' : i_1 = i + 1 ∧ bad = false ∧ i + 1 < ts.length := by rcases hT1 with ⟨_, a, c, d⟩ | ⟨a, _⟩; exact ⟨a, c, d⟩; rw [hc2] at a; cases a
    refine sr ?_
    refine mv rfl rfl ?_
    refine WL.callPre (args := [.ptr 0 0 3 0 0]) (caps := []) (HR _ _ _) _ ca103 Fun.func (evc (tm rfl) evn) rfl rfl rfl HR.lo (hI _ _ (by omega) (by omega) (by omega)) (PI.ok rfl) rfl ?_
    rintro _ _ ⟨x_, i2_, b2_, rfl, rfl, hi2, hl2, hB2, hn2, hbb2, hp2, hq2⟩
    refine WL.stp rfl (Stp.buildFrozen (xs := [_]) (fs := ([x_] : List Rx).map Rx.cells) Tryd.underlying96 zs98 zz98 rfl rfl (evc (tm rfl) evn) fitL (bl rfl) (els_rx ([x_] : List Rx)) rfl) ?_
    refine WL.v (Val.build (vs := [(0, _), (3, _)]) Tryd.underlying98 zz98 rfl rfl pl98 rfl ⟨Ev.const, rfl, rfl, rfl, ⟨(tm rfl), rfl, rfl, rfl, trivial⟩⟩) rfl ?_
    refine WL.stp rfl (Stp.st (tm rfl) (tm rfl) zs98 rfl rfl rfl rfl rfl rfl rfl rfl) ?_
    refine WL.norm 20 [(2, _)] [some ⟨_, _, [[_, _, _]]⟩, some ⟨_, _, [[_, _, _, _]]⟩] rfl ⟨rfl, trivial⟩ rfl rfl ?_
    refine wn ?_
    refine W.ret (rt1 ?_)
    exact Ret.of (h' := HR ts i2_ b2_) (.inr rfl) rfl (resCell rfl Tryd.underlying98 rfl zs98 rfl rfl rfl rfl rfl rfl) (Fewer.pre _ rfl) (.inr HR.lo) (fun id h => by have h0 : id = 0 := Nat.lt_one_iff.1 h; subst h0; exact .inl rfl) (.same rfl) ⟨.mk 6 0 0 [x_], i2_, b2_, rfl, rfl, by omega, by omega, RxB.list (fun x hx => by rw [List.mem_singleton.1 hx]; exact hB2), by rw [nodes_list, nodesL_one]; omega, fun h => (by rw [hT1'.2.1] at h; cases h), fun _ => by rw [nodes_list, nodesL_one]; by_cases hz : i_1 < i2_; have := hp2 hz; omega; omega, fun h => by omega⟩
  have hT1' : i_1 = i := by rcases hT1 with ⟨a, _⟩ | ⟨_, a⟩; rw [hc2] at a; cases a; exact a
  refine W.skip (nm ?_)
  refine sr ?_
  refine mv rfl rfl ?_
  refine WL.callPre (args := [.ptr 0 0 3 0 0]) (caps := []) (HR _ _ _) _ ca105 Fun.func (evc (tm rfl) evn) rfl rfl rfl HR.lo (c_atom W0 N ts hts b hE _ _ (by omega) (by omega) (by omega)) (PI.ok rfl) rfl ?_
  rintro _ _ ⟨x_, i2_, b2_, rfl, rfl, hi2, hl2, hB2, hn2, hbb2, hp2, hq2⟩
  refine WL.stp rfl (Stp.alloc zz98 rfl rfl) ?_
  refine WL.stp rfl (Stp.st (tm rfl) (tm rfl) zs98 rfl rfl rfl rfl rfl rfl rfl rfl) ?_
  refine WL.norm 20 [(0, _), (2, _), (4, _)] [some ⟨_, _, [[_, _, _]]⟩, some ⟨_, _, [[_, _, _, _]]⟩, some ⟨_, _, [[_, _, _, _]]⟩] rfl ⟨rfl, rfl, rfl, trivial⟩ rfl rfl ?_
  refine wn ?_
  refine W.seq ?_
  refine W.norm 20 [(0, _), (2, _), (4, _)] [some ⟨_, _, [[_, _, _]]⟩, some ⟨_, _, [[_, _, _, _]]⟩, some ⟨_, _, [[_, _, _, _]]⟩] rfl ⟨rfl, rfl, rfl, trivial⟩ rfl rfl ?_
  refine W.block (W.loop (fun nn S => ∃ (i2 : Int) (bad2 : Bool) (x2 : Rx), S = ⟨20, [(0, .ptr 0 0 3 0 0), (2, .ptr 1 0 4 0 0), (4, .ptr 2 0 4 0 0)], HR ts i2 bad2 ++ [some ⟨0, 4, [[.i 0, .c 0, .c 0, .nil]]⟩, some ⟨0, 4, [[.i x2.kind, .c x2.lo, .c x2.hi, .f (.lst 4 (x2.kids.map Rx.cells))]]⟩], []⟩ ∧ nn = ((ts.length - i2).toNat) ∧ (i ≤ i2) ∧ (i2 < ts.length) ∧ (RxB x2) ∧ ((x2.nodes : Int) ≤ 4 * (i2 - i) + 1) ∧ (bad = true → bad2 = true) ∧ (i < i2 → (x2.nodes : Int) + 2 ≤ 4 * (i2 - i)) ∧ (bad2 = false → i < i2)) ⟨_, _, x_, rfl, rfl, by omega, by omega, hB2, by omega, hbb2, fun h => by have := hp2 (by omega); omega, fun h => by have := hq2 h; omega⟩ ?_)
  rintro nn S ⟨i2, bad2, x2, rfl, rfl, hv0, hv1, hv2, hv3, hv4, hv5, hv6⟩
  refine W.seq ?_
  refine sr ?_
  refine mv rfl rfl ?_
  refine WL.callPre (args := [.ptr 0 0 3 0 0, .s ⟨#[42]⟩]) (caps := []) (HR _ _ _) _ ca94 Fun.func (evc (tm rfl) (evc Ev.const evn)) rfl rfl rfl HR.lo (c_take W0 N ts hts _ _ _ (by omega) (by omega)) (RTk.ok rfl) rfl ?_
  rintro _ _ ⟨rfl, rfl⟩
  obtain ⟨i_3, q_3, hi_3, hq_3, hT3⟩ := take_cases' hts (i := i2) (bad := bad2) (w := ⟨#[42]⟩) (by omega) (lit_ne (by decide)) (lit_ne (by decide))
  rw [hi_3, hq_3]
  refine WL.norm 20 [(0, _), (2, _), (4, _), (15, _)] [some ⟨_, _, [[_, _, _]]⟩, some ⟨_, _, [[_, _, _, _]]⟩, some ⟨_, _, [[_, _, _, _]]⟩] rfl ⟨rfl, rfl, rfl, rfl, trivial⟩ rfl rfl ?_
  refine wn ?_
  refine W.condP rfl (fun hc5 => ?_) (fun hc5 => ?_)
  · have hT : i_3 = i2 + 1 ∧ bad2 = false ∧ i2 + 1 < ts.length := by rcases hT3 with ⟨_, a, c, d⟩ | ⟨a, _⟩; exact ⟨a, c, d⟩; rw [hc5] at a; cases a
    refine W.skip (nm ?_)
    refine W.block ?_
    refine W.region ?_
    refine WL.v (Val.loadLiveAgg Tryd.underlying98 rfl zs98 (tm rfl) rfl rfl rfl rfl (bl rfl)) rfl ?_
    refine WL.stp rfl (Stp.buildFrozen (xs := [_]) (fs := ([x2] : List Rx).map Rx.cells) Tryd.underlying96 zs98 zz98 rfl rfl (evc (tm rfl) evn) fitL (bl rfl) (els_rx ([x2] : List Rx)) rfl) ?_
    refine WL.v (Val.build (vs := [(0, _), (3, _)]) Tryd.underlying98 zz98 rfl rfl pl98 rfl ⟨Ev.const, rfl, rfl, rfl, ⟨(tm rfl), rfl, rfl, rfl, trivial⟩⟩) rfl ?_
    refine WL.stp rfl (Stp.st (tm rfl) (tm rfl) zs98 rfl rfl rfl rfl rfl rfl rfl rfl) ?_
    refine WL.norm 20 [(0, _), (2, _), (4, _)] [some ⟨_, _, [[_, _, _]]⟩, some ⟨_, _, [[_, _, _, _]]⟩, some ⟨_, _, [[_, _, _, _]]⟩] rfl ⟨rfl, rfl, rfl, trivial⟩ rfl rfl ?_
    refine WL.nil (nb (nm ?_))
    exact ⟨_, by omega, _, _, .mk 7 0 0 [x2], rfl, rfl, by omega, by omega, RxB.list (fun x hx => by rw [List.mem_singleton.1 hx]; exact hv2), by rw [nodes_list, nodesL_one]; omega, hv4, fun _ => by rw [nodes_list, nodesL_one]; have := hv5 (hv6 hT.2.1); omega, fun _ => by omega⟩
  have hT : i_3 = i2 := by rcases hT3 with ⟨a, _⟩ | ⟨_, a⟩; rw [hc5] at a; cases a; exact a
  rw [hT]
  refine W.exit (ex1 (ex1 (ex2 (nm ?_))))
  refine sr ?_
  refine WL.v (Val.loadLiveAgg Tryd.underlying98 rfl zs98 (tm rfl) rfl rfl rfl rfl (bl rfl)) rfl ?_
  refine WL.stp rfl (Stp.st (tm rfl) (tm rfl) zs98 rfl rfl rfl rfl rfl rfl rfl rfl) ?_
  refine WL.norm 20 [(2, _)] [some ⟨_, _, [[_, _, _]]⟩, some ⟨_, _, [[_, _, _, _]]⟩, some ⟨_, _, [[_, _, _, _]]⟩] rfl ⟨rfl, trivial⟩ rfl rfl ?_
  refine wn ?_
  refine W.ret ?_
  exact Ret.of (h' := HR ts i2 bad2) (.inr rfl) rfl (resCell rfl Tryd.underlying98 rfl zs98 rfl rfl rfl rfl rfl rfl) (Fewer.pre _ rfl) (.inr HR.lo) (fun id h => by have h0 : id = 0 := Nat.lt_one_iff.1 h; subst h0; exact .inl rfl) (.same rfl) ⟨x2, i2, bad2, rfl, rfl, by omega, by omega, hv2, by omega, hv4, hv5, hv6⟩

/-- All of the reader's functions. -/
theorem reader_all (W0 : World) (N : Nat) (ts : List Tk) (hts : TOk ts) : ∀ b : Nat, EX W0 N ts b ∧ IX W0 N ts b := by
  intro b
  induction b with
  | zero => exact ⟨fun i bad h0 h1 h2 => by omega, fun i bad h0 h1 h2 => by omega⟩
  | succ b ih =>
    have hi := c_item W0 N ts hts b ih.1 ih.2
    exact ⟨c_expr W0 N ts hts (b + 1) (c_conj W0 N ts hts (b + 1) (c_seq W0 N ts hts (b + 1) hi)), hi⟩
theorem c_exprX (W0 : World) (N : Nat) (ts : List Tk) (hts : TOk ts) (i : Int) (bad : Bool) (h0 : 0 ≤ i) (h1 : i < ts.length) : AC (En W0 N) 78 [.ptr 0 0 3 0 0] (HR ts i bad) (PX ts i bad) :=
  (reader_all W0 N ts hts (ts.length + 1)).1 i bad h0 h1 (by omega)
end Go.Aw
namespace Go.Aw
open Go.RowKit Go.Proofs
theorem resCell3 {K : Ctx} {S : St} {fn : Func} {T : TypeId} {td : TypeDesc} {n t u u' : Nat} {id gen s : Nat} {r : Row} {e : List AV} {q q' : AV} (h : fn.results = #[.cell t T, .tmp u, .tmp u']) (hT : K.P.underlying T = some td) (hd : aggB td = true) (hn : (K.P.info? T).map (·.size) = some n) (hx : S.get t = some (.ptr id gen s 0 0))
    (hr : S.heap[id]? = some (some r)) (hg : r.gen = gen) (hss : r.s = s) (he : r.els[0]? = some e) (hl : n = e.length) (hu : S.get u = some q) (hu' : S.get u' = some q') : ∀ L a w, Sim K L S a w → ∃ v, (results fn a.tmps).run K.P w = .ok v w ∧ (AV.tup [.agg e, q, q']).rep w (Bar K S.heap L) L v := fun L a w hs => by
  obtain ⟨v, h1, h2, h3⟩ := cellVar hT hd hn hx hr hg hss he hl L a w hs
  refine ⟨.tuple #[v, a.tmps.getD u undef, a.tmps.getD u' undef], ?_, _, rfl, h3, hs.slots u q hu, hs.slots u' q' hu', trivial⟩
  generalize (⟨(match a.tmps.getD t undef with | .pointer (some a) => a.block | _ => 0), 0, none⟩ : Addr) = ad at h1 h2
  simp only [results, h, List.mapM_toArray, List.mapM_cons, List.mapM_nil, h2, asAddr, Sem.run_bind, Sem.run_pure, Result.andThen_ok, h1, Sem.run_map]
  simp

section
variable {K : Ctx} {m : Nat} {Q : Post} {S : St} {ops : Array Oper} {rest : List Oper} {d : Option Nat} {ty : TypeId} {pos : String} {af : Array Edge} {gd : Option (Nat × Bool)}
theorem WL.callR1 {f : FuncId} {xs : List Operand} {ts : Array TypeId} {more : List AV} {R : AV → Heap → Prop} {o : Option Row} {suf : Heap} {tk : List Tk} {i : Int} {bad : Bool} (hf : Callable K.P f) (hx : EvL K S xs (.ptr 1 0 3 0 0 :: more)) (hmore : AV.rnL (rhoL [1]) more = more) (hlo : AV.loL (HR tk i bad) (.ptr 0 0 3 0 0 :: more ++ []) = true) (hd : dstOk d S.n = true)
    (hheap : S.heap = o :: some ⟨0, 3, [[.f (.tks tk), .i i, .b bad]]⟩ :: suf) (hc : AC ⟨K.P, K.W0, K.N⟩ f (.ptr 0 0 3 0 0 :: more) (HR tk i bad) R) (hR : ∀ r h', R r h' → r.lo h' = true ∧ ∃ i' bad', h' = HR tk i' bad') (hg : gd = none)
    (h : ∀ r i' bad', R r (HR tk i' bad') → WL K m ops Q rest (({ S with heap := o :: some ⟨0, 3, [[.f (.tks tk), .i i', .b bad']]⟩ :: suf } : St).putD d (r.rn (rhoL [1])))) :
    WL K m ops Q (⟨d, .call ⟨.value (.func f), xs.toArray, ts⟩, ty, pos, af, gd⟩ :: rest) S := by
  have hm : ∀ i' bad', mergeL (rhoL [1]) [1] (HR tk i' bad') S.heap = o :: some ⟨0, 3, [[.f (.tks tk), .i i', .b bad']]⟩ :: suf := fun i' bad' => by rw [hheap]; rfl
  refine WL.callSub (args := .ptr 0 0 3 0 0 :: more) (caps := []) (h0 := HR tk i bad) (ρ := rhoL [1]) (σ := sigL [1]) (fun h' => mergeL (rhoL [1]) [1] h' S.heap) hf Fun.func (by
    show EvL K S xs (AV.rn (rhoL [1]) (.ptr 0 0 3 0 0) :: AV.rnL (rhoL [1]) more)
    rw [hmore]; exact hx) hlo hd ?_ HR.lo (by rw [List.append_nil]; exact hc) ?_ hg ?_
  · rw [hheap]; exact Sub.ofIds (by decide) rfl
  · intro r h' hr
    obtain ⟨a1, i', bad', rfl⟩ := hR r h' hr
    exact ⟨a1, HR.lo, Merged.ofIds (by decide) rfl (fun j hj => by rw [hheap]; rw [List.mem_singleton.1 hj]; simp) rfl⟩
  · intro r h' hr
    obtain ⟨a1, i', bad', rfl⟩ := hR r h' hr
    rw [hm]
    exact h r i' bad' hr
end
end Go.Aw
namespace Go.Aw
open Go.RowKit Go.Proofs

theorem HR_inj {ts : List Tk} {i i' : Int} {b b' : Bool} (h : HR ts i b = HR ts i' b') : i = i' ∧ b = b' := by
  simp only [List.cons.injEq, Option.some.injEq, Row.mk.injEq, AV.f.injEq, FV.v.injEq, Value.int.injEq, Value.bool.injEq, and_true, true_and] at h
  exact h

-- enthymemeref04.Parse
set_option maxHeartbeats 1000000 in
theorem c_Parse (W0 : World) (N : Nat) (s : ByteArray) (hs : s.size ≤ 1000000) : AC (En W0 N) 66 [.s s] [] (fun r h => h = [] ∧ ∃ x n e, r = .tup [rxE x, .i n, .i e] ∧ (e = 0 → RxB x ∧ x.nodes ≤ 64)) := by
  refine AC.enter Tryd.func66 rfl Tryd.ntmps66 (bl rfl) fun X => ?_
  refine sr ?_
  refine WL.stp rfl (Stp.alloc zz98 rfl rfl) ?_
  refine WL.v (Val.assign Ev.const) rfl ?_
  refine WL.v (Val.assign Ev.const) rfl ?_
  refine WL.norm 42 [(0, _), (2, _)] [some ⟨_, _, [[_, _, _, _]]⟩] rfl ⟨rfl, rfl, trivial⟩ rfl rfl ?_
  refine wn ?_
  refine W.seq ?_
  refine sr ?_
  refine mv rfl rfl ?_
  refine WL.v (Val.lenS Tryd.underlying9 (tm rfl)) rfl ?_
  refine WL.v (Val.gtr (tm rfl) Ev.const) rfl ?_
  refine WL.norm 42 [(0, _), (2, _), (9, _)] [some ⟨_, _, [[_, _, _, _]]⟩] rfl ⟨rfl, rfl, rfl, trivial⟩ rfl rfl ?_
  refine wn ?_
  refine W.condP rfl (fun hc1 => ?_) (fun hc1 => ?_)
  · try simp only [td] at hc1
    refine sr ?_
    refine WL.v (Val.le (Val.build (vs := []) Tryd.underlying98 zz98 rfl rfl pl98 rfl trivial) (Le.agg (ys := [_, _, _, .f (.lst 4 [])]) (LeL.cons (Le.refl _) (LeL.cons (Le.refl _) (LeL.cons (Le.refl _) (LeL.cons Le.nil LeL.nil)))))) rfl ?_
    refine WL.stp rfl (Stp.st (tm rfl) (tm rfl) zs98 rfl rfl rfl rfl rfl rfl rfl rfl) ?_
    refine WL.v (Val.assign Ev.const) rfl ?_
    refine WL.v (Val.assign Ev.const) rfl ?_
    refine WL.norm 42 [(2, _), (3, _), (4, _)] [some ⟨_, _, [[_, _, _, _]]⟩] rfl ⟨rfl, rfl, rfl, trivial⟩ rfl rfl ?_
    refine wn ?_
    refine W.ret (rt1 ?_)
    exact Ret.of (.inr rfl) rfl (resCell3 rfl Tryd.underlying98 rfl zs98 rfl rfl rfl rfl rfl rfl rfl rfl) (Fewer.nil _) (.inr trivial) (fun id h => absurd h (Nat.not_lt_zero _)) (.same rfl) ⟨rfl, .mk 0 0 0 [], 4096, 4, rfl, fun h => by cases h⟩
  try simp only [td] at hc1
  refine W.skip (nm ?_)
  refine sr ?_
  refine mv rfl rfl ?_
  refine WL.callV ca77 (evc (tm rfl) evn) (lo1 lo0) rfl (c_Tokens W0 N _ (by omega)) ?_
  rintro _ ⟨ts_, rfl, hts_⟩
  refine WL.v (Val.build (vs := [(0, _)]) Tryd.underlying124 zz124 rfl rfl pl124 rfl ⟨(tm rfl), rfl, rfl, rfl, trivial⟩) rfl ?_
  refine WL.stp rfl (Stp.box (tm rfl) rfl rfl) ?_
  refine asg rfl rfl ?_
  refine WL.norm 42 [(0, _), (2, _), (5, _)] [some ⟨_, _, [[_, _, _, _]]⟩, some ⟨_, _, [[_, _, _]]⟩] rfl ⟨rfl, rfl, rfl, trivial⟩ rfl rfl ?_
  refine wn ?_
  refine W.seq ?_
  have htl := hts_.len
  refine W.region ?_
  refine mv rfl rfl ?_
  refine WL.callR1 ca78 (evc (tm rfl) evn) rfl rfl rfl rfl (c_exprX W0 N ts_ hts_ 0 false (by omega) (by have := hts_.pos; omega)) (fun r h' hr => by obtain ⟨x, i', b', rfl, rfl, _⟩ := hr; exact ⟨rfl, i', b', rfl⟩) rfl ?_
  rintro _ i2 bad2 ⟨x_, i', b', rfl, hh, hi2, hl2, hB2, hn2, _⟩
  obtain ⟨rfl, rfl⟩ : i2 = i' ∧ bad2 = b' := HR_inj hh
  refine WL.stp rfl (Stp.alloc zz98 rfl rfl) ?_
  refine WL.stp rfl (Stp.st (tm rfl) (tm rfl) zs98 rfl rfl rfl rfl rfl rfl rfl rfl) ?_
  refine WL.norm 42 [(0, _), (2, _), (5, _), (6, _)] [some ⟨_, _, [[_, _, _, _]]⟩, some ⟨_, _, [[_, _, _]]⟩, some ⟨_, _, [[_, _, _, _]]⟩] rfl ⟨rfl, rfl, rfl, rfl, trivial⟩ rfl rfl ?_
  refine wn ?_
  refine sr ?_
  refine mv rfl rfl ?_
  refine WL.callR1 (more := [.s ⟨#[]⟩]) ca79 (evc (tm rfl) (evc Ev.const evn)) rfl rfl rfl rfl (c_need W0 N ts_ hts_ i2 bad2 ⟨#[]⟩ (by omega) (by omega)) (fun r h' hr => ⟨by rw [hr.1]; rfl, _, _, hr.2⟩) rfl ?_
  rintro _ i3 bad3 ⟨rfl, hh3⟩
  obtain ⟨hi3, hb3⟩ : i3 = takeI ts_ i2 bad2 ⟨#[]⟩ ∧ bad3 = (bad2 || !decide (seeF ts_ i2 bad2 = ⟨#[]⟩)) := HR_inj hh3
  have hi3' : i3 = i2 := by rw [hi3, takeI, if_neg (fun h => h.2 rfl)]
  subst hi3'
  refine WL.norm 42 [(0, _), (2, _), (5, _), (6, _)] [some ⟨_, _, [[_, _, _, _]]⟩, some ⟨_, _, [[_, _, _]]⟩, some ⟨_, _, [[_, _, _, _]]⟩] rfl ⟨rfl, rfl, rfl, rfl, trivial⟩ rfl rfl ?_
  refine wn ?_
  refine W.seq ?_
  refine sr ?_
  refine mv rfl rfl ?_
  refine WL.v (Val.nilCheck (tm rfl)) rfl ?_
  refine WL.v (Val.fal (off := 2) Tryd.underlying124 rfl rfl zs4 (tm rfl)) rfl ?_
  refine WL.v (Val.loadLive Tryd.underlying4 rfl (tm rfl) rfl rfl rfl rfl rfl) rfl ?_
  refine WL.norm 42 [(0, _), (2, _), (5, _), (6, _), (22, _)] [some ⟨_, _, [[_, _, _, _]]⟩, some ⟨_, _, [[_, _, _]]⟩, some ⟨_, _, [[_, _, _, _]]⟩] rfl ⟨rfl, rfl, rfl, rfl, rfl, trivial⟩ rfl rfl ?_
  refine wn ?_
  refine W.condP rfl (fun hc6 => ?_) (fun hc6 => ?_)
  · try simp only [td] at hc6
    refine W.seq ?_
    refine W.drawE (fun k => ([([], []), ([], []), ([], []), ([], []), ([1], []), ([], []), ([], []), ([], []), ([1], []), ([], []), ([], []), ([], []), ([0], [0]), ([], []), ([], [])] : List (List Nat × List Nat)).getD k ([], [])) rfl (by kernel_rfl) (bl rfl) ?_
    refine LexE.val rfl rfl rfl (fun h' ha => Val.le (Val.build (vs := []) Tryd.underlying98 zz98 rfl rfl pl98 rfl trivial) (Le.agg (ys := [_, _, _, .f (.lst 4 [])]) (LeL.cons (Le.refl _) (LeL.cons (Le.refl _) (LeL.cons (Le.refl _) (LeL.cons Le.nil LeL.nil)))))) ?_
    refine LexE.val rfl rfl rfl (fun h' ha => Val.move (tm rfl)) ?_
    refine LexE.val rfl rfl rfl (fun h' ha => Val.nilCheck (tm rfl)) ?_
    refine LexE.val rfl rfl rfl (fun h' ha => Val.fal (off := 0) Tryd.underlying124 rfl rfl zs121 (tm rfl)) ?_
    refine LexE.val rfl rfl rfl (fun h' ha => Val.loadLive Tryd.underlying121 rfl (tm rfl) ((ha.at_ 1 (by decide)).trans rfl) rfl rfl rfl rfl) ?_
    refine LexE.val rfl rfl rfl (fun h' ha => Val.move (tm rfl)) ?_
    refine LexE.val rfl rfl rfl (fun h' ha => Val.nilCheck (tm rfl)) ?_
    refine LexE.val rfl rfl rfl (fun h' ha => Val.fal (off := 1) Tryd.underlying124 rfl rfl zs3 (tm rfl)) ?_
    refine LexE.val rfl rfl rfl (fun h' ha => Val.loadLive Tryd.underlying3 rfl (tm rfl) ((ha.at_ 1 (by decide)).trans rfl) rfl rfl rfl rfl) ?_
    refine LexE.val rfl rfl rfl (fun h' ha => Val.ix (enc := Tk.cells) Tryd.underlying121 zs127 (tm rfl) (tm rfl) (by omega) (gA_at (by omega) (by omega))) ?_
    refine LexE.val rfl rfl rfl (fun h' ha => Val.fa (off := 1) Tryd.underlying127 rfl rfl zs3 (tm rfl)) ?_
    refine LexE.val rfl rfl rfl (fun h' ha => Val.load Tryd.underlying3 rfl (tm rfl)) ?_
    refine LexE.stp (U := [(0, _)]) rfl rfl rfl rfl (fun h => by first | rfl | cases h) (fun h' ha m' => Stp.st (tm rfl) (tm rfl) zs98 rfl rfl ((ha.at_ 0 (by decide)).trans rfl) rfl rfl rfl rfl rfl) ?_
    refine LexE.val rfl rfl rfl (fun h' ha => Val.assign (tm rfl)) ?_
    refine LexE.val rfl rfl rfl (fun h' ha => Val.assign Ev.const) ?_
    refine LexE.nil (nm ?_)
    refine W.norm 42 [(2, _), (3, _), (4, _)] [some ⟨_, _, [[_, _, _, _]]⟩, some ⟨_, _, [[_, _, _]]⟩, some ⟨_, _, [[_, _, _, _]]⟩] rfl ⟨rfl, rfl, rfl, trivial⟩ rfl rfl ?_
    refine W.ret (rt1 ?_)
    exact Ret.of (.inr rfl) rfl (resCell3 rfl Tryd.underlying98 rfl zs98 rfl rfl rfl rfl rfl rfl rfl rfl) (Fewer.nil _) (.inr trivial) (fun id h => absurd h (Nat.not_lt_zero _)) (.same rfl) ⟨rfl, .mk 0 0 0 [], _, 2, rfl, fun h => by cases h⟩
  try simp only [td] at hc6
  refine W.skip (nm ?_)
  refine W.seq ?_
  refine sr ?_
  refine WL.v (Val.loadLiveAgg Tryd.underlying98 rfl zs98 (tm rfl) rfl rfl rfl rfl (bl rfl)) rfl ?_
  refine WL.callV ca80 (evc (tm rfl) evn) (lo2 rfl lo0) rfl (c_Nodes W0 N _ _ (Nat.lt_succ_self _) (by omega)) ?_
  rintro _ rfl
  refine WL.v (Val.gtr (tm rfl) Ev.const) rfl ?_
  refine WL.norm 42 [(0, _), (2, _), (6, _), (37, _)] [some ⟨_, _, [[_, _, _, _]]⟩, some ⟨_, _, [[_, _, _]]⟩, some ⟨_, _, [[_, _, _, _]]⟩] rfl ⟨rfl, rfl, rfl, rfl, trivial⟩ rfl rfl ?_
  refine wn ?_
  refine W.condP rfl (fun hc8 => ?_) (fun hc8 => ?_)
  · try simp only [td] at hc8
    refine sr ?_
    refine WL.v (Val.le (Val.build (vs := []) Tryd.underlying98 zz98 rfl rfl pl98 rfl trivial) (Le.agg (ys := [_, _, _, .f (.lst 4 [])]) (LeL.cons (Le.refl _) (LeL.cons (Le.refl _) (LeL.cons (Le.refl _) (LeL.cons Le.nil LeL.nil)))))) rfl ?_
    refine mv rfl rfl ?_
    refine WL.v (Val.lenS Tryd.underlying9 (tm rfl)) rfl ?_
    refine WL.stp rfl (Stp.st (tm rfl) (tm rfl) zs98 rfl rfl rfl rfl rfl rfl rfl rfl) ?_
    refine asg rfl rfl ?_
    refine WL.v (Val.assign Ev.const) rfl ?_
    refine WL.norm 42 [(2, _), (3, _), (4, _)] [some ⟨_, _, [[_, _, _, _]]⟩, some ⟨_, _, [[_, _, _]]⟩, some ⟨_, _, [[_, _, _, _]]⟩] rfl ⟨rfl, rfl, rfl, trivial⟩ rfl rfl ?_
    refine wn ?_
    refine W.ret (rt1 ?_)
    exact Ret.of (.inr rfl) rfl (resCell3 rfl Tryd.underlying98 rfl zs98 rfl rfl rfl rfl rfl rfl rfl rfl) (Fewer.nil _) (.inr trivial) (fun id h => absurd h (Nat.not_lt_zero _)) (.same rfl) ⟨rfl, .mk 0 0 0 [], _, 4, rfl, fun h => by cases h⟩
  try simp only [td] at hc8
  refine W.skip (nm ?_)
  refine sr ?_
  refine WL.v (Val.loadLiveAgg Tryd.underlying98 rfl zs98 (tm rfl) rfl rfl rfl rfl (bl rfl)) rfl ?_
  refine WL.stp rfl (Stp.st (tm rfl) (tm rfl) zs98 rfl rfl rfl rfl rfl rfl rfl rfl) ?_
  refine WL.v (Val.assign Ev.const) rfl ?_
  refine WL.v (Val.assign Ev.const) rfl ?_
  refine WL.norm 42 [(2, _), (3, _), (4, _)] [some ⟨_, _, [[_, _, _, _]]⟩, some ⟨_, _, [[_, _, _]]⟩, some ⟨_, _, [[_, _, _, _]]⟩] rfl ⟨rfl, rfl, rfl, trivial⟩ rfl rfl ?_
  refine wn ?_
  refine W.ret ?_
  exact Ret.of (.inr rfl) rfl (resCell3 rfl Tryd.underlying98 rfl zs98 rfl rfl rfl rfl rfl rfl rfl rfl) (Fewer.nil _) (.inr trivial) (fun id h => absurd h (Nat.not_lt_zero _)) (.same rfl) ⟨rfl, x_, 0, 0, rfl, fun _ => ⟨hB2, by omega⟩⟩
-- enthymemeref04.Canonical
set_option maxHeartbeats 1000000 in
theorem c_RxCanonical (W0 : World) (N : Nat) (t : ByteArray) (ht : t.size ≤ 1000000) : AC (En W0 N) 55 [.s t] [] (fun r h => h = [] ∧ ∃ b, r = .b b ∧ True) := by
  refine AC.enter Tryd.func55 rfl Tryd.ntmps55 (bl rfl) fun X => ?_
  refine sr ?_
  refine WL.v (Val.assign Ev.const) rfl ?_
  refine WL.norm 29 [(0, _)] [] rfl ⟨rfl, trivial⟩ rfl rfl ?_
  refine wn ?_
  refine sr ?_
  refine mv rfl rfl ?_
  refine WL.callV ca66 (evc (tm rfl) evn) (lo1 lo0) rfl (c_Parse W0 N _ ht) ?_
  rintro _ ⟨x_, n_, e_, rfl, he_⟩
  refine mv rfl rfl ?_
  refine WL.v (Val.extract (tm rfl) rfl) rfl ?_
  refine WL.v (Val.extract (tm rfl) rfl) rfl ?_
  refine WL.v (Val.extract (tm rfl) rfl) rfl ?_
  refine WL.stp rfl (Stp.alloc zz98 rfl rfl) ?_
  refine WL.stp rfl (Stp.st (tm rfl) (tm rfl) zs98 rfl rfl rfl rfl rfl rfl rfl rfl) ?_
  refine asg rfl rfl ?_
  refine asg rfl rfl ?_
  refine WL.norm 29 [(0, _), (3, _), (5, _)] [some ⟨_, _, [[_, _, _, _]]⟩] rfl ⟨rfl, rfl, rfl, trivial⟩ rfl rfl ?_
  refine wn ?_
  refine W.seq ?_
  refine sr ?_
  refine mv rfl rfl ?_
  refine WL.v (Val.neq (tm rfl) Ev.const) rfl ?_
  refine WL.norm 29 [(0, _), (3, _), (15, _)] [some ⟨_, _, [[_, _, _, _]]⟩] rfl ⟨rfl, rfl, rfl, trivial⟩ rfl rfl ?_
  refine wn ?_
  refine W.condP rfl (fun hc2 => ?_) (fun hc2 => ?_)
  · try simp only [td] at hc2
    refine sr ?_
    refine WL.v (Val.assign Ev.const) rfl ?_
    refine WL.norm 29 [(2, _)] [some ⟨_, _, [[_, _, _, _]]⟩] rfl ⟨rfl, trivial⟩ rfl rfl ?_
    refine wn ?_
    refine W.ret (rt1 ?_)
    exact Ret.of (.inr rfl) rfl (res1 rfl rfl) (Fewer.nil _) (.inr trivial) (fun id h => absurd h (Nat.not_lt_zero _)) (.same rfl) ⟨rfl, _, rfl, trivial⟩
  try simp only [td] at hc2
  refine W.skip (nm ?_)
  refine sr ?_
  refine WL.v (Val.loadLiveAgg Tryd.underlying98 rfl zs98 (tm rfl) rfl rfl rfl rfl (bl rfl)) rfl ?_
  refine WL.callV ca67 (evc (tm rfl) evn) (lo2 rfl lo0) rfl (c_RxNormal W0 N x_ (by have := (he_ (by omega)).2; omega) (he_ (by omega)).1) ?_
  rintro _ ⟨y_, e2_, rfl, he2_⟩
  refine mv rfl rfl ?_
  refine WL.v (Val.extract (tm rfl) rfl) rfl ?_
  refine WL.v (Val.extract (tm rfl) rfl) rfl ?_
  refine WL.stp rfl (Stp.alloc zz98 rfl rfl) ?_
  refine WL.stp rfl (Stp.st (tm rfl) (tm rfl) zs98 rfl rfl rfl rfl rfl rfl rfl rfl) ?_
  refine asg rfl rfl ?_
  refine WL.norm 29 [(0, _), (6, _), (7, _)] [some ⟨_, _, [[_, _, _, _]]⟩, some ⟨_, _, [[_, _, _, _]]⟩] rfl ⟨rfl, rfl, rfl, trivial⟩ rfl rfl ?_
  refine wn ?_
  refine sr ?_
  refine mv rfl rfl ?_
  refine WL.v (Val.eql (tm rfl) Ev.const) rfl ?_
  refine mv rfl rfl ?_
  refine WL.g (Grd.t rfl rfl rfl) (fun hG => Val.loadLiveAgg Tryd.underlying98 rfl zs98 (tm rfl) rfl rfl rfl rfl (bl rfl)) rfl ?_
  refine WL.gcallE AV.s (Grd.t rfl rfl rfl) ca57 (fun hG => (evc (Ev.opt rfl hG) (evc Ev.const evn))) (lo2 rfl (lo1 lo0)) rfl (fun hG => c_Write W0 N _ y_ 0 (Nat.lt_succ_self _) (by have := (he2_ (by simpa using hG)).2; omega) (he2_ (by simpa using hG)).1 (by omega) (by omega)) ?_
  intro tw_ _
  refine WL.g (Grd.t rfl rfl rfl) (fun hG => Val.move (tm rfl)) rfl ?_
  refine WL.g (Grd.t rfl rfl rfl) (fun hG => Val.eqlS (Ev.opt rfl hG) (Ev.opt rfl hG)) rfl ?_
  refine WL.v (Val.and (tm rfl) (fun hb => Ev.opt rfl hb)) rfl ?_
  refine asg rfl rfl ?_
  refine WL.norm 29 [(2, _)] [some ⟨_, _, [[_, _, _, _]]⟩, some ⟨_, _, [[_, _, _, _]]⟩] rfl ⟨rfl, trivial⟩ rfl rfl ?_
  refine wn ?_
  refine W.ret ?_
  exact Ret.of (.inr rfl) rfl (res1 rfl rfl) (Fewer.nil _) (.inr trivial) (fun id h => absurd h (Nat.not_lt_zero _)) (.same rfl) ⟨rfl, _, rfl, trivial⟩
end Go.Aw
namespace Go.Aw
open Go.RowKit Go.Proofs

theorem EqFine.srt {g : List Nd} {n : Nd} (h : EqFine g n) : gA (sortsOf g n.kids) 0 = gA (sortsOf g n.kids) 1 := by
  obtain ⟨_, _, _, _, _, a, b, hk, _, _, _, _, hs⟩ := h
  rw [hk]; exact hs
theorem WFG.push {g : List Nd} (hg : WFG g) (hl : g.length < 1000) {n : Nd} (hk : KidsIn g n) (s : Srt) : WFG (g ++ [{ n with sort := s }]) := by
  refine ⟨by simp; omega, fun i m hi => ?_, fun m hm h0 => (List.mem_append.1 hm).elim (fun h => hg.var m h h0) (fun h => by rw [List.mem_singleton.1 h] at h0 ⊢; exact hk.2.2 h0)⟩
  by_cases hil : i < g.length
  · rw [List.getElem?_append_left hil] at hi; exact hg.node i m hi
  · have : i = g.length := by have := (List.getElem?_eq_some_iff.1 hi).1; simp at this; omega
    subst this
    rw [List.getElem?_append_right (Nat.le_refl _)] at hi
    simp at hi; subst hi
    exact ⟨Nat.le_trans hk.1 (by decide), hk.2.1⟩

-- enthymemeref07.SortOf
set_option maxHeartbeats 1000000 in
theorem c_SortOf (W0 : World) (N : Nat) (g : List Nd) (hg : g.length ≤ 1000) (n : Nd) (ht : n.text.size ≤ 1000000) : AC (En W0 N) 37 [.f (.nodes g), n.agg] [] (fun r h => h = [] ∧ ∃ s e, r = .tup [Srt.agg s, .i e] ∧ (e = 0 → KidsIn g n) ∧ (EqFine g n → e = 0)) := by
  refine AC.enter Tryd.func37 rfl Tryd.ntmps37 (bl rfl) fun X => ?_
  refine sr ?_
  refine WL.stp rfl (Stp.box (tm rfl) rfl rfl) ?_
  refine WL.stp rfl (Stp.alloc zz33 rfl rfl) ?_
  refine WL.v (Val.assign Ev.const) rfl ?_
  refine WL.norm 76 [(0, _), (3, _), (4, _)] [some ⟨_, _, [[_, _, _, _, _, _, _, _, _]]⟩, some ⟨_, _, [[_, _, _]]⟩] rfl ⟨rfl, rfl, rfl, trivial⟩ rfl rfl ?_
  refine wn ?_
  refine sr ?_
  refine mv rfl rfl ?_
  refine WL.v (Val.loadLiveAgg Tryd.underlying35 rfl zs35 (tm rfl) rfl rfl rfl rfl (bl rfl)) rfl ?_
  refine WL.callV ca51 (evc (tm rfl) (evc (tm rfl) evn)) (lo1 (lo2 rfl lo0)) rfl (c_fields W0 N _ hg n) ?_
  rintro _ ⟨e_, rfl, he_1, he_2, he_3⟩
  refine asg rfl rfl ?_
  refine WL.norm 76 [(0, _), (3, _), (4, _), (6, _)] [some ⟨_, _, [[_, _, _, _, _, _, _, _, _]]⟩, some ⟨_, _, [[_, _, _]]⟩] rfl ⟨rfl, rfl, rfl, rfl, trivial⟩ rfl rfl ?_
  refine wn ?_
  refine W.seq ?_
  refine sr ?_
  refine mv rfl rfl ?_
  refine WL.v (Val.neq (tm rfl) Ev.const) rfl ?_
  refine WL.norm 76 [(0, _), (3, _), (4, _), (6, _), (17, _)] [some ⟨_, _, [[_, _, _, _, _, _, _, _, _]]⟩, some ⟨_, _, [[_, _, _]]⟩] rfl ⟨rfl, rfl, rfl, rfl, rfl, trivial⟩ rfl rfl ?_
  refine wn ?_
  refine W.condP rfl (fun hc2 => ?_) (fun hc2 => ?_)
  · try simp only [td] at hc2
    refine sr ?_
    refine WL.v (Val.build (vs := []) Tryd.underlying33 zz33 rfl rfl pl33 rfl trivial) rfl ?_
    refine mv rfl rfl ?_
    refine WL.stp rfl (Stp.st (tm rfl) (tm rfl) zs33 rfl rfl rfl rfl rfl rfl rfl rfl) ?_
    refine asg rfl rfl ?_
    refine WL.norm 76 [(4, _), (5, _)] [some ⟨_, _, [[_, _, _, _, _, _, _, _, _]]⟩, some ⟨_, _, [[_, _, _]]⟩] rfl ⟨rfl, rfl, trivial⟩ rfl rfl ?_
    refine wn ?_
    refine W.ret (rt1 ?_)
    exact Ret.of (.inr rfl) rfl (resCell2 rfl Tryd.underlying33 rfl zs33 rfl rfl rfl rfl rfl rfl rfl) (Fewer.nil _) (.inr trivial) (fun id h => absurd h (Nat.not_lt_zero _)) (.same rfl) ⟨rfl, ⟨_, _, _⟩, _, rfl, fun h => absurd h hc2, he_2⟩
  try simp only [td] at hc2
  refine W.skip (nm ?_)
  refine W.seq ?_
  refine sr ?_
  refine WL.v (Val.fal (off := 1) Tryd.underlying35 rfl rfl zs22 (tm rfl)) rfl ?_
  refine WL.v (Val.loadLive Tryd.underlying22 rfl (tm rfl) rfl rfl rfl rfl rfl) rfl ?_
  refine WL.v (Val.ln (enc := encI) Tryd.underlying22 (tm rfl)) rfl ?_
  refine WL.v (Val.eql (tm rfl) Ev.const) rfl ?_
  refine WL.norm 76 [(0, _), (3, _), (4, _), (23, _)] [some ⟨_, _, [[_, _, _, _, _, _, _, _, _]]⟩, some ⟨_, _, [[_, _, _]]⟩] rfl ⟨rfl, rfl, rfl, rfl, trivial⟩ rfl rfl ?_
  refine wn ?_
  refine W.condP rfl (fun hc4 => ?_) (fun hc4 => ?_)
  · try simp only [td] at hc4
    refine sr ?_
    refine mv rfl rfl ?_
    refine WL.v (Val.loadLiveAgg Tryd.underlying35 rfl zs35 (tm rfl) rfl rfl rfl rfl (bl rfl)) rfl ?_
    refine WL.callV ca52 (evc (tm rfl) (evc (tm rfl) evn)) (lo1 (lo2 rfl lo0)) rfl (c_leaf W0 N _ hg n ht) ?_
    rintro _ ⟨s_, e_, rfl⟩
    refine WL.v (Val.extract (tm rfl) rfl) rfl ?_
    refine WL.v (Val.extract (tm rfl) rfl) rfl ?_
    refine WL.stp rfl (Stp.st (tm rfl) (tm rfl) zs33 rfl rfl rfl rfl rfl rfl rfl rfl) ?_
    refine asg rfl rfl ?_
    refine WL.norm 76 [(4, _), (5, _)] [some ⟨_, _, [[_, _, _, _, _, _, _, _, _]]⟩, some ⟨_, _, [[_, _, _]]⟩] rfl ⟨rfl, rfl, trivial⟩ rfl rfl ?_
    refine wn ?_
    refine W.ret (rt1 ?_)
    exact Ret.of (.inr rfl) rfl (resCell2 rfl Tryd.underlying33 rfl zs33 rfl rfl rfl rfl rfl rfl rfl) (Fewer.nil _) (.inr trivial) (fun id h => absurd h (Nat.not_lt_zero _)) (.same rfl) ⟨rfl, ⟨_, _, _⟩, _, rfl, fun _ => he_1 hc2, fun h => absurd h.len (by omega)⟩
  try simp only [td] at hc4
  refine W.skip (nm ?_)
  refine W.seq ?_
  have hK := he_1 hc2
  have hK3 := he_3 hc2
  have hfew := hK.1
  refine W.region ?_
  refine WL.v (Val.assign Ev.const) rfl ?_
  refine WL.norm 76 [(0, _), (3, _), (4, _), (7, _)] [some ⟨_, _, [[_, _, _, _, _, _, _, _, _]]⟩, some ⟨_, _, [[_, _, _]]⟩] rfl ⟨rfl, rfl, rfl, rfl, trivial⟩ rfl rfl ?_
  refine wn ?_
  refine W.seq ?_
  refine sr ?_
  refine WL.v (Val.assign Ev.const) rfl ?_
  refine WL.norm 76 [(0, _), (3, _), (4, _), (7, _), (8, _)] [some ⟨_, _, [[_, _, _, _, _, _, _, _, _]]⟩, some ⟨_, _, [[_, _, _]]⟩] rfl ⟨rfl, rfl, rfl, rfl, rfl, trivial⟩ rfl rfl ?_
  refine wn ?_
  refine W.reserve ?_
  refine W.norm 76 [(0, _), (3, _), (4, _), (7, _), (8, _)] [some ⟨_, _, [[_, _, _, _, _, _, _, _, _]]⟩, some ⟨_, _, [[_, _, _]]⟩, _] rfl ⟨rfl, rfl, rfl, rfl, rfl, trivial⟩ rfl rfl ?_
  refine W.block (W.loop (fun nn S => ∃ (k : Int) (v : AV) (o : Option Row), S = ⟨76, [(0, .f (.nodes g)), (3, .ptr 0 0 9 0 0), (4, .ptr 1 0 3 0 0), (7, v), (8, .i k)], [some ⟨0, 9, [n.cells.map .f]⟩, some ⟨0, 3, [[.i 0, .i 0, .i 0]]⟩, o], []⟩ ∧ nn = ((n.kids.length - k).toNat) ∧ (0 ≤ k) ∧ (k ≤ n.kids.length) ∧ (Acc 2 3 (fz ((sortsOf g (n.kids.take k.toNat)).map Srt.cells)) v o)) ⟨0, _, _, rfl, rfl, by omega, by omega, Acc.zero⟩ ?_)
  rintro nn S ⟨k, v, o, rfl, rfl, hk0, hk1, ha⟩
  refine W.seq ?_
  refine sr ?_
  refine mv rfl rfl ?_
  refine WL.v (Val.fal (off := 1) Tryd.underlying35 rfl rfl zs22 (tm rfl)) rfl ?_
  refine WL.v (Val.loadLive Tryd.underlying22 rfl (tm rfl) rfl rfl rfl rfl rfl) rfl ?_
  refine WL.v (Val.ln (enc := encI) Tryd.underlying22 (tm rfl)) rfl ?_
  refine WL.v (Val.lss (tm rfl) (tm rfl)) rfl ?_
  refine WL.norm 76 [(0, _), (3, _), (4, _), (7, _), (8, _), (33, _)] [some ⟨_, _, [[_, _, _, _, _, _, _, _, _]]⟩, some ⟨_, _, [[_, _, _]]⟩, _] rfl ⟨rfl, rfl, rfl, rfl, rfl, rfl, trivial⟩ rfl rfl ?_
  refine wn ?_
  refine W.condP rfl (fun hc8 => ?_) (fun hc8 => ?_)
  · try simp only [td] at hc8
    refine W.skip (nm ?_)
    refine W.seq ?_
    refine W.block ?_
    have hkk := hK.2.1 _ (gA_mem hk0 hc8)
    refine W.region ?_
    refine mv rfl rfl ?_
    refine mv rfl rfl ?_
    refine WL.v (Val.fal (off := 1) Tryd.underlying35 rfl rfl zs22 (tm rfl)) rfl ?_
    refine WL.v (Val.loadLive Tryd.underlying22 rfl (tm rfl) rfl rfl rfl rfl rfl) rfl ?_
    refine mv rfl rfl ?_
    refine WL.v (Val.ix (enc := encI) Tryd.underlying22 zs3 (tm rfl) (tm rfl) (by omega) (gA_at (by omega) (by omega))) rfl ?_
    refine WL.v (Val.load Tryd.underlying3 rfl (tm rfl)) rfl ?_
    refine WL.v (Val.ix (enc := Nd.cells) Tryd.underlying23 zs35 (tm rfl) (tm rfl) (by omega) (gA_at (by omega) (by omega))) rfl ?_
    refine WL.v (Val.fa (off := 6) Tryd.underlying35 rfl rfl zs33 (tm rfl)) rfl ?_
    refine WL.v (Val.loadAgg Tryd.underlying33 rfl zs33 (tm rfl) (bl rfl)) rfl ?_
    refine WL.stp rfl (Stp.buildFrozen (xs := [_]) (fs := ([(gA g (gA n.kids k)).sort] : List Srt).map Srt.cells) Tryd.underlying85 zs33 zz33 rfl rfl (evc (tm rfl) evn) fitL (bl rfl) rfl rfl) ?_
    refine WL.appE (enc := Srt.cells) ap85_85 (tm rfl) rfl ha (ArgE.lst (enc := Srt.cells) (tm rfl) (by intro x; first | rfl | exact rxLen x)) (by simp only [List.length_map, List.length_take, sortsOf, List.length_cons, List.length_nil]; omega) rfl ?_
    intro v' o' ha'
    refine asg rfl rfl ?_
    refine WL.norm 76 [(0, _), (3, _), (4, _), (7, _), (8, _)] [some ⟨_, _, [[_, _, _, _, _, _, _, _, _]]⟩, some ⟨_, _, [[_, _, _]]⟩, _] rfl ⟨rfl, rfl, rfl, rfl, rfl, trivial⟩ rfl rfl ?_
    refine WL.nil (nb (nm ?_))
    refine W.region ?_
    refine mv rfl rfl ?_
    refine WL.v (Val.add (tm rfl) Ev.const (IntWalk.i64_in _ (by omega))) rfl ?_
    refine asg rfl rfl ?_
    refine WL.norm 76 [(0, _), (3, _), (4, _), (7, _), (8, _)] [some ⟨_, _, [[_, _, _, _, _, _, _, _, _]]⟩, some ⟨_, _, [[_, _, _]]⟩, _] rfl ⟨rfl, rfl, rfl, rfl, rfl, trivial⟩ rfl rfl ?_
    refine wn ?_
    exact ⟨_, by omega, k + 1, _, _, rfl, rfl, by omega, by omega, by rw [← sorts_step hk0 hc8]; exact ha'⟩
  try simp only [td] at hc8
  refine W.exit (ex1 (ex1 (ex2 (nm ?_))))
  refine W.seq ?_
  have hk2 : n.kids.take k.toNat = n.kids := List.take_of_length_le (by omega)
  rw [hk2] at ha
  refine W.cut (env := [(3, _), (4, _), (7, _)]) (h' := [some ⟨_, _, [[_, _, _, _, _, _, _, _, _]]⟩, some ⟨_, _, [[_, _, _]]⟩]) (Fewer.pre _ rfl) (.inr (HLo.box (lo1 (lo1 (lo1 (lo1 (lo1 (lo1 (lo1 (lo1 (lo1 lo0))))))))) (HLo.box (lo1 (lo1 (lo1 lo0))) HLo.nil))) (fun id h => absurd h (Nat.not_lt_zero _)) ⟨⟨_, rfl, (.same rfl)⟩, ⟨_, rfl, (.same rfl)⟩, ⟨_, rfl, (Acc.thaw ha rfl rfl (encL (by intro x; first | rfl | exact rxLen x)))⟩, trivial⟩ ?_
  refine W.region ?_
  refine WL.v (Val.fal (off := 0) Tryd.underlying35 rfl rfl zs3 (tm rfl)) rfl ?_
  refine WL.v (Val.loadLive Tryd.underlying3 rfl (tm rfl) rfl rfl rfl rfl rfl) rfl ?_
  refine mv rfl rfl ?_
  refine WL.callV ca53 (evc (tm rfl) (evc (tm rfl) evn)) (lo1 (lo1 lo0)) rfl (c_fit W0 N _ _ (by rw [sortsOf, List.length_map]; omega) (by rw [sortsOf, List.length_map]; omega)) ?_
  rintro _ ⟨b_, rfl, hb_⟩
  refine asg rfl rfl ?_
  refine WL.norm 76 [(3, _), (4, _), (7, _), (9, _)] [some ⟨_, _, [[_, _, _, _, _, _, _, _, _]]⟩, some ⟨_, _, [[_, _, _]]⟩] rfl ⟨rfl, rfl, rfl, rfl, trivial⟩ rfl rfl ?_
  refine wn ?_
  refine W.seq ?_
  refine sr ?_
  refine mv rfl rfl ?_
  refine WL.v (Val.not (tm rfl)) rfl ?_
  refine WL.norm 76 [(3, _), (4, _), (7, _), (53, _)] [some ⟨_, _, [[_, _, _, _, _, _, _, _, _]]⟩, some ⟨_, _, [[_, _, _]]⟩] rfl ⟨rfl, rfl, rfl, rfl, trivial⟩ rfl rfl ?_
  refine wn ?_
  refine W.condP rfl (fun hc12 => ?_) (fun hc12 => ?_)
  · try simp only [td] at hc12
    refine sr ?_
    refine WL.v (Val.build (vs := []) Tryd.underlying33 zz33 rfl rfl pl33 rfl trivial) rfl ?_
    refine WL.stp rfl (Stp.st (tm rfl) (tm rfl) zs33 rfl rfl rfl rfl rfl rfl rfl rfl) ?_
    refine WL.v (Val.assign Ev.const) rfl ?_
    refine WL.norm 76 [(4, _), (5, _)] [some ⟨_, _, [[_, _, _, _, _, _, _, _, _]]⟩, some ⟨_, _, [[_, _, _]]⟩] rfl ⟨rfl, rfl, trivial⟩ rfl rfl ?_
    refine wn ?_
    refine W.ret (rt1 ?_)
    exact Ret.of (.inr rfl) rfl (resCell2 rfl Tryd.underlying33 rfl zs33 rfl rfl rfl rfl rfl rfl rfl) (Fewer.nil _) (.inr trivial) (fun id h => absurd h (Nat.not_lt_zero _)) (.same rfl) ⟨rfl, ⟨_, _, _⟩, _, rfl, fun h => absurd h (by omega), fun h => absurd (hb_ h.1 h.srt) (by rw [hc12]; decide)⟩
  try simp only [td] at hc12
  refine W.skip (nm ?_)
  refine sr ?_
  refine WL.v (Val.loadLiveAgg Tryd.underlying35 rfl zs35 (tm rfl) rfl rfl rfl rfl (bl rfl)) rfl ?_
  refine mv rfl rfl ?_
  refine WL.callV ca54 (evc (tm rfl) (evc (tm rfl) evn)) (lo2 rfl (lo1 lo0)) rfl (c_result W0 N n _ (by rw [sortsOf, List.length_map]; omega) (by rw [sortsOf, List.length_map]; omega)) ?_
  rintro _ ⟨s_, b2_, rfl, hb2_⟩
  refine mv rfl rfl ?_
  refine WL.v (Val.extract (tm rfl) rfl) rfl ?_
  refine WL.v (Val.extract (tm rfl) rfl) rfl ?_
  refine WL.stp rfl (Stp.alloc zz33 rfl rfl) ?_
  refine WL.stp rfl (Stp.st (tm rfl) (tm rfl) zs33 rfl rfl rfl rfl rfl rfl rfl rfl) ?_
  refine asg rfl rfl ?_
  refine WL.norm 76 [(3, _), (4, _), (10, _), (11, _)] [some ⟨_, _, [[_, _, _, _, _, _, _, _, _]]⟩, some ⟨_, _, [[_, _, _]]⟩, some ⟨_, _, [[_, _, _]]⟩] rfl ⟨rfl, rfl, rfl, rfl, trivial⟩ rfl rfl ?_
  refine wn ?_
  refine W.seq ?_
  refine sr ?_
  refine mv rfl rfl ?_
  refine WL.v (Val.not (tm rfl)) rfl ?_
  refine WL.norm 76 [(3, _), (4, _), (10, _), (62, _)] [some ⟨_, _, [[_, _, _, _, _, _, _, _, _]]⟩, some ⟨_, _, [[_, _, _]]⟩, some ⟨_, _, [[_, _, _]]⟩] rfl ⟨rfl, rfl, rfl, rfl, trivial⟩ rfl rfl ?_
  refine wn ?_
  refine W.condP rfl (fun hc15 => ?_) (fun hc15 => ?_)
  · try simp only [td] at hc15
    refine sr ?_
    refine WL.v (Val.build (vs := []) Tryd.underlying33 zz33 rfl rfl pl33 rfl trivial) rfl ?_
    refine WL.stp rfl (Stp.st (tm rfl) (tm rfl) zs33 rfl rfl rfl rfl rfl rfl rfl rfl) ?_
    refine WL.v (Val.assign Ev.const) rfl ?_
    refine WL.norm 76 [(4, _), (5, _)] [some ⟨_, _, [[_, _, _, _, _, _, _, _, _]]⟩, some ⟨_, _, [[_, _, _]]⟩, some ⟨_, _, [[_, _, _]]⟩] rfl ⟨rfl, rfl, trivial⟩ rfl rfl ?_
    refine wn ?_
    refine W.ret (rt1 ?_)
    exact Ret.of (.inr rfl) rfl (resCell2 rfl Tryd.underlying33 rfl zs33 rfl rfl rfl rfl rfl rfl rfl) (Fewer.nil _) (.inr trivial) (fun id h => absurd h (Nat.not_lt_zero _)) (.same rfl) ⟨rfl, ⟨_, _, _⟩, _, rfl, fun h => absurd h (by omega), fun h => absurd (hb2_ h.1) (by rw [hc15]; decide)⟩
  try simp only [td] at hc15
  refine W.skip (nm ?_)
  refine sr ?_
  refine WL.v (Val.fal (off := 0) Tryd.underlying35 rfl rfl zs3 (tm rfl)) rfl ?_
  refine WL.v (Val.loadLive Tryd.underlying3 rfl (tm rfl) rfl rfl rfl rfl rfl) rfl ?_
  refine WL.v (Val.neq (tm rfl) Ev.const) rfl ?_
  refine mv rfl rfl ?_
  refine WL.g (Grd.f rfl rfl rfl) (fun hG => Val.fal (off := 5) Tryd.underlying35 rfl rfl zs9 (tm rfl)) rfl ?_
  refine WL.g (Grd.f rfl rfl rfl) (fun hG => Val.loadLive Tryd.underlying9 rfl (Ev.opt rfl hG) rfl rfl rfl rfl rfl) rfl ?_
  refine WL.gcallE AV.b (Grd.f rfl rfl rfl) ca55 (fun hG => (evc (Ev.opt rfl hG) evn)) (lo1 lo0) rfl (fun hG => c_RxCanonical W0 N _ ht) ?_
  intro b_ hb_
  refine WL.v (Val.or (tm rfl) (fun hb => Ev.opt rfl (nt hb))) rfl ?_
  refine asg rfl rfl ?_
  refine WL.norm 76 [(4, _), (10, _), (12, _)] [some ⟨_, _, [[_, _, _, _, _, _, _, _, _]]⟩, some ⟨_, _, [[_, _, _]]⟩, some ⟨_, _, [[_, _, _]]⟩] rfl ⟨rfl, rfl, rfl, trivial⟩ rfl rfl ?_
  refine wn ?_
  refine W.seq ?_
  refine sr ?_
  refine mv rfl rfl ?_
  refine WL.v (Val.not (tm rfl)) rfl ?_
  refine WL.norm 76 [(4, _), (10, _), (73, _)] [some ⟨_, _, [[_, _, _, _, _, _, _, _, _]]⟩, some ⟨_, _, [[_, _, _]]⟩, some ⟨_, _, [[_, _, _]]⟩] rfl ⟨rfl, rfl, rfl, trivial⟩ rfl rfl ?_
  refine wn ?_
  refine W.condP rfl (fun hc18 => ?_) (fun hc18 => ?_)
  · try simp only [td] at hc18
    refine sr ?_
    refine WL.v (Val.build (vs := []) Tryd.underlying33 zz33 rfl rfl pl33 rfl trivial) rfl ?_
    refine WL.stp rfl (Stp.st (tm rfl) (tm rfl) zs33 rfl rfl rfl rfl rfl rfl rfl rfl) ?_
    refine WL.v (Val.assign Ev.const) rfl ?_
    refine WL.norm 76 [(4, _), (5, _)] [some ⟨_, _, [[_, _, _, _, _, _, _, _, _]]⟩, some ⟨_, _, [[_, _, _]]⟩, some ⟨_, _, [[_, _, _]]⟩] rfl ⟨rfl, rfl, trivial⟩ rfl rfl ?_
    refine wn ?_
    refine W.ret (rt1 ?_)
    exact Ret.of (.inr rfl) rfl (resCell2 rfl Tryd.underlying33 rfl zs33 rfl rfl rfl rfl rfl rfl rfl) (Fewer.nil _) (.inr trivial) (fun id h => absurd h (Nat.not_lt_zero _)) (.same rfl) ⟨rfl, ⟨_, _, _⟩, _, rfl, fun h => absurd h (by omega), fun h => by have := h.1; omega⟩
  try simp only [td] at hc18
  refine W.skip (nm ?_)
  refine sr ?_
  refine WL.v (Val.loadLiveAgg Tryd.underlying33 rfl zs33 (tm rfl) rfl rfl rfl rfl (bl rfl)) rfl ?_
  refine WL.stp rfl (Stp.st (tm rfl) (tm rfl) zs33 rfl rfl rfl rfl rfl rfl rfl rfl) ?_
  refine WL.v (Val.assign Ev.const) rfl ?_
  refine WL.norm 76 [(4, _), (5, _)] [some ⟨_, _, [[_, _, _, _, _, _, _, _, _]]⟩, some ⟨_, _, [[_, _, _]]⟩, some ⟨_, _, [[_, _, _]]⟩] rfl ⟨rfl, rfl, trivial⟩ rfl rfl ?_
  refine wn ?_
  refine W.ret ?_
  exact Ret.of (.inr rfl) rfl (resCell2 rfl Tryd.underlying33 rfl zs33 rfl rfl rfl rfl rfl rfl rfl) (Fewer.nil _) (.inr trivial) (fun id h => absurd h (Nat.not_lt_zero _)) (.same rfl) ⟨rfl, ⟨_, _, _⟩, _, rfl, fun _ => hK, fun _ => rfl⟩
-- enthymemeref07.Index
set_option maxHeartbeats 1000000 in
theorem c_Index (W0 : World) (N : Nat) (g : List Nd) (hg : WFG g) (n : Nd) (ht : n.text.size ≤ 1000000) : AC (En W0 N) 38 [.f (.nodes g), n.agg] [] (fun r h => h = [] ∧ ∃ q, r = .i q ∧ -1 ≤ q ∧ q < g.length ∧ (0 ≤ q → (gA g q).op = n.op)) := by
  refine AC.enter Tryd.func38 rfl Tryd.ntmps38 (bl rfl) fun X => ?_
  have hgl := hg.len
  refine sr ?_
  refine WL.stp rfl (Stp.box (tm rfl) rfl rfl) ?_
  refine WL.v (Val.assign Ev.const) rfl ?_
  refine WL.norm 33 [(0, _), (3, _)] [some ⟨_, _, [[_, _, _, _, _, _, _, _, _]]⟩] rfl ⟨rfl, rfl, trivial⟩ rfl rfl ?_
  refine wn ?_
  refine sr ?_
  refine mv rfl rfl ?_
  refine WL.v (Val.loadLiveAgg Tryd.underlying35 rfl zs35 (tm rfl) rfl rfl rfl rfl (bl rfl)) rfl ?_
  refine WL.callV ca37 (evc (tm rfl) (evc (tm rfl) evn)) (lo1 (lo2 rfl lo0)) rfl (c_SortOf W0 N g hgl n ht) ?_
  rintro _ ⟨s_, e_, rfl, he_1, he_2⟩
  refine mv rfl rfl ?_
  refine WL.v (Val.extract (tm rfl) rfl) rfl ?_
  refine WL.v (Val.extract (tm rfl) rfl) rfl ?_
  refine WL.stp rfl (Stp.alloc zz33 rfl rfl) ?_
  refine WL.stp rfl (Stp.st (tm rfl) (tm rfl) zs33 rfl rfl rfl rfl rfl rfl rfl rfl) ?_
  refine asg rfl rfl ?_
  refine WL.norm 33 [(0, _), (3, _), (5, _), (6, _)] [some ⟨_, _, [[_, _, _, _, _, _, _, _, _]]⟩, some ⟨_, _, [[_, _, _]]⟩] rfl ⟨rfl, rfl, rfl, rfl, trivial⟩ rfl rfl ?_
  refine wn ?_
  refine W.join (fun S => ∃ (n' : Nd) (x : Option Row), S = ⟨33, [(0, .f (.nodes g)), (3, .ptr 0 0 9 0 0)], [some ⟨0, 9, [n'.cells.map .f]⟩, x], []⟩ ∧ (n'.op = n.op)) ?_ ?_
  · refine sr ?_
    refine mv rfl rfl ?_
    refine WL.v (Val.eql (tm rfl) Ev.const) rfl ?_
    refine WL.norm 33 [(0, _), (3, _), (5, _), (16, _)] [some ⟨_, _, [[_, _, _, _, _, _, _, _, _]]⟩, some ⟨_, _, [[_, _, _]]⟩] rfl ⟨rfl, rfl, rfl, rfl, trivial⟩ rfl rfl ?_
    refine wn ?_
    refine W.condP rfl (fun hc2 => ?_) (fun hc2 => ?_)
    · try simp only [td] at hc2
      refine W.region ?_
      refine WL.v (Val.loadLiveAgg Tryd.underlying33 rfl zs33 (tm rfl) rfl rfl rfl rfl (bl rfl)) rfl ?_
      refine WL.v (Val.fal (off := 6) Tryd.underlying35 rfl rfl zs33 (tm rfl)) rfl ?_
      refine WL.stp rfl (Stp.st (tm rfl) (tm rfl) zs33 rfl rfl rfl rfl rfl rfl rfl rfl) ?_
      refine WL.norm 33 [(0, _), (3, _)] [some ⟨_, _, [[_, _, _, _, _, _, _, _, _]]⟩, some ⟨_, _, [[_, _, _]]⟩] rfl ⟨rfl, rfl, trivial⟩ rfl rfl ?_
      refine wn ?_
      exact ⟨{ n with sort := s_ }, _, rfl, rfl⟩
    try simp only [td] at hc2
    refine W.norm 33 [(0, _), (3, _)] [some ⟨_, _, [[_, _, _, _, _, _, _, _, _]]⟩, some ⟨_, _, [[_, _, _]]⟩] rfl ⟨rfl, rfl, trivial⟩ rfl rfl ?_
    refine W.skip (nm ?_)
    exact ⟨n, _, rfl, rfl⟩
  rintro S ⟨n', x, rfl, hop⟩
  refine W.seq ?_
  refine sr ?_
  refine WL.v (Val.assign Ev.const) rfl ?_
  refine WL.norm 33 [(0, _), (3, _), (7, _)] [some ⟨_, _, [[_, _, _, _, _, _, _, _, _]]⟩, _] rfl ⟨rfl, rfl, rfl, trivial⟩ rfl rfl ?_
  refine wn ?_
  refine W.norm 33 [(0, _), (3, _), (7, _)] [some ⟨_, _, [[_, _, _, _, _, _, _, _, _]]⟩, _] rfl ⟨rfl, rfl, rfl, trivial⟩ rfl rfl ?_
  refine W.block (W.loop (fun nn S => ∃ (k : Int), S = ⟨33, [(0, .f (.nodes g)), (3, .ptr 0 0 9 0 0), (7, .i k)], [some ⟨0, 9, [n'.cells.map .f]⟩, x], []⟩ ∧ nn = ((g.length - k).toNat) ∧ (0 ≤ k) ∧ (k ≤ g.length)) ⟨0, rfl, rfl, by omega, by omega⟩ ?_)
  rintro nn S ⟨k, rfl, rfl, hf0_0, hf0_1⟩
  refine W.seq ?_
  refine sr ?_
  refine mv rfl rfl ?_
  refine mv rfl rfl ?_
  refine WL.v (Val.ln (enc := Nd.cells) Tryd.underlying23 (tm rfl)) rfl ?_
  refine WL.v (Val.lss (tm rfl) (tm rfl)) rfl ?_
  refine WL.norm 33 [(0, _), (3, _), (7, _), (22, _)] [some ⟨_, _, [[_, _, _, _, _, _, _, _, _]]⟩, _] rfl ⟨rfl, rfl, rfl, rfl, trivial⟩ rfl rfl ?_
  refine wn ?_
  refine W.condP rfl (fun hc5 => ?_) (fun hc5 => ?_)
  · try simp only [td] at hc5
    refine W.skip (nm ?_)
    refine W.seq ?_
    refine W.block ?_
    refine W.seq ?_
    refine W.drawE (fun k => ([([], []), ([], []), ([], []), ([], []), ([0], []), ([], []), ([], [])] : List (List Nat × List Nat)).getD k ([], [])) rfl (by kernel_rfl) (bl rfl) ?_
    refine LexE.val rfl rfl rfl (fun h' ha => Val.move (tm rfl)) ?_
    refine LexE.val rfl rfl rfl (fun h' ha => Val.move (tm rfl)) ?_
    refine LexE.val rfl rfl rfl (fun h' ha => Val.ix (enc := Nd.cells) Tryd.underlying23 zs35 (tm rfl) (tm rfl) (by omega) (gA_at (by omega) (by omega))) ?_
    refine LexE.val rfl rfl rfl (fun h' ha => Val.loadAgg Tryd.underlying35 rfl zs35 (tm rfl) (bl rfl)) ?_
    refine LexE.val rfl rfl rfl (fun h' ha => Val.loadLiveAgg Tryd.underlying35 rfl zs35 (tm rfl) ((ha.at_ 0 (by decide)).trans rfl) rfl rfl rfl (bl rfl)) ?_
    refine LexE.call ca42 (fun h' ha => (evc (tm rfl) (evc (tm rfl) evn))) (lo2 rfl (lo2 rfl lo0)) rfl (c_Same W0 N (gA g k) n' (Nat.le_trans (hg.few hf0_0 hc5) (by decide))) rfl ?_
    refine LexE.val rfl rfl rfl (fun h' ha => Val.assign (tm rfl)) ?_
    refine LexE.nil (nm ?_)
    refine W.norm 33 [(0, _), (3, _), (7, _), (8, _)] [some ⟨_, _, [[_, _, _, _, _, _, _, _, _]]⟩, _] rfl ⟨rfl, rfl, rfl, rfl, trivial⟩ rfl rfl ?_
    refine sr ?_
    refine mv rfl rfl ?_
    refine WL.norm 33 [(0, _), (3, _), (7, _), (31, _)] [some ⟨_, _, [[_, _, _, _, _, _, _, _, _]]⟩, _] rfl ⟨rfl, rfl, rfl, rfl, trivial⟩ rfl rfl ?_
    refine wn ?_
    refine W.condP rfl (fun hc8 => ?_) (fun hc8 => ?_)
    · try simp only [td] at hc8
      refine sr ?_
      refine mv rfl rfl ?_
      refine asg rfl rfl ?_
      refine WL.norm 33 [(4, _)] [some ⟨_, _, [[_, _, _, _, _, _, _, _, _]]⟩, _] rfl ⟨rfl, trivial⟩ rfl rfl ?_
      refine wn ?_
      refine W.ret (rt2 (rt1 (rt1 (rt2 (rt1 ?_)))))
      exact Ret.of (.inr rfl) rfl (res1 rfl rfl) (Fewer.nil _) (.inr trivial) (fun id h => absurd h (Nat.not_lt_zero _)) (.same rfl) ⟨rfl, _, rfl, by omega, by omega, fun _ => by rw [hc8]; exact hop⟩
    try simp only [td] at hc8
    refine W.skip (nb (nm ?_))
    refine W.region ?_
    refine mv rfl rfl ?_
    refine WL.v (Val.add (tm rfl) Ev.const (IntWalk.i64_in _ (by omega))) rfl ?_
    refine asg rfl rfl ?_
    refine WL.norm 33 [(0, _), (3, _), (7, _)] [some ⟨_, _, [[_, _, _, _, _, _, _, _, _]]⟩, _] rfl ⟨rfl, rfl, rfl, trivial⟩ rfl rfl ?_
    refine wn ?_
    exact ⟨_, by omega, k + 1, rfl, rfl, by omega, by omega⟩
  try simp only [td] at hc5
  refine W.exit (ex1 (ex1 (ex2 (nm ?_))))
  refine sr ?_
  refine WL.v (Val.assign Ev.const) rfl ?_
  refine WL.norm 33 [(4, _)] [some ⟨_, _, [[_, _, _, _, _, _, _, _, _]]⟩, _] rfl ⟨rfl, trivial⟩ rfl rfl ?_
  refine wn ?_
  refine W.ret ?_
  exact Ret.of (.inr rfl) rfl (res1 rfl rfl) (Fewer.nil _) (.inr trivial) (fun id h => absurd h (Nat.not_lt_zero _)) (.same rfl) ⟨rfl, _, rfl, by omega, by omega, fun h => absurd h (by omega)⟩
-- enthymemeref07.Add
set_option maxHeartbeats 1000000 in
theorem c_Add (W0 : World) (N : Nat) (g : List Nd) (hg : WFG g) (hl : g.length < 1000) (n : Nd) (ht : n.text.size ≤ 1000000) : AC (En W0 N) 19 [.f (.nodes g), n.agg] [] (fun r h => h = [] ∧ ∃ g' q e, r = .tup [.f (.nodes g'), .i q, .i e] ∧ (e = 0 → WFG g' ∧ 0 ≤ q ∧ q < g'.length ∧ g'.length ≤ g.length + 1 ∧ g.length ≤ g'.length ∧ (g' = g ∧ (gA g q).op = n.op ∨ KidsIn g n ∧ q = g.length ∧ ∃ s, g' = g ++ [{ n with sort := s }])) ∧ (EqFine g n → e = 0)) := by
  refine AC.enter Tryd.func19 rfl Tryd.ntmps19 (bl rfl) fun X => ?_
  have hgl := hg.len
  refine sr ?_
  refine WL.stp rfl (Stp.box (tm rfl) rfl rfl) ?_
  refine WL.v (Val.assign Ev.const) rfl ?_
  refine WL.v (Val.assign Ev.const) rfl ?_
  refine WL.v (Val.assign Ev.const) rfl ?_
  refine WL.norm 39 [(0, _), (3, _)] [some ⟨_, _, [[_, _, _, _, _, _, _, _, _]]⟩] rfl ⟨rfl, rfl, trivial⟩ rfl rfl ?_
  refine wn ?_
  refine sr ?_
  refine mv rfl rfl ?_
  refine WL.v (Val.loadLiveAgg Tryd.underlying35 rfl zs35 (tm rfl) rfl rfl rfl rfl (bl rfl)) rfl ?_
  refine WL.callV ca37 (evc (tm rfl) (evc (tm rfl) evn)) (lo1 (lo2 rfl lo0)) rfl (c_SortOf W0 N g hgl n ht) ?_
  rintro _ ⟨s_, e_, rfl, he_1, he_2⟩
  refine mv rfl rfl ?_
  refine WL.v (Val.extract (tm rfl) rfl) rfl ?_
  refine WL.v (Val.extract (tm rfl) rfl) rfl ?_
  refine WL.stp rfl (Stp.alloc zz33 rfl rfl) ?_
  refine WL.stp rfl (Stp.st (tm rfl) (tm rfl) zs33 rfl rfl rfl rfl rfl rfl rfl rfl) ?_
  refine asg rfl rfl ?_
  refine WL.norm 39 [(0, _), (3, _), (7, _), (8, _)] [some ⟨_, _, [[_, _, _, _, _, _, _, _, _]]⟩, some ⟨_, _, [[_, _, _]]⟩] rfl ⟨rfl, rfl, rfl, rfl, trivial⟩ rfl rfl ?_
  refine wn ?_
  refine W.seq ?_
  refine sr ?_
  refine mv rfl rfl ?_
  refine WL.v (Val.neq (tm rfl) Ev.const) rfl ?_
  refine WL.norm 39 [(0, _), (3, _), (7, _), (8, _), (17, _)] [some ⟨_, _, [[_, _, _, _, _, _, _, _, _]]⟩, some ⟨_, _, [[_, _, _]]⟩] rfl ⟨rfl, rfl, rfl, rfl, rfl, trivial⟩ rfl rfl ?_
  refine wn ?_
  refine W.condP rfl (fun hc2 => ?_) (fun hc2 => ?_)
  · try simp only [td] at hc2
    refine sr ?_
    refine mv rfl rfl ?_
    refine WL.v (Val.assign Ev.const) rfl ?_
    refine WL.v (Val.assign Ev.const) rfl ?_
    refine asg rfl rfl ?_
    refine WL.norm 39 [(4, _), (5, _), (6, _)] [some ⟨_, _, [[_, _, _, _, _, _, _, _, _]]⟩, some ⟨_, _, [[_, _, _]]⟩] rfl ⟨rfl, rfl, rfl, trivial⟩ rfl rfl ?_
    refine wn ?_
    refine W.ret (rt1 ?_)
    exact Ret.of (.inr rfl) rfl (res3 rfl rfl rfl rfl) (Fewer.nil _) (.inr trivial) (fun id h => absurd h (Nat.not_lt_zero _)) (.tup .nil (.tup (.same rfl) (.tup (.same rfl) .tup0))) ⟨rfl, [], _, _, rfl, fun h => absurd h hc2, he_2⟩
  try simp only [td] at hc2
  refine W.skip (nm ?_)
  refine sr ?_
  refine WL.v (Val.loadLiveAgg Tryd.underlying33 rfl zs33 (tm rfl) rfl rfl rfl rfl (bl rfl)) rfl ?_
  refine WL.v (Val.fal (off := 6) Tryd.underlying35 rfl rfl zs33 (tm rfl)) rfl ?_
  refine WL.stp rfl (Stp.st (tm rfl) (tm rfl) zs33 rfl rfl rfl rfl rfl rfl rfl rfl) ?_
  refine WL.norm 39 [(0, _), (3, _)] [some ⟨_, _, [[_, _, _, _, _, _, _, _, _]]⟩, some ⟨_, _, [[_, _, _]]⟩] rfl ⟨rfl, rfl, trivial⟩ rfl rfl ?_
  refine wn ?_
  refine sr ?_
  refine mv rfl rfl ?_
  refine WL.v (Val.loadLiveAgg Tryd.underlying35 rfl zs35 (tm rfl) rfl rfl rfl rfl (bl rfl)) rfl ?_
  refine WL.callV ca38 (evc (tm rfl) (evc (tm rfl) evn)) (lo1 (lo2 rfl lo0)) rfl (c_Index W0 N g hg { n with sort := s_ } ht) ?_
  rintro _ ⟨q_, rfl, hq_1, hq_2, hq_3⟩
  refine asg rfl rfl ?_
  refine WL.norm 39 [(0, _), (3, _), (9, _)] [some ⟨_, _, [[_, _, _, _, _, _, _, _, _]]⟩, some ⟨_, _, [[_, _, _]]⟩] rfl ⟨rfl, rfl, rfl, trivial⟩ rfl rfl ?_
  refine wn ?_
  refine W.seq ?_
  refine sr ?_
  refine mv rfl rfl ?_
  refine WL.v (Val.geq (tm rfl) Ev.const) rfl ?_
  refine WL.norm 39 [(0, _), (3, _), (9, _), (25, _)] [some ⟨_, _, [[_, _, _, _, _, _, _, _, _]]⟩, some ⟨_, _, [[_, _, _]]⟩] rfl ⟨rfl, rfl, rfl, rfl, trivial⟩ rfl rfl ?_
  refine wn ?_
  refine W.condP rfl (fun hc6 => ?_) (fun hc6 => ?_)
  · try simp only [td] at hc6
    refine sr ?_
    refine mv rfl rfl ?_
    refine mv rfl rfl ?_
    refine asg rfl rfl ?_
    refine asg rfl rfl ?_
    refine WL.v (Val.assign Ev.const) rfl ?_
    refine WL.norm 39 [(4, _), (5, _), (6, _)] [some ⟨_, _, [[_, _, _, _, _, _, _, _, _]]⟩, some ⟨_, _, [[_, _, _]]⟩] rfl ⟨rfl, rfl, rfl, trivial⟩ rfl rfl ?_
    refine wn ?_
    refine W.ret (rt1 ?_)
    exact Ret.of (.inr rfl) rfl (res3 rfl rfl rfl rfl) (Fewer.nil _) (.inr trivial) (fun id h => absurd h (Nat.not_lt_zero _)) (.same rfl) ⟨rfl, g, _, _, rfl, fun _ => ⟨hg, by omega, by omega, by omega, by omega, .inl ⟨rfl, hq_3 hc6⟩⟩, fun _ => rfl⟩
  try simp only [td] at hc6
  refine W.skip (nm ?_)
  refine W.seq ?_
  refine sr ?_
  refine mv rfl rfl ?_
  refine WL.v (Val.ln (enc := Nd.cells) Tryd.underlying23 (tm rfl)) rfl ?_
  refine WL.v (Val.geq (tm rfl) Ev.const) rfl ?_
  refine WL.norm 39 [(0, _), (3, _), (30, _)] [some ⟨_, _, [[_, _, _, _, _, _, _, _, _]]⟩, some ⟨_, _, [[_, _, _]]⟩] rfl ⟨rfl, rfl, rfl, trivial⟩ rfl rfl ?_
  refine wn ?_
  refine W.condP rfl (fun hc8 => ?_) (fun hc8 => ?_)
  · try simp only [td] at hc8
    refine sr ?_
    refine WL.v (Val.assign Ev.const) rfl ?_
    refine WL.v (Val.assign Ev.const) rfl ?_
    refine WL.v (Val.assign Ev.const) rfl ?_
    refine WL.norm 39 [(4, _), (5, _), (6, _)] [some ⟨_, _, [[_, _, _, _, _, _, _, _, _]]⟩, some ⟨_, _, [[_, _, _]]⟩] rfl ⟨rfl, rfl, rfl, trivial⟩ rfl rfl ?_
    refine wn ?_
    refine W.ret (rt1 ?_)
    exact Ret.of (.inr rfl) rfl (res3 rfl rfl rfl rfl) (Fewer.nil _) (.inr trivial) (fun id h => absurd h (Nat.not_lt_zero _)) (.tup .nil (.tup (.same rfl) (.tup (.same rfl) .tup0))) ⟨rfl, [], _, _, rfl, fun h => absurd h (by omega), fun _ => by omega⟩
  try simp only [td] at hc8
  refine W.skip (nm ?_)
  refine W.seq ?_
  have hK := he_1 hc2
  refine W.reserve ?_
  refine W.drawE (fun k => ([([2], [2]), ([], []), ([2], [2]), ([0], []), ([], []), ([2], [2]), ([], []), ([], []), ([], []), ([], []), ([], [])] : List (List Nat × List Nat)).getD k ([], [])) rfl (by kernel_rfl) (bl rfl) ?_
  refine LexE.stp (U := [(2, _)]) rfl rfl rfl rfl (fun h => by first | rfl | cases h) (fun h' ha m' => Stp.buildAt (xs := []) Tryd.underlying23 zs35 zz35 rfl rfl evn fitL (bl rfl) ((ha.at_ 2 (by decide)).trans rfl) rfl) ?_
  refine LexE.val rfl rfl rfl (fun h' ha => Val.move (tm rfl)) ?_
  refine LexE.stp (U := [(2, _)]) rfl rfl rfl rfl (fun h => by first | rfl | cases h) (fun h' ha m' => Stp.appendE (enc := Nd.cells) (l := ([] : List Nd)) ap23_23 (tm rfl) ((ha.at_ 2 (by decide)).trans rfl) rfl (ArgE.lst (enc := Nd.cells) (tm rfl) (by intro x; first | rfl | exact rxLen x)) (by simp only [List.length_append, List.length_map, List.length_cons, List.length_nil]; omega) rfl) ?_
  refine LexE.val rfl rfl rfl (fun h' ha => Val.loadLiveAgg Tryd.underlying35 rfl zs35 (tm rfl) ((ha.at_ 0 (by decide)).trans rfl) rfl rfl rfl (bl rfl)) ?_
  refine LexE.stp (U := []) rfl rfl rfl rfl (fun h => by first | rfl | cases h) (fun h' ha m' => Stp.buildFrozen (xs := [_]) (fs := ([{ n with sort := s_ }] : List Nd).map Nd.cells) Tryd.underlying23 zs35 zz35 rfl rfl (evc (tm rfl) evn) fitL (bl rfl) rfl rfl) ?_
  refine LexE.stp (U := [(2, _)]) rfl rfl rfl rfl (fun h => by first | rfl | cases h) (fun h' ha m' => Stp.appendE (enc := Nd.cells) (l := _) ap23_23 (tm rfl) ((ha.at_ 2 (by decide)).trans rfl) rfl (ArgE.lst (enc := Nd.cells) (tm rfl) (by intro x; first | rfl | exact rxLen x)) (by simp only [List.length_append, List.length_map, List.length_cons, List.length_nil]; omega) rfl) ?_
  refine LexE.val rfl rfl rfl (fun h' ha => Val.move (tm rfl)) ?_
  refine LexE.val rfl rfl rfl (fun h' ha => Val.ln (enc := Nd.cells) Tryd.underlying23 (tm rfl)) ?_
  refine LexE.val rfl rfl rfl (fun h' ha => Val.assign (tm rfl)) ?_
  refine LexE.val rfl rfl rfl (fun h' ha => Val.assign (tm rfl)) ?_
  refine LexE.val rfl rfl rfl (fun h' ha => Val.assign Ev.const) ?_
  refine LexE.nil (nm ?_)
  refine W.norm 39 [(4, _), (5, _), (6, _)] [some ⟨_, _, [[_, _, _, _, _, _, _, _, _]]⟩, some ⟨_, _, [[_, _, _]]⟩, some ⟨_, _, _⟩] rfl ⟨rfl, rfl, rfl, trivial⟩ rfl rfl ?_
  refine W.ret ?_
  exact Ret.of (.inr rfl) rfl (res3 rfl rfl rfl rfl) (Fewer.nil _) (.inr trivial) (fun id h => absurd h (Nat.not_lt_zero _)) (.tup (.whole rfl rfl (by first | (simp; done) | (simp only [List.length_map]; omega)) (encL (by intro x; first | rfl | exact rxLen x))) (.tup (.same rfl) (.tup (.same rfl) .tup0))) ⟨rfl, g ++ [{ n with sort := s_ }], _, _, rfl, fun _ => ⟨hg.push hl hK s_, by omega, by simp only [List.length_append, List.length_cons, List.length_nil]; omega, by simp, by simp, .inr ⟨hK, rfl, s_, rfl⟩⟩, fun _ => rfl⟩
-- enthymemeref07.SameGraph
set_option maxHeartbeats 1000000 in
theorem c_SameGraph (W0 : World) (N : Nat) (a b : List Nd) (ha : a.length ≤ 1000000 ∧ ∀ n ∈ a, n.kids.length ≤ 1000000) : AC (En W0 N) 22 [.f (.nodes a), .f (.nodes b)] [] (fun r h => h = [] ∧ r = .b (decide (a = b))) := by
  refine AC.enter Tryd.func22 rfl Tryd.ntmps22 (bl rfl) fun X => ?_
  have hal := ha.1
  refine sr ?_
  refine WL.v (Val.assign Ev.const) rfl ?_
  refine WL.norm 29 [(0, _), (1, _)] [] rfl ⟨rfl, rfl, trivial⟩ rfl rfl ?_
  refine wn ?_
  refine W.seq ?_
  refine sr ?_
  refine mv rfl rfl ?_
  refine WL.v (Val.ln (enc := Nd.cells) Tryd.underlying23 (tm rfl)) rfl ?_
  refine mv rfl rfl ?_
  refine WL.v (Val.ln (enc := Nd.cells) Tryd.underlying23 (tm rfl)) rfl ?_
  refine WL.v (Val.neq (tm rfl) (tm rfl)) rfl ?_
  refine WL.norm 29 [(0, _), (1, _), (11, _)] [] rfl ⟨rfl, rfl, rfl, trivial⟩ rfl rfl ?_
  refine wn ?_
  refine W.condP rfl (fun hc1 => ?_) (fun hc1 => ?_)
  · try simp only [td] at hc1
    refine sr ?_
    refine WL.v (Val.assign Ev.const) rfl ?_
    refine WL.norm 29 [(4, _)] [] rfl ⟨rfl, trivial⟩ rfl rfl ?_
    refine wn ?_
    refine W.ret (rt1 ?_)
    have e : a ≠ b := fun h => hc1 (by rw [h])
    exact Ret.of (.inr rfl) rfl (res1 rfl rfl) (Fewer.nil _) (.inr trivial) (fun id h => absurd h (Nat.not_lt_zero _)) (.same rfl) ⟨rfl, by rw [decide_eq_false e]⟩
  try simp only [td] at hc1
  refine W.skip (nm ?_)
  refine W.seq ?_
  refine sr ?_
  refine WL.v (Val.assign Ev.const) rfl ?_
  refine WL.norm 29 [(0, _), (1, _), (5, _)] [] rfl ⟨rfl, rfl, rfl, trivial⟩ rfl rfl ?_
  refine wn ?_
  refine W.norm 29 [(0, _), (1, _), (5, _)] [] rfl ⟨rfl, rfl, rfl, trivial⟩ rfl rfl ?_
  refine W.block (W.loop (fun nn S => ∃ (k : Int), S = ⟨29, [(0, .f (.nodes a)), (1, .f (.nodes b)), (5, .i k)], [], []⟩ ∧ nn = ((a.length - k).toNat) ∧ (0 ≤ k) ∧ (k ≤ a.length) ∧ (∀ j : Nat, j < k.toNat → a[j]? = b[j]?)) ⟨0, rfl, rfl, by omega, by omega, fun j hj => absurd hj (by simp)⟩ ?_)
  rintro nn S ⟨k, rfl, rfl, hf0_0, hf0_1, hf0_2⟩
  refine W.seq ?_
  refine sr ?_
  refine mv rfl rfl ?_
  refine mv rfl rfl ?_
  refine WL.v (Val.ln (enc := Nd.cells) Tryd.underlying23 (tm rfl)) rfl ?_
  refine WL.v (Val.lss (tm rfl) (tm rfl)) rfl ?_
  refine WL.norm 29 [(0, _), (1, _), (5, _), (15, _)] [] rfl ⟨rfl, rfl, rfl, rfl, trivial⟩ rfl rfl ?_
  refine wn ?_
  refine W.condP rfl (fun hc4 => ?_) (fun hc4 => ?_)
  · try simp only [td] at hc4
    refine W.skip (nm ?_)
    refine W.seq ?_
    refine W.block ?_
    refine W.seq ?_
    refine W.drawE (fun _ => ([], [])) rfl (by kernel_rfl) (bl rfl) ?_
    refine LexE.val rfl rfl rfl (fun h' ha => Val.move (tm rfl)) ?_
    refine LexE.val rfl rfl rfl (fun h' ha => Val.move (tm rfl)) ?_
    refine LexE.val rfl rfl rfl (fun h' ha => Val.ix (enc := Nd.cells) Tryd.underlying23 zs35 (tm rfl) (tm rfl) (by omega) (gA_at (by omega) (by omega))) ?_
    refine LexE.val rfl rfl rfl (fun h' ha => Val.loadAgg Tryd.underlying35 rfl zs35 (tm rfl) (bl rfl)) ?_
    refine LexE.val rfl rfl rfl (fun h' ha => Val.move (tm rfl)) ?_
    refine LexE.val rfl rfl rfl (fun h' ha => Val.move (tm rfl)) ?_
    refine LexE.val rfl rfl rfl (fun h' ha => Val.ix (enc := Nd.cells) Tryd.underlying23 zs35 (tm rfl) (tm rfl) (by omega) (gA_at (by omega) (by omega))) ?_
    refine LexE.val rfl rfl rfl (fun h' ha => Val.loadAgg Tryd.underlying35 rfl zs35 (tm rfl) (bl rfl)) ?_
    refine LexE.call ca42 (fun h' ha => (evc (tm rfl) (evc (tm rfl) evn))) (lo2 rfl (lo2 rfl lo0)) rfl (c_Same W0 N (gA a k) (gA b k) (ha.2 _ (gA_mem hf0_0 hc4))) rfl ?_
    refine LexE.val rfl rfl rfl (fun h' ha => Val.assign (tm rfl)) ?_
    refine LexE.nil (nm ?_)
    refine W.norm 29 [(0, _), (1, _), (5, _), (6, _)] [] rfl ⟨rfl, rfl, rfl, rfl, trivial⟩ rfl rfl ?_
    refine sr ?_
    refine mv rfl rfl ?_
    refine WL.v (Val.not (tm rfl)) rfl ?_
    refine WL.norm 29 [(0, _), (1, _), (5, _), (28, _)] [] rfl ⟨rfl, rfl, rfl, rfl, trivial⟩ rfl rfl ?_
    refine wn ?_
    refine W.condP rfl (fun hc7 => ?_) (fun hc7 => ?_)
    · try simp only [td] at hc7
      refine sr ?_
      refine WL.v (Val.assign Ev.const) rfl ?_
      refine WL.norm 29 [(4, _)] [] rfl ⟨rfl, trivial⟩ rfl rfl ?_
      refine wn ?_
      refine W.ret (rt2 (rt1 (rt1 (rt2 (rt1 ?_)))))
      have e : a ≠ b := fun h => hc7 (by rw [h])
      exact Ret.of (.inr rfl) rfl (res1 rfl rfl) (Fewer.nil _) (.inr trivial) (fun id h => absurd h (Nat.not_lt_zero _)) (.same rfl) ⟨rfl, by rw [decide_eq_false e]⟩
    try simp only [td] at hc7
    refine W.skip (nb (nm ?_))
    refine W.region ?_
    refine mv rfl rfl ?_
    refine WL.v (Val.add (tm rfl) Ev.const (IntWalk.i64_in _ (by omega))) rfl ?_
    refine asg rfl rfl ?_
    refine WL.norm 29 [(0, _), (1, _), (5, _)] [] rfl ⟨rfl, rfl, rfl, trivial⟩ rfl rfl ?_
    refine wn ?_
    exact ⟨_, by omega, k + 1, rfl, rfl, by omega, by omega, same_step hf0_0 (by omega) (by omega) hf0_2 hc7⟩
  try simp only [td] at hc4
  refine W.exit (ex1 (ex1 (ex2 (nm ?_))))
  refine sr ?_
  refine WL.v (Val.assign Ev.const) rfl ?_
  refine WL.norm 29 [(4, _)] [] rfl ⟨rfl, trivial⟩ rfl rfl ?_
  refine wn ?_
  refine W.ret ?_
  have e : a = b := same_end hf0_0 (by omega) (by omega) hf0_2
  exact Ret.of (.inr rfl) rfl (res1 rfl rfl) (Fewer.nil _) (.inr trivial) (fun id h => absurd h (Nat.not_lt_zero _)) (.same rfl) ⟨rfl, by rw [decide_eq_true e]⟩
-- enthymemeref07.Moved
end Go.Aw
namespace Go.Aw
open Go.RowKit Go.Proofs

/-- The variables of generated graphs. -/
def startA : List Nd := [⟨0, [], 0, 0, 0, ⟨#[97]⟩, ⟨0, 2, 0⟩⟩, ⟨0, [], 0, 0, 0, ⟨#[98]⟩, ⟨0, 2, 0⟩⟩, ⟨0, [], 0, 0, 0, ⟨#[99]⟩, ⟨0, 1, 0⟩⟩, ⟨0, [], 0, 0, 0, ⟨#[100]⟩, ⟨0, 3, 0⟩⟩]
def startB : List Nd := [⟨0, [], 0, 0, 0, ⟨#[109]⟩, ⟨2, 2, 1⟩⟩, ⟨0, [], 0, 0, 0, ⟨#[110]⟩, ⟨2, 2, 1⟩⟩]
def startC : List Nd := [⟨0, [], 0, 0, 0, ⟨#[115]⟩, ⟨1, 2, 0⟩⟩, ⟨0, [], 0, 0, 0, ⟨#[116]⟩, ⟨1, 1, 0⟩⟩, ⟨0, [], 0, 0, 0, ⟨#[105]⟩, ⟨0, 7, 0⟩⟩, ⟨0, [], 0, 0, 0, ⟨#[122]⟩, ⟨3, 1, 1⟩⟩]
theorem WFG.vars {g : List Nd} (hl : g.length ≤ 1000) (h : ∀ n, n ∈ g → n.kids = []) : WFG g :=
  ⟨hl, fun i n hi => by rw [h n (List.mem_of_getElem? hi)]; simp, fun n hn _ => h n hn⟩
theorem start_ok (b c : Bool) : WFG (startA ++ (if b then startB else []) ++ (if c then startC else [])) := by
  cases b <;> cases c <;> exact WFG.vars (by decide) (by decide)
theorem lo5 {k : Heap} {v : AV} {xs : List AV} (hc : v.lo k = true) (h : AV.loL k xs = true) : AV.loL k (v :: xs) = true := by simp only [AV.loL, hc, Bool.true_and]; exact h
theorem made_small {g g' : List Nd} {nd : Nd} {q : Int} {P Q : Prop} (hs : ∀ n, n ∈ g → n.sort.n ≤ 16) (h : g' = g ∧ P ∨ Q ∧ q = g.length ∧ ∃ s, g' = g ++ [{ nd with sort := s }]) (hc : (gA g' q).sort.n ≤ 16) : ∀ n, n ∈ g' → n.sort.n ≤ 16 := by
  rcases h with ⟨rfl, _⟩ | ⟨_, rfl, s, rfl⟩
  · exact hs
  · intro n hn
    rcases List.mem_append.1 hn with hn | hn
    · exact hs n hn
    · rw [List.mem_singleton.1 hn]
      have e : gA (g ++ [{ nd with sort := s }]) (g.length : Int) = { nd with sort := s } := by simp [gA]
      rw [e] at hc; exact hc
theorem shl_ok {b : Int} (h0 : 0 ≤ b) (h1 : b ≤ 3) : 1 ≤ IntKind.i64.wrap (1 * 2 ^ (min b.toNat IntKind.i64.bits)) := by
  have : b = 0 ∨ b = 1 ∨ b = 2 ∨ b = 3 := by omega
  rcases this with rfl | rfl | rfl | rfl <;> decide
theorem strs_ok {l : List ByteArray} {i : Int} {n : Nat} (h : ∀ s, s ∈ l → s.size ≤ n) (h0 : 0 ≤ i) (h1 : i < l.length) : (gA l i).size ≤ n := h _ (gA_mem h0 h1)

-- enthymemeref07.wanted
set_option maxHeartbeats 1000000 in
theorem c_wanted (W0 : World) (N : Nat) (g : List Nd) (hg : WFG g) (op first kid n : Int) (hf0 : 0 ≤ first) (hf1 : first < g.length) (hn : I6 n) : AC (En W0 N) 47 [.f (.nodes g), .i op, .i first, .i kid, .i n] [] (fun r h => h = [] ∧ ∃ s, r = Srt.agg s) := by
  refine AC.enter Tryd.func47 rfl Tryd.ntmps47 (bl rfl) fun X => ?_
  have hgl := hg.len
  refine sr ?_
  refine WL.stp rfl (Stp.alloc zz33 rfl rfl) ?_
  refine WL.norm 59 [(0, _), (1, _), (2, _), (3, _), (4, _), (10, _)] [some ⟨_, _, [[_, _, _]]⟩] rfl ⟨rfl, rfl, rfl, rfl, rfl, rfl, trivial⟩ rfl rfl ?_
  refine wn ?_
  refine sr ?_
  refine mv rfl rfl ?_
  refine mv rfl rfl ?_
  refine WL.v (Val.ix (enc := Nd.cells) Tryd.underlying23 zs35 (tm rfl) (tm rfl) (by omega) (gA_at (by omega) (by omega))) rfl ?_
  refine WL.v (Val.fa (off := 6) Tryd.underlying35 rfl rfl zs33 (tm rfl)) rfl ?_
  refine WL.v (Val.loadAgg Tryd.underlying33 rfl zs33 (tm rfl) (bl rfl)) rfl ?_
  refine WL.stp rfl (Stp.alloc zz33 rfl rfl) ?_
  refine WL.stp rfl (Stp.st (tm rfl) (tm rfl) zs33 rfl rfl rfl rfl rfl rfl rfl rfl) ?_
  refine WL.norm 59 [(0, _), (1, _), (3, _), (4, _), (10, _), (11, _)] [some ⟨_, _, [[_, _, _]]⟩, some ⟨_, _, [[_, _, _]]⟩] rfl ⟨rfl, rfl, rfl, rfl, rfl, rfl, trivial⟩ rfl rfl ?_
  refine wn ?_
  refine W.seq ?_
  refine sr ?_
  refine mv rfl rfl ?_
  refine WL.norm 59 [(0, _), (3, _), (4, _), (10, _), (11, _), (17, _)] [some ⟨_, _, [[_, _, _]]⟩, some ⟨_, _, [[_, _, _]]⟩] rfl ⟨rfl, rfl, rfl, rfl, rfl, rfl, trivial⟩ rfl rfl ?_
  refine wn ?_
  refine W.block ?_
  refine sr ?_
  refine WL.v (Val.eql (tm rfl) Ev.const) rfl ?_
  refine asg rfl rfl ?_
  refine WL.norm 59 [(0, _), (3, _), (4, _), (10, _), (11, _), (17, _), (18, _)] [some ⟨_, _, [[_, _, _]]⟩, some ⟨_, _, [[_, _, _]]⟩] rfl ⟨rfl, rfl, rfl, rfl, rfl, rfl, rfl, trivial⟩ rfl rfl ?_
  refine wn ?_
  refine W.condP rfl (fun hc3 => ?_) (fun hc3 => ?_)
  · try simp only [td] at hc3
    refine sr ?_
    refine mv rfl rfl ?_
    refine mv rfl rfl ?_
    refine mv rfl rfl ?_
    refine WL.v (Val.ln (enc := Nd.cells) Tryd.underlying23 (tm rfl)) rfl ?_
    refine WL.callV ca8 (evc (tm rfl) (evc (tm rfl) evn)) (lo1 (lo1 lo0)) rfl (c_Around W0 N _ _ (by assumption) (by omega)) ?_
    rintro _ rfl
    have har := around_range (n := n) (most := g.length) (by omega)
    refine WL.v (Val.ix (enc := Nd.cells) Tryd.underlying23 zs35 (tm rfl) (tm rfl) (by omega) (gA_at (by omega) (by omega))) rfl ?_
    refine WL.v (Val.fa (off := 6) Tryd.underlying35 rfl rfl zs33 (tm rfl)) rfl ?_
    refine WL.v (Val.loadAgg Tryd.underlying33 rfl zs33 (tm rfl) (bl rfl)) rfl ?_
    refine WL.stp rfl (Stp.st (tm rfl) (tm rfl) zs33 rfl rfl rfl rfl rfl rfl rfl rfl) ?_
    refine WL.norm 59 [(10, _)] [some ⟨_, _, [[_, _, _]]⟩, some ⟨_, _, [[_, _, _]]⟩] rfl ⟨rfl, trivial⟩ rfl rfl ?_
    refine wn ?_
    refine W.ret (rt2 (rt1 ?_))
    exact Ret.of (.inr rfl) rfl (resCell rfl Tryd.underlying33 rfl zs33 rfl rfl rfl rfl rfl rfl) (Fewer.nil _) (.inr trivial) (fun id h => absurd h (Nat.not_lt_zero _)) (.same rfl) ⟨rfl, ⟨_, _, _⟩, rfl⟩
  try simp only [td] at hc3
  refine sr ?_
  refine WL.v (Val.eql (tm rfl) Ev.const) rfl ?_
  refine asg rfl rfl ?_
  refine WL.norm 59 [(3, _), (4, _), (10, _), (11, _), (17, _), (28, _)] [some ⟨_, _, [[_, _, _]]⟩, some ⟨_, _, [[_, _, _]]⟩] rfl ⟨rfl, rfl, rfl, rfl, rfl, rfl, trivial⟩ rfl rfl ?_
  refine wn ?_
  refine W.condP rfl (fun hc5 => ?_) (fun hc5 => ?_)
  · try simp only [td] at hc5
    refine sr ?_
    refine mv rfl rfl ?_
    refine WL.callV ca8 (evc (tm rfl) (evc Ev.const evn)) (lo1 (lo1 lo0)) rfl (c_Around W0 N _ _ (by assumption) (by omega)) ?_
    rintro _ rfl
    have har := around_range (n := n) (most := 3) (by omega)
    refine WL.v (Val.add Ev.const (tm rfl) (IntWalk.i64_in _ (by omega))) rfl ?_
    refine WL.callV ca43 (evc (tm rfl) evn) (lo1 lo0) rfl (c_BV W0 N _) ?_
    rintro _ rfl
    refine WL.stp rfl (Stp.st (tm rfl) (tm rfl) zs33 rfl rfl rfl rfl rfl rfl rfl rfl) ?_
    refine WL.norm 59 [(10, _)] [some ⟨_, _, [[_, _, _]]⟩, some ⟨_, _, [[_, _, _]]⟩] rfl ⟨rfl, trivial⟩ rfl rfl ?_
    refine wn ?_
    refine W.ret (rt2 (rt1 ?_))
    exact Ret.of (.inr rfl) rfl (resCell rfl Tryd.underlying33 rfl zs33 rfl rfl rfl rfl rfl rfl) (Fewer.nil _) (.inr trivial) (fun id h => absurd h (Nat.not_lt_zero _)) (.same rfl) ⟨rfl, ⟨_, _, _⟩, rfl⟩
  try simp only [td] at hc5
  refine sr ?_
  refine WL.v (Val.eql (tm rfl) Ev.const) rfl ?_
  refine asg rfl rfl ?_
  refine WL.norm 59 [(3, _), (4, _), (10, _), (11, _), (17, _), (34, _)] [some ⟨_, _, [[_, _, _]]⟩, some ⟨_, _, [[_, _, _]]⟩] rfl ⟨rfl, rfl, rfl, rfl, rfl, rfl, trivial⟩ rfl rfl ?_
  refine wn ?_
  refine W.condP rfl (fun hc7 => ?_) (fun hc7 => ?_)
  · try simp only [td] at hc7
    refine sr ?_
    refine WL.v (Val.fal (off := 2) Tryd.underlying33 rfl rfl zs3 (tm rfl)) rfl ?_
    refine WL.v (Val.loadLive Tryd.underlying3 rfl (tm rfl) rfl rfl rfl rfl rfl) rfl ?_
    refine WL.callV ca43 (evc (tm rfl) evn) (lo1 lo0) rfl (c_BV W0 N _) ?_
    rintro _ rfl
    refine WL.stp rfl (Stp.st (tm rfl) (tm rfl) zs33 rfl rfl rfl rfl rfl rfl rfl rfl) ?_
    refine WL.norm 59 [(10, _)] [some ⟨_, _, [[_, _, _]]⟩, some ⟨_, _, [[_, _, _]]⟩] rfl ⟨rfl, trivial⟩ rfl rfl ?_
    refine wn ?_
    refine W.ret (rt2 (rt1 ?_))
    exact Ret.of (.inr rfl) rfl (resCell rfl Tryd.underlying33 rfl zs33 rfl rfl rfl rfl rfl rfl) (Fewer.nil _) (.inr trivial) (fun id h => absurd h (Nat.not_lt_zero _)) (.same rfl) ⟨rfl, ⟨_, _, _⟩, rfl⟩
  try simp only [td] at hc7
  refine sr ?_
  refine WL.v (Val.eql (tm rfl) Ev.const) rfl ?_
  refine asg rfl rfl ?_
  refine WL.norm 59 [(3, _), (4, _), (10, _), (11, _), (17, _), (39, _)] [some ⟨_, _, [[_, _, _]]⟩, some ⟨_, _, [[_, _, _]]⟩] rfl ⟨rfl, rfl, rfl, rfl, rfl, rfl, trivial⟩ rfl rfl ?_
  refine wn ?_
  refine W.condP rfl (fun hc9 => ?_) (fun hc9 => ?_)
  · try simp only [td] at hc9
    refine W.seq ?_
    refine sr ?_
    refine mv rfl rfl ?_
    refine WL.v (Val.eql (tm rfl) Ev.const) rfl ?_
    refine WL.norm 59 [(10, _), (11, _), (42, _)] [some ⟨_, _, [[_, _, _]]⟩, some ⟨_, _, [[_, _, _]]⟩] rfl ⟨rfl, rfl, rfl, trivial⟩ rfl rfl ?_
    refine wn ?_
    refine W.condP rfl (fun hc10 => ?_) (fun hc10 => ?_)
    · try simp only [td] at hc10
      refine sr ?_
      refine WL.v (Val.fal (off := 2) Tryd.underlying33 rfl rfl zs3 (tm rfl)) rfl ?_
      refine WL.v (Val.loadLive Tryd.underlying3 rfl (tm rfl) rfl rfl rfl rfl rfl) rfl ?_
      refine WL.callV ca43 (evc (tm rfl) evn) (lo1 lo0) rfl (c_BV W0 N _) ?_
      rintro _ rfl
      refine WL.stp rfl (Stp.st (tm rfl) (tm rfl) zs33 rfl rfl rfl rfl rfl rfl rfl rfl) ?_
      refine WL.norm 59 [(10, _)] [some ⟨_, _, [[_, _, _]]⟩, some ⟨_, _, [[_, _, _]]⟩] rfl ⟨rfl, trivial⟩ rfl rfl ?_
      refine wn ?_
      refine W.ret (rt1 (rt2 (rt1 ?_)))
      exact Ret.of (.inr rfl) rfl (resCell rfl Tryd.underlying33 rfl zs33 rfl rfl rfl rfl rfl rfl) (Fewer.nil _) (.inr trivial) (fun id h => absurd h (Nat.not_lt_zero _)) (.same rfl) ⟨rfl, ⟨_, _, _⟩, rfl⟩
    try simp only [td] at hc10
    refine W.skip (nm ?_)
    refine sr ?_
    refine WL.v (Val.loadLiveAgg Tryd.underlying33 rfl zs33 (tm rfl) rfl rfl rfl rfl (bl rfl)) rfl ?_
    refine WL.callV ca59 (evc (tm rfl) evn) (lo2 rfl lo0) rfl (c_Element W0 N (gA g first).sort) ?_
    rintro _ rfl
    refine WL.stp rfl (Stp.st (tm rfl) (tm rfl) zs33 rfl rfl rfl rfl rfl rfl rfl rfl) ?_
    refine WL.norm 59 [(10, _)] [some ⟨_, _, [[_, _, _]]⟩, some ⟨_, _, [[_, _, _]]⟩] rfl ⟨rfl, trivial⟩ rfl rfl ?_
    refine wn ?_
    refine W.ret (rt2 (rt1 ?_))
    exact Ret.of (.inr rfl) rfl (resCell rfl Tryd.underlying33 rfl zs33 rfl rfl rfl rfl rfl rfl) (Fewer.nil _) (.inr trivial) (fun id h => absurd h (Nat.not_lt_zero _)) (.same rfl) ⟨rfl, ⟨_, _, _⟩, rfl⟩
  try simp only [td] at hc9
  refine sr ?_
  refine WL.v (Val.eql (tm rfl) Ev.const) rfl ?_
  refine asg rfl rfl ?_
  refine WL.norm 59 [(4, _), (10, _), (11, _), (17, _), (48, _)] [some ⟨_, _, [[_, _, _]]⟩, some ⟨_, _, [[_, _, _]]⟩] rfl ⟨rfl, rfl, rfl, rfl, rfl, trivial⟩ rfl rfl ?_
  refine wn ?_
  refine W.condP rfl (fun hc13 => ?_) (fun hc13 => ?_)
  · try simp only [td] at hc13
    refine sr ?_
    refine WL.callV ca43 (evc Ev.const evn) (lo1 lo0) rfl (c_BV W0 N _) ?_
    rintro _ rfl
    refine WL.stp rfl (Stp.st (tm rfl) (tm rfl) zs33 rfl rfl rfl rfl rfl rfl rfl rfl) ?_
    refine WL.norm 59 [(10, _)] [some ⟨_, _, [[_, _, _]]⟩, some ⟨_, _, [[_, _, _]]⟩] rfl ⟨rfl, trivial⟩ rfl rfl ?_
    refine wn ?_
    refine W.ret (rt2 (rt1 ?_))
    exact Ret.of (.inr rfl) rfl (resCell rfl Tryd.underlying33 rfl zs33 rfl rfl rfl rfl rfl rfl) (Fewer.nil _) (.inr trivial) (fun id h => absurd h (Nat.not_lt_zero _)) (.same rfl) ⟨rfl, ⟨_, _, _⟩, rfl⟩
  try simp only [td] at hc13
  refine W.seq ?_
  refine sr ?_
  refine WL.v (Val.eql (tm rfl) Ev.const) rfl ?_
  refine asg rfl rfl ?_
  refine WL.norm 59 [(4, _), (10, _), (11, _), (17, _), (51, _)] [some ⟨_, _, [[_, _, _]]⟩, some ⟨_, _, [[_, _, _]]⟩] rfl ⟨rfl, rfl, rfl, rfl, rfl, trivial⟩ rfl rfl ?_
  refine wn ?_
  refine W.condP rfl (fun hc15 => ?_) (fun hc15 => ?_)
  · try simp only [td] at hc15
    refine W.skip (nm ?_)
    refine W.cT rfl ?_
    refine sr ?_
    refine mv rfl rfl ?_
    refine WL.callV ca8 (evc (tm rfl) (evc Ev.const evn)) (lo1 (lo1 lo0)) rfl (c_Around W0 N _ _ (by assumption) (by omega)) ?_
    rintro _ rfl
    refine WL.callV ca44 (evc (tm rfl) evn) (lo1 lo0) rfl (c_Strings W0 N _) ?_
    rintro _ rfl
    refine WL.stp rfl (Stp.st (tm rfl) (tm rfl) zs33 rfl rfl rfl rfl rfl rfl rfl rfl) ?_
    refine WL.norm 59 [(10, _)] [some ⟨_, _, [[_, _, _]]⟩, some ⟨_, _, [[_, _, _]]⟩] rfl ⟨rfl, trivial⟩ rfl rfl ?_
    refine wn ?_
    refine W.ret (rt2 (rt1 ?_))
    exact Ret.of (.inr rfl) rfl (resCell rfl Tryd.underlying33 rfl zs33 rfl rfl rfl rfl rfl rfl) (Fewer.nil _) (.inr trivial) (fun id h => absurd h (Nat.not_lt_zero _)) (.same rfl) ⟨rfl, ⟨_, _, _⟩, rfl⟩
  try simp only [td] at hc15
  refine sr ?_
  refine WL.v (Val.eql (tm rfl) Ev.const) rfl ?_
  refine asg rfl rfl ?_
  refine WL.norm 59 [(4, _), (10, _), (11, _), (17, _), (51, _)] [some ⟨_, _, [[_, _, _]]⟩, some ⟨_, _, [[_, _, _]]⟩] rfl ⟨rfl, rfl, rfl, rfl, rfl, trivial⟩ rfl rfl ?_
  refine wn ?_
  refine W.condP rfl (fun hc16 => ?_) (fun hc16 => ?_)
  · try simp only [td] at hc16
    refine W.skip (nm ?_)
    refine W.cT rfl ?_
    refine sr ?_
    refine mv rfl rfl ?_
    refine WL.callV ca8 (evc (tm rfl) (evc Ev.const evn)) (lo1 (lo1 lo0)) rfl (c_Around W0 N _ _ (by assumption) (by omega)) ?_
    rintro _ rfl
    refine WL.callV ca44 (evc (tm rfl) evn) (lo1 lo0) rfl (c_Strings W0 N _) ?_
    rintro _ rfl
    refine WL.stp rfl (Stp.st (tm rfl) (tm rfl) zs33 rfl rfl rfl rfl rfl rfl rfl rfl) ?_
    refine WL.norm 59 [(10, _)] [some ⟨_, _, [[_, _, _]]⟩, some ⟨_, _, [[_, _, _]]⟩] rfl ⟨rfl, trivial⟩ rfl rfl ?_
    refine wn ?_
    refine W.ret (rt2 (rt1 ?_))
    exact Ret.of (.inr rfl) rfl (resCell rfl Tryd.underlying33 rfl zs33 rfl rfl rfl rfl rfl rfl) (Fewer.nil _) (.inr trivial) (fun id h => absurd h (Nat.not_lt_zero _)) (.same rfl) ⟨rfl, ⟨_, _, _⟩, rfl⟩
  try simp only [td] at hc16
  refine W.region ?_
  refine WL.v (Val.eql (tm rfl) Ev.const) rfl ?_
  refine asg rfl rfl ?_
  refine WL.norm 59 [(4, _), (10, _), (11, _), (51, _)] [some ⟨_, _, [[_, _, _]]⟩, some ⟨_, _, [[_, _, _]]⟩] rfl ⟨rfl, rfl, rfl, rfl, trivial⟩ rfl rfl ?_
  refine wn ?_
  refine W.condP rfl (fun hc17 => ?_) (fun hc17 => ?_)
  · try simp only [td] at hc17
    refine sr ?_
    refine mv rfl rfl ?_
    refine WL.callV ca8 (evc (tm rfl) (evc Ev.const evn)) (lo1 (lo1 lo0)) rfl (c_Around W0 N _ _ (by assumption) (by omega)) ?_
    rintro _ rfl
    refine WL.callV ca44 (evc (tm rfl) evn) (lo1 lo0) rfl (c_Strings W0 N _) ?_
    rintro _ rfl
    refine WL.stp rfl (Stp.st (tm rfl) (tm rfl) zs33 rfl rfl rfl rfl rfl rfl rfl rfl) ?_
    refine WL.norm 59 [(10, _)] [some ⟨_, _, [[_, _, _]]⟩, some ⟨_, _, [[_, _, _]]⟩] rfl ⟨rfl, trivial⟩ rfl rfl ?_
    refine wn ?_
    refine W.ret (rt2 (rt1 ?_))
    exact Ret.of (.inr rfl) rfl (resCell rfl Tryd.underlying33 rfl zs33 rfl rfl rfl rfl rfl rfl) (Fewer.nil _) (.inr trivial) (fun id h => absurd h (Nat.not_lt_zero _)) (.same rfl) ⟨rfl, ⟨_, _, _⟩, rfl⟩
  try simp only [td] at hc17
  refine W.skip (nb (nm ?_))
  refine sr ?_
  refine WL.v (Val.loadLiveAgg Tryd.underlying33 rfl zs33 (tm rfl) rfl rfl rfl rfl (bl rfl)) rfl ?_
  refine WL.stp rfl (Stp.st (tm rfl) (tm rfl) zs33 rfl rfl rfl rfl rfl rfl rfl rfl) ?_
  refine WL.norm 59 [(10, _)] [some ⟨_, _, [[_, _, _]]⟩, some ⟨_, _, [[_, _, _]]⟩] rfl ⟨rfl, trivial⟩ rfl rfl ?_
  refine wn ?_
  refine W.ret ?_
  exact Ret.of (.inr rfl) rfl (resCell rfl Tryd.underlying33 rfl zs33 rfl rfl rfl rfl rfl rfl) (Fewer.nil _) (.inr trivial) (fun id h => absurd h (Nat.not_lt_zero _)) (.same rfl) ⟨rfl, ⟨_, _, _⟩, rfl⟩
-- enthymemeref07.start
set_option maxHeartbeats 1000000 in
theorem c_start (W0 : World) (N : Nat) (kind : Int) : AC (En W0 N) 23 [.i kind] [] (fun r h => h = [] ∧ ∃ g, r = .f (.nodes g) ∧ WFG g ∧ 4 ≤ g.length ∧ g.length ≤ 10 ∧ ∀ n, n ∈ g → n.sort.n ≤ 16) := by
  refine AC.enter Tryd.func23 rfl Tryd.ntmps23 (bl rfl) fun X => ?_
  refine sr ?_
  refine WL.v (Val.assign Ev.const) rfl ?_
  refine WL.norm 36 [(0, _)] [] rfl ⟨rfl, trivial⟩ rfl rfl ?_
  refine wn ?_
  refine sr ?_
  refine WL.callV ca43 (evc Ev.const evn) (lo1 lo0) rfl (c_BV W0 N _) ?_
  rintro _ rfl
  refine WL.v (Val.le (Val.build (vs := [(0, _), (5, _), (6, _)]) Tryd.underlying35 zz35 rfl rfl pl35 rfl ⟨Ev.const, rfl, rfl, rfl, ⟨Ev.const, rfl, rfl, rfl, ⟨(tm rfl), rfl, rfl, rfl, trivial⟩⟩⟩) (Le.agg (ys := [_, .f (.lst 1 []), _, _, _, _, _, _, _]) (LeL.cons (Le.refl _) (LeL.cons Le.nil (LeL.cons (Le.refl _) (LeL.cons (Le.refl _) (LeL.cons (Le.refl _) (LeL.cons (Le.refl _) (LeL.cons (Le.refl _) (LeL.cons (Le.refl _) (LeL.cons (Le.refl _) LeL.nil))))))))))) rfl ?_
  refine WL.callV ca43 (evc Ev.const evn) (lo1 lo0) rfl (c_BV W0 N _) ?_
  rintro _ rfl
  refine WL.v (Val.le (Val.build (vs := [(0, _), (5, _), (6, _)]) Tryd.underlying35 zz35 rfl rfl pl35 rfl ⟨Ev.const, rfl, rfl, rfl, ⟨Ev.const, rfl, rfl, rfl, ⟨(tm rfl), rfl, rfl, rfl, trivial⟩⟩⟩) (Le.agg (ys := [_, .f (.lst 1 []), _, _, _, _, _, _, _]) (LeL.cons (Le.refl _) (LeL.cons Le.nil (LeL.cons (Le.refl _) (LeL.cons (Le.refl _) (LeL.cons (Le.refl _) (LeL.cons (Le.refl _) (LeL.cons (Le.refl _) (LeL.cons (Le.refl _) (LeL.cons (Le.refl _) LeL.nil))))))))))) rfl ?_
  refine WL.callV ca43 (evc Ev.const evn) (lo1 lo0) rfl (c_BV W0 N _) ?_
  rintro _ rfl
  refine WL.v (Val.le (Val.build (vs := [(0, _), (5, _), (6, _)]) Tryd.underlying35 zz35 rfl rfl pl35 rfl ⟨Ev.const, rfl, rfl, rfl, ⟨Ev.const, rfl, rfl, rfl, ⟨(tm rfl), rfl, rfl, rfl, trivial⟩⟩⟩) (Le.agg (ys := [_, .f (.lst 1 []), _, _, _, _, _, _, _]) (LeL.cons (Le.refl _) (LeL.cons Le.nil (LeL.cons (Le.refl _) (LeL.cons (Le.refl _) (LeL.cons (Le.refl _) (LeL.cons (Le.refl _) (LeL.cons (Le.refl _) (LeL.cons (Le.refl _) (LeL.cons (Le.refl _) LeL.nil))))))))))) rfl ?_
  refine WL.callV ca43 (evc Ev.const evn) (lo1 lo0) rfl (c_BV W0 N _) ?_
  rintro _ rfl
  refine WL.v (Val.le (Val.build (vs := [(0, _), (5, _), (6, _)]) Tryd.underlying35 zz35 rfl rfl pl35 rfl ⟨Ev.const, rfl, rfl, rfl, ⟨Ev.const, rfl, rfl, rfl, ⟨(tm rfl), rfl, rfl, rfl, trivial⟩⟩⟩) (Le.agg (ys := [_, .f (.lst 1 []), _, _, _, _, _, _, _]) (LeL.cons (Le.refl _) (LeL.cons Le.nil (LeL.cons (Le.refl _) (LeL.cons (Le.refl _) (LeL.cons (Le.refl _) (LeL.cons (Le.refl _) (LeL.cons (Le.refl _) (LeL.cons (Le.refl _) (LeL.cons (Le.refl _) LeL.nil))))))))))) rfl ?_
  refine WL.stp rfl (Stp.buildSlice (xs := [_, _, _, _]) Tryd.underlying23 zs35 zz35 rfl rfl (evc (tm rfl) (evc (tm rfl) (evc (tm rfl) (evc (tm rfl) evn)))) fitL (bl rfl) rfl) ?_
  refine asg rfl rfl ?_
  refine WL.norm 36 [(0, _), (3, _)] [some ⟨0, 9, fz (startA.map Nd.cells)⟩] rfl ⟨rfl, rfl, trivial⟩ rfl rfl ?_
  refine wn ?_
  refine W.seq ?_
  refine sr ?_
  refine mv rfl rfl ?_
  refine WL.v (Val.gtr (tm rfl) Ev.const) rfl ?_
  refine WL.norm 36 [(0, _), (3, _), (14, _)] [some ⟨_, _, _⟩] rfl ⟨rfl, rfl, rfl, trivial⟩ rfl rfl ?_
  refine wn ?_
  refine W.condP rfl (fun hc2 => ?_) (fun hc2 => ?_)
  · try simp only [td] at hc2
    refine W.region ?_
    refine mv rfl rfl ?_
    refine WL.v (Val.build (vs := [(0, _), (1, _), (2, _)]) Tryd.underlying33 zz33 rfl rfl pl33 rfl ⟨Ev.const, rfl, rfl, rfl, ⟨Ev.const, rfl, rfl, rfl, ⟨Ev.const, rfl, rfl, rfl, trivial⟩⟩⟩) rfl ?_
    refine WL.v (Val.le (Val.build (vs := [(0, _), (5, _), (6, _)]) Tryd.underlying35 zz35 rfl rfl pl35 rfl ⟨Ev.const, rfl, rfl, rfl, ⟨Ev.const, rfl, rfl, rfl, ⟨(tm rfl), rfl, rfl, rfl, trivial⟩⟩⟩) (Le.agg (ys := [_, .f (.lst 1 []), _, _, _, _, _, _, _]) (LeL.cons (Le.refl _) (LeL.cons Le.nil (LeL.cons (Le.refl _) (LeL.cons (Le.refl _) (LeL.cons (Le.refl _) (LeL.cons (Le.refl _) (LeL.cons (Le.refl _) (LeL.cons (Le.refl _) (LeL.cons (Le.refl _) LeL.nil))))))))))) rfl ?_
    refine WL.v (Val.build (vs := [(0, _), (1, _), (2, _)]) Tryd.underlying33 zz33 rfl rfl pl33 rfl ⟨Ev.const, rfl, rfl, rfl, ⟨Ev.const, rfl, rfl, rfl, ⟨Ev.const, rfl, rfl, rfl, trivial⟩⟩⟩) rfl ?_
    refine WL.v (Val.le (Val.build (vs := [(0, _), (5, _), (6, _)]) Tryd.underlying35 zz35 rfl rfl pl35 rfl ⟨Ev.const, rfl, rfl, rfl, ⟨Ev.const, rfl, rfl, rfl, ⟨(tm rfl), rfl, rfl, rfl, trivial⟩⟩⟩) (Le.agg (ys := [_, .f (.lst 1 []), _, _, _, _, _, _, _]) (LeL.cons (Le.refl _) (LeL.cons Le.nil (LeL.cons (Le.refl _) (LeL.cons (Le.refl _) (LeL.cons (Le.refl _) (LeL.cons (Le.refl _) (LeL.cons (Le.refl _) (LeL.cons (Le.refl _) (LeL.cons (Le.refl _) LeL.nil))))))))))) rfl ?_
    refine WL.stp rfl (Stp.buildFrozen (xs := [_, _]) (fs := startB.map Nd.cells) Tryd.underlying23 zs35 zz35 rfl rfl (evc (tm rfl) (evc (tm rfl) evn)) fitL (bl rfl) rfl rfl) ?_
    refine WL.stp rfl (Stp.appendE (enc := Nd.cells) (l := startA) ap23_23 (tm rfl) rfl rfl (ArgE.lst (enc := Nd.cells) (tm rfl) (by intro x; first | rfl | exact rxLen x)) (by decide) rfl) ?_
    refine asg rfl rfl ?_
    refine WL.norm 36 [(0, _), (3, _)] [some ⟨_, _, _⟩] rfl ⟨rfl, rfl, trivial⟩ rfl rfl ?_
    refine wn ?_
    refine W.seq ?_
    refine sr ?_
    refine mv rfl rfl ?_
    refine WL.v (Val.gtr (tm rfl) Ev.const) rfl ?_
    refine WL.norm 36 [(3, _), (23, _)] [some ⟨_, _, _⟩] rfl ⟨rfl, rfl, trivial⟩ rfl rfl ?_
    refine wn ?_
    refine W.condP rfl (fun hc4 => ?_) (fun hc4 => ?_)
    · try simp only [td] at hc4
      refine W.region ?_
      refine mv rfl rfl ?_
      refine WL.callV ca44 (evc Ev.const evn) (lo1 lo0) rfl (c_Strings W0 N _) ?_
      rintro _ rfl
      refine WL.v (Val.le (Val.build (vs := [(0, _), (5, _), (6, _)]) Tryd.underlying35 zz35 rfl rfl pl35 rfl ⟨Ev.const, rfl, rfl, rfl, ⟨Ev.const, rfl, rfl, rfl, ⟨(tm rfl), rfl, rfl, rfl, trivial⟩⟩⟩) (Le.agg (ys := [_, .f (.lst 1 []), _, _, _, _, _, _, _]) (LeL.cons (Le.refl _) (LeL.cons Le.nil (LeL.cons (Le.refl _) (LeL.cons (Le.refl _) (LeL.cons (Le.refl _) (LeL.cons (Le.refl _) (LeL.cons (Le.refl _) (LeL.cons (Le.refl _) (LeL.cons (Le.refl _) LeL.nil))))))))))) rfl ?_
      refine WL.callV ca44 (evc Ev.const evn) (lo1 lo0) rfl (c_Strings W0 N _) ?_
      rintro _ rfl
      refine WL.v (Val.le (Val.build (vs := [(0, _), (5, _), (6, _)]) Tryd.underlying35 zz35 rfl rfl pl35 rfl ⟨Ev.const, rfl, rfl, rfl, ⟨Ev.const, rfl, rfl, rfl, ⟨(tm rfl), rfl, rfl, rfl, trivial⟩⟩⟩) (Le.agg (ys := [_, .f (.lst 1 []), _, _, _, _, _, _, _]) (LeL.cons (Le.refl _) (LeL.cons Le.nil (LeL.cons (Le.refl _) (LeL.cons (Le.refl _) (LeL.cons (Le.refl _) (LeL.cons (Le.refl _) (LeL.cons (Le.refl _) (LeL.cons (Le.refl _) (LeL.cons (Le.refl _) LeL.nil))))))))))) rfl ?_
      refine WL.callV ca43 (evc Ev.const evn) (lo1 lo0) rfl (c_BV W0 N _) ?_
      rintro _ rfl
      refine WL.v (Val.le (Val.build (vs := [(0, _), (5, _), (6, _)]) Tryd.underlying35 zz35 rfl rfl pl35 rfl ⟨Ev.const, rfl, rfl, rfl, ⟨Ev.const, rfl, rfl, rfl, ⟨(tm rfl), rfl, rfl, rfl, trivial⟩⟩⟩) (Le.agg (ys := [_, .f (.lst 1 []), _, _, _, _, _, _, _]) (LeL.cons (Le.refl _) (LeL.cons Le.nil (LeL.cons (Le.refl _) (LeL.cons (Le.refl _) (LeL.cons (Le.refl _) (LeL.cons (Le.refl _) (LeL.cons (Le.refl _) (LeL.cons (Le.refl _) (LeL.cons (Le.refl _) LeL.nil))))))))))) rfl ?_
      refine WL.v (Val.build (vs := [(0, _), (1, _), (2, _)]) Tryd.underlying33 zz33 rfl rfl pl33 rfl ⟨Ev.const, rfl, rfl, rfl, ⟨Ev.const, rfl, rfl, rfl, ⟨Ev.const, rfl, rfl, rfl, trivial⟩⟩⟩) rfl ?_
      refine WL.v (Val.le (Val.build (vs := [(0, _), (5, _), (6, _)]) Tryd.underlying35 zz35 rfl rfl pl35 rfl ⟨Ev.const, rfl, rfl, rfl, ⟨Ev.const, rfl, rfl, rfl, ⟨(tm rfl), rfl, rfl, rfl, trivial⟩⟩⟩) (Le.agg (ys := [_, .f (.lst 1 []), _, _, _, _, _, _, _]) (LeL.cons (Le.refl _) (LeL.cons Le.nil (LeL.cons (Le.refl _) (LeL.cons (Le.refl _) (LeL.cons (Le.refl _) (LeL.cons (Le.refl _) (LeL.cons (Le.refl _) (LeL.cons (Le.refl _) (LeL.cons (Le.refl _) LeL.nil))))))))))) rfl ?_
      refine WL.stp rfl (Stp.buildFrozen (xs := [_, _, _, _]) (fs := startC.map Nd.cells) Tryd.underlying23 zs35 zz35 rfl rfl (evc (tm rfl) (evc (tm rfl) (evc (tm rfl) (evc (tm rfl) evn)))) fitL (bl rfl) rfl rfl) ?_
      refine WL.stp rfl (Stp.appendE (enc := Nd.cells) (l := _) ap23_23 (tm rfl) rfl rfl (ArgE.lst (enc := Nd.cells) (tm rfl) (by intro x; first | rfl | exact rxLen x)) (by decide) rfl) ?_
      refine asg rfl rfl ?_
      refine WL.norm 36 [(3, _)] [some ⟨_, _, _⟩] rfl ⟨rfl, trivial⟩ rfl rfl ?_
      refine wn ?_
      refine sr ?_
      refine mv rfl rfl ?_
      refine asg rfl rfl ?_
      refine WL.norm 36 [(2, _)] [some ⟨_, _, _⟩] rfl ⟨rfl, trivial⟩ rfl rfl ?_
      refine wn ?_
      refine W.ret ?_
      exact Ret.of (.inr rfl) rfl (res1 rfl rfl) (Fewer.nil _) (.inr trivial) (fun id h => absurd h (Nat.not_lt_zero _)) (.whole (xs := (startA ++ startB ++ startC).map Nd.cells) rfl rfl rfl (encL (by intro x; rfl))) ⟨rfl, startA ++ startB ++ startC, rfl, start_ok true true, by decide, by decide, by decide⟩
    try simp only [td] at hc4
    refine W.skip (nm ?_)
    refine sr ?_
    refine mv rfl rfl ?_
    refine asg rfl rfl ?_
    refine WL.norm 36 [(2, _)] [some ⟨_, _, _⟩] rfl ⟨rfl, trivial⟩ rfl rfl ?_
    refine wn ?_
    refine W.ret ?_
    exact Ret.of (.inr rfl) rfl (res1 rfl rfl) (Fewer.nil _) (.inr trivial) (fun id h => absurd h (Nat.not_lt_zero _)) (.whole (xs := (startA ++ startB).map Nd.cells) rfl rfl rfl (encL (by intro x; rfl))) ⟨rfl, startA ++ startB, rfl, by simpa using start_ok true false, by decide, by decide, by decide⟩
  try simp only [td] at hc2
  refine W.skip (nm ?_)
  refine W.seq ?_
  refine sr ?_
  refine mv rfl rfl ?_
  refine WL.v (Val.gtr (tm rfl) Ev.const) rfl ?_
  refine WL.norm 36 [(3, _), (23, _)] [some ⟨_, _, _⟩] rfl ⟨rfl, rfl, trivial⟩ rfl rfl ?_
  refine wn ?_
  refine W.condP rfl (fun hc4 => ?_) (fun hc4 => ?_)
  · try simp only [td] at hc4
    refine W.region ?_
    refine mv rfl rfl ?_
    refine WL.callV ca44 (evc Ev.const evn) (lo1 lo0) rfl (c_Strings W0 N _) ?_
    rintro _ rfl
    refine WL.v (Val.le (Val.build (vs := [(0, _), (5, _), (6, _)]) Tryd.underlying35 zz35 rfl rfl pl35 rfl ⟨Ev.const, rfl, rfl, rfl, ⟨Ev.const, rfl, rfl, rfl, ⟨(tm rfl), rfl, rfl, rfl, trivial⟩⟩⟩) (Le.agg (ys := [_, .f (.lst 1 []), _, _, _, _, _, _, _]) (LeL.cons (Le.refl _) (LeL.cons Le.nil (LeL.cons (Le.refl _) (LeL.cons (Le.refl _) (LeL.cons (Le.refl _) (LeL.cons (Le.refl _) (LeL.cons (Le.refl _) (LeL.cons (Le.refl _) (LeL.cons (Le.refl _) LeL.nil))))))))))) rfl ?_
    refine WL.callV ca44 (evc Ev.const evn) (lo1 lo0) rfl (c_Strings W0 N _) ?_
    rintro _ rfl
    refine WL.v (Val.le (Val.build (vs := [(0, _), (5, _), (6, _)]) Tryd.underlying35 zz35 rfl rfl pl35 rfl ⟨Ev.const, rfl, rfl, rfl, ⟨Ev.const, rfl, rfl, rfl, ⟨(tm rfl), rfl, rfl, rfl, trivial⟩⟩⟩) (Le.agg (ys := [_, .f (.lst 1 []), _, _, _, _, _, _, _]) (LeL.cons (Le.refl _) (LeL.cons Le.nil (LeL.cons (Le.refl _) (LeL.cons (Le.refl _) (LeL.cons (Le.refl _) (LeL.cons (Le.refl _) (LeL.cons (Le.refl _) (LeL.cons (Le.refl _) (LeL.cons (Le.refl _) LeL.nil))))))))))) rfl ?_
    refine WL.callV ca43 (evc Ev.const evn) (lo1 lo0) rfl (c_BV W0 N _) ?_
    rintro _ rfl
    refine WL.v (Val.le (Val.build (vs := [(0, _), (5, _), (6, _)]) Tryd.underlying35 zz35 rfl rfl pl35 rfl ⟨Ev.const, rfl, rfl, rfl, ⟨Ev.const, rfl, rfl, rfl, ⟨(tm rfl), rfl, rfl, rfl, trivial⟩⟩⟩) (Le.agg (ys := [_, .f (.lst 1 []), _, _, _, _, _, _, _]) (LeL.cons (Le.refl _) (LeL.cons Le.nil (LeL.cons (Le.refl _) (LeL.cons (Le.refl _) (LeL.cons (Le.refl _) (LeL.cons (Le.refl _) (LeL.cons (Le.refl _) (LeL.cons (Le.refl _) (LeL.cons (Le.refl _) LeL.nil))))))))))) rfl ?_
    refine WL.v (Val.build (vs := [(0, _), (1, _), (2, _)]) Tryd.underlying33 zz33 rfl rfl pl33 rfl ⟨Ev.const, rfl, rfl, rfl, ⟨Ev.const, rfl, rfl, rfl, ⟨Ev.const, rfl, rfl, rfl, trivial⟩⟩⟩) rfl ?_
    refine WL.v (Val.le (Val.build (vs := [(0, _), (5, _), (6, _)]) Tryd.underlying35 zz35 rfl rfl pl35 rfl ⟨Ev.const, rfl, rfl, rfl, ⟨Ev.const, rfl, rfl, rfl, ⟨(tm rfl), rfl, rfl, rfl, trivial⟩⟩⟩) (Le.agg (ys := [_, .f (.lst 1 []), _, _, _, _, _, _, _]) (LeL.cons (Le.refl _) (LeL.cons Le.nil (LeL.cons (Le.refl _) (LeL.cons (Le.refl _) (LeL.cons (Le.refl _) (LeL.cons (Le.refl _) (LeL.cons (Le.refl _) (LeL.cons (Le.refl _) (LeL.cons (Le.refl _) LeL.nil))))))))))) rfl ?_
    refine WL.stp rfl (Stp.buildFrozen (xs := [_, _, _, _]) (fs := startC.map Nd.cells) Tryd.underlying23 zs35 zz35 rfl rfl (evc (tm rfl) (evc (tm rfl) (evc (tm rfl) (evc (tm rfl) evn)))) fitL (bl rfl) rfl rfl) ?_
    refine WL.stp rfl (Stp.appendE (enc := Nd.cells) (l := _) ap23_23 (tm rfl) rfl rfl (ArgE.lst (enc := Nd.cells) (tm rfl) (by intro x; first | rfl | exact rxLen x)) (by decide) rfl) ?_
    refine asg rfl rfl ?_
    refine WL.norm 36 [(3, _)] [some ⟨_, _, _⟩] rfl ⟨rfl, trivial⟩ rfl rfl ?_
    refine wn ?_
    refine sr ?_
    refine mv rfl rfl ?_
    refine asg rfl rfl ?_
    refine WL.norm 36 [(2, _)] [some ⟨_, _, _⟩] rfl ⟨rfl, trivial⟩ rfl rfl ?_
    refine wn ?_
    refine W.ret ?_
    exact Ret.of (.inr rfl) rfl (res1 rfl rfl) (Fewer.nil _) (.inr trivial) (fun id h => absurd h (Nat.not_lt_zero _)) (.whole (xs := (startA ++ startC).map Nd.cells) rfl rfl rfl (encL (by intro x; rfl))) ⟨rfl, startA ++ startC, rfl, by simpa using start_ok false true, by decide, by decide, by decide⟩
  try simp only [td] at hc4
  refine W.skip (nm ?_)
  refine sr ?_
  refine mv rfl rfl ?_
  refine asg rfl rfl ?_
  refine WL.norm 36 [(2, _)] [some ⟨_, _, _⟩] rfl ⟨rfl, trivial⟩ rfl rfl ?_
  refine wn ?_
  refine W.ret ?_
  exact Ret.of (.inr rfl) rfl (res1 rfl rfl) (Fewer.nil _) (.inr trivial) (fun id h => absurd h (Nat.not_lt_zero _)) (.whole (xs := (startA).map Nd.cells) rfl rfl rfl (encL (by intro x; rfl))) ⟨rfl, startA, rfl, by simpa using start_ok false false, by decide, by decide, by decide⟩
-- enthymemeref07.node
set_option maxHeartbeats 1000000 in
theorem c_node (W0 : World) (N : Nat) (g : List Nd) (hg : WFG g) (h4 : 1 ≤ g.length) (n m k : Int) (hn : I6 n) (hm : I6 m) (hk : I6 k) (hs : ∀ n, n ∈ g → n.sort.n ≤ 16) : AC (En W0 N) 24 [.f (.nodes g), .i n, .i m, .i k] [] (fun r h => h = [] ∧ ∃ nd, r = Nd.agg nd ∧ nd.text.size ≤ 1000000) := by
  refine AC.enter Tryd.func24 rfl Tryd.ntmps24 (bl rfl) fun X => ?_
  have hgl := hg.len
  have hn64 : I6 (IntKind.i64.wrap (n.tdiv 64)) := I6.wrap _
  refine sr ?_
  refine WL.stp rfl (Stp.alloc zz35 rfl rfl) ?_
  refine WL.norm 180 [(0, _), (1, _), (2, _), (3, _), (8, _)] [some ⟨_, _, [[_, _, _, _, _, _, _, _, _]]⟩] rfl ⟨rfl, rfl, rfl, rfl, rfl, trivial⟩ rfl rfl ?_
  refine wn ?_
  refine sr ?_
  refine WL.stp rfl (Stp.buildFrozen (xs := [_, _, _, _, _, _, _, _, _, _, _, _, _, _, _, _, _, _, _, _, _, _, _, _, _, _, _, _, _, _, _, _, _, _, _, _, _, _, _, _]) (fs := ([4,5,6,7,8,9,10,11,12,13,14,15,16,17,18,19,20,21,22,23,24,25,26,27,28,29,30,31,32,33,34,1,2,3,18,18,16,6,24,25] : List Int).map encI) Tryd.underlying22 zs3 zz3 rfl rfl (evc Ev.const (evc Ev.const (evc Ev.const (evc Ev.const (evc Ev.const (evc Ev.const (evc Ev.const (evc Ev.const (evc Ev.const (evc Ev.const (evc Ev.const (evc Ev.const (evc Ev.const (evc Ev.const (evc Ev.const (evc Ev.const (evc Ev.const (evc Ev.const (evc Ev.const (evc Ev.const (evc Ev.const (evc Ev.const (evc Ev.const (evc Ev.const (evc Ev.const (evc Ev.const (evc Ev.const (evc Ev.const (evc Ev.const (evc Ev.const (evc Ev.const (evc Ev.const (evc Ev.const (evc Ev.const (evc Ev.const (evc Ev.const (evc Ev.const (evc Ev.const (evc Ev.const (evc Ev.const evn)))))))))))))))))))))))))))))))))))))))) fitL (bl rfl) rfl rfl) ?_
  refine asg rfl rfl ?_
  refine WL.norm 180 [(0, _), (1, _), (2, _), (3, _), (8, _), (9, _)] [some ⟨_, _, [[_, _, _, _, _, _, _, _, _]]⟩] rfl ⟨rfl, rfl, rfl, rfl, rfl, rfl, trivial⟩ rfl rfl ?_
  refine wn ?_
  refine sr ?_
  refine mv rfl rfl ?_
  refine mv rfl rfl ?_
  refine mv rfl rfl ?_
  refine WL.v (Val.ln (enc := encI) Tryd.underlying22 (tm rfl)) rfl ?_
  refine WL.callV ca8 (evc (tm rfl) (evc (tm rfl) evn)) (lo1 (lo1 lo0)) rfl (c_Around W0 N n 40 hn (by decide)) ?_
  rintro _ rfl
  have har := around_range (n := n) (most := 40) (by omega)
  refine WL.v (Val.ix (enc := encI) Tryd.underlying22 zs3 (tm rfl) (tm rfl) (by omega) (gA_at (by omega) (by simp; omega))) rfl ?_
  refine WL.v (Val.load Tryd.underlying3 rfl (tm rfl)) rfl ?_
  refine WL.v (Val.build (vs := [(0, _)]) Tryd.underlying35 zz35 rfl rfl pl35 rfl ⟨(tm rfl), rfl, rfl, rfl, trivial⟩) rfl ?_
  refine WL.stp rfl (Stp.alloc zz35 rfl rfl) ?_
  refine WL.stp rfl (Stp.st (tm rfl) (tm rfl) zs35 rfl rfl rfl rfl rfl rfl rfl rfl) ?_
  refine WL.norm 180 [(0, _), (1, _), (2, _), (3, _), (8, _), (10, _)] [some ⟨_, _, [[_, _, _, _, _, _, _, _, _]]⟩, some ⟨_, _, [[_, _, _, _, _, _, _, _, _]]⟩] rfl ⟨rfl, rfl, rfl, rfl, rfl, rfl, trivial⟩ rfl rfl ?_
  refine wn ?_
  refine sr ?_
  refine mv rfl rfl ?_
  refine WL.v (Val.quo (tm rfl) Ev.const (by omega) rfl) rfl ?_
  refine mv rfl rfl ?_
  refine WL.v (Val.ln (enc := Nd.cells) Tryd.underlying23 (tm rfl)) rfl ?_
  refine WL.callV ca8 (evc (tm rfl) (evc (tm rfl) evn)) (lo1 (lo1 lo0)) rfl (c_Around W0 N _ _ (by assumption) (by omega)) ?_
  rintro _ rfl
  have har := around_range (n := (IntKind.i64.wrap (n.tdiv 64))) (most := g.length) (by omega)
  have hsx := hs _ (gA_mem har.1 har.2)
  refine asg rfl rfl ?_
  refine WL.norm 180 [(0, _), (1, _), (2, _), (3, _), (8, _), (10, _), (11, _)] [some ⟨_, _, [[_, _, _, _, _, _, _, _, _]]⟩, some ⟨_, _, [[_, _, _, _, _, _, _, _, _]]⟩] rfl ⟨rfl, rfl, rfl, rfl, rfl, rfl, rfl, trivial⟩ rfl rfl ?_
  refine wn ?_
  refine W.join (fun S => ∃ (nd : Nd) (x : Int), S = ⟨180, [(0, .f (.nodes g)), (1, .i n), (2, .i m), (3, .i k), (8, .ptr 0 0 9 0 0), (10, .ptr 1 0 9 0 0), (11, .i x)], [some ⟨0, 9, [[.i 0, .nil, .i 0, .i 0, .u 0, .s ByteArray.empty, .i 0, .i 0, .i 0]]⟩, some ⟨0, 9, [[.i nd.op, .nil, .i nd.n, .i nd.m, .u nd.u, .s nd.text, .i nd.sort.kind, .i nd.sort.n, .i nd.sort.index]]⟩], []⟩ ∧ (nd.text.size ≤ 1000000) ∧ (0 ≤ x) ∧ (x < g.length)) ?_ ?_
  · refine sr ?_
    refine WL.v (Val.fal (off := 0) Tryd.underlying35 rfl rfl zs3 (tm rfl)) rfl ?_
    refine WL.v (Val.loadLive Tryd.underlying3 rfl (tm rfl) rfl rfl rfl rfl rfl) rfl ?_
    refine WL.norm 180 [(0, _), (1, _), (2, _), (3, _), (8, _), (10, _), (11, _), (32, _)] [some ⟨_, _, [[_, _, _, _, _, _, _, _, _]]⟩, some ⟨_, _, [[_, _, _, _, _, _, _, _, _]]⟩] rfl ⟨rfl, rfl, rfl, rfl, rfl, rfl, rfl, rfl, trivial⟩ rfl rfl ?_
    refine wn ?_
    refine W.block ?_
    refine sr ?_
    refine WL.v (Val.eql (tm rfl) Ev.const) rfl ?_
    refine asg rfl rfl ?_
    refine WL.norm 180 [(0, _), (1, _), (2, _), (3, _), (8, _), (10, _), (11, _), (32, _), (33, _)] [some ⟨_, _, [[_, _, _, _, _, _, _, _, _]]⟩, some ⟨_, _, [[_, _, _, _, _, _, _, _, _]]⟩] rfl ⟨rfl, rfl, rfl, rfl, rfl, rfl, rfl, rfl, rfl, trivial⟩ rfl rfl ?_
    refine wn ?_
    refine W.condP rfl (fun hc5 => ?_) (fun hc5 => ?_)
    · try simp only [td] at hc5
      refine sr ?_
      refine mv rfl rfl ?_
      refine WL.callV ca8 (evc (tm rfl) (evc Ev.const evn)) (lo1 (lo1 lo0)) rfl (c_Around W0 N _ _ (by assumption) (by omega)) ?_
      rintro _ rfl
      have har := around_range (n := m) (most := 3) (by omega)
      refine WL.v (Val.add Ev.const (tm rfl) (IntWalk.i64_in _ (by omega))) rfl ?_
      refine asg rfl rfl ?_
      refine WL.norm 180 [(0, _), (1, _), (2, _), (3, _), (8, _), (10, _), (11, _), (12, _)] [some ⟨_, _, [[_, _, _, _, _, _, _, _, _]]⟩, some ⟨_, _, [[_, _, _, _, _, _, _, _, _]]⟩] rfl ⟨rfl, rfl, rfl, rfl, rfl, rfl, rfl, rfl, trivial⟩ rfl rfl ?_
      refine wn ?_
      refine W.seq ?_
      refine sr ?_
      refine mv rfl rfl ?_
      refine WL.v (Val.rem (tm rfl) Ev.const (by omega) rfl) rfl ?_
      refine WL.v (Val.eql (tm rfl) Ev.const) rfl ?_
      refine WL.norm 180 [(0, _), (1, _), (2, _), (3, _), (8, _), (10, _), (11, _), (12, _), (40, _)] [some ⟨_, _, [[_, _, _, _, _, _, _, _, _]]⟩, some ⟨_, _, [[_, _, _, _, _, _, _, _, _]]⟩] rfl ⟨rfl, rfl, rfl, rfl, rfl, rfl, rfl, rfl, rfl, trivial⟩ rfl rfl ?_
      refine wn ?_
      refine W.condP rfl (fun hc7 => ?_) (fun hc7 => ?_)
      · try simp only [td] at hc7
        refine W.region ?_
        refine WL.v (Val.assign Ev.const) rfl ?_
        refine WL.norm 180 [(0, _), (1, _), (2, _), (3, _), (8, _), (10, _), (11, _), (12, _)] [some ⟨_, _, [[_, _, _, _, _, _, _, _, _]]⟩, some ⟨_, _, [[_, _, _, _, _, _, _, _, _]]⟩] rfl ⟨rfl, rfl, rfl, rfl, rfl, rfl, rfl, rfl, trivial⟩ rfl rfl ?_
        refine wn ?_
        refine sr ?_
        refine mv rfl rfl ?_
        refine WL.callV ca43 (evc (tm rfl) evn) (lo1 lo0) rfl (c_BV W0 N _) ?_
        rintro _ rfl
        refine WL.v (Val.fal (off := 6) Tryd.underlying35 rfl rfl zs33 (tm rfl)) rfl ?_
        refine WL.stp rfl (Stp.st (tm rfl) (tm rfl) zs33 rfl rfl rfl rfl rfl rfl rfl rfl) ?_
        refine WL.norm 180 [(0, _), (1, _), (2, _), (3, _), (8, _), (10, _), (11, _), (12, _)] [some ⟨_, _, [[_, _, _, _, _, _, _, _, _]]⟩, some ⟨_, _, [[_, _, _, _, _, _, _, _, _]]⟩] rfl ⟨rfl, rfl, rfl, rfl, rfl, rfl, rfl, rfl, trivial⟩ rfl rfl ?_
        refine wn ?_
        refine W.region ?_
        refine mv rfl rfl ?_
        refine mv rfl rfl ?_
        refine WL.v (Val.min (tm rfl) Ev.const) rfl ?_
        refine WL.v (Val.convInt Tryd.underlying3 Tryd.underlying83 (tm rfl) (IntWalk.u64_in _ (by omega))) rfl ?_
        refine WL.v (Val.shl Ev.const (tm rfl) (by omega) rfl) rfl ?_
        refine WL.callV ca8 (evc (tm rfl) (evc (tm rfl) evn)) (lo1 (lo1 lo0)) rfl (c_Around W0 N _ _ hk (shl_ok (by omega) (by omega))) ?_
        rintro _ rfl
        refine WL.v (Val.convInt Tryd.underlying3 Tryd.underlying31 (tm rfl) rfl) rfl ?_
        refine WL.v (Val.fal (off := 4) Tryd.underlying35 rfl rfl zs31 (tm rfl)) rfl ?_
        refine WL.stp rfl (Stp.st (tm rfl) (tm rfl) zs31 rfl rfl rfl rfl rfl rfl rfl rfl) ?_
        refine WL.norm 180 [(0, _), (1, _), (2, _), (3, _), (8, _), (10, _), (11, _)] [some ⟨_, _, [[_, _, _, _, _, _, _, _, _]]⟩, some ⟨_, _, [[_, _, _, _, _, _, _, _, _]]⟩] rfl ⟨rfl, rfl, rfl, rfl, rfl, rfl, rfl, trivial⟩ rfl rfl ?_
        refine WL.nil (nb (nm ?_))
        exact ⟨⟨_, [], _, _, _, _, ⟨_, _, _⟩⟩, _, rfl, by first | exact Nat.le_of_ble_eq_true rfl | assumption | exact strs_ok (l := [⟨#[]⟩, ⟨#[97]⟩, ⟨#[97, 98]⟩, ⟨#[98]⟩, ⟨#[0]⟩, ⟨#[97, 97]⟩]) (i := around m 6) (n := 1000000) (by decide) (by omega) (by simp; omega), by omega, by omega⟩
      try simp only [td] at hc7
      refine W.skip (nm ?_)
      refine sr ?_
      refine mv rfl rfl ?_
      refine WL.callV ca43 (evc (tm rfl) evn) (lo1 lo0) rfl (c_BV W0 N _) ?_
      rintro _ rfl
      refine WL.v (Val.fal (off := 6) Tryd.underlying35 rfl rfl zs33 (tm rfl)) rfl ?_
      refine WL.stp rfl (Stp.st (tm rfl) (tm rfl) zs33 rfl rfl rfl rfl rfl rfl rfl rfl) ?_
      refine WL.norm 180 [(0, _), (1, _), (2, _), (3, _), (8, _), (10, _), (11, _), (12, _)] [some ⟨_, _, [[_, _, _, _, _, _, _, _, _]]⟩, some ⟨_, _, [[_, _, _, _, _, _, _, _, _]]⟩] rfl ⟨rfl, rfl, rfl, rfl, rfl, rfl, rfl, rfl, trivial⟩ rfl rfl ?_
      refine wn ?_
      refine W.region ?_
      refine mv rfl rfl ?_
      refine mv rfl rfl ?_
      refine WL.v (Val.min (tm rfl) Ev.const) rfl ?_
      refine WL.v (Val.convInt Tryd.underlying3 Tryd.underlying83 (tm rfl) (IntWalk.u64_in _ (by omega))) rfl ?_
      refine WL.v (Val.shl Ev.const (tm rfl) (by omega) rfl) rfl ?_
      refine WL.callV ca8 (evc (tm rfl) (evc (tm rfl) evn)) (lo1 (lo1 lo0)) rfl (c_Around W0 N _ _ hk (shl_ok (by omega) (by omega))) ?_
      rintro _ rfl
      refine WL.v (Val.convInt Tryd.underlying3 Tryd.underlying31 (tm rfl) rfl) rfl ?_
      refine WL.v (Val.fal (off := 4) Tryd.underlying35 rfl rfl zs31 (tm rfl)) rfl ?_
      refine WL.stp rfl (Stp.st (tm rfl) (tm rfl) zs31 rfl rfl rfl rfl rfl rfl rfl rfl) ?_
      refine WL.norm 180 [(0, _), (1, _), (2, _), (3, _), (8, _), (10, _), (11, _)] [some ⟨_, _, [[_, _, _, _, _, _, _, _, _]]⟩, some ⟨_, _, [[_, _, _, _, _, _, _, _, _]]⟩] rfl ⟨rfl, rfl, rfl, rfl, rfl, rfl, rfl, trivial⟩ rfl rfl ?_
      refine WL.nil (nb (nm ?_))
      exact ⟨⟨_, [], _, _, _, _, ⟨_, _, _⟩⟩, _, rfl, by first | exact Nat.le_of_ble_eq_true rfl | assumption | exact strs_ok (l := [⟨#[]⟩, ⟨#[97]⟩, ⟨#[97, 98]⟩, ⟨#[98]⟩, ⟨#[0]⟩, ⟨#[97, 97]⟩]) (i := around m 6) (n := 1000000) (by decide) (by omega) (by simp; omega), by omega, by omega⟩
    try simp only [td] at hc5
    refine sr ?_
    refine WL.v (Val.eql (tm rfl) Ev.const) rfl ?_
    refine asg rfl rfl ?_
    refine WL.norm 180 [(0, _), (1, _), (2, _), (3, _), (8, _), (10, _), (11, _), (32, _), (52, _)] [some ⟨_, _, [[_, _, _, _, _, _, _, _, _]]⟩, some ⟨_, _, [[_, _, _, _, _, _, _, _, _]]⟩] rfl ⟨rfl, rfl, rfl, rfl, rfl, rfl, rfl, rfl, rfl, trivial⟩ rfl rfl ?_
    refine wn ?_
    refine W.condP rfl (fun hc11 => ?_) (fun hc11 => ?_)
    · try simp only [td] at hc11
      refine W.region ?_
      refine WL.stp rfl (Stp.buildFrozen (xs := [_, _, _, _, _, _]) (fs := ([⟨#[]⟩, ⟨#[97]⟩, ⟨#[97, 98]⟩, ⟨#[98]⟩, ⟨#[0]⟩, ⟨#[97, 97]⟩] : List ByteArray).map encS) Tryd.underlying84 zs9 zz9 rfl rfl (evc Ev.const (evc Ev.const (evc Ev.const (evc Ev.const (evc Ev.const (evc Ev.const evn)))))) fitL (bl rfl) rfl rfl) ?_
      refine mv rfl rfl ?_
      refine WL.callV ca8 (evc (tm rfl) (evc Ev.const evn)) (lo1 (lo1 lo0)) rfl (c_Around W0 N _ _ (by assumption) (by omega)) ?_
      rintro _ rfl
      have har := around_range (n := m) (most := 6) (by omega)
      refine WL.v (Val.ix (enc := encS) Tryd.underlying84 zs9 (tm rfl) (tm rfl) (by omega) (gA_at (by omega) (by simp; omega))) rfl ?_
      refine WL.v (Val.load Tryd.underlying9 rfl (tm rfl)) rfl ?_
      refine WL.v (Val.fal (off := 5) Tryd.underlying35 rfl rfl zs9 (tm rfl)) rfl ?_
      refine WL.stp rfl (Stp.st (tm rfl) (tm rfl) zs9 rfl rfl rfl rfl rfl rfl rfl rfl) ?_
      refine WL.norm 180 [(0, _), (1, _), (2, _), (3, _), (8, _), (10, _), (11, _)] [some ⟨_, _, [[_, _, _, _, _, _, _, _, _]]⟩, some ⟨_, _, [[_, _, _, _, _, _, _, _, _]]⟩] rfl ⟨rfl, rfl, rfl, rfl, rfl, rfl, rfl, trivial⟩ rfl rfl ?_
      refine WL.nil (nb (nm ?_))
      exact ⟨⟨_, [], _, _, _, _, ⟨_, _, _⟩⟩, _, rfl, by first | exact Nat.le_of_ble_eq_true rfl | assumption | exact strs_ok (l := [⟨#[]⟩, ⟨#[97]⟩, ⟨#[97, 98]⟩, ⟨#[98]⟩, ⟨#[0]⟩, ⟨#[97, 97]⟩]) (i := around m 6) (n := 1000000) (by decide) (by omega) (by simp; omega), by omega, by omega⟩
    try simp only [td] at hc11
    refine sr ?_
    refine WL.v (Val.eql (tm rfl) Ev.const) rfl ?_
    refine asg rfl rfl ?_
    refine WL.norm 180 [(0, _), (1, _), (2, _), (3, _), (8, _), (10, _), (11, _), (32, _), (60, _)] [some ⟨_, _, [[_, _, _, _, _, _, _, _, _]]⟩, some ⟨_, _, [[_, _, _, _, _, _, _, _, _]]⟩] rfl ⟨rfl, rfl, rfl, rfl, rfl, rfl, rfl, rfl, rfl, trivial⟩ rfl rfl ?_
    refine wn ?_
    refine W.condP rfl (fun hc13 => ?_) (fun hc13 => ?_)
    · try simp only [td] at hc13
      refine W.region ?_
      refine WL.v (Val.build (vs := [(0, _), (1, _), (2, _)]) Tryd.underlying33 zz33 rfl rfl pl33 rfl ⟨Ev.const, rfl, rfl, rfl, ⟨Ev.const, rfl, rfl, rfl, ⟨Ev.const, rfl, rfl, rfl, trivial⟩⟩⟩) rfl ?_
      refine WL.v (Val.build (vs := [(0, _), (1, _), (2, _)]) Tryd.underlying33 zz33 rfl rfl pl33 rfl ⟨Ev.const, rfl, rfl, rfl, ⟨Ev.const, rfl, rfl, rfl, ⟨Ev.const, rfl, rfl, rfl, trivial⟩⟩⟩) rfl ?_
      refine WL.stp rfl (Stp.buildFrozen (xs := [_, _]) (fs := ([⟨2, 2, 1⟩, ⟨3, 1, 1⟩] : List Srt).map Srt.cells) Tryd.underlying85 zs33 zz33 rfl rfl (evc (tm rfl) (evc (tm rfl) evn)) fitL (bl rfl) rfl rfl) ?_
      refine mv rfl rfl ?_
      refine WL.callV ca8 (evc (tm rfl) (evc Ev.const evn)) (lo1 (lo1 lo0)) rfl (c_Around W0 N _ _ (by assumption) (by omega)) ?_
      rintro _ rfl
      have har := around_range (n := m) (most := 2) (by omega)
      refine WL.v (Val.ix (enc := Srt.cells) Tryd.underlying85 zs33 (tm rfl) (tm rfl) (by omega) (gA_at (by omega) (by simp; omega))) rfl ?_
      refine WL.v (Val.loadAgg Tryd.underlying33 rfl zs33 (tm rfl) (bl rfl)) rfl ?_
      refine WL.v (Val.fal (off := 6) Tryd.underlying35 rfl rfl zs33 (tm rfl)) rfl ?_
      refine WL.stp rfl (Stp.st (tm rfl) (tm rfl) zs33 rfl rfl rfl rfl rfl rfl rfl rfl) ?_
      refine WL.norm 180 [(0, _), (1, _), (2, _), (3, _), (8, _), (10, _), (11, _)] [some ⟨_, _, [[_, _, _, _, _, _, _, _, _]]⟩, some ⟨_, _, [[_, _, _, _, _, _, _, _, _]]⟩] rfl ⟨rfl, rfl, rfl, rfl, rfl, rfl, rfl, trivial⟩ rfl rfl ?_
      refine WL.nil (nb (nm ?_))
      exact ⟨⟨_, [], _, _, _, _, ⟨_, _, _⟩⟩, _, rfl, by first | exact Nat.le_of_ble_eq_true rfl | assumption | exact strs_ok (l := [⟨#[]⟩, ⟨#[97]⟩, ⟨#[97, 98]⟩, ⟨#[98]⟩, ⟨#[0]⟩, ⟨#[97, 97]⟩]) (i := around m 6) (n := 1000000) (by decide) (by omega) (by simp; omega), by omega, by omega⟩
    try simp only [td] at hc13
    refine sr ?_
    refine WL.v (Val.eql (tm rfl) Ev.const) rfl ?_
    refine asg rfl rfl ?_
    refine WL.norm 180 [(0, _), (1, _), (2, _), (3, _), (8, _), (10, _), (11, _), (32, _), (70, _)] [some ⟨_, _, [[_, _, _, _, _, _, _, _, _]]⟩, some ⟨_, _, [[_, _, _, _, _, _, _, _, _]]⟩] rfl ⟨rfl, rfl, rfl, rfl, rfl, rfl, rfl, rfl, rfl, trivial⟩ rfl rfl ?_
    refine wn ?_
    refine W.condP rfl (fun hc15 => ?_) (fun hc15 => ?_)
    · try simp only [td] at hc15
      refine sr ?_
      refine mv rfl rfl ?_
      refine mv rfl rfl ?_
      refine mv rfl rfl ?_
      refine WL.v (Val.ix (enc := Nd.cells) Tryd.underlying23 zs35 (tm rfl) (tm rfl) (by omega) (gA_at (by omega) (by omega))) rfl ?_
      refine WL.v (Val.fa (off := 6) Tryd.underlying35 rfl rfl zs33 (tm rfl)) rfl ?_
      refine WL.v (Val.fa (off := 1) Tryd.underlying33 rfl rfl zs3 (tm rfl)) rfl ?_
      refine WL.v (Val.load Tryd.underlying3 rfl (tm rfl)) rfl ?_
      refine WL.v (Val.max Ev.const (tm rfl)) rfl ?_
      refine WL.callV ca8 (evc (tm rfl) (evc (tm rfl) evn)) (lo1 (lo1 lo0)) rfl (c_Around W0 N _ _ (by assumption) (by omega)) ?_
      rintro _ rfl
      have har2 := around_range (n := m) (most := max 1 (gA g (around (IntKind.i64.wrap (n.tdiv 64)) g.length)).sort.n) (by omega)
      refine WL.v (Val.fal (off := 2) Tryd.underlying35 rfl rfl zs3 (tm rfl)) rfl ?_
      refine WL.stp rfl (Stp.st (tm rfl) (tm rfl) zs3 rfl rfl rfl rfl rfl rfl rfl rfl) ?_
      refine WL.norm 180 [(0, _), (1, _), (2, _), (3, _), (8, _), (10, _), (11, _)] [some ⟨_, _, [[_, _, _, _, _, _, _, _, _]]⟩, some ⟨_, _, [[_, _, _, _, _, _, _, _, _]]⟩] rfl ⟨rfl, rfl, rfl, rfl, rfl, rfl, rfl, trivial⟩ rfl rfl ?_
      refine wn ?_
      refine W.region ?_
      refine mv rfl rfl ?_
      refine WL.v (Val.fal (off := 2) Tryd.underlying35 rfl rfl zs3 (tm rfl)) rfl ?_
      refine WL.v (Val.loadLive Tryd.underlying3 rfl (tm rfl) rfl rfl rfl rfl rfl) rfl ?_
      refine WL.v (Val.add (tm rfl) Ev.const (IntWalk.i64_in _ (by omega))) rfl ?_
      refine WL.callV ca8 (evc (tm rfl) (evc (tm rfl) evn)) (lo1 (lo1 lo0)) rfl (c_Around W0 N _ _ hk (by omega)) ?_
      rintro _ rfl
      refine WL.v (Val.fal (off := 3) Tryd.underlying35 rfl rfl zs3 (tm rfl)) rfl ?_
      refine WL.stp rfl (Stp.st (tm rfl) (tm rfl) zs3 rfl rfl rfl rfl rfl rfl rfl rfl) ?_
      refine WL.norm 180 [(0, _), (1, _), (2, _), (3, _), (8, _), (10, _), (11, _)] [some ⟨_, _, [[_, _, _, _, _, _, _, _, _]]⟩, some ⟨_, _, [[_, _, _, _, _, _, _, _, _]]⟩] rfl ⟨rfl, rfl, rfl, rfl, rfl, rfl, rfl, trivial⟩ rfl rfl ?_
      refine WL.nil (nb (nm ?_))
      exact ⟨⟨_, [], _, _, _, _, ⟨_, _, _⟩⟩, _, rfl, by first | exact Nat.le_of_ble_eq_true rfl | assumption | exact strs_ok (l := [⟨#[]⟩, ⟨#[97]⟩, ⟨#[97, 98]⟩, ⟨#[98]⟩, ⟨#[0]⟩, ⟨#[97, 97]⟩]) (i := around m 6) (n := 1000000) (by decide) (by omega) (by simp; omega), by omega, by omega⟩
    try simp only [td] at hc15
    refine W.seq ?_
    refine sr ?_
    refine WL.v (Val.eql (tm rfl) Ev.const) rfl ?_
    refine asg rfl rfl ?_
    refine WL.norm 180 [(0, _), (1, _), (2, _), (3, _), (8, _), (10, _), (11, _), (32, _), (88, _)] [some ⟨_, _, [[_, _, _, _, _, _, _, _, _]]⟩, some ⟨_, _, [[_, _, _, _, _, _, _, _, _]]⟩] rfl ⟨rfl, rfl, rfl, rfl, rfl, rfl, rfl, rfl, rfl, trivial⟩ rfl rfl ?_
    refine wn ?_
    refine W.condP rfl (fun hc18 => ?_) (fun hc18 => ?_)
    · try simp only [td] at hc18
      refine W.skip (nm ?_)
      refine W.cT rfl ?_
      refine W.region ?_
      refine mv rfl rfl ?_
      refine WL.callV ca8 (evc (tm rfl) (evc Ev.const evn)) (lo1 (lo1 lo0)) rfl (c_Around W0 N _ _ (by assumption) (by omega)) ?_
      rintro _ rfl
      have har := around_range (n := m) (most := 2) (by omega)
      refine WL.v (Val.add Ev.const (tm rfl) (IntWalk.i64_in _ (by omega))) rfl ?_
      refine WL.v (Val.fal (off := 2) Tryd.underlying35 rfl rfl zs3 (tm rfl)) rfl ?_
      refine WL.stp rfl (Stp.st (tm rfl) (tm rfl) zs3 rfl rfl rfl rfl rfl rfl rfl rfl) ?_
      refine WL.norm 180 [(0, _), (1, _), (2, _), (3, _), (8, _), (10, _), (11, _)] [some ⟨_, _, [[_, _, _, _, _, _, _, _, _]]⟩, some ⟨_, _, [[_, _, _, _, _, _, _, _, _]]⟩] rfl ⟨rfl, rfl, rfl, rfl, rfl, rfl, rfl, trivial⟩ rfl rfl ?_
      refine WL.nil (nb (nm ?_))
      exact ⟨⟨_, [], _, _, _, _, ⟨_, _, _⟩⟩, _, rfl, by first | exact Nat.le_of_ble_eq_true rfl | assumption | exact strs_ok (l := [⟨#[]⟩, ⟨#[97]⟩, ⟨#[97, 98]⟩, ⟨#[98]⟩, ⟨#[0]⟩, ⟨#[97, 97]⟩]) (i := around m 6) (n := 1000000) (by decide) (by omega) (by simp; omega), by omega, by omega⟩
    try simp only [td] at hc18
    refine W.region ?_
    refine WL.v (Val.eql (tm rfl) Ev.const) rfl ?_
    refine asg rfl rfl ?_
    refine WL.norm 180 [(0, _), (1, _), (2, _), (3, _), (8, _), (10, _), (11, _), (32, _), (88, _)] [some ⟨_, _, [[_, _, _, _, _, _, _, _, _]]⟩, some ⟨_, _, [[_, _, _, _, _, _, _, _, _]]⟩] rfl ⟨rfl, rfl, rfl, rfl, rfl, rfl, rfl, rfl, rfl, trivial⟩ rfl rfl ?_
    refine wn ?_
    refine W.condP rfl (fun hc19 => ?_) (fun hc19 => ?_)
    · try simp only [td] at hc19
      refine W.region ?_
      refine mv rfl rfl ?_
      refine WL.callV ca8 (evc (tm rfl) (evc Ev.const evn)) (lo1 (lo1 lo0)) rfl (c_Around W0 N _ _ (by assumption) (by omega)) ?_
      rintro _ rfl
      have har := around_range (n := m) (most := 2) (by omega)
      refine WL.v (Val.add Ev.const (tm rfl) (IntWalk.i64_in _ (by omega))) rfl ?_
      refine WL.v (Val.fal (off := 2) Tryd.underlying35 rfl rfl zs3 (tm rfl)) rfl ?_
      refine WL.stp rfl (Stp.st (tm rfl) (tm rfl) zs3 rfl rfl rfl rfl rfl rfl rfl rfl) ?_
      refine WL.norm 180 [(0, _), (1, _), (2, _), (3, _), (8, _), (10, _), (11, _)] [some ⟨_, _, [[_, _, _, _, _, _, _, _, _]]⟩, some ⟨_, _, [[_, _, _, _, _, _, _, _, _]]⟩] rfl ⟨rfl, rfl, rfl, rfl, rfl, rfl, rfl, trivial⟩ rfl rfl ?_
      refine WL.nil (nb (nm ?_))
      exact ⟨⟨_, [], _, _, _, _, ⟨_, _, _⟩⟩, _, rfl, by first | exact Nat.le_of_ble_eq_true rfl | assumption | exact strs_ok (l := [⟨#[]⟩, ⟨#[97]⟩, ⟨#[97, 98]⟩, ⟨#[98]⟩, ⟨#[0]⟩, ⟨#[97, 97]⟩]) (i := around m 6) (n := 1000000) (by decide) (by omega) (by simp; omega), by omega, by omega⟩
    try simp only [td] at hc19
    refine sr ?_
    refine WL.v (Val.eql (tm rfl) Ev.const) rfl ?_
    refine asg rfl rfl ?_
    refine WL.norm 180 [(0, _), (1, _), (2, _), (3, _), (8, _), (10, _), (11, _), (32, _), (95, _)] [some ⟨_, _, [[_, _, _, _, _, _, _, _, _]]⟩, some ⟨_, _, [[_, _, _, _, _, _, _, _, _]]⟩] rfl ⟨rfl, rfl, rfl, rfl, rfl, rfl, rfl, rfl, rfl, trivial⟩ rfl rfl ?_
    refine wn ?_
    refine W.condP rfl (fun hc21 => ?_) (fun hc21 => ?_)
    · try simp only [td] at hc21
      refine W.region ?_
      refine mv rfl rfl ?_
      refine WL.callV ca8 (evc (tm rfl) (evc Ev.const evn)) (lo1 (lo1 lo0)) rfl (c_Around W0 N _ _ (by assumption) (by omega)) ?_
      rintro _ rfl
      have har := around_range (n := m) (most := 3) (by omega)
      refine WL.v (Val.fal (off := 2) Tryd.underlying35 rfl rfl zs3 (tm rfl)) rfl ?_
      refine WL.stp rfl (Stp.st (tm rfl) (tm rfl) zs3 rfl rfl rfl rfl rfl rfl rfl rfl) ?_
      refine WL.norm 180 [(0, _), (1, _), (2, _), (3, _), (8, _), (10, _), (11, _)] [some ⟨_, _, [[_, _, _, _, _, _, _, _, _]]⟩, some ⟨_, _, [[_, _, _, _, _, _, _, _, _]]⟩] rfl ⟨rfl, rfl, rfl, rfl, rfl, rfl, rfl, trivial⟩ rfl rfl ?_
      refine WL.nil (nb (nm ?_))
      exact ⟨⟨_, [], _, _, _, _, ⟨_, _, _⟩⟩, _, rfl, by first | exact Nat.le_of_ble_eq_true rfl | assumption | exact strs_ok (l := [⟨#[]⟩, ⟨#[97]⟩, ⟨#[97, 98]⟩, ⟨#[98]⟩, ⟨#[0]⟩, ⟨#[97, 97]⟩]) (i := around m 6) (n := 1000000) (by decide) (by omega) (by simp; omega), by omega, by omega⟩
    try simp only [td] at hc21
    refine sr ?_
    refine WL.v (Val.eql (tm rfl) Ev.const) rfl ?_
    refine asg rfl rfl ?_
    refine WL.norm 180 [(0, _), (1, _), (2, _), (3, _), (8, _), (10, _), (11, _), (100, _)] [some ⟨_, _, [[_, _, _, _, _, _, _, _, _]]⟩, some ⟨_, _, [[_, _, _, _, _, _, _, _, _]]⟩] rfl ⟨rfl, rfl, rfl, rfl, rfl, rfl, rfl, rfl, trivial⟩ rfl rfl ?_
    refine wn ?_
    refine W.condP rfl (fun hc23 => ?_) (fun hc23 => ?_)
    · try simp only [td] at hc23
      refine W.region ?_
      refine mv rfl rfl ?_
      refine WL.callV ca45 (evc (tm rfl) evn) (lo1 lo0) rfl (c_RxText W0 N _ (by assumption)) ?_
      rintro _ ⟨t_, rfl, ht_⟩
      refine WL.v (Val.fal (off := 5) Tryd.underlying35 rfl rfl zs9 (tm rfl)) rfl ?_
      refine WL.stp rfl (Stp.st (tm rfl) (tm rfl) zs9 rfl rfl rfl rfl rfl rfl rfl rfl) ?_
      refine WL.norm 180 [(0, _), (1, _), (2, _), (3, _), (8, _), (10, _), (11, _)] [some ⟨_, _, [[_, _, _, _, _, _, _, _, _]]⟩, some ⟨_, _, [[_, _, _, _, _, _, _, _, _]]⟩] rfl ⟨rfl, rfl, rfl, rfl, rfl, rfl, rfl, trivial⟩ rfl rfl ?_
      refine WL.nil (nb (nm ?_))
      exact ⟨⟨_, [], _, _, _, _, ⟨_, _, _⟩⟩, _, rfl, by first | exact Nat.le_of_ble_eq_true rfl | assumption | exact strs_ok (l := [⟨#[]⟩, ⟨#[97]⟩, ⟨#[97, 98]⟩, ⟨#[98]⟩, ⟨#[0]⟩, ⟨#[97, 97]⟩]) (i := around m 6) (n := 1000000) (by decide) (by omega) (by simp; omega), by omega, by omega⟩
    try simp only [td] at hc23
    refine W.norm 180 [(0, _), (1, _), (2, _), (3, _), (8, _), (10, _), (11, _)] [some ⟨_, _, [[_, _, _, _, _, _, _, _, _]]⟩, some ⟨_, _, [[_, _, _, _, _, _, _, _, _]]⟩] rfl ⟨rfl, rfl, rfl, rfl, rfl, rfl, rfl, trivial⟩ rfl rfl ?_
    refine W.skip (nb (nm ?_))
    exact ⟨⟨_, [], _, _, _, _, ⟨_, _, _⟩⟩, _, rfl, by first | exact Nat.le_of_ble_eq_true rfl | assumption | exact strs_ok (l := [⟨#[]⟩, ⟨#[97]⟩, ⟨#[97, 98]⟩, ⟨#[98]⟩, ⟨#[0]⟩, ⟨#[97, 97]⟩]) (i := around m 6) (n := 1000000) (by decide) (by omega) (by simp; omega), by omega, by omega⟩
  rintro S ⟨nd, x, rfl, htx, hx0, hx1⟩
  refine sr ?_
  refine WL.v (Val.fal (off := 0) Tryd.underlying35 rfl rfl zs3 (tm rfl)) rfl ?_
  refine WL.v (Val.loadLive Tryd.underlying3 rfl (tm rfl) rfl rfl rfl rfl rfl) rfl ?_
  refine WL.callV ca46 (evc (tm rfl) evn) (lo1 lo0) rfl (c_Kids W0 N _) ?_
  rintro _ rfl
  refine asg rfl rfl ?_
  refine WL.norm 180 [(0, _), (1, _), (2, _), (3, _), (8, _), (10, _), (11, _), (13, _)] [some ⟨_, _, [[_, _, _, _, _, _, _, _, _]]⟩, some ⟨_, _, [[_, _, _, _, _, _, _, _, _]]⟩] rfl ⟨rfl, rfl, rfl, rfl, rfl, rfl, rfl, rfl, trivial⟩ rfl rfl ?_
  refine wn ?_
  refine W.join (fun S => ∃ (x : Int), S = ⟨180, [(0, .f (.nodes g)), (1, .i n), (2, .i m), (3, .i k), (8, .ptr 0 0 9 0 0), (10, .ptr 1 0 9 0 0), (11, .i x), (13, .i (kidsOf nd.op))], [some ⟨0, 9, [[.i 0, .nil, .i 0, .i 0, .u 0, .s ByteArray.empty, .i 0, .i 0, .i 0]]⟩, some ⟨0, 9, [[.i nd.op, .nil, .i nd.n, .i nd.m, .u nd.u, .s nd.text, .i nd.sort.kind, .i nd.sort.n, .i nd.sort.index]]⟩], []⟩ ∧ (-1 ≤ x) ∧ (x < g.length)) ?_ ?_
  · refine sr ?_
    refine WL.v (Val.fal (off := 0) Tryd.underlying35 rfl rfl zs3 (tm rfl)) rfl ?_
    refine WL.v (Val.loadLive Tryd.underlying3 rfl (tm rfl) rfl rfl rfl rfl rfl) rfl ?_
    refine WL.v (Val.eql (tm rfl) Ev.const) rfl ?_
    refine WL.norm 180 [(0, _), (1, _), (2, _), (3, _), (8, _), (10, _), (11, _), (13, _), (110, _)] [some ⟨_, _, [[_, _, _, _, _, _, _, _, _]]⟩, some ⟨_, _, [[_, _, _, _, _, _, _, _, _]]⟩] rfl ⟨rfl, rfl, rfl, rfl, rfl, rfl, rfl, rfl, rfl, trivial⟩ rfl rfl ?_
    refine wn ?_
    refine W.condP rfl (fun hc26 => ?_) (fun hc26 => ?_)
    · try simp only [td] at hc26
      refine W.region ?_
      refine mv rfl rfl ?_
      refine WL.callV ca43 (evc Ev.const evn) (lo1 lo0) rfl (c_BV W0 N _) ?_
      rintro _ rfl
      refine mv rfl rfl ?_
      refine WL.v (Val.quo (tm rfl) Ev.const (by omega) rfl) rfl ?_
      refine WL.callV ca11 (evc (tm rfl) (evc (tm rfl) (evc (tm rfl) evn))) (lo1 (lo2 rfl (lo1 lo0))) rfl (c_Like W0 N _ (by assumption) _ _ (by first | assumption | exact I6.wrap _)) ?_
      rintro _ ⟨q_, rfl, hq0, hq1⟩
      refine asg rfl rfl ?_
      refine WL.norm 180 [(0, _), (1, _), (2, _), (3, _), (8, _), (10, _), (11, _), (13, _)] [some ⟨_, _, [[_, _, _, _, _, _, _, _, _]]⟩, some ⟨_, _, [[_, _, _, _, _, _, _, _, _]]⟩] rfl ⟨rfl, rfl, rfl, rfl, rfl, rfl, rfl, rfl, trivial⟩ rfl rfl ?_
      refine wn ?_
      exact ⟨_, rfl, by omega, by omega⟩
    try simp only [td] at hc26
    refine W.norm 180 [(0, _), (1, _), (2, _), (3, _), (8, _), (10, _), (11, _), (13, _)] [some ⟨_, _, [[_, _, _, _, _, _, _, _, _]]⟩, some ⟨_, _, [[_, _, _, _, _, _, _, _, _]]⟩] rfl ⟨rfl, rfl, rfl, rfl, rfl, rfl, rfl, rfl, trivial⟩ rfl rfl ?_
    refine W.skip (nm ?_)
    exact ⟨_, rfl, by omega, by omega⟩
  rintro S ⟨x, rfl, hx0', hx1'⟩
  refine W.join (fun S => ∃ (x : Int), S = ⟨180, [(0, .f (.nodes g)), (2, .i m), (3, .i k), (8, .ptr 0 0 9 0 0), (10, .ptr 1 0 9 0 0), (11, .i x), (13, .i (kidsOf nd.op))], [some ⟨0, 9, [[.i 0, .nil, .i 0, .i 0, .u 0, .s ByteArray.empty, .i 0, .i 0, .i 0]]⟩, some ⟨0, 9, [[.i nd.op, .nil, .i nd.n, .i nd.m, .u nd.u, .s nd.text, .i nd.sort.kind, .i nd.sort.n, .i nd.sort.index]]⟩], []⟩ ∧ (-1 ≤ x) ∧ (x < g.length)) ?_ ?_
  · refine sr ?_
    refine WL.v (Val.fal (off := 0) Tryd.underlying35 rfl rfl zs3 (tm rfl)) rfl ?_
    refine WL.v (Val.loadLive Tryd.underlying3 rfl (tm rfl) rfl rfl rfl rfl rfl) rfl ?_
    refine WL.v (Val.eql (tm rfl) Ev.const) rfl ?_
    refine WL.norm 180 [(0, _), (1, _), (2, _), (3, _), (8, _), (10, _), (11, _), (13, _), (118, _)] [some ⟨_, _, [[_, _, _, _, _, _, _, _, _]]⟩, some ⟨_, _, [[_, _, _, _, _, _, _, _, _]]⟩] rfl ⟨rfl, rfl, rfl, rfl, rfl, rfl, rfl, rfl, rfl, trivial⟩ rfl rfl ?_
    refine wn ?_
    refine W.condP rfl (fun hc28 => ?_) (fun hc28 => ?_)
    · try simp only [td] at hc28
      refine W.region ?_
      refine mv rfl rfl ?_
      refine WL.callV ca43 (evc Ev.const evn) (lo1 lo0) rfl (c_BV W0 N _) ?_
      rintro _ rfl
      refine mv rfl rfl ?_
      refine WL.v (Val.quo (tm rfl) Ev.const (by omega) rfl) rfl ?_
      refine WL.callV ca11 (evc (tm rfl) (evc (tm rfl) (evc (tm rfl) evn))) (lo1 (lo2 rfl (lo1 lo0))) rfl (c_Like W0 N _ (by assumption) _ _ (by first | assumption | exact I6.wrap _)) ?_
      rintro _ ⟨q_, rfl, hq0, hq1⟩
      refine asg rfl rfl ?_
      refine WL.norm 180 [(0, _), (2, _), (3, _), (8, _), (10, _), (11, _), (13, _)] [some ⟨_, _, [[_, _, _, _, _, _, _, _, _]]⟩, some ⟨_, _, [[_, _, _, _, _, _, _, _, _]]⟩] rfl ⟨rfl, rfl, rfl, rfl, rfl, rfl, rfl, trivial⟩ rfl rfl ?_
      refine wn ?_
      exact ⟨_, rfl, by omega, by omega⟩
    try simp only [td] at hc28
    refine W.norm 180 [(0, _), (2, _), (3, _), (8, _), (10, _), (11, _), (13, _)] [some ⟨_, _, [[_, _, _, _, _, _, _, _, _]]⟩, some ⟨_, _, [[_, _, _, _, _, _, _, _, _]]⟩] rfl ⟨rfl, rfl, rfl, rfl, rfl, rfl, rfl, trivial⟩ rfl rfl ?_
    refine W.skip (nm ?_)
    exact ⟨_, rfl, by omega, by omega⟩
  rintro S ⟨x, rfl, hx0'', hx1''⟩
  refine W.seq ?_
  refine sr ?_
  refine WL.v (Val.assign Ev.const) rfl ?_
  refine WL.norm 180 [(0, _), (2, _), (3, _), (8, _), (10, _), (11, _), (13, _), (14, _)] [some ⟨_, _, [[_, _, _, _, _, _, _, _, _]]⟩, some ⟨_, _, [[_, _, _, _, _, _, _, _, _]]⟩] rfl ⟨rfl, rfl, rfl, rfl, rfl, rfl, rfl, rfl, trivial⟩ rfl rfl ?_
  refine wn ?_
  refine W.reserve ?_
  refine W.norm 180 [(0, _), (2, _), (3, _), (8, _), (10, _), (11, _), (13, _), (14, _)] [some ⟨_, _, [[_, _, _, _, _, _, _, _, _]]⟩, some ⟨_, _, [[_, _, _, _, _, _, _, _, _]]⟩, _] rfl ⟨rfl, rfl, rfl, rfl, rfl, rfl, rfl, rfl, trivial⟩ rfl rfl ?_
  refine W.block (W.loop (fun nn S => ∃ (i : Int) (l : List Int) (v : AV) (o : Option Row), S = ⟨180, [(0, .f (.nodes g)), (2, .i m), (3, .i k), (8, .ptr 0 0 9 0 0), (10, .ptr 1 0 9 0 0), (11, .i x), (13, .i (kidsOf nd.op)), (14, .i i)], [some ⟨0, 9, [[.i 0, .nil, .i 0, .i 0, .u 0, .s ByteArray.empty, .i 0, .i 0, .i 0]]⟩, some ⟨0, 9, [[.i nd.op, v, .i nd.n, .i nd.m, .u nd.u, .s nd.text, .i nd.sort.kind, .i nd.sort.n, .i nd.sort.index]]⟩, o], []⟩ ∧ nn = ((3 - i).toNat) ∧ (0 ≤ i) ∧ (i ≤ 3 ∨ i ≤ 0) ∧ (Acc 2 1 (fz (l.map encI)) v o) ∧ ((l.length : Int) = i) ∧ (∀ y, y ∈ l → 0 ≤ y ∧ y < (g.length : Int))) ⟨0, [], _, _, rfl, rfl, by omega, by omega, Acc.zero, by rfl, by simp⟩ ?_)
  rintro nn S ⟨i, l, v, o, rfl, rfl, hi0, hi3, ha, hl, hr⟩
  refine W.seq ?_
  refine sr ?_
  refine mv rfl rfl ?_
  refine mv rfl rfl ?_
  refine WL.v (Val.lss (tm rfl) (tm rfl)) rfl ?_
  refine WL.norm 180 [(0, _), (2, _), (3, _), (8, _), (10, _), (11, _), (13, _), (14, _), (126, _)] [some ⟨_, _, [[_, _, _, _, _, _, _, _, _]]⟩, some ⟨_, _, [[_, _, _, _, _, _, _, _, _]]⟩, _] rfl ⟨rfl, rfl, rfl, rfl, rfl, rfl, rfl, rfl, rfl, trivial⟩ rfl rfl ?_
  refine wn ?_
  refine W.condP rfl (fun hc31 => ?_) (fun hc31 => ?_)
  · try simp only [td] at hc31
    refine W.skip (nm ?_)
    refine W.seq ?_
    refine W.block ?_
    refine W.seq ?_
    have hko := kidsOf_le nd.op
    refine W.region ?_
    refine mv rfl rfl ?_
    refine asg rfl rfl ?_
    refine WL.norm 180 [(0, _), (2, _), (3, _), (8, _), (10, _), (11, _), (13, _), (14, _), (15, _)] [some ⟨_, _, [[_, _, _, _, _, _, _, _, _]]⟩, some ⟨_, _, [[_, _, _, _, _, _, _, _, _]]⟩, _] rfl ⟨rfl, rfl, rfl, rfl, rfl, rfl, rfl, rfl, rfl, trivial⟩ rfl rfl ?_
    refine wn ?_
    refine W.seq ?_
    refine sr ?_
    refine mv rfl rfl ?_
    refine WL.v (Val.gtr (tm rfl) Ev.const) rfl ?_
    refine mv rfl rfl ?_
    refine WL.g (Grd.t rfl rfl rfl) (fun hG => Val.move (tm rfl)) rfl ?_
    refine WL.g (Grd.t rfl rfl rfl) (fun hG => Val.geq (Ev.opt rfl hG) Ev.const) rfl ?_
    refine WL.v (Val.and (tm rfl) (fun hb => Ev.opt rfl hb)) rfl ?_
    refine WL.norm 180 [(0, _), (2, _), (3, _), (8, _), (10, _), (11, _), (13, _), (14, _), (15, _), (135, _)] [some ⟨_, _, [[_, _, _, _, _, _, _, _, _]]⟩, some ⟨_, _, [[_, _, _, _, _, _, _, _, _]]⟩, _] rfl ⟨rfl, rfl, rfl, rfl, rfl, rfl, rfl, rfl, rfl, rfl, trivial⟩ rfl rfl ?_
    refine wn ?_
    refine W.condP rfl (fun hc34 => ?_) (fun hc34 => ?_)
    · try simp only [td] at hc34
      refine sr ?_
      refine mv rfl rfl ?_
      refine WL.v (Val.fal (off := 0) Tryd.underlying35 rfl rfl zs3 (tm rfl)) rfl ?_
      refine WL.v (Val.loadLive Tryd.underlying3 rfl (tm rfl) rfl rfl rfl rfl rfl) rfl ?_
      refine mv rfl rfl ?_
      refine mv rfl rfl ?_
      refine mv rfl rfl ?_
      refine WL.callV ca47 (evc (tm rfl) (evc (tm rfl) (evc (tm rfl) (evc (tm rfl) (evc (tm rfl) evn))))) (lo1 (lo1 (lo1 (lo1 (lo1 lo0))))) rfl (c_wanted W0 N g hg _ _ _ _ (by omega) (by omega) (by assumption)) ?_
      rintro _ ⟨s_, rfl⟩
      refine WL.stp rfl (Stp.alloc zz33 rfl rfl) ?_
      refine WL.stp rfl (Stp.st (tm rfl) (tm rfl) zs33 rfl rfl rfl rfl rfl rfl rfl rfl) ?_
      refine WL.norm 180 [(0, _), (2, _), (3, _), (8, _), (10, _), (11, _), (13, _), (14, _), (16, _)] [some ⟨_, _, [[_, _, _, _, _, _, _, _, _]]⟩, some ⟨_, _, [[_, _, _, _, _, _, _, _, _]]⟩, _, some ⟨_, _, [[_, _, _]]⟩] rfl ⟨rfl, rfl, rfl, rfl, rfl, rfl, rfl, rfl, rfl, trivial⟩ rfl rfl ?_
      refine wn ?_
      refine W.seq ?_
      refine sr ?_
      refine WL.v (Val.fal (off := 0) Tryd.underlying35 rfl rfl zs3 (tm rfl)) rfl ?_
      refine WL.v (Val.loadLive Tryd.underlying3 rfl (tm rfl) rfl rfl rfl rfl rfl) rfl ?_
      refine WL.v (Val.eql (tm rfl) Ev.const) rfl ?_
      refine mv rfl rfl ?_
      refine WL.g (Grd.t rfl rfl rfl) (fun hG => Val.move (tm rfl)) rfl ?_
      refine WL.g (Grd.t rfl rfl rfl) (fun hG => Val.eql (Ev.opt rfl hG) Ev.const) rfl ?_
      refine WL.v (Val.and (tm rfl) (fun hb => Ev.opt rfl hb)) rfl ?_
      refine WL.norm 180 [(0, _), (2, _), (3, _), (8, _), (10, _), (11, _), (13, _), (14, _), (16, _), (149, _)] [some ⟨_, _, [[_, _, _, _, _, _, _, _, _]]⟩, some ⟨_, _, [[_, _, _, _, _, _, _, _, _]]⟩, _, some ⟨_, _, [[_, _, _]]⟩] rfl ⟨rfl, rfl, rfl, rfl, rfl, rfl, rfl, rfl, rfl, rfl, trivial⟩ rfl rfl ?_
      refine wn ?_
      refine W.condP rfl (fun hc36 => ?_) (fun hc36 => ?_)
      · try simp only [td] at hc36
        obtain ⟨gen0, rfl, rfl⟩ := Acc.some ha (by omega)
        have hin1 := hr _ (gA_mem (l := l) (i := 1) (by omega) (by omega))
        refine W.region ?_
        refine mv rfl rfl ?_
        refine WL.v (Val.fal (off := 1) Tryd.underlying35 rfl rfl zs22 (tm rfl)) rfl ?_
        refine WL.v (Val.loadLive Tryd.underlying22 rfl (tm rfl) rfl rfl rfl rfl rfl) rfl ?_
        refine WL.v (Val.indexAddrLive Tryd.underlying22 zs3 (tm rfl) Ev.const (by omega) (by omega)) rfl ?_
        refine WL.v (Val.loadLive Tryd.underlying3 rfl (tm rfl) rfl rfl rfl (fz_at (by omega) (by omega)) rfl) rfl ?_
        refine WL.v (Val.ix (enc := Nd.cells) Tryd.underlying23 zs35 (tm rfl) (tm rfl) (by omega) (gA_at (by omega) (by omega))) rfl ?_
        refine WL.v (Val.fa (off := 6) Tryd.underlying35 rfl rfl zs33 (tm rfl)) rfl ?_
        refine WL.v (Val.loadAgg Tryd.underlying33 rfl zs33 (tm rfl) (bl rfl)) rfl ?_
        refine WL.stp rfl (Stp.st (tm rfl) (tm rfl) zs33 rfl rfl rfl rfl rfl rfl rfl rfl) ?_
        refine WL.norm 180 [(0, _), (2, _), (3, _), (8, _), (10, _), (11, _), (13, _), (14, _), (16, _)] [some ⟨_, _, [[_, _, _, _, _, _, _, _, _]]⟩, some ⟨_, _, [[_, _, _, _, _, _, _, _, _]]⟩, some ⟨_, _, _⟩, some ⟨_, _, [[_, _, _]]⟩] rfl ⟨rfl, rfl, rfl, rfl, rfl, rfl, rfl, rfl, rfl, trivial⟩ rfl rfl ?_
        refine wn ?_
        refine W.drawN (k := 11) (D := fun r => ∃ q, r = .i q ∧ -1 ≤ q ∧ q < g.length) [0, 1, 2, 3, 4, 5, 6, 7, 8, 9, 10] [12] (fun k => ([([], []), ([3], []), ([], []), ([], []), ([], []), ([], []), ([], []), ([], []), ([], []), ([], []), ([], []), ([], []), ([], [])] : List (List Nat × List Nat)).getD k ([], [])) rfl rfl (by kernel_rfl) (by decide) (by decide) rfl rfl (bl rfl) ?_
        refine LexI.val rfl rfl rfl rfl (fun h' ha => Val.move (tm rfl)) ?_
        refine LexI.val rfl rfl rfl rfl (fun h' ha => Val.loadLiveAgg Tryd.underlying33 rfl zs33 (tm rfl) ((ha.at_ 3 (by decide)).trans rfl) rfl rfl rfl (bl rfl)) ?_
        refine LexI.val rfl rfl rfl rfl (fun h' ha => Val.move (tm rfl)) ?_
        refine LexI.val rfl rfl rfl rfl (fun h' ha => Val.move (tm rfl)) ?_
        refine LexI.val rfl rfl rfl rfl (fun h' ha => Val.mul Ev.const (tm rfl) (IntWalk.i64_in _ (by omega))) ?_
        refine LexI.val rfl rfl rfl rfl (fun h' ha => Val.add Ev.const (tm rfl) (IntWalk.i64_in _ (by omega))) ?_
        refine LexI.val rfl rfl rfl rfl (fun h' ha => Val.quo (tm rfl) (tm rfl) (by omega) rfl) ?_
        refine LexI.val rfl rfl rfl rfl (fun h' ha => Val.move (tm rfl)) ?_
        refine LexI.val rfl rfl rfl rfl (fun h' ha => Val.move (tm rfl)) ?_
        refine LexI.val rfl rfl rfl rfl (fun h' ha => Val.mul (tm rfl) (tm rfl) rfl) ?_
        refine LexI.val rfl rfl rfl rfl (fun h' ha => Val.add (tm rfl) (tm rfl) rfl) ?_
        refine LexI.nil ⟨AtD.call ca11 (fun h' ha => (evc (tm rfl) (evc (tm rfl) (evc (tm rfl) evn)))) (lo1 (lo2 rfl (lo1 lo0))) rfl (c_Like W0 N _ (by assumption) _ _ (by first | assumption | exact I6.wrap _)), ?_⟩
        rintro _ ⟨q_, rfl, hq0, hq1⟩
        refine LexI.val rfl rfl rfl rfl (fun h' ha => Val.assign (tm rfl)) ?_
        refine LexI.nil (nm ?_)
        refine W.norm 180 [(0, _), (2, _), (3, _), (8, _), (10, _), (11, _), (13, _), (14, _), (15, _)] [some ⟨_, _, [[_, _, _, _, _, _, _, _, _]]⟩, some ⟨_, _, [[_, _, _, _, _, _, _, _, _]]⟩, some ⟨_, _, _⟩, some ⟨_, _, [[_, _, _]]⟩] rfl ⟨rfl, rfl, rfl, rfl, rfl, rfl, rfl, rfl, rfl, trivial⟩ rfl rfl ?_
        refine W.seq ?_
        refine sr ?_
        refine mv rfl rfl ?_
        refine WL.v (Val.lss (tm rfl) Ev.const) rfl ?_
        refine WL.norm 180 [(0, _), (2, _), (3, _), (8, _), (10, _), (11, _), (13, _), (14, _), (15, _), (171, _)] [some ⟨_, _, [[_, _, _, _, _, _, _, _, _]]⟩, some ⟨_, _, [[_, _, _, _, _, _, _, _, _]]⟩, some ⟨_, _, _⟩, some ⟨_, _, [[_, _, _]]⟩] rfl ⟨rfl, rfl, rfl, rfl, rfl, rfl, rfl, rfl, rfl, rfl, trivial⟩ rfl rfl ?_
        refine wn ?_
        refine W.condP rfl (fun hc39 => ?_) (fun hc39 => ?_)
        · try simp only [td] at hc39
          refine sr ?_
          refine WL.v (Val.le (Val.build (vs := [(0, _)]) Tryd.underlying35 zz35 rfl rfl pl35 rfl ⟨Ev.const, rfl, rfl, rfl, trivial⟩) (Le.agg (ys := [_, .f (.lst 1 []), _, _, _, _, _, _, _]) (LeL.cons (Le.refl _) (LeL.cons Le.nil (LeL.cons (Le.refl _) (LeL.cons (Le.refl _) (LeL.cons (Le.refl _) (LeL.cons (Le.refl _) (LeL.cons (Le.refl _) (LeL.cons (Le.refl _) (LeL.cons (Le.refl _) LeL.nil))))))))))) rfl ?_
          refine WL.stp rfl (Stp.st (tm rfl) (tm rfl) zs35 rfl rfl rfl rfl rfl rfl rfl rfl) ?_
          refine WL.norm 180 [(8, _)] [some ⟨_, _, [[_, _, _, _, _, _, _, _, _]]⟩, some ⟨_, _, [[_, _, _, _, _, _, _, _, _]]⟩, some ⟨_, _, _⟩, some ⟨_, _, [[_, _, _]]⟩] rfl ⟨rfl, trivial⟩ rfl rfl ?_
          refine wn ?_
          refine W.ret (rt1 (rt2 (rt1 (rt1 (rt2 (rt1 ?_))))))
          exact Ret.of (.inr rfl) rfl (resCell rfl Tryd.underlying35 rfl zs35 rfl rfl rfl rfl rfl rfl) (Fewer.nil _) (.inr trivial) (fun id h => absurd h (Nat.not_lt_zero _)) (.same rfl) ⟨rfl, ⟨_, [], _, _, _, _, ⟨_, _, _⟩⟩, rfl, Nat.le_of_ble_eq_true rfl⟩
        try simp only [td] at hc39
        refine W.skip (nm ?_)
        refine W.region ?_
        refine WL.v (Val.fal (off := 1) Tryd.underlying35 rfl rfl zs22 (tm rfl)) rfl ?_
        refine WL.v (Val.loadLive Tryd.underlying22 rfl (tm rfl) rfl rfl rfl rfl rfl) rfl ?_
        refine mv rfl rfl ?_
        refine WL.stp rfl (Stp.buildFrozen (xs := [_]) (fs := ([_] : List Int).map encI) Tryd.underlying22 zs3 zz3 rfl rfl (evc (tm rfl) evn) fitL (bl rfl) rfl rfl) ?_
        refine WL.stp rfl (Stp.appendE (enc := encI) (l := _) ap22_22 (tm rfl) rfl rfl (ArgE.lst (enc := encI) (tm rfl) (by intro x; first | rfl | exact rxLen x)) (by simp only [List.length_append, List.length_map, List.length_cons, List.length_nil]; omega) rfl) ?_
        refine WL.v (Val.fal (off := 1) Tryd.underlying35 rfl rfl zs22 (tm rfl)) rfl ?_
        refine WL.stp rfl (Stp.st (tm rfl) (tm rfl) zs22 rfl rfl rfl rfl rfl rfl rfl rfl) ?_
        refine WL.cut (env := [(0, _), (2, _), (3, _), (8, _), (10, _), (11, _), (13, _), (14, _)]) (h' := [some ⟨_, _, [[_, _, _, _, _, _, _, _, _]]⟩, some ⟨_, _, [[_, _, _, _, _, _, _, _, _]]⟩, some ⟨_, _, _⟩]) (Fewer.pre _ rfl) (.inr (HLo.box (lo1 (lo1 (lo1 (lo1 (lo1 (lo1 (lo1 (lo1 (lo1 lo0))))))))) (HLo.box (lo1 (lo4 rfl (lo1 (lo1 (lo1 (lo1 (lo1 (lo1 (lo1 lo0))))))))) (HLo.fz HLo.nil)))) (fun id h => absurd h (Nat.not_lt_zero _)) ⟨⟨_, rfl, (.same rfl)⟩, ⟨_, rfl, (.same rfl)⟩, ⟨_, rfl, (.same rfl)⟩, ⟨_, rfl, (.same rfl)⟩, ⟨_, rfl, (.same rfl)⟩, ⟨_, rfl, (.same rfl)⟩, ⟨_, rfl, (.same rfl)⟩, ⟨_, rfl, (.same rfl)⟩, trivial⟩ ?_
        refine WL.nil (nb (nm ?_))
        refine W.region ?_
        refine mv rfl rfl ?_
        refine WL.v (Val.add (tm rfl) Ev.const (IntWalk.i64_in _ (by omega))) rfl ?_
        refine asg rfl rfl ?_
        refine WL.norm 180 [(0, _), (2, _), (3, _), (8, _), (10, _), (11, _), (13, _), (14, _)] [some ⟨_, _, [[_, _, _, _, _, _, _, _, _]]⟩, some ⟨_, _, [[_, _, _, _, _, _, _, _, _]]⟩, some ⟨_, _, _⟩] rfl ⟨rfl, rfl, rfl, rfl, rfl, rfl, rfl, rfl, trivial⟩ rfl rfl ?_
        refine wn ?_
        exact ⟨_, by omega, i + 1, _, _, _, rfl, rfl, by omega, by omega, Acc.row (by simp [fz]), by simp; omega, like_in hr (by omega)⟩
      try simp only [td] at hc36
      refine W.skip (nm ?_)
      refine W.drawN (k := 11) (D := fun r => ∃ q, r = .i q ∧ -1 ≤ q ∧ q < g.length) [0, 1, 2, 3, 4, 5, 6, 7, 8, 9, 10] [12] (fun k => ([([], []), ([3], []), ([], []), ([], []), ([], []), ([], []), ([], []), ([], []), ([], []), ([], []), ([], []), ([], []), ([], [])] : List (List Nat × List Nat)).getD k ([], [])) rfl rfl (by kernel_rfl) (by decide) (by decide) rfl rfl (bl rfl) ?_
      refine LexI.val rfl rfl rfl rfl (fun h' ha => Val.move (tm rfl)) ?_
      refine LexI.val rfl rfl rfl rfl (fun h' ha => Val.loadLiveAgg Tryd.underlying33 rfl zs33 (tm rfl) ((ha.at_ 3 (by decide)).trans rfl) rfl rfl rfl (bl rfl)) ?_
      refine LexI.val rfl rfl rfl rfl (fun h' ha => Val.move (tm rfl)) ?_
      refine LexI.val rfl rfl rfl rfl (fun h' ha => Val.move (tm rfl)) ?_
      refine LexI.val rfl rfl rfl rfl (fun h' ha => Val.mul Ev.const (tm rfl) (IntWalk.i64_in _ (by omega))) ?_
      refine LexI.val rfl rfl rfl rfl (fun h' ha => Val.add Ev.const (tm rfl) (IntWalk.i64_in _ (by omega))) ?_
      refine LexI.val rfl rfl rfl rfl (fun h' ha => Val.quo (tm rfl) (tm rfl) (by omega) rfl) ?_
      refine LexI.val rfl rfl rfl rfl (fun h' ha => Val.move (tm rfl)) ?_
      refine LexI.val rfl rfl rfl rfl (fun h' ha => Val.move (tm rfl)) ?_
      refine LexI.val rfl rfl rfl rfl (fun h' ha => Val.mul (tm rfl) (tm rfl) rfl) ?_
      refine LexI.val rfl rfl rfl rfl (fun h' ha => Val.add (tm rfl) (tm rfl) rfl) ?_
      refine LexI.nil ⟨AtD.call ca11 (fun h' ha => (evc (tm rfl) (evc (tm rfl) (evc (tm rfl) evn)))) (lo1 (lo2 rfl (lo1 lo0))) rfl (c_Like W0 N _ (by assumption) _ _ (by first | assumption | exact I6.wrap _)), ?_⟩
      rintro _ ⟨q_, rfl, hq0, hq1⟩
      refine LexI.val rfl rfl rfl rfl (fun h' ha => Val.assign (tm rfl)) ?_
      refine LexI.nil (nm ?_)
      refine W.norm 180 [(0, _), (2, _), (3, _), (8, _), (10, _), (11, _), (13, _), (14, _), (15, _)] [some ⟨_, _, [[_, _, _, _, _, _, _, _, _]]⟩, some ⟨_, _, [[_, _, _, _, _, _, _, _, _]]⟩, _, some ⟨_, _, [[_, _, _]]⟩] rfl ⟨rfl, rfl, rfl, rfl, rfl, rfl, rfl, rfl, rfl, trivial⟩ rfl rfl ?_
      refine W.seq ?_
      refine sr ?_
      refine mv rfl rfl ?_
      refine WL.v (Val.lss (tm rfl) Ev.const) rfl ?_
      refine WL.norm 180 [(0, _), (2, _), (3, _), (8, _), (10, _), (11, _), (13, _), (14, _), (15, _), (171, _)] [some ⟨_, _, [[_, _, _, _, _, _, _, _, _]]⟩, some ⟨_, _, [[_, _, _, _, _, _, _, _, _]]⟩, _, some ⟨_, _, [[_, _, _]]⟩] rfl ⟨rfl, rfl, rfl, rfl, rfl, rfl, rfl, rfl, rfl, rfl, trivial⟩ rfl rfl ?_
      refine wn ?_
      refine W.condP rfl (fun hc39 => ?_) (fun hc39 => ?_)
      · try simp only [td] at hc39
        refine sr ?_
        refine WL.v (Val.le (Val.build (vs := [(0, _)]) Tryd.underlying35 zz35 rfl rfl pl35 rfl ⟨Ev.const, rfl, rfl, rfl, trivial⟩) (Le.agg (ys := [_, .f (.lst 1 []), _, _, _, _, _, _, _]) (LeL.cons (Le.refl _) (LeL.cons Le.nil (LeL.cons (Le.refl _) (LeL.cons (Le.refl _) (LeL.cons (Le.refl _) (LeL.cons (Le.refl _) (LeL.cons (Le.refl _) (LeL.cons (Le.refl _) (LeL.cons (Le.refl _) LeL.nil))))))))))) rfl ?_
        refine WL.stp rfl (Stp.st (tm rfl) (tm rfl) zs35 rfl rfl rfl rfl rfl rfl rfl rfl) ?_
        refine WL.norm 180 [(8, _)] [some ⟨_, _, [[_, _, _, _, _, _, _, _, _]]⟩, some ⟨_, _, [[_, _, _, _, _, _, _, _, _]]⟩, _, some ⟨_, _, [[_, _, _]]⟩] rfl ⟨rfl, trivial⟩ rfl rfl ?_
        refine wn ?_
        refine W.ret (rt1 (rt2 (rt1 (rt1 (rt2 (rt1 ?_))))))
        exact Ret.of (.inr rfl) rfl (resCell rfl Tryd.underlying35 rfl zs35 rfl rfl rfl rfl rfl rfl) (Fewer.nil _) (.inr trivial) (fun id h => absurd h (Nat.not_lt_zero _)) (.same rfl) ⟨rfl, ⟨_, [], _, _, _, _, ⟨_, _, _⟩⟩, rfl, Nat.le_of_ble_eq_true rfl⟩
      try simp only [td] at hc39
      refine W.skip (nm ?_)
      refine W.region ?_
      refine WL.v (Val.fal (off := 1) Tryd.underlying35 rfl rfl zs22 (tm rfl)) rfl ?_
      refine WL.v (Val.loadLive Tryd.underlying22 rfl (tm rfl) rfl rfl rfl rfl rfl) rfl ?_
      refine mv rfl rfl ?_
      refine WL.stp rfl (Stp.buildFrozen (xs := [_]) (fs := ([_] : List Int).map encI) Tryd.underlying22 zs3 zz3 rfl rfl (evc (tm rfl) evn) fitL (bl rfl) rfl rfl) ?_
      refine WL.appE (enc := encI) ap22_22 (tm rfl) rfl ha (ArgE.lst (enc := encI) (tm rfl) (by intro x; first | rfl | exact rxLen x)) (by simp only [List.length_append, List.length_map, List.length_cons, List.length_nil]; omega) rfl ?_
      intro v' o' ha'
      obtain ⟨gen', rfl, rfl⟩ := Acc.some ha' (by simp)
      refine WL.v (Val.fal (off := 1) Tryd.underlying35 rfl rfl zs22 (tm rfl)) rfl ?_
      refine WL.stp rfl (Stp.st (tm rfl) (tm rfl) zs22 rfl rfl rfl rfl rfl rfl rfl rfl) ?_
      refine WL.cut (env := [(0, _), (2, _), (3, _), (8, _), (10, _), (11, _), (13, _), (14, _)]) (h' := [some ⟨_, _, [[_, _, _, _, _, _, _, _, _]]⟩, some ⟨_, _, [[_, _, _, _, _, _, _, _, _]]⟩, _]) (Fewer.pre _ rfl) (.inr (HLo.box (lo1 (lo1 (lo1 (lo1 (lo1 (lo1 (lo1 (lo1 (lo1 lo0))))))))) (HLo.box (lo1 (lo5 (lo_acc ha' rfl) (lo1 (lo1 (lo1 (lo1 (lo1 (lo1 (lo1 lo0))))))))) (HLo.o (oLo_acc (by assumption)) HLo.nil)))) (fun id h => absurd h (Nat.not_lt_zero _)) ⟨⟨_, rfl, (.same rfl)⟩, ⟨_, rfl, (.same rfl)⟩, ⟨_, rfl, (.same rfl)⟩, ⟨_, rfl, (.same rfl)⟩, ⟨_, rfl, (.same rfl)⟩, ⟨_, rfl, (.same rfl)⟩, ⟨_, rfl, (.same rfl)⟩, ⟨_, rfl, (.same rfl)⟩, trivial⟩ ?_
      refine WL.nil (nb (nm ?_))
      refine W.region ?_
      refine mv rfl rfl ?_
      refine WL.v (Val.add (tm rfl) Ev.const (IntWalk.i64_in _ (by omega))) rfl ?_
      refine asg rfl rfl ?_
      refine WL.norm 180 [(0, _), (2, _), (3, _), (8, _), (10, _), (11, _), (13, _), (14, _)] [some ⟨_, _, [[_, _, _, _, _, _, _, _, _]]⟩, some ⟨_, _, [[_, _, _, _, _, _, _, _, _]]⟩, _] rfl ⟨rfl, rfl, rfl, rfl, rfl, rfl, rfl, rfl, trivial⟩ rfl rfl ?_
      refine wn ?_
      exact ⟨_, by omega, i + 1, _, _, _, rfl, rfl, by omega, by omega, Acc.row (by simp [fz]), by simp; omega, like_in hr (by omega)⟩
    try simp only [td] at hc34
    refine W.skip (nm ?_)
    refine W.seq ?_
    refine sr ?_
    refine mv rfl rfl ?_
    refine WL.v (Val.lss (tm rfl) Ev.const) rfl ?_
    refine WL.norm 180 [(0, _), (2, _), (3, _), (8, _), (10, _), (11, _), (13, _), (14, _), (15, _), (171, _)] [some ⟨_, _, [[_, _, _, _, _, _, _, _, _]]⟩, some ⟨_, _, [[_, _, _, _, _, _, _, _, _]]⟩, _] rfl ⟨rfl, rfl, rfl, rfl, rfl, rfl, rfl, rfl, rfl, rfl, trivial⟩ rfl rfl ?_
    refine wn ?_
    refine W.condP rfl (fun hc39 => ?_) (fun hc39 => ?_)
    · try simp only [td] at hc39
      refine sr ?_
      refine WL.v (Val.le (Val.build (vs := [(0, _)]) Tryd.underlying35 zz35 rfl rfl pl35 rfl ⟨Ev.const, rfl, rfl, rfl, trivial⟩) (Le.agg (ys := [_, .f (.lst 1 []), _, _, _, _, _, _, _]) (LeL.cons (Le.refl _) (LeL.cons Le.nil (LeL.cons (Le.refl _) (LeL.cons (Le.refl _) (LeL.cons (Le.refl _) (LeL.cons (Le.refl _) (LeL.cons (Le.refl _) (LeL.cons (Le.refl _) (LeL.cons (Le.refl _) LeL.nil))))))))))) rfl ?_
      refine WL.stp rfl (Stp.st (tm rfl) (tm rfl) zs35 rfl rfl rfl rfl rfl rfl rfl rfl) ?_
      refine WL.norm 180 [(8, _)] [some ⟨_, _, [[_, _, _, _, _, _, _, _, _]]⟩, some ⟨_, _, [[_, _, _, _, _, _, _, _, _]]⟩, _] rfl ⟨rfl, trivial⟩ rfl rfl ?_
      refine wn ?_
      refine W.ret (rt1 (rt2 (rt1 (rt1 (rt2 (rt1 ?_))))))
      exact Ret.of (.inr rfl) rfl (resCell rfl Tryd.underlying35 rfl zs35 rfl rfl rfl rfl rfl rfl) (Fewer.nil _) (.inr trivial) (fun id h => absurd h (Nat.not_lt_zero _)) (.same rfl) ⟨rfl, ⟨_, [], _, _, _, _, ⟨_, _, _⟩⟩, rfl, Nat.le_of_ble_eq_true rfl⟩
    try simp only [td] at hc39
    refine W.skip (nm ?_)
    refine W.region ?_
    refine WL.v (Val.fal (off := 1) Tryd.underlying35 rfl rfl zs22 (tm rfl)) rfl ?_
    refine WL.v (Val.loadLive Tryd.underlying22 rfl (tm rfl) rfl rfl rfl rfl rfl) rfl ?_
    refine mv rfl rfl ?_
    refine WL.stp rfl (Stp.buildFrozen (xs := [_]) (fs := ([_] : List Int).map encI) Tryd.underlying22 zs3 zz3 rfl rfl (evc (tm rfl) evn) fitL (bl rfl) rfl rfl) ?_
    refine WL.appE (enc := encI) ap22_22 (tm rfl) rfl ha (ArgE.lst (enc := encI) (tm rfl) (by intro x; first | rfl | exact rxLen x)) (by simp only [List.length_append, List.length_map, List.length_cons, List.length_nil]; omega) rfl ?_
    intro v' o' ha'
    obtain ⟨gen', rfl, rfl⟩ := Acc.some ha' (by simp)
    refine WL.v (Val.fal (off := 1) Tryd.underlying35 rfl rfl zs22 (tm rfl)) rfl ?_
    refine WL.stp rfl (Stp.st (tm rfl) (tm rfl) zs22 rfl rfl rfl rfl rfl rfl rfl rfl) ?_
    refine WL.cut (env := [(0, _), (2, _), (3, _), (8, _), (10, _), (11, _), (13, _), (14, _)]) (h' := [some ⟨_, _, [[_, _, _, _, _, _, _, _, _]]⟩, some ⟨_, _, [[_, _, _, _, _, _, _, _, _]]⟩, _]) (Fewer.pre _ rfl) (.inr (HLo.box (lo1 (lo1 (lo1 (lo1 (lo1 (lo1 (lo1 (lo1 (lo1 lo0))))))))) (HLo.box (lo1 (lo5 (lo_acc ha' rfl) (lo1 (lo1 (lo1 (lo1 (lo1 (lo1 (lo1 lo0))))))))) (HLo.o (oLo_acc (by assumption)) HLo.nil)))) (fun id h => absurd h (Nat.not_lt_zero _)) ⟨⟨_, rfl, (.same rfl)⟩, ⟨_, rfl, (.same rfl)⟩, ⟨_, rfl, (.same rfl)⟩, ⟨_, rfl, (.same rfl)⟩, ⟨_, rfl, (.same rfl)⟩, ⟨_, rfl, (.same rfl)⟩, ⟨_, rfl, (.same rfl)⟩, ⟨_, rfl, (.same rfl)⟩, trivial⟩ ?_
    refine WL.nil (nb (nm ?_))
    refine W.region ?_
    refine mv rfl rfl ?_
    refine WL.v (Val.add (tm rfl) Ev.const (IntWalk.i64_in _ (by omega))) rfl ?_
    refine asg rfl rfl ?_
    refine WL.norm 180 [(0, _), (2, _), (3, _), (8, _), (10, _), (11, _), (13, _), (14, _)] [some ⟨_, _, [[_, _, _, _, _, _, _, _, _]]⟩, some ⟨_, _, [[_, _, _, _, _, _, _, _, _]]⟩, _] rfl ⟨rfl, rfl, rfl, rfl, rfl, rfl, rfl, rfl, trivial⟩ rfl rfl ?_
    refine wn ?_
    exact ⟨_, by omega, i + 1, _, _, _, rfl, rfl, by omega, by omega, Acc.row (by simp [fz]), by simp; omega, like_in hr (by omega)⟩
  try simp only [td] at hc31
  refine W.exit (ex1 (ex1 (ex2 (nm ?_))))
  refine sr ?_
  refine WL.v (Val.loadLiveAgg Tryd.underlying35 rfl zs35 (tm rfl) rfl rfl rfl rfl (bl rfl)) rfl ?_
  refine WL.stp rfl (Stp.st (tm rfl) (tm rfl) zs35 rfl (by rcases ha with ⟨_, rfl, _⟩ | ⟨_, rfl, _⟩ <;> rfl) rfl rfl rfl rfl rfl rfl) ?_
  refine WL.norm 180 [(8, _)] [some ⟨_, _, [[_, _, _, _, _, _, _, _, _]]⟩, some ⟨_, _, [[_, _, _, _, _, _, _, _, _]]⟩, _] rfl ⟨rfl, trivial⟩ rfl rfl ?_
  refine wn ?_
  refine W.ret ?_
  exact Ret.of (.inr rfl) rfl (resCell rfl Tryd.underlying35 rfl zs35 rfl rfl rfl rfl rfl rfl) (Fewer.nil _) (.inr trivial) (fun id h => absurd h (Nat.not_lt_zero _)) (.agg (.same rfl) (.agg (Acc.thaw ha rfl rfl (encL (by intro x; first | rfl | exact rxLen x))) (.agg (.same rfl) (.agg (.same rfl) (.agg (.same rfl) (.agg (.same rfl) (.agg (.same rfl) (.agg (.same rfl) (.agg (.same rfl) .agg0))))))))) ⟨rfl, ⟨_, l, _, _, _, _, ⟨_, _, _⟩⟩, rfl, htx⟩
-- enthymemeref07.Made
set_option maxHeartbeats 1000000 in
theorem c_Made (W0 : World) (N : Nat) (l : List Int) (kind most : Int) (hl : l.length ≤ 1152921504606846975) (hi : ∀ x, x ∈ l → I6 x) (hm0 : 0 ≤ most) (hm1 : most ≤ 100) : AC (En W0 N) 7 [.f (.ints l), .i kind, .i most] [] (fun r h => h = [] ∧ ∃ g, r = .f (.nodes g) ∧ WFG g ∧ 4 ≤ g.length ∧ (g.length : Int) ≤ 10 + most) := by
  refine AC.enter Tryd.func7 rfl Tryd.ntmps7 (bl rfl) fun X => ?_
  refine sr ?_
  refine WL.v (Val.assign Ev.const) rfl ?_
  refine WL.norm 79 [(0, _), (1, _), (2, _)] [] rfl ⟨rfl, rfl, rfl, trivial⟩ rfl rfl ?_
  refine wn ?_
  refine sr ?_
  refine mv rfl rfl ?_
  refine WL.callV ca23 (evc (tm rfl) evn) (lo1 lo0) rfl (c_start W0 N _) ?_
  rintro _ ⟨g0, rfl, hg0_1, hg0_2, hg0_3, hg0_4⟩
  refine asg rfl rfl ?_
  refine WL.norm 79 [(0, _), (1, _), (2, _), (7, _)] [] rfl ⟨rfl, rfl, rfl, rfl, trivial⟩ rfl rfl ?_
  refine wn ?_
  refine W.seq ?_
  refine sr ?_
  refine WL.v (Val.assign Ev.const) rfl ?_
  refine WL.norm 79 [(0, _), (1, _), (2, _), (7, _), (8, _)] [] rfl ⟨rfl, rfl, rfl, rfl, rfl, trivial⟩ rfl rfl ?_
  refine wn ?_
  refine W.norm 79 [(0, _), (1, _), (2, _), (7, _), (8, _)] [] rfl ⟨rfl, rfl, rfl, rfl, rfl, trivial⟩ rfl rfl ?_
  refine W.block (W.loop (fun nn S => ∃ (g : List Nd) (i c : Int), S = ⟨79, [(0, .f (.ints l)), (1, .i kind), (2, .i most), (7, .f (.nodes g)), (8, .i i)], [], []⟩ ∧ nn = ((most - c).toNat) ∧ (i = 3 * c) ∧ (0 ≤ c) ∧ (c ≤ most) ∧ (WFG g) ∧ (4 ≤ g.length) ∧ ((g.length : Int) ≤ 10 + c) ∧ (∀ n, n ∈ g → n.sort.n ≤ 16)) ⟨g0, 0, 0, rfl, rfl, by omega, by omega, by omega, hg0_1, hg0_2, by omega, hg0_4⟩ ?_)
  rintro nn S ⟨g, i, c, rfl, rfl, hic, hc0, hcm, hg, hg4, hgc, hs⟩
  refine W.seq ?_
  refine sr ?_
  refine mv rfl rfl ?_
  refine WL.v (Val.add (tm rfl) Ev.const (IntWalk.i64_in _ (by omega))) rfl ?_
  refine mv rfl rfl ?_
  refine WL.v (Val.ln (enc := encI) Tryd.underlying22 (tm rfl)) rfl ?_
  refine WL.v (Val.lss (tm rfl) (tm rfl)) rfl ?_
  refine mv rfl rfl ?_
  refine WL.g (Grd.t rfl rfl rfl) (fun hG => Val.move (tm rfl)) rfl ?_
  refine WL.g (Grd.t rfl rfl rfl) (fun hG => Val.move (tm rfl)) rfl ?_
  refine WL.g (Grd.t rfl rfl rfl) (fun hG => Val.mul Ev.const (Ev.opt rfl hG) (IntWalk.i64_in _ (by omega))) rfl ?_
  refine WL.g (Grd.t rfl rfl rfl) (fun hG => Val.lss (Ev.opt rfl hG) (Ev.opt rfl hG)) rfl ?_
  refine WL.v (Val.and (tm rfl) (fun hb => Ev.opt rfl hb)) rfl ?_
  refine WL.norm 79 [(0, _), (1, _), (2, _), (7, _), (8, _), (25, _)] [] rfl ⟨rfl, rfl, rfl, rfl, rfl, rfl, trivial⟩ rfl rfl ?_
  refine wn ?_
  refine W.condP rfl (fun hc3 => ?_) (fun hc3 => ?_)
  · try simp only [td] at hc3
    refine W.skip (nm ?_)
    refine W.seq ?_
    refine W.block ?_
    refine W.seq ?_
    have hI1 := hi _ (gA_mem (l := l) (i := i) (by omega) (by omega))
    have hI2 := hi _ (gA_mem (l := l) (i := i + 1) (by omega) (by omega))
    have hI3 := hi _ (gA_mem (l := l) (i := i + 2) (by omega) (by omega))
    refine W.reserve ?_
    refine W.drawN (k := 15) (D := fun r => ∃ nd, r = Nd.agg nd ∧ nd.text.size ≤ 1000000) [0, 1, 2, 3, 4, 5, 6, 7, 8, 9, 10, 11, 12, 13, 14, 16] [17] (fun k => ([([], []), ([], []), ([], []), ([], []), ([], []), ([], []), ([], []), ([], []), ([], []), ([], []), ([], []), ([], []), ([], []), ([], []), ([], []), ([], []), ([0], [0]), ([0], [0])] : List (List Nat × List Nat)).getD k ([], [])) rfl rfl (by kernel_rfl) (by decide) (by decide) rfl rfl (bl rfl) ?_
    refine LexI.val rfl rfl rfl rfl (fun h' ha => Val.move (tm rfl)) ?_
    refine LexI.val rfl rfl rfl rfl (fun h' ha => Val.move (tm rfl)) ?_
    refine LexI.val rfl rfl rfl rfl (fun h' ha => Val.move (tm rfl)) ?_
    refine LexI.val rfl rfl rfl rfl (fun h' ha => Val.ix (enc := encI) Tryd.underlying22 zs3 (tm rfl) (tm rfl) (by omega) (gA_at (by omega) (by omega))) ?_
    refine LexI.val rfl rfl rfl rfl (fun h' ha => Val.load Tryd.underlying3 rfl (tm rfl)) ?_
    refine LexI.val rfl rfl rfl rfl (fun h' ha => Val.move (tm rfl)) ?_
    refine LexI.val rfl rfl rfl rfl (fun h' ha => Val.move (tm rfl)) ?_
    refine LexI.val rfl rfl rfl rfl (fun h' ha => Val.add (tm rfl) Ev.const (IntWalk.i64_in _ (by omega))) ?_
    refine LexI.val rfl rfl rfl rfl (fun h' ha => Val.ix (enc := encI) Tryd.underlying22 zs3 (tm rfl) (tm rfl) (by omega) (gA_at (by omega) (by omega))) ?_
    refine LexI.val rfl rfl rfl rfl (fun h' ha => Val.load Tryd.underlying3 rfl (tm rfl)) ?_
    refine LexI.val rfl rfl rfl rfl (fun h' ha => Val.move (tm rfl)) ?_
    refine LexI.val rfl rfl rfl rfl (fun h' ha => Val.move (tm rfl)) ?_
    refine LexI.val rfl rfl rfl rfl (fun h' ha => Val.add (tm rfl) Ev.const (IntWalk.i64_in _ (by omega))) ?_
    refine LexI.val rfl rfl rfl rfl (fun h' ha => Val.ix (enc := encI) Tryd.underlying22 zs3 (tm rfl) (tm rfl) (by omega) (gA_at (by omega) (by omega))) ?_
    refine LexI.val rfl rfl rfl rfl (fun h' ha => Val.load Tryd.underlying3 rfl (tm rfl)) ?_
    refine LexI.stp rfl (U := [(0, _)]) rfl rfl rfl rfl (fun h => by first | rfl | cases h) (fun h' ha m' => Stp.allocAt zz35 rfl rfl ((ha.at_ 0 (by decide)).trans rfl) rfl) ?_
    refine LexI.nil ⟨AtD.call ca24 (fun h' ha => (evc (tm rfl) (evc (tm rfl) (evc (tm rfl) (evc (tm rfl) evn))))) (lo1 (lo1 (lo1 (lo1 lo0)))) rfl (c_node W0 N g hg (by omega) _ _ _ hI1 hI2 hI3 hs), ?_⟩
    rintro _ ⟨nd, rfl, htx⟩
    refine LexI.stp rfl (U := [(0, _)]) rfl rfl rfl rfl (fun h => by first | rfl | cases h) (fun h' ha m' => Stp.st (tm rfl) (tm rfl) zs35 rfl rfl ((ha.at_ 0 (by decide)).trans rfl) rfl rfl rfl rfl rfl) ?_
    refine LexI.nil (nm ?_)
    refine W.norm 79 [(0, _), (1, _), (2, _), (7, _), (8, _), (9, _)] [some ⟨_, _, [[_, _, _, _, _, _, _, _, _]]⟩] rfl ⟨rfl, rfl, rfl, rfl, rfl, rfl, trivial⟩ rfl rfl ?_
    refine sr ?_
    refine mv rfl rfl ?_
    refine WL.v (Val.loadLiveAgg Tryd.underlying35 rfl zs35 (tm rfl) rfl rfl rfl rfl (bl rfl)) rfl ?_
    refine WL.callV ca19 (evc (tm rfl) (evc (tm rfl) evn)) (lo1 (lo2 rfl lo0)) rfl (c_Add W0 N g hg (by omega) nd htx) ?_
    rintro _ ⟨g', q_, e_, rfl, ha_1, ha_2⟩
    refine mv rfl rfl ?_
    refine WL.v (Val.extract (tm rfl) rfl) rfl ?_
    refine WL.v (Val.extract (tm rfl) rfl) rfl ?_
    refine WL.v (Val.extract (tm rfl) rfl) rfl ?_
    refine asg rfl rfl ?_
    refine asg rfl rfl ?_
    refine asg rfl rfl ?_
    refine WL.norm 79 [(0, _), (1, _), (2, _), (7, _), (8, _), (10, _), (11, _), (12, _)] [some ⟨_, _, [[_, _, _, _, _, _, _, _, _]]⟩] rfl ⟨rfl, rfl, rfl, rfl, rfl, rfl, rfl, rfl, trivial⟩ rfl rfl ?_
    refine wn ?_
    refine sr ?_
    refine mv rfl rfl ?_
    refine WL.v (Val.eql (tm rfl) Ev.const) rfl ?_
    refine mv rfl rfl ?_
    refine WL.g (Grd.t rfl rfl rfl) (fun hG => Val.move (tm rfl)) rfl ?_
    refine WL.g (Grd.t rfl rfl rfl) (fun hG => Val.move (tm rfl)) rfl ?_
    refine WL.g (Grd.t rfl rfl rfl) (fun hG => Val.move (tm rfl)) rfl ?_
    refine WL.g (Grd.t rfl rfl rfl) (fun hG => Val.ix (enc := Nd.cells) Tryd.underlying23 zs35 (Ev.opt rfl hG) (Ev.opt rfl hG) (by try simp only [td] at hG; have hA := ha_1 (by omega); omega) (gA_at (by try simp only [td] at hG; have hA := ha_1 (by omega); omega) (by try simp only [td] at hG; have hA := ha_1 (by omega); omega))) rfl ?_
    refine WL.g (Grd.t rfl rfl rfl) (fun hG => Val.fa (off := 6) Tryd.underlying35 rfl rfl zs33 (Ev.opt rfl hG)) rfl ?_
    refine WL.g (Grd.t rfl rfl rfl) (fun hG => Val.loadAgg Tryd.underlying33 rfl zs33 (Ev.opt rfl hG) (bl rfl)) rfl ?_
    refine WL.gcallE AV.b (Grd.t rfl rfl rfl) ca25 (fun hG => (evc (Ev.opt rfl hG) (evc (Ev.opt rfl hG) evn))) (lo1 (lo2 rfl lo0)) rfl (fun hG => c_within7 W0 N _ (gA g' q_).sort) ?_
    intro bw_ _
    refine WL.v (Val.and (tm rfl) (fun hb => Ev.opt rfl hb)) rfl ?_
    refine mv rfl rfl ?_
    refine WL.g (Grd.t rfl rfl rfl) (fun hG => Val.move (tm rfl)) rfl ?_
    refine WL.g (Grd.t rfl rfl rfl) (fun hG => Val.move (tm rfl)) rfl ?_
    refine WL.g (Grd.t rfl rfl rfl) (fun hG => Val.ix (enc := Nd.cells) Tryd.underlying23 zs35 (Ev.opt rfl hG) (Ev.opt rfl hG) (by try simp only [td] at hG; have hA := ha_1 (by omega); omega) (gA_at (by try simp only [td] at hG; have hA := ha_1 (by omega); omega) (by try simp only [td] at hG; have hA := ha_1 (by omega); omega))) rfl ?_
    refine WL.g (Grd.t rfl rfl rfl) (fun hG => Val.fa (off := 6) Tryd.underlying35 rfl rfl zs33 (Ev.opt rfl hG)) rfl ?_
    refine WL.g (Grd.t rfl rfl rfl) (fun hG => Val.fa (off := 1) Tryd.underlying33 rfl rfl zs3 (Ev.opt rfl hG)) rfl ?_
    refine WL.g (Grd.t rfl rfl rfl) (fun hG => Val.load Tryd.underlying3 rfl (Ev.opt rfl hG)) rfl ?_
    refine WL.g (Grd.t rfl rfl rfl) (fun hG => Val.leq (Ev.opt rfl hG) Ev.const) rfl ?_
    refine WL.v (Val.and (tm rfl) (fun hb => Ev.opt rfl hb)) rfl ?_
    refine mv rfl rfl ?_
    refine WL.g (Grd.t rfl rfl rfl) (fun hG => Val.move (tm rfl)) rfl ?_
    refine WL.g (Grd.t rfl rfl rfl) (fun hG => Val.move (tm rfl)) rfl ?_
    refine WL.gcallE AV.i (Grd.t rfl rfl rfl) ca26 (fun hG => (evc (Ev.opt rfl hG) (evc (Ev.opt rfl hG) evn))) (lo1 (lo1 lo0)) rfl (fun hG => (by try simp only [td] at hG; have hA := ha_1 (by omega); exact c_size W0 N g' hA.1 (q_ + 1).toNat q_ (by omega) (by omega) (by omega))) ?_
    intro qs_ _
    refine WL.g (Grd.t rfl rfl rfl) (fun hG => Val.leq (Ev.opt rfl hG) Ev.const) rfl ?_
    refine WL.v (Val.and (tm rfl) (fun hb => Ev.opt rfl hb)) rfl ?_
    refine WL.norm 79 [(0, _), (1, _), (2, _), (7, _), (8, _), (10, _), (76, _)] [some ⟨_, _, [[_, _, _, _, _, _, _, _, _]]⟩] rfl ⟨rfl, rfl, rfl, rfl, rfl, rfl, rfl, trivial⟩ rfl rfl ?_
    refine wn ?_
    refine W.condP rfl (fun hc7 => ?_) (fun hc7 => ?_)
    · try simp only [td] at hc7
      have hA := ha_1 hc7.1.1.1
      have hG2 := hA.1
      have hs2 := made_small hs hA.2.2.2.2.2 hc7.1.2
      refine W.region ?_
      refine mv rfl rfl ?_
      refine asg rfl rfl ?_
      refine WL.norm 79 [(0, _), (1, _), (2, _), (7, _), (8, _)] [some ⟨_, _, [[_, _, _, _, _, _, _, _, _]]⟩] rfl ⟨rfl, rfl, rfl, rfl, rfl, trivial⟩ rfl rfl ?_
      refine WL.nil (nb (nm ?_))
      refine W.region ?_
      refine mv rfl rfl ?_
      refine WL.v (Val.add (tm rfl) Ev.const (IntWalk.i64_in _ (by omega))) rfl ?_
      refine asg rfl rfl ?_
      refine WL.cut (env := [(0, _), (1, _), (2, _), (7, _), (8, _)]) (h' := []) (Fewer.pre _ rfl) (.inr HLo.nil) (fun id h => absurd h (Nat.not_lt_zero _)) ⟨⟨_, rfl, (.same rfl)⟩, ⟨_, rfl, (.same rfl)⟩, ⟨_, rfl, (.same rfl)⟩, ⟨_, rfl, (.same rfl)⟩, ⟨_, rfl, (.same rfl)⟩, trivial⟩ ?_
      refine wn ?_
      exact ⟨_, by omega, _, _, c + 1, rfl, rfl, by omega, by omega, by omega, by assumption, by omega, by omega, by assumption⟩
    try simp only [td] at hc7
    refine W.skip (nb (nm ?_))
    refine W.region ?_
    refine mv rfl rfl ?_
    refine WL.v (Val.add (tm rfl) Ev.const (IntWalk.i64_in _ (by omega))) rfl ?_
    refine asg rfl rfl ?_
    refine WL.cut (env := [(0, _), (1, _), (2, _), (7, _), (8, _)]) (h' := []) (Fewer.pre _ rfl) (.inr HLo.nil) (fun id h => absurd h (Nat.not_lt_zero _)) ⟨⟨_, rfl, (.same rfl)⟩, ⟨_, rfl, (.same rfl)⟩, ⟨_, rfl, (.same rfl)⟩, ⟨_, rfl, (.same rfl)⟩, ⟨_, rfl, (.same rfl)⟩, trivial⟩ ?_
    refine wn ?_
    exact ⟨_, by omega, _, _, c + 1, rfl, rfl, by omega, by omega, by omega, by assumption, by omega, by omega, by assumption⟩
  try simp only [td] at hc3
  refine W.exit (ex1 (ex1 (ex2 (nm ?_))))
  refine sr ?_
  refine mv rfl rfl ?_
  refine asg rfl rfl ?_
  refine WL.norm 79 [(6, _)] [] rfl ⟨rfl, trivial⟩ rfl rfl ?_
  refine wn ?_
  refine W.ret ?_
  exact Ret.of (.inr rfl) rfl (res1 rfl rfl) (Fewer.nil _) (.inr trivial) (fun id h => absurd h (Nat.not_lt_zero _)) (.same rfl) ⟨rfl, _, rfl, hg, hg4, by omega⟩
end Go.Aw
namespace Go.Aw
open Go.RowKit Go.Proofs

/-! ### What the functions on patterns compute -/
/-- The first thing that is not 0. -/
def firstErr (f : Nat → Int) : Nat → Int
  | 0 => 0
  | n + 1 => if firstErr f n = 0 then f n else firstErr f n
theorem firstErr_zero {f : Nat → Int} : ∀ {n : Nat}, (∀ j, j < n → f j = 0) → firstErr f n = 0
  | 0, _ => rfl
  | n + 1, h => by rw [firstErr, firstErr_zero (fun j hj => h j (by omega)), if_pos rfl]; exact h n (by omega)
theorem firstErr_at {f : Nat → Int} {i : Nat} {e : Int} (h : ∀ j, j < i → f j = 0) (hi : f i = e) (he : e ≠ 0) : ∀ {n : Nat}, i < n → firstErr f n = e
  | 0, hn => by omega
  | n + 1, hn => by
    by_cases hin : i = n
    · subst hin; rw [firstErr, firstErr_zero h, if_pos rfl, hi]
    · rw [firstErr, firstErr_at h hi he (n := n) (by omega), if_neg he]
def nodeErr (p g : List Nd) (m : List Int) (i : Nat) : Int :=
  if (gA p i).op = 0 then (if (gA p i).sort = (gA g (gA m i)).sort then 0 else 9)
  else if ((gA p i).like (gA g (gA m i)) && decide ((gA p i).kids.length = (gA g (gA m i)).kids.length)) = false then 18
  else if (gA p i).kids.map (fun k => gA m k) = (gA g (gA m i)).kids then 0 else 18
/-- Whether nodes of a graph can stand for all nodes of a pattern. -/
def validE (p g : List Nd) (m : List Int) : Int :=
  if m.length ≠ p.length then 1
  else if (∀ x, x ∈ m → 0 ≤ x ∧ x < (g.length : Int)) then firstErr (nodeErr p g m) p.length else 7
theorem i_nat {i : Int} (h : 0 ≤ i) : ((i.toNat : Nat) : Int) = i := by omega
def Nd.kidsIn (g : List Nd) (n : Nd) : Prop := ∀ k, k ∈ n.kids → 0 ≤ k ∧ k < (g.length : Int)
theorem WFG.kidsIn {p : List Nd} (hp : WFG p) {i j : Int} (h0 : 0 ≤ i) (h1 : i < p.length) (h2 : 0 ≤ j) (h3 : j < (gA p i).kids.length) : 0 ≤ gA (gA p i).kids j ∧ gA (gA p i).kids j < p.length := by
  have := hp.kid h0 h1 h2 h3; omega
theorem map_same {l to m : List Int} (hl : l.length = m.length) (h : ∀ j : Nat, j < l.length → gA to (gA l j) = gA m j) : l.map (fun k => gA to k) = m := by
  apply List.ext_getElem?
  intro j
  by_cases hj : j < l.length
  · have e1 := gA_at (l := l) (i := (j : Int)) (by omega) (by omega)
    have e2 := gA_at (l := m) (i := (j : Int)) (by omega) (by omega)
    simp only [Int.toNat_natCast] at e1 e2
    rw [List.getElem?_map, e1, e2, Option.map_some, h j hj]
  · rw [List.getElem?_eq_none (by simp; omega), List.getElem?_eq_none (by omega)]
theorem map_diff {l to m : List Int} {j : Int} (h0 : 0 ≤ j) (h1 : j < l.length) (h : gA to (gA l j) ≠ gA m j) : l.map (fun k => gA to k) ≠ m := by
  rintro rfl
  apply h
  have e1 := gA_at (l := l) h0 h1
  have : (l.map fun k => gA to k)[j.toNat]? = some (gA to (gA l j)) := by rw [List.getElem?_map, e1]; rfl
  show _ = (l.map _).getD j.toNat default
  rw [List.getD, this]; rfl
theorem zero_step {f : Nat → Int} {i : Int} (h0 : 0 ≤ i) (h : ∀ j : Nat, j < i.toNat → f j = 0) (hi : f i.toNat = 0) : ∀ j : Nat, j < (i + 1).toNat → f j = 0 := by
  intro j hj
  by_cases hji : j < i.toNat
  · exact h j hji
  · have : j = i.toNat := by omega
    rw [this]; exact hi
theorem eq_step {f g : Nat → Int} {i : Int} (h0 : 0 ≤ i) (h : ∀ j : Nat, j < i.toNat → f j = g j) (hi : f i.toNat = g i.toNat) : ∀ j : Nat, j < (i + 1).toNat → f j = g j := by
  intro j hj
  by_cases hji : j < i.toNat
  · exact h j hji
  · have : j = i.toNat := by omega
    rw [this]; exact hi
theorem ne_var {p g : List Nd} {m : List Int} {i : Int} (h0 : 0 ≤ i) (ho : (gA p i).op = 0) (hs : (gA p i).sort = (gA g (gA m i)).sort) : nodeErr p g m i.toNat = 0 := by
  rw [nodeErr, i_nat h0, if_pos ho, if_pos hs]
theorem ne_var9 {p g : List Nd} {m : List Int} {i : Int} (h0 : 0 ≤ i) (ho : (gA p i).op = 0) (hs : ¬ (gA p i).sort = (gA g (gA m i)).sort) : nodeErr p g m i.toNat = 9 := by
  rw [nodeErr, i_nat h0, if_pos ho, if_neg hs]
theorem ne_like {p g : List Nd} {m : List Int} {i : Int} (h0 : 0 ≤ i) (ho : ¬ (gA p i).op = 0) (hl : (!((gA p i).like (gA g (gA m i)) && decide ((gA p i).kids.length = (gA g (gA m i)).kids.length))) = true) : nodeErr p g m i.toNat = 18 := by
  rw [Bool.not_eq_true'] at hl
  rw [nodeErr, i_nat h0, if_neg ho, if_pos hl]
theorem ne_len {p g : List Nd} {m : List Int} {i : Int} (hl : (!((gA p i).like (gA g (gA m i)) && decide ((gA p i).kids.length = (gA g (gA m i)).kids.length))) = false) : (gA p i).kids.length = (gA g (gA m i)).kids.length := by
  simp only [Bool.not_eq_false', Bool.and_eq_true, decide_eq_true_eq] at hl; exact hl.2
theorem ne_kid {p g : List Nd} {m : List Int} {i j : Int} (h0 : 0 ≤ i) (ho : ¬ (gA p i).op = 0) (hl : (!((gA p i).like (gA g (gA m i)) && decide ((gA p i).kids.length = (gA g (gA m i)).kids.length))) = false) (hj0 : 0 ≤ j) (hj1 : j < (gA p i).kids.length) (hne : ¬ gA (gA g (gA m i)).kids j = gA m (gA (gA p i).kids j)) : nodeErr p g m i.toNat = 18 := by
  rw [nodeErr, i_nat h0, if_neg ho, if_neg (by simpa using hl), if_neg (map_diff hj0 hj1 (fun h => hne h.symm))]
theorem ne_ok {p g : List Nd} {m : List Int} {i j : Int} (h0 : 0 ≤ i) (ho : ¬ (gA p i).op = 0) (hl : (!((gA p i).like (gA g (gA m i)) && decide ((gA p i).kids.length = (gA g (gA m i)).kids.length))) = false) (hj : (gA p i).kids.length ≤ j) (h : ∀ q : Nat, q < j.toNat → gA m (gA (gA p i).kids q) = gA (gA g (gA m i)).kids q) : nodeErr p g m i.toNat = 0 := by
  rw [nodeErr, i_nat h0, if_neg ho, if_neg (by simpa using hl), if_pos (map_same (ne_len hl) (fun q hq => h q (by omega)))]
theorem like_or (l : Bool) (a b : Nat) : ((!l) || decide (¬ (a : Int) = b)) = !(l && decide (a = b)) := by
  cases l <;> simp [Int.natCast_inj]
/-- The roots that are made of numbers. -/
def rootsOf (g : List Nd) (l : List Int) : List Int := (l.take 3).map fun x => (g.length : Int) - 1 - around x g.length
theorem roots_step {g : List Nd} {l : List Int} {k : Int} (h0 : 0 ≤ k) (h1 : k < l.length) : (l.take k.toNat).map (fun x => (g.length : Int) - 1 - around x g.length) ++ [(g.length : Int) - 1 - around (gA l k) g.length] = (l.take (k + 1).toNat).map (fun x => (g.length : Int) - 1 - around x g.length) := by
  have : (k + 1).toNat = k.toNat + 1 := by omega
  rw [this, List.take_add_one, gA_at h0 h1]
  simp
theorem roots_end {l : List Int} {k : Int} (h0 : 0 ≤ k) (h3 : k ≤ 3) (h : l.length ≤ k ∨ 3 ≤ k) : l.take k.toNat = l.take 3 := by
  rcases h with h | h
  · rw [List.take_of_length_le (by omega), List.take_of_length_le (by omega)]
  · have : k.toNat = 3 := by omega
    rw [this]

-- enthymemeref13.alike
-- match.shapeOf
set_option maxHeartbeats 1000000 in
theorem c_shapeOf (W0 : World) (N : Nat) (n : Nd) : AC (En W0 N) 31 [n.agg] [] (fun r h => h = [] ∧ r = Nd.shape n) := by
  refine AC.enter Tryd.func31 rfl Tryd.ntmps31 (bl rfl) fun X => ?_
  refine sr ?_
  refine WL.stp rfl (Stp.box (tm rfl) rfl rfl) ?_
  refine WL.stp rfl (Stp.alloc zz70 rfl rfl) ?_
  refine WL.norm 16 [(1, _), (2, _)] [some ⟨_, _, [[_, _, _, _, _, _, _, _, _]]⟩, some ⟨_, _, [[_, _, _, _, _, _, _, _]]⟩] rfl ⟨rfl, rfl, trivial⟩ rfl rfl ?_
  refine wn ?_
  refine sr ?_
  refine WL.v (Val.fal (off := 0) Tryd.underlying35 rfl rfl zs3 (tm rfl)) rfl ?_
  refine WL.v (Val.loadLive Tryd.underlying3 rfl (tm rfl) rfl rfl rfl rfl rfl) rfl ?_
  refine WL.v (Val.fal (off := 2) Tryd.underlying35 rfl rfl zs3 (tm rfl)) rfl ?_
  refine WL.v (Val.loadLive Tryd.underlying3 rfl (tm rfl) rfl rfl rfl rfl rfl) rfl ?_
  refine WL.v (Val.fal (off := 3) Tryd.underlying35 rfl rfl zs3 (tm rfl)) rfl ?_
  refine WL.v (Val.loadLive Tryd.underlying3 rfl (tm rfl) rfl rfl rfl rfl rfl) rfl ?_
  refine WL.v (Val.fal (off := 4) Tryd.underlying35 rfl rfl zs31 (tm rfl)) rfl ?_
  refine WL.v (Val.loadLive Tryd.underlying31 rfl (tm rfl) rfl rfl rfl rfl rfl) rfl ?_
  refine WL.v (Val.fal (off := 5) Tryd.underlying35 rfl rfl zs9 (tm rfl)) rfl ?_
  refine WL.v (Val.loadLive Tryd.underlying9 rfl (tm rfl) rfl rfl rfl rfl rfl) rfl ?_
  refine WL.v (Val.fal (off := 6) Tryd.underlying35 rfl rfl zs33 (tm rfl)) rfl ?_
  refine WL.v (Val.loadLiveAgg Tryd.underlying33 rfl zs33 (tm rfl) rfl rfl rfl rfl (bl rfl)) rfl ?_
  refine WL.v (Val.build (vs := [(0, _), (1, _), (2, _), (3, _), (4, _), (5, _)]) Tryd.underlying70 zz70 rfl rfl pl70 rfl ⟨(tm rfl), rfl, rfl, rfl, ⟨(tm rfl), rfl, rfl, rfl, ⟨(tm rfl), rfl, rfl, rfl, ⟨(tm rfl), rfl, rfl, rfl, ⟨(tm rfl), rfl, rfl, rfl, ⟨(tm rfl), rfl, rfl, rfl, trivial⟩⟩⟩⟩⟩⟩) rfl ?_
  refine WL.stp rfl (Stp.st (tm rfl) (tm rfl) zs70 rfl rfl rfl rfl rfl rfl rfl rfl) ?_
  refine WL.norm 16 [(2, _)] [some ⟨_, _, [[_, _, _, _, _, _, _, _, _]]⟩, some ⟨_, _, [[_, _, _, _, _, _, _, _]]⟩] rfl ⟨rfl, trivial⟩ rfl rfl ?_
  refine wn ?_
  refine W.ret ?_
  exact Ret.of (.inr rfl) rfl (resCell rfl Tryd.underlying70 rfl zs70 rfl rfl rfl rfl rfl rfl) (Fewer.nil _) (.inr trivial) (fun id h => absurd h (Nat.not_lt_zero _)) (.same rfl) ⟨rfl, rfl⟩
-- enthymemelaw13.graph
set_option maxHeartbeats 1000000 in
theorem c_graph (W0 : World) (N : Nat) (g : List Nd) : AC (En W0 N) 13 [.f (.nodes g)] [] (fun r h => h = [] ∧ r = .agg [.f (.nodes g)]) := by
  refine AC.enter Tryd.func13 rfl Tryd.ntmps13 (bl rfl) fun X => ?_
  refine sr ?_
  refine WL.stp rfl (Stp.alloc zz39 rfl rfl) ?_
  refine WL.norm 5 [(0, _), (2, _)] [some ⟨_, _, [[_]]⟩] rfl ⟨rfl, rfl, trivial⟩ rfl rfl ?_
  refine wn ?_
  refine sr ?_
  refine mv rfl rfl ?_
  refine WL.v (Val.build (vs := [(0, _)]) Tryd.underlying39 zz39 rfl rfl pl39 rfl ⟨(tm rfl), rfl, rfl, rfl, trivial⟩) rfl ?_
  refine WL.stp rfl (Stp.st (tm rfl) (tm rfl) zs39 rfl rfl rfl rfl rfl rfl rfl rfl) ?_
  refine WL.norm 5 [(2, _)] [some ⟨_, _, [[_]]⟩] rfl ⟨rfl, trivial⟩ rfl rfl ?_
  refine wn ?_
  refine W.ret ?_
  exact Ret.of (.inr rfl) rfl (resCell rfl Tryd.underlying39 rfl zs39 rfl rfl rfl rfl rfl rfl) (Fewer.nil _) (.inr trivial) (fun id h => absurd h (Nat.not_lt_zero _)) (.same rfl) ⟨rfl, rfl⟩
-- enthymemeref13.Roots
set_option maxHeartbeats 1000000 in
theorem c_Roots (W0 : World) (N : Nat) (g : List Nd) (hg1 : 1 ≤ g.length) (hg : g.length ≤ 1000) (l : List Int) (hl : l.length ≤ 1152921504606846975) (hi : ∀ x, x ∈ l → I6 x) : AC (En W0 N) 10 [.f (.nodes g), .f (.ints l)] [] (fun r h => h = [] ∧ r = .f (.ints (rootsOf g l))) := by
  refine AC.enter Tryd.func10 rfl Tryd.ntmps10 (bl rfl) fun X => ?_
  refine sr ?_
  refine WL.v (Val.assign Ev.const) rfl ?_
  refine WL.norm 37 [(0, _), (1, _)] [] rfl ⟨rfl, rfl, trivial⟩ rfl rfl ?_
  refine wn ?_
  refine sr ?_
  refine WL.v (Val.assign Ev.const) rfl ?_
  refine WL.norm 37 [(0, _), (1, _), (5, _)] [] rfl ⟨rfl, rfl, rfl, trivial⟩ rfl rfl ?_
  refine wn ?_
  refine W.seq ?_
  refine sr ?_
  refine WL.v (Val.assign Ev.const) rfl ?_
  refine WL.norm 37 [(0, _), (1, _), (5, _), (6, _)] [] rfl ⟨rfl, rfl, rfl, rfl, trivial⟩ rfl rfl ?_
  refine wn ?_
  refine W.reserve ?_
  refine W.norm 37 [(0, _), (1, _), (5, _), (6, _)] [_] rfl ⟨rfl, rfl, rfl, rfl, trivial⟩ rfl rfl ?_
  refine W.block (W.loop (fun nn S => ∃ (k : Int) (v : AV) (o : Option Row), S = ⟨37, [(0, .f (.nodes g)), (1, .f (.ints l)), (5, v), (6, .i k)], [o], []⟩ ∧ nn = ((3 - k).toNat) ∧ (0 ≤ k) ∧ (k ≤ 3) ∧ (k ≤ l.length) ∧ (Acc 0 1 (fz (((l.take k.toNat).map fun x => (g.length : Int) - 1 - around x g.length).map encI)) v o)) ⟨0, _, _, rfl, rfl, by omega, by omega, by omega, Acc.zero⟩ ?_)
  rintro nn S ⟨k, v, o, rfl, rfl, hk0, hk3, hk1, ha⟩
  refine W.seq ?_
  refine sr ?_
  refine mv rfl rfl ?_
  refine mv rfl rfl ?_
  refine WL.v (Val.ln (enc := encI) Tryd.underlying22 (tm rfl)) rfl ?_
  refine WL.v (Val.lss (tm rfl) (tm rfl)) rfl ?_
  refine mv rfl rfl ?_
  refine WL.g (Grd.t rfl rfl rfl) (fun hG => Val.move (tm rfl)) rfl ?_
  refine WL.g (Grd.t rfl rfl rfl) (fun hG => Val.lss (Ev.opt rfl hG) Ev.const) rfl ?_
  refine WL.v (Val.and (tm rfl) (fun hb => Ev.opt rfl hb)) rfl ?_
  refine mv rfl rfl ?_
  refine WL.g (Grd.t rfl rfl rfl) (fun hG => Val.move (tm rfl)) rfl ?_
  refine WL.g (Grd.t rfl rfl rfl) (fun hG => Val.ln (enc := Nd.cells) Tryd.underlying23 (Ev.opt rfl hG)) rfl ?_
  refine WL.g (Grd.t rfl rfl rfl) (fun hG => Val.gtr (Ev.opt rfl hG) Ev.const) rfl ?_
  refine WL.v (Val.and (tm rfl) (fun hb => Ev.opt rfl hb)) rfl ?_
  refine WL.norm 37 [(0, _), (1, _), (5, _), (6, _), (19, _)] [_] rfl ⟨rfl, rfl, rfl, rfl, rfl, trivial⟩ rfl rfl ?_
  refine wn ?_
  refine W.condP rfl (fun hc3 => ?_) (fun hc3 => ?_)
  · try simp only [td] at hc3
    refine W.skip (nm ?_)
    refine W.seq ?_
    refine W.block ?_
    have hI := hi _ (gA_mem (l := l) hk0 hc3.1.1)
    have har := around_range (n := gA l k) (most := g.length) (by omega)
    refine W.region ?_
    refine mv rfl rfl ?_
    refine mv rfl rfl ?_
    refine WL.v (Val.ln (enc := Nd.cells) Tryd.underlying23 (tm rfl)) rfl ?_
    refine WL.v (Val.sub (tm rfl) Ev.const (IntWalk.i64_in _ (by omega))) rfl ?_
    refine mv rfl rfl ?_
    refine mv rfl rfl ?_
    refine WL.v (Val.ix (enc := encI) Tryd.underlying22 zs3 (tm rfl) (tm rfl) (by omega) (gA_at (by omega) (by omega))) rfl ?_
    refine WL.v (Val.load Tryd.underlying3 rfl (tm rfl)) rfl ?_
    refine mv rfl rfl ?_
    refine WL.v (Val.ln (enc := Nd.cells) Tryd.underlying23 (tm rfl)) rfl ?_
    refine WL.callV ca8 (evc (tm rfl) (evc (tm rfl) evn)) (lo1 (lo1 lo0)) rfl (c_Around W0 N _ _ hI (by omega)) ?_
    rintro _ rfl
    refine WL.v (Val.sub (tm rfl) (tm rfl) (IntWalk.i64_in _ (by omega))) rfl ?_
    refine WL.stp rfl (Stp.buildFrozen (xs := [_]) (fs := ([(g.length : Int) - 1 - around (gA l k) g.length] : List Int).map encI) Tryd.underlying22 zs3 zz3 rfl rfl (evc (tm rfl) evn) fitL (bl rfl) rfl rfl) ?_
    refine WL.appE (enc := encI) ap22_22 (tm rfl) rfl ha (ArgE.lst (enc := encI) (tm rfl) (by intro x; rfl)) (by simp only [List.length_map, List.length_take, List.length_cons, List.length_nil]; omega) rfl ?_
    intro v' o' ha'
    refine asg rfl rfl ?_
    refine WL.norm 37 [(0, _), (1, _), (5, _), (6, _)] [_] rfl ⟨rfl, rfl, rfl, rfl, trivial⟩ rfl rfl ?_
    refine WL.nil (nb (nm ?_))
    refine W.region ?_
    refine mv rfl rfl ?_
    refine WL.v (Val.add (tm rfl) Ev.const (IntWalk.i64_in _ (by omega))) rfl ?_
    refine asg rfl rfl ?_
    refine WL.norm 37 [(0, _), (1, _), (5, _), (6, _)] [_] rfl ⟨rfl, rfl, rfl, rfl, trivial⟩ rfl rfl ?_
    refine wn ?_
    exact ⟨_, by omega, k + 1, _, _, rfl, rfl, by omega, by omega, by omega, by rw [← roots_step hk0 hc3.1.1]; exact ha'⟩
  try simp only [td] at hc3
  refine W.exit (ex1 (ex1 (ex2 (nm ?_))))
  refine W.seq ?_
  have hend : rootsOf g l = _ := congrArg (List.map fun x => (g.length : Int) - 1 - around x g.length) (roots_end hk0 hk3 (by omega)).symm
  refine W.region ?_
  refine mv rfl rfl ?_
  refine asg rfl rfl ?_
  refine WL.norm 37 [(4, _)] [_] rfl ⟨rfl, trivial⟩ rfl rfl ?_
  refine wn ?_
  refine W.ret ?_
  exact Ret.of (.inr rfl) rfl (res1 rfl rfl) (Fewer.nil _) (.inr trivial) (fun id h => absurd h (Nat.not_lt_zero _)) (Acc.thaw ha rfl rfl (encL (by intro x; rfl))) ⟨rfl, by rw [hend]⟩
-- enthymemeref13.Valid
-- match.Valid
set_option maxHeartbeats 1000000 in
theorem c_ValidM (W0 : World) (N : Nat) (p g : List Nd) (hp : WFG p) (hg : g.length ≤ 1000) (m : List Int) (hml : m.length ≤ 1000000) : AC (En W0 N) 12 [.agg [.f (.nodes p)], .agg [.f (.nodes g)], .f (.ints m)] [] (fun r h => h = [] ∧ r = .i (validE p g m)) := by
  refine AC.enter Tryd.func12 rfl Tryd.ntmps12 (bl rfl) fun X => ?_
  have hpl := hp.len
  refine sr ?_
  refine WL.stp rfl (Stp.box (tm rfl) rfl rfl) ?_
  refine WL.stp rfl (Stp.box (tm rfl) rfl rfl) ?_
  refine WL.v (Val.assign Ev.const) rfl ?_
  refine WL.norm 89 [(2, _), (3, _), (4, _)] [some ⟨_, _, [[_]]⟩, some ⟨_, _, [[_]]⟩] rfl ⟨rfl, rfl, rfl, trivial⟩ rfl rfl ?_
  refine wn ?_
  refine W.seq ?_
  refine sr ?_
  refine mv rfl rfl ?_
  refine WL.v (Val.ln (enc := encI) Tryd.underlying22 (tm rfl)) rfl ?_
  refine WL.v (Val.fal (off := 0) Tryd.underlying39 rfl rfl zs23 (tm rfl)) rfl ?_
  refine WL.v (Val.loadLive Tryd.underlying23 rfl (tm rfl) rfl rfl rfl rfl rfl) rfl ?_
  refine WL.v (Val.ln (enc := Nd.cells) Tryd.underlying23 (tm rfl)) rfl ?_
  refine WL.v (Val.neq (tm rfl) (tm rfl)) rfl ?_
  refine WL.norm 89 [(2, _), (3, _), (4, _), (19, _)] [some ⟨_, _, [[_]]⟩, some ⟨_, _, [[_]]⟩] rfl ⟨rfl, rfl, rfl, rfl, trivial⟩ rfl rfl ?_
  refine wn ?_
  refine W.condP rfl (fun hc1 => ?_) (fun hc1 => ?_)
  · try simp only [td] at hc1
    refine sr ?_
    refine WL.v (Val.assign Ev.const) rfl ?_
    refine WL.norm 89 [(6, _)] [some ⟨_, _, [[_]]⟩, some ⟨_, _, [[_]]⟩] rfl ⟨rfl, trivial⟩ rfl rfl ?_
    refine wn ?_
    refine W.ret (rt1 ?_)
    exact Ret.of (.inr rfl) rfl (res1 rfl rfl) (Fewer.nil _) (.inr trivial) (fun id h => absurd h (Nat.not_lt_zero _)) (.same rfl) ⟨rfl, by rw [validE, if_pos (by omega)]⟩
  try simp only [td] at hc1
  refine W.skip (nm ?_)
  refine W.seq ?_
  refine sr ?_
  refine mv rfl rfl ?_
  refine WL.v (Val.ln (enc := encI) Tryd.underlying22 (tm rfl)) rfl ?_
  refine WL.v (Val.move Ev.const) rfl ?_
  refine WL.norm 89 [(2, _), (3, _), (4, _), (20, _), (21, _), (22, _)] [some ⟨_, _, [[_]]⟩, some ⟨_, _, [[_]]⟩] rfl ⟨rfl, rfl, rfl, rfl, rfl, rfl, trivial⟩ rfl rfl ?_
  refine wn ?_
  refine W.norm 89 [(2, _), (3, _), (4, _), (20, _), (21, _), (22, _)] [some ⟨_, _, [[_]]⟩, some ⟨_, _, [[_]]⟩] rfl ⟨rfl, rfl, rfl, rfl, rfl, rfl, trivial⟩ rfl rfl ?_
  refine W.block (W.loop (fun nn S => ∃ (i : Int), S = ⟨89, [(2, .f (.ints m)), (3, .ptr 0 0 1 0 0), (4, .ptr 1 0 1 0 0), (20, .f (.ints m)), (21, .i m.length), (22, .i i)], [some ⟨0, 1, [[.f (.nodes p)]]⟩, some ⟨0, 1, [[.f (.nodes g)]]⟩], []⟩ ∧ nn = ((m.length - i).toNat) ∧ (0 ≤ i) ∧ (i ≤ m.length) ∧ (∀ j : Nat, j < i.toNat → ∀ x, m[j]? = some x → 0 ≤ x ∧ x < (g.length : Int))) ⟨0, rfl, rfl, by omega, by omega, fun j hj => absurd hj (by simp)⟩ ?_)
  rintro nn S ⟨i, rfl, rfl, hi0, hi1, hin⟩
  refine sr ?_
  refine WL.v (Val.lss (tm rfl) (tm rfl)) rfl ?_
  refine WL.norm 89 [(2, _), (3, _), (4, _), (20, _), (21, _), (22, _), (23, _)] [some ⟨_, _, [[_]]⟩, some ⟨_, _, [[_]]⟩] rfl ⟨rfl, rfl, rfl, rfl, rfl, rfl, rfl, trivial⟩ rfl rfl ?_
  refine wn ?_
  refine W.seq ?_
  refine W.condP rfl (fun hc4 => ?_) (fun hc4 => ?_)
  · try simp only [td] at hc4
    refine W.skip (nm ?_)
    refine W.seq ?_
    refine W.block ?_
    refine sr ?_
    refine WL.v (Val.ix (enc := encI) Tryd.underlying22 zs3 (tm rfl) (tm rfl) (by omega) (gA_at (by omega) (by omega))) rfl ?_
    refine WL.v (Val.load Tryd.underlying3 rfl (tm rfl)) rfl ?_
    refine asg rfl rfl ?_
    refine WL.norm 89 [(2, _), (3, _), (4, _), (8, _), (20, _), (21, _), (22, _)] [some ⟨_, _, [[_]]⟩, some ⟨_, _, [[_]]⟩] rfl ⟨rfl, rfl, rfl, rfl, rfl, rfl, rfl, trivial⟩ rfl rfl ?_
    refine wn ?_
    refine sr ?_
    refine WL.v (Val.loadLiveAgg Tryd.underlying39 rfl zs39 (tm rfl) rfl rfl rfl rfl (bl rfl)) rfl ?_
    refine mv rfl rfl ?_
    refine WL.callV ca30 (evc (tm rfl) (evc (tm rfl) evn)) (lo2 rfl (lo1 lo0)) rfl (c_isNode W0 N _ _) ?_
    rintro _ rfl
    refine WL.v (Val.not (tm rfl)) rfl ?_
    refine WL.norm 89 [(2, _), (3, _), (4, _), (20, _), (21, _), (22, _), (29, _)] [some ⟨_, _, [[_]]⟩, some ⟨_, _, [[_]]⟩] rfl ⟨rfl, rfl, rfl, rfl, rfl, rfl, rfl, trivial⟩ rfl rfl ?_
    refine wn ?_
    refine W.condP rfl (fun hc6 => ?_) (fun hc6 => ?_)
    · try simp only [td] at hc6
      refine sr ?_
      refine WL.v (Val.assign Ev.const) rfl ?_
      refine WL.norm 89 [(6, _)] [some ⟨_, _, [[_]]⟩, some ⟨_, _, [[_]]⟩] rfl ⟨rfl, trivial⟩ rfl rfl ?_
      refine wn ?_
      refine W.ret (rt2 (rt1 (rt1 (rt2 (rt1 ?_)))))
      exact Ret.of (.inr rfl) rfl (res1 rfl rfl) (Fewer.nil _) (.inr trivial) (fun id h => absurd h (Nat.not_lt_zero _)) (.same rfl) ⟨rfl, by rw [validE, if_neg (by omega), if_neg (fun h => by have := h _ (gA_mem (l := m) (i := i) hi0 (by omega)); omega)]⟩
    try simp only [td] at hc6
    refine W.skip (nb (nm ?_))
    refine W.region ?_
    refine WL.v (Val.add (tm rfl) Ev.const (IntWalk.i64_in _ (by omega))) rfl ?_
    refine mv rfl rfl ?_
    refine WL.norm 89 [(2, _), (3, _), (4, _), (20, _), (21, _), (22, _)] [some ⟨_, _, [[_]]⟩, some ⟨_, _, [[_]]⟩] rfl ⟨rfl, rfl, rfl, rfl, rfl, rfl, trivial⟩ rfl rfl ?_
    refine wn ?_
    exact ⟨_, by omega, i + 1, rfl, rfl, by omega, by omega, kids_step hi0 (by omega) hin (by omega)⟩
  try simp only [td] at hc4
  refine W.exit (ex1 (ex1 (ex2 (nm ?_))))
  refine W.seq ?_
  refine W.seq ?_
  have hall := kids_end hi0 (by omega) hin
  refine W.region ?_
  refine WL.v (Val.fal (off := 0) Tryd.underlying39 rfl rfl zs23 (tm rfl)) rfl ?_
  refine WL.v (Val.loadLive Tryd.underlying23 rfl (tm rfl) rfl rfl rfl rfl rfl) rfl ?_
  refine WL.v (Val.ln (enc := Nd.cells) Tryd.underlying23 (tm rfl)) rfl ?_
  refine WL.v (Val.move Ev.const) rfl ?_
  refine WL.norm 89 [(2, _), (4, _), (32, _), (33, _), (34, _)] [some ⟨_, _, [[_]]⟩, some ⟨_, _, [[_]]⟩] rfl ⟨rfl, rfl, rfl, rfl, rfl, trivial⟩ rfl rfl ?_
  refine wn ?_
  refine W.norm 89 [(2, _), (4, _), (32, _), (33, _), (34, _)] [some ⟨_, _, [[_]]⟩, some ⟨_, _, [[_]]⟩] rfl ⟨rfl, rfl, rfl, rfl, rfl, trivial⟩ rfl rfl ?_
  refine W.block (W.loop (fun nn S => ∃ (i : Int), S = ⟨89, [(2, .f (.ints m)), (4, .ptr 1 0 1 0 0), (32, .f (.nodes p)), (33, .i p.length), (34, .i i)], [some ⟨0, 1, [[.f (.nodes p)]]⟩, some ⟨0, 1, [[.f (.nodes g)]]⟩], []⟩ ∧ nn = ((p.length - i).toNat) ∧ (0 ≤ i) ∧ (i ≤ p.length) ∧ (∀ j : Nat, j < i.toNat → nodeErr p g m j = 0)) ⟨0, rfl, rfl, by omega, by omega, fun j hj => absurd hj (by simp)⟩ ?_)
  rintro nn S ⟨i, rfl, rfl, hj0, hj1, hjn⟩
  refine sr ?_
  refine WL.v (Val.lss (tm rfl) (tm rfl)) rfl ?_
  refine WL.norm 89 [(2, _), (4, _), (32, _), (33, _), (34, _), (35, _)] [some ⟨_, _, [[_]]⟩, some ⟨_, _, [[_]]⟩] rfl ⟨rfl, rfl, rfl, rfl, rfl, rfl, trivial⟩ rfl rfl ?_
  refine wn ?_
  refine W.seq ?_
  refine W.condP rfl (fun hc10 => ?_) (fun hc10 => ?_)
  · try simp only [td] at hc10
    refine W.skip (nm ?_)
    refine W.seq ?_
    refine W.block ?_
    refine sr ?_
    refine mv rfl rfl ?_
    refine WL.v (Val.ix (enc := Nd.cells) Tryd.underlying23 zs35 (tm rfl) (tm rfl) (by omega) (gA_at (by omega) (by omega))) rfl ?_
    refine WL.v (Val.loadAgg Tryd.underlying35 rfl zs35 (tm rfl) (bl rfl)) rfl ?_
    refine WL.stp rfl (Stp.alloc zz35 rfl rfl) ?_
    refine asg rfl rfl ?_
    refine WL.stp rfl (Stp.st (tm rfl) (tm rfl) zs35 rfl rfl rfl rfl rfl rfl rfl rfl) ?_
    refine WL.norm 89 [(2, _), (4, _), (9, _), (10, _), (32, _), (33, _), (34, _)] [some ⟨_, _, [[_]]⟩, some ⟨_, _, [[_]]⟩, some ⟨_, _, [[_, _, _, _, _, _, _, _, _]]⟩] rfl ⟨rfl, rfl, rfl, rfl, rfl, rfl, rfl, trivial⟩ rfl rfl ?_
    refine wn ?_
    refine W.seq ?_
    have hm := hall _ (gA_mem (l := m) (i := i) hj0 (by omega))
    have hfew := hp.few hj0 hc10
    refine W.reserve ?_
    refine W.drawE (fun k => ([([], []), ([1], []), ([], []), ([], []), ([], []), ([], []), ([], []), ([], []), ([3], [3]), ([3], [3])] : List (List Nat × List Nat)).getD k ([], [])) rfl (by kernel_rfl) (bl rfl) ?_
    refine LexE.val rfl rfl rfl (fun h' ha => Val.fal (off := 0) Tryd.underlying39 rfl rfl zs23 (tm rfl)) ?_
    refine LexE.val rfl rfl rfl (fun h' ha => Val.loadLive Tryd.underlying23 rfl (tm rfl) ((ha.at_ 1 (by decide)).trans rfl) rfl rfl rfl rfl) ?_
    refine LexE.val rfl rfl rfl (fun h' ha => Val.move (tm rfl)) ?_
    refine LexE.val rfl rfl rfl (fun h' ha => Val.move (tm rfl)) ?_
    refine LexE.val rfl rfl rfl (fun h' ha => Val.ix (enc := encI) Tryd.underlying22 zs3 (tm rfl) (tm rfl) (by omega) (gA_at (by omega) (by omega))) ?_
    refine LexE.val rfl rfl rfl (fun h' ha => Val.load Tryd.underlying3 rfl (tm rfl)) ?_
    refine LexE.val rfl rfl rfl (fun h' ha => Val.ix (enc := Nd.cells) Tryd.underlying23 zs35 (tm rfl) (tm rfl) (by omega) (gA_at (by omega) (by omega))) ?_
    refine LexE.val rfl rfl rfl (fun h' ha => Val.loadAgg Tryd.underlying35 rfl zs35 (tm rfl) (bl rfl)) ?_
    refine LexE.stp (U := [(3, _)]) rfl rfl rfl rfl (fun h => by first | rfl | cases h) (fun h' ha m' => Stp.allocAt zz35 rfl rfl ((ha.at_ 3 (by decide)).trans rfl) rfl) ?_
    refine LexE.stp (U := [(3, _)]) rfl rfl rfl rfl (fun h => by first | rfl | cases h) (fun h' ha m' => Stp.st (tm rfl) (tm rfl) zs35 rfl rfl ((ha.at_ 3 (by decide)).trans rfl) rfl rfl rfl rfl rfl) ?_
    refine LexE.nil (nm ?_)
    refine W.norm 89 [(2, _), (4, _), (10, _), (11, _), (32, _), (33, _), (34, _)] [some ⟨_, _, [[_]]⟩, some ⟨_, _, [[_]]⟩, some ⟨_, _, [[_, _, _, _, _, _, _, _, _]]⟩, some ⟨_, _, [[_, _, _, _, _, _, _, _, _]]⟩] rfl ⟨rfl, rfl, rfl, rfl, rfl, rfl, rfl, trivial⟩ rfl rfl ?_
    refine W.seq ?_
    refine sr ?_
    refine WL.v (Val.fal (off := 0) Tryd.underlying35 rfl rfl zs3 (tm rfl)) rfl ?_
    refine WL.v (Val.loadLive Tryd.underlying3 rfl (tm rfl) rfl rfl rfl rfl rfl) rfl ?_
    refine WL.v (Val.eql (tm rfl) Ev.const) rfl ?_
    refine WL.norm 89 [(2, _), (4, _), (10, _), (11, _), (32, _), (33, _), (34, _), (49, _)] [some ⟨_, _, [[_]]⟩, some ⟨_, _, [[_]]⟩, some ⟨_, _, [[_, _, _, _, _, _, _, _, _]]⟩, some ⟨_, _, [[_, _, _, _, _, _, _, _, _]]⟩] rfl ⟨rfl, rfl, rfl, rfl, rfl, rfl, rfl, rfl, trivial⟩ rfl rfl ?_
    refine wn ?_
    refine W.condP rfl (fun hc13 => ?_) (fun hc13 => ?_)
    · try simp only [td] at hc13
      refine W.seq ?_
      refine sr ?_
      refine WL.v (Val.fal (off := 6) Tryd.underlying35 rfl rfl zs33 (tm rfl)) rfl ?_
      refine WL.v (Val.loadLiveAgg Tryd.underlying33 rfl zs33 (tm rfl) rfl rfl rfl rfl (bl rfl)) rfl ?_
      refine WL.v (Val.fal (off := 6) Tryd.underlying35 rfl rfl zs33 (tm rfl)) rfl ?_
      refine WL.v (Val.loadLiveAgg Tryd.underlying33 rfl zs33 (tm rfl) rfl rfl rfl rfl (bl rfl)) rfl ?_
      refine WL.v (Val.neqSrt is33 (tm rfl) (tm rfl)) rfl ?_
      refine WL.norm 89 [(2, _), (4, _), (32, _), (33, _), (34, _), (54, _)] [some ⟨_, _, [[_]]⟩, some ⟨_, _, [[_]]⟩, some ⟨_, _, [[_, _, _, _, _, _, _, _, _]]⟩, some ⟨_, _, [[_, _, _, _, _, _, _, _, _]]⟩] rfl ⟨rfl, rfl, rfl, rfl, rfl, rfl, trivial⟩ rfl rfl ?_
      refine wn ?_
      refine W.condP rfl (fun hc14 => ?_) (fun hc14 => ?_)
      · try simp only [td] at hc14
        refine sr ?_
        refine WL.v (Val.assign Ev.const) rfl ?_
        refine WL.norm 89 [(6, _)] [some ⟨_, _, [[_]]⟩, some ⟨_, _, [[_]]⟩, some ⟨_, _, [[_, _, _, _, _, _, _, _, _]]⟩, some ⟨_, _, [[_, _, _, _, _, _, _, _, _]]⟩] rfl ⟨rfl, trivial⟩ rfl rfl ?_
        refine wn ?_
        refine W.ret (rt1 (rt1 (rt2 (rt1 (rt1 (rt2 (rt1 ?_)))))))
        exact Ret.of (.inr rfl) rfl (res1 rfl rfl) (Fewer.nil _) (.inr trivial) (fun id h => absurd h (Nat.not_lt_zero _)) (.same rfl) ⟨rfl, by rw [validE, if_neg (by omega), if_pos hall, firstErr_at hjn (ne_var9 hj0 hc13 hc14) (by decide) (by omega)]⟩
      try simp only [td] at hc14
      have hz := ne_var hj0 hc13 hc14
      refine W.skip (nm ?_)
      refine W.exit (ex1 (ex2 (nm ?_)))
      refine W.region ?_
      refine WL.v (Val.add (tm rfl) Ev.const (IntWalk.i64_in _ (by omega))) rfl ?_
      refine mv rfl rfl ?_
      refine WL.cut (env := [(2, _), (4, _), (32, _), (33, _), (34, _)]) (h' := [some ⟨_, _, [[_]]⟩, some ⟨_, _, [[_]]⟩]) (Fewer.pre _ rfl) (.inr (HLo.box (lo1 lo0) (HLo.box (lo1 lo0) HLo.nil))) (fun id h => absurd h (Nat.not_lt_zero _)) ⟨⟨_, rfl, (.same rfl)⟩, ⟨_, rfl, (.same rfl)⟩, ⟨_, rfl, (.same rfl)⟩, ⟨_, rfl, (.same rfl)⟩, ⟨_, rfl, (.same rfl)⟩, trivial⟩ ?_
      refine wn ?_
      exact ⟨_, by omega, i + 1, rfl, rfl, by omega, by omega, zero_step hj0 hjn hz⟩
    try simp only [td] at hc13
    refine W.skip (nm ?_)
    refine W.seq ?_
    refine W.seq ?_
    refine W.drawE (fun k => ([([2], []), ([], []), ([3], []), ([], []), ([], []), ([], []), ([], []), ([2], []), ([], []), ([], []), ([3], []), ([], []), ([], []), ([], [])] : List (List Nat × List Nat)).getD k ([], [])) rfl (by kernel_rfl) (bl rfl) ?_
    refine LexE.val rfl rfl rfl (fun h' ha => Val.loadLiveAgg Tryd.underlying35 rfl zs35 (tm rfl) ((ha.at_ 2 (by decide)).trans rfl) rfl rfl rfl (bl rfl)) ?_
    refine LexE.call ca31 (fun h' ha => (evc (tm rfl) evn)) (lo2 rfl lo0) rfl (c_shapeOf W0 N (gA p i)) rfl ?_
    refine LexE.val rfl rfl rfl (fun h' ha => Val.loadLiveAgg Tryd.underlying35 rfl zs35 (tm rfl) ((ha.at_ 3 (by decide)).trans rfl) rfl rfl rfl (bl rfl)) ?_
    refine LexE.call ca31 (fun h' ha => (evc (tm rfl) evn)) (lo2 rfl lo0) rfl (c_shapeOf W0 N (gA g (gA m i))) rfl ?_
    refine LexE.val rfl rfl rfl (fun h' ha => Val.neqShp is70 (tm rfl) (tm rfl)) ?_
    refine LexE.val rfl rfl rfl (fun h' ha => Val.move (tm rfl)) ?_
    refine LexE.gval rfl (fun h' => (Grd.f rfl rfl rfl)) rfl (fun hG h' ha => Val.fal (off := 1) Tryd.underlying35 rfl rfl zs22 (tm rfl)) ?_
    refine LexE.gval rfl (fun h' => (Grd.f rfl rfl rfl)) rfl (fun hG h' ha => Val.loadLive Tryd.underlying22 rfl (Ev.opt rfl hG) ((ha.at_ 2 (by decide)).trans rfl) rfl rfl rfl rfl) ?_
    refine LexE.gval rfl (fun h' => (Grd.f rfl rfl rfl)) rfl (fun hG h' ha => Val.ln (enc := encI) Tryd.underlying22 (Ev.opt rfl hG)) ?_
    refine LexE.gval rfl (fun h' => (Grd.f rfl rfl rfl)) rfl (fun hG h' ha => Val.fal (off := 1) Tryd.underlying35 rfl rfl zs22 (tm rfl)) ?_
    refine LexE.gval rfl (fun h' => (Grd.f rfl rfl rfl)) rfl (fun hG h' ha => Val.loadLive Tryd.underlying22 rfl (Ev.opt rfl hG) ((ha.at_ 3 (by decide)).trans rfl) rfl rfl rfl rfl) ?_
    refine LexE.gval rfl (fun h' => (Grd.f rfl rfl rfl)) rfl (fun hG h' ha => Val.ln (enc := encI) Tryd.underlying22 (Ev.opt rfl hG)) ?_
    refine LexE.gval rfl (fun h' => (Grd.f rfl rfl rfl)) rfl (fun hG h' ha => Val.neq (Ev.opt rfl hG) (Ev.opt rfl hG)) ?_
    refine LexE.val rfl rfl rfl (fun h' ha => Val.or (tm rfl) (fun hb => Ev.opt rfl (nt hb))) ?_
    refine LexE.nil (nm ?_)
    refine W.norm 89 [(2, _), (4, _), (10, _), (11, _), (32, _), (33, _), (34, _), (68, _)] [some ⟨_, _, [[_]]⟩, some ⟨_, _, [[_]]⟩, some ⟨_, _, [[_, _, _, _, _, _, _, _, _]]⟩, some ⟨_, _, [[_, _, _, _, _, _, _, _, _]]⟩] rfl ⟨rfl, rfl, rfl, rfl, rfl, rfl, rfl, rfl, trivial⟩ rfl rfl ?_
    refine W.condP rfl (fun hc16 => ?_) (fun hc16 => ?_)
    · have hl := (like_or _ _ _).symm.trans hc16
      refine sr ?_
      refine WL.v (Val.assign Ev.const) rfl ?_
      refine WL.norm 89 [(6, _)] [some ⟨_, _, [[_]]⟩, some ⟨_, _, [[_]]⟩, some ⟨_, _, [[_, _, _, _, _, _, _, _, _]]⟩, some ⟨_, _, [[_, _, _, _, _, _, _, _, _]]⟩] rfl ⟨rfl, trivial⟩ rfl rfl ?_
      refine wn ?_
      refine W.ret (rt1 (rt2 (rt1 (rt1 (rt2 (rt1 ?_))))))
      exact Ret.of (.inr rfl) rfl (res1 rfl rfl) (Fewer.nil _) (.inr trivial) (fun id h => absurd h (Nat.not_lt_zero _)) (.same rfl) ⟨rfl, by rw [validE, if_neg (by omega), if_pos hall, firstErr_at hjn (ne_like hj0 hc13 hl) (by decide) (by omega)]⟩
    have hl := (like_or _ _ _).symm.trans hc16
    have hll := ne_len hl
    refine W.skip (nm ?_)
    refine sr ?_
    refine WL.v (Val.fal (off := 1) Tryd.underlying35 rfl rfl zs22 (tm rfl)) rfl ?_
    refine WL.v (Val.loadLive Tryd.underlying22 rfl (tm rfl) rfl rfl rfl rfl rfl) rfl ?_
    refine WL.v (Val.ln (enc := encI) Tryd.underlying22 (tm rfl)) rfl ?_
    refine WL.v (Val.move Ev.const) rfl ?_
    refine WL.norm 89 [(2, _), (4, _), (11, _), (32, _), (33, _), (34, _), (70, _), (71, _), (72, _)] [some ⟨_, _, [[_]]⟩, some ⟨_, _, [[_]]⟩, some ⟨_, _, [[_, _, _, _, _, _, _, _, _]]⟩, some ⟨_, _, [[_, _, _, _, _, _, _, _, _]]⟩] rfl ⟨rfl, rfl, rfl, rfl, rfl, rfl, rfl, rfl, rfl, trivial⟩ rfl rfl ?_
    refine wn ?_
    refine W.norm 89 [(2, _), (4, _), (11, _), (32, _), (33, _), (34, _), (70, _), (71, _), (72, _)] [some ⟨_, _, [[_]]⟩, some ⟨_, _, [[_]]⟩, some ⟨_, _, [[_, _, _, _, _, _, _, _, _]]⟩, some ⟨_, _, [[_, _, _, _, _, _, _, _, _]]⟩] rfl ⟨rfl, rfl, rfl, rfl, rfl, rfl, rfl, rfl, rfl, trivial⟩ rfl rfl ?_
    refine W.block (W.loop (fun nn S => ∃ (j : Int), S = ⟨89, [(2, .f (.ints m)), (4, .ptr 1 0 1 0 0), (11, .ptr 3 0 9 0 0), (32, .f (.nodes p)), (33, .i p.length), (34, .i i), (70, .f (.ints (gA p i).kids)), (71, .i (gA p i).kids.length), (72, .i j)], [some ⟨0, 1, [[.f (.nodes p)]]⟩, some ⟨0, 1, [[.f (.nodes g)]]⟩, some ⟨0, 9, [(gA p i).cells.map .f]⟩, some ⟨0, 9, [(gA g (gA m i)).cells.map .f]⟩], []⟩ ∧ nn = (((gA p i).kids.length - j).toNat) ∧ (0 ≤ j) ∧ (j ≤ (gA p i).kids.length) ∧ (∀ q : Nat, q < j.toNat → gA m (gA (gA p i).kids q) = gA (gA g (gA m i)).kids q)) ⟨0, rfl, rfl, by omega, by omega, fun j hj => absurd hj (by simp)⟩ ?_)
    rintro nn S ⟨j, rfl, rfl, hq0, hq1, hqn⟩
    refine sr ?_
    refine WL.v (Val.lss (tm rfl) (tm rfl)) rfl ?_
    refine WL.norm 89 [(2, _), (4, _), (11, _), (32, _), (33, _), (34, _), (70, _), (71, _), (72, _), (73, _)] [some ⟨_, _, [[_]]⟩, some ⟨_, _, [[_]]⟩, some ⟨_, _, [[_, _, _, _, _, _, _, _, _]]⟩, some ⟨_, _, [[_, _, _, _, _, _, _, _, _]]⟩] rfl ⟨rfl, rfl, rfl, rfl, rfl, rfl, rfl, rfl, rfl, rfl, trivial⟩ rfl rfl ?_
    refine wn ?_
    refine W.seq ?_
    refine W.condP rfl (fun hc19 => ?_) (fun hc19 => ?_)
    · try simp only [td] at hc19
      refine W.skip (nm ?_)
      refine W.seq ?_
      refine W.block ?_
      refine sr ?_
      refine mv rfl rfl ?_
      refine WL.v (Val.ix (enc := encI) Tryd.underlying22 zs3 (tm rfl) (tm rfl) (by omega) (gA_at (by omega) (by omega))) rfl ?_
      refine WL.v (Val.load Tryd.underlying3 rfl (tm rfl)) rfl ?_
      refine asg rfl rfl ?_
      refine asg rfl rfl ?_
      refine WL.norm 89 [(2, _), (4, _), (11, _), (12, _), (13, _), (32, _), (33, _), (34, _), (70, _), (71, _), (72, _)] [some ⟨_, _, [[_]]⟩, some ⟨_, _, [[_]]⟩, some ⟨_, _, [[_, _, _, _, _, _, _, _, _]]⟩, some ⟨_, _, [[_, _, _, _, _, _, _, _, _]]⟩] rfl ⟨rfl, rfl, rfl, rfl, rfl, rfl, rfl, rfl, rfl, rfl, rfl, trivial⟩ rfl rfl ?_
      refine wn ?_
      refine W.seq ?_
      have hkid := hp.kidsIn hj0 hc10 hq0 hc19
      refine W.drawE (fun k => ([([], []), ([], []), ([], []), ([], []), ([], []), ([3], []), ([], []), ([], []), ([], []), ([], [])] : List (List Nat × List Nat)).getD k ([], [])) rfl (by kernel_rfl) (bl rfl) ?_
      refine LexE.val rfl rfl rfl (fun h' ha => Val.move (tm rfl)) ?_
      refine LexE.val rfl rfl rfl (fun h' ha => Val.move (tm rfl)) ?_
      refine LexE.val rfl rfl rfl (fun h' ha => Val.ix (enc := encI) Tryd.underlying22 zs3 (tm rfl) (tm rfl) (by omega) (gA_at (by omega) (by omega))) ?_
      refine LexE.val rfl rfl rfl (fun h' ha => Val.load Tryd.underlying3 rfl (tm rfl)) ?_
      refine LexE.val rfl rfl rfl (fun h' ha => Val.fal (off := 1) Tryd.underlying35 rfl rfl zs22 (tm rfl)) ?_
      refine LexE.val rfl rfl rfl (fun h' ha => Val.loadLive Tryd.underlying22 rfl (tm rfl) ((ha.at_ 3 (by decide)).trans rfl) rfl rfl rfl rfl) ?_
      refine LexE.val rfl rfl rfl (fun h' ha => Val.move (tm rfl)) ?_
      refine LexE.val rfl rfl rfl (fun h' ha => Val.ix (enc := encI) Tryd.underlying22 zs3 (tm rfl) (tm rfl) (by omega) (gA_at (by omega) (by omega))) ?_
      refine LexE.val rfl rfl rfl (fun h' ha => Val.load Tryd.underlying3 rfl (tm rfl)) ?_
      refine LexE.val rfl rfl rfl (fun h' ha => Val.neq (tm rfl) (tm rfl)) ?_
      refine LexE.nil (nm ?_)
      refine W.norm 89 [(2, _), (4, _), (11, _), (32, _), (33, _), (34, _), (70, _), (71, _), (72, _), (86, _)] [some ⟨_, _, [[_]]⟩, some ⟨_, _, [[_]]⟩, some ⟨_, _, [[_, _, _, _, _, _, _, _, _]]⟩, some ⟨_, _, [[_, _, _, _, _, _, _, _, _]]⟩] rfl ⟨rfl, rfl, rfl, rfl, rfl, rfl, rfl, rfl, rfl, rfl, trivial⟩ rfl rfl ?_
      refine W.condP rfl (fun hc21 => ?_) (fun hc21 => ?_)
      · try simp only [td] at hc21
        refine sr ?_
        refine WL.v (Val.assign Ev.const) rfl ?_
        refine WL.norm 89 [(6, _)] [some ⟨_, _, [[_]]⟩, some ⟨_, _, [[_]]⟩, some ⟨_, _, [[_, _, _, _, _, _, _, _, _]]⟩, some ⟨_, _, [[_, _, _, _, _, _, _, _, _]]⟩] rfl ⟨rfl, trivial⟩ rfl rfl ?_
        refine wn ?_
        refine W.ret (rt2 (rt1 (rt1 (rt2 (rt2 (rt1 (rt1 (rt2 (rt1 ?_)))))))))
        exact Ret.of (.inr rfl) rfl (res1 rfl rfl) (Fewer.nil _) (.inr trivial) (fun id h => absurd h (Nat.not_lt_zero _)) (.same rfl) ⟨rfl, by rw [validE, if_neg (by omega), if_pos hall, firstErr_at hjn (ne_kid hj0 hc13 hl hq0 (by omega) (fun h => hc21 h.symm)) (by decide) (by omega)]⟩
      try simp only [td] at hc21
      refine W.skip (nb (nm ?_))
      refine W.region ?_
      refine WL.v (Val.add (tm rfl) Ev.const (IntWalk.i64_in _ (by omega))) rfl ?_
      refine mv rfl rfl ?_
      refine WL.norm 89 [(2, _), (4, _), (11, _), (32, _), (33, _), (34, _), (70, _), (71, _), (72, _)] [some ⟨_, _, [[_]]⟩, some ⟨_, _, [[_]]⟩, some ⟨_, _, [[_, _, _, _, _, _, _, _, _]]⟩, some ⟨_, _, [[_, _, _, _, _, _, _, _, _]]⟩] rfl ⟨rfl, rfl, rfl, rfl, rfl, rfl, rfl, rfl, rfl, trivial⟩ rfl rfl ?_
      refine wn ?_
      exact ⟨_, by omega, j + 1, rfl, rfl, by omega, by omega, eq_step hq0 hqn (by rw [i_nat hq0]; exact hc21)⟩
    try simp only [td] at hc19
    have hz := ne_ok hj0 hc13 hl hc19 hqn
    refine W.exit (ex1 (ex1 (ex2 (nb (nm ?_)))))
    refine W.region ?_
    refine WL.v (Val.add (tm rfl) Ev.const (IntWalk.i64_in _ (by omega))) rfl ?_
    refine mv rfl rfl ?_
    refine WL.cut (env := [(2, _), (4, _), (32, _), (33, _), (34, _)]) (h' := [some ⟨_, _, [[_]]⟩, some ⟨_, _, [[_]]⟩]) (Fewer.pre _ rfl) (.inr (HLo.box (lo1 lo0) (HLo.box (lo1 lo0) HLo.nil))) (fun id h => absurd h (Nat.not_lt_zero _)) ⟨⟨_, rfl, (.same rfl)⟩, ⟨_, rfl, (.same rfl)⟩, ⟨_, rfl, (.same rfl)⟩, ⟨_, rfl, (.same rfl)⟩, ⟨_, rfl, (.same rfl)⟩, trivial⟩ ?_
    refine wn ?_
    exact ⟨_, by omega, i + 1, rfl, rfl, by omega, by omega, zero_step hj0 hjn hz⟩
  try simp only [td] at hc10
  refine W.exit (ex1 (ex1 (ex2 (nm ?_))))
  refine sr ?_
  refine WL.v (Val.assign Ev.const) rfl ?_
  refine WL.norm 89 [(6, _)] [some ⟨_, _, [[_]]⟩, some ⟨_, _, [[_]]⟩] rfl ⟨rfl, trivial⟩ rfl rfl ?_
  refine wn ?_
  refine W.ret ?_
  exact Ret.of (.inr rfl) rfl (res1 rfl rfl) (Fewer.nil _) (.inr trivial) (fun id h => absurd h (Nat.not_lt_zero _)) (.same rfl) ⟨rfl, by rw [validE, if_neg (by omega), if_pos hall, firstErr_zero (fun j hj => hjn j (by omega))]⟩
end Go.Aw
namespace Go.Aw
open Go.RowKit Go.Proofs

/-! ### The reference's canonical form -/
def visitF (g : List Nd) : Nat → Int → List Int → List Int
  | 0, _, l => l
  | b + 1, i, l => if i ∈ l then l else ((gA g i).kids.foldl (fun l k => visitF g b k l) l) ++ [i]
/-- Numbers of nodes, each once. -/
def VOk (g : List Nd) (l : List Int) : Prop := l.Nodup ∧ ∀ x, x ∈ l → 0 ≤ x ∧ x < (g.length : Int)
theorem nodup_len : ∀ (n : Nat) (l : List Int), l.Nodup → (∀ x, x ∈ l → 0 ≤ x ∧ x < (n : Int)) → l.length ≤ n
  | 0, l, _, h => by
    cases l with
    | nil => simp
    | cons x l => have := h x (List.mem_cons_self ..); omega
  | n + 1, l, hn, h => by
    by_cases hm : (n : Int) ∈ l
    · have := nodup_len n (l.erase (n : Int)) (hn.erase _) (fun x hx => by
        have h1 := (hn.mem_erase_iff).1 hx
        have h2 := h x h1.2
        have : x ≠ n := h1.1
        omega)
      rw [List.length_erase_of_mem hm] at this
      omega
    · have := nodup_len n l hn (fun x hx => by
        have h2 := h x hx
        have : x ≠ n := fun he => hm (he ▸ hx)
        omega)
      omega
theorem VOk.len {g : List Nd} {l : List Int} (h : VOk g l) : l.length ≤ g.length := nodup_len g.length l h.1 h.2
theorem visitF_ok {g : List Nd} (hg : WFG g) : ∀ (b : Nat) (i : Int) (l : List Int), i < b → 0 ≤ i → i < g.length → VOk g l → VOk g (visitF g b i l) ∧ (∀ x, x ∈ visitF g b i l → x ∈ l ∨ x ≤ i)
  | 0, i, l, h, h0, _, _ => by omega
  | b + 1, i, l, hib, h0, hi, hl => by
    rw [visitF]
    split
    · exact ⟨hl, fun x hx => .inl hx⟩
    · rename_i hmem
      have key : ∀ (ks : List Int) (l' : List Int), (∀ k, k ∈ ks → 0 ≤ k ∧ k < i) → VOk g l' → VOk g (ks.foldl (fun l k => visitF g b k l) l') ∧ (∀ x, x ∈ ks.foldl (fun l k => visitF g b k l) l' → x ∈ l' ∨ x < i) := by
        intro ks
        induction ks with
        | nil => intro l' _ h; exact ⟨h, fun x hx => .inl hx⟩
        | cons k ks ih =>
          intro l' hk h
          have hk0 := hk k (List.mem_cons_self ..)
          obtain ⟨h1, h2⟩ := visitF_ok hg b k l' (by omega) hk0.1 (by omega) h
          obtain ⟨h3, h4⟩ := ih (visitF g b k l') (fun q hq => hk q (List.mem_cons_of_mem _ hq)) h1
          refine ⟨h3, fun x hx => ?_⟩
          rcases h4 x hx with hx | hx
          · rcases h2 x hx with hx | hx
            · exact .inl hx
            · exact .inr (by omega)
          · exact .inr hx
      obtain ⟨h1, h2⟩ := key (gA g i).kids l (fun k hk => by have := (hg.node _ _ (gA_at h0 hi)).2 k hk; omega) hl
      refine ⟨⟨?_, ?_⟩, ?_⟩
      · rw [List.nodup_append]
        refine ⟨h1.1, by simp, fun x hx y hy => ?_⟩
        rw [List.mem_singleton.1 hy]
        rcases h2 x hx with hx | hx
        · exact fun he => hmem (he ▸ hx)
        · omega
      · intro x hx
        rcases List.mem_append.1 hx with hx | hx
        · exact h1.2 x hx
        · rw [List.mem_singleton.1 hx]; exact ⟨h0, hi⟩
      · intro x hx
        rcases List.mem_append.1 hx with hx | hx
        · rcases h2 x hx with hx | hx
          · exact .inl hx
          · exact .inr (by omega)
        · rw [List.mem_singleton.1 hx]; exact .inr (Int.le_refl _)
theorem fold_step {α : Type} {f : α → Int → α} {l : List Int} {k : Int} {a : α} (h0 : 0 ≤ k) (h1 : k < l.length) : f ((l.take k.toNat).foldl f a) (gA l k) = (l.take (k + 1).toNat).foldl f a := by
  have : (k + 1).toNat = k.toNat + 1 := by omega
  rw [this, List.take_add_one, gA_at h0 h1]
  simp
/-- Small numbers in decimal. -/
def decB (n : Int) : ByteArray := if n < 10 then ⟨#[UInt8.ofNat (48 + n.toNat)]⟩ else ⟨#[UInt8.ofNat (48 + n.toNat / 10), UInt8.ofNat (48 + n.toNat % 10)]⟩
-- enthymemeref13.visit
-- enthymemeref01.Decimal
end Go.Aw
namespace Go.Aw
open Go.RowKit Go.Proofs

def canonAt (g : List Nd) (l : List Int) : Nat → (List Int × List Nd × Int)
  | 0 => (List.replicate g.length (-1), [], 0)
  | k + 1 =>
    if (gA g (gA l k)).op = 0 then ((canonAt g l k).1.set (gA l k).toNat k, (canonAt g l k).2.1 ++ [{ gA g (gA l k) with kids := (gA g (gA l k)).kids.map (fun q => gA ((canonAt g l k).1.set (gA l k).toNat k) q), text := ⟨#[118]⟩ ++ decB (canonAt g l k).2.2 }], (canonAt g l k).2.2 + 1)
    else ((canonAt g l k).1.set (gA l k).toNat k, (canonAt g l k).2.1 ++ [{ gA g (gA l k) with kids := (gA g (gA l k)).kids.map (fun q => gA ((canonAt g l k).1.set (gA l k).toNat k) q) }], (canonAt g l k).2.2)
theorem canonAt_ok (g : List Nd) (l : List Int) : ∀ k : Nat, (canonAt g l k).1.length = g.length ∧ (canonAt g l k).2.1.length = k ∧ 0 ≤ (canonAt g l k).2.2 ∧ (canonAt g l k).2.2 ≤ k
  | 0 => by simp [canonAt]
  | k + 1 => by
    obtain ⟨h1, h2, h3, h4⟩ := canonAt_ok g l k
    rw [canonAt]
    split
    · simp only [List.length_set, List.length_append, List.length_cons, List.length_nil]; omega
    · simp only [List.length_set, List.length_append, List.length_cons, List.length_nil]; omega
def canonL (g : List Nd) (roots : List Int) : List Int := roots.foldl (fun l r => visitF g g.length r l) []
def canonR (g : List Nd) (roots : List Int) : List Nd × List Int × Int :=
  if (∀ r, r ∈ roots → 0 ≤ r ∧ r < (g.length : Int)) then ((canonAt g (canonL g roots) (canonL g roots).length).2.1, (canonAt g (canonL g roots) (canonL g roots).length).1, 0) else ([], [], 7)
theorem decB_size (n : Int) : (decB n).size ≤ 2 := by unfold decB; split <;> exact Nat.le_of_ble_eq_true rfl
-- enthymemeref07.Moved
-- enthymemeref13.Canon
end Go.Aw
namespace Go.Aw
open Go.RowKit Go.Proofs

def hiS : ByteArray := ⟨(List.toArray (List.append (List.append [48, 48, 48, 49, 48, 50, 48, 51, 48, 52, 48, 53, 48, 54, 48, 55, 48, 56, 48, 57, 49, 48, 49, 49, 49, 50, 49, 51, 49, 52, 49, 53, 49, 54, 49, 55, 49, 56, 49, 57, 50, 48, 50, 49, 50, 50, 50, 51, 50, 52] [50, 53, 50, 54, 50, 55, 50, 56, 50, 57, 51, 48, 51, 49, 51, 50, 51, 51, 51, 52, 51, 53, 51, 54, 51, 55, 51, 56, 51, 57, 52, 48, 52, 49, 52, 50, 52, 51, 52, 52, 52, 53, 52, 54, 52, 55, 52, 56, 52, 57]) (List.append [53, 48, 53, 49, 53, 50, 53, 51, 53, 52, 53, 53, 53, 54, 53, 55, 53, 56, 53, 57, 54, 48, 54, 49, 54, 50, 54, 51, 54, 52, 54, 53, 54, 54, 54, 55, 54, 56, 54, 57, 55, 48, 55, 49, 55, 50, 55, 51, 55, 52] [55, 53, 55, 54, 55, 55, 55, 56, 55, 57, 56, 48, 56, 49, 56, 50, 56, 51, 56, 52, 56, 53, 56, 54, 56, 55, 56, 56, 56, 57, 57, 48, 57, 49, 57, 50, 57, 51, 57, 52, 57, 53, 57, 54, 57, 55, 57, 56, 57, 57])))⟩
theorem small_all : ((List.range 90).all fun i => decide (hiS.extract (2 * (i + 10)) (2 * (i + 10) + 2) = decB ((i + 10 : Nat) : Int))) = true := by kernel_rfl
theorem small_hi {n : Int} (h0 : 10 ≤ n) (h1 : n < 100) : hiS.extract (n * 2).toNat (n * 2 + 2).toNat = decB n := by
  have h := List.all_eq_true.1 small_all (n.toNat - 10) (List.mem_range.2 (by omega))
  rw [decide_eq_true_iff] at h
  have e : n.toNat - 10 + 10 = n.toNat := by omega
  rw [e, show ((n.toNat : Nat) : Int) = n from by omega] at h
  rw [show (n * 2).toNat = 2 * n.toNat from by omega, show (n * 2 + 2).toNat = 2 * n.toNat + 2 from by omega]
  exact h
def smallS : ByteArray := ⟨#[48, 49, 50, 51, 52, 53, 54, 55, 56, 57, 97, 98, 99, 100, 101, 102, 103, 104, 105, 106, 107, 108, 109, 110, 111, 112, 113, 114, 115, 116, 117, 118, 119, 120, 121, 122]⟩
theorem small_lo {n : Int} (h0 : 0 ≤ n) (h1 : n < 10) : smallS.extract n.toNat (n + 1).toNat = decB n := by
  have : n = 0 ∨ n = 1 ∨ n = 2 ∨ n = 3 ∨ n = 4 ∨ n = 5 ∨ n = 6 ∨ n = 7 ∨ n = 8 ∨ n = 9 := by omega
  rcases this with rfl | rfl | rfl | rfl | rfl | rfl | rfl | rfl | rfl | rfl <;> rfl

-- slices.Equal[[]int,int]
-- match.Canonical$1
-- internal/strconv.small
set_option maxHeartbeats 1000000 in
theorem c_small (W0 : World) (N : Nat) (n : Int) (h0 : 0 ≤ n) (h1 : n < 100) : AC (En W0 N) 72 [.i n] [] (fun r h => h = [] ∧ r = .f (.v (.string (decB n)))) := by
  refine AC.enter Tryd.func72 rfl Tryd.ntmps72 (bl rfl) fun X => ?_
  refine sr ?_
  refine WL.v (Val.assign Ev.const) rfl ?_
  refine WL.norm 15 [(0, _)] [] rfl ⟨rfl, trivial⟩ rfl rfl ?_
  refine wn ?_
  refine W.seq ?_
  refine sr ?_
  refine mv rfl rfl ?_
  refine WL.v (Val.lss (tm rfl) Ev.const) rfl ?_
  refine WL.norm 15 [(0, _), (4, _)] [] rfl ⟨rfl, rfl, trivial⟩ rfl rfl ?_
  refine wn ?_
  refine W.condP rfl (fun hc1 => ?_) (fun hc1 => ?_)
  · try simp only [td] at hc1
    refine sr ?_
    refine mv rfl rfl ?_
    refine mv rfl rfl ?_
    refine WL.v (Val.add (tm rfl) Ev.const (IntWalk.i64_in _ (by omega))) rfl ?_
    refine WL.v (Val.sliceSI Tryd.underlying9 Ev.const ⟨_, (tm rfl)⟩ ⟨_, (tm rfl)⟩ (by omega) (by omega) (by show _ ≤ (36 : Int); omega)) rfl ?_
    refine asg rfl rfl ?_
    refine WL.norm 15 [(2, _)] [] rfl ⟨rfl, trivial⟩ rfl rfl ?_
    refine wn ?_
    refine W.ret (rt1 ?_)
    exact Ret.of (.inr rfl) rfl (res1 rfl rfl) (Fewer.nil _) (.inr trivial) (fun id h => absurd h (Nat.not_lt_zero _)) (.same rfl) ⟨rfl, congrArg (fun s => AV.f (.v (.string s))) (small_lo h0 hc1)⟩
  try simp only [td] at hc1
  refine W.skip (nm ?_)
  refine sr ?_
  refine mv rfl rfl ?_
  refine WL.v (Val.mul (tm rfl) Ev.const (IntWalk.i64_in _ (by omega))) rfl ?_
  refine mv rfl rfl ?_
  refine WL.v (Val.mul (tm rfl) Ev.const (IntWalk.i64_in _ (by omega))) rfl ?_
  refine WL.v (Val.add (tm rfl) Ev.const (IntWalk.i64_in _ (by omega))) rfl ?_
  refine WL.v (Val.sliceSI Tryd.underlying9 Ev.const ⟨_, (tm rfl)⟩ ⟨_, (tm rfl)⟩ (by omega) (by omega) (by show _ ≤ (200 : Int); omega)) rfl ?_
  refine asg rfl rfl ?_
  refine WL.norm 15 [(2, _)] [] rfl ⟨rfl, trivial⟩ rfl rfl ?_
  refine wn ?_
  refine W.ret ?_
  exact Ret.of (.inr rfl) rfl (res1 rfl rfl) (Fewer.nil _) (.inr trivial) (fun id h => absurd h (Nat.not_lt_zero _)) (.same rfl) ⟨rfl, congrArg (fun s => AV.f (.v (.string s))) (small_hi (by omega) h1)⟩
-- internal/strconv.FormatInt
set_option maxHeartbeats 1000000 in
theorem c_FormatInt (W0 : World) (N : Nat) (n : Int) (h0 : 0 ≤ n) (h1 : n < 100) : AC (En W0 N) 60 [.i n, .i 10] [] (fun r h => h = [] ∧ r = .f (.v (.string (decB n)))) := by
  refine AC.enter Tryd.func60 rfl Tryd.ntmps60 (bl rfl) fun X => ?_
  refine sr ?_
  refine WL.v (Val.assign Ev.const) rfl ?_
  refine WL.norm 54 [(0, _), (1, _)] [] rfl ⟨rfl, rfl, trivial⟩ rfl rfl ?_
  refine wn ?_
  refine W.seq ?_
  refine sr ?_
  refine mv rfl rfl ?_
  refine WL.v (Val.eql (tm rfl) Ev.const) rfl ?_
  refine WL.norm 54 [(0, _), (1, _), (11, _)] [] rfl ⟨rfl, rfl, rfl, trivial⟩ rfl rfl ?_
  refine wn ?_
  refine W.condP rfl (fun hc1 => ?_) (fun hc1 => ?_)
  · try simp only [td] at hc1
    refine W.seq ?_
    refine sr ?_
    refine mv rfl rfl ?_
    refine WL.v (Val.leq Ev.const (tm rfl)) rfl ?_
    refine mv rfl rfl ?_
    refine WL.g (Grd.t rfl rfl rfl) (fun hG => Val.move (tm rfl)) rfl ?_
    refine WL.g (Grd.t rfl rfl rfl) (fun hG => Val.lss (Ev.opt rfl hG) Ev.const) rfl ?_
    refine WL.v (Val.and (tm rfl) (fun hb => Ev.opt rfl hb)) rfl ?_
    refine WL.norm 54 [(0, _), (17, _)] [] rfl ⟨rfl, rfl, trivial⟩ rfl rfl ?_
    refine wn ?_
    refine W.condP rfl (fun hc2 => ?_) (fun hc2 => ?_)
    · try simp only [td] at hc2
      refine sr ?_
      refine mv rfl rfl ?_
      refine WL.callV ca72 (evc (tm rfl) evn) (lo1 lo0) rfl (c_small W0 N _ (by omega) (by omega)) ?_
      rintro _ rfl
      refine asg rfl rfl ?_
      refine WL.norm 54 [(4, _)] [] rfl ⟨rfl, trivial⟩ rfl rfl ?_
      refine wn ?_
      refine W.ret (rt1 (rt1 ?_))
      exact Ret.of (.inr rfl) rfl (res1 rfl rfl) (Fewer.nil _) (.inr trivial) (fun id h => absurd h (Nat.not_lt_zero _)) (.same rfl) ⟨rfl, rfl⟩
    try simp only [td] at hc2
    exfalso; omega
  exact absurd hc1 (by decide)
-- internal/strconv.Itoa
set_option maxHeartbeats 1000000 in
theorem c_Itoa (W0 : World) (N : Nat) (n : Int) (h0 : 0 ≤ n) (h1 : n < 100) : AC (En W0 N) 49 [.i n] [] (fun r h => h = [] ∧ r = .f (.v (.string (decB n)))) := by
  refine AC.enter Tryd.func49 rfl Tryd.ntmps49 (bl rfl) fun X => ?_
  refine sr ?_
  refine WL.v (Val.assign Ev.const) rfl ?_
  refine WL.norm 5 [(0, _)] [] rfl ⟨rfl, trivial⟩ rfl rfl ?_
  refine wn ?_
  refine sr ?_
  refine mv rfl rfl ?_
  refine WL.callV ca60 (evc (tm rfl) (evc Ev.const evn)) (lo1 (lo1 lo0)) rfl (c_FormatInt W0 N _ (by omega) (by omega)) ?_
  rintro _ rfl
  refine asg rfl rfl ?_
  refine WL.norm 5 [(2, _)] [] rfl ⟨rfl, trivial⟩ rfl rfl ?_
  refine wn ?_
  refine W.ret ?_
  exact Ret.of (.inr rfl) rfl (res1 rfl rfl) (Fewer.nil _) (.inr trivial) (fun id h => absurd h (Nat.not_lt_zero _)) (.same rfl) ⟨rfl, rfl⟩
-- strconv.Itoa
set_option maxHeartbeats 1000000 in
theorem c_Itoa2 (W0 : World) (N : Nat) (n : Int) (h0 : 0 ≤ n) (h1 : n < 100) : AC (En W0 N) 35 [.i n] [] (fun r h => h = [] ∧ r = .f (.v (.string (decB n)))) := by
  refine AC.enter Tryd.func35 rfl Tryd.ntmps35 (bl rfl) fun X => ?_
  refine sr ?_
  refine WL.v (Val.assign Ev.const) rfl ?_
  refine WL.norm 5 [(0, _)] [] rfl ⟨rfl, trivial⟩ rfl rfl ?_
  refine wn ?_
  refine sr ?_
  refine mv rfl rfl ?_
  refine WL.callV ca49 (evc (tm rfl) evn) (lo1 lo0) rfl (c_Itoa W0 N _ (by omega) (by omega)) ?_
  rintro _ rfl
  refine asg rfl rfl ?_
  refine WL.norm 5 [(2, _)] [] rfl ⟨rfl, trivial⟩ rfl rfl ?_
  refine wn ?_
  refine W.ret ?_
  exact Ret.of (.inr rfl) rfl (res1 rfl rfl) (Fewer.nil _) (.inr trivial) (fun id h => absurd h (Nat.not_lt_zero _)) (.same rfl) ⟨rfl, rfl⟩
end Go.Aw
