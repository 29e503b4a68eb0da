/- The visit of match.Canon. The call of match.Canon's closure from outside. The walk of match.Canon. What a canonical form is: its nodes and numbers, in plain words. The search for an embedding, as a function, and what keeps it within bounds. The walks of Canonical, EqualFunc and small functions of the law. The walks of Embed's closures. The walk of match.Embed. The walk of the law's example. -/
import Derived.Test.YtdjiaddhgooppaaDoorAwe
set_option linter.unusedVariables false
set_option linter.unusedSimpArgs false
namespace Go.Aw
open Go.RowKit Go.Proofs

theorem I6.small {n : Int} (h0 : 0 ≤ n) (h1 : n ≤ 1000000) : I6 n := by constructor <;> omega
/-- The rows of the visit, in its own numbering. -/
abbrev capsC : List AV := [.ptr 0 0 1 0 0, .ptr 1 0 1 0 0, .ptr 2 0 1 0 0, .ptr 3 0 1 0 0, .ptr 4 0 1 0 0]
abbrev HC (g : List Nd) (gN : Nat) (c : List Int × List Nd × Int) (vC : AV) (o6 : Option Row) : Heap :=
  [some ⟨0, 1, [[.row 5 gN 1 0 g.length]]⟩, some ⟨0, 1, [[.f (.nodes g)]]⟩, some ⟨0, 1, [[.fn (.func 34) capsC]]⟩, some ⟨0, 1, [[.i c.2.2]]⟩, some ⟨0, 1, [[vC]]⟩, some ⟨gN, 1, fz (c.1.map encI)⟩, o6]
def RC (g : List Nd) (gN : Nat) (l : List Int) : AV → Heap → Prop := fun r h => r = .tup [] ∧ ∃ vC o6, h = HC g gN (canonAt g l l.length) vC o6 ∧ Acc 6 9 (fz ((canonAt g l l.length).2.1.map Nd.cells)) vC o6
theorem HC.lo {g : List Nd} {gN : Nat} {c : List Int × List Nd × Int} {vC : AV} {o6 : Option Row} (hc : Acc 6 9 (fz (c.2.1.map Nd.cells)) vC o6) : HLo (HC g gN c vC o6) (HC g gN c vC o6) :=
  HLo.box (lo4 rfl lo0) (HLo.box (lo1 lo0) (HLo.box (lo5 rfl lo0) (HLo.box (lo1 lo0) (HLo.box (lo5 (lo_acc hc rfl) lo0) (HLo.fz (HLo.o (oLo_acc hc) HLo.nil))))))
theorem hm7 {r0 r1 r2 r3 r4 r5 : Row} {o : Option Row} (suf : Heap) : ∀ id, id < 7 → Heap.has [some r0, some r1, some r2, some r3, some r4, some r5, o] id = true ∨ (([some r0, some r1, some r2, some r3, some r4, some r5, o] : Heap) ++ suf)[id]?.join = none := by
  intro id h
  have : id = 0 ∨ id = 1 ∨ id = 2 ∨ id = 3 ∨ id = 4 ∨ id = 5 ∨ id = 6 := by omega
  rcases this with rfl | rfl | rfl | rfl | rfl | rfl | rfl
  all_goals first | exact .inl rfl | (cases o <;> first | exact .inl rfl | exact .inr rfl)
theorem RC.ok {g : List Nd} {gN : Nat} {l : List Int} {n : Nat} (hn : n = 7) : ∀ r h', RC g gN l r h' → r.lo h' = true ∧ HLo h' h' ∧ h'.length = n := by
  rintro r h' ⟨rfl, vC, o6, rfl, hc⟩
  exact ⟨rfl, HC.lo hc, hn.symm⟩
/-- A node has a number exactly if it is among those that are visited. -/
theorem canonAt_take (g : List Nd) (l l' : List Int) : ∀ k : Nat, k ≤ l.length → (∀ j, j < k → l[j]? = l'[j]?) → canonAt g l k = canonAt g l' k
  | 0, _, _ => rfl
  | k + 1, hk, h => by
    have e : gA l (k : Int) = gA l' (k : Int) := by simp only [gA, Int.toNat_natCast, List.getD, h k (by omega)]
    rw [canonAt, canonAt, canonAt_take g l l' k (by omega) (fun j hj => h j (by omega)), e]
theorem gA_set_same {l : List Int} {i : Nat} {x v : Int} (hx : x.toNat = i) (hl : i < l.length) : gA (l.set i v) x = v := by
  show (l.set i v).getD x.toNat default = v
  rw [List.getD, hx, List.getElem?_set_self hl]; rfl
theorem gA_set_ne {l : List Int} {i : Nat} {x v : Int} (h : i ≠ x.toNat) : gA (l.set i v) x = gA l x := by
  show (l.set i v).getD x.toNat default = l.getD x.toNat default
  rw [List.getD, List.getD, List.getElem?_set_ne h]
theorem canonAt_to (g : List Nd) (l : List Int) (hl : VOk g l) : ∀ k : Nat, k ≤ l.length → ∀ x : Int, 0 ≤ x → x < g.length → (0 ≤ gA (canonAt g l k).1 x ↔ x ∈ l.take k) := by
  intro k
  induction k with
  | zero =>
    intro _ x h0 h1
    have : gA (List.replicate g.length (-1 : Int)) x = -1 := by
      have hx : x.toNat < g.length := by omega
      simp [gA, List.getD, List.getElem?_replicate, hx]
    simp [canonAt, this]
  | succ k ih =>
    intro hk x h0 h1
    have e1 : (canonAt g l (k + 1)).1 = (canonAt g l k).1.set (gA l k).toNat k := by rw [canonAt]; split <;> rfl
    have hlen := (canonAt_ok g l k).1
    have hx := hl.2 _ (gA_mem (l := l) (i := (k : Int)) (by omega) (by omega))
    have et : l.take (k + 1) = l.take k ++ [gA l k] := by
      have := gA_at (l := l) (i := (k : Int)) (by omega) (by omega)
      rw [Int.toNat_natCast] at this
      rw [List.take_add_one, this]; rfl
    rw [e1, et]
    by_cases hxk : x = gA l k
    · have : gA ((canonAt g l k).1.set (gA l k).toNat (k : Int)) x = k := gA_set_same (by rw [hxk]) (by omega)
      rw [this]; simp [hxk]
    · have hne : (gA l k).toNat ≠ x.toNat := by omega
      have : gA ((canonAt g l k).1.set (gA l k).toNat (k : Int)) x = gA (canonAt g l k).1 x := gA_set_ne hne
      rw [this, ih (by omega) x h0 h1]; simp [hxk]
theorem map_kids {ks kids : List Int} {F : Int → Int} (hl : ks.length = kids.length) (h : ∀ j : Nat, j < kids.length → gA ks j = F (gA kids j)) : kids.map F = ks := by
  apply List.ext_getElem?
  intro j
  by_cases hj : j < kids.length
  · have h1 := gA_at (l := kids) (i := (j : Int)) (by omega) (by omega)
    have h2 := gA_at (l := ks) (i := (j : Int)) (by omega) (by omega)
    rw [Int.toNat_natCast] at h1 h2
    rw [List.getElem?_map, h1, h2, h j hj]; rfl
  · rw [List.getElem?_eq_none (by simp; omega), List.getElem?_eq_none (by omega)]
theorem set_step {ks : List Int} {k v : Int} {F : Nat → Int} (h0 : 0 ≤ k) (hk : k < ks.length) (hv : v = F k.toNat) (h : ∀ j : Nat, j < k.toNat → gA ks j = F j) : ∀ j : Nat, j < (k + 1).toNat → gA (ks.set k.toNat v) j = F j := by
  intro j hj
  by_cases hjk : j = k.toNat
  · rw [hjk, hv]; exact gA_set_same (by omega) (by omega)
  · rw [gA_set_ne (by omega)]; exact h j (by omega)
theorem canon_more {g : List Nd} (hg : WFG g) {l' ks : List Int} {n m : Int} (h0 : 0 ≤ n) (hn : n < g.length) (hm : m = l'.length) (hkl : ks.length = (gA g n).kids.length) (hks : ∀ j : Nat, j < (gA g n).kids.length → gA ks j = gA (canonAt g l' l'.length).1 (gA (gA g n).kids j)) :
    canonAt g (l' ++ [n]) (l' ++ [n]).length = if (gA g n).op = 0 then ((canonAt g l' l'.length).1.set n.toNat m, (canonAt g l' l'.length).2.1 ++ [{ gA g n with kids := ks, text := ⟨#[118]⟩ ++ decB (canonAt g l' l'.length).2.2 }], (canonAt g l' l'.length).2.2 + 1)
      else ((canonAt g l' l'.length).1.set n.toNat m, (canonAt g l' l'.length).2.1 ++ [{ gA g n with kids := ks }], (canonAt g l' l'.length).2.2) := by
  have e1 : gA (l' ++ [n]) (l'.length : Int) = n := by simp [gA, List.getD]
  have e2 : (gA g n).kids.map (fun q => gA ((canonAt g l' l'.length).1.set n.toNat (l'.length : Int)) q) = ks := map_kids hkl fun j hj => by
    have := hg.kid h0 hn (k := (j : Int)) (by omega) (by omega)
    rw [gA_set_ne (by omega)]; exact hks j hj
  rw [List.length_append, show l'.length + [n].length = l'.length + 1 from rfl, canonAt, ← canonAt_take g l' (l' ++ [n]) l'.length (Nat.le_refl _) (fun j hj => by rw [List.getElem?_append_left hj]), e1, e2, hm]
theorem RC.fin {g : List Nd} {gN : Nat} {L l' : List Int} {n : Int} {c' : List Int × List Nd × Int} {vC : AV} {o6 : Option Row} (hv : L = l' ++ [n]) (hcm : canonAt g (l' ++ [n]) (l' ++ [n]).length = c') (hc : Acc 6 9 (fz (c'.2.1.map Nd.cells)) vC o6) : RC g gN L (.tup []) (HC g gN c' vC o6) := by
  subst hv hcm
  exact ⟨rfl, vC, o6, rfl, hc⟩

-- match.Canon$1
set_option maxHeartbeats 1000000 in
theorem c_visitM (W0 : World) (N : Nat) (g : List Nd) (hg : WFG g) (h99 : g.length ≤ 99) (gN : Nat) : ∀ (b : Nat) (n : Int) (l : List Int) (vC : AV) (o6 : Option Row), n < b → 0 ≤ n → n < g.length → VOk g l → Acc 6 9 (fz ((canonAt g l l.length).2.1.map Nd.cells)) vC o6 → AC (En W0 N) 34 [.i n, .ptr 0 0 1 0 0, .ptr 1 0 1 0 0, .ptr 2 0 1 0 0, .ptr 3 0 1 0 0, .ptr 4 0 1 0 0] (HC g gN (canonAt g l l.length) vC o6) (RC g gN (visitF g b n l)) := by
  intro b
  induction b with
  | zero => intro n l vC o6 h1 h2; omega
  | succ b ih =>
  intro n l vC o6 hnb h0 hn hok hc
  have hfew := hg.few h0 hn
  have hgl := hg.len
  have hll := hok.len
  have hcl := (canonAt_ok g l l.length).1
  have hto := canonAt_to g l hok l.length (Nat.le_refl _) n h0 hn
  refine AC.enter Tryd.func34 rfl Tryd.ntmps34 (bl rfl) fun X => ?_
  refine W.seq ?_
  refine sr ?_
  refine WL.v (Val.loadLive Tryd.underlying22 rfl (tm rfl) rfl rfl rfl rfl rfl) rfl ?_
  refine mv rfl rfl ?_
  refine WL.v (Val.indexAddrLive Tryd.underlying22 zs3 (tm rfl) (tm rfl) (by omega) (by omega)) rfl ?_
  refine WL.v (Val.loadLive Tryd.underlying3 rfl (tm rfl) rfl rfl rfl (fz_at (by omega) (by rw [hcl]; omega)) rfl) rfl ?_
  refine WL.v (Val.geq (tm rfl) Ev.const) rfl ?_
  refine WL.norm 77 [(0, _), (1, _), (2, _), (3, _), (4, _), (5, _), (17, _)] [some ⟨_, _, [[_]]⟩, some ⟨_, _, [[_]]⟩, some ⟨_, _, [[_]]⟩, some ⟨_, _, [[_]]⟩, some ⟨_, _, [[_]]⟩, some ⟨_, _, _⟩, _] rfl ⟨rfl, rfl, rfl, rfl, rfl, rfl, rfl, trivial⟩ rfl rfl ?_
  refine wn ?_
  refine W.condP rfl (fun hc0 => ?_) (fun hc0 => ?_)
  · try simp only [td] at hc0
    refine W.ret (rt1 ?_)
    exact Ret.keep (.inr rfl) rfl (res0 rfl) rfl ⟨rfl, vC, o6, by rw [visitF, if_pos (by have := hto.1 hc0; rwa [List.take_length] at this)]; rfl, by rw [visitF, if_pos (by have := hto.1 hc0; rwa [List.take_length] at this)]; exact hc⟩
  try simp only [td] at hc0
  refine W.skip (nm ?_)
  refine sr ?_
  refine WL.v (Val.fal (off := 0) Tryd.underlying39 rfl rfl zs23 (tm rfl)) rfl ?_
  refine WL.v (Val.loadLive Tryd.underlying23 rfl (tm rfl) rfl rfl rfl rfl rfl) rfl ?_
  refine mv rfl rfl ?_
  refine WL.v (Val.ix (enc := Nd.cells) Tryd.underlying23 zs35 (tm rfl) (tm rfl) (by omega) (gA_at (by omega) (by omega))) rfl ?_
  refine WL.v (Val.loadAgg Tryd.underlying35 rfl zs35 (tm rfl) (bl rfl)) rfl ?_
  refine WL.stp rfl (Stp.alloc zz35 rfl rfl) ?_
  refine WL.stp rfl (Stp.st (tm rfl) (tm rfl) zs35 rfl rfl rfl rfl rfl rfl rfl rfl) ?_
  refine WL.norm 77 [(0, _), (1, _), (3, _), (4, _), (5, _), (7, _)] [some ⟨_, _, [[_]]⟩, some ⟨_, _, [[_]]⟩, some ⟨_, _, [[_]]⟩, some ⟨_, _, [[_]]⟩, some ⟨_, _, [[_]]⟩, some ⟨_, _, _⟩, _, some ⟨_, _, [[_, _, _, _, _, _, _, _, _]]⟩] rfl ⟨rfl, rfl, rfl, rfl, rfl, rfl, trivial⟩ rfl rfl ?_
  refine wn ?_
  refine W.seq ?_
  refine sr ?_
  refine WL.v (Val.fal (off := 1) Tryd.underlying35 rfl rfl zs22 (tm rfl)) rfl ?_
  refine WL.v (Val.loadLive Tryd.underlying22 rfl (tm rfl) rfl rfl rfl rfl rfl) rfl ?_
  refine WL.v (Val.ln (enc := encI) Tryd.underlying22 (tm rfl)) rfl ?_
  refine WL.v (Val.move Ev.const) rfl ?_
  refine WL.norm 77 [(0, _), (1, _), (3, _), (4, _), (5, _), (7, _), (24, _), (25, _), (26, _)] [some ⟨_, _, [[_]]⟩, some ⟨_, _, [[_]]⟩, some ⟨_, _, [[_]]⟩, some ⟨_, _, [[_]]⟩, some ⟨_, _, [[_]]⟩, some ⟨_, _, _⟩, _, some ⟨_, _, [[_, _, _, _, _, _, _, _, _]]⟩] rfl ⟨rfl, rfl, rfl, rfl, rfl, rfl, rfl, rfl, rfl, trivial⟩ rfl rfl ?_
  refine wn ?_
  refine W.norm 77 [(0, _), (1, _), (3, _), (4, _), (5, _), (7, _), (24, _), (25, _), (26, _)] [some ⟨_, _, [[_]]⟩, some ⟨_, _, [[_]]⟩, some ⟨_, _, [[_]]⟩, some ⟨_, _, [[_]]⟩, some ⟨_, _, [[_]]⟩, some ⟨_, _, _⟩, _, some ⟨_, _, [[_, _, _, _, _, _, _, _, _]]⟩] rfl ⟨rfl, rfl, rfl, rfl, rfl, rfl, rfl, rfl, rfl, trivial⟩ rfl rfl ?_
  refine W.block (W.loop (fun nn S => ∃ (k : Int) (l' : List Int) (vC : AV) (o6 : Option Row), S = ⟨77, [(0, .i n), (1, .ptr 0 0 1 0 0), (3, .ptr 2 0 1 0 0), (4, .ptr 3 0 1 0 0), (5, .ptr 4 0 1 0 0), (7, .ptr 7 0 9 0 0), (24, .f (.ints (gA g n).kids)), (25, .i (gA g n).kids.length), (26, .i k)], HC g gN (canonAt g l' l'.length) vC o6 ++ [some ⟨0, 9, [(gA g n).cells.map .f]⟩], []⟩ ∧ nn = (((gA g n).kids.length - k).toNat) ∧ (0 ≤ k) ∧ (k ≤ (gA g n).kids.length) ∧ (l' = ((gA g n).kids.take k.toNat).foldl (fun l k => visitF g b k l) l) ∧ (Acc 6 9 (fz ((canonAt g l' l'.length).2.1.map Nd.cells)) vC o6) ∧ (VOk g l')) ⟨0, l, _, _, rfl, rfl, by omega, by omega, rfl, hc, hok⟩ ?_)
  rintro nn S ⟨k, l', vC, o6, rfl, rfl, hk0, hk1, hle, hc, hok'⟩
  refine sr ?_
  refine WL.v (Val.lss (tm rfl) (tm rfl)) rfl ?_
  refine WL.norm 77 [(0, _), (1, _), (3, _), (4, _), (5, _), (7, _), (24, _), (25, _), (26, _), (27, _)] [some ⟨_, _, [[_]]⟩, some ⟨_, _, [[_]]⟩, some ⟨_, _, [[_]]⟩, some ⟨_, _, [[_]]⟩, some ⟨_, _, [[_]]⟩, some ⟨_, _, _⟩, _, some ⟨_, _, [[_, _, _, _, _, _, _, _, _]]⟩] rfl ⟨rfl, rfl, rfl, rfl, rfl, rfl, rfl, rfl, rfl, rfl, trivial⟩ rfl rfl ?_
  refine wn ?_
  refine W.seq ?_
  refine W.condP rfl (fun hc3 => ?_) (fun hc3 => ?_)
  · try simp only [td] at hc3
    refine W.skip (nm ?_)
    refine W.seq ?_
    refine W.block ?_
    refine sr ?_
    refine WL.v (Val.ix (enc := encI) Tryd.underlying22 zs3 (tm rfl) (tm rfl) (by omega) (gA_at (by omega) (by omega))) rfl ?_
    refine WL.v (Val.load Tryd.underlying3 rfl (tm rfl)) rfl ?_
    refine asg rfl rfl ?_
    refine WL.norm 77 [(0, _), (1, _), (3, _), (4, _), (5, _), (7, _), (9, _), (24, _), (25, _), (26, _)] [some ⟨_, _, [[_]]⟩, some ⟨_, _, [[_]]⟩, some ⟨_, _, [[_]]⟩, some ⟨_, _, [[_]]⟩, some ⟨_, _, [[_]]⟩, some ⟨_, _, _⟩, _, some ⟨_, _, [[_, _, _, _, _, _, _, _, _]]⟩] rfl ⟨rfl, rfl, rfl, rfl, rfl, rfl, rfl, rfl, rfl, rfl, trivial⟩ rfl rfl ?_
    refine wn ?_
    have hk := hg.kid h0 hn hk0 hc3
    have hok2 := (visitF_ok hg b (gA (gA g n).kids k) l' (by omega) hk.1 (by omega) hok').1
    refine W.region ?_
    refine WL.v (Val.loadLive Tryd.underlying74 rfl (tm rfl) rfl rfl rfl rfl rfl) rfl ?_
    refine mv rfl rfl ?_
    refine WL.callPre (d := some 32) (c := .tmp 30) (args := [.i (gA (gA g n).kids k)]) (caps := capsC) (HC g gN (canonAt g l' l'.length) vC o6) _ ca34 (Fun.clo (tm rfl)) (evc (tm rfl) evn) rfl rfl rfl (HC.lo hc) (ih _ l' vC o6 (by omega) hk.1 (by omega) hok' hc) (RC.ok rfl) rfl ?_
    rintro _ _ ⟨rfl, vC', o6', rfl, hc'⟩
    refine WL.norm 77 [(0, _), (1, _), (3, _), (4, _), (5, _), (7, _), (24, _), (25, _), (26, _)] [some ⟨_, _, [[_]]⟩, some ⟨_, _, [[_]]⟩, some ⟨_, _, [[_]]⟩, some ⟨_, _, [[_]]⟩, some ⟨_, _, [[_]]⟩, some ⟨_, _, _⟩, _, some ⟨_, _, [[_, _, _, _, _, _, _, _, _]]⟩] rfl ⟨rfl, rfl, rfl, rfl, rfl, rfl, rfl, rfl, rfl, trivial⟩ rfl rfl ?_
    refine WL.nil (nb (nm ?_))
    refine W.region ?_
    refine WL.v (Val.add (tm rfl) Ev.const (IntWalk.i64_in _ (by omega))) rfl ?_
    refine mv rfl rfl ?_
    refine WL.norm 77 [(0, _), (1, _), (3, _), (4, _), (5, _), (7, _), (24, _), (25, _), (26, _)] [some ⟨_, _, [[_]]⟩, some ⟨_, _, [[_]]⟩, some ⟨_, _, [[_]]⟩, some ⟨_, _, [[_]]⟩, some ⟨_, _, [[_]]⟩, some ⟨_, _, _⟩, _, some ⟨_, _, [[_, _, _, _, _, _, _, _, _]]⟩] rfl ⟨rfl, rfl, rfl, rfl, rfl, rfl, rfl, rfl, rfl, trivial⟩ rfl rfl ?_
    refine wn ?_
    exact ⟨_, by omega, k + 1, _, _, _, rfl, rfl, by omega, by omega, by rw [hle]; exact fold_step (f := fun l k => visitF g b k l) hk0 hc3, hc', hok2⟩
  try simp only [td] at hc3
  refine W.exit (ex1 (ex1 (ex2 (nm ?_))))
  refine sr ?_
  refine WL.v (Val.fal (off := 1) Tryd.underlying35 rfl rfl zs22 (tm rfl)) rfl ?_
  refine WL.v (Val.loadLive Tryd.underlying22 rfl (tm rfl) rfl rfl rfl rfl rfl) rfl ?_
  refine WL.v (Val.ln (enc := encI) Tryd.underlying22 (tm rfl)) rfl ?_
  refine WL.stp rfl (Stp.makeI Tryd.underlying22 zs3 zb3 zz3 (tm rfl) (tm rfl) (by omega) (by omega) rfl) ?_
  refine asg rfl rfl ?_
  refine WL.norm 77 [(0, _), (1, _), (4, _), (5, _), (7, _), (10, _)] [some ⟨_, _, [[_]]⟩, some ⟨_, _, [[_]]⟩, some ⟨_, _, [[_]]⟩, some ⟨_, _, [[_]]⟩, some ⟨_, _, [[_]]⟩, some ⟨_, _, _⟩, _, some ⟨_, _, [[_, _, _, _, _, _, _, _, _]]⟩, some ⟨_, _, _⟩] rfl ⟨rfl, rfl, rfl, rfl, rfl, rfl, trivial⟩ rfl rfl ?_
  refine wn ?_
  refine W.seq ?_
  refine W.seq ?_
  obtain ⟨hcl2, hcl3, hcl4, hcl5⟩ := canonAt_ok g l' l'.length
  have hll2 := hok'.len
  have hv : visitF g (b + 1) n l = l' ++ [n] := by rw [visitF, if_neg (fun hm => by have := hto.2 (by rw [List.take_length]; exact hm); omega), hle, show k.toNat = (gA g n).kids.length from by omega, List.take_length]
  refine W.region ?_
  refine WL.v (Val.fal (off := 1) Tryd.underlying35 rfl rfl zs22 (tm rfl)) rfl ?_
  refine WL.v (Val.loadLive Tryd.underlying22 rfl (tm rfl) rfl rfl rfl rfl rfl) rfl ?_
  refine WL.v (Val.ln (enc := encI) Tryd.underlying22 (tm rfl)) rfl ?_
  refine WL.v (Val.move Ev.const) rfl ?_
  refine WL.norm 77 [(0, _), (1, _), (4, _), (5, _), (7, _), (10, _), (39, _), (40, _), (41, _)] [some ⟨_, _, [[_]]⟩, some ⟨_, _, [[_]]⟩, some ⟨_, _, [[_]]⟩, some ⟨_, _, [[_]]⟩, some ⟨_, _, [[_]]⟩, some ⟨_, _, _⟩, _, some ⟨_, _, [[_, _, _, _, _, _, _, _, _]]⟩, some ⟨_, _, _⟩] rfl ⟨rfl, rfl, rfl, rfl, rfl, rfl, rfl, rfl, rfl, trivial⟩ rfl rfl ?_
  refine wn ?_
  refine W.norm 77 [(0, _), (1, _), (4, _), (5, _), (7, _), (10, _), (39, _), (40, _), (41, _)] [some ⟨_, _, [[_]]⟩, some ⟨_, _, [[_]]⟩, some ⟨_, _, [[_]]⟩, some ⟨_, _, [[_]]⟩, some ⟨_, _, [[_]]⟩, some ⟨_, _, _⟩, _, some ⟨_, _, [[_, _, _, _, _, _, _, _, _]]⟩, some ⟨_, _, _⟩] rfl ⟨rfl, rfl, rfl, rfl, rfl, rfl, rfl, rfl, rfl, trivial⟩ rfl rfl ?_
  refine W.block (W.loop (fun nn S => ∃ (k : Int) (ks : List Int), S = ⟨77, [(0, .i n), (1, .ptr 0 0 1 0 0), (4, .ptr 3 0 1 0 0), (5, .ptr 4 0 1 0 0), (7, .ptr 7 0 9 0 0), (10, .row 8 0 1 0 (gA g n).kids.length), (39, .f (.ints (gA g n).kids)), (40, .i (gA g n).kids.length), (41, .i k)], HC g gN (canonAt g l' l'.length) vC o6 ++ [some ⟨0, 9, [(gA g n).cells.map .f]⟩, some ⟨0, 1, fz (ks.map encI)⟩], []⟩ ∧ nn = (((gA g n).kids.length - k).toNat) ∧ (0 ≤ k) ∧ (k ≤ (gA g n).kids.length) ∧ (ks.length = (gA g n).kids.length) ∧ (∀ j : Nat, j < k.toNat → gA ks j = gA (canonAt g l' l'.length).1 (gA (gA g n).kids j))) ⟨0, _, rfl, rfl, by omega, by omega, by simp, fun j hj => absurd hj (by simp)⟩ ?_)
  rintro nn S ⟨k, ks, rfl, rfl, hq0, hq1, hkl, hks⟩
  refine sr ?_
  refine WL.v (Val.lss (tm rfl) (tm rfl)) rfl ?_
  refine WL.norm 77 [(0, _), (1, _), (4, _), (5, _), (7, _), (10, _), (39, _), (40, _), (41, _), (42, _)] [some ⟨_, _, [[_]]⟩, some ⟨_, _, [[_]]⟩, some ⟨_, _, [[_]]⟩, some ⟨_, _, [[_]]⟩, some ⟨_, _, [[_]]⟩, some ⟨_, _, _⟩, _, some ⟨_, _, [[_, _, _, _, _, _, _, _, _]]⟩, some ⟨_, _, _⟩] rfl ⟨rfl, rfl, rfl, rfl, rfl, rfl, rfl, rfl, rfl, rfl, trivial⟩ rfl rfl ?_
  refine wn ?_
  refine W.seq ?_
  refine W.condP rfl (fun hc9 => ?_) (fun hc9 => ?_)
  · try simp only [td] at hc9
    refine W.skip (nm ?_)
    refine W.seq ?_
    refine W.block ?_
    refine sr ?_
    refine mv rfl rfl ?_
    refine WL.v (Val.ix (enc := encI) Tryd.underlying22 zs3 (tm rfl) (tm rfl) (by omega) (gA_at (by omega) (by omega))) rfl ?_
    refine WL.v (Val.load Tryd.underlying3 rfl (tm rfl)) rfl ?_
    refine asg rfl rfl ?_
    refine asg rfl rfl ?_
    refine WL.norm 77 [(0, _), (1, _), (4, _), (5, _), (7, _), (10, _), (11, _), (12, _), (39, _), (40, _), (41, _)] [some ⟨_, _, [[_]]⟩, some ⟨_, _, [[_]]⟩, some ⟨_, _, [[_]]⟩, some ⟨_, _, [[_]]⟩, some ⟨_, _, [[_]]⟩, some ⟨_, _, _⟩, _, some ⟨_, _, [[_, _, _, _, _, _, _, _, _]]⟩, some ⟨_, _, _⟩] rfl ⟨rfl, rfl, rfl, rfl, rfl, rfl, rfl, rfl, rfl, rfl, rfl, trivial⟩ rfl rfl ?_
    refine wn ?_
    have hkk := hg.kid h0 hn hq0 hc9
    refine W.region ?_
    refine mv rfl rfl ?_
    refine mv rfl rfl ?_
    refine WL.v (Val.loadLive Tryd.underlying22 rfl (tm rfl) rfl rfl rfl rfl rfl) rfl ?_
    refine mv rfl rfl ?_
    refine WL.v (Val.indexAddrLive Tryd.underlying22 zs3 (tm rfl) (tm rfl) (by omega) (by omega)) rfl ?_
    refine WL.v (Val.loadLive Tryd.underlying3 rfl (tm rfl) rfl rfl rfl (fz_at (by omega) (by omega)) rfl) rfl ?_
    refine WL.v (Val.indexAddrLive Tryd.underlying22 zs3 (tm rfl) (tm rfl) (by omega) (by omega)) rfl ?_
    refine WL.stp rfl (Stp.storeI zs3 (tm rfl) (tm rfl) rfl (by omega) (by omega) rfl) ?_
    refine WL.norm 77 [(0, _), (1, _), (4, _), (5, _), (7, _), (10, _), (39, _), (40, _), (41, _)] [some ⟨_, _, [[_]]⟩, some ⟨_, _, [[_]]⟩, some ⟨_, _, [[_]]⟩, some ⟨_, _, [[_]]⟩, some ⟨_, _, [[_]]⟩, some ⟨_, _, _⟩, _, some ⟨_, _, [[_, _, _, _, _, _, _, _, _]]⟩, some ⟨_, _, _⟩] rfl ⟨rfl, rfl, rfl, rfl, rfl, rfl, rfl, rfl, rfl, trivial⟩ rfl rfl ?_
    refine WL.nil (nb (nm ?_))
    refine W.region ?_
    refine WL.v (Val.add (tm rfl) Ev.const (IntWalk.i64_in _ (by omega))) rfl ?_
    refine mv rfl rfl ?_
    refine WL.norm 77 [(0, _), (1, _), (4, _), (5, _), (7, _), (10, _), (39, _), (40, _), (41, _)] [some ⟨_, _, [[_]]⟩, some ⟨_, _, [[_]]⟩, some ⟨_, _, [[_]]⟩, some ⟨_, _, [[_]]⟩, some ⟨_, _, [[_]]⟩, some ⟨_, _, _⟩, _, some ⟨_, _, [[_, _, _, _, _, _, _, _, _]]⟩, some ⟨_, _, _⟩] rfl ⟨rfl, rfl, rfl, rfl, rfl, rfl, rfl, rfl, rfl, trivial⟩ rfl rfl ?_
    refine wn ?_
    exact ⟨_, by omega, k + 1, _, rfl, rfl, by omega, by omega, by rw [List.length_set]; exact hkl, set_step hq0 (by omega) (by rw [i_nat hq0]) hks⟩
  try simp only [td] at hc9
  refine W.exit (ex1 (ex1 (ex2 (nm ?_))))
  refine sr ?_
  refine mv rfl rfl ?_
  refine WL.v (Val.fal (off := 1) Tryd.underlying35 rfl rfl zs22 (tm rfl)) rfl ?_
  refine WL.stp rfl (Stp.st (tm rfl) (tm rfl) zs22 rfl rfl rfl rfl rfl rfl rfl rfl) ?_
  refine WL.norm 77 [(0, _), (1, _), (4, _), (5, _), (7, _)] [some ⟨_, _, [[_]]⟩, some ⟨_, _, [[_]]⟩, some ⟨_, _, [[_]]⟩, some ⟨_, _, [[_]]⟩, some ⟨_, _, [[_]]⟩, some ⟨_, _, _⟩, _, some ⟨_, _, [[_, _, _, _, _, _, _, _, _]]⟩, some ⟨_, _, _⟩] rfl ⟨rfl, rfl, rfl, rfl, rfl, trivial⟩ rfl rfl ?_
  refine wn ?_
  refine W.seq ?_
  refine sr ?_
  refine WL.v (Val.fal (off := 0) Tryd.underlying35 rfl rfl zs3 (tm rfl)) rfl ?_
  refine WL.v (Val.loadLive Tryd.underlying3 rfl (tm rfl) rfl rfl rfl rfl rfl) rfl ?_
  refine WL.v (Val.eql (tm rfl) Ev.const) rfl ?_
  refine WL.norm 77 [(0, _), (1, _), (4, _), (5, _), (7, _), (58, _)] [some ⟨_, _, [[_]]⟩, some ⟨_, _, [[_]]⟩, some ⟨_, _, [[_]]⟩, some ⟨_, _, [[_]]⟩, some ⟨_, _, [[_]]⟩, some ⟨_, _, _⟩, _, some ⟨_, _, [[_, _, _, _, _, _, _, _, _]]⟩, some ⟨_, _, _⟩] rfl ⟨rfl, rfl, rfl, rfl, rfl, rfl, trivial⟩ rfl rfl ?_
  refine wn ?_
  refine W.condP rfl (fun hc14 => ?_) (fun hc14 => ?_)
  · try simp only [td] at hc14
    refine sr ?_
    refine WL.v (Val.loadLive Tryd.underlying3 rfl (tm rfl) rfl rfl rfl rfl rfl) rfl ?_
    refine WL.callV ca35 (evc (tm rfl) evn) (lo1 lo0) rfl (c_Itoa2 W0 N _ (by omega) (by omega)) ?_
    rintro _ rfl
    refine WL.v (Val.addS Ev.const (tm rfl) (by have := decB_size (canonAt g l' l'.length).2.2; show 1 + _ ≤ _; omega)) rfl ?_
    refine WL.v (Val.fal (off := 5) Tryd.underlying35 rfl rfl zs9 (tm rfl)) rfl ?_
    refine WL.stp rfl (Stp.st (tm rfl) (tm rfl) zs9 rfl rfl rfl rfl rfl rfl rfl rfl) ?_
    refine WL.norm 77 [(0, _), (1, _), (4, _), (5, _), (7, _)] [some ⟨_, _, [[_]]⟩, some ⟨_, _, [[_]]⟩, some ⟨_, _, [[_]]⟩, some ⟨_, _, [[_]]⟩, some ⟨_, _, [[_]]⟩, some ⟨_, _, _⟩, _, some ⟨_, _, [[_, _, _, _, _, _, _, _, _]]⟩, some ⟨_, _, _⟩] rfl ⟨rfl, rfl, rfl, rfl, rfl, trivial⟩ rfl rfl ?_
    refine wn ?_
    refine W.region ?_
    refine WL.v (Val.loadLive Tryd.underlying3 rfl (tm rfl) rfl rfl rfl rfl rfl) rfl ?_
    refine WL.v (Val.add (tm rfl) Ev.const (IntWalk.i64_in _ (by omega))) rfl ?_
    refine WL.stp rfl (Stp.st (tm rfl) (tm rfl) zs3 rfl rfl rfl rfl rfl rfl rfl rfl) ?_
    refine WL.norm 77 [(0, _), (1, _), (5, _), (7, _)] [some ⟨_, _, [[_]]⟩, some ⟨_, _, [[_]]⟩, some ⟨_, _, [[_]]⟩, some ⟨_, _, [[_]]⟩, some ⟨_, _, [[_]]⟩, some ⟨_, _, _⟩, _, some ⟨_, _, [[_, _, _, _, _, _, _, _, _]]⟩, some ⟨_, _, _⟩] rfl ⟨rfl, rfl, rfl, rfl, trivial⟩ rfl rfl ?_
    refine wn ?_
    refine sr ?_
    refine WL.v (Val.loadLive Tryd.underlying22 rfl (tm rfl) rfl rfl rfl rfl rfl) rfl ?_
    refine mv rfl rfl ?_
    refine WL.v (Val.fal (off := 0) Tryd.underlying39 rfl rfl zs23 (tm rfl)) rfl ?_
    refine WL.v (Val.loadLive Tryd.underlying23 rfl (tm rfl) rfl rfl rfl rfl rfl) rfl ?_
    refine WL.v (Val.lenA Tryd.underlying23 (tm rfl) hc) rfl ?_
    refine WL.v (Val.indexAddrLive Tryd.underlying22 zs3 (tm rfl) (tm rfl) (by omega) (by omega)) rfl ?_
    refine WL.stp rfl (Stp.storeI zs3 (tm rfl) (tm rfl) rfl (by omega) (by omega) rfl) ?_
    refine WL.norm 77 [(5, _), (7, _)] [some ⟨_, _, [[_]]⟩, some ⟨_, _, [[_]]⟩, some ⟨_, _, [[_]]⟩, some ⟨_, _, [[_]]⟩, some ⟨_, _, [[_]]⟩, some ⟨_, _, _⟩, _, some ⟨_, _, [[_, _, _, _, _, _, _, _, _]]⟩, some ⟨_, _, _⟩] rfl ⟨rfl, rfl, trivial⟩ rfl rfl ?_
    refine wn ?_
    refine W.region ?_
    refine WL.v (Val.fal (off := 0) Tryd.underlying39 rfl rfl zs23 (tm rfl)) rfl ?_
    refine WL.v (Val.loadLive Tryd.underlying23 rfl (tm rfl) rfl rfl rfl rfl rfl) rfl ?_
    refine WL.v (Val.loadLiveAgg Tryd.underlying35 rfl zs35 (tm rfl) rfl rfl rfl rfl (bl rfl)) rfl ?_
    refine WL.cut (env := [(5, _), (72, _), (73, _)]) (h' := [some ⟨_, _, [[_]]⟩, some ⟨_, _, [[_]]⟩, some ⟨_, _, [[_]]⟩, some ⟨_, _, [[_]]⟩, some ⟨_, _, [[_]]⟩, some ⟨_, _, _⟩, _]) (Fewer.pre _ rfl) (.inr (HLo.box (lo4 rfl lo0) (HLo.box (lo1 lo0) (HLo.box (lo5 rfl lo0) (HLo.box (lo1 lo0) (HLo.box (lo5 (lo_acc hc rfl) lo0) (HLo.fz (HLo.o (oLo_acc (by assumption)) HLo.nil)))))))) (hm7 _) ⟨⟨_, rfl, (.same rfl)⟩, ⟨_, rfl, (.same (lo_acc hc rfl))⟩, ⟨_, rfl, (.agg (.same rfl) (.agg (.whole rfl rfl (by first | (simp; done) | (simp only [List.length_map]; omega)) (encL (by intro x; rfl))) (.agg (.same rfl) (.agg (.same rfl) (.agg (.same rfl) (.agg (.same rfl) (.agg (.same rfl) (.agg (.same rfl) (.agg (.same rfl) .agg0)))))))))⟩, trivial⟩ ?_
    refine WL.stp rfl (Stp.buildFrozen (xs := [_]) (fs := ([{ gA g n with kids := ks, text := ⟨#[118]⟩ ++ decB (canonAt g l' l'.length).2.2 }] : List Nd).map Nd.cells) Tryd.underlying23 zs35 zz35 rfl rfl (evc (tm rfl) evn) fitL (bl rfl) rfl rfl) ?_
    refine WL.appE (enc := Nd.cells) ap23_23 (tm rfl) rfl hc (ArgE.lst (enc := Nd.cells) (tm rfl) (by intro x; rfl)) (by rw [hcl3]; simp only [List.length_cons, List.length_nil]; omega) rfl ?_
    intro v' o' hc'
    obtain ⟨gen', rfl, rfl⟩ := Acc.some hc' (by simp)
    refine WL.v (Val.fal (off := 0) Tryd.underlying39 rfl rfl zs23 (tm rfl)) rfl ?_
    refine WL.stp rfl (Stp.st (tm rfl) (tm rfl) zs23 rfl rfl rfl rfl rfl rfl rfl rfl) ?_
    refine WL.norm 77 [] [some ⟨_, _, [[_]]⟩, some ⟨_, _, [[_]]⟩, some ⟨_, _, [[_]]⟩, some ⟨_, _, [[_]]⟩, some ⟨_, _, [[_]]⟩, some ⟨_, _, _⟩, _] rfl trivial rfl rfl ?_
    refine WL.nil ?_
    exact Ret.keep (.inl rfl) rfl (res0 rfl) rfl (RC.fin hv ((canon_more hg h0 hn (by simp [fz, hcl3]) hkl (fun j hj => hks j (by omega))).trans (if_pos hc14)) hc')
  try simp only [td] at hc14
  refine W.skip (nm ?_)
  refine sr ?_
  refine WL.v (Val.loadLive Tryd.underlying22 rfl (tm rfl) rfl rfl rfl rfl rfl) rfl ?_
  refine mv rfl rfl ?_
  refine WL.v (Val.fal (off := 0) Tryd.underlying39 rfl rfl zs23 (tm rfl)) rfl ?_
  refine WL.v (Val.loadLive Tryd.underlying23 rfl (tm rfl) rfl rfl rfl rfl rfl) rfl ?_
  refine WL.v (Val.lenA Tryd.underlying23 (tm rfl) hc) rfl ?_
  refine WL.v (Val.indexAddrLive Tryd.underlying22 zs3 (tm rfl) (tm rfl) (by omega) (by omega)) rfl ?_
  refine WL.stp rfl (Stp.storeI zs3 (tm rfl) (tm rfl) rfl (by omega) (by omega) rfl) ?_
  refine WL.norm 77 [(5, _), (7, _)] [some ⟨_, _, [[_]]⟩, some ⟨_, _, [[_]]⟩, some ⟨_, _, [[_]]⟩, some ⟨_, _, [[_]]⟩, some ⟨_, _, [[_]]⟩, some ⟨_, _, _⟩, _, some ⟨_, _, [[_, _, _, _, _, _, _, _, _]]⟩, some ⟨_, _, _⟩] rfl ⟨rfl, rfl, trivial⟩ rfl rfl ?_
  refine wn ?_
  refine W.region ?_
  refine WL.v (Val.fal (off := 0) Tryd.underlying39 rfl rfl zs23 (tm rfl)) rfl ?_
  refine WL.v (Val.loadLive Tryd.underlying23 rfl (tm rfl) rfl rfl rfl rfl rfl) rfl ?_
  refine WL.v (Val.loadLiveAgg Tryd.underlying35 rfl zs35 (tm rfl) rfl rfl rfl rfl (bl rfl)) rfl ?_
  refine WL.cut (env := [(5, _), (72, _), (73, _)]) (h' := [some ⟨_, _, [[_]]⟩, some ⟨_, _, [[_]]⟩, some ⟨_, _, [[_]]⟩, some ⟨_, _, [[_]]⟩, some ⟨_, _, [[_]]⟩, some ⟨_, _, _⟩, _]) (Fewer.pre _ rfl) (.inr (HLo.box (lo4 rfl lo0) (HLo.box (lo1 lo0) (HLo.box (lo5 rfl lo0) (HLo.box (lo1 lo0) (HLo.box (lo5 (lo_acc hc rfl) lo0) (HLo.fz (HLo.o (oLo_acc (by assumption)) HLo.nil)))))))) (hm7 _) ⟨⟨_, rfl, (.same rfl)⟩, ⟨_, rfl, (.same (lo_acc hc rfl))⟩, ⟨_, rfl, (.agg (.same rfl) (.agg (.whole rfl rfl (by first | (simp; done) | (simp only [List.length_map]; omega)) (encL (by intro x; rfl))) (.agg (.same rfl) (.agg (.same rfl) (.agg (.same rfl) (.agg (.same rfl) (.agg (.same rfl) (.agg (.same rfl) (.agg (.same rfl) .agg0)))))))))⟩, trivial⟩ ?_
  refine WL.stp rfl (Stp.buildFrozen (xs := [_]) (fs := ([{ gA g n with kids := ks }] : List Nd).map Nd.cells) Tryd.underlying23 zs35 zz35 rfl rfl (evc (tm rfl) evn) fitL (bl rfl) rfl rfl) ?_
  refine WL.appE (enc := Nd.cells) ap23_23 (tm rfl) rfl hc (ArgE.lst (enc := Nd.cells) (tm rfl) (by intro x; rfl)) (by rw [hcl3]; simp only [List.length_cons, List.length_nil]; omega) rfl ?_
  intro v' o' hc'
  obtain ⟨gen', rfl, rfl⟩ := Acc.some hc' (by simp)
  refine WL.v (Val.fal (off := 0) Tryd.underlying39 rfl rfl zs23 (tm rfl)) rfl ?_
  refine WL.stp rfl (Stp.st (tm rfl) (tm rfl) zs23 rfl rfl rfl rfl rfl rfl rfl rfl) ?_
  refine WL.norm 77 [] [some ⟨_, _, [[_]]⟩, some ⟨_, _, [[_]]⟩, some ⟨_, _, [[_]]⟩, some ⟨_, _, [[_]]⟩, some ⟨_, _, [[_]]⟩, some ⟨_, _, _⟩, _] rfl trivial rfl rfl ?_
  refine WL.nil ?_
  exact Ret.keep (.inl rfl) rfl (res0 rfl) rfl (RC.fin hv ((canon_more hg h0 hn (by simp [fz, hcl3]) hkl (fun j hj => hks j (by omega))).trans (if_neg hc14)) hc')
end Go.Aw
namespace Go.Aw
open Go.RowKit Go.Proofs
abbrev idsM : List Nat := [3, 0, 6, 5, 4, 2, 7]
abbrev capsM : List AV := [.ptr 3 0 1 0 0, .ptr 0 0 1 0 0, .ptr 6 0 1 0 0, .ptr 5 0 1 0 0, .ptr 4 0 1 0 0]
abbrev HM (g : List Nd) (v1 : AV) (gN : Nat) (c : List Int × List Nd × Int) (vC : AV) (o : Option Row) : Heap :=
  [some ⟨0, 1, [[.f (.nodes g)]]⟩, some ⟨0, 1, [[v1]]⟩, some ⟨gN, 1, fz (c.1.map encI)⟩, some ⟨0, 1, [[.row 2 gN 1 0 g.length]]⟩, some ⟨0, 1, [[vC]]⟩, some ⟨0, 1, [[.i c.2.2]]⟩, some ⟨0, 1, [[.fn (.func 34) capsM]]⟩, o]
theorem rnL_f (ρ : Nat → Nat) : ∀ xs : List FV, AV.rnL ρ (xs.map .f) = xs.map .f
  | [] => rfl
  | x :: xs => by simp [AV.rnL, AV.rn, rnL_f ρ xs]
theorem rn_fz (ρ : Nat → Nat) (gen s : Nat) (xs : List (List FV)) : Row.rn ρ ⟨gen, s, fz xs⟩ = ⟨gen, s, fz xs⟩ := by
  simp only [Row.rn, fz, List.map_map]
  congr 1
  exact List.map_congr_left fun x _ => rnL_f ρ x
theorem Acc.rn_row {j s : Nat} {xs : List (List FV)} {v : AV} {o : Option Row} (ρ : Nat → Nat) (ha : Acc j s (fz xs) v o) : o.map (Row.rn ρ) = o := by
  rcases ha with ⟨_, _, rfl⟩ | ⟨gen, _, rfl⟩
  · rfl
  · simp [rn_fz]
theorem Acc.to {j j' s : Nat} {xs : List (List AV)} {v : AV} {o : Option Row} {ρ : Nat → Nat} (hj : ρ j = j') (ha : Acc j s xs v o) : Acc j' s xs (v.rn ρ) o := by
  rcases ha with ⟨h, rfl, rfl⟩ | ⟨gen, rfl, rfl⟩
  · exact .inl ⟨h, rfl, rfl⟩
  · exact .inr ⟨gen, by simp [AV.rn, hj], rfl⟩
theorem Acc.back {j j' s : Nat} {xs : List (List AV)} {v : AV} {o : Option Row} {ρ : Nat → Nat} (hj : ρ j = j') (ha : Acc j' s xs v o) : ∃ v0, Acc j s xs v0 o ∧ v0.rn ρ = v := by
  rcases ha with ⟨h, rfl, rfl⟩ | ⟨gen, rfl, rfl⟩
  · exact ⟨_, .inl ⟨h, rfl, rfl⟩, rfl⟩
  · exact ⟨_, .inr ⟨gen, rfl, rfl⟩, by simp [AV.rn, hj]⟩
theorem HM.merge {g : List Nd} {v1 : AV} {gN : Nat} {c c' : List Int × List Nd × Int} {vC vC' : AV} {o o' : Option Row} (ho : Acc 6 9 (fz (c'.2.1.map Nd.cells)) vC' o') : mergeL (rhoL idsM) idsM (HC g gN c' vC' o') (HM g v1 gN c vC o) = HM g v1 gN c' (vC'.rn (rhoL idsM)) o' := by
  have h1 := rn_fz (rhoL idsM) gN 1 (c'.1.map encI)
  have h2 := ho.rn_row (rhoL idsM)
  show _ = [_, _, _, _, _, _, _, _]
  simp only [mergeL, Option.map_some, h1, h2]
  rfl
theorem HM.sub {g : List Nd} {v1 : AV} {gN : Nat} {c : List Int × List Nd × Int} {vC : AV} {o : Option Row} (ho : Acc 6 9 (fz (c.2.1.map Nd.cells)) vC o) : Sub (HM g v1 gN c (vC.rn (rhoL idsM)) o) (HC g gN c vC o) (rhoL idsM) (sigL idsM) := by
  refine Sub.ofIds (by decide) ?_
  have h1 := rn_fz (rhoL idsM) gN 1 (c.1.map encI)
  have h2 := ho.rn_row (rhoL idsM)
  simp only [List.map_cons, List.map_nil, Option.map_some, h1, h2]
  rfl
theorem WL.visitM {W0 : World} {N : Nat} {X : Nat → Prop} {m : Nat} {ops : Array Oper} {Q : Post} {rest : List Oper} {S : St} {d : Option Nat} {ty : TypeId} {pos : String} {af : Array Edge} {gd : Option (Nat × Bool)} {ts : Array TypeId} {t : Nat} {x : Operand} {g : List Nd} {v1 : AV} {gN : Nat} {l : List Int} {n : Int} {vC : AV} {o : Option Row}
    (hg : WFG g) (h99 : g.length ≤ 99) (h0 : 0 ≤ n) (hn : n < g.length) (hok : VOk g l) (ha : Acc 7 9 (fz ((canonAt g l l.length).2.1.map Nd.cells)) vC o)
    (hcl : Fun ⟨(En W0 N).P, X, (En W0 N).W0, (En W0 N).N⟩ S (.tmp t) 34 capsM) (hx : Ev ⟨(En W0 N).P, X, (En W0 N).W0, (En W0 N).N⟩ S x (.i n)) (hd : dstOk d S.n = true) (hheap : S.heap = HM g v1 gN (canonAt g l l.length) vC o) (hgd : gd = none)
    (h : ∀ vC' o', Acc 7 9 (fz ((canonAt g (visitF g g.length n l) (visitF g g.length n l).length).2.1.map Nd.cells)) vC' o' → WL ⟨(En W0 N).P, X, (En W0 N).W0, (En W0 N).N⟩ m ops Q rest (({ S with heap := HM g v1 gN (canonAt g (visitF g g.length n l) (visitF g g.length n l).length) vC' o' } : St).putD d (.tup []))) :
    WL ⟨(En W0 N).P, X, (En W0 N).W0, (En W0 N).N⟩ m ops Q (⟨d, .call ⟨.value (.tmp t), #[x], ts⟩, ty, pos, af, gd⟩ :: rest) S := by
  obtain ⟨v0, ha0, rfl⟩ := Acc.back (j := 6) (ρ := rhoL idsM) rfl ha
  have := WL.callSub (K := ⟨(En W0 N).P, X, (En W0 N).W0, (En W0 N).N⟩) (m := m) (ops := ops) (Q := Q) (rest := rest) (S := S) (d := d) (ty := ty) (pos := pos) (af := af) (gd := gd) (ts := ts) (c := .tmp t) (xs := [x]) (args := [.i n]) (caps := capsC) (ρ := rhoL idsM) (σ := sigL idsM) (fun h' => mergeL (rhoL idsM) idsM h' S.heap) ca34 hcl (evc hx evn) rfl hd (by rw [hheap]; exact HM.sub ha0) (HC.lo ha0) (c_visitM W0 N g hg h99 gN g.length n l v0 o (by omega) h0 hn hok ha0) ?_ hgd ?_
  · exact this
  · intro r h' hr
    obtain ⟨a1, a2, a3⟩ := RC.ok (n := 7) rfl r h' hr
    refine ⟨a1, a2, Merged.ofIds (by decide) rfl (fun j hj => by rw [hheap]; simp only [idsM, List.mem_cons, List.not_mem_nil, or_false] at hj; show j < 8; omega) a3⟩
  · rintro r h' ⟨rfl, vC', o', rfl, hc'⟩
    rw [hheap, HM.merge hc']
    exact h _ _ (Acc.to rfl hc')
theorem Acc.fit {j s : Nat} {xs : List (List AV)} {v : AV} {o : Option Row} (ha : Acc j s xs v o) : (AV.agg [v]).fit = true := by
  rcases ha with ⟨_, rfl, _⟩ | ⟨_, rfl, _⟩ <;> rfl
end Go.Aw
namespace Go.Aw
open Go.RowKit Go.Proofs

theorem set_minus {ks : List Int} {k : Int} (h0 : 0 ≤ k) (hk : k < ks.length) (h : ∀ j : Nat, j < k.toNat → gA ks j = -1) : ∀ j : Nat, j < (k + 1).toNat → gA (ks.set k.toNat (-1)) j = -1 :=
  set_step (F := fun _ => -1) h0 hk rfl h
theorem all_minus {ks : List Int} {n : Nat} (hl : ks.length = n) (h : ∀ j : Nat, j < n → gA ks j = -1) : ks = List.replicate n (-1) := by
  apply List.ext_getElem?
  intro j
  by_cases hj : j < n
  · have := gA_at (l := ks) (i := (j : Int)) (by omega) (by omega)
    rw [Int.toNat_natCast] at this
    rw [this, h j hj, List.getElem?_replicate, if_pos hj]
  · rw [List.getElem?_eq_none (by omega), List.getElem?_eq_none (by simp; omega)]

-- match.Canon
set_option maxHeartbeats 1000000 in
theorem c_CanonM (W0 : World) (N : Nat) (g : List Nd) (hg : WFG g) (h99 : g.length ≤ 99) (roots : List Int) (hr : roots.length ≤ 1000000) : AC (En W0 N) 16 [.agg [.f (.nodes g)], .f (.ints roots)] [] (fun r h => h = [] ∧ r = .tup [.agg [.f (.nodes (canonR g roots).1)], .f (.ints (canonR g roots).2.1), .i (canonR g roots).2.2]) := by
  have hgl := hg.len
  refine AC.enter Tryd.func16 rfl Tryd.ntmps16 (bl rfl) fun X => ?_
  refine sr ?_
  refine WL.stp rfl (Stp.box (tm rfl) rfl rfl) ?_
  refine WL.stp rfl (Stp.alloc zz39 rfl rfl) ?_
  refine WL.v (Val.assign Ev.const) rfl ?_
  refine WL.v (Val.assign Ev.const) rfl ?_
  refine WL.norm 54 [(1, _), (2, _), (4, _)] [some ⟨_, _, [[_]]⟩, some ⟨_, _, [[_]]⟩] rfl ⟨rfl, rfl, rfl, trivial⟩ rfl rfl ?_
  refine wn ?_
  refine sr ?_
  refine WL.v (Val.fal (off := 0) Tryd.underlying39 rfl rfl zs23 (tm rfl)) rfl ?_
  refine WL.v (Val.loadLive Tryd.underlying23 rfl (tm rfl) rfl rfl rfl rfl rfl) rfl ?_
  refine WL.v (Val.ln (enc := Nd.cells) Tryd.underlying23 (tm rfl)) rfl ?_
  refine WL.stp rfl (Stp.makeI Tryd.underlying22 zs3 zb3 zz3 (tm rfl) (tm rfl) (by omega) (by omega) rfl) ?_
  refine WL.stp rfl (Stp.alloc zz22 rfl rfl) ?_
  refine WL.stp rfl (Stp.st (tm rfl) (tm rfl) zs22 rfl rfl rfl rfl rfl rfl rfl rfl) ?_
  refine WL.norm 54 [(1, _), (2, _), (4, _), (7, _)] [some ⟨_, _, [[_]]⟩, some ⟨_, _, [[_]]⟩, some ⟨_, _, _⟩, some ⟨_, _, [[_]]⟩] rfl ⟨rfl, rfl, rfl, rfl, trivial⟩ rfl rfl ?_
  refine wn ?_
  refine W.seq ?_
  refine sr ?_
  refine WL.v (Val.loadLive Tryd.underlying22 rfl (tm rfl) rfl rfl rfl rfl rfl) rfl ?_
  refine WL.v (Val.lenRow Tryd.underlying22 (tm rfl)) rfl ?_
  refine WL.v (Val.move Ev.const) rfl ?_
  refine WL.norm 54 [(1, _), (2, _), (4, _), (7, _), (21, _), (22, _)] [some ⟨_, _, [[_]]⟩, some ⟨_, _, [[_]]⟩, some ⟨_, _, _⟩, some ⟨_, _, [[_]]⟩] rfl ⟨rfl, rfl, rfl, rfl, rfl, rfl, trivial⟩ rfl rfl ?_
  refine wn ?_
  refine W.norm 54 [(1, _), (2, _), (4, _), (7, _), (21, _), (22, _)] [some ⟨_, _, [[_]]⟩, some ⟨_, _, [[_]]⟩, some ⟨_, _, _⟩, some ⟨_, _, [[_]]⟩] rfl ⟨rfl, rfl, rfl, rfl, rfl, rfl, trivial⟩ rfl rfl ?_
  refine W.block (W.loop (fun nn S => ∃ (k : Int) (ks : List Int), S = ⟨54, [(1, .f (.ints roots)), (2, .ptr 0 0 1 0 0), (4, .ptr 1 0 1 0 0), (7, .ptr 3 0 1 0 0), (21, .i g.length), (22, .i k)], [some ⟨0, 1, [[.f (.nodes g)]]⟩, some ⟨0, 1, [[.nil]]⟩, some ⟨0, 1, fz (ks.map encI)⟩, some ⟨0, 1, [[.row 2 0 1 0 g.length]]⟩], []⟩ ∧ nn = ((g.length - k).toNat) ∧ (0 ≤ k) ∧ (k ≤ g.length) ∧ (ks.length = g.length) ∧ (∀ j : Nat, j < k.toNat → gA ks j = -1)) ⟨0, _, rfl, rfl, by omega, by omega, by simp, fun j hj => absurd hj (by simp)⟩ ?_)
  rintro nn S ⟨k, ks, rfl, rfl, hk0, hk1, hkl, hks⟩
  refine sr ?_
  refine WL.v (Val.lss (tm rfl) (tm rfl)) rfl ?_
  refine WL.norm 54 [(1, _), (2, _), (4, _), (7, _), (21, _), (22, _), (23, _)] [some ⟨_, _, [[_]]⟩, some ⟨_, _, [[_]]⟩, some ⟨_, _, _⟩, some ⟨_, _, [[_]]⟩] rfl ⟨rfl, rfl, rfl, rfl, rfl, rfl, rfl, trivial⟩ rfl rfl ?_
  refine wn ?_
  refine W.seq ?_
  refine W.condP rfl (fun hc3 => ?_) (fun hc3 => ?_)
  · try simp only [td] at hc3
    refine W.skip (nm ?_)
    refine W.seq ?_
    refine W.block ?_
    refine sr ?_
    refine mv rfl rfl ?_
    refine asg rfl rfl ?_
    refine WL.norm 54 [(1, _), (2, _), (4, _), (7, _), (8, _), (21, _), (22, _)] [some ⟨_, _, [[_]]⟩, some ⟨_, _, [[_]]⟩, some ⟨_, _, _⟩, some ⟨_, _, [[_]]⟩] rfl ⟨rfl, rfl, rfl, rfl, rfl, rfl, rfl, trivial⟩ rfl rfl ?_
    refine wn ?_
    refine W.region ?_
    refine WL.v (Val.loadLive Tryd.underlying22 rfl (tm rfl) rfl rfl rfl rfl rfl) rfl ?_
    refine mv rfl rfl ?_
    refine WL.v (Val.indexAddrLive Tryd.underlying22 zs3 (tm rfl) (tm rfl) (by omega) (by omega)) rfl ?_
    refine WL.stp rfl (Stp.storeI zs3 (tm rfl) Ev.const rfl (by omega) (by omega) rfl) ?_
    refine WL.norm 54 [(1, _), (2, _), (4, _), (7, _), (21, _), (22, _)] [some ⟨_, _, [[_]]⟩, some ⟨_, _, [[_]]⟩, some ⟨_, _, _⟩, some ⟨_, _, [[_]]⟩] rfl ⟨rfl, rfl, rfl, rfl, rfl, rfl, trivial⟩ rfl rfl ?_
    refine WL.nil (nb (nm ?_))
    refine W.region ?_
    refine WL.v (Val.add (tm rfl) Ev.const (IntWalk.i64_in _ (by omega))) rfl ?_
    refine mv rfl rfl ?_
    refine WL.norm 54 [(1, _), (2, _), (4, _), (7, _), (21, _), (22, _)] [some ⟨_, _, [[_]]⟩, some ⟨_, _, [[_]]⟩, some ⟨_, _, _⟩, some ⟨_, _, [[_]]⟩] rfl ⟨rfl, rfl, rfl, rfl, rfl, rfl, trivial⟩ rfl rfl ?_
    refine wn ?_
    exact ⟨_, by omega, k + 1, _, rfl, rfl, by omega, by omega, by rw [List.length_set]; exact hkl, set_minus hk0 (by omega) hks⟩
  try simp only [td] at hc3
  refine W.exit (ex1 (ex1 (ex2 (nm ?_))))
  refine W.seq ?_
  have hkr : ks = List.replicate g.length (-1) := all_minus hkl (fun j hj => hks j (by omega))
  subst hkr
  refine W.region ?_
  refine WL.stp rfl (Stp.alloc zz39 rfl rfl) ?_
  refine WL.norm 54 [(1, _), (2, _), (4, _), (7, _), (9, _)] [some ⟨_, _, [[_]]⟩, some ⟨_, _, [[_]]⟩, some ⟨_, _, _⟩, some ⟨_, _, [[_]]⟩, some ⟨_, _, [[_]]⟩] rfl ⟨rfl, rfl, rfl, rfl, rfl, trivial⟩ rfl rfl ?_
  refine wn ?_
  refine sr ?_
  refine WL.stp rfl (Stp.alloc zz3 rfl rfl) ?_
  refine WL.stp rfl (Stp.st (tm rfl) Ev.const zs3 rfl rfl rfl rfl rfl rfl rfl rfl) ?_
  refine WL.norm 54 [(1, _), (2, _), (4, _), (7, _), (9, _), (10, _)] [some ⟨_, _, [[_]]⟩, some ⟨_, _, [[_]]⟩, some ⟨_, _, _⟩, some ⟨_, _, [[_]]⟩, some ⟨_, _, [[_]]⟩, some ⟨_, _, [[_]]⟩] rfl ⟨rfl, rfl, rfl, rfl, rfl, rfl, trivial⟩ rfl rfl ?_
  refine wn ?_
  refine sr ?_
  refine WL.stp rfl (Stp.alloc zz74 rfl rfl) ?_
  refine WL.norm 54 [(1, _), (2, _), (4, _), (7, _), (9, _), (10, _), (11, _)] [some ⟨_, _, [[_]]⟩, some ⟨_, _, [[_]]⟩, some ⟨_, _, _⟩, some ⟨_, _, [[_]]⟩, some ⟨_, _, [[_]]⟩, some ⟨_, _, [[_]]⟩, some ⟨_, _, [[_]]⟩] rfl ⟨rfl, rfl, rfl, rfl, rfl, rfl, rfl, trivial⟩ rfl rfl ?_
  refine wn ?_
  refine sr ?_
  refine WL.v (Val.makeFunc (evc (tm rfl) (evc (tm rfl) (evc (tm rfl) (evc (tm rfl) (evc (tm rfl) evn)))))) rfl ?_
  refine WL.stp rfl (Stp.st (tm rfl) (tm rfl) zs74 rfl rfl rfl rfl rfl rfl rfl rfl) ?_
  refine WL.norm 54 [(1, _), (2, _), (4, _), (7, _), (9, _), (11, _)] [some ⟨_, _, [[_]]⟩, some ⟨_, _, [[_]]⟩, some ⟨_, _, _⟩, some ⟨_, _, [[_]]⟩, some ⟨_, _, [[_]]⟩, some ⟨_, _, [[_]]⟩, some ⟨_, _, [[_]]⟩] rfl ⟨rfl, rfl, rfl, rfl, rfl, rfl, trivial⟩ rfl rfl ?_
  refine wn ?_
  refine W.seq ?_
  refine sr ?_
  refine mv rfl rfl ?_
  refine WL.v (Val.ln (enc := encI) Tryd.underlying22 (tm rfl)) rfl ?_
  refine WL.v (Val.move Ev.const) rfl ?_
  refine WL.norm 54 [(1, _), (2, _), (4, _), (7, _), (9, _), (11, _), (30, _), (31, _), (32, _)] [some ⟨_, _, [[_]]⟩, some ⟨_, _, [[_]]⟩, some ⟨_, _, _⟩, some ⟨_, _, [[_]]⟩, some ⟨_, _, [[_]]⟩, some ⟨_, _, [[_]]⟩, some ⟨_, _, [[_]]⟩] rfl ⟨rfl, rfl, rfl, rfl, rfl, rfl, rfl, rfl, rfl, trivial⟩ rfl rfl ?_
  refine wn ?_
  refine W.reserve ?_
  refine W.norm 54 [(1, _), (2, _), (4, _), (7, _), (9, _), (11, _), (30, _), (31, _), (32, _)] [some ⟨_, _, [[_]]⟩, some ⟨_, _, [[_]]⟩, some ⟨_, _, _⟩, some ⟨_, _, [[_]]⟩, some ⟨_, _, [[_]]⟩, some ⟨_, _, [[_]]⟩, some ⟨_, _, [[_]]⟩, _] rfl ⟨rfl, rfl, rfl, rfl, rfl, rfl, rfl, rfl, rfl, trivial⟩ rfl rfl ?_
  refine W.block (W.loop (fun nn S => ∃ (i : Int), S = ⟨54, [(1, .f (.ints roots)), (2, .ptr 0 0 1 0 0), (4, .ptr 1 0 1 0 0), (7, .ptr 3 0 1 0 0), (9, .ptr 4 0 1 0 0), (11, .ptr 6 0 1 0 0), (30, .f (.ints roots)), (31, .i roots.length), (32, .i i)], HM g .nil 0 (canonAt g [] 0) .nil none, []⟩ ∧ nn = ((roots.length - i).toNat) ∧ (0 ≤ i) ∧ (i ≤ roots.length) ∧ (∀ j : Nat, j < i.toNat → ∀ x, roots[j]? = some x → 0 ≤ x ∧ x < (g.length : Int))) ⟨0, rfl, rfl, by omega, by omega, fun j hj => absurd hj (by simp)⟩ ?_)
  rintro nn S ⟨i, rfl, rfl, hi0, hi1, hin⟩
  refine sr ?_
  refine WL.v (Val.lss (tm rfl) (tm rfl)) rfl ?_
  refine WL.norm 54 [(1, _), (2, _), (4, _), (7, _), (9, _), (11, _), (30, _), (31, _), (32, _), (33, _)] [some ⟨_, _, [[_]]⟩, some ⟨_, _, [[_]]⟩, some ⟨_, _, _⟩, some ⟨_, _, [[_]]⟩, some ⟨_, _, [[_]]⟩, some ⟨_, _, [[_]]⟩, some ⟨_, _, [[_]]⟩, _] rfl ⟨rfl, rfl, rfl, rfl, rfl, rfl, rfl, rfl, rfl, rfl, trivial⟩ rfl rfl ?_
  refine wn ?_
  refine W.seq ?_
  refine W.condP rfl (fun hc12 => ?_) (fun hc12 => ?_)
  · try simp only [td] at hc12
    refine W.skip (nm ?_)
    refine W.seq ?_
    refine W.block ?_
    refine sr ?_
    refine WL.v (Val.ix (enc := encI) Tryd.underlying22 zs3 (tm rfl) (tm rfl) (by omega) (gA_at (by omega) (by omega))) rfl ?_
    refine WL.v (Val.load Tryd.underlying3 rfl (tm rfl)) rfl ?_
    refine asg rfl rfl ?_
    refine WL.norm 54 [(1, _), (2, _), (4, _), (7, _), (9, _), (11, _), (13, _), (30, _), (31, _), (32, _)] [some ⟨_, _, [[_]]⟩, some ⟨_, _, [[_]]⟩, some ⟨_, _, _⟩, some ⟨_, _, [[_]]⟩, some ⟨_, _, [[_]]⟩, some ⟨_, _, [[_]]⟩, some ⟨_, _, [[_]]⟩, _] rfl ⟨rfl, rfl, rfl, rfl, rfl, rfl, rfl, rfl, rfl, rfl, trivial⟩ rfl rfl ?_
    refine wn ?_
    refine sr ?_
    refine WL.v (Val.loadLiveAgg Tryd.underlying39 rfl zs39 (tm rfl) rfl rfl rfl rfl (bl rfl)) rfl ?_
    refine mv rfl rfl ?_
    refine WL.callV ca30 (evc (tm rfl) (evc (tm rfl) evn)) (lo2 rfl (lo1 lo0)) rfl (c_isNode W0 N _ _) ?_
    rintro _ rfl
    refine WL.v (Val.not (tm rfl)) rfl ?_
    refine WL.norm 54 [(1, _), (2, _), (4, _), (7, _), (9, _), (11, _), (30, _), (31, _), (32, _), (39, _)] [some ⟨_, _, [[_]]⟩, some ⟨_, _, [[_]]⟩, some ⟨_, _, _⟩, some ⟨_, _, [[_]]⟩, some ⟨_, _, [[_]]⟩, some ⟨_, _, [[_]]⟩, some ⟨_, _, [[_]]⟩, _] rfl ⟨rfl, rfl, rfl, rfl, rfl, rfl, rfl, rfl, rfl, rfl, trivial⟩ rfl rfl ?_
    refine wn ?_
    refine W.condP rfl (fun hc14 => ?_) (fun hc14 => ?_)
    · try simp only [td] at hc14
      refine sr ?_
      refine WL.v (Val.le (Val.build (vs := []) Tryd.underlying39 zz39 rfl rfl pl39 rfl trivial) (Le.agg (ys := [.f (.lst 9 [])]) (LeL.cons Le.nil LeL.nil))) rfl ?_
      refine WL.stp rfl (Stp.st (tm rfl) (tm rfl) zs39 rfl rfl rfl rfl rfl rfl rfl rfl) ?_
      refine WL.v (Val.assign Ev.const) rfl ?_
      refine WL.v (Val.assign Ev.const) rfl ?_
      refine WL.norm 54 [(4, _), (5, _), (6, _)] [some ⟨_, _, [[_]]⟩, some ⟨_, _, [[_]]⟩, some ⟨_, _, _⟩, some ⟨_, _, [[_]]⟩, some ⟨_, _, [[_]]⟩, some ⟨_, _, [[_]]⟩, some ⟨_, _, [[_]]⟩, _] rfl ⟨rfl, rfl, rfl, trivial⟩ rfl rfl ?_
      refine wn ?_
      refine W.ret (rt2 (rt1 (rt1 (rt2 (rt1 ?_)))))
      exact Ret.of (.inr rfl) rfl (resCell3 rfl Tryd.underlying39 rfl zs39 rfl rfl rfl rfl rfl rfl rfl rfl) (Fewer.nil _) (.inr trivial) (fun id h => absurd h (Nat.not_lt_zero _)) (.tup (.same rfl) (.tup .nil (.tup (.same rfl) .tup0))) ⟨rfl, by rw [canonR, if_neg (fun h => by have := h _ (gA_mem (l := roots) hi0 hc12); omega)]; rfl⟩
    try simp only [td] at hc14
    refine W.skip (nb (nm ?_))
    refine W.region ?_
    refine WL.v (Val.add (tm rfl) Ev.const (IntWalk.i64_in _ (by omega))) rfl ?_
    refine mv rfl rfl ?_
    refine WL.norm 54 [(1, _), (2, _), (4, _), (7, _), (9, _), (11, _), (30, _), (31, _), (32, _)] [some ⟨_, _, [[_]]⟩, some ⟨_, _, [[_]]⟩, some ⟨_, _, _⟩, some ⟨_, _, [[_]]⟩, some ⟨_, _, [[_]]⟩, some ⟨_, _, [[_]]⟩, some ⟨_, _, [[_]]⟩, _] rfl ⟨rfl, rfl, rfl, rfl, rfl, rfl, rfl, rfl, rfl, trivial⟩ rfl rfl ?_
    refine wn ?_
    exact ⟨_, by omega, i + 1, rfl, rfl, by omega, by omega, kids_step hi0 (by omega) hin (by omega)⟩
  try simp only [td] at hc12
  refine W.exit (ex1 (ex1 (ex2 (nm ?_))))
  refine W.seq ?_
  refine W.seq ?_
  have hall := kids_end hi0 (by omega) hin
  refine W.region ?_
  refine mv rfl rfl ?_
  refine WL.v (Val.ln (enc := encI) Tryd.underlying22 (tm rfl)) rfl ?_
  refine WL.v (Val.move Ev.const) rfl ?_
  refine WL.norm 54 [(4, _), (7, _), (9, _), (11, _), (42, _), (43, _), (44, _)] [some ⟨_, _, [[_]]⟩, some ⟨_, _, [[_]]⟩, some ⟨_, _, _⟩, some ⟨_, _, [[_]]⟩, some ⟨_, _, [[_]]⟩, some ⟨_, _, [[_]]⟩, some ⟨_, _, [[_]]⟩, _] rfl ⟨rfl, rfl, rfl, rfl, rfl, rfl, rfl, trivial⟩ rfl rfl ?_
  refine wn ?_
  refine W.norm 54 [(4, _), (7, _), (9, _), (11, _), (42, _), (43, _), (44, _)] [some ⟨_, _, [[_]]⟩, some ⟨_, _, [[_]]⟩, some ⟨_, _, _⟩, some ⟨_, _, [[_]]⟩, some ⟨_, _, [[_]]⟩, some ⟨_, _, [[_]]⟩, some ⟨_, _, [[_]]⟩, _] rfl ⟨rfl, rfl, rfl, rfl, rfl, rfl, rfl, trivial⟩ rfl rfl ?_
  refine W.block (W.loop (fun nn S => ∃ (i : Int) (l : List Int) (vC : AV) (o : Option Row), S = ⟨54, [(4, .ptr 1 0 1 0 0), (7, .ptr 3 0 1 0 0), (9, .ptr 4 0 1 0 0), (11, .ptr 6 0 1 0 0), (42, .f (.ints roots)), (43, .i roots.length), (44, .i i)], HM g .nil 0 (canonAt g l l.length) vC o, []⟩ ∧ nn = ((roots.length - i).toNat) ∧ (0 ≤ i) ∧ (i ≤ roots.length) ∧ (l = (roots.take i.toNat).foldl (fun l r => visitF g g.length r l) []) ∧ (Acc 7 9 (fz ((canonAt g l l.length).2.1.map Nd.cells)) vC o) ∧ (VOk g l)) ⟨0, [], _, _, rfl, rfl, by omega, by omega, rfl, Acc.zero, ⟨by simp, by simp⟩⟩ ?_)
  rintro nn S ⟨i, l, vC, o, rfl, rfl, hv0, hv1, hl, hc, hok⟩
  refine sr ?_
  refine WL.v (Val.lss (tm rfl) (tm rfl)) rfl ?_
  refine WL.norm 54 [(4, _), (7, _), (9, _), (11, _), (42, _), (43, _), (44, _), (45, _)] [some ⟨_, _, [[_]]⟩, some ⟨_, _, [[_]]⟩, some ⟨_, _, _⟩, some ⟨_, _, [[_]]⟩, some ⟨_, _, [[_]]⟩, some ⟨_, _, [[_]]⟩, some ⟨_, _, [[_]]⟩, _] rfl ⟨rfl, rfl, rfl, rfl, rfl, rfl, rfl, rfl, trivial⟩ rfl rfl ?_
  refine wn ?_
  refine W.seq ?_
  refine W.condP rfl (fun hc18 => ?_) (fun hc18 => ?_)
  · try simp only [td] at hc18
    refine W.skip (nm ?_)
    refine W.seq ?_
    refine W.block ?_
    refine sr ?_
    refine WL.v (Val.ix (enc := encI) Tryd.underlying22 zs3 (tm rfl) (tm rfl) (by omega) (gA_at (by omega) (by omega))) rfl ?_
    refine WL.v (Val.load Tryd.underlying3 rfl (tm rfl)) rfl ?_
    refine asg rfl rfl ?_
    refine WL.norm 54 [(4, _), (7, _), (9, _), (11, _), (15, _), (42, _), (43, _), (44, _)] [some ⟨_, _, [[_]]⟩, some ⟨_, _, [[_]]⟩, some ⟨_, _, _⟩, some ⟨_, _, [[_]]⟩, some ⟨_, _, [[_]]⟩, some ⟨_, _, [[_]]⟩, some ⟨_, _, [[_]]⟩, _] rfl ⟨rfl, rfl, rfl, rfl, rfl, rfl, rfl, rfl, trivial⟩ rfl rfl ?_
    refine wn ?_
    have hx := hall _ (gA_mem (l := roots) hv0 hc18)
    have hok2 := (visitF_ok hg g.length (gA roots i) l (by omega) hx.1 hx.2 hok).1
    refine W.region ?_
    refine WL.v (Val.loadLive Tryd.underlying74 rfl (tm rfl) rfl rfl rfl rfl rfl) rfl ?_
    refine mv rfl rfl ?_
    refine WL.visitM hg h99 hx.1 hx.2 hok hc (Fun.clo (tm rfl)) (tm rfl) rfl rfl rfl ?_
    intro vC' o' hc'
    refine WL.norm 54 [(4, _), (7, _), (9, _), (11, _), (42, _), (43, _), (44, _)] [some ⟨_, _, [[_]]⟩, some ⟨_, _, [[_]]⟩, some ⟨_, _, _⟩, some ⟨_, _, [[_]]⟩, some ⟨_, _, [[_]]⟩, some ⟨_, _, [[_]]⟩, some ⟨_, _, [[_]]⟩, _] rfl ⟨rfl, rfl, rfl, rfl, rfl, rfl, rfl, trivial⟩ rfl rfl ?_
    refine WL.nil (nb (nm ?_))
    refine W.region ?_
    refine WL.v (Val.add (tm rfl) Ev.const (IntWalk.i64_in _ (by omega))) rfl ?_
    refine mv rfl rfl ?_
    refine WL.norm 54 [(4, _), (7, _), (9, _), (11, _), (42, _), (43, _), (44, _)] [some ⟨_, _, [[_]]⟩, some ⟨_, _, [[_]]⟩, some ⟨_, _, _⟩, some ⟨_, _, [[_]]⟩, some ⟨_, _, [[_]]⟩, some ⟨_, _, [[_]]⟩, some ⟨_, _, [[_]]⟩, _] rfl ⟨rfl, rfl, rfl, rfl, rfl, rfl, rfl, trivial⟩ rfl rfl ?_
    refine wn ?_
    exact ⟨_, by omega, i + 1, _, _, _, rfl, rfl, by omega, by omega, by rw [hl]; exact fold_step (f := fun l r => visitF g g.length r l) hv0 hc18, hc', hok2⟩
  try simp only [td] at hc18
  refine W.exit (ex1 (ex1 (ex2 (nm ?_))))
  refine W.seq ?_
  have hlL : l = canonL g roots := by rw [hl, List.take_of_length_le (by omega)]; rfl
  obtain ⟨hcl, hcl2, hcl3, hcl4⟩ := canonAt_ok g l l.length
  have hll := hok.len
  refine W.drawE (fun k => ([([4], []), ([3], []), ([1], [1]), ([], []), ([], [])] : List (List Nat × List Nat)).getD k ([], [])) rfl (by kernel_rfl) (bl rfl) ?_
  refine LexE.val rfl rfl rfl (fun h' ha => Val.loadLiveAgg Tryd.underlying39 rfl zs39 (tm rfl) ((ha.at_ 4 (by decide)).trans rfl) rfl rfl rfl (bl rfl)) ?_
  refine LexE.val rfl rfl rfl (fun h' ha => Val.loadLive Tryd.underlying22 rfl (tm rfl) ((ha.at_ 3 (by decide)).trans rfl) rfl rfl rfl rfl) ?_
  refine LexE.stp (U := [(1, _)]) rfl rfl rfl rfl (fun h => by first | rfl | cases h) (fun h' ha m' => Stp.st (tm rfl) (tm rfl) zs39 rfl hc.fit ((ha.at_ 1 (by decide)).trans rfl) rfl rfl rfl rfl rfl) ?_
  refine LexE.val rfl rfl rfl (fun h' ha => Val.assign (tm rfl)) ?_
  refine LexE.val rfl rfl rfl (fun h' ha => Val.assign Ev.const) ?_
  refine LexE.nil (nm ?_)
  refine W.norm 54 [(4, _), (5, _), (6, _)] [some ⟨_, _, [[_]]⟩, some ⟨_, _, [[_]]⟩, some ⟨_, _, _⟩, some ⟨_, _, [[_]]⟩, some ⟨_, _, [[_]]⟩, some ⟨_, _, [[_]]⟩, some ⟨_, _, [[_]]⟩, _] rfl ⟨rfl, rfl, rfl, trivial⟩ rfl rfl ?_
  refine W.ret ?_
  exact Ret.of (.inr rfl) rfl (resCell3 rfl Tryd.underlying39 rfl zs39 rfl rfl rfl rfl rfl rfl rfl rfl) (Fewer.nil _) (.inr trivial) (fun id h => absurd h (Nat.not_lt_zero _)) (.tup (.agg (Acc.thaw hc rfl rfl (encL (by intro x; rfl))) .agg0) (.tup (.whole rfl rfl (by first | (simp; done) | (simp only [List.length_map]; omega)) (encL (by intro x; rfl))) (.tup (.same rfl) .tup0))) ⟨rfl, by rw [canonR, if_pos hall, ← hlL]⟩
end Go.Aw
namespace Go.Aw
open Go.RowKit Go.Proofs

theorem gA_nat {α : Type} [Inhabited α] {l : List α} {j : Nat} (h : j < l.length) : l[j]? = some (gA l j) := by
  have := gA_at (l := l) (i := (j : Int)) (by omega) (by omega)
  rwa [Int.toNat_natCast] at this
theorem gA_app {α : Type} [Inhabited α] {l l' : List α} {j : Nat} (h : j < l.length) : gA (l ++ l') (j : Int) = gA l j := by
  simp only [gA, Int.toNat_natCast, List.getD, List.getElem?_append_left h]
theorem WFG.kids {g : List Nd} (hg : WFG g) {n : Nd} (hn : n ∈ g) : n.kids.length ≤ 1000 := by
  obtain ⟨i, hi⟩ := List.mem_iff_getElem?.1 hn
  exact (hg.node i n hi).1
/-- Kids come before their nodes. -/
def OrdOk (g : List Nd) (l : List Int) : Prop := ∀ j : Nat, j < l.length → ∀ q, q ∈ (gA g (gA l j)).kids → q ∈ l.take j
theorem OrdOk.nil {g : List Nd} : OrdOk g [] := fun j hj => absurd hj (by simp)
theorem visitF_pre (g : List Nd) : ∀ (b : Nat) (i : Int) (l : List Int), l <+: visitF g b i l
  | 0, i, l => List.prefix_refl l
  | b + 1, i, l => by
    rw [visitF]
    split
    · exact List.prefix_refl l
    · have key : ∀ (ks : List Int) (l' : List Int), l' <+: ks.foldl (fun l k => visitF g b k l) l' := by
        intro ks
        induction ks with
        | nil => intro l'; exact List.prefix_refl _
        | cons k ks ih => intro l'; exact (visitF_pre g b k l').trans (ih _)
      exact (key _ l).trans (List.prefix_append _ _)
theorem visitF_mem {g : List Nd} : ∀ (b : Nat) (i : Int) (l : List Int), 0 < b → i ∈ visitF g b i l
  | b + 1, i, l, _ => by
    rw [visitF]
    split
    · assumption
    · simp
theorem visitF_ord {g : List Nd} (hg : WFG g) : ∀ (b : Nat) (i : Int) (l : List Int), i < b → 0 ≤ i → i < g.length → OrdOk g l → OrdOk g (visitF g b i l)
  | 0, i, l, h, h0, _, _ => by omega
  | b + 1, i, l, hib, h0, hi, hl => by
    rw [visitF]
    split
    · exact hl
    · have key : ∀ (ks : List Int) (l' : List Int), (∀ k, k ∈ ks → 0 ≤ k ∧ k < i) → OrdOk g l' → OrdOk g (ks.foldl (fun l k => visitF g b k l) l') ∧ ∀ k, k ∈ ks → k ∈ ks.foldl (fun l k => visitF g b k l) l' := by
        intro ks
        induction ks with
        | nil => intro l' _ h; exact ⟨h, fun k hk => by simp at hk⟩
        | cons k ks ih =>
          intro l' hk h
          have hk0 := hk k (List.mem_cons_self ..)
          obtain ⟨h3, h4⟩ := ih (visitF g b k l') (fun q hq => hk q (List.mem_cons_of_mem _ hq)) (visitF_ord hg b k l' (by omega) hk0.1 (by omega) h)
          refine ⟨h3, fun q hq => ?_⟩
          rcases List.mem_cons.1 hq with rfl | hq
          · have hp : ∀ (ks : List Int) (l' : List Int), l' <+: ks.foldl (fun l k => visitF g b k l) l' := by
              intro ks
              induction ks with
              | nil => intro l'; exact List.prefix_refl _
              | cons k ks ih => intro l'; exact (visitF_pre g b k l').trans (ih _)
            exact (hp ks _).subset (visitF_mem b _ _ (by omega))
          · exact h4 q hq
      obtain ⟨h1, h2⟩ := key (gA g i).kids l (fun k hk => by have := (hg.node _ _ (gA_at h0 hi)).2 k hk; omega) hl
      intro j hj q hq
      rw [List.length_append, List.length_cons, List.length_nil] at hj
      by_cases hjl : j < ((gA g i).kids.foldl (fun l k => visitF g b k l) l).length
      · rw [gA_app hjl] at hq
        rw [List.take_append_of_le_length (by omega)]
        exact h1 j hjl q hq
      · have hje : j = ((gA g i).kids.foldl (fun l k => visitF g b k l) l).length := by omega
        have e1 : gA (((gA g i).kids.foldl (fun l k => visitF g b k l) l) ++ [i]) (j : Int) = i := by rw [hje]; simp [gA, List.getD]
        rw [e1] at hq
        rw [hje, List.take_left']
        · exact h2 q hq
        · rfl
theorem canonL_all {g : List Nd} (hg : WFG g) {roots : List Int} (hr : ∀ r, r ∈ roots → 0 ≤ r ∧ r < (g.length : Int)) : VOk g (canonL g roots) ∧ OrdOk g (canonL g roots) ∧ ∀ r, r ∈ roots → r ∈ canonL g roots := by
  have key : ∀ (rs : List Int) (l' : List Int), (∀ k, k ∈ rs → 0 ≤ k ∧ k < (g.length : Int)) → VOk g l' → OrdOk g l' → VOk g (rs.foldl (fun l r => visitF g g.length r l) l') ∧ OrdOk g (rs.foldl (fun l r => visitF g g.length r l) l') ∧ (∀ r, r ∈ rs → r ∈ rs.foldl (fun l r => visitF g g.length r l) l') ∧ l' <+: rs.foldl (fun l r => visitF g g.length r l) l' := by
    intro rs
    induction rs with
    | nil => intro l' _ h1 h2; exact ⟨h1, h2, fun k hk => by simp at hk, List.prefix_refl _⟩
    | cons k rs ih =>
      intro l' hk h1 h2
      have hk0 := hk k (List.mem_cons_self ..)
      obtain ⟨a1, a2, a3, a4⟩ := ih (visitF g g.length k l') (fun q hq => hk q (List.mem_cons_of_mem _ hq)) (visitF_ok hg g.length k l' (by omega) hk0.1 hk0.2 h1).1 (visitF_ord hg g.length k l' (by omega) hk0.1 hk0.2 h2)
      refine ⟨a1, a2, fun q hq => ?_, (visitF_pre g g.length k l').trans a4⟩
      rcases List.mem_cons.1 hq with rfl | hq
      · exact a4.subset (visitF_mem _ _ _ (by omega))
      · exact a3 q hq
  obtain ⟨a1, a2, a3, _⟩ := key roots [] hr ⟨by simp, by simp⟩ OrdOk.nil
  exact ⟨a1, a2, a3⟩
/-- The node with the number j. -/
def nodeOf (g : List Nd) (l : List Int) (j : Nat) : Nd :=
  if (gA g (gA l j)).op = 0 then { gA g (gA l j) with kids := (gA g (gA l j)).kids.map (fun q => gA ((canonAt g l j).1.set (gA l j).toNat j) q), text := ⟨#[118]⟩ ++ decB (canonAt g l j).2.2 }
  else { gA g (gA l j) with kids := (gA g (gA l j)).kids.map (fun q => gA ((canonAt g l j).1.set (gA l j).toNat j) q) }
theorem canonAt_nodes (g : List Nd) (l : List Int) : ∀ k : Nat, (canonAt g l k).2.1 = (List.range k).map (nodeOf g l)
  | 0 => rfl
  | k + 1 => by
    rw [canonAt, List.range_succ, List.map_append, ← canonAt_nodes g l k, List.map_cons, List.map_nil, nodeOf]
    split <;> rfl
theorem canonAt_num {g : List Nd} {l : List Int} (hl : VOk g l) : ∀ k : Nat, k ≤ l.length → (∀ j : Nat, j < k → gA (canonAt g l k).1 (gA l j) = j) ∧ ∀ x : Int, 0 ≤ x → x < g.length → x ∉ l.take k → gA (canonAt g l k).1 x = -1 := by
  intro k
  induction k with
  | zero =>
    intro _
    refine ⟨fun j hj => by omega, fun x h0 h1 _ => ?_⟩
    have hx : x.toNat < g.length := by omega
    simp [canonAt, gA, List.getD, List.getElem?_replicate, hx]
  | succ k ih =>
    intro hk
    obtain ⟨ih1, ih2⟩ := ih (by omega)
    have e1 : (canonAt g l (k + 1)).1 = (canonAt g l k).1.set (gA l k).toNat k := by rw [canonAt]; split <;> rfl
    have hlen := (canonAt_ok g l k).1
    have hx := hl.2 _ (gA_mem (l := l) (i := (k : Int)) (by omega) (by omega))
    rw [e1]
    refine ⟨fun j hj => ?_, fun x h0 h1 hxn => ?_⟩
    · by_cases hjk : j = k
      · rw [hjk]; exact gA_set_same rfl (by omega)
      · have hjx := hl.2 _ (gA_mem (l := l) (i := (j : Int)) (by omega) (by omega))
        have hne : gA l k ≠ gA l j := fun he => by
          have h1 := gA_nat (l := l) (j := j) (by omega)
          have h2 := gA_nat (l := l) (j := k) (by omega)
          have h3 : l[j]? = l[k]? := by rw [h1, h2, he]
          have := (List.getElem?_inj (by omega) hl.1).1 h3
          omega
        rw [gA_set_ne (by omega)]
        exact ih1 j (by omega)
    · rw [List.take_add_one, gA_nat (show k < l.length by omega)] at hxn
      simp only [Option.toList_some, List.mem_append, List.mem_singleton, not_or] at hxn
      rw [gA_set_ne (by omega)]
      exact ih2 x h0 h1 hxn.1
theorem mem_take {l : List Int} {k : Nat} {q : Int} (h : q ∈ l.take k) : ∃ i : Nat, i < k ∧ i < l.length ∧ gA l i = q := by
  obtain ⟨i, hi⟩ := List.mem_iff_getElem?.1 h
  have hi' := (List.getElem?_eq_some_iff.1 hi).1
  rw [List.length_take] at hi'
  rw [List.getElem?_take, if_pos (by omega)] at hi
  refine ⟨i, by omega, by omega, ?_⟩
  have := gA_nat (l := l) (j := i) (by omega)
  rw [hi] at this; exact (Option.some.inj this).symm
/-- A kid's number. -/
theorem canon_kid {g : List Nd} {l : List Int} (hl : VOk g l) (ho : OrdOk g l) {j : Nat} (hj : j < l.length) {q : Int} (hq : q ∈ (gA g (gA l j)).kids) : ∃ i : Nat, i < j ∧ gA l i = q ∧ gA ((canonAt g l j).1.set (gA l j).toNat j) q = i := by
  obtain ⟨i, h1, h2, h3⟩ := mem_take (ho j hj q hq)
  refine ⟨i, h1, h3, ?_⟩
  have hx := hl.2 _ (gA_mem (l := l) (i := (j : Int)) (by omega) (by omega))
  have hjx := hl.2 _ (gA_mem (l := l) (i := (i : Int)) (by omega) (by omega))
  have hne : gA l j ≠ gA l i := fun he => by
    have h1 := gA_nat (l := l) (j := j) (by omega)
    have h2 := gA_nat (l := l) (j := i) (by omega)
    have h3 : l[i]? = l[j]? := by rw [h1, h2, he]
    have := (List.getElem?_inj (by omega) hl.1).1 h3
    omega
  rw [← h3, gA_set_ne (by omega)]
  exact (canonAt_num hl j (by omega)).1 i h1
theorem nodeOf_kids (g : List Nd) (l : List Int) (j : Nat) : (nodeOf g l j).kids = (gA g (gA l j)).kids.map (fun q => gA ((canonAt g l j).1.set (gA l j).toNat j) q) := by
  rw [nodeOf]; split <;> rfl
theorem canon_wf {g : List Nd} (hg : WFG g) {l : List Int} (hl : VOk g l) (ho : OrdOk g l) : WFG (canonAt g l l.length).2.1 := by
  refine ⟨?_, fun i n hn => ?_, fun n hn h0 => ?_⟩
  · rw [(canonAt_ok g l l.length).2.1]; exact Nat.le_trans hl.len hg.len
  · rw [canonAt_nodes, List.getElem?_map] at hn
    by_cases hi : i < l.length
    · rw [List.getElem?_range hi, Option.map_some] at hn
      have hx := hl.2 _ (gA_mem (l := l) (i := (i : Int)) (by omega) (by omega))
      rw [← Option.some.inj hn, nodeOf_kids]
      refine ⟨by rw [List.length_map]; exact hg.few hx.1 hx.2, fun k hk => ?_⟩
      obtain ⟨q, hq, rfl⟩ := List.mem_map.1 hk
      obtain ⟨i', h1, _, h3⟩ := canon_kid hl ho hi hq
      rw [h3]; omega
    · rw [List.getElem?_eq_none (by simp; omega)] at hn; cases hn
  · rw [canonAt_nodes] at hn
    obtain ⟨j, hj, rfl⟩ := List.mem_map.1 hn
    have hx := hl.2 _ (gA_mem (l := l) (i := (j : Int)) (by omega) (by have := List.mem_range.1 hj; omega))
    have e : (nodeOf g l j).op = (gA g (gA l j)).op := by rw [nodeOf]; split <;> rfl
    rw [nodeOf_kids, hg.var _ (gA_mem hx.1 hx.2) (by rw [← e]; exact h0)]; rfl
end Go.Aw
namespace Go.Aw
open Go.RowKit Go.Proofs

/-- What a step of the search hands back: whether it came to the end, the list, the fuel, whether fuel was lacking. -/
structure FR where
  ok : Bool
  L : List Int
  F : Int
  sp : Bool
deriving DecidableEq
/-- A node is given to a node of the pattern: the list, what was given, whether it is the one. -/
def giveF (i n : Int) (L G : List Int) : List Int × List Int × Bool :=
  if gA L i = -1 then (L.set i.toNat n, G ++ [i], decide (gA (L.set i.toNat n) i = n)) else (L, G, decide (gA L i = n))
def kidsF : List (Int × Int) → List Int → List Int → List Int × List Int × Bool
  | [], L, G => (L, G, true)
  | (k, n) :: r, L, G => if (giveF k n L G).2.2 = true then kidsF r (giveF k n L G).1 (giveF k n L G).2.1 else ((giveF k n L G).1, (giveF k n L G).2.1, false)
def undoF (G L : List Int) : List Int := G.foldl (fun L k => L.set k.toNat (-1)) L
/-- Takes back what was given, if the search has failed. -/
def backF (G : List Int) (x : FR) : FR := ⟨x.ok, if x.ok = true then x.L else undoF G x.L, x.F, x.sp⟩
def pairs (p g : List Nd) (i n : Int) : List (Int × Int) := (gA p i).kids.zip (gA g n).kids
/-- A node's shape and number of kids are those of another. -/
def fits (a b : Nd) : Bool := a.like b && decide (a.kids.length = b.kids.length)
def examF (fr : List Int → Int → Bool → FR) (p g : List Nd) (i n : Int) (L : List Int) (F : Int) (sp : Bool) : FR :=
  if (gA p i).op = 0 then
    if (gA p i).sort = (gA g n).sort then backF (giveF i n L []).2.1 (fr (giveF i n L []).1 F sp) else backF (giveF i n L []).2.1 ⟨false, (giveF i n L []).1, F, sp⟩
  else if fits (gA p i) (gA g n) = true then
    if (kidsF (pairs p g i n) (giveF i n L []).1 (giveF i n L []).2.1).2.2 = true then backF (kidsF (pairs p g i n) (giveF i n L []).1 (giveF i n L []).2.1).2.1 (fr (kidsF (pairs p g i n) (giveF i n L []).1 (giveF i n L []).2.1).1 F sp)
    else backF (kidsF (pairs p g i n) (giveF i n L []).1 (giveF i n L []).2.1).2.1 ⟨false, (kidsF (pairs p g i n) (giveF i n L []).1 (giveF i n L []).2.1).1, F, sp⟩
  else backF (giveF i n L []).2.1 ⟨false, (giveF i n L []).1, F, sp⟩
def loopF (ex : Int → List Int → Int → Bool → FR) : Nat → Int → List Int → Int → Bool → FR
  | 0, _, L, F, sp => ⟨false, L, F, sp⟩
  | k + 1, n, L, F, sp =>
    if F ≤ 0 then ⟨false, L, F, true⟩
    else if (ex n L (F - 1) sp).ok = true then ex n L (F - 1) sp
    else if (ex n L (F - 1) sp).sp = true then ex n L (F - 1) sp
    else loopF ex k (n + 1) (ex n L (F - 1) sp).L (ex n L (F - 1) sp).F (ex n L (F - 1) sp).sp
def fromF (p g : List Nd) : Nat → List Int → Int → Bool → FR
  | 0, L, F, sp => ⟨true, L, F, sp⟩
  | i + 1, L, F, sp => if gA L i = -1 then loopF (fun n => examF (fromF p g i) p g i n) g.length 0 L F sp else examF (fromF p g i) p g i (gA L i) L F sp

/-- Lists of the search: nodes of the graph, or none. -/
def LOk (p g : List Nd) (L : List Int) : Prop := L.length = p.length ∧ ∀ x, x ∈ L → x = -1 ∨ (0 ≤ x ∧ x < (g.length : Int))
def GOk (p : List Nd) (G : List Int) : Prop := ∀ x, x ∈ G → 0 ≤ x ∧ x < (p.length : Int)
theorem mem_set {α : Type} {l : List α} {i : Nat} {a x : α} (h : x ∈ l.set i a) : x ∈ l ∨ x = a := List.mem_or_eq_of_mem_set h
theorem LOk.set {p g : List Nd} {L : List Int} {i : Nat} {n : Int} (h : LOk p g L) (hn : n = -1 ∨ (0 ≤ n ∧ n < (g.length : Int))) : LOk p g (L.set i n) :=
  ⟨by rw [List.length_set]; exact h.1, fun x hx => by rcases mem_set hx with hx | rfl; exact h.2 x hx; exact hn⟩
theorem GOk.nil {p : List Nd} : GOk p [] := fun x hx => by simp at hx
theorem GOk.snoc {p : List Nd} {G : List Int} {i : Int} (h : GOk p G) (h0 : 0 ≤ i) (h1 : i < (p.length : Int)) : GOk p (G ++ [i]) := fun x hx => by
  rcases List.mem_append.1 hx with hx | hx
  · exact h x hx
  · rw [List.mem_singleton.1 hx]; exact ⟨h0, h1⟩
theorem giveF_ok {p g : List Nd} {i n : Int} {L G : List Int} (hL : LOk p g L) (hG : GOk p G) (h0 : 0 ≤ i) (h1 : i < p.length) (hn0 : 0 ≤ n) (hn1 : n < g.length) : LOk p g (giveF i n L G).1 ∧ GOk p (giveF i n L G).2.1 ∧ (giveF i n L G).2.1.length ≤ G.length + 1 := by
  rw [giveF]
  split
  · exact ⟨hL.set (.inr ⟨hn0, hn1⟩), hG.snoc h0 h1, by simp⟩
  · exact ⟨hL, hG, by simp⟩
theorem kidsF_ok {p g : List Nd} : ∀ (r : List (Int × Int)) {L G : List Int}, (∀ x, x ∈ r → (0 ≤ x.1 ∧ x.1 < (p.length : Int)) ∧ 0 ≤ x.2 ∧ x.2 < (g.length : Int)) → LOk p g L → GOk p G → LOk p g (kidsF r L G).1 ∧ GOk p (kidsF r L G).2.1 ∧ (kidsF r L G).2.1.length ≤ G.length + r.length
  | [], L, G, _, hL, hG => ⟨hL, hG, by simp [kidsF]⟩
  | (k, n) :: r, L, G, hr, hL, hG => by
    have h1 := hr (k, n) (List.mem_cons_self ..)
    obtain ⟨a1, a2, a3⟩ := giveF_ok (p := p) (g := g) (i := k) (n := n) hL hG h1.1.1 h1.1.2 h1.2.1 h1.2.2
    rw [kidsF]
    split
    · obtain ⟨b1, b2, b3⟩ := kidsF_ok r (fun x hx => hr x (List.mem_cons_of_mem _ hx)) a1 a2
      exact ⟨b1, b2, by simp only [List.length_cons]; omega⟩
    · exact ⟨a1, a2, by simp only [List.length_cons]; omega⟩
theorem undoF_ok {p g : List Nd} : ∀ (G : List Int) {L : List Int}, LOk p g L → LOk p g (undoF G L)
  | [], L, hL => hL
  | k :: G, L, hL => undoF_ok G (hL.set (.inl rfl))
theorem backF_ok {p g : List Nd} {G : List Int} {x : FR} (h : LOk p g x.L) : LOk p g (backF G x).L := by
  rw [backF]
  split
  · exact h
  · exact undoF_ok G h
theorem pairs_ok {p g : List Nd} (hp : WFG p) (hg : WFG g) {i n : Int} (h0 : 0 ≤ i) (h1 : i < p.length) (hn0 : 0 ≤ n) (hn1 : n < g.length) : ∀ x, x ∈ pairs p g i n → (0 ≤ x.1 ∧ x.1 < (p.length : Int)) ∧ 0 ≤ x.2 ∧ x.2 < (g.length : Int) := by
  rintro ⟨a, b⟩ hx
  have hm := List.of_mem_zip hx
  have h2 := (hp.node _ _ (gA_at h0 h1)).2 a hm.1
  have h3 := (hg.node _ _ (gA_at hn0 hn1)).2 b hm.2
  exact ⟨⟨h2.1, by omega⟩, h3.1, by omega⟩
/-- What is kept by a step. -/
def FOk (p g : List Nd) (F : Int) (x : FR) : Prop := LOk p g x.L ∧ 0 ≤ x.F ∧ x.F ≤ F
theorem examF_ok {p g : List Nd} (hp : WFG p) (hg : WFG g) {fr : List Int → Int → Bool → FR} (hfr : ∀ L F sp, LOk p g L → 0 ≤ F → FOk p g F (fr L F sp)) {i n : Int} (h0 : 0 ≤ i) (h1 : i < p.length) (hn0 : 0 ≤ n) (hn1 : n < g.length) {L : List Int} {F : Int} {sp : Bool} (hL : LOk p g L) (hF : 0 ≤ F) : FOk p g F (examF fr p g i n L F sp) := by
  obtain ⟨a1, a2, a3⟩ := giveF_ok (p := p) (g := g) (i := i) (n := n) hL GOk.nil h0 h1 hn0 hn1
  obtain ⟨b1, b2, b3⟩ := kidsF_ok (pairs p g i n) (pairs_ok hp hg h0 h1 hn0 hn1) a1 a2
  rw [examF]
  split
  · split
    · obtain ⟨c1, c2, c3⟩ := hfr (giveF i n L []).1 F sp a1 hF
      exact ⟨backF_ok c1, c2, c3⟩
    · exact ⟨backF_ok a1, hF, Int.le_refl _⟩
  · split
    · split
      · obtain ⟨c1, c2, c3⟩ := hfr (kidsF (pairs p g i n) (giveF i n L []).1 (giveF i n L []).2.1).1 F sp b1 hF
        exact ⟨backF_ok c1, c2, c3⟩
      · exact ⟨backF_ok b1, hF, Int.le_refl _⟩
    · exact ⟨backF_ok a1, hF, Int.le_refl _⟩
theorem loopF_ok {p g : List Nd} {ex : Int → List Int → Int → Bool → FR} (hex : ∀ (n : Int) L F sp, 0 ≤ n → n < g.length → LOk p g L → 0 ≤ F → FOk p g F (ex n L F sp)) : ∀ (k : Nat) (n : Int) (L : List Int) (F : Int) (sp : Bool), 0 ≤ n → n + k ≤ g.length → LOk p g L → 0 ≤ F → FOk p g F (loopF ex k n L F sp)
  | 0, n, L, F, sp, _, _, hL, hF => ⟨hL, hF, Int.le_refl _⟩
  | k + 1, n, L, F, sp, h0, h1, hL, hF => by
    rw [loopF]
    split
    · exact ⟨hL, hF, Int.le_refl _⟩
    · obtain ⟨a1, a2, a3⟩ := hex n L (F - 1) sp h0 (by omega) hL (by omega)
      split
      · exact ⟨a1, a2, by omega⟩
      · split
        · exact ⟨a1, a2, by omega⟩
        · obtain ⟨b1, b2, b3⟩ := loopF_ok hex k (n + 1) (ex n L (F - 1) sp).L (ex n L (F - 1) sp).F (ex n L (F - 1) sp).sp (by omega) (by omega) a1 a2
          exact ⟨b1, b2, by omega⟩
theorem fromF_ok {p g : List Nd} (hp : WFG p) (hg : WFG g) : ∀ (i : Nat) (L : List Int) (F : Int) (sp : Bool), i ≤ p.length → LOk p g L → 0 ≤ F → FOk p g F (fromF p g i L F sp)
  | 0, L, F, sp, _, hL, hF => ⟨hL, hF, Int.le_refl _⟩
  | i + 1, L, F, sp, hi, hL, hF => by
    have ih : ∀ L F sp, LOk p g L → 0 ≤ F → FOk p g F (fromF p g i L F sp) := fun L F sp h1 h2 => fromF_ok hp hg i L F sp (by omega) h1 h2
    rw [fromF]
    split
    · exact loopF_ok (fun n L F sp h0 h1 h2 h3 => examF_ok hp hg ih (by omega) (by omega) h0 h1 h2 h3) _ _ _ _ _ (by omega) (by omega) hL hF
    · rename_i hne
      have := hL.2 _ (gA_mem (l := L) (i := (i : Int)) (by omega) (by rw [hL.1]; omega))
      exact examF_ok hp hg ih (by omega) (by omega) (by omega) (by omega) hL hF
end Go.Aw
namespace Go.Aw
open Go.RowKit Go.Proofs

theorem Fun.val {K : Ctx} {S : St} {c : Operand} {f : FuncId} (h : Ev K S c (.f (.v (.func (.func f) #[] #[])))) : Fun K S c f [] := fun L a w hs => by
  have := h L a w hs
  exact ⟨#[], this, trivial⟩
/-- The graph of two variables and their sum. -/
def sumG (s1 s2 : ByteArray) (a b : Int) : List Nd := [⟨0, [], 0, 0, 0, s1, ⟨0, 8, 0⟩⟩, ⟨0, [], 0, 0, 0, s2, ⟨0, 8, 0⟩⟩, ⟨9, [a, b], 0, 0, 0, ByteArray.empty, ⟨0, 8, 0⟩⟩]

-- slices.EqualFunc[[]api.Node,[]api.Node,api.Node,api.Node]
-- enthymemelaw13.sum
set_option maxHeartbeats 1000000 in
theorem c_sum (W0 : World) (N : Nat) (s1 s2 : ByteArray) (a b : Int) : AC (En W0 N) 33 [.f (.v (.string s1)), .f (.v (.string s2)), .i a, .i b] [] (fun r h => h = [] ∧ r = .agg [.f (.nodes (sumG s1 s2 a b))]) := by
  refine AC.enter Tryd.func33 rfl Tryd.ntmps33 (bl rfl) fun X => ?_
  refine sr ?_
  refine WL.stp rfl (Stp.alloc zz39 rfl rfl) ?_
  refine WL.norm 24 [(0, _), (1, _), (2, _), (3, _), (8, _)] [some ⟨_, _, [[_]]⟩] rfl ⟨rfl, rfl, rfl, rfl, rfl, trivial⟩ rfl rfl ?_
  refine wn ?_
  refine sr ?_
  refine WL.v (Val.build (vs := [(1, _)]) Tryd.underlying33 zz33 rfl rfl pl33 rfl ⟨Ev.const, rfl, rfl, rfl, trivial⟩) rfl ?_
  refine WL.stp rfl (Stp.alloc zz33 rfl rfl) ?_
  refine WL.stp rfl (Stp.st (tm rfl) (tm rfl) zs33 rfl rfl rfl rfl rfl rfl rfl rfl) ?_
  refine WL.norm 24 [(0, _), (1, _), (2, _), (3, _), (8, _), (9, _)] [some ⟨_, _, [[_]]⟩, some ⟨_, _, [[_, _, _]]⟩] rfl ⟨rfl, rfl, rfl, rfl, rfl, rfl, trivial⟩ rfl rfl ?_
  refine wn ?_
  refine sr ?_
  refine mv rfl rfl ?_
  refine WL.v (Val.loadLiveAgg Tryd.underlying33 rfl zs33 (tm rfl) rfl rfl rfl rfl (bl rfl)) rfl ?_
  refine WL.v (Val.le (Val.build (vs := [(0, _), (5, _), (6, _)]) Tryd.underlying35 zz35 rfl rfl pl35 rfl ⟨Ev.const, rfl, rfl, rfl, ⟨(tm rfl), rfl, rfl, rfl, ⟨(tm rfl), rfl, rfl, rfl, trivial⟩⟩⟩) (Le.agg (ys := [_, .f (.lst 1 []), _, _, _, _, _, _, _]) (LeL.cons (Le.refl _) (LeL.cons Le.nil (LeL.cons (Le.refl _) (LeL.cons (Le.refl _) (LeL.cons (Le.refl _) (LeL.cons (Le.refl _) (LeL.cons (Le.refl _) (LeL.cons (Le.refl _) (LeL.cons (Le.refl _) LeL.nil))))))))))) rfl ?_
  refine mv rfl rfl ?_
  refine WL.v (Val.loadLiveAgg Tryd.underlying33 rfl zs33 (tm rfl) rfl rfl rfl rfl (bl rfl)) rfl ?_
  refine WL.v (Val.le (Val.build (vs := [(0, _), (5, _), (6, _)]) Tryd.underlying35 zz35 rfl rfl pl35 rfl ⟨Ev.const, rfl, rfl, rfl, ⟨(tm rfl), rfl, rfl, rfl, ⟨(tm rfl), rfl, rfl, rfl, trivial⟩⟩⟩) (Le.agg (ys := [_, .f (.lst 1 []), _, _, _, _, _, _, _]) (LeL.cons (Le.refl _) (LeL.cons Le.nil (LeL.cons (Le.refl _) (LeL.cons (Le.refl _) (LeL.cons (Le.refl _) (LeL.cons (Le.refl _) (LeL.cons (Le.refl _) (LeL.cons (Le.refl _) (LeL.cons (Le.refl _) LeL.nil))))))))))) rfl ?_
  refine mv rfl rfl ?_
  refine mv rfl rfl ?_
  refine WL.stp rfl (Stp.buildFrozen (xs := [_, _]) (fs := ([a, b] : List Int).map encI) Tryd.underlying22 zs3 zz3 rfl rfl (evc (tm rfl) (evc (tm rfl) evn)) fitL (bl rfl) rfl rfl) ?_
  refine WL.v (Val.loadLiveAgg Tryd.underlying33 rfl zs33 (tm rfl) rfl rfl rfl rfl (bl rfl)) rfl ?_
  refine WL.v (Val.build (vs := [(0, _), (1, _), (6, _)]) Tryd.underlying35 zz35 rfl rfl pl35 rfl ⟨Ev.const, rfl, rfl, rfl, ⟨(tm rfl), rfl, rfl, rfl, ⟨(tm rfl), rfl, rfl, rfl, trivial⟩⟩⟩) rfl ?_
  refine WL.stp rfl (Stp.buildFrozen (xs := [_, _, _]) (fs := (sumG s1 s2 a b).map Nd.cells) Tryd.underlying23 zs35 zz35 rfl rfl (evc (tm rfl) (evc (tm rfl) (evc (tm rfl) evn))) fitL (bl rfl) rfl rfl) ?_
  refine WL.v (Val.build (vs := [(0, _)]) Tryd.underlying39 zz39 rfl rfl pl39 rfl ⟨(tm rfl), rfl, rfl, rfl, trivial⟩) rfl ?_
  refine WL.stp rfl (Stp.st (tm rfl) (tm rfl) zs39 rfl rfl rfl rfl rfl rfl rfl rfl) ?_
  refine WL.norm 24 [(8, _)] [some ⟨_, _, [[_]]⟩, some ⟨_, _, [[_, _, _]]⟩] rfl ⟨rfl, trivial⟩ rfl rfl ?_
  refine wn ?_
  refine W.ret ?_
  exact Ret.of (.inr rfl) rfl (resCell rfl Tryd.underlying39 rfl zs39 rfl rfl rfl rfl rfl rfl) (Fewer.nil _) (.inr trivial) (fun id h => absurd h (Nat.not_lt_zero _)) (.same rfl) ⟨rfl, rfl⟩
-- match.Canonical
-- enthymemeref13.Canonical
end Go.Aw
namespace Go.Aw
open Go.RowKit Go.Proofs

/-- The rows of the search. -/
abbrev HF (p g : List Nd) (gL : Nat) (L : List Int) (F : Int) (sp : Bool) : Heap :=
  [some ⟨0, 5, [[.f (.nodes p), .f (.nodes g), .row 1 gL 1 0 p.length, .i F, .b sp]]⟩, some ⟨gL, 1, fz (L.map encI)⟩]
abbrev HX (p g : List Nd) (gL : Nat) (L : List Int) (F : Int) (sp fb : Bool) (vG : AV) (oG : Option Row) : Heap :=
  [some ⟨0, 5, [[.f (.nodes p), .f (.nodes g), .row 1 gL 1 0 p.length, .i F, .b sp]]⟩, some ⟨gL, 1, fz (L.map encI)⟩, some ⟨0, 1, [[.ptr 0 0 5 0 0]]⟩, some ⟨0, 1, [[.b fb]]⟩, some ⟨0, 1, [[vG]]⟩, oG]
def RF (p g : List Nd) (gL : Nat) (x : FR) : AV → Heap → Prop := fun r h => r = .b x.ok ∧ h = HF p g gL x.L x.F x.sp
theorem HF.lo {p g : List Nd} {gL : Nat} {L : List Int} {F : Int} {sp : Bool} : HLo (HF p g gL L F sp) (HF p g gL L F sp) :=
  HLo.box (lo1 (lo1 (lo4 rfl (lo1 (lo1 lo0))))) (HLo.fz HLo.nil)
theorem HX.lo {p g : List Nd} {gL : Nat} {L : List Int} {F : Int} {sp fb : Bool} {vG : AV} {oG : Option Row} {xs : List (List FV)} (hG : Acc 5 1 (fz xs) vG oG) : HLo (HX p g gL L F sp fb vG oG) (HX p g gL L F sp fb vG oG) :=
  HLo.box (lo1 (lo1 (lo4 rfl (lo1 (lo1 lo0))))) (HLo.fz (HLo.box (lo3 rfl lo0) (HLo.box (lo1 lo0) (HLo.box (lo5 (lo_acc hG rfl) lo0) (HLo.o (oLo_acc hG) HLo.nil)))))
def RG (p g : List Nd) (gL : Nat) (F : Int) (sp fb : Bool) (x : List Int × List Int × Bool) : AV → Heap → Prop := fun r h => r = .b x.2.2 ∧ ∃ v o, h = HX p g gL x.1 F sp fb v o ∧ Acc 5 1 (fz (x.2.1.map encI)) v o
theorem RG.ok {p g : List Nd} {gL : Nat} {F : Int} {sp fb : Bool} {x : List Int × List Int × Bool} {n : Nat} (hn : n = 6) : ∀ r h', RG p g gL F sp fb x r h' → r.lo h' = true ∧ HLo h' h' ∧ h'.length = n := by
  rintro r h' ⟨rfl, v, o, rfl, hc⟩
  exact ⟨rfl, HX.lo hc, hn.symm⟩
theorem RF.ok {p g : List Nd} {gL : Nat} {x : FR} {n : Nat} (hn : n = 2) : ∀ r h', RF p g gL x r h' → r.lo h' = true ∧ HLo h' h' ∧ h'.length = n := by
  rintro r h' ⟨rfl, rfl⟩
  exact ⟨rfl, HF.lo, hn.symm⟩
theorem undo_step {G L : List Int} {k : Int} (h0 : 0 ≤ k) (h1 : k < G.length) : (undoF (G.take k.toNat) L).set (gA G k).toNat (-1) = undoF (G.take (k + 1).toNat) L :=
  fold_step (f := fun (L : List Int) k => L.set k.toNat (-1)) h0 h1
theorem undoF_take_ok {p g : List Nd} {G L : List Int} {k : Nat} (hL : LOk p g L) : (undoF (G.take k) L).length = p.length := (undoF_ok (g := g) (p := p) _ hL).1
theorem kids_drop {p g : List Nd} {i n j : Int} (h0 : 0 ≤ j) (h1 : j < (gA p i).kids.length) (h2 : (gA p i).kids.length = (gA g n).kids.length) : (pairs p g i n).drop j.toNat = (gA (gA p i).kids j, gA (gA g n).kids j) :: (pairs p g i n).drop (j + 1).toNat := by
  have e1 := gA_at (l := (gA p i).kids) (i := j) h0 h1
  have e2 := gA_at (l := (gA g n).kids) (i := j) h0 (by omega)
  have e3 : (pairs p g i n)[j.toNat]? = some (gA (gA p i).kids j, gA (gA g n).kids j) := by
    rw [pairs, List.getElem?_zip_eq_some]; exact ⟨e1, e2⟩
  have hlt := (List.getElem?_eq_some_iff.1 e3).1
  rw [List.drop_eq_getElem_cons hlt, show (j + 1).toNat = j.toNat + 1 from by omega]
  congr 1
  exact (List.getElem?_eq_some_iff.1 e3).2
theorem kids_none {p g : List Nd} {i n j : Int} (h0 : 0 ≤ j) (h1 : (gA p i).kids.length ≤ j) : (pairs p g i n).drop j.toNat = [] := by
  rw [List.drop_eq_nil_iff, pairs, List.length_zip]; omega
theorem loop_step {ex : Int → List Int → Int → Bool → FR} {n : Int} {len : Nat} {L : List Int} {F : Int} {sp : Bool} (h0 : 0 ≤ n) (h1 : n < len) : loopF ex (len - n).toNat n L F sp =
    if F ≤ 0 then ⟨false, L, F, true⟩
    else if (ex n L (F - 1) sp).ok = true then ex n L (F - 1) sp
    else if (ex n L (F - 1) sp).sp = true then ex n L (F - 1) sp
    else loopF ex (len - (n + 1)).toNat (n + 1) (ex n L (F - 1) sp).L (ex n L (F - 1) sp).F (ex n L (F - 1) sp).sp := by
  rw [show (len - n).toNat = (len - (n + 1)).toNat + 1 from by omega, loopF]

-- (*match.finder).examine$2
set_option maxHeartbeats 1000000 in
theorem c_give (W0 : World) (N : Nat) (p g : List Nd) (gL : Nat) (L G : List Int) (F : Int) (sp fb : Bool) (vG : AV) (oG : Option Row) (i n : Int) (hL : L.length = p.length) (h0 : 0 ≤ i) (h1 : i < p.length) (hp : p.length ≤ 1000) (hGl : G.length ≤ 100000) (hA : Acc 5 1 (fz (G.map encI)) vG oG) : AC (En W0 N) 62 [.i i, .i n, .ptr 2 0 1 0 0, .ptr 4 0 1 0 0] (HX p g gL L F sp fb vG oG) (RG p g gL F sp fb (giveF i n L G)) := by
  refine AC.enter Tryd.func62 rfl Tryd.ntmps62 (bl rfl) fun X => ?_
  refine sr ?_
  refine WL.v (Val.assign Ev.const) rfl ?_
  refine WL.norm 35 [(0, _), (1, _), (2, _), (3, _)] [some ⟨_, _, [[_, _, _, _, _]]⟩, some ⟨_, _, _⟩, some ⟨_, _, [[_]]⟩, some ⟨_, _, [[_]]⟩, some ⟨_, _, [[_]]⟩, _] rfl ⟨rfl, rfl, rfl, rfl, trivial⟩ rfl rfl ?_
  refine wn ?_
  refine W.seq ?_
  refine sr ?_
  refine WL.v (Val.loadLive Tryd.underlying89 rfl (tm rfl) rfl rfl rfl rfl rfl) rfl ?_
  refine WL.v (Val.nilCheck (tm rfl)) rfl ?_
  refine WL.v (Val.fal (off := 2) Tryd.underlying76 rfl rfl zs22 (tm rfl)) rfl ?_
  refine WL.v (Val.loadLive Tryd.underlying22 rfl (tm rfl) rfl rfl rfl rfl rfl) rfl ?_
  refine mv rfl rfl ?_
  refine WL.v (Val.indexAddrLive Tryd.underlying22 zs3 (tm rfl) (tm rfl) (by omega) (by omega)) rfl ?_
  refine WL.v (Val.loadLive Tryd.underlying3 rfl (tm rfl) rfl rfl rfl (fz_at (by omega) (by omega)) rfl) rfl ?_
  refine WL.v (Val.eql (tm rfl) Ev.const) rfl ?_
  refine WL.norm 35 [(0, _), (1, _), (2, _), (3, _), (14, _)] [some ⟨_, _, [[_, _, _, _, _]]⟩, some ⟨_, _, _⟩, some ⟨_, _, [[_]]⟩, some ⟨_, _, [[_]]⟩, some ⟨_, _, [[_]]⟩, _] rfl ⟨rfl, rfl, rfl, rfl, rfl, trivial⟩ rfl rfl ?_
  refine wn ?_
  refine W.condP rfl (fun hc1 => ?_) (fun hc1 => ?_)
  · try simp only [td] at hc1
    refine sr ?_
    refine WL.v (Val.loadLive Tryd.underlying89 rfl (tm rfl) rfl rfl rfl rfl rfl) rfl ?_
    refine WL.v (Val.nilCheck (tm rfl)) rfl ?_
    refine WL.v (Val.fal (off := 2) Tryd.underlying76 rfl rfl zs22 (tm rfl)) rfl ?_
    refine WL.v (Val.loadLive Tryd.underlying22 rfl (tm rfl) rfl rfl rfl rfl rfl) rfl ?_
    refine mv rfl rfl ?_
    refine mv rfl rfl ?_
    refine WL.v (Val.indexAddrLive Tryd.underlying22 zs3 (tm rfl) (tm rfl) (by omega) (by omega)) rfl ?_
    refine WL.stp rfl (Stp.storeI zs3 (tm rfl) (tm rfl) rfl (by omega) (by omega) rfl) ?_
    refine WL.norm 35 [(0, _), (1, _), (2, _), (3, _)] [some ⟨_, _, [[_, _, _, _, _]]⟩, some ⟨_, _, _⟩, some ⟨_, _, [[_]]⟩, some ⟨_, _, [[_]]⟩, some ⟨_, _, [[_]]⟩, _] rfl ⟨rfl, rfl, rfl, rfl, trivial⟩ rfl rfl ?_
    refine wn ?_
    refine W.region ?_
    refine WL.v (Val.loadLive Tryd.underlying22 rfl (tm rfl) rfl rfl rfl rfl rfl) rfl ?_
    refine mv rfl rfl ?_
    refine WL.stp rfl (Stp.buildFrozen (xs := [_]) (fs := ([i] : List Int).map encI) Tryd.underlying22 zs3 zz3 rfl rfl (evc (tm rfl) evn) fitL (bl rfl) rfl rfl) ?_
    refine WL.appE (enc := encI) ap22_22 (tm rfl) rfl hA (ArgE.lst (enc := encI) (tm rfl) (by intro x; rfl)) (by simp only [List.length_cons, List.length_nil]; omega) rfl ?_
    intro v' o' hA'
    obtain ⟨gen', rfl, rfl⟩ := Acc.some hA' (by simp)
    refine WL.stp rfl (Stp.st (tm rfl) (tm rfl) zs22 rfl rfl rfl rfl rfl rfl rfl rfl) ?_
    refine WL.norm 35 [(0, _), (1, _), (2, _)] [some ⟨_, _, [[_, _, _, _, _]]⟩, some ⟨_, _, _⟩, some ⟨_, _, [[_]]⟩, some ⟨_, _, [[_]]⟩, some ⟨_, _, [[_]]⟩, _] rfl ⟨rfl, rfl, rfl, trivial⟩ rfl rfl ?_
    refine wn ?_
    refine sr ?_
    refine WL.v (Val.loadLive Tryd.underlying89 rfl (tm rfl) rfl rfl rfl rfl rfl) rfl ?_
    refine WL.v (Val.nilCheck (tm rfl)) rfl ?_
    refine WL.v (Val.fal (off := 2) Tryd.underlying76 rfl rfl zs22 (tm rfl)) rfl ?_
    refine WL.v (Val.loadLive Tryd.underlying22 rfl (tm rfl) rfl rfl rfl rfl rfl) rfl ?_
    refine mv rfl rfl ?_
    refine WL.v (Val.indexAddrLive Tryd.underlying22 zs3 (tm rfl) (tm rfl) (by omega) (by omega)) rfl ?_
    refine WL.v (Val.loadLive Tryd.underlying3 rfl (tm rfl) rfl rfl rfl (fz_at (by omega) (by first | (rw [List.length_set]; omega) | omega)) rfl) rfl ?_
    refine mv rfl rfl ?_
    refine WL.v (Val.eql (tm rfl) (tm rfl)) rfl ?_
    refine asg rfl rfl ?_
    refine WL.norm 35 [(6, _)] [some ⟨_, _, [[_, _, _, _, _]]⟩, some ⟨_, _, _⟩, some ⟨_, _, [[_]]⟩, some ⟨_, _, [[_]]⟩, some ⟨_, _, [[_]]⟩, _] rfl ⟨rfl, trivial⟩ rfl rfl ?_
    refine wn ?_
    refine W.ret ?_
    exact Ret.keep (.inr rfl) rfl (res1 rfl rfl) rfl ⟨by rw [giveF, if_pos hc1], _, _, by rw [giveF, if_pos hc1], by rw [giveF, if_pos hc1]; exact hA'⟩
  try simp only [td] at hc1
  refine W.skip (nm ?_)
  refine sr ?_
  refine WL.v (Val.loadLive Tryd.underlying89 rfl (tm rfl) rfl rfl rfl rfl rfl) rfl ?_
  refine WL.v (Val.nilCheck (tm rfl)) rfl ?_
  refine WL.v (Val.fal (off := 2) Tryd.underlying76 rfl rfl zs22 (tm rfl)) rfl ?_
  refine WL.v (Val.loadLive Tryd.underlying22 rfl (tm rfl) rfl rfl rfl rfl rfl) rfl ?_
  refine mv rfl rfl ?_
  refine WL.v (Val.indexAddrLive Tryd.underlying22 zs3 (tm rfl) (tm rfl) (by omega) (by omega)) rfl ?_
  refine WL.v (Val.loadLive Tryd.underlying3 rfl (tm rfl) rfl rfl rfl (fz_at (by omega) (by first | (rw [List.length_set]; omega) | omega)) rfl) rfl ?_
  refine mv rfl rfl ?_
  refine WL.v (Val.eql (tm rfl) (tm rfl)) rfl ?_
  refine asg rfl rfl ?_
  refine WL.norm 35 [(6, _)] [some ⟨_, _, [[_, _, _, _, _]]⟩, some ⟨_, _, _⟩, some ⟨_, _, [[_]]⟩, some ⟨_, _, [[_]]⟩, some ⟨_, _, [[_]]⟩, _] rfl ⟨rfl, trivial⟩ rfl rfl ?_
  refine wn ?_
  refine W.ret ?_
  exact Ret.keep (.inr rfl) rfl (res1 rfl rfl) rfl ⟨by rw [giveF, if_neg hc1], _, _, by rw [giveF, if_neg hc1], by rw [giveF, if_neg hc1]; exact hA⟩
-- (*match.finder).examine$1
set_option maxHeartbeats 1000000 in
theorem c_undo (W0 : World) (N : Nat) (p g : List Nd) (gL : Nat) (L G : List Int) (F : Int) (sp fb : Bool) (vG : AV) (oG : Option Row) (b1 b2 : Option Row) (hL : LOk p g L) (hG : GOk p G) (hGl : G.length ≤ 100000) (hA : Acc 5 1 (fz (G.map encI)) vG oG) : ACD (En W0 N) 61 [.ptr 3 0 1 0 0, .ptr 4 0 1 0 0, .ptr 2 0 1 0 0] (HX p g gL L F sp fb vG oG ++ [b1, b2]) (fun r h => r = .tup [] ∧ h = HX p g gL (if fb = true then L else undoF G L) F sp fb vG oG ++ [b1, b2]) := by
  refine ACD.enter Tryd.func61 rfl Tryd.ntmps61 (bl rfl) fun X => ?_
  refine sr ?_
  refine WL.v (Val.loadLive Tryd.underlying4 rfl (tm rfl) rfl rfl rfl rfl rfl) rfl ?_
  refine WL.v (Val.not (tm rfl)) rfl ?_
  refine WL.norm 20 [(1, _), (2, _), (6, _)] [some ⟨_, _, [[_, _, _, _, _]]⟩, some ⟨_, _, _⟩, some ⟨_, _, [[_]]⟩, some ⟨_, _, [[_]]⟩, some ⟨_, _, [[_]]⟩, _, _, _] rfl ⟨rfl, rfl, rfl, trivial⟩ rfl rfl ?_
  refine wn ?_
  refine W.condP rfl (fun hc0 => ?_) (fun hc0 => ?_)
  · try simp only [td] at hc0
    refine sr ?_
    refine WL.v (Val.loadLive Tryd.underlying22 rfl (tm rfl) rfl rfl rfl rfl rfl) rfl ?_
    refine WL.v (Val.lenA Tryd.underlying22 (tm rfl) hA) rfl ?_
    refine WL.v (Val.move Ev.const) rfl ?_
    refine WL.norm 20 [(2, _), (7, _), (8, _), (9, _)] [some ⟨_, _, [[_, _, _, _, _]]⟩, some ⟨_, _, _⟩, some ⟨_, _, [[_]]⟩, some ⟨_, _, [[_]]⟩, some ⟨_, _, [[_]]⟩, _, _, _] rfl ⟨rfl, rfl, rfl, rfl, trivial⟩ rfl rfl ?_
    refine wn ?_
    refine W.norm 20 [(2, _), (7, _), (8, _), (9, _)] [some ⟨_, _, [[_, _, _, _, _]]⟩, some ⟨_, _, _⟩, some ⟨_, _, [[_]]⟩, some ⟨_, _, [[_]]⟩, some ⟨_, _, [[_]]⟩, _, _, _] rfl ⟨rfl, rfl, rfl, rfl, trivial⟩ rfl rfl ?_
    refine W.block (W.loop (fun nn S => ∃ (k : Int), S = ⟨20, [(2, .ptr 2 0 1 0 0), (7, vG), (8, .i G.length), (9, .i k)], HX p g gL (undoF (G.take k.toNat) L) F sp fb vG oG ++ [b1, b2], []⟩ ∧ nn = ((G.length - k).toNat) ∧ (0 ≤ k) ∧ (k ≤ G.length)) ⟨0, rfl, rfl, by omega, by omega⟩ ?_)
    rintro nn S ⟨k, rfl, rfl, hk0, hk1⟩
    refine sr ?_
    refine WL.v (Val.lss (tm rfl) (tm rfl)) rfl ?_
    refine WL.norm 20 [(2, _), (7, _), (8, _), (9, _), (10, _)] [some ⟨_, _, [[_, _, _, _, _]]⟩, some ⟨_, _, _⟩, some ⟨_, _, [[_]]⟩, some ⟨_, _, [[_]]⟩, some ⟨_, _, [[_]]⟩, _, _, _] rfl ⟨rfl, rfl, rfl, rfl, rfl, trivial⟩ rfl rfl ?_
    refine wn ?_
    refine W.seq ?_
    refine W.condP rfl (fun hc2 => ?_) (fun hc2 => ?_)
    · try simp only [td] at hc2
      refine W.skip (nm ?_)
      refine W.seq ?_
      refine W.block ?_
      refine W.seq ?_
      obtain ⟨gen', rfl, rfl⟩ := Acc.some hA (by omega)
      have hkk := hG _ (gA_mem (l := G) hk0 hc2)
      have hul := undoF_take_ok (G := G) (k := k.toNat) hL
      refine W.region ?_
      refine WL.v (Val.indexAddrLive Tryd.underlying22 zs3 (tm rfl) (tm rfl) (by omega) (by omega)) rfl ?_
      refine WL.v (Val.loadLive Tryd.underlying3 rfl (tm rfl) rfl rfl rfl (fz_at (by omega) (by omega)) rfl) rfl ?_
      refine asg rfl rfl ?_
      refine WL.norm 20 [(2, _), (4, _), (7, _), (8, _), (9, _)] [some ⟨_, _, [[_, _, _, _, _]]⟩, some ⟨_, _, _⟩, some ⟨_, _, [[_]]⟩, some ⟨_, _, [[_]]⟩, some ⟨_, _, [[_]]⟩, some ⟨_, _, _⟩, _, _] rfl ⟨rfl, rfl, rfl, rfl, rfl, trivial⟩ rfl rfl ?_
      refine wn ?_
      refine W.region ?_
      refine WL.v (Val.loadLive Tryd.underlying89 rfl (tm rfl) rfl rfl rfl rfl rfl) rfl ?_
      refine WL.v (Val.nilCheck (tm rfl)) rfl ?_
      refine WL.v (Val.fal (off := 2) Tryd.underlying76 rfl rfl zs22 (tm rfl)) rfl ?_
      refine WL.v (Val.loadLive Tryd.underlying22 rfl (tm rfl) rfl rfl rfl rfl rfl) rfl ?_
      refine mv rfl rfl ?_
      refine WL.v (Val.indexAddrLive Tryd.underlying22 zs3 (tm rfl) (tm rfl) (by omega) (by omega)) rfl ?_
      refine WL.stp rfl (Stp.storeI zs3 (tm rfl) Ev.const rfl (by omega) (by omega) rfl) ?_
      refine WL.norm 20 [(2, _), (7, _), (8, _), (9, _)] [some ⟨_, _, [[_, _, _, _, _]]⟩, some ⟨_, _, _⟩, some ⟨_, _, [[_]]⟩, some ⟨_, _, [[_]]⟩, some ⟨_, _, [[_]]⟩, some ⟨_, _, _⟩, _, _] rfl ⟨rfl, rfl, rfl, rfl, trivial⟩ rfl rfl ?_
      refine WL.nil (nb (nm ?_))
      refine W.region ?_
      refine WL.v (Val.add (tm rfl) Ev.const (IntWalk.i64_in _ (by omega))) rfl ?_
      refine mv rfl rfl ?_
      refine WL.norm 20 [(2, _), (7, _), (8, _), (9, _)] [some ⟨_, _, [[_, _, _, _, _]]⟩, some ⟨_, _, _⟩, some ⟨_, _, [[_]]⟩, some ⟨_, _, [[_]]⟩, some ⟨_, _, [[_]]⟩, some ⟨_, _, _⟩, _, _] rfl ⟨rfl, rfl, rfl, rfl, trivial⟩ rfl rfl ?_
      refine wn ?_
      exact ⟨_, by omega, k + 1, (by rw [← undo_step hk0 hc2]; rfl), rfl, by omega, by omega⟩
    try simp only [td] at hc2
    refine W.exit (ex1 (ex1 (ex2 ?_)))
    exact Ret.keep (.inl rfl) rfl (res0 rfl) rfl ⟨rfl, by rw [if_neg (by simpa using hc0), show G.take k.toNat = G from List.take_of_length_le (by omega)]; rfl⟩
  try simp only [td] at hc0
  refine W.skip ?_
  exact Ret.keep (.inl rfl) rfl (res0 rfl) rfl ⟨rfl, by rw [if_pos (by simpa using hc0)]; rfl⟩

/-- The end of examine. -/
theorem exam_end (W0 : World) (N : Nat) {p g : List Nd} {gL : Nat} {L G : List Int} {F : Int} {sp fb : Bool} {vG : AV} {oG b1 b2 : Option Row} {x : FR} (hL : LOk p g L) (hG : GOk p G) (hGl : G.length ≤ 100000) (hA : Acc 5 1 (fz (G.map encI)) vG oG) (hx : x = backF G ⟨fb, L, F, sp⟩) :
    ACD (En W0 N) 61 [.ptr 3 0 1 0 0, .ptr 4 0 1 0 0, .ptr 2 0 1 0 0] (HX p g gL L F sp fb vG oG ++ [b1, b2]) (fun r h' => (∃ y, h'[3]? = some (some ⟨0, 1, [[.b y]]⟩) ∧ RF p g gL x (.b y) (h'.take 2)) ∧ HLo (h'.take 2) (h'.take 2) ∧ ∀ id, id < 2 → Heap.has (h'.take 2) id = true ∨ h'[id]?.join = none) := by
  refine (c_undo W0 N p g gL L G F sp fb vG oG b1 b2 hL hG hGl hA).mono ?_
  rintro r h' ⟨rfl, rfl⟩
  refine ⟨⟨fb, rfl, ?_⟩, HF.lo, fun id hid => ?_⟩
  · rw [hx]; exact ⟨rfl, rfl⟩
  · have : id = 0 ∨ id = 1 := by omega
    rcases this with rfl | rfl <;> exact .inl rfl
-- (*match.finder).examine
set_option maxHeartbeats 1000000 in
theorem c_exam (W0 : World) (N : Nat) (p g : List Nd) (hp : WFG p) (hg : WFG g) (gL k : Nat) (hk : k < p.length) (hfr : ∀ L F sp, LOk p g L → 0 ≤ F → F ≤ 1000000 → AC (En W0 N) 36 [.ptr 0 0 5 0 0, .i ((k : Int) - 1)] (HF p g gL L F sp) (RF p g gL (fromF p g k L F sp))) (n : Int) (L : List Int) (F : Int) (sp : Bool) (hL : LOk p g L) (hn0 : 0 ≤ n) (hn1 : n < g.length) (hF0 : 0 ≤ F) (hF1 : F ≤ 1000000) : AC (En W0 N) 50 [.ptr 0 0 5 0 0, .i k, .i n] (HF p g gL L F sp) (RF p g gL (examF (fromF p g k) p g k n L F sp)) := by
  have hpl := hp.len
  have hgl := hg.len
  have hfewp := hp.few (i := (k : Int)) (by omega) (by omega)
  have hfewg := hg.few hn0 hn1
  obtain ⟨hL1, hG1, hGl1⟩ := giveF_ok (p := p) (g := g) (i := (k : Int)) (n := n) hL GOk.nil (by omega) (by omega) hn0 hn1
  have hGl1' : (giveF k n L []).2.1.length ≤ 100000 := by simp at hGl1; omega
  refine AC.enterD (S1 := ⟨85, [(1, .i k), (2, .i n), (3, .ptr 2 0 1 0 0), (6, .ptr 3 0 1 0 0), (7, .ptr 4 0 1 0 0)], [some ⟨0, 5, [[.f (.nodes p), .f (.nodes g), .row 1 gL 1 0 p.length, .i F, .b sp]]⟩, some ⟨gL, 1, fz (L.map encI)⟩, some ⟨0, 1, [[.ptr 0 0 5 0 0]]⟩, some ⟨0, 1, [[.b false]]⟩, some ⟨0, 1, [[.nil]]⟩], []⟩) (t := 13) (tr := 6) (idr := 3) (T := 4) (fD := 61) (caps := [.ptr 3 0 1 0 0, .ptr 4 0 1 0 0, .ptr 2 0 1 0 0]) Tryd.func50 rfl Tryd.ntmps50 (bl rfl) rfl Tryd.underlying4 rfl ca61 rfl ⟨Nat.le_of_ble_eq_true rfl, Nat.le_of_ble_eq_true rfl, Nat.le_of_ble_eq_true rfl, trivial⟩ (bl rfl) rfl (fun X => ?_) (fun X => ?_) (fun X d => ?_)
  · refine W.region ?_
    refine WL.stp rfl (Stp.box (tm rfl) rfl rfl) ?_
    refine WL.stp rfl (Stp.alloc zz4 rfl rfl) ?_
    refine WL.norm 85 [(1, _), (2, _), (3, _), (6, _)] [some ⟨_, _, [[_, _, _, _, _]]⟩, some ⟨_, _, _⟩, some ⟨_, _, [[_]]⟩, some ⟨_, _, [[_]]⟩] rfl ⟨rfl, rfl, rfl, rfl, trivial⟩ rfl rfl ?_
    refine wn ?_
    refine W.region ?_
    refine WL.stp rfl (Stp.alloc zz22 rfl rfl) ?_
    refine WL.norm 85 [(1, _), (2, _), (3, _), (6, _), (7, _)] [some ⟨_, _, [[_, _, _, _, _]]⟩, some ⟨_, _, _⟩, some ⟨_, _, [[_]]⟩, some ⟨_, _, [[_]]⟩, some ⟨_, _, [[_]]⟩] rfl ⟨rfl, rfl, rfl, rfl, rfl, trivial⟩ rfl rfl ?_
    refine WL.nil ⟨rfl, rfl⟩
  · exact Val.makeFunc (evc (tm rfl) (evc (tm rfl) (evc (tm rfl) evn)))
  refine sr ?_
  refine WL.v (Val.makeFunc (evc (tm rfl) (evc (tm rfl) evn))) rfl ?_
  refine asg rfl rfl ?_
  refine WL.normD [d] 85 [(1, _), (2, _), (3, _), (6, _), (8, _)] [some ⟨_, _, [[_, _, _, _, _]]⟩, some ⟨_, _, _⟩, some ⟨_, _, [[_]]⟩, some ⟨_, _, [[_]]⟩, some ⟨_, _, [[_]]⟩] rfl ⟨rfl, rfl, rfl, rfl, rfl, trivial⟩ rfl rfl ?_
  refine wn ?_
  refine W.seq ?_
  refine W.reserve ?_
  have hA : Acc 5 1 (fz (([] : List Int).map encI)) .nil none := Acc.zero
  refine W.region ?_
  refine mv rfl rfl ?_
  refine mv rfl rfl ?_
  refine mv rfl rfl ?_
  refine WL.callPre (args := [.i k, .i n]) (caps := [.ptr 2 0 1 0 0, .ptr 4 0 1 0 0]) (HX p g gL L F sp false .nil none) _ ca62 (Fun.clo (tm rfl)) (evc (tm rfl) (evc (tm rfl) evn)) rfl rfl rfl (HX.lo hA) (c_give W0 N p g gL L [] F sp false .nil none k n hL.1 (by omega) (by omega) hp.len (by simp) hA) (RG.ok rfl) rfl ?_
  rintro _ _ ⟨rfl, v1, o1, rfl, hA⟩
  refine WL.normD [d] 85 [(1, _), (2, _), (3, _), (6, _), (8, _)] [some ⟨_, _, [[_, _, _, _, _]]⟩, some ⟨_, _, _⟩, some ⟨_, _, [[_]]⟩, some ⟨_, _, [[_]]⟩, some ⟨_, _, [[_]]⟩, _] rfl ⟨rfl, rfl, rfl, rfl, rfl, trivial⟩ rfl rfl ?_
  refine wn ?_
  refine W.seq ?_
  refine W.reserve ?_
  refine W.reserve ?_
  refine W.drawE (fun k => ([([2], []), ([], []), ([], []), ([], []), ([0], []), ([], []), ([], []), ([], []), ([2], []), ([], []), ([], []), ([], []), ([0], []), ([], []), ([], []), ([], []), ([6], [6]), ([7], [7]), ([6], [6]), ([7], [7])] : List (List Nat × List Nat)).getD k ([], [])) rfl (by kernel_rfl) (bl rfl) ?_
  refine LexE.val rfl rfl rfl (fun h' ha => Val.loadLive Tryd.underlying89 rfl (tm rfl) ((ha.at_ 2 (by decide)).trans rfl) rfl rfl rfl rfl) ?_
  refine LexE.val rfl rfl rfl (fun h' ha => Val.nilCheck (tm rfl)) ?_
  refine LexE.val rfl rfl rfl (fun h' ha => Val.fal (off := 0) Tryd.underlying76 rfl rfl zs39 (tm rfl)) ?_
  refine LexE.val rfl rfl rfl (fun h' ha => Val.fal (off := 0) Tryd.underlying39 rfl rfl zs23 (tm rfl)) ?_
  refine LexE.val rfl rfl rfl (fun h' ha => Val.loadLive Tryd.underlying23 rfl (tm rfl) ((ha.at_ 0 (by decide)).trans rfl) rfl rfl rfl rfl) ?_
  refine LexE.val rfl rfl rfl (fun h' ha => Val.move (tm rfl)) ?_
  refine LexE.val rfl rfl rfl (fun h' ha => Val.ix (enc := Nd.cells) Tryd.underlying23 zs35 (tm rfl) (tm rfl) (by omega) (gA_at (by omega) (by omega))) ?_
  refine LexE.val rfl rfl rfl (fun h' ha => Val.loadAgg Tryd.underlying35 rfl zs35 (tm rfl) (bl rfl)) ?_
  refine LexE.val rfl rfl rfl (fun h' ha => Val.loadLive Tryd.underlying89 rfl (tm rfl) ((ha.at_ 2 (by decide)).trans rfl) rfl rfl rfl rfl) ?_
  refine LexE.val rfl rfl rfl (fun h' ha => Val.nilCheck (tm rfl)) ?_
  refine LexE.val rfl rfl rfl (fun h' ha => Val.fal (off := 1) Tryd.underlying76 rfl rfl zs39 (tm rfl)) ?_
  refine LexE.val rfl rfl rfl (fun h' ha => Val.fal (off := 0) Tryd.underlying39 rfl rfl zs23 (tm rfl)) ?_
  refine LexE.val rfl rfl rfl (fun h' ha => Val.loadLive Tryd.underlying23 rfl (tm rfl) ((ha.at_ 0 (by decide)).trans rfl) rfl rfl rfl rfl) ?_
  refine LexE.val rfl rfl rfl (fun h' ha => Val.move (tm rfl)) ?_
  refine LexE.val rfl rfl rfl (fun h' ha => Val.ix (enc := Nd.cells) Tryd.underlying23 zs35 (tm rfl) (tm rfl) (by omega) (gA_at (by omega) (by omega))) ?_
  refine LexE.val rfl rfl rfl (fun h' ha => Val.loadAgg Tryd.underlying35 rfl zs35 (tm rfl) (bl rfl)) ?_
  refine LexE.stp (U := [(6, _)]) rfl rfl rfl rfl (fun h => by first | rfl | cases h) (fun h' ha m' => Stp.allocAt zz35 rfl rfl ((ha.at_ 6 (by decide)).trans rfl) rfl) ?_
  refine LexE.stp (U := [(7, _)]) rfl rfl rfl rfl (fun h => by first | rfl | cases h) (fun h' ha m' => Stp.allocAt zz35 rfl rfl ((ha.at_ 7 (by decide)).trans rfl) rfl) ?_
  refine LexE.stp (U := [(6, _)]) rfl rfl rfl rfl (fun h => by first | rfl | cases h) (fun h' ha m' => Stp.st (tm rfl) (tm rfl) zs35 rfl rfl ((ha.at_ 6 (by decide)).trans rfl) rfl rfl rfl rfl rfl) ?_
  refine LexE.stp (U := [(7, _)]) rfl rfl rfl rfl (fun h => by first | rfl | cases h) (fun h' ha m' => Stp.st (tm rfl) (tm rfl) zs35 rfl rfl ((ha.at_ 7 (by decide)).trans rfl) rfl rfl rfl rfl rfl) ?_
  refine LexE.nil (nm ?_)
  refine W.normD [d] 85 [(1, _), (3, _), (6, _), (8, _), (9, _), (10, _)] [some ⟨_, _, [[_, _, _, _, _]]⟩, some ⟨_, _, _⟩, some ⟨_, _, [[_]]⟩, some ⟨_, _, [[_]]⟩, some ⟨_, _, [[_]]⟩, _, some ⟨_, _, [[_, _, _, _, _, _, _, _, _]]⟩, some ⟨_, _, [[_, _, _, _, _, _, _, _, _]]⟩] rfl ⟨rfl, rfl, rfl, rfl, rfl, rfl, trivial⟩ rfl rfl ?_
  refine W.seq ?_
  refine sr ?_
  refine WL.v (Val.fal (off := 0) Tryd.underlying35 rfl rfl zs3 (tm rfl)) rfl ?_
  refine WL.v (Val.loadLive Tryd.underlying3 rfl (tm rfl) rfl rfl rfl rfl rfl) rfl ?_
  refine WL.v (Val.eql (tm rfl) Ev.const) rfl ?_
  refine WL.normD [d] 85 [(1, _), (3, _), (6, _), (8, _), (9, _), (10, _), (37, _)] [some ⟨_, _, [[_, _, _, _, _]]⟩, some ⟨_, _, _⟩, some ⟨_, _, [[_]]⟩, some ⟨_, _, [[_]]⟩, some ⟨_, _, [[_]]⟩, _, some ⟨_, _, [[_, _, _, _, _, _, _, _, _]]⟩, some ⟨_, _, [[_, _, _, _, _, _, _, _, _]]⟩] rfl ⟨rfl, rfl, rfl, rfl, rfl, rfl, rfl, trivial⟩ rfl rfl ?_
  refine wn ?_
  refine W.condP rfl (fun hc6 => ?_) (fun hc6 => ?_)
  · try simp only [td] at hc6
    refine W.seq ?_
    by_cases hs7 : (gA p k).sort = (gA g n).sort
    · refine W.region ?_
      refine WL.v (Val.fal (off := 6) Tryd.underlying35 rfl rfl zs33 (tm rfl)) rfl ?_
      refine WL.v (Val.loadLiveAgg Tryd.underlying33 rfl zs33 (tm rfl) rfl rfl rfl rfl (bl rfl)) rfl ?_
      refine WL.v (Val.fal (off := 6) Tryd.underlying35 rfl rfl zs33 (tm rfl)) rfl ?_
      refine WL.v (Val.loadLiveAgg Tryd.underlying33 rfl zs33 (tm rfl) rfl rfl rfl rfl (bl rfl)) rfl ?_
      refine WL.v (Val.eqlSrt is33 (tm rfl) (tm rfl)) rfl ?_
      refine mv rfl rfl ?_
      refine WL.unguard (Grd.t rfl rfl rfl) (decide_eq_true hs7) ?_
      refine WL.v (Val.loadLive Tryd.underlying89 rfl (tm rfl) rfl rfl rfl rfl rfl) rfl ?_
      refine WL.unguard (Grd.t rfl rfl rfl) (decide_eq_true hs7) ?_
      refine mv rfl rfl ?_
      refine WL.unguard (Grd.t rfl rfl rfl) (decide_eq_true hs7) ?_
      refine WL.v (Val.sub (tm rfl) Ev.const (IntWalk.i64_in _ (by omega))) rfl ?_
      refine WL.unguard (Grd.t rfl rfl rfl) (decide_eq_true hs7) ?_
      refine WL.callPre (args := [.ptr 0 0 5 0 0, .i ((k : Int) - 1)]) (caps := []) (HF p g gL (giveF k n L []).1 F sp) _ ca36 Fun.func (evc (tm rfl) (evc (tm rfl) evn)) rfl rfl rfl HF.lo (hfr (giveF k n L []).1 F sp hL1 hF0 hF1) (RF.ok rfl) rfl ?_
      rintro _ _ ⟨rfl, rfl⟩
      refine WL.v (Val.and (tm rfl) (fun _ => (tm rfl))) rfl ?_
      refine WL.stp rfl (Stp.st (tm rfl) (tm rfl) zs4 rfl rfl rfl rfl rfl rfl rfl rfl) ?_
      refine WL.normD [d] 85 [(6, _)] [some ⟨_, _, [[_, _, _, _, _]]⟩, some ⟨_, _, _⟩, some ⟨_, _, [[_]]⟩, some ⟨_, _, [[_]]⟩, some ⟨_, _, [[_]]⟩, _, some ⟨_, _, [[_, _, _, _, _, _, _, _, _]]⟩, some ⟨_, _, [[_, _, _, _, _, _, _, _, _]]⟩] rfl ⟨rfl, trivial⟩ rfl rfl ?_
      refine wn ?_
      refine W.ret (rt1 ?_)
      exact ⟨.inr rfl, rfl, rfl, Nat.le_of_ble_eq_true rfl, Nat.le_of_ble_eq_true rfl, exam_end W0 N (fromF_ok hp hg k (giveF k n L []).1 F sp (by omega) hL1 hF0).1 hG1 hGl1' hA (by rw [examF, if_pos hc6, if_pos hs7, decide_eq_true hs7]; rfl)⟩
    refine W.region ?_
    refine WL.v (Val.fal (off := 6) Tryd.underlying35 rfl rfl zs33 (tm rfl)) rfl ?_
    refine WL.v (Val.loadLiveAgg Tryd.underlying33 rfl zs33 (tm rfl) rfl rfl rfl rfl (bl rfl)) rfl ?_
    refine WL.v (Val.fal (off := 6) Tryd.underlying35 rfl rfl zs33 (tm rfl)) rfl ?_
    refine WL.v (Val.loadLiveAgg Tryd.underlying33 rfl zs33 (tm rfl) rfl rfl rfl rfl (bl rfl)) rfl ?_
    refine WL.v (Val.eqlSrt is33 (tm rfl) (tm rfl)) rfl ?_
    refine mv rfl rfl ?_
    refine WL.gskip (x := .b true) (Grd.t rfl rfl rfl) (decide_eq_false hs7) rfl ?_
    refine WL.gskip (x := .b true) (Grd.t rfl rfl rfl) (decide_eq_false hs7) rfl ?_
    refine WL.gskip (x := .b true) (Grd.t rfl rfl rfl) (decide_eq_false hs7) rfl ?_
    refine WL.gskip (x := .b true) (Grd.t rfl rfl rfl) (decide_eq_false hs7) rfl ?_
    refine WL.v (Val.and (tm rfl) (fun hb => Ev.opt rfl hb)) rfl ?_
    refine WL.stp rfl (Stp.st (tm rfl) (tm rfl) zs4 rfl rfl rfl rfl rfl rfl rfl rfl) ?_
    refine WL.normD [d] 85 [(6, _)] [some ⟨_, _, [[_, _, _, _, _]]⟩, some ⟨_, _, _⟩, some ⟨_, _, [[_]]⟩, some ⟨_, _, [[_]]⟩, some ⟨_, _, [[_]]⟩, _, some ⟨_, _, [[_, _, _, _, _, _, _, _, _]]⟩, some ⟨_, _, [[_, _, _, _, _, _, _, _, _]]⟩] rfl ⟨rfl, trivial⟩ rfl rfl ?_
    refine wn ?_
    refine W.ret (rt1 ?_)
    exact ⟨.inr rfl, rfl, rfl, Nat.le_of_ble_eq_true rfl, Nat.le_of_ble_eq_true rfl, exam_end W0 N hL1 hG1 hGl1' hA (by rw [examF, if_pos hc6, if_neg hs7, decide_eq_false hs7]; rfl)⟩
  try simp only [td] at hc6
  refine W.skip (nm ?_)
  refine W.seq ?_
  refine W.seq ?_
  refine W.drawE (fun k => ([([6], []), ([], []), ([7], []), ([], []), ([], []), ([], []), ([], []), ([6], []), ([], []), ([], []), ([7], []), ([], []), ([], []), ([], [])] : List (List Nat × List Nat)).getD k ([], [])) rfl (by kernel_rfl) (bl rfl) ?_
  refine LexE.val rfl rfl rfl (fun h' ha => Val.loadLiveAgg Tryd.underlying35 rfl zs35 (tm rfl) ((ha.at_ 6 (by decide)).trans rfl) rfl rfl rfl (bl rfl)) ?_
  refine LexE.call ca31 (fun h' ha => (evc (tm rfl) evn)) (lo2 rfl lo0) rfl (c_shapeOf W0 N (gA p k)) rfl ?_
  refine LexE.val rfl rfl rfl (fun h' ha => Val.loadLiveAgg Tryd.underlying35 rfl zs35 (tm rfl) ((ha.at_ 7 (by decide)).trans rfl) rfl rfl rfl (bl rfl)) ?_
  refine LexE.call ca31 (fun h' ha => (evc (tm rfl) evn)) (lo2 rfl lo0) rfl (c_shapeOf W0 N (gA g n)) rfl ?_
  refine LexE.val rfl rfl rfl (fun h' ha => Val.neqShp is70 (tm rfl) (tm rfl)) ?_
  refine LexE.val rfl rfl rfl (fun h' ha => Val.move (tm rfl)) ?_
  refine LexE.gval rfl (fun h' => (Grd.f rfl rfl rfl)) rfl (fun hG h' ha => Val.fal (off := 1) Tryd.underlying35 rfl rfl zs22 (tm rfl)) ?_
  refine LexE.gval rfl (fun h' => (Grd.f rfl rfl rfl)) rfl (fun hG h' ha => Val.loadLive Tryd.underlying22 rfl (Ev.opt rfl hG) ((ha.at_ 6 (by decide)).trans rfl) rfl rfl rfl rfl) ?_
  refine LexE.gval rfl (fun h' => (Grd.f rfl rfl rfl)) rfl (fun hG h' ha => Val.ln (enc := encI) Tryd.underlying22 (Ev.opt rfl hG)) ?_
  refine LexE.gval rfl (fun h' => (Grd.f rfl rfl rfl)) rfl (fun hG h' ha => Val.fal (off := 1) Tryd.underlying35 rfl rfl zs22 (tm rfl)) ?_
  refine LexE.gval rfl (fun h' => (Grd.f rfl rfl rfl)) rfl (fun hG h' ha => Val.loadLive Tryd.underlying22 rfl (Ev.opt rfl hG) ((ha.at_ 7 (by decide)).trans rfl) rfl rfl rfl rfl) ?_
  refine LexE.gval rfl (fun h' => (Grd.f rfl rfl rfl)) rfl (fun hG h' ha => Val.ln (enc := encI) Tryd.underlying22 (Ev.opt rfl hG)) ?_
  refine LexE.gval rfl (fun h' => (Grd.f rfl rfl rfl)) rfl (fun hG h' ha => Val.neq (Ev.opt rfl hG) (Ev.opt rfl hG)) ?_
  refine LexE.val rfl rfl rfl (fun h' ha => Val.or (tm rfl) (fun hb => Ev.opt rfl (nt hb))) ?_
  refine LexE.nil (nm ?_)
  refine W.normD [d] 85 [(1, _), (3, _), (6, _), (8, _), (9, _), (10, _), (62, _)] [some ⟨_, _, [[_, _, _, _, _]]⟩, some ⟨_, _, _⟩, some ⟨_, _, [[_]]⟩, some ⟨_, _, [[_]]⟩, some ⟨_, _, [[_]]⟩, _, some ⟨_, _, [[_, _, _, _, _, _, _, _, _]]⟩, some ⟨_, _, [[_, _, _, _, _, _, _, _, _]]⟩] rfl ⟨rfl, rfl, rfl, rfl, rfl, rfl, rfl, trivial⟩ rfl rfl ?_
  refine W.condP rfl (fun hc8 => ?_) (fun hc8 => ?_)
  · have hl := (like_or _ _ _).symm.trans hc8
    have hfit : ¬ fits (gA p k) (gA g n) = true := by intro hf; rw [fits] at hf; rw [hf] at hl; cases hl
    refine sr ?_
    refine WL.stp rfl (Stp.st (tm rfl) Ev.const zs4 rfl rfl rfl rfl rfl rfl rfl rfl) ?_
    refine WL.normD [d] 85 [(6, _)] [some ⟨_, _, [[_, _, _, _, _]]⟩, some ⟨_, _, _⟩, some ⟨_, _, [[_]]⟩, some ⟨_, _, [[_]]⟩, some ⟨_, _, [[_]]⟩, _, some ⟨_, _, [[_, _, _, _, _, _, _, _, _]]⟩, some ⟨_, _, [[_, _, _, _, _, _, _, _, _]]⟩] rfl ⟨rfl, trivial⟩ rfl rfl ?_
    refine wn ?_
    refine W.ret (rt1 ?_)
    exact ⟨.inr rfl, rfl, rfl, Nat.le_of_ble_eq_true rfl, Nat.le_of_ble_eq_true rfl, exam_end W0 N hL1 hG1 hGl1' hA (by rw [examF, if_neg hc6, if_neg hfit])⟩
  have hl := (like_or _ _ _).symm.trans hc8
  have hfit : fits (gA p k) (gA g n) = true := by rw [fits]; revert hl; cases ((gA p k).like (gA g n) && decide ((gA p k).kids.length = (gA g n).kids.length)) <;> simp
  have hlen : (gA p k).kids.length = (gA g n).kids.length := by rw [fits, Bool.and_eq_true, decide_eq_true_eq] at hfit; exact hfit.2
  refine W.skip (nm ?_)
  refine W.seq ?_
  refine sr ?_
  refine WL.v (Val.fal (off := 1) Tryd.underlying35 rfl rfl zs22 (tm rfl)) rfl ?_
  refine WL.v (Val.loadLive Tryd.underlying22 rfl (tm rfl) rfl rfl rfl rfl rfl) rfl ?_
  refine WL.v (Val.ln (enc := encI) Tryd.underlying22 (tm rfl)) rfl ?_
  refine WL.v (Val.move Ev.const) rfl ?_
  refine WL.normD [d] 85 [(1, _), (3, _), (6, _), (8, _), (10, _), (64, _), (65, _), (66, _)] [some ⟨_, _, [[_, _, _, _, _]]⟩, some ⟨_, _, _⟩, some ⟨_, _, [[_]]⟩, some ⟨_, _, [[_]]⟩, some ⟨_, _, [[_]]⟩, _, some ⟨_, _, [[_, _, _, _, _, _, _, _, _]]⟩, some ⟨_, _, [[_, _, _, _, _, _, _, _, _]]⟩] rfl ⟨rfl, rfl, rfl, rfl, rfl, rfl, rfl, rfl, trivial⟩ rfl rfl ?_
  refine wn ?_
  refine W.normD [d] 85 [(1, _), (3, _), (6, _), (8, _), (10, _), (64, _), (65, _), (66, _)] [some ⟨_, _, [[_, _, _, _, _]]⟩, some ⟨_, _, _⟩, some ⟨_, _, [[_]]⟩, some ⟨_, _, [[_]]⟩, some ⟨_, _, [[_]]⟩, _, some ⟨_, _, [[_, _, _, _, _, _, _, _, _]]⟩, some ⟨_, _, [[_, _, _, _, _, _, _, _, _]]⟩] rfl ⟨rfl, rfl, rfl, rfl, rfl, rfl, rfl, rfl, trivial⟩ rfl rfl ?_
  refine W.block (W.loop (fun nn S => ∃ (j : Int) (L' G' : List Int) (vG : AV) (oG : Option Row), S = ⟨85, [(1, .i k), (3, .ptr 2 0 1 0 0), (6, .ptr 3 0 1 0 0), (8, .fn (.func 62) [.ptr 2 0 1 0 0, .ptr 4 0 1 0 0]), (10, .ptr 7 0 9 0 0), (64, .f (.ints (gA p k).kids)), (65, .i (gA p k).kids.length), (66, .i j)], HX p g gL L' F sp false vG oG ++ [some ⟨0, 9, [(gA p k).cells.map .f]⟩, some ⟨0, 9, [(gA g n).cells.map .f]⟩], [d]⟩ ∧ nn = (((gA p k).kids.length - j).toNat) ∧ (0 ≤ j) ∧ (j ≤ (gA p k).kids.length) ∧ (kidsF (pairs p g k n) (giveF k n L []).1 (giveF k n L []).2.1 = kidsF ((pairs p g k n).drop j.toNat) L' G') ∧ (LOk p g L') ∧ (GOk p G') ∧ (G'.length ≤ 1 + j) ∧ (Acc 5 1 (fz (G'.map encI)) vG oG)) ⟨0, _, _, _, _, rfl, rfl, by omega, by omega, rfl, hL1, hG1, by simp at hGl1; omega, hA⟩ ?_)
  rintro nn S ⟨j, L', G', vG, oG, rfl, rfl, hj0, hj1, hke, hL', hG', hGl', hA⟩
  refine sr ?_
  refine WL.v (Val.lss (tm rfl) (tm rfl)) rfl ?_
  refine WL.normD [d] 85 [(1, _), (3, _), (6, _), (8, _), (10, _), (64, _), (65, _), (66, _), (67, _)] [some ⟨_, _, [[_, _, _, _, _]]⟩, some ⟨_, _, _⟩, some ⟨_, _, [[_]]⟩, some ⟨_, _, [[_]]⟩, some ⟨_, _, [[_]]⟩, _, some ⟨_, _, [[_, _, _, _, _, _, _, _, _]]⟩, some ⟨_, _, [[_, _, _, _, _, _, _, _, _]]⟩] rfl ⟨rfl, rfl, rfl, rfl, rfl, rfl, rfl, rfl, rfl, trivial⟩ rfl rfl ?_
  refine wn ?_
  refine W.seq ?_
  refine W.condP rfl (fun hc11 => ?_) (fun hc11 => ?_)
  · try simp only [td] at hc11
    refine W.skip (nm ?_)
    refine W.seq ?_
    refine W.block ?_
    refine sr ?_
    refine mv rfl rfl ?_
    refine WL.v (Val.ix (enc := encI) Tryd.underlying22 zs3 (tm rfl) (tm rfl) (by omega) (gA_at (by omega) (by omega))) rfl ?_
    refine WL.v (Val.load Tryd.underlying3 rfl (tm rfl)) rfl ?_
    refine asg rfl rfl ?_
    refine asg rfl rfl ?_
    refine WL.normD [d] 85 [(1, _), (3, _), (6, _), (8, _), (10, _), (11, _), (12, _), (64, _), (65, _), (66, _)] [some ⟨_, _, [[_, _, _, _, _]]⟩, some ⟨_, _, _⟩, some ⟨_, _, [[_]]⟩, some ⟨_, _, [[_]]⟩, some ⟨_, _, [[_]]⟩, _, some ⟨_, _, [[_, _, _, _, _, _, _, _, _]]⟩, some ⟨_, _, [[_, _, _, _, _, _, _, _, _]]⟩] rfl ⟨rfl, rfl, rfl, rfl, rfl, rfl, rfl, rfl, rfl, rfl, trivial⟩ rfl rfl ?_
    refine wn ?_
    refine W.seq ?_
    have hkid := hp.kid (i := (k : Int)) (by omega) (by omega) hj0 hc11
    have hkidg := hg.kid hn0 hn1 hj0 (by omega)
    obtain ⟨hL2, hG2, hGl2⟩ := giveF_ok (p := p) (g := g) (i := gA (gA p k).kids j) (n := gA (gA g n).kids j) hL' hG' hkid.1 (by omega) hkidg.1 (by omega)
    refine W.region ?_
    refine mv rfl rfl ?_
    refine mv rfl rfl ?_
    refine WL.v (Val.fal (off := 1) Tryd.underlying35 rfl rfl zs22 (tm rfl)) rfl ?_
    refine WL.v (Val.loadLive Tryd.underlying22 rfl (tm rfl) rfl rfl rfl rfl rfl) rfl ?_
    refine mv rfl rfl ?_
    refine WL.v (Val.ix (enc := encI) Tryd.underlying22 zs3 (tm rfl) (tm rfl) (by omega) (gA_at (by omega) (by omega))) rfl ?_
    refine WL.v (Val.load Tryd.underlying3 rfl (tm rfl)) rfl ?_
    refine WL.callPre (args := [.i (gA (gA p k).kids j), .i (gA (gA g n).kids j)]) (caps := [.ptr 2 0 1 0 0, .ptr 4 0 1 0 0]) (HX p g gL L' F sp false vG oG) _ ca62 (Fun.clo (tm rfl)) (evc (tm rfl) (evc (tm rfl) evn)) rfl rfl rfl (HX.lo hA) (c_give W0 N p g gL L' G' F sp false vG oG (gA (gA p k).kids j) (gA (gA g n).kids j) hL'.1 hkid.1 (by omega) hp.len (by omega) hA) (RG.ok rfl) rfl ?_
    rintro _ _ ⟨rfl, v2, o2, rfl, hA2⟩
    refine WL.v (Val.not (tm rfl)) rfl ?_
    refine WL.normD [d] 85 [(1, _), (3, _), (6, _), (8, _), (10, _), (64, _), (65, _), (66, _), (79, _)] [some ⟨_, _, [[_, _, _, _, _]]⟩, some ⟨_, _, _⟩, some ⟨_, _, [[_]]⟩, some ⟨_, _, [[_]]⟩, some ⟨_, _, [[_]]⟩, _, some ⟨_, _, [[_, _, _, _, _, _, _, _, _]]⟩, some ⟨_, _, [[_, _, _, _, _, _, _, _, _]]⟩] rfl ⟨rfl, rfl, rfl, rfl, rfl, rfl, rfl, rfl, rfl, trivial⟩ rfl rfl ?_
    refine wn ?_
    refine W.condP rfl (fun hc13 => ?_) (fun hc13 => ?_)
    · have hok : ¬ (giveF (gA (gA p k).kids j) (gA (gA g n).kids j) L' G').2.2 = true := by intro hh; rw [hh] at hc13; cases hc13
      refine sr ?_
      refine WL.stp rfl (Stp.st (tm rfl) Ev.const zs4 rfl rfl rfl rfl rfl rfl rfl rfl) ?_
      refine WL.normD [d] 85 [(6, _)] [some ⟨_, _, [[_, _, _, _, _]]⟩, some ⟨_, _, _⟩, some ⟨_, _, [[_]]⟩, some ⟨_, _, [[_]]⟩, some ⟨_, _, [[_]]⟩, _, some ⟨_, _, [[_, _, _, _, _, _, _, _, _]]⟩, some ⟨_, _, [[_, _, _, _, _, _, _, _, _]]⟩] rfl ⟨rfl, trivial⟩ rfl rfl ?_
      refine wn ?_
      refine W.ret (rt2 (rt1 (rt1 (rt2 (rt1 ?_)))))
      exact ⟨.inr rfl, rfl, rfl, Nat.le_of_ble_eq_true rfl, Nat.le_of_ble_eq_true rfl, exam_end W0 N hL2 hG2 (by omega) hA2 (by rw [examF, if_neg hc6, if_pos hfit, hke, kids_drop hj0 hc11 hlen, kidsF, if_neg hok]; rfl)⟩
    have hok : (giveF (gA (gA p k).kids j) (gA (gA g n).kids j) L' G').2.2 = true := by revert hc13; cases (giveF (gA (gA p k).kids j) (gA (gA g n).kids j) L' G').2.2 <;> simp
    refine W.skip (nb (nm ?_))
    refine W.region ?_
    refine WL.v (Val.add (tm rfl) Ev.const (IntWalk.i64_in _ (by omega))) rfl ?_
    refine mv rfl rfl ?_
    refine WL.normD [d] 85 [(1, _), (3, _), (6, _), (8, _), (10, _), (64, _), (65, _), (66, _)] [some ⟨_, _, [[_, _, _, _, _]]⟩, some ⟨_, _, _⟩, some ⟨_, _, [[_]]⟩, some ⟨_, _, [[_]]⟩, some ⟨_, _, [[_]]⟩, _, some ⟨_, _, [[_, _, _, _, _, _, _, _, _]]⟩, some ⟨_, _, [[_, _, _, _, _, _, _, _, _]]⟩] rfl ⟨rfl, rfl, rfl, rfl, rfl, rfl, rfl, rfl, trivial⟩ rfl rfl ?_
    refine wn ?_
    exact ⟨_, by omega, j + 1, _, _, _, _, rfl, rfl, by omega, by omega, by rw [hke, kids_drop hj0 hc11 hlen, kidsF, if_pos hok], hL2, hG2, by omega, hA2⟩
  try simp only [td] at hc11
  refine W.exit (ex1 (ex1 (ex2 (nm ?_))))
  refine W.seq ?_
  have hke2 : kidsF (pairs p g k n) (giveF k n L []).1 (giveF k n L []).2.1 = (L', G', true) := by rw [hke, kids_none hj0 (by omega), kidsF]
  refine W.region ?_
  refine WL.v (Val.loadLive Tryd.underlying89 rfl (tm rfl) rfl rfl rfl rfl rfl) rfl ?_
  refine mv rfl rfl ?_
  refine WL.v (Val.sub (tm rfl) Ev.const (IntWalk.i64_in _ (by omega))) rfl ?_
  refine WL.callPre (args := [.ptr 0 0 5 0 0, .i ((k : Int) - 1)]) (caps := []) (HF p g gL L' F sp) _ ca36 Fun.func (evc (tm rfl) (evc (tm rfl) evn)) rfl rfl rfl HF.lo (hfr L' F sp hL' hF0 hF1) (RF.ok rfl) rfl ?_
  rintro _ _ ⟨rfl, rfl⟩
  refine WL.stp rfl (Stp.st (tm rfl) (tm rfl) zs4 rfl rfl rfl rfl rfl rfl rfl rfl) ?_
  refine WL.normD [d] 85 [(6, _)] [some ⟨_, _, [[_, _, _, _, _]]⟩, some ⟨_, _, _⟩, some ⟨_, _, [[_]]⟩, some ⟨_, _, [[_]]⟩, some ⟨_, _, [[_]]⟩, _, some ⟨_, _, [[_, _, _, _, _, _, _, _, _]]⟩, some ⟨_, _, [[_, _, _, _, _, _, _, _, _]]⟩] rfl ⟨rfl, trivial⟩ rfl rfl ?_
  refine wn ?_
  refine W.ret ?_
  exact ⟨.inr rfl, rfl, rfl, Nat.le_of_ble_eq_true rfl, Nat.le_of_ble_eq_true rfl, exam_end W0 N (fromF_ok hp hg k L' F sp (by omega) hL' hF0).1 hG' (by omega) hA (by rw [examF, if_neg hc6, if_pos hfit, hke2]; rfl)⟩
-- (*match.finder).from
set_option maxHeartbeats 1000000 in
theorem c_from0 (W0 : World) (N : Nat) (p g : List Nd) (gL : Nat) (L : List Int) (F : Int) (sp : Bool) : AC (En W0 N) 36 [.ptr 0 0 5 0 0, .i (((0 : Nat) : Int) - 1)] (HF p g gL L F sp) (RF p g gL (fromF p g 0 L F sp)) := by
  refine AC.enter Tryd.func36 rfl Tryd.ntmps36 (bl rfl) fun X => ?_
  refine sr ?_
  refine WL.v (Val.assign Ev.const) rfl ?_
  refine WL.norm 59 [(0, _), (1, _)] [some ⟨_, _, [[_, _, _, _, _]]⟩, some ⟨_, _, _⟩] rfl ⟨rfl, rfl, trivial⟩ rfl rfl ?_
  refine wn ?_
  refine W.seq ?_
  refine sr ?_
  refine mv rfl rfl ?_
  refine WL.v (Val.lss (tm rfl) Ev.const) rfl ?_
  refine WL.norm 59 [(0, _), (1, _), (7, _)] [some ⟨_, _, [[_, _, _, _, _]]⟩, some ⟨_, _, _⟩] rfl ⟨rfl, rfl, rfl, trivial⟩ rfl rfl ?_
  refine wn ?_
  refine W.condP rfl (fun hc1 => ?_) (fun hc1 => ?_)
  · try simp only [td] at hc1
    refine sr ?_
    refine WL.v (Val.assign Ev.const) rfl ?_
    refine WL.norm 59 [(4, _)] [some ⟨_, _, [[_, _, _, _, _]]⟩, some ⟨_, _, _⟩] rfl ⟨rfl, trivial⟩ rfl rfl ?_
    refine wn ?_
    refine W.ret (rt1 ?_)
    exact Ret.keep (.inr rfl) rfl (res1 rfl rfl) rfl ⟨rfl, rfl⟩
  try simp only [td] at hc1
  exfalso; omega
-- (*match.finder).from
set_option maxHeartbeats 1000000 in
theorem c_from (W0 : World) (N : Nat) (p g : List Nd) (hp : WFG p) (hg : WFG g) (gL : Nat) : ∀ (k : Nat) (L : List Int) (F : Int) (sp : Bool), k ≤ p.length → LOk p g L → 0 ≤ F → F ≤ 1000000 → AC (En W0 N) 36 [.ptr 0 0 5 0 0, .i ((k : Int) - 1)] (HF p g gL L F sp) (RF p g gL (fromF p g k L F sp)) := by
  intro k
  induction k with
  | zero =>
    intro L F sp _ hL hF0 hF1
    exact c_from0 W0 N p g gL L F sp
  | succ k ih =>
  intro L F sp hkp hL hF0 hF1
  have hpl := hp.len
  have hgl := hg.len
  have hL0 := hL.1
  rw [show (((k + 1 : Nat) : Int) - 1) = k from by omega]
  refine AC.enter Tryd.func36 rfl Tryd.ntmps36 (bl rfl) fun X => ?_
  refine sr ?_
  refine WL.v (Val.assign Ev.const) rfl ?_
  refine WL.norm 59 [(0, _), (1, _)] [some ⟨_, _, [[_, _, _, _, _]]⟩, some ⟨_, _, _⟩] rfl ⟨rfl, rfl, trivial⟩ rfl rfl ?_
  refine wn ?_
  refine W.seq ?_
  refine sr ?_
  refine mv rfl rfl ?_
  refine WL.v (Val.lss (tm rfl) Ev.const) rfl ?_
  refine WL.norm 59 [(0, _), (1, _), (7, _)] [some ⟨_, _, [[_, _, _, _, _]]⟩, some ⟨_, _, _⟩] rfl ⟨rfl, rfl, rfl, trivial⟩ rfl rfl ?_
  refine wn ?_
  refine W.condP rfl (fun hc1 => ?_) (fun hc1 => ?_)
  · try simp only [td] at hc1
    exfalso; omega
  try simp only [td] at hc1
  refine W.skip (nm ?_)
  refine W.seq ?_
  refine sr ?_
  refine mv rfl rfl ?_
  refine WL.v (Val.nilCheck (tm rfl)) rfl ?_
  refine WL.v (Val.fal (off := 2) Tryd.underlying76 rfl rfl zs22 (tm rfl)) rfl ?_
  refine WL.v (Val.loadLive Tryd.underlying22 rfl (tm rfl) rfl rfl rfl rfl rfl) rfl ?_
  refine mv rfl rfl ?_
  refine WL.v (Val.indexAddrLive Tryd.underlying22 zs3 (tm rfl) (tm rfl) (by omega) (by omega)) rfl ?_
  refine WL.v (Val.loadLive Tryd.underlying3 rfl (tm rfl) rfl rfl rfl (fz_at (by omega) (by omega)) rfl) rfl ?_
  refine WL.v (Val.neq (tm rfl) Ev.const) rfl ?_
  refine WL.norm 59 [(0, _), (1, _), (15, _)] [some ⟨_, _, [[_, _, _, _, _]]⟩, some ⟨_, _, _⟩] rfl ⟨rfl, rfl, rfl, trivial⟩ rfl rfl ?_
  refine wn ?_
  refine W.condP rfl (fun hc3 => ?_) (fun hc3 => ?_)
  · have hc3' : ¬ gA L k = -1 := by simpa using hc3
    have hLk := hL.2 _ (gA_mem (l := L) (i := (k : Int)) (by omega) (by omega))
    refine sr ?_
    refine mv rfl rfl ?_
    refine mv rfl rfl ?_
    refine mv rfl rfl ?_
    refine WL.v (Val.nilCheck (tm rfl)) rfl ?_
    refine WL.v (Val.fal (off := 2) Tryd.underlying76 rfl rfl zs22 (tm rfl)) rfl ?_
    refine WL.v (Val.loadLive Tryd.underlying22 rfl (tm rfl) rfl rfl rfl rfl rfl) rfl ?_
    refine mv rfl rfl ?_
    refine WL.v (Val.indexAddrLive Tryd.underlying22 zs3 (tm rfl) (tm rfl) (by omega) (by omega)) rfl ?_
    refine WL.v (Val.loadLive Tryd.underlying3 rfl (tm rfl) rfl rfl rfl (fz_at (by omega) (by omega)) rfl) rfl ?_
    refine WL.callPre (args := [.ptr 0 0 5 0 0, .i k, .i (gA L k)]) (caps := []) (HF p g gL L F sp) [] ca50 Fun.func (evc (tm rfl) (evc (tm rfl) (evc (tm rfl) evn))) rfl rfl rfl HF.lo (c_exam W0 N p g hp hg gL k (by omega) (fun L F sp h1 h2 h3 => ih L F sp (by omega) h1 h2 h3) (gA L k) L F sp hL (by omega) (by omega) (by omega) (by omega)) (RF.ok rfl) rfl ?_
    rintro _ _ ⟨rfl, rfl⟩
    refine asg rfl rfl ?_
    refine WL.norm 59 [(4, _)] [some ⟨_, _, [[_, _, _, _, _]]⟩, some ⟨_, _, _⟩] rfl ⟨rfl, trivial⟩ rfl rfl ?_
    refine wn ?_
    refine W.ret (rt1 ?_)
    exact Ret.keep (.inr rfl) rfl (res1 rfl rfl) rfl ⟨by rw [fromF, if_neg hc3'], by rw [fromF, if_neg hc3']⟩
  have hc3 : ¬ ¬ gA L k = -1 := by simpa using hc3
  refine W.skip (nm ?_)
  refine W.seq ?_
  refine sr ?_
  refine mv rfl rfl ?_
  refine WL.v (Val.nilCheck (tm rfl)) rfl ?_
  refine WL.v (Val.fal (off := 1) Tryd.underlying76 rfl rfl zs39 (tm rfl)) rfl ?_
  refine WL.v (Val.fal (off := 0) Tryd.underlying39 rfl rfl zs23 (tm rfl)) rfl ?_
  refine WL.v (Val.loadLive Tryd.underlying23 rfl (tm rfl) rfl rfl rfl rfl rfl) rfl ?_
  refine WL.v (Val.ln (enc := Nd.cells) Tryd.underlying23 (tm rfl)) rfl ?_
  refine WL.v (Val.move Ev.const) rfl ?_
  refine WL.norm 59 [(0, _), (1, _), (31, _), (32, _)] [some ⟨_, _, [[_, _, _, _, _]]⟩, some ⟨_, _, _⟩] rfl ⟨rfl, rfl, rfl, rfl, trivial⟩ rfl rfl ?_
  refine wn ?_
  refine W.norm 59 [(0, _), (1, _), (31, _), (32, _)] [some ⟨_, _, [[_, _, _, _, _]]⟩, some ⟨_, _, _⟩] rfl ⟨rfl, rfl, rfl, rfl, trivial⟩ rfl rfl ?_
  refine W.block (W.loop (fun nn S => ∃ (n : Int) (L' : List Int) (F' : Int) (sp' : Bool), S = ⟨59, [(0, .ptr 0 0 5 0 0), (1, .i k), (31, .i g.length), (32, .i n)], HF p g gL L' F' sp', []⟩ ∧ nn = ((g.length - n).toNat) ∧ (0 ≤ n) ∧ (n ≤ g.length) ∧ (fromF p g (k + 1) L F sp = loopF (fun n => examF (fromF p g k) p g k n) (g.length - n).toNat n L' F' sp') ∧ (LOk p g L') ∧ (0 ≤ F') ∧ (F' ≤ 1000000)) ⟨0, _, _, _, rfl, rfl, by omega, by omega, by rw [fromF, if_pos (Classical.not_not.1 hc3), show ((g.length : Int) - 0).toNat = g.length from by omega], hL, hF0, hF1⟩ ?_)
  rintro nn S ⟨n, L', F', sp', rfl, rfl, hn0, hn1, hle, hL', hF0', hF1'⟩
  refine sr ?_
  refine WL.v (Val.lss (tm rfl) (tm rfl)) rfl ?_
  refine WL.norm 59 [(0, _), (1, _), (31, _), (32, _), (33, _)] [some ⟨_, _, [[_, _, _, _, _]]⟩, some ⟨_, _, _⟩] rfl ⟨rfl, rfl, rfl, rfl, rfl, trivial⟩ rfl rfl ?_
  refine wn ?_
  refine W.seq ?_
  refine W.condP rfl (fun hc6 => ?_) (fun hc6 => ?_)
  · try simp only [td] at hc6
    refine W.skip (nm ?_)
    refine W.seq ?_
    refine W.block ?_
    refine sr ?_
    refine mv rfl rfl ?_
    refine asg rfl rfl ?_
    refine WL.norm 59 [(0, _), (1, _), (5, _), (31, _), (32, _)] [some ⟨_, _, [[_, _, _, _, _]]⟩, some ⟨_, _, _⟩] rfl ⟨rfl, rfl, rfl, rfl, rfl, trivial⟩ rfl rfl ?_
    refine wn ?_
    refine W.seq ?_
    refine sr ?_
    refine mv rfl rfl ?_
    refine WL.v (Val.nilCheck (tm rfl)) rfl ?_
    refine WL.v (Val.fal (off := 3) Tryd.underlying76 rfl rfl zs3 (tm rfl)) rfl ?_
    refine WL.v (Val.loadLive Tryd.underlying3 rfl (tm rfl) rfl rfl rfl rfl rfl) rfl ?_
    refine WL.v (Val.leq (tm rfl) Ev.const) rfl ?_
    refine WL.norm 59 [(0, _), (1, _), (5, _), (31, _), (32, _), (39, _)] [some ⟨_, _, [[_, _, _, _, _]]⟩, some ⟨_, _, _⟩] rfl ⟨rfl, rfl, rfl, rfl, rfl, rfl, trivial⟩ rfl rfl ?_
    refine wn ?_
    refine W.condP rfl (fun hc8 => ?_) (fun hc8 => ?_)
    · try simp only [td] at hc8
      refine sr ?_
      refine mv rfl rfl ?_
      refine WL.v (Val.nilCheck (tm rfl)) rfl ?_
      refine WL.v (Val.fal (off := 4) Tryd.underlying76 rfl rfl zs4 (tm rfl)) rfl ?_
      refine WL.stp rfl (Stp.st (tm rfl) Ev.const zs4 rfl rfl rfl rfl rfl rfl rfl rfl) ?_
      refine WL.norm 59 [] [some ⟨_, _, [[_, _, _, _, _]]⟩, some ⟨_, _, _⟩] rfl trivial rfl rfl ?_
      refine wn ?_
      refine sr ?_
      refine WL.v (Val.assign Ev.const) rfl ?_
      refine WL.norm 59 [(4, _)] [some ⟨_, _, [[_, _, _, _, _]]⟩, some ⟨_, _, _⟩] rfl ⟨rfl, trivial⟩ rfl rfl ?_
      refine wn ?_
      refine W.ret (rt1 (rt2 (rt1 (rt1 (rt2 (rt1 ?_))))))
      exact Ret.keep (.inr rfl) rfl (res1 rfl rfl) rfl (by rw [hle, loop_step hn0 hc6, if_pos hc8]; exact ⟨rfl, rfl⟩)
    try simp only [td] at hc8
    refine W.skip (nm ?_)
    refine sr ?_
    refine mv rfl rfl ?_
    refine WL.v (Val.nilCheck (tm rfl)) rfl ?_
    refine WL.v (Val.fal (off := 3) Tryd.underlying76 rfl rfl zs3 (tm rfl)) rfl ?_
    refine WL.v (Val.loadLive Tryd.underlying3 rfl (tm rfl) rfl rfl rfl rfl rfl) rfl ?_
    refine WL.v (Val.sub (tm rfl) Ev.const (IntWalk.i64_in _ (by omega))) rfl ?_
    refine WL.v (Val.nilCheck (tm rfl)) rfl ?_
    refine WL.v (Val.fal (off := 3) Tryd.underlying76 rfl rfl zs3 (tm rfl)) rfl ?_
    refine WL.stp rfl (Stp.st (tm rfl) (tm rfl) zs3 rfl rfl rfl rfl rfl rfl rfl rfl) ?_
    refine WL.norm 59 [(0, _), (1, _), (5, _), (31, _), (32, _)] [some ⟨_, _, [[_, _, _, _, _]]⟩, some ⟨_, _, _⟩] rfl ⟨rfl, rfl, rfl, rfl, rfl, trivial⟩ rfl rfl ?_
    refine wn ?_
    refine W.seq ?_
    refine W.seq ?_
    have hx := examF_ok hp hg (fun L F sp h1 h2 => fromF_ok hp hg k L F sp (by omega) h1 h2) (i := (k : Int)) (n := n) (by omega) (by omega) hn0 hc6 (sp := sp') hL' (F := F' - 1) (by omega)
    refine W.region ?_
    refine mv rfl rfl ?_
    refine mv rfl rfl ?_
    refine mv rfl rfl ?_
    refine WL.callPre (args := [.ptr 0 0 5 0 0, .i k, .i n]) (caps := []) (HF p g gL L' (F' - 1) sp') [] ca50 Fun.func (evc (tm rfl) (evc (tm rfl) (evc (tm rfl) evn))) rfl rfl rfl HF.lo (c_exam W0 N p g hp hg gL k (by omega) (fun L F sp h1 h2 h3 => ih L F sp (by omega) h1 h2 h3) n L' (F' - 1) sp' hL' hn0 hc6 (by omega) (by omega)) (RF.ok rfl) rfl ?_
    rintro _ _ ⟨rfl, rfl⟩
    refine WL.norm 59 [(0, _), (1, _), (31, _), (32, _), (53, _)] [some ⟨_, _, [[_, _, _, _, _]]⟩, some ⟨_, _, _⟩] rfl ⟨rfl, rfl, rfl, rfl, rfl, trivial⟩ rfl rfl ?_
    refine wn ?_
    refine W.condP rfl (fun hc12 => ?_) (fun hc12 => ?_)
    · try simp only [td] at hc12
      refine sr ?_
      refine WL.v (Val.assign Ev.const) rfl ?_
      refine WL.norm 59 [(4, _)] [some ⟨_, _, [[_, _, _, _, _]]⟩, some ⟨_, _, _⟩] rfl ⟨rfl, trivial⟩ rfl rfl ?_
      refine wn ?_
      refine W.ret (rt1 (rt2 (rt1 (rt1 (rt2 (rt1 ?_))))))
      exact Ret.keep (.inr rfl) rfl (res1 rfl rfl) rfl (by rw [hle, loop_step hn0 hc6, if_neg (by omega), if_pos hc12]; exact ⟨by rw [hc12], rfl⟩)
    try simp only [td] at hc12
    refine W.skip (nm ?_)
    refine sr ?_
    refine mv rfl rfl ?_
    refine WL.v (Val.nilCheck (tm rfl)) rfl ?_
    refine WL.v (Val.fal (off := 4) Tryd.underlying76 rfl rfl zs4 (tm rfl)) rfl ?_
    refine WL.v (Val.loadLive Tryd.underlying4 rfl (tm rfl) rfl rfl rfl rfl rfl) rfl ?_
    refine WL.norm 59 [(0, _), (1, _), (31, _), (32, _), (57, _)] [some ⟨_, _, [[_, _, _, _, _]]⟩, some ⟨_, _, _⟩] rfl ⟨rfl, rfl, rfl, rfl, rfl, trivial⟩ rfl rfl ?_
    refine wn ?_
    refine W.condP rfl (fun hc14 => ?_) (fun hc14 => ?_)
    · try simp only [td] at hc14
      refine sr ?_
      refine WL.v (Val.assign Ev.const) rfl ?_
      refine WL.norm 59 [(4, _)] [some ⟨_, _, [[_, _, _, _, _]]⟩, some ⟨_, _, _⟩] rfl ⟨rfl, trivial⟩ rfl rfl ?_
      refine wn ?_
      refine W.ret (rt2 (rt1 (rt1 (rt2 (rt1 ?_)))))
      exact Ret.keep (.inr rfl) rfl (res1 rfl rfl) rfl (by rw [hle, loop_step hn0 hc6, if_neg (by omega), if_neg (by rw [hc12]; simp), if_pos hc14]; exact ⟨by rw [hc12], by rw [hc14]⟩)
    try simp only [td] at hc14
    refine W.skip (nb (nm ?_))
    refine W.region ?_
    refine WL.v (Val.add (tm rfl) Ev.const (IntWalk.i64_in _ (by omega))) rfl ?_
    refine mv rfl rfl ?_
    refine WL.norm 59 [(0, _), (1, _), (31, _), (32, _)] [some ⟨_, _, [[_, _, _, _, _]]⟩, some ⟨_, _, _⟩] rfl ⟨rfl, rfl, rfl, rfl, trivial⟩ rfl rfl ?_
    refine wn ?_
    exact ⟨_, by omega, n + 1, _, _, _, rfl, rfl, by omega, by omega, by rw [hle, loop_step hn0 hc6, if_neg (by omega), if_neg (by rw [hc12]; simp), if_neg (by rw [hc14]; simp)], hx.1, hx.2.1, by have := hx.2.2; omega⟩
  try simp only [td] at hc6
  refine W.exit (ex1 (ex1 (ex2 (nm ?_))))
  refine sr ?_
  refine WL.v (Val.assign Ev.const) rfl ?_
  refine WL.norm 59 [(4, _)] [some ⟨_, _, [[_, _, _, _, _]]⟩, some ⟨_, _, _⟩] rfl ⟨rfl, trivial⟩ rfl rfl ?_
  refine wn ?_
  refine W.ret ?_
  exact Ret.keep (.inr rfl) rfl (res1 rfl rfl) rfl (by rw [hle, show (g.length - n).toNat = 0 from by omega, loopF]; exact ⟨rfl, rfl⟩)
end Go.Aw
namespace Go.Aw
open Go.RowKit Go.Proofs

def encP (x : Int × Int) : List FV := [.i x.1, .i x.2]
abbrev FV.prs (l : List (Int × Int)) : FV := .lst 2 (l.map encP)
def placeF : List (Int × Int) → List Int → Option (List Int)
  | [], L => some L
  | x :: r, L => if gA L x.1 ≠ -1 ∧ gA L x.1 ≠ x.2 then none else placeF r (L.set x.1.toNat x.2)
def endF (x : FR) : List Int × Int × Int := if x.sp = true then ([], 0, 19) else if x.ok = true then (x.L, x.F, 0) else ([], x.F, 18)
/-- match.Embed. -/
def embedF (p g : List Nd) (given : List (Int × Int)) (F : Int) : List Int × Int × Int :=
  if (∀ x, x ∈ given → 0 ≤ x.1 ∧ x.1 < (p.length : Int)) then
    if (∀ x, x ∈ given → 0 ≤ x.2 ∧ x.2 < (g.length : Int)) then
      match placeF given (List.replicate p.length (-1)) with
      | none => ([], F, 18)
      | some L => endF (fromF p g p.length L F false)
    else ([], 0, 7)
  else ([], 0, 1)
theorem nat_step {P : Nat → Prop} {i : Int} (h0 : 0 ≤ i) (h : ∀ j : Nat, j < i.toNat → P j) (hi : P i.toNat) : ∀ j : Nat, j < (i + 1).toNat → P j := fun j hj => by
  by_cases hji : j = i.toNat
  · rw [hji]; exact hi
  · exact h j (by omega)
theorem all_gA {α : Type} [Inhabited α] {l : List α} {P : α → Prop} (h : ∀ j : Nat, j < l.length → P (gA l j)) : ∀ x, x ∈ l → P x := fun x hx => by
  obtain ⟨j, hj⟩ := List.mem_iff_getElem?.1 hx
  have hl := (List.getElem?_eq_some_iff.1 hj).1
  have := gA_nat hl
  rw [hj] at this
  rw [Option.some.inj this]; exact h j hl
theorem drop_step {α : Type} [Inhabited α] {l : List α} {i : Int} (h0 : 0 ≤ i) (h1 : i < l.length) : l.drop i.toNat = gA l i :: l.drop (i + 1).toNat := by
  have hlt : i.toNat < l.length := by omega
  have e := gA_at h0 h1
  rw [List.drop_eq_getElem_cons hlt, show (i + 1).toNat = i.toNat + 1 from by omega]
  congr 1
  exact (List.getElem?_eq_some_iff.1 e).2
abbrev idsE : List Nat := [3, 2]
abbrev HE (p g : List Nd) (L : List Int) (F : Int) (sp : Bool) : Heap :=
  [some ⟨0, 1, [[.f (.nodes p)]]⟩, some ⟨0, 1, [[.f (.nodes g)]]⟩, some ⟨0, 1, fz (L.map encI)⟩, some ⟨0, 5, [[.f (.nodes p), .f (.nodes g), .row 2 0 1 0 p.length, .i F, .b sp]]⟩]
theorem HE.sub {p g : List Nd} {L : List Int} {F : Int} {sp : Bool} : Sub (HE p g L F sp) (HF p g 0 L F sp) (rhoL idsE) (sigL idsE) := by
  refine Sub.ofIds (by decide) ?_
  have h1 := rn_fz (rhoL idsE) 0 1 (L.map encI)
  simp only [List.map_cons, List.map_nil, Option.map_some, h1]
  rfl
theorem HE.merge {p g : List Nd} {L L' : List Int} {F F' : Int} {sp sp' : Bool} : mergeL (rhoL idsE) idsE (HF p g 0 L' F' sp') (HE p g L F sp) = HE p g L' F' sp' := by
  have h1 := rn_fz (rhoL idsE) 0 1 (L'.map encI)
  show _ = [_, _, _, _]
  simp only [mergeL, Option.map_some, h1]
  rfl
theorem WL.fromE {W0 : World} {N : Nat} {X : Nat → Prop} {m : Nat} {ops : Array Oper} {Q : Post} {rest : List Oper} {S : St} {d : Option Nat} {ty : TypeId} {pos : String} {af : Array Edge} {gd : Option (Nat × Bool)} {ts : Array TypeId} {x y : Operand} {p g : List Nd} {L : List Int} {F : Int} {sp : Bool}
    (hp : WFG p) (hg : WFG g) (hL : LOk p g L) (hF0 : 0 ≤ F) (hF1 : F ≤ 1000000) (hx : Ev ⟨(En W0 N).P, X, (En W0 N).W0, (En W0 N).N⟩ S x (.ptr 3 0 5 0 0)) (hy : Ev ⟨(En W0 N).P, X, (En W0 N).W0, (En W0 N).N⟩ S y (.i ((p.length : Int) - 1))) (hd : dstOk d S.n = true) (hheap : S.heap = HE p g L F sp) (hgd : gd = none)
    (h : WL ⟨(En W0 N).P, X, (En W0 N).W0, (En W0 N).N⟩ m ops Q rest (({ S with heap := HE p g (fromF p g p.length L F sp).L (fromF p g p.length L F sp).F (fromF p g p.length L F sp).sp } : St).putD d (.b (fromF p g p.length L F sp).ok))) :
    WL ⟨(En W0 N).P, X, (En W0 N).W0, (En W0 N).N⟩ m ops Q (⟨d, .call ⟨.value (.func 36), #[x, y], ts⟩, ty, pos, af, gd⟩ :: rest) S := by
  have := WL.callSub (K := ⟨(En W0 N).P, X, (En W0 N).W0, (En W0 N).N⟩) (m := m) (ops := ops) (Q := Q) (rest := rest) (S := S) (d := d) (ty := ty) (pos := pos) (af := af) (gd := gd) (ts := ts) (c := .func 36) (xs := [x, y]) (args := [.ptr 0 0 5 0 0, .i ((p.length : Int) - 1)]) (caps := []) (ρ := rhoL idsE) (σ := sigL idsE) (fun h' => mergeL (rhoL idsE) idsE h' S.heap) ca36 Fun.func (evc hx (evc hy evn)) rfl hd (by rw [hheap]; exact HE.sub) HF.lo (c_from W0 N p g hp hg 0 p.length L F sp (Nat.le_refl _) hL hF0 hF1) ?_ hgd ?_
  · exact this
  · intro r h' hr
    obtain ⟨a1, a2, a3⟩ := RF.ok (n := 2) rfl r h' hr
    refine ⟨a1, a2, Merged.ofIds (by decide) rfl (fun j hj => by rw [hheap]; simp only [idsE, List.mem_cons, List.not_mem_nil, or_false] at hj; show j < 4; omega) a3⟩
  · rintro r h' ⟨rfl, rfl⟩
    rw [hheap, HE.merge]
    exact h

-- match.Embed
set_option maxHeartbeats 1000000 in
theorem c_Embed (W0 : World) (N : Nat) (p g : List Nd) (hp : WFG p) (hg : WFG g) (given : List (Int × Int)) (hgl : given.length ≤ 1000000) (F : Int) (hF0 : 0 ≤ F) (hF1 : F ≤ 1000000) : AC (En W0 N) 17 [.agg [.f (.nodes p)], .agg [.f (.nodes g)], .f (.prs given), .i F] [] (fun r h => h = [] ∧ r = .tup [.f (.ints (embedF p g given F).1), .i (embedF p g given F).2.1, .i (embedF p g given F).2.2]) := by
  have hpl := hp.len
  have hgl2 := hg.len
  refine AC.enter Tryd.func17 rfl Tryd.ntmps17 (bl rfl) fun X => ?_
  refine sr ?_
  refine WL.stp rfl (Stp.box (tm rfl) rfl rfl) ?_
  refine WL.stp rfl (Stp.box (tm rfl) rfl rfl) ?_
  refine WL.v (Val.assign Ev.const) rfl ?_
  refine WL.v (Val.assign Ev.const) rfl ?_
  refine WL.v (Val.assign Ev.const) rfl ?_
  refine WL.norm 113 [(2, _), (3, _), (4, _), (5, _)] [some ⟨_, _, [[_]]⟩, some ⟨_, _, [[_]]⟩] rfl ⟨rfl, rfl, rfl, rfl, trivial⟩ rfl rfl ?_
  refine wn ?_
  refine W.seq ?_
  refine sr ?_
  refine mv rfl rfl ?_
  refine WL.v (Val.ln (enc := encP) Tryd.underlying46 (tm rfl)) rfl ?_
  refine WL.v (Val.move Ev.const) rfl ?_
  refine WL.norm 113 [(2, _), (3, _), (4, _), (5, _), (20, _), (21, _), (22, _)] [some ⟨_, _, [[_]]⟩, some ⟨_, _, [[_]]⟩] rfl ⟨rfl, rfl, rfl, rfl, rfl, rfl, rfl, trivial⟩ rfl rfl ?_
  refine wn ?_
  refine W.norm 113 [(2, _), (3, _), (4, _), (5, _), (20, _), (21, _), (22, _)] [some ⟨_, _, [[_]]⟩, some ⟨_, _, [[_]]⟩] rfl ⟨rfl, rfl, rfl, rfl, rfl, rfl, rfl, trivial⟩ rfl rfl ?_
  refine W.block (W.loop (fun nn S => ∃ (i : Int), S = ⟨113, [(2, .f (.prs given)), (3, .i F), (4, .ptr 0 0 1 0 0), (5, .ptr 1 0 1 0 0), (20, .f (.prs given)), (21, .i given.length), (22, .i i)], [some ⟨0, 1, [[.f (.nodes p)]]⟩, some ⟨0, 1, [[.f (.nodes g)]]⟩], []⟩ ∧ nn = ((given.length - i).toNat) ∧ (0 ≤ i) ∧ (i ≤ given.length) ∧ (∀ j : Nat, j < i.toNat → 0 ≤ (gA given j).1 ∧ (gA given j).1 < (p.length : Int))) ⟨0, rfl, rfl, by omega, by omega, fun j hj => absurd hj (by simp)⟩ ?_)
  rintro nn S ⟨i, rfl, rfl, hi0, hi1, ha⟩
  refine sr ?_
  refine WL.v (Val.lss (tm rfl) (tm rfl)) rfl ?_
  refine WL.norm 113 [(2, _), (3, _), (4, _), (5, _), (20, _), (21, _), (22, _), (23, _)] [some ⟨_, _, [[_]]⟩, some ⟨_, _, [[_]]⟩] rfl ⟨rfl, rfl, rfl, rfl, rfl, rfl, rfl, rfl, trivial⟩ rfl rfl ?_
  refine wn ?_
  refine W.seq ?_
  refine W.condP rfl (fun hc2 => ?_) (fun hc2 => ?_)
  · try simp only [td] at hc2
    refine W.skip (nm ?_)
    refine W.seq ?_
    refine W.block ?_
    refine sr ?_
    refine WL.v (Val.ix (enc := encP) Tryd.underlying46 zs47 (tm rfl) (tm rfl) (by omega) (gA_at (by omega) (by omega))) rfl ?_
    refine WL.v (Val.loadAgg Tryd.underlying47 rfl zs47 (tm rfl) (bl rfl)) rfl ?_
    refine WL.stp rfl (Stp.alloc zz47 rfl rfl) ?_
    refine WL.stp rfl (Stp.st (tm rfl) (tm rfl) zs47 rfl rfl rfl rfl rfl rfl rfl rfl) ?_
    refine WL.norm 113 [(2, _), (3, _), (4, _), (5, _), (12, _), (20, _), (21, _), (22, _)] [some ⟨_, _, [[_]]⟩, some ⟨_, _, [[_]]⟩, some ⟨_, _, [[_, _]]⟩] rfl ⟨rfl, rfl, rfl, rfl, rfl, rfl, rfl, rfl, trivial⟩ rfl rfl ?_
    refine wn ?_
    refine sr ?_
    refine WL.v (Val.loadLiveAgg Tryd.underlying39 rfl zs39 (tm rfl) rfl rfl rfl rfl (bl rfl)) rfl ?_
    refine WL.v (Val.ixArr (off := 0) Tryd.underlying47 zs3 (tm rfl) Ev.const (by decide) (by decide) rfl) rfl ?_
    refine WL.v (Val.loadLive Tryd.underlying3 rfl (tm rfl) rfl rfl rfl rfl rfl) rfl ?_
    refine WL.callV ca30 (evc (tm rfl) (evc (tm rfl) evn)) (lo2 rfl (lo1 lo0)) rfl (c_isNode W0 N _ _) ?_
    rintro _ rfl
    refine WL.v (Val.not (tm rfl)) rfl ?_
    refine WL.cut (env := [(2, _), (3, _), (4, _), (5, _), (20, _), (21, _), (22, _), (30, _)]) (h' := [some ⟨_, _, [[_]]⟩, some ⟨_, _, [[_]]⟩]) (Fewer.pre _ rfl) (.inr (HLo.box (lo1 lo0) (HLo.box (lo1 lo0) HLo.nil))) (fun id h => absurd h (Nat.not_lt_zero _)) ⟨⟨_, rfl, (.same rfl)⟩, ⟨_, rfl, (.same rfl)⟩, ⟨_, rfl, (.same rfl)⟩, ⟨_, rfl, (.same rfl)⟩, ⟨_, rfl, (.same rfl)⟩, ⟨_, rfl, (.same rfl)⟩, ⟨_, rfl, (.same rfl)⟩, ⟨_, rfl, (.same rfl)⟩, trivial⟩ ?_
    refine wn ?_
    refine W.condP rfl (fun hc4 => ?_) (fun hc4 => ?_)
    · have hin_ : ¬ (0 ≤ (gA given i).1 ∧ (gA given i).1 < (p.length : Int)) := by rintro ⟨h1, h2⟩; rw [decide_eq_true h1, decide_eq_true h2] at hc4; cases hc4
      refine sr ?_
      refine WL.v (Val.assign Ev.const) rfl ?_
      refine WL.v (Val.assign Ev.const) rfl ?_
      refine WL.v (Val.assign Ev.const) rfl ?_
      refine WL.norm 113 [(8, _), (9, _), (10, _)] [some ⟨_, _, [[_]]⟩, some ⟨_, _, [[_]]⟩] rfl ⟨rfl, rfl, rfl, trivial⟩ rfl rfl ?_
      refine wn ?_
      refine W.ret (rt2 (rt1 (rt1 (rt2 (rt1 ?_)))))
      exact Ret.of (.inr rfl) rfl (res3 rfl rfl rfl rfl) (Fewer.nil _) (.inr trivial) (fun id h => absurd h (Nat.not_lt_zero _)) (.tup .nil (.tup (.same rfl) (.tup (.same rfl) .tup0))) ⟨rfl, by rw [embedF, if_neg (fun h => hin_ (h _ (gA_mem (l := given) hi0 hc2)))]; rfl⟩
    have hin_ : 0 ≤ (gA given i).1 ∧ (gA given i).1 < (p.length : Int) := by simpa using hc4
    refine W.skip (nb (nm ?_))
    refine W.region ?_
    refine WL.v (Val.add (tm rfl) Ev.const (IntWalk.i64_in _ (by omega))) rfl ?_
    refine mv rfl rfl ?_
    refine WL.norm 113 [(2, _), (3, _), (4, _), (5, _), (20, _), (21, _), (22, _)] [some ⟨_, _, [[_]]⟩, some ⟨_, _, [[_]]⟩] rfl ⟨rfl, rfl, rfl, rfl, rfl, rfl, rfl, trivial⟩ rfl rfl ?_
    refine wn ?_
    exact ⟨_, by omega, i + 1, rfl, rfl, by omega, by omega, nat_step hi0 ha (by rw [i_nat hi0]; exact hin_)⟩
  try simp only [td] at hc2
  refine W.exit (ex1 (ex1 (ex2 (nm ?_))))
  refine W.seq ?_
  refine W.seq ?_
  have hall1 : ∀ x, x ∈ given → 0 ≤ x.1 ∧ x.1 < (p.length : Int) := all_gA (fun j hj => ha j (by omega))
  refine W.region ?_
  refine mv rfl rfl ?_
  refine WL.v (Val.ln (enc := encP) Tryd.underlying46 (tm rfl)) rfl ?_
  refine WL.v (Val.move Ev.const) rfl ?_
  refine WL.norm 113 [(2, _), (3, _), (4, _), (5, _), (32, _), (33, _), (34, _)] [some ⟨_, _, [[_]]⟩, some ⟨_, _, [[_]]⟩] rfl ⟨rfl, rfl, rfl, rfl, rfl, rfl, rfl, trivial⟩ rfl rfl ?_
  refine wn ?_
  refine W.norm 113 [(2, _), (3, _), (4, _), (5, _), (32, _), (33, _), (34, _)] [some ⟨_, _, [[_]]⟩, some ⟨_, _, [[_]]⟩] rfl ⟨rfl, rfl, rfl, rfl, rfl, rfl, rfl, trivial⟩ rfl rfl ?_
  refine W.block (W.loop (fun nn S => ∃ (i : Int), S = ⟨113, [(2, .f (.prs given)), (3, .i F), (4, .ptr 0 0 1 0 0), (5, .ptr 1 0 1 0 0), (32, .f (.prs given)), (33, .i given.length), (34, .i i)], [some ⟨0, 1, [[.f (.nodes p)]]⟩, some ⟨0, 1, [[.f (.nodes g)]]⟩], []⟩ ∧ nn = ((given.length - i).toNat) ∧ (0 ≤ i) ∧ (i ≤ given.length) ∧ (∀ j : Nat, j < i.toNat → 0 ≤ (gA given j).2 ∧ (gA given j).2 < (g.length : Int))) ⟨0, rfl, rfl, by omega, by omega, fun j hj => absurd hj (by simp)⟩ ?_)
  rintro nn S ⟨i, rfl, rfl, hi0, hi1, hb⟩
  refine sr ?_
  refine WL.v (Val.lss (tm rfl) (tm rfl)) rfl ?_
  refine WL.norm 113 [(2, _), (3, _), (4, _), (5, _), (32, _), (33, _), (34, _), (35, _)] [some ⟨_, _, [[_]]⟩, some ⟨_, _, [[_]]⟩] rfl ⟨rfl, rfl, rfl, rfl, rfl, rfl, rfl, rfl, trivial⟩ rfl rfl ?_
  refine wn ?_
  refine W.seq ?_
  refine W.condP rfl (fun hc8 => ?_) (fun hc8 => ?_)
  · try simp only [td] at hc8
    refine W.skip (nm ?_)
    refine W.seq ?_
    refine W.block ?_
    refine sr ?_
    refine WL.v (Val.ix (enc := encP) Tryd.underlying46 zs47 (tm rfl) (tm rfl) (by omega) (gA_at (by omega) (by omega))) rfl ?_
    refine WL.v (Val.loadAgg Tryd.underlying47 rfl zs47 (tm rfl) (bl rfl)) rfl ?_
    refine WL.stp rfl (Stp.alloc zz47 rfl rfl) ?_
    refine WL.stp rfl (Stp.st (tm rfl) (tm rfl) zs47 rfl rfl rfl rfl rfl rfl rfl rfl) ?_
    refine WL.norm 113 [(2, _), (3, _), (4, _), (5, _), (14, _), (32, _), (33, _), (34, _)] [some ⟨_, _, [[_]]⟩, some ⟨_, _, [[_]]⟩, some ⟨_, _, [[_, _]]⟩] rfl ⟨rfl, rfl, rfl, rfl, rfl, rfl, rfl, rfl, trivial⟩ rfl rfl ?_
    refine wn ?_
    refine sr ?_
    refine WL.v (Val.loadLiveAgg Tryd.underlying39 rfl zs39 (tm rfl) rfl rfl rfl rfl (bl rfl)) rfl ?_
    refine WL.v (Val.ixArr (off := 1) Tryd.underlying47 zs3 (tm rfl) Ev.const (by decide) (by decide) rfl) rfl ?_
    refine WL.v (Val.loadLive Tryd.underlying3 rfl (tm rfl) rfl rfl rfl rfl rfl) rfl ?_
    refine WL.callV ca30 (evc (tm rfl) (evc (tm rfl) evn)) (lo2 rfl (lo1 lo0)) rfl (c_isNode W0 N _ _) ?_
    rintro _ rfl
    refine WL.v (Val.not (tm rfl)) rfl ?_
    refine WL.cut (env := [(2, _), (3, _), (4, _), (5, _), (32, _), (33, _), (34, _), (42, _)]) (h' := [some ⟨_, _, [[_]]⟩, some ⟨_, _, [[_]]⟩]) (Fewer.pre _ rfl) (.inr (HLo.box (lo1 lo0) (HLo.box (lo1 lo0) HLo.nil))) (fun id h => absurd h (Nat.not_lt_zero _)) ⟨⟨_, rfl, (.same rfl)⟩, ⟨_, rfl, (.same rfl)⟩, ⟨_, rfl, (.same rfl)⟩, ⟨_, rfl, (.same rfl)⟩, ⟨_, rfl, (.same rfl)⟩, ⟨_, rfl, (.same rfl)⟩, ⟨_, rfl, (.same rfl)⟩, ⟨_, rfl, (.same rfl)⟩, trivial⟩ ?_
    refine wn ?_
    refine W.condP rfl (fun hc10 => ?_) (fun hc10 => ?_)
    · have hin_ : ¬ (0 ≤ (gA given i).2 ∧ (gA given i).2 < (g.length : Int)) := by rintro ⟨h1, h2⟩; rw [decide_eq_true h1, decide_eq_true h2] at hc10; cases hc10
      refine sr ?_
      refine WL.v (Val.assign Ev.const) rfl ?_
      refine WL.v (Val.assign Ev.const) rfl ?_
      refine WL.v (Val.assign Ev.const) rfl ?_
      refine WL.norm 113 [(8, _), (9, _), (10, _)] [some ⟨_, _, [[_]]⟩, some ⟨_, _, [[_]]⟩] rfl ⟨rfl, rfl, rfl, trivial⟩ rfl rfl ?_
      refine wn ?_
      refine W.ret (rt2 (rt1 (rt1 (rt2 (rt1 ?_)))))
      exact Ret.of (.inr rfl) rfl (res3 rfl rfl rfl rfl) (Fewer.nil _) (.inr trivial) (fun id h => absurd h (Nat.not_lt_zero _)) (.tup .nil (.tup (.same rfl) (.tup (.same rfl) .tup0))) ⟨rfl, by rw [embedF, if_pos hall1, if_neg (fun h => hin_ (h _ (gA_mem (l := given) hi0 hc8)))]; rfl⟩
    have hin_ : 0 ≤ (gA given i).2 ∧ (gA given i).2 < (g.length : Int) := by simpa using hc10
    refine W.skip (nb (nm ?_))
    refine W.region ?_
    refine WL.v (Val.add (tm rfl) Ev.const (IntWalk.i64_in _ (by omega))) rfl ?_
    refine mv rfl rfl ?_
    refine WL.norm 113 [(2, _), (3, _), (4, _), (5, _), (32, _), (33, _), (34, _)] [some ⟨_, _, [[_]]⟩, some ⟨_, _, [[_]]⟩] rfl ⟨rfl, rfl, rfl, rfl, rfl, rfl, rfl, trivial⟩ rfl rfl ?_
    refine wn ?_
    exact ⟨_, by omega, i + 1, rfl, rfl, by omega, by omega, nat_step hi0 hb (by rw [i_nat hi0]; exact hin_)⟩
  try simp only [td] at hc8
  refine W.exit (ex1 (ex1 (ex2 (nm ?_))))
  refine W.seq ?_
  have hall2 : ∀ x, x ∈ given → 0 ≤ x.2 ∧ x.2 < (g.length : Int) := all_gA (fun j hj => hb j (by omega))
  refine W.reserve ?_
  refine W.reserve ?_
  refine W.drawE (fun k => ([([0], []), ([1], []), ([], []), ([0], []), ([], []), ([2], [2]), ([], []), ([], []), ([3], [3]), ([3], [3])] : List (List Nat × List Nat)).getD k ([], [])) rfl (by kernel_rfl) (bl rfl) ?_
  refine LexE.val rfl rfl rfl (fun h' ha => Val.loadLiveAgg Tryd.underlying39 rfl zs39 (tm rfl) ((ha.at_ 0 (by decide)).trans rfl) rfl rfl rfl (bl rfl)) ?_
  refine LexE.val rfl rfl rfl (fun h' ha => Val.loadLiveAgg Tryd.underlying39 rfl zs39 (tm rfl) ((ha.at_ 1 (by decide)).trans rfl) rfl rfl rfl (bl rfl)) ?_
  refine LexE.val rfl rfl rfl (fun h' ha => Val.fal (off := 0) Tryd.underlying39 rfl rfl zs23 (tm rfl)) ?_
  refine LexE.val rfl rfl rfl (fun h' ha => Val.loadLive Tryd.underlying23 rfl (tm rfl) ((ha.at_ 0 (by decide)).trans rfl) rfl rfl rfl rfl) ?_
  refine LexE.val rfl rfl rfl (fun h' ha => Val.ln (enc := Nd.cells) Tryd.underlying23 (tm rfl)) ?_
  refine LexE.stp (U := [(2, _)]) rfl rfl rfl rfl (fun h => by first | rfl | cases h) (fun h' ha m' => Stp.makeIAt Tryd.underlying22 zs3 zb3 zz3 (tm rfl) (tm rfl) (by omega) (by omega) ((ha.at_ 2 (by decide)).trans rfl) rfl) ?_
  refine LexE.val rfl rfl rfl (fun h' ha => Val.move (tm rfl)) ?_
  refine LexE.val rfl rfl rfl (fun h' ha => Val.build (vs := [(0, _), (1, _), (2, _), (3, _)]) Tryd.underlying76 zz76 rfl rfl pl76 rfl ⟨(tm rfl), rfl, rfl, rfl, ⟨(tm rfl), rfl, rfl, rfl, ⟨(tm rfl), rfl, rfl, rfl, ⟨(tm rfl), rfl, rfl, rfl, trivial⟩⟩⟩⟩) ?_
  refine LexE.stp (U := [(3, _)]) rfl rfl rfl rfl (fun h => by first | rfl | cases h) (fun h' ha m' => Stp.allocAt zz76 rfl rfl ((ha.at_ 3 (by decide)).trans rfl) rfl) ?_
  refine LexE.stp (U := [(3, _)]) rfl rfl rfl rfl (fun h => by first | rfl | cases h) (fun h' ha m' => Stp.st (tm rfl) (tm rfl) zs76 rfl rfl ((ha.at_ 3 (by decide)).trans rfl) rfl rfl rfl rfl rfl) ?_
  refine LexE.nil (nm ?_)
  refine W.norm 113 [(2, _), (3, _), (4, _), (15, _)] [some ⟨_, _, [[_]]⟩, some ⟨_, _, [[_]]⟩, some ⟨_, _, _⟩, some ⟨_, _, [[_, _, _, _, _]]⟩] rfl ⟨rfl, rfl, rfl, rfl, trivial⟩ rfl rfl ?_
  refine W.seq ?_
  refine sr ?_
  refine WL.v (Val.fal (off := 2) Tryd.underlying76 rfl rfl zs22 (tm rfl)) rfl ?_
  refine WL.v (Val.loadLive Tryd.underlying22 rfl (tm rfl) rfl rfl rfl rfl rfl) rfl ?_
  refine WL.v (Val.lenRow Tryd.underlying22 (tm rfl)) rfl ?_
  refine WL.v (Val.move Ev.const) rfl ?_
  refine WL.norm 113 [(2, _), (3, _), (4, _), (15, _), (54, _), (55, _)] [some ⟨_, _, [[_]]⟩, some ⟨_, _, [[_]]⟩, some ⟨_, _, _⟩, some ⟨_, _, [[_, _, _, _, _]]⟩] rfl ⟨rfl, rfl, rfl, rfl, rfl, rfl, trivial⟩ rfl rfl ?_
  refine wn ?_
  refine W.norm 113 [(2, _), (3, _), (4, _), (15, _), (54, _), (55, _)] [some ⟨_, _, [[_]]⟩, some ⟨_, _, [[_]]⟩, some ⟨_, _, _⟩, some ⟨_, _, [[_, _, _, _, _]]⟩] rfl ⟨rfl, rfl, rfl, rfl, rfl, rfl, trivial⟩ rfl rfl ?_
  refine W.block (W.loop (fun nn S => ∃ (k : Int) (ks : List Int), S = ⟨113, [(2, .f (.prs given)), (3, .i F), (4, .ptr 0 0 1 0 0), (15, .ptr 3 0 5 0 0), (54, .i p.length), (55, .i k)], HE p g ks F false, []⟩ ∧ nn = ((p.length - k).toNat) ∧ (0 ≤ k) ∧ (k ≤ p.length) ∧ (ks.length = p.length) ∧ (∀ j : Nat, j < k.toNat → gA ks j = -1)) ⟨0, _, rfl, rfl, by omega, by omega, by simp, fun j hj => absurd hj (by simp)⟩ ?_)
  rintro nn S ⟨k, ks, rfl, rfl, hk0, hk1, hkl, hks⟩
  refine sr ?_
  refine WL.v (Val.lss (tm rfl) (tm rfl)) rfl ?_
  refine WL.norm 113 [(2, _), (3, _), (4, _), (15, _), (54, _), (55, _), (56, _)] [some ⟨_, _, [[_]]⟩, some ⟨_, _, [[_]]⟩, some ⟨_, _, _⟩, some ⟨_, _, [[_, _, _, _, _]]⟩] rfl ⟨rfl, rfl, rfl, rfl, rfl, rfl, rfl, trivial⟩ rfl rfl ?_
  refine wn ?_
  refine W.seq ?_
  refine W.condP rfl (fun hc15 => ?_) (fun hc15 => ?_)
  · try simp only [td] at hc15
    refine W.skip (nm ?_)
    refine W.seq ?_
    refine W.block ?_
    refine sr ?_
    refine mv rfl rfl ?_
    refine asg rfl rfl ?_
    refine WL.norm 113 [(2, _), (3, _), (4, _), (15, _), (16, _), (54, _), (55, _)] [some ⟨_, _, [[_]]⟩, some ⟨_, _, [[_]]⟩, some ⟨_, _, _⟩, some ⟨_, _, [[_, _, _, _, _]]⟩] rfl ⟨rfl, rfl, rfl, rfl, rfl, rfl, rfl, trivial⟩ rfl rfl ?_
    refine wn ?_
    refine W.region ?_
    refine WL.v (Val.fal (off := 2) Tryd.underlying76 rfl rfl zs22 (tm rfl)) rfl ?_
    refine WL.v (Val.loadLive Tryd.underlying22 rfl (tm rfl) rfl rfl rfl rfl rfl) rfl ?_
    refine mv rfl rfl ?_
    refine WL.v (Val.indexAddrLive Tryd.underlying22 zs3 (tm rfl) (tm rfl) (by omega) (by omega)) rfl ?_
    refine WL.stp rfl (Stp.storeI zs3 (tm rfl) Ev.const rfl (by omega) (by omega) rfl) ?_
    refine WL.norm 113 [(2, _), (3, _), (4, _), (15, _), (54, _), (55, _)] [some ⟨_, _, [[_]]⟩, some ⟨_, _, [[_]]⟩, some ⟨_, _, _⟩, some ⟨_, _, [[_, _, _, _, _]]⟩] rfl ⟨rfl, rfl, rfl, rfl, rfl, rfl, trivial⟩ rfl rfl ?_
    refine WL.nil (nb (nm ?_))
    refine W.region ?_
    refine WL.v (Val.add (tm rfl) Ev.const (IntWalk.i64_in _ (by omega))) rfl ?_
    refine mv rfl rfl ?_
    refine WL.norm 113 [(2, _), (3, _), (4, _), (15, _), (54, _), (55, _)] [some ⟨_, _, [[_]]⟩, some ⟨_, _, [[_]]⟩, some ⟨_, _, _⟩, some ⟨_, _, [[_, _, _, _, _]]⟩] rfl ⟨rfl, rfl, rfl, rfl, rfl, rfl, trivial⟩ rfl rfl ?_
    refine wn ?_
    exact ⟨_, by omega, k + 1, _, rfl, rfl, by omega, by omega, by rw [List.length_set]; exact hkl, set_minus hk0 (by omega) hks⟩
  try simp only [td] at hc15
  refine W.exit (ex1 (ex1 (ex2 (nm ?_))))
  refine W.seq ?_
  refine W.seq ?_
  have hkr : ks = List.replicate p.length (-1) := all_minus hkl (fun j hj => hks j (by omega))
  subst hkr
  refine W.region ?_
  refine mv rfl rfl ?_
  refine WL.v (Val.ln (enc := encP) Tryd.underlying46 (tm rfl)) rfl ?_
  refine WL.v (Val.move Ev.const) rfl ?_
  refine WL.norm 113 [(3, _), (4, _), (15, _), (63, _), (64, _), (65, _)] [some ⟨_, _, [[_]]⟩, some ⟨_, _, [[_]]⟩, some ⟨_, _, _⟩, some ⟨_, _, [[_, _, _, _, _]]⟩] rfl ⟨rfl, rfl, rfl, rfl, rfl, rfl, trivial⟩ rfl rfl ?_
  refine wn ?_
  refine W.norm 113 [(3, _), (4, _), (15, _), (63, _), (64, _), (65, _)] [some ⟨_, _, [[_]]⟩, some ⟨_, _, [[_]]⟩, some ⟨_, _, _⟩, some ⟨_, _, [[_, _, _, _, _]]⟩] rfl ⟨rfl, rfl, rfl, rfl, rfl, rfl, trivial⟩ rfl rfl ?_
  refine W.block (W.loop (fun nn S => ∃ (i : Int) (L : List Int), S = ⟨113, [(3, .i F), (4, .ptr 0 0 1 0 0), (15, .ptr 3 0 5 0 0), (63, .f (.prs given)), (64, .i given.length), (65, .i i)], HE p g L F false, []⟩ ∧ nn = ((given.length - i).toNat) ∧ (0 ≤ i) ∧ (i ≤ given.length) ∧ (placeF given (List.replicate p.length (-1)) = placeF (given.drop i.toNat) L) ∧ (LOk p g L)) ⟨0, _, rfl, rfl, by omega, by omega, rfl, ⟨by simp, fun x hx => .inl (List.eq_of_mem_replicate hx)⟩⟩ ?_)
  rintro nn S ⟨i, L, rfl, rfl, hi0, hi1, hpe, hL⟩
  refine sr ?_
  refine WL.v (Val.lss (tm rfl) (tm rfl)) rfl ?_
  refine WL.norm 113 [(3, _), (4, _), (15, _), (63, _), (64, _), (65, _), (66, _)] [some ⟨_, _, [[_]]⟩, some ⟨_, _, [[_]]⟩, some ⟨_, _, _⟩, some ⟨_, _, [[_, _, _, _, _]]⟩] rfl ⟨rfl, rfl, rfl, rfl, rfl, rfl, rfl, trivial⟩ rfl rfl ?_
  refine wn ?_
  refine W.seq ?_
  refine W.condP rfl (fun hc20 => ?_) (fun hc20 => ?_)
  · try simp only [td] at hc20
    refine W.skip (nm ?_)
    refine W.seq ?_
    refine W.block ?_
    refine sr ?_
    refine WL.v (Val.ix (enc := encP) Tryd.underlying46 zs47 (tm rfl) (tm rfl) (by omega) (gA_at (by omega) (by omega))) rfl ?_
    refine WL.v (Val.loadAgg Tryd.underlying47 rfl zs47 (tm rfl) (bl rfl)) rfl ?_
    refine WL.stp rfl (Stp.alloc zz47 rfl rfl) ?_
    refine WL.stp rfl (Stp.st (tm rfl) (tm rfl) zs47 rfl rfl rfl rfl rfl rfl rfl rfl) ?_
    refine WL.norm 113 [(3, _), (4, _), (15, _), (18, _), (63, _), (64, _), (65, _)] [some ⟨_, _, [[_]]⟩, some ⟨_, _, [[_]]⟩, some ⟨_, _, _⟩, some ⟨_, _, [[_, _, _, _, _]]⟩, some ⟨_, _, [[_, _]]⟩] rfl ⟨rfl, rfl, rfl, rfl, rfl, rfl, rfl, trivial⟩ rfl rfl ?_
    refine wn ?_
    refine W.seq ?_
    refine W.seq ?_
    have hg1 := hall1 _ (gA_mem (l := given) hi0 hc20)
    have hg2 := hall2 _ (gA_mem (l := given) hi0 hc20)
    have hL1 := hL.1
    refine W.drawE (fun k => ([([], []), ([3], []), ([], []), ([4], []), ([], []), ([2], []), ([], []), ([], []), ([], []), ([3], []), ([], []), ([4], []), ([], []), ([2], []), ([], []), ([4], []), ([], []), ([], [])] : List (List Nat × List Nat)).getD k ([], [])) rfl (by kernel_rfl) (bl rfl) ?_
    refine LexE.val rfl rfl rfl (fun h' ha => Val.fal (off := 2) Tryd.underlying76 rfl rfl zs22 (tm rfl)) ?_
    refine LexE.val rfl rfl rfl (fun h' ha => Val.loadLive Tryd.underlying22 rfl (tm rfl) ((ha.at_ 3 (by decide)).trans rfl) rfl rfl rfl rfl) ?_
    refine LexE.val rfl rfl rfl (fun h' ha => Val.ixArr (off := 0) Tryd.underlying47 zs3 (tm rfl) Ev.const (by decide) (by decide) rfl) ?_
    refine LexE.val rfl rfl rfl (fun h' ha => Val.loadLive Tryd.underlying3 rfl (tm rfl) ((ha.at_ 4 (by decide)).trans rfl) rfl rfl rfl rfl) ?_
    refine LexE.val rfl rfl rfl (fun h' ha => Val.indexAddrLive Tryd.underlying22 zs3 (tm rfl) (tm rfl) (by omega) (by omega)) ?_
    refine LexE.val rfl rfl rfl (fun h' ha => Val.loadLive Tryd.underlying3 rfl (tm rfl) ((ha.at_ 2 (by decide)).trans rfl) rfl rfl (fz_at (by omega) (by omega)) rfl) ?_
    refine LexE.val rfl rfl rfl (fun h' ha => Val.neq (tm rfl) Ev.const) ?_
    refine LexE.val rfl rfl rfl (fun h' ha => Val.move (tm rfl)) ?_
    refine LexE.gval rfl (fun h' => (Grd.t rfl rfl rfl)) rfl (fun hG h' ha => Val.fal (off := 2) Tryd.underlying76 rfl rfl zs22 (tm rfl)) ?_
    refine LexE.gval rfl (fun h' => (Grd.t rfl rfl rfl)) rfl (fun hG h' ha => Val.loadLive Tryd.underlying22 rfl (Ev.opt rfl hG) ((ha.at_ 3 (by decide)).trans rfl) rfl rfl rfl rfl) ?_
    refine LexE.gval rfl (fun h' => (Grd.t rfl rfl rfl)) rfl (fun hG h' ha => Val.ixArr (off := 0) Tryd.underlying47 zs3 (tm rfl) Ev.const (by decide) (by decide) rfl) ?_
    refine LexE.gval rfl (fun h' => (Grd.t rfl rfl rfl)) rfl (fun hG h' ha => Val.loadLive Tryd.underlying3 rfl (Ev.opt rfl hG) ((ha.at_ 4 (by decide)).trans rfl) rfl rfl rfl rfl) ?_
    refine LexE.gval rfl (fun h' => (Grd.t rfl rfl rfl)) rfl (fun hG h' ha => Val.indexAddrLive Tryd.underlying22 zs3 (Ev.opt rfl hG) (Ev.opt rfl hG) (by try simp only [td] at hG; omega) (by try simp only [td] at hG; omega)) ?_
    refine LexE.gval rfl (fun h' => (Grd.t rfl rfl rfl)) rfl (fun hG h' ha => Val.loadLive Tryd.underlying3 rfl (Ev.opt rfl hG) ((ha.at_ 2 (by decide)).trans rfl) rfl rfl (fz_at (by try simp only [td] at hG; omega) (by try simp only [td] at hG; omega)) rfl) ?_
    refine LexE.gval rfl (fun h' => (Grd.t rfl rfl rfl)) rfl (fun hG h' ha => Val.ixArr (off := 1) Tryd.underlying47 zs3 (tm rfl) Ev.const (by decide) (by decide) rfl) ?_
    refine LexE.gval rfl (fun h' => (Grd.t rfl rfl rfl)) rfl (fun hG h' ha => Val.loadLive Tryd.underlying3 rfl (Ev.opt rfl hG) ((ha.at_ 4 (by decide)).trans rfl) rfl rfl rfl rfl) ?_
    refine LexE.gval rfl (fun h' => (Grd.t rfl rfl rfl)) rfl (fun hG h' ha => Val.neq (Ev.opt rfl hG) (Ev.opt rfl hG)) ?_
    refine LexE.val rfl rfl rfl (fun h' ha => Val.and (tm rfl) (fun hb => Ev.opt rfl hb)) ?_
    refine LexE.nil (nm ?_)
    refine W.norm 113 [(3, _), (4, _), (15, _), (18, _), (63, _), (64, _), (65, _), (86, _)] [some ⟨_, _, [[_]]⟩, some ⟨_, _, [[_]]⟩, some ⟨_, _, _⟩, some ⟨_, _, [[_, _, _, _, _]]⟩, some ⟨_, _, [[_, _]]⟩] rfl ⟨rfl, rfl, rfl, rfl, rfl, rfl, rfl, rfl, trivial⟩ rfl rfl ?_
    refine W.condP rfl (fun hc22 => ?_) (fun hc22 => ?_)
    · have hcon : gA L (gA given i).1 ≠ -1 ∧ gA L (gA given i).1 ≠ (gA given i).2 := by simpa using hc22
      refine sr ?_
      refine mv rfl rfl ?_
      refine WL.v (Val.assign Ev.const) rfl ?_
      refine asg rfl rfl ?_
      refine WL.v (Val.assign Ev.const) rfl ?_
      refine WL.norm 113 [(8, _), (9, _), (10, _)] [some ⟨_, _, [[_]]⟩, some ⟨_, _, [[_]]⟩, some ⟨_, _, _⟩, some ⟨_, _, [[_, _, _, _, _]]⟩, some ⟨_, _, [[_, _]]⟩] rfl ⟨rfl, rfl, rfl, trivial⟩ rfl rfl ?_
      refine wn ?_
      refine W.ret (rt1 (rt2 (rt1 (rt1 (rt2 (rt1 ?_))))))
      exact Ret.of (.inr rfl) rfl (res3 rfl rfl rfl rfl) (Fewer.nil _) (.inr trivial) (fun id h => absurd h (Nat.not_lt_zero _)) (.tup .nil (.tup (.same rfl) (.tup (.same rfl) .tup0))) ⟨rfl, by rw [embedF, if_pos hall1, if_pos hall2, hpe, drop_step hi0 hc20, placeF, if_pos hcon]; rfl⟩
    have hcon : ¬ (gA L (gA given i).1 ≠ -1 ∧ gA L (gA given i).1 ≠ (gA given i).2) := by rintro ⟨h1, h2⟩; rw [decide_eq_true h1, decide_eq_true h2] at hc22; cases hc22
    refine W.skip (nm ?_)
    refine W.region ?_
    refine WL.v (Val.fal (off := 2) Tryd.underlying76 rfl rfl zs22 (tm rfl)) rfl ?_
    refine WL.v (Val.loadLive Tryd.underlying22 rfl (tm rfl) rfl rfl rfl rfl rfl) rfl ?_
    refine WL.v (Val.ixArr (off := 0) Tryd.underlying47 zs3 (tm rfl) Ev.const (by decide) (by decide) rfl) rfl ?_
    refine WL.v (Val.loadLive Tryd.underlying3 rfl (tm rfl) rfl rfl rfl rfl rfl) rfl ?_
    refine WL.v (Val.ixArr (off := 1) Tryd.underlying47 zs3 (tm rfl) Ev.const (by decide) (by decide) rfl) rfl ?_
    refine WL.v (Val.loadLive Tryd.underlying3 rfl (tm rfl) rfl rfl rfl rfl rfl) rfl ?_
    refine WL.v (Val.indexAddrLive Tryd.underlying22 zs3 (tm rfl) (tm rfl) (by omega) (by omega)) rfl ?_
    refine WL.stp rfl (Stp.storeI zs3 (tm rfl) (tm rfl) rfl (by omega) (by omega) rfl) ?_
    refine WL.cut (env := [(3, _), (4, _), (15, _), (63, _), (64, _), (65, _)]) (h' := [some ⟨_, _, [[_]]⟩, some ⟨_, _, [[_]]⟩, some ⟨_, _, _⟩, some ⟨_, _, [[_, _, _, _, _]]⟩]) (Fewer.pre _ rfl) (.inr (HLo.box (lo1 lo0) (HLo.box (lo1 lo0) (HLo.fz (HLo.box (lo1 (lo1 (lo4 rfl (lo1 (lo1 lo0))))) HLo.nil))))) (fun id h => absurd h (Nat.not_lt_zero _)) ⟨⟨_, rfl, (.same rfl)⟩, ⟨_, rfl, (.same rfl)⟩, ⟨_, rfl, (.same rfl)⟩, ⟨_, rfl, (.same rfl)⟩, ⟨_, rfl, (.same rfl)⟩, ⟨_, rfl, (.same rfl)⟩, trivial⟩ ?_
    refine WL.nil (nb (nm ?_))
    refine W.region ?_
    refine WL.v (Val.add (tm rfl) Ev.const (IntWalk.i64_in _ (by omega))) rfl ?_
    refine mv rfl rfl ?_
    refine WL.norm 113 [(3, _), (4, _), (15, _), (63, _), (64, _), (65, _)] [some ⟨_, _, [[_]]⟩, some ⟨_, _, [[_]]⟩, some ⟨_, _, _⟩, some ⟨_, _, [[_, _, _, _, _]]⟩] rfl ⟨rfl, rfl, rfl, rfl, rfl, rfl, trivial⟩ rfl rfl ?_
    refine wn ?_
    exact ⟨_, by omega, i + 1, _, rfl, rfl, by omega, by omega, by rw [hpe, drop_step hi0 hc20, placeF, if_neg hcon], hL.set (.inr hg2)⟩
  try simp only [td] at hc20
  refine W.exit (ex1 (ex1 (ex2 (nm ?_))))
  refine W.seq ?_
  have hpe2 : placeF given (List.replicate p.length (-1)) = some L := by rw [hpe, List.drop_of_length_le (by omega), placeF]
  have hx := fromF_ok hp hg p.length L F false (Nat.le_refl _) hL hF0
  have hxl := hx.1.1
  refine W.region ?_
  refine WL.v (Val.fal (off := 0) Tryd.underlying39 rfl rfl zs23 (tm rfl)) rfl ?_
  refine WL.v (Val.loadLive Tryd.underlying23 rfl (tm rfl) rfl rfl rfl rfl rfl) rfl ?_
  refine WL.v (Val.ln (enc := Nd.cells) Tryd.underlying23 (tm rfl)) rfl ?_
  refine WL.v (Val.sub (tm rfl) Ev.const (IntWalk.i64_in _ (by omega))) rfl ?_
  refine WL.fromE hp hg hL hF0 hF1 (tm rfl) (tm rfl) rfl rfl rfl ?_
  refine asg rfl rfl ?_
  refine WL.norm 113 [(15, _), (19, _)] [some ⟨_, _, [[_]]⟩, some ⟨_, _, [[_]]⟩, some ⟨_, _, _⟩, some ⟨_, _, [[_, _, _, _, _]]⟩] rfl ⟨rfl, rfl, trivial⟩ rfl rfl ?_
  refine wn ?_
  refine W.seq ?_
  refine W.block ?_
  refine sr ?_
  refine WL.v (Val.fal (off := 4) Tryd.underlying76 rfl rfl zs4 (tm rfl)) rfl ?_
  refine WL.v (Val.loadLive Tryd.underlying4 rfl (tm rfl) rfl rfl rfl rfl rfl) rfl ?_
  refine asg rfl rfl ?_
  refine WL.norm 113 [(15, _), (19, _), (101, _)] [some ⟨_, _, [[_]]⟩, some ⟨_, _, [[_]]⟩, some ⟨_, _, _⟩, some ⟨_, _, [[_, _, _, _, _]]⟩] rfl ⟨rfl, rfl, rfl, trivial⟩ rfl rfl ?_
  refine wn ?_
  refine W.condP rfl (fun hc27 => ?_) (fun hc27 => ?_)
  · try simp only [td] at hc27
    refine sr ?_
    refine WL.v (Val.assign Ev.const) rfl ?_
    refine WL.v (Val.assign Ev.const) rfl ?_
    refine WL.v (Val.assign Ev.const) rfl ?_
    refine WL.norm 113 [(8, _), (9, _), (10, _)] [some ⟨_, _, [[_]]⟩, some ⟨_, _, [[_]]⟩, some ⟨_, _, _⟩, some ⟨_, _, [[_, _, _, _, _]]⟩] rfl ⟨rfl, rfl, rfl, trivial⟩ rfl rfl ?_
    refine wn ?_
    refine W.ret (rt2 (rt1 ?_))
    exact Ret.of (.inr rfl) rfl (res3 rfl rfl rfl rfl) (Fewer.nil _) (.inr trivial) (fun id h => absurd h (Nat.not_lt_zero _)) (.tup .nil (.tup (.same rfl) (.tup (.same rfl) .tup0))) ⟨rfl, by rw [embedF, if_pos hall1, if_pos hall2, hpe2]; simp only [endF]; rw [if_pos hc27]; rfl⟩
  try simp only [td] at hc27
  refine sr ?_
  refine mv rfl rfl ?_
  refine WL.v (Val.not (tm rfl)) rfl ?_
  refine asg rfl rfl ?_
  refine WL.norm 113 [(15, _), (104, _)] [some ⟨_, _, [[_]]⟩, some ⟨_, _, [[_]]⟩, some ⟨_, _, _⟩, some ⟨_, _, [[_, _, _, _, _]]⟩] rfl ⟨rfl, rfl, trivial⟩ rfl rfl ?_
  refine wn ?_
  refine W.condP rfl (fun hc29 => ?_) (fun hc29 => ?_)
  · try simp only [td] at hc29
    refine W.seq ?_
    refine W.drawE (fun k => ([([], []), ([3], []), ([], []), ([], []), ([], [])] : List (List Nat × List Nat)).getD k ([], [])) rfl (by kernel_rfl) (bl rfl) ?_
    refine LexE.val rfl rfl rfl (fun h' ha => Val.fal (off := 3) Tryd.underlying76 rfl rfl zs3 (tm rfl)) ?_
    refine LexE.val rfl rfl rfl (fun h' ha => Val.loadLive Tryd.underlying3 rfl (tm rfl) ((ha.at_ 3 (by decide)).trans rfl) rfl rfl rfl rfl) ?_
    refine LexE.val rfl rfl rfl (fun h' ha => Val.assign Ev.const) ?_
    refine LexE.val rfl rfl rfl (fun h' ha => Val.assign (tm rfl)) ?_
    refine LexE.val rfl rfl rfl (fun h' ha => Val.assign Ev.const) ?_
    refine LexE.nil (nm ?_)
    refine W.norm 113 [(8, _), (9, _), (10, _)] [some ⟨_, _, [[_]]⟩, some ⟨_, _, [[_]]⟩, some ⟨_, _, _⟩, some ⟨_, _, [[_, _, _, _, _]]⟩] rfl ⟨rfl, rfl, rfl, trivial⟩ rfl rfl ?_
    refine W.ret (rt2 (rt1 ?_))
    exact Ret.of (.inr rfl) rfl (res3 rfl rfl rfl rfl) (Fewer.nil _) (.inr trivial) (fun id h => absurd h (Nat.not_lt_zero _)) (.tup .nil (.tup (.same rfl) (.tup (.same rfl) .tup0))) ⟨rfl, by rw [embedF, if_pos hall1, if_pos hall2, hpe2]; simp only [endF]; rw [if_neg (by rw [hc27]; simp), if_neg (by rw [hc29]; simp)]; rfl⟩
  try simp only [td] at hc29
  refine W.skip (nb (nm ?_))
  refine W.seq ?_
  refine W.drawE (fun k => ([([], []), ([3], []), ([], []), ([3], []), ([], []), ([], []), ([], [])] : List (List Nat × List Nat)).getD k ([], [])) rfl (by kernel_rfl) (bl rfl) ?_
  refine LexE.val rfl rfl rfl (fun h' ha => Val.fal (off := 2) Tryd.underlying76 rfl rfl zs22 (tm rfl)) ?_
  refine LexE.val rfl rfl rfl (fun h' ha => Val.loadLive Tryd.underlying22 rfl (tm rfl) ((ha.at_ 3 (by decide)).trans rfl) rfl rfl rfl rfl) ?_
  refine LexE.val rfl rfl rfl (fun h' ha => Val.fal (off := 3) Tryd.underlying76 rfl rfl zs3 (tm rfl)) ?_
  refine LexE.val rfl rfl rfl (fun h' ha => Val.loadLive Tryd.underlying3 rfl (tm rfl) ((ha.at_ 3 (by decide)).trans rfl) rfl rfl rfl rfl) ?_
  refine LexE.val rfl rfl rfl (fun h' ha => Val.assign (tm rfl)) ?_
  refine LexE.val rfl rfl rfl (fun h' ha => Val.assign (tm rfl)) ?_
  refine LexE.val rfl rfl rfl (fun h' ha => Val.assign Ev.const) ?_
  refine LexE.nil (nm ?_)
  refine W.norm 113 [(8, _), (9, _), (10, _)] [some ⟨_, _, [[_]]⟩, some ⟨_, _, [[_]]⟩, some ⟨_, _, _⟩, some ⟨_, _, [[_, _, _, _, _]]⟩] rfl ⟨rfl, rfl, rfl, trivial⟩ rfl rfl ?_
  refine W.ret ?_
  exact Ret.of (.inr rfl) rfl (res3 rfl rfl rfl rfl) (Fewer.nil _) (.inr trivial) (fun id h => absurd h (Nat.not_lt_zero _)) (.tup (.whole rfl rfl (by first | (simp; done) | (simp only [List.length_map]; omega)) (encL (by intro x; rfl))) (.tup (.same rfl) (.tup (.same rfl) .tup0))) ⟨rfl, by rw [embedF, if_pos hall1, if_pos hall2, hpe2]; simp only [endF]; rw [if_neg (by rw [hc27]; simp), if_pos hc29]⟩
end Go.Aw
namespace Go.Aw
open Go.RowKit Go.Proofs

abbrev bX : ByteArray := ⟨#[120]⟩
abbrev bY : ByteArray := ⟨#[121]⟩
abbrev bV0 : ByteArray := ⟨#[118, 48]⟩
abbrev bV1 : ByteArray := ⟨#[118, 49]⟩
abbrev pVV : List Nd := [⟨0, [], 0, 0, 0, bV0, ⟨0, 8, 0⟩⟩, ⟨9, [0, 0], 0, 0, 0, ByteArray.empty, ⟨0, 8, 0⟩⟩]
theorem sumG_wf (s1 s2 : ByteArray) {a b : Int} (ha : 0 ≤ a ∧ a < 2) (hb : 0 ≤ b ∧ b < 2) : WFG (sumG s1 s2 a b) := by
  refine ⟨Nat.le_of_ble_eq_true rfl, fun i n hn => ?_, fun n hn h0 => by simp only [sumG, List.mem_cons, List.not_mem_nil, or_false] at hn; rcases hn with rfl | rfl | rfl <;> first | rfl | exact absurd (show (9 : Int) = 0 from h0) (by decide)⟩
  have hi : i < 3 := (List.getElem?_eq_some_iff.1 hn).1
  have : i = 0 ∨ i = 1 ∨ i = 2 := by omega
  rcases this with rfl | rfl | rfl
  · cases hn; exact ⟨by simp, fun k hk => by simp at hk⟩
  · cases hn; exact ⟨by simp, fun k hk => by simp at hk⟩
  · cases hn
    refine ⟨by simp, fun k hk => ?_⟩
    simp at hk
    rcases hk with rfl | rfl <;> omega
theorem pVV_wf : WFG pVV := by
  refine ⟨by decide, fun i n hn => ?_, fun n hn h0 => by simp only [List.mem_cons, List.not_mem_nil, or_false] at hn; rcases hn with rfl | rfl <;> first | rfl | exact absurd (show (9 : Int) = 0 from h0) (by decide)⟩
  have hi : i < 2 := (List.getElem?_eq_some_iff.1 hn).1
  have : i = 0 ∨ i = 1 := by omega
  rcases this with rfl | rfl
  · cases hn; exact ⟨by simp, fun k hk => by simp at hk⟩
  · cases hn
    refine ⟨by simp, fun k hk => ?_⟩
    simp at hk
    subst hk; omega
theorem lives_canon (W0 : World) (N : Nat) : AC (En W0 N) 16 [.agg [.f (.nodes (sumG bY bX 1 0))], .f (.ints [2])] [] (fun r h => h = [] ∧ r = .tup [.agg [.f (.nodes (sumG bV0 bV1 0 1))], .f (.ints [1, 0, 2]), .i 0]) := by
  have h := c_CanonM W0 N (sumG bY bX 1 0) (sumG_wf _ _ (by omega) (by omega)) (by decide) [2] (by decide)
  rw [show canonR (sumG bY bX 1 0) [2] = (sumG bV0 bV1 0 1, [1, 0, 2], 0) from by kernel_rfl] at h
  exact h
theorem lives_e1 (W0 : World) (N : Nat) : AC (En W0 N) 17 [.agg [.f (.nodes pVV)], .agg [.f (.nodes (sumG bY bX 1 0))], .f (.prs []), .i 100] [] (fun r h => h = [] ∧ r = .tup [.f (.ints []), .i 97, .i 18]) := by
  have h := c_Embed W0 N pVV (sumG bY bX 1 0) pVV_wf (sumG_wf _ _ (by omega) (by omega)) [] (by decide) 100 (by decide) (by decide)
  rw [show embedF pVV (sumG bY bX 1 0) [] 100 = ([], 97, 18) from by kernel_rfl] at h
  exact h
theorem lives_e2 (W0 : World) (N : Nat) : AC (En W0 N) 17 [.agg [.f (.nodes (sumG bV0 bV1 0 1))], .agg [.f (.nodes (sumG bY bX 1 0))], .f (.prs []), .i 100] [] (fun r h => h = [] ∧ r = .tup [.f (.ints [1, 0, 2]), .i 97, .i 0]) := by
  have h := c_Embed W0 N (sumG bV0 bV1 0 1) (sumG bY bX 1 0) (sumG_wf _ _ (by omega) (by omega)) (sumG_wf _ _ (by omega) (by omega)) [] (by decide) 100 (by decide) (by decide)
  rw [show embedF (sumG bV0 bV1 0 1) (sumG bY bX 1 0) [] 100 = ([1, 0, 2], 97, 0) from by kernel_rfl] at h
  exact h

-- enthymemelaw13.lives
set_option maxHeartbeats 1000000 in
theorem c_lives (W0 : World) (N : Nat)  : AC (En W0 N) 15 [] [] (fun r h => h = [] ∧ r = .b true) := by
  refine AC.enter Tryd.func15 rfl Tryd.ntmps15 (bl rfl) fun X => ?_
  refine sr ?_
  refine WL.v (Val.assign Ev.const) rfl ?_
  refine WL.norm 72 [] [] rfl trivial rfl rfl ?_
  refine wn ?_
  refine sr ?_
  refine WL.callV ca33 (evc Ev.const (evc Ev.const (evc Ev.const (evc Ev.const evn)))) (lo1 (lo1 (lo1 (lo1 lo0)))) rfl (c_sum W0 N _ _ _ _) ?_
  rintro _ rfl
  refine WL.stp rfl (Stp.alloc zz39 rfl rfl) ?_
  refine WL.stp rfl (Stp.st (tm rfl) (tm rfl) zs39 rfl rfl rfl rfl rfl rfl rfl rfl) ?_
  refine WL.norm 72 [(1, _)] [some ⟨_, _, [[_]]⟩] rfl ⟨rfl, trivial⟩ rfl rfl ?_
  refine wn ?_
  refine sr ?_
  refine WL.v (Val.loadLiveAgg Tryd.underlying39 rfl zs39 (tm rfl) rfl rfl rfl rfl (bl rfl)) rfl ?_
  refine WL.stp rfl (Stp.buildFrozen (xs := [_]) (fs := ([2] : List Int).map encI) Tryd.underlying22 zs3 zz3 rfl rfl (evc Ev.const evn) fitL (bl rfl) rfl rfl) ?_
  refine WL.callV ca16 (evc (tm rfl) (evc (tm rfl) evn)) (lo2 rfl (lo1 lo0)) rfl (lives_canon W0 N) ?_
  rintro _ rfl
  refine mv rfl rfl ?_
  refine WL.v (Val.extract (tm rfl) rfl) rfl ?_
  refine WL.v (Val.extract (tm rfl) rfl) rfl ?_
  refine WL.v (Val.extract (tm rfl) rfl) rfl ?_
  refine WL.stp rfl (Stp.alloc zz39 rfl rfl) ?_
  refine WL.stp rfl (Stp.st (tm rfl) (tm rfl) zs39 rfl rfl rfl rfl rfl rfl rfl rfl) ?_
  refine asg rfl rfl ?_
  refine asg rfl rfl ?_
  refine WL.norm 72 [(1, _), (2, _), (3, _), (4, _)] [some ⟨_, _, [[_]]⟩, some ⟨_, _, [[_]]⟩] rfl ⟨rfl, rfl, rfl, rfl, trivial⟩ rfl rfl ?_
  refine wn ?_
  refine sr ?_
  refine WL.v (Val.build (vs := [(1, _)]) Tryd.underlying33 zz33 rfl rfl pl33 rfl ⟨Ev.const, rfl, rfl, rfl, trivial⟩) rfl ?_
  refine WL.v (Val.le (Val.build (vs := [(0, _), (5, _), (6, _)]) Tryd.underlying35 zz35 rfl rfl pl35 rfl ⟨Ev.const, rfl, rfl, rfl, ⟨Ev.const, rfl, rfl, rfl, ⟨(tm rfl), rfl, rfl, rfl, trivial⟩⟩⟩) (Le.agg (ys := [_, .f (.lst 1 []), _, _, _, _, _, _, _]) (LeL.cons (Le.refl _) (LeL.cons Le.nil (LeL.cons (Le.refl _) (LeL.cons (Le.refl _) (LeL.cons (Le.refl _) (LeL.cons (Le.refl _) (LeL.cons (Le.refl _) (LeL.cons (Le.refl _) (LeL.cons (Le.refl _) LeL.nil))))))))))) rfl ?_
  refine WL.stp rfl (Stp.buildFrozen (xs := [_, _]) (fs := ([0, 0] : List Int).map encI) Tryd.underlying22 zs3 zz3 rfl rfl (evc Ev.const (evc Ev.const evn)) fitL (bl rfl) rfl rfl) ?_
  refine WL.v (Val.build (vs := [(1, _)]) Tryd.underlying33 zz33 rfl rfl pl33 rfl ⟨Ev.const, rfl, rfl, rfl, trivial⟩) rfl ?_
  refine WL.v (Val.build (vs := [(0, _), (1, _), (6, _)]) Tryd.underlying35 zz35 rfl rfl pl35 rfl ⟨Ev.const, rfl, rfl, rfl, ⟨(tm rfl), rfl, rfl, rfl, ⟨(tm rfl), rfl, rfl, rfl, trivial⟩⟩⟩) rfl ?_
  refine WL.stp rfl (Stp.buildFrozen (xs := [_, _]) (fs := pVV.map Nd.cells) Tryd.underlying23 zs35 zz35 rfl rfl (evc (tm rfl) (evc (tm rfl) evn)) fitL (bl rfl) rfl rfl) ?_
  refine WL.v (Val.build (vs := [(0, _)]) Tryd.underlying39 zz39 rfl rfl pl39 rfl ⟨(tm rfl), rfl, rfl, rfl, trivial⟩) rfl ?_
  refine WL.stp rfl (Stp.alloc zz39 rfl rfl) ?_
  refine WL.stp rfl (Stp.st (tm rfl) (tm rfl) zs39 rfl rfl rfl rfl rfl rfl rfl rfl) ?_
  refine WL.norm 72 [(1, _), (2, _), (3, _), (4, _), (5, _)] [some ⟨_, _, [[_]]⟩, some ⟨_, _, [[_]]⟩, some ⟨_, _, [[_]]⟩] rfl ⟨rfl, rfl, rfl, rfl, rfl, trivial⟩ rfl rfl ?_
  refine wn ?_
  refine sr ?_
  refine WL.v (Val.loadLiveAgg Tryd.underlying39 rfl zs39 (tm rfl) rfl rfl rfl rfl (bl rfl)) rfl ?_
  refine WL.v (Val.loadLiveAgg Tryd.underlying39 rfl zs39 (tm rfl) rfl rfl rfl rfl (bl rfl)) rfl ?_
  refine WL.callV ca17 (evc (tm rfl) (evc (tm rfl) (evc (Ev.nilL Ev.const) (evc Ev.const evn)))) (lo2 rfl (lo2 rfl (lo1 (lo1 lo0)))) rfl (lives_e1 W0 N) ?_
  rintro _ rfl
  refine mv rfl rfl ?_
  refine WL.v (Val.extract (tm rfl) rfl) rfl ?_
  refine WL.v (Val.extract (tm rfl) rfl) rfl ?_
  refine WL.v (Val.extract (tm rfl) rfl) rfl ?_
  refine asg rfl rfl ?_
  refine asg rfl rfl ?_
  refine asg rfl rfl ?_
  refine WL.norm 72 [(1, _), (2, _), (3, _), (4, _), (8, _)] [some ⟨_, _, [[_]]⟩, some ⟨_, _, [[_]]⟩, some ⟨_, _, [[_]]⟩] rfl ⟨rfl, rfl, rfl, rfl, rfl, trivial⟩ rfl rfl ?_
  refine wn ?_
  refine W.seq ?_
  refine W.drawE (fun k => ([([], []), ([0], []), ([], []), ([], []), ([], []), ([], []), ([], []), ([], []), ([], []), ([], [])] : List (List Nat × List Nat)).getD k ([], [])) rfl (by kernel_rfl) (bl rfl) ?_
  refine LexE.call ca33 (fun h' ha => (evc Ev.const (evc Ev.const (evc Ev.const (evc Ev.const evn))))) (lo1 (lo1 (lo1 (lo1 lo0)))) rfl (c_sum W0 N _ _ _ _) rfl ?_
  refine LexE.val rfl rfl rfl (fun h' ha => Val.loadLiveAgg Tryd.underlying39 rfl zs39 (tm rfl) ((ha.at_ 0 (by decide)).trans rfl) rfl rfl rfl (bl rfl)) ?_
  refine LexE.call ca17 (fun h' ha => (evc (tm rfl) (evc (tm rfl) (evc (Ev.nilL Ev.const) (evc Ev.const evn))))) (lo2 rfl (lo2 rfl (lo1 (lo1 lo0)))) rfl (lives_e2 W0 N) rfl ?_
  refine LexE.val rfl rfl rfl (fun h' ha => Val.move (tm rfl)) ?_
  refine LexE.val rfl rfl rfl (fun h' ha => Val.extract (tm rfl) rfl) ?_
  refine LexE.val rfl rfl rfl (fun h' ha => Val.extract (tm rfl) rfl) ?_
  refine LexE.val rfl rfl rfl (fun h' ha => Val.extract (tm rfl) rfl) ?_
  refine LexE.val rfl rfl rfl (fun h' ha => Val.assign (tm rfl)) ?_
  refine LexE.val rfl rfl rfl (fun h' ha => Val.assign (tm rfl)) ?_
  refine LexE.val rfl rfl rfl (fun h' ha => Val.assign (tm rfl)) ?_
  refine LexE.nil (nm ?_)
  refine W.norm 72 [(2, _), (3, _), (4, _), (8, _), (9, _), (10, _), (11, _)] [some ⟨_, _, [[_]]⟩, some ⟨_, _, [[_]]⟩, some ⟨_, _, [[_]]⟩] rfl ⟨rfl, rfl, rfl, rfl, rfl, rfl, rfl, trivial⟩ rfl rfl ?_
  refine W.seq ?_
  refine W.drawE (fun k => ([([], []), ([], []), ([], []), ([], []), ([], []), ([], []), ([], []), ([], []), ([], []), ([], []), ([], []), ([], []), ([], []), ([], []), ([], []), ([], []), ([], []), ([], []), ([], []), ([], []), ([], []), ([], []), ([], []), ([], []), ([], []), ([], []), ([1], []), ([], []), ([], []), ([], []), ([], []), ([], [])] : List (List Nat × List Nat)).getD k ([], [])) rfl (by kernel_rfl) (bl rfl) ?_
  refine LexE.val rfl rfl rfl (fun h' ha => Val.move (tm rfl)) ?_
  refine LexE.val rfl rfl rfl (fun h' ha => Val.eql (tm rfl) Ev.const) ?_
  refine LexE.val rfl rfl rfl (fun h' ha => Val.move (tm rfl)) ?_
  refine LexE.gval rfl (fun h' => (Grd.t rfl rfl rfl)) rfl (fun hG h' ha => Val.move (tm rfl)) ?_
  refine LexE.gval rfl (fun h' => (Grd.t rfl rfl rfl)) rfl (fun hG h' ha => Val.eql (Ev.opt rfl hG) Ev.const) ?_
  refine LexE.val rfl rfl rfl (fun h' ha => Val.and (tm rfl) (fun hb => Ev.opt rfl hb)) ?_
  refine LexE.val rfl rfl rfl (fun h' ha => Val.move (tm rfl)) ?_
  refine LexE.gval rfl (fun h' => (Grd.t rfl rfl rfl)) rfl (fun hG h' ha => Val.move (tm rfl)) ?_
  refine LexE.gval rfl (fun h' => (Grd.t rfl rfl rfl)) rfl (fun hG h' ha => Val.eql (Ev.opt rfl hG) Ev.const) ?_
  refine LexE.val rfl rfl rfl (fun h' ha => Val.and (tm rfl) (fun hb => Ev.opt rfl hb)) ?_
  refine LexE.val rfl rfl rfl (fun h' ha => Val.move (tm rfl)) ?_
  refine LexE.gval rfl (fun h' => (Grd.t rfl rfl rfl)) rfl (fun hG h' ha => Val.move (tm rfl)) ?_
  refine LexE.gval rfl (fun h' => (Grd.t rfl rfl rfl)) rfl (fun hG h' ha => Val.eql (Ev.opt rfl hG) Ev.const) ?_
  refine LexE.val rfl rfl rfl (fun h' ha => Val.and (tm rfl) (fun hb => Ev.opt rfl hb)) ?_
  refine LexE.val rfl rfl rfl (fun h' ha => Val.move (tm rfl)) ?_
  refine LexE.gval rfl (fun h' => (Grd.t rfl rfl rfl)) rfl (fun hG h' ha => Val.move (tm rfl)) ?_
  refine LexE.gstp (U := []) rfl (fun h' => (Grd.t rfl rfl rfl)) (rfl) rfl rfl (fun h => by first | rfl | cases h) (fun h' ha m' => Stp.buildFrozen (xs := [_, _, _]) (fs := ([1, 0, 2] : List Int).map encI) Tryd.underlying22 zs3 zz3 rfl rfl (evc Ev.const (evc Ev.const (evc Ev.const evn))) fitL (bl rfl) rfl rfl) ?_
  refine LexE.gcall (fun h' => (Grd.t rfl rfl rfl)) ca18 (fun hG h' ha => (evc (Ev.opt rfl hG) (evc (tm rfl) evn))) (lo1 (lo1 lo0)) rfl (fun hG => c_SameInts W0 N _ _ (by decide)) rfl ?_
  refine LexE.val rfl rfl rfl (fun h' ha => Val.and (tm rfl) (fun hb => Ev.opt rfl hb)) ?_
  refine LexE.val rfl rfl rfl (fun h' ha => Val.move (tm rfl)) ?_
  refine LexE.gval rfl (fun h' => (Grd.t rfl rfl rfl)) rfl (fun hG h' ha => Val.move (tm rfl)) ?_
  refine LexE.gstp (U := []) rfl (fun h' => (Grd.t rfl rfl rfl)) (rfl) rfl rfl (fun h => by first | rfl | cases h) (fun h' ha m' => Stp.buildFrozen (xs := [_, _, _]) (fs := ([1, 0, 2] : List Int).map encI) Tryd.underlying22 zs3 zz3 rfl rfl (evc Ev.const (evc Ev.const (evc Ev.const evn))) fitL (bl rfl) rfl rfl) ?_
  refine LexE.gcall (fun h' => (Grd.t rfl rfl rfl)) ca18 (fun hG h' ha => (evc (Ev.opt rfl hG) (evc (tm rfl) evn))) (lo1 (lo1 lo0)) rfl (fun hG => c_SameInts W0 N _ _ (by decide)) rfl ?_
  refine LexE.val rfl rfl rfl (fun h' ha => Val.and (tm rfl) (fun hb => Ev.opt rfl hb)) ?_
  refine LexE.val rfl rfl rfl (fun h' ha => Val.move (tm rfl)) ?_
  refine LexE.gval rfl (fun h' => (Grd.t rfl rfl rfl)) rfl (fun hG h' ha => Val.fal (off := 0) Tryd.underlying39 rfl rfl zs23 (tm rfl)) ?_
  refine LexE.gval rfl (fun h' => (Grd.t rfl rfl rfl)) rfl (fun hG h' ha => Val.loadLive Tryd.underlying23 rfl (Ev.opt rfl hG) ((ha.at_ 1 (by decide)).trans rfl) rfl rfl rfl rfl) ?_
  refine LexE.gcall (fun h' => (Grd.t rfl rfl rfl)) ca33 (fun hG h' ha => (evc Ev.const (evc Ev.const (evc Ev.const (evc Ev.const evn))))) (lo1 (lo1 (lo1 (lo1 lo0)))) rfl (fun hG => c_sum W0 N _ _ _ _) rfl ?_
  refine LexE.gval rfl (fun h' => (Grd.t rfl rfl rfl)) rfl (fun hG h' ha => Val.field (off := 0) Tryd.underlying39 rfl rfl Tryd.underlying23 rfl (Ev.opt rfl hG) rfl) ?_
  refine LexE.gcall (fun h' => (Grd.t rfl rfl rfl)) ca22 (fun hG h' ha => (evc (Ev.opt rfl hG) (evc (Ev.opt rfl hG) evn))) (lo1 (lo1 lo0)) rfl (fun hG => c_SameGraph W0 N _ _ (by decide)) rfl ?_
  refine LexE.val rfl rfl rfl (fun h' ha => Val.and (tm rfl) (fun hb => Ev.opt rfl hb)) ?_
  refine LexE.val rfl rfl rfl (fun h' ha => Val.assign (tm rfl)) ?_
  refine LexE.nil (nm ?_)
  refine W.norm 72 [(0, _)] [some ⟨_, _, [[_]]⟩, some ⟨_, _, [[_]]⟩, some ⟨_, _, [[_]]⟩] rfl ⟨rfl, trivial⟩ rfl rfl ?_
  refine W.ret ?_
  exact Ret.of (.inr rfl) rfl (res1 rfl rfl) (Fewer.nil _) (.inr trivial) (fun id h => absurd h (Nat.not_lt_zero _)) (.same rfl) ⟨rfl, rfl⟩
end Go.Aw
