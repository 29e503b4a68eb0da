/- A small logic over the walk's rules: regions whose order is drawn, with one call whose result is not known. A small logic over the walk's rules: rows of things that are told by their cells, in the words of a printed walk. The data of the laws, as Lean data, and how they lie in cells. A small logic over the walk's rules: structs that are compared, places of fields. Facts on the types and functions of one translation, printed by a program of this session. Short words for what the walks say again and again. The walks of the small functions. The walks of the functions on graphs. -/
import Derived.Test.YtdjiaddhgooppaaDoorProg
import Derived.KernelRfl
import Derived.Test.YtdjiaddhgooppaaDoorAwa
set_option linter.unusedVariables false
set_option linter.unusedSimpArgs false
namespace Go.Aw
open Go.RowKit
section
variable {K : Ctx} {m : Nat} {ops : Array Oper} {Q : Exit → Act → World → Prop}
/-- An operation that yields one of some values, and leaves the rows. -/
def QD (K : Ctx) (ops : Array Oper) (o : Oper) (R : List Nat) (D : AV → Prop) (F : FS) : Prop :=
  dstOk o.dst F.n = true ∧
  ∀ h', Agree R F.heap h' → ∀ L a w (Kc : Act → World → Prop) (Qc : Exit → Act → World → Prop), SimF K L (F.view (o.looksAt ops) h') a w →
    (∀ x v w' L', D x → x.rep w' (Bar K h' L') L' v → HSim K L' h' w' → Below K.N K.W0 w' → K.N ≤ w'.heap.size → Ext K h'.length h' L w h' L' w' → Kc (a.put o.dst v) w') →
    wp1 K.P ops o Kc Qc a w
theorem QD.back {oi oj : Oper} {φi : OpF} {R : List Nat} {D : AV → Prop} {F : FS} (hd : ∀ d, oi.dst = some d → d ∉ oj.looksAt ops) (hf : ∀ k, k ∈ φi.U.map (·.1) → k ∉ R) (h : QD K ops oj R D (F.app oi φi)) : QD K ops oj R D F :=
  ⟨h.1, fun h' ha L a w Kc Qc hs hk => h.2 h' (ha.app' hf) L a w Kc Qc (by rw [FS.view_app hd]; exact hs) hk⟩
theorem QD.run {o : Oper} {R : List Nat} {D : AV → Prop} {F : FS} (hq : QD K ops o R D F) {L : Link} {a : Act} {w : World} {Kc : Act → World → Prop} {Qc : Exit → Act → World → Prop} (hs : SimF K L F a w)
    (hk : ∀ x a' w' L', D x → SimF K L' (F.app o ⟨x, R, []⟩) a' w' → Ext K F.heap.length F.heap L w F.heap L' w' → Kc a' w') : wp1 K.P ops o Kc Qc a w := by
  obtain ⟨hd, hq⟩ := hq
  refine hq F.heap ⟨rfl, fun _ _ => rfl⟩ L a w Kc Qc ⟨hs.hs, hs.base, hs.big, fun t x hx => ?_, hs.size, hs.defers⟩ ?_
  · simp only [FS.view] at hx
    split at hx
    · exact hs.slots t x hx
    · simp at hx
  · intro x0 v w' L' hD hrep hh hb hbig hext
    have hll : ∀ id g x, L id g = some x → L' id g = some x := by
      intro id g x hx
      refine hext.link id g x ?_ hx
      by_cases hlt : id < F.heap.length
      · exact hlt
      · rw [hs.hs.past id g (by rw [List.getElem?_eq_none (by omega)]; rfl)] at hx; simp at hx
    refine hk x0 _ w' L' hD ⟨hh, hb, hbig, fun t x hx => ?_, ?_, ?_⟩ hext
    · simp only [FS.app] at hx
      split at hx
      · rename_i ht
        cases hx
        rw [ht]
        have hlt := dst_ok hd t ht
        rw [put_getD _ _ _ _ (by rw [hs.size]; exact hlt), if_pos rfl]
        exact hrep
      · rename_i ht
        have : (a.put o.dst v).tmps.getD t undef = a.tmps.getD t undef := by
          cases hdst : o.dst with
          | none => rfl
          | some d =>
            rw [put_getD _ _ _ _ (by rw [hs.size]; exact dst_ok hd d hdst), if_neg (fun he => ht (by rw [hdst, he]))]
        rw [this]
        refine AV.rep_stays hext.stays.bar ?_ hll (hs.slots t x hx)
        rintro b hb (hx | ho)
        · exact .inl hx
        · exact .inr (hext.own b hb ho)
    · cases o.dst <;> simp [Act.put, hs.size, FS.app]
    · cases o.dst <;> simp [Act.put, hs.defers, FS.app]

/-- Whatever order is picked, as long as operation k is not done. -/
def AnyN (K : Ctx) (ops : Array Oper) (φ : Nat → OpF) (k : Nat) (R : List Nat) (D : AV → Prop) (φx : AV → Nat → OpF) (Q : FS → Prop) : Nat → Array Bool → FS → Prop
  | 0, _, _ => False
  | fuel + 1, listed, F => Region.ready .any ops listed ≠ [] ∧
    ∀ i o, i ∈ Region.ready .any ops listed → ops[i]? = some o →
      (i ≠ k → QS K ops o (φ i) F ∧ AnyN K ops φ k R D φx Q fuel (listed.setIfInBounds i true) (F.app o (φ i))) ∧
      (i = k → QD K ops o R D F ∧ ∀ x, D x → AnyF K ops (φx x) Q fuel (listed.setIfInBounds i true) (F.app o ⟨x, R, []⟩))

theorem AnyN.run {φ : Nat → OpF} {k : Nat} {R : List Nat} {D : AV → Prop} {φx : AV → Nat → OpF} {QF : FS → Prop} : ∀ (fuel : Nat) (listed : Array Bool) (F : FS), AnyN K ops φ k R D φx QF fuel listed F → ∀ {L : Link} {a : Act} {w : World}, SimF K L F a w →
    (∀ F' a' w' L', QF F' → SimF K L' F' a' w' → Ext K F.heap.length F.heap L w F'.heap L' w' → Q .normal a' w') → wpAny K.P .any ops Q fuel listed a w
  | 0, listed, F, h, L, a, w, hs, hq => h.elim
  | fuel + 1, listed, F, h, L, a, w, hs, hq => by
    refine ⟨fun h0 => absurd h0 h.1, fun i hi => ?_⟩
    obtain ⟨_, o, ho, _⟩ := mem_ready.1 hi
    obtain ⟨h1, h2⟩ := h.2 i o hi ho
    unfold wpOp
    simp only [ho]
    by_cases hik : i = k
    · obtain ⟨hd, hx⟩ := h2 hik
      refine hd.run hs fun x a' w' L' hD hs' hext => AnyF.run fuel _ _ (hx x hD) hs' fun F' a'' w'' L'' hF hs'' hext' => hq F' a'' w'' L'' hF hs'' ?_
      exact hext.trans hext'
    · obtain ⟨h1, h2⟩ := h1 hik
      refine h1.run hs fun a' w' L' hs' hext => AnyN.run fuel _ _ h2 hs' fun F' a'' w'' L'' hF hs'' hext' => hq F' a'' w'' L'' hF hs'' ?_
      have hl : (F.app o (φ i)).heap.length = F.heap.length := setMany_length _ _
      rw [hl] at hext'
      exact hext.trans hext'

theorem AnyN.first {φ : Nat → OpF} {k : Nat} {R : List Nat} {D : AV → Prop} {φx : AV → Nat → OpF} {QF : FS → Prop} {i : Nat} {oi : Oper} (hi : ops[i]? = some oi) (hik : i ≠ k) (hxi : ∀ x, D x → φx x i = φ i) (hxR : ∀ x, D x → (φx x k).R = R ∧ (φx x k).U = []) :
    ∀ (fuel : Nat) (listed : Array Bool) (F : FS),
    (∀ j oj, ops[j]? = some oj → j ≠ i → listed.getD j true = false → dep ops 3 j i = false → oi.apart ops oj = true ∧ (j ≠ k → feet φ i j = true) ∧ (j = k → ∀ q, q ∈ (φ i).U.map (·.1) → q ∉ R) ∧ ∀ x, D x → feet (φx x) i j = true) →
    Down ops listed → i ∈ Region.ready .any ops listed → QS K ops oi (φ i) F → AnyN K ops φ k R D φx QF fuel (listed.setIfInBounds i true) (F.app oi (φ i)) → AnyN K ops φ k R D φx QF (fuel + 1) listed F := by
  intro fuel
  induction fuel with
  | zero => intro listed F _ _ hr hy H; exact H.elim
  | succ fuel ih =>
    intro listed F hfree hD hr hy H
    refine ⟨fun h => (by rw [h] at hr; cases hr), fun j oj hj hoj => ?_⟩
    by_cases hji : j = i
    · subst hji; rw [hi] at hoj; cases hoj; exact ⟨fun _ => ⟨hy, H⟩, fun h => absurd h hik⟩
    · have hjr := ready_mono hj hji
      have hjun := (mem_ready.1 hj).1
      have hnot := ready_dep hD hj (mem_ready.1 hr).1 3
      obtain ⟨hap, hft, hfk, hfx⟩ := hfree j oj hoj hji hjun hnot
      obtain ⟨a1, a2, a3⟩ := Oper.apart_spec hap
      have hfree' : ∀ q oq, ops[q]? = some oq → q ≠ i → (listed.setIfInBounds j true).getD q true = false →
          dep ops 3 q i = false → oi.apart ops oq = true ∧ (q ≠ k → feet φ i q = true) ∧ (q = k → ∀ p, p ∈ (φ i).U.map (·.1) → p ∉ R) ∧ ∀ x, D x → feet (φx x) i q = true := fun q oq hq hqi hun hno => by
        refine hfree q oq hq hqi ?_ hno
        by_cases hjq : j = q
        · subst hjq; exact hjun
        · rw [getD_set_ne true hjq] at hun; exact hun
      constructor
      · intro hjk
        obtain ⟨h1, h1'⟩ := (H.2 j oj hjr hoj).1 hjk
        obtain ⟨f1, f2⟩ := feet_spec (hft hjk)
        refine ⟨h1.back a1 f1, ih (listed.setIfInBounds j true) (F.app oj (φ j)) hfree' (hD.set hj) (ready_mono hr (Ne.symm hji)) (hy.fore a3 f2) ?_⟩
        rw [Array.setIfInBounds_comm _ _ hji, ← FS.app_comm a2 (fun q hq hq' => f1 q hq (h1.2.1 q hq'))]
        exact h1'
      · intro hjk
        subst hjk
        obtain ⟨h1, h1'⟩ := (H.2 j oj hjr hoj).2 rfl
        refine ⟨h1.back a1 (hfk rfl), fun x hD' => ?_⟩
        have hy' : QS K ops oi (φx x i) (F.app oj ⟨x, R, []⟩) := by rw [hxi x hD']; exact hy.fore a3 (fun q hq => by simp at hq)
        refine AnyF.first hi fuel (listed.setIfInBounds j true) (F.app oj ⟨x, R, []⟩) (fun q oq hq hqi hun hno => ⟨(hfree' q oq hq hqi hun hno).1, (hfree' q oq hq hqi hun hno).2.2.2 x hD'⟩) (hD.set hj) (ready_mono hr (Ne.symm hji)) hy' ?_
        rw [Array.setIfInBounds_comm _ _ hji, hxi x hD', ← FS.app_comm a2 (fun q hq hq' => by simp at hq')]
        exact h1' x hD'

/-- The walk in an order that is given. -/
def LexO (K : Ctx) (ops : Array Oper) (φ : Nat → OpF) (Q : FS → Prop) : List Nat → FS → Prop
  | [], F => Q F
  | i :: r, F => ∃ o, ops[i]? = some o ∧ QS K ops o (φ i) F ∧ LexO K ops φ Q r (F.app o (φ i))
def lexOrd (ops : Array Oper) (ft : Nat → List Nat × List Nat) : List Nat → Array Bool → Bool
  | [], listed => (Region.ready .any ops listed).isEmpty
  | i :: r, listed => (Region.ready .any ops listed).contains i && freeT ops ft listed i && lexOrd ops ft r (listed.setIfInBounds i true)
def lexPre (ops : Array Oper) (ft : Nat → List Nat × List Nat) (k : Nat) (suf : List Nat) : List Nat → Array Bool → Bool
  | [], listed => (Region.ready .any ops listed).all (fun j => j == k) && !(Region.ready .any ops listed).isEmpty && lexOrd ops ft suf (listed.setIfInBounds k true)
  | i :: r, listed => i != k && (Region.ready .any ops listed).contains i && freeT ops ft listed i && lexPre ops ft k suf r (listed.setIfInBounds i true)
/-- Each operation's rows are those that are told. -/
def Fits (ops : Array Oper) (ft : Nat → List Nat × List Nat) (φ : Nat → OpF) : Prop := ∀ j, j < ops.size → (φ j).R = (ft j).1 ∧ (φ j).U.map (·.1) = (ft j).2
theorem freeT_spec {ft : Nat → List Nat × List Nat} {listed : Array Bool} {i : Nat} {oi : Oper} (hi : ops[i]? = some oi) (h : freeT ops ft listed i = true) : ∀ j oj, ops[j]? = some oj → j ≠ i → listed.getD j true = false → dep ops 3 j i = false → oi.apart ops oj = true ∧ feetT ft i j = true := by
  intro j oj hj hne hun hno
  have hlt : j < ops.size := (Array.getElem?_eq_some_iff.1 hj).1
  simp only [freeT, List.all_eq_true, List.mem_range] at h
  have := h j hlt
  rw [hun, hi, hj, hno] at this
  simpa [hne] using this
theorem feetT_feet {ft : Nat → List Nat × List Nat} {φ : Nat → OpF} (h : Fits ops ft φ) {i j : Nat} (hi : i < ops.size) (hj : j < ops.size) : feet φ i j = feetT ft i j := by
  unfold feet feetT
  rw [(h i hi).1, (h i hi).2, (h j hj).1, (h j hj).2]
theorem LexO.any {φ : Nat → OpF} {ft : Nat → List Nat × List Nat} {QF : FS → Prop} (hf : Fits ops ft φ) : ∀ (l : List Nat) (listed : Array Bool) (F : FS), lexOrd ops ft l listed = true → Down ops listed → LexO K ops φ QF l F → AnyF K ops φ QF l.length listed F
  | [], _, _, hB, _, h => ⟨by simpa [lexOrd] using hB, h⟩
  | i :: l, listed, F, hB, hD, ⟨o, ho, hq, h⟩ => by
    simp only [lexOrd, Bool.and_eq_true] at hB
    have hil : i < ops.size := (Array.getElem?_eq_some_iff.1 ho).1
    refine AnyF.first ho l.length listed F (fun j oj hj hne hun hno => ?_) hD (by simpa using hB.1.1) hq (LexO.any hf l _ _ hB.2 (hD.set (by simpa using hB.1.1)) h)
    have := freeT_spec ho hB.1.2 j oj hj hne hun hno
    rw [feetT_feet hf hil (Array.getElem?_eq_some_iff.1 hj).1]; exact this
theorem LexO.anyN {φ : Nat → OpF} {ft : Nat → List Nat × List Nat} {QF : FS → Prop} {k : Nat} {ok : Oper} {D : AV → Prop} {φx : AV → Nat → OpF} {suf : List Nat} (hk : ops[k]? = some ok) (hf : Fits ops ft φ) (hfx : ∀ x, D x → Fits ops ft (φx x)) (hk2 : (ft k).2 = []) (hkx : ∀ x, D x → φx x k = ⟨x, (ft k).1, []⟩) :
    ∀ (l : List Nat) (listed : Array Bool) (F : FS), (∀ x, D x → ∀ i, i ∈ l → φx x i = φ i) → lexPre ops ft k suf l listed = true → Down ops listed →
      LexO K ops φ (fun F => QD K ops ok (ft k).1 D F ∧ ∀ x, D x → LexO K ops (φx x) QF suf (F.app ok ⟨x, (ft k).1, []⟩)) l F → AnyN K ops φ k (ft k).1 D φx QF (l.length + suf.length + 1) listed F
  | [], listed, F, _, hB, hDn, ⟨hd, h⟩ => by
    simp only [lexPre, Bool.and_eq_true] at hB
    refine ⟨fun h0 => by rw [h0] at hB; simp at hB, fun i o hi ho => ?_⟩
    have hik : i = k := by simpa using List.all_eq_true.1 hB.1.1 i hi
    subst hik
    rw [hk] at ho; cases ho
    refine ⟨fun h => absurd rfl h, fun _ => ⟨hd, fun x hD => ?_⟩⟩
    have := LexO.any (hfx x hD) suf _ _ hB.2 (hDn.set hi) (h x hD)
    simpa using this
  | i :: l, listed, F, hx, hB, hDn, ⟨o, ho, hq, h⟩ => by
    simp only [lexPre, Bool.and_eq_true, bne_iff_ne] at hB
    have hil : i < ops.size := (Array.getElem?_eq_some_iff.1 ho).1
    have hkl : k < ops.size := (Array.getElem?_eq_some_iff.1 hk).1
    have ih := LexO.anyN hk hf hfx hk2 hkx l _ _ (fun x hD j hj => hx x hD j (List.mem_cons_of_mem _ hj)) hB.2 (hDn.set (by simpa using hB.1.1.2)) h
    have := AnyN.first ho hB.1.1.1 (fun x hD => hx x hD i (List.mem_cons_self ..)) (fun x hD => by rw [hkx x hD]; exact ⟨rfl, rfl⟩) (l.length + suf.length + 1) listed F (fun j oj hj hne hun hno => ?_) hDn (by simpa using hB.1.1.2) hq ih
    · simpa [Nat.add_assoc, Nat.add_comm, Nat.add_left_comm] using this
    · have h1 := freeT_spec ho hB.1.2 j oj hj hne hun hno
      have hjl := (Array.getElem?_eq_some_iff.1 hj).1
      refine ⟨h1.1, fun _ => by rw [feetT_feet hf hil hjl]; exact h1.2, ?_, fun x hD => by rw [feetT_feet (hfx x hD) hil hjl]; exact h1.2⟩
      rintro rfl q hq
      have h2 := h1.2
      simp only [feetT, Bool.and_eq_true, List.all_eq_true] at h2
      rw [(hf i hil).2] at hq
      simpa using h2.1 q hq

/-- What one operation does whose result is not known. -/
def AtD (K : Ctx) (ops : Array Oper) (o : Oper) (R : List Nat) (D : AV → Prop) (S : St) : Prop :=
  dstOk o.dst S.n = true ∧ o.guard = none ∧
  ∀ h', Agree R S.heap h' → ∀ m', ∀ L a w (Kc : Act → World → Prop) (Qc : Exit → Act → World → Prop), Sim K L { S with env := S.env.filter (fun p => (o.looksAt ops).contains p.1), heap := h' } a w →
    (∀ x v w' L', D x → Sim K L' { S with env := [], heap := h' } a w' → x.rep w' (Bar K h' L') L' v → Ext K m' h' L w h' L' w' → Kc (a.put o.dst v) w') → o.wp K.P a w Kc Qc
theorem AtD.qd {o : Oper} {R : List Nat} {D : AV → Prop} {S : St} (h : AtD K ops o R D S) : QD K ops o R D S.fn := by
  obtain ⟨hd, hg, h⟩ := h
  refine ⟨hd, fun h' ha L a w Kc Qc hs hk => ?_⟩
  have hs' : Sim K L { S with env := S.env.filter (fun p => (o.looksAt ops).contains p.1), heap := h' } a w := by
    refine ⟨hs.hs, hs.base, hs.big, fun t x hx => hs.slots t x ?_, hs.size, hs.defers⟩
    simp only [St.get, look_filter] at hx
    exact hx
  unfold wp1
  rw [if_pos (by simp [Region.wanted, hg])]
  exact .inl (h h' ha h'.length L a w Kc Qc hs' fun x v w' L' hD hs'' hrep hext => hk x v w' L' hD hrep hs''.hs hs''.base hs''.big hext)
theorem AtD.call {d : Option Nat} {ty : TypeId} {pos : String} {af : Array Edge} {f : FuncId} {xs : List Operand} {ts : Array TypeId} {args : List AV} {S : St} {D : AV → Prop} {R : List Nat} (hf : Callable K.P f)
    (hx : ∀ h', Agree R S.heap h' → EvL K { S with env := S.env.filter (fun p => ((⟨d, .call ⟨.value (.func f), xs.toArray, ts⟩, ty, pos, af, none⟩ : Oper).looksAt ops).contains p.1), heap := h' } xs args) (hlo : AV.loL [] args = true) (hd : dstOk d S.n = true)
    (hc : AC ⟨K.P, K.W0, K.N⟩ f args [] fun r' h => h = [] ∧ D r') : AtD K ops ⟨d, .call ⟨.value (.func f), xs.toArray, ts⟩, ty, pos, af, none⟩ R D S :=
  ⟨hd, rfl, fun h' ha m' L a w Kc Qc hs hk => by
    simp only [Oper.wp, run_callV (cs := #[]) (c := .func f) (ρ := a.eval) hf rfl, Oper.upon_enter]
    have hxs := EvL.rep hs (hx h' ha)
    rw [show (xs.toArray.map a.eval ++ #[]) = (xs.map a.eval).toArray from by simp]
    refine (call_frozen (m := m') hs hxs hlo hc (fun _ _ h => h.1)).mono ?_
    rintro e w' ⟨r', v, rfl, ⟨_, hD⟩, hs', hrep, hext⟩
    exact hk r' v w' L hD ⟨hs'.hs, hs'.base, hs'.big, fun t y hy => by simp [St.get, look] at hy, hs'.size, hs'.defers⟩ hrep hext⟩

/-- The walk in an order that is given, in the words of states. -/
def LexI (K : Ctx) (ops : Array Oper) (ft : Nat → List Nat × List Nat) (Q : St → Prop) : List Nat → St → Prop
  | [], S => Q S
  | i :: r, S => ∃ o x U, ops[i]? = some o ∧ U.map (·.1) = (ft i).2 ∧ At K ops o ⟨x, (ft i).1, U⟩ S ∧ LexI K ops ft Q r (({ S with heap := setMany S.heap U } : St).putD o.dst x)
theorem LexI.s {ft : Nat → List Nat × List Nat} {Q : St → Prop} : ∀ (l : List Nat) (S : St), l.Nodup → LexI K ops ft Q l S → ∃ φ : Nat → OpF, (∀ j, j ∈ l → (φ j).R = (ft j).1 ∧ (φ j).U.map (·.1) = (ft j).2) ∧ ∀ φ' : Nat → OpF, (∀ j, j ∈ l → φ' j = φ j) → LexO K ops φ' (fun F => ∃ S', F = S'.fn ∧ Q S') l S.fn
  | [], S, _, h => ⟨fun _ => ⟨.any, [], []⟩, fun j hj => by simp at hj, fun _ _ => ⟨S, rfl, h⟩⟩
  | i :: l, S, hn, ⟨o, x, U, ho, hU, hA, h⟩ => by
    obtain ⟨hi, hn'⟩ := List.nodup_cons.1 hn
    obtain ⟨φ, hφ, hS⟩ := LexI.s l _ hn' h
    refine ⟨fun j => if j = i then ⟨x, (ft i).1, U⟩ else φ j, fun j hj => ?_, fun φ' h' => ?_⟩
    · by_cases hji : j = i
      · subst hji; simp [hU]
      · simp only [hji, if_false]; exact hφ j ((List.mem_cons.1 hj).resolve_left hji)
    · have hi' : φ' i = ⟨x, (ft i).1, U⟩ := by rw [h' i (List.mem_cons_self ..)]; simp
      refine ⟨o, ho, by rw [hi']; exact hA.qs, ?_⟩
      rw [hi', app_fn]
      refine hS φ' fun j hj => ?_
      have hji : j ≠ i := fun he => hi (he ▸ hj)
      rw [h' j (List.mem_cons_of_mem _ hj)]; simp [hji]

theorem W.drawN {Q : Post} {id k : Nat} {l : List Oper} {S : St} {o : Oper} {D : AV → Prop} (pre suf : List Nat) (ft : Nat → List Nat × List Nat) (hmix : K.P.follows .mixedOrders = true) (hk : l.toArray[k]? = some o) (hB : lexPre l.toArray ft k suf pre (Array.replicate l.length false) = true) (hn : (pre ++ k :: suf).Nodup) (hall : (List.range l.length).all (fun j => (pre ++ k :: suf).contains j) = true) (hlen : pre.length + suf.length + 1 = l.length) (hk2 : (ft k).2 = []) (hm : m ≤ S.heap.length)
    (h : LexI K l.toArray ft (fun S' => AtD K l.toArray o (ft k).1 D S' ∧ ∀ x, D x → LexI K l.toArray ft (fun S'' => Q .normal S'') suf (S'.putD o.dst x)) pre S) : W K m (.region id l.toArray true) Q S := by
  intro L a w hs
  refine wp_region_any hmix ?_
  have hnp : pre.Nodup := (List.nodup_append.1 hn).1
  have hns : suf.Nodup := (List.nodup_cons.1 (List.nodup_append.1 hn).2.1).2
  have hks : k ∉ suf := (List.nodup_cons.1 (List.nodup_append.1 hn).2.1).1
  have hps : ∀ j, j ∈ pre → j ≠ k ∧ j ∉ suf := fun j hj => by
    have := (List.nodup_append.1 hn).2.2 j hj
    exact ⟨this k (List.mem_cons_self ..), fun h => this j (List.mem_cons_of_mem _ h) rfl⟩
  obtain ⟨φ0, hφ0, hS0⟩ := LexI.s pre S hnp h
  let φ : Nat → OpF := fun j => if j ∈ pre then φ0 j else ⟨.any, (ft j).1, (ft j).2.map fun u => (u, none)⟩
  have hfit : Fits l.toArray ft φ := by
    intro j _
    by_cases hj : j ∈ pre
    · simp only [φ, if_pos hj]; exact hφ0 j hj
    · simp only [φ, if_neg hj]; exact ⟨trivial, by simp [Function.comp_def]⟩
  have hO := hS0 φ (fun j hj => by simp only [φ, if_pos hj])
  -- the state behind the first part is one; what follows is picked there
  have key : ∀ (pl : List Nat) (F : FS), LexO K l.toArray φ (fun F => ∃ S', F = S'.fn ∧ AtD K l.toArray o (ft k).1 D S' ∧ ∀ x, D x → LexI K l.toArray ft (fun S'' => Q .normal S'') suf (S'.putD o.dst x)) pl F →
      ∃ S', (∀ x, D x → LexI K l.toArray ft (fun S'' => Q .normal S'') suf (S'.putD o.dst x)) ∧ LexO K l.toArray φ (fun F => F = S'.fn ∧ AtD K l.toArray o (ft k).1 D S') pl F := by
    intro pl
    induction pl with
    | nil => rintro F ⟨S', hF, hA, hx⟩; exact ⟨S', hx, hF, hA⟩
    | cons i pl ih => rintro F ⟨oi, hoi, hq, hr⟩; obtain ⟨S', h1, h2⟩ := ih _ hr; exact ⟨S', h1, oi, hoi, hq, h2⟩
  obtain ⟨S', hsuf, hO'⟩ := key pre S.fn hO
  have hch : ∀ x : AV, ∃ φ' : Nat → OpF, D x → (∀ j, j ∈ suf → (φ' j).R = (ft j).1 ∧ (φ' j).U.map (·.1) = (ft j).2) ∧ ∀ φ'' : Nat → OpF, (∀ j, j ∈ suf → φ'' j = φ' j) → LexO K l.toArray φ'' (fun F => ∃ S', F = S'.fn ∧ Q .normal S') suf (S'.putD o.dst x).fn := by
    intro x
    by_cases hD : D x
    · obtain ⟨φ', h1, h2⟩ := LexI.s suf _ hns (hsuf x hD)
      exact ⟨φ', fun _ => ⟨h1, h2⟩⟩
    · exact ⟨fun _ => ⟨.any, [], []⟩, fun h => absurd h hD⟩
  let ψ : AV → Nat → OpF := fun x => Classical.choose (hch x)
  have hψ : ∀ x, D x → _ := fun x hD => Classical.choose_spec (hch x) hD
  let φx : AV → Nat → OpF := fun x j => if j ∈ suf then ψ x j else if j = k then ⟨x, (ft k).1, []⟩ else φ j
  have hfx : ∀ x, D x → Fits l.toArray ft (φx x) := by
    intro x hD j hjl
    simp only [φx]
    split
    · rename_i hj; exact (hψ x hD).1 j hj
    · split
      · rename_i hj; subst hj; exact ⟨rfl, by rw [hk2]; rfl⟩
      · exact hfit j hjl
  have hO2 : ∀ (pl : List Nat) (F : FS), LexO K l.toArray φ (fun F => F = S'.fn ∧ AtD K l.toArray o (ft k).1 D S') pl F → LexO K l.toArray φ (fun F => QD K l.toArray o (ft k).1 D F ∧ ∀ x, D x → LexO K l.toArray (φx x) (fun F => ∃ S', F = S'.fn ∧ Q .normal S') suf (F.app o ⟨x, (ft k).1, []⟩)) pl F := by
    intro pl
    induction pl with
    | nil =>
      rintro F ⟨rfl, hA⟩
      refine ⟨hA.qd, fun x hD => ?_⟩
      have := (hψ x hD).2 (φx x) (fun j hj => by simp only [φx, if_pos hj]; rfl)
      rw [app_fn]
      exact this
    | cons i pl ih => rintro F ⟨oi, hoi, hq, hr⟩; exact ⟨oi, hoi, hq, ih _ hr⟩
  have hany := LexO.anyN (K := K) hk hfit hfx hk2 (fun x hD => by simp only [φx, if_neg hks, if_true]) pre _ S.fn (fun x hD i hi => by simp only [φx, if_neg (hps i hi).2, if_neg (hps i hi).1]) hB Down.none (hO2 pre S.fn hO')
  have hs' : Sim K L S a { w with drawn := w.drawn + 1 } := hs.heap_same rfl rfl rfl rfl
  have := AnyN.run (Q := lift K m S L w Q) _ _ S.fn hany hs'.fn ?_
  · rw [hlen] at this; simpa using this
  · rintro F' a' w' L' ⟨S', rfl, hq⟩ hsf hext
    have e0 : Ext K m S.heap L w S.heap L { w with drawn := w.drawn + 1 } := Ext.heap_same rfl
    exact ⟨L', S', hq, hsf.st, e0.trans ⟨fun id g x hi hx => hext.link id g x (by show id < S.heap.length; omega) hx, hext.stays, hext.own⟩⟩

section
variable {ft : Nat → List Nat × List Nat} {Q : St → Prop} {S : St} {o : Oper} {i : Nat} {r : List Nat} {x : AV}
theorem LexI.nil (h : Q S) : LexI K ops ft Q [] S := h
theorem LexI.val (ho : ops[i]? = some o) (hf : (ft i).2 = []) (hg : o.guard = none) (hd : dstOk o.dst S.n = true)
    (hv : ∀ h', Agree (ft i).1 S.heap h' → Val K { S with env := S.env.filter (fun p => (o.looksAt ops).contains p.1), heap := h' } o x) (h : LexI K ops ft Q r (S.putD o.dst x)) : LexI K ops ft Q (i :: r) S :=
  ⟨o, x, [], ho, hf.symm, At.val hg hd hv, h⟩
theorem LexI.gval {G : Bool} (ho : ops[i]? = some o) (hf : (ft i).2 = []) (hg : ∀ h', Grd K ops { S with env := S.env.filter (fun p => (o.looksAt ops).contains p.1), heap := h' } o G) (hd : dstOk o.dst S.n = true)
    (hv : G = true → ∀ h', Agree (ft i).1 S.heap h' → Val K { S with env := S.env.filter (fun p => (o.looksAt ops).contains p.1), heap := h' } o x) (h : LexI K ops ft Q r (S.putD o.dst (.opt G x))) : LexI K ops ft Q (i :: r) S :=
  ⟨o, .opt G x, [], ho, hf.symm, At.gval hg hd hv, h⟩
theorem LexI.stp {U : List (Nat × Option Row)} (ho : ops[i]? = some o) (hU : U.map (·.1) = (ft i).2) (hg : o.guard = none) (hd : dstOk o.dst S.n = true) (hR : ((ft i).2).all (fun j => ((ft i).1).contains j) = true) (hx : o.dst = none → x = .any)
    (hv : ∀ h', Agree (ft i).1 S.heap h' → ∀ m', Stp K m' { S with env := S.env.filter (fun p => (o.looksAt ops).contains p.1), heap := h' } o (({ S with env := S.env.filter (fun p => (o.looksAt ops).contains p.1), heap := setMany h' U } : St).putD o.dst x))
    (h : LexI K ops ft Q r (({ S with heap := setMany S.heap U } : St).putD o.dst x)) : LexI K ops ft Q (i :: r) S :=
  ⟨o, x, U, ho, hU, At.stp hg hd (by rw [hU]; exact hR) hx hv, h⟩
theorem LexI.call {t : Nat} {ty : TypeId} {pos : String} {af : Array Edge} {f : FuncId} {xs : List Operand} {ts : Array TypeId} {args : List AV} (ho : ops[i]? = some ⟨some t, .call ⟨.value (.func f), xs.toArray, ts⟩, ty, pos, af, none⟩) (hf : Callable K.P f)
    (hx : ∀ h', Agree (ft i).1 S.heap h' → EvL K { S with env := S.env.filter (fun p => ((⟨some t, .call ⟨.value (.func f), xs.toArray, ts⟩, ty, pos, af, none⟩ : Oper).looksAt ops).contains p.1), heap := h' } xs args) (hlo : AV.loL [] args = true) (hd : Nat.ble (t + 1) S.n = true)
    (hc : AC ⟨K.P, K.W0, K.N⟩ f args [] fun r' h => h = [] ∧ r' = x) (hU : (ft i).2 = [] := by rfl) (h : LexI K ops ft Q r (S.put t x)) : LexI K ops ft Q (i :: r) S :=
  ⟨_, x, [], ho, hU.symm, At.call (caps := []) hf (fun _ => Fun.func) hx (by rw [List.append_nil]; exact hlo) (by simp only [dstOk]; exact decide_eq_true (Nat.le_of_ble_eq_true hd)) (by rw [List.append_nil]; exact hc), h⟩
end
end
end Go.Aw
namespace Go.Aw
open Go.RowKit
theorem fz_append (xs ys : List (List FV)) : fz (xs ++ ys) = fz xs ++ fz ys := by simp [fz]
/-- Element i of a list. -/
def gA {α : Type} [Inhabited α] (l : List α) (i : Int) : α := l.getD i.toNat default
theorem gA_at {α : Type} [Inhabited α] {l : List α} {i : Int} (h0 : 0 ≤ i) (h1 : i < l.length) : l[i.toNat]? = some (gA l i) := by
  have : i.toNat < l.length := by omega
  simp [gA, List.getD, this]
theorem gA_mem {α : Type} [Inhabited α] {l : List α} {i : Int} (h0 : 0 ≤ i) (h1 : i < l.length) : gA l i ∈ l := List.mem_of_getElem? (gA_at h0 h1)
theorem fz_at {α : Type} [Inhabited α] {enc : α → List FV} {l : List α} {i : Int} (h0 : 0 ≤ i) (h1 : i < l.length) : (fz (l.map enc))[0 + i.toNat]? = some ((enc (gA l i)).map .f) := by
  rw [Nat.zero_add]; simp [fz, gA_at h0 h1]
theorem oneE {α : Type} {enc : α → List FV} (h : ∀ x, ((enc x).map AV.f).all AV.one = true) {l : List α} : ∀ e, e ∈ fz (l.map enc) → e.all AV.one = true := by
  intro e he
  simp only [fz, List.map_map, List.mem_map, Function.comp] at he
  obtain ⟨x, _, rfl⟩ := he
  exact h x
theorem encL {α : Type} {enc : α → List FV} {s : Nat} (h : ∀ x, (enc x).length = s) {l : List α} : ∀ e, e ∈ l.map enc → e.length = s := by
  intro e he
  obtain ⟨x, _, rfl⟩ := List.mem_map.1 he
  exact h x
section
variable {K : Ctx} {m : Nat} {S : St} {d : Option Nat} {ty : TypeId} {pos : String} {af : Array Edge} {gd : Option (Nat × Bool)} {Q : Post} {ops : Array Oper} {rest : List Oper} {t : Nat}
theorem ArgE.lst {α : Type} {enc : α → List FV} {l : List α} {x : Operand} {s : Nat} (hx : Ev K S x (.f (.lst s (l.map enc)))) (h : ∀ x, ((enc x).map AV.f).all AV.one = true) : Arg K S x s (fz (l.map enc)) := Arg.lst hx (oneE h)
theorem WL.appE {α : Type} {enc : α → List FV} {l l' : List α} {T T' E : TypeId} {s bytes j : Nat} {z : Value} {x y : Operand} {v : AV} {o : Option Row} (ht : AppT K.P T T' E s bytes z) (hx : Ev K S x v) (hj : S.heap[j]? = some o) (ha : Acc j s (fz (l.map enc)) v o) (hy : Arg K S y s (fz (l'.map enc)))
    (hroom : (2 * (l.length + l'.length) + 1000) * bytes ≤ 281474976710656) (hd : Nat.ble (t + 1) S.n = true) (h : ∀ v' o', Acc j s (fz ((l ++ l').map enc)) v' o' → WL K m ops Q rest (({ S with heap := S.heap.set j o' } : St).put t v')) :
    WL K m ops Q (⟨some t, .call ⟨.builtin .append, #[x, y], #[T, T']⟩, ty, pos, af, none⟩ :: rest) S :=
  WL.app ht hx hj ha hy (by simpa [fz] using hroom) hd (by rw [List.map_append, fz_append] at h; exact h)
theorem Stp.appendE {α : Type} {enc : α → List FV} {l l' : List α} {T T' E : TypeId} {s bytes : Nat} {z : Value} {x y : Operand} {id gen len : Nat} (ht : AppT K.P T T' E s bytes z) (hx : Ev K S x (.row id gen s 0 len)) (hr : S.heap[id]? = some (some ⟨gen, s, fz (l.map enc)⟩))
    (hlen : len = l.length) (hy : Arg K S y s (fz (l'.map enc))) (hroom : (2 * (l.length + l'.length) + 1000) * bytes ≤ 281474976710656) (hd : dstOk d S.n = true) :
    Stp K m S ⟨d, .call ⟨.builtin .append, #[x, y], #[T, T']⟩, ty, pos, af, gd⟩ (({ S with heap := S.heap.set id (some ⟨gen + 1, s, fz ((l ++ l').map enc)⟩) } : St).putD d (.row id (gen + 1) s 0 (l ++ l').length)) := by
  have := Stp.append (m := m) (d := d) (ty := ty) (pos := pos) (af := af) (gd := gd) ht hx hr rfl rfl (by simp [fz, hlen]) hy (by rw [hlen]; simpa [fz] using hroom) hd
  rw [List.map_append, fz_append, List.length_append]
  subst hlen
  simpa [fz] using this
theorem Val.lenA {α : Type} {enc : α → List FV} {l : List α} {T E : TypeId} {x : Operand} {j s : Nat} {v : AV} {o : Option Row} (hT : K.P.underlying T = some (.slice E)) (hx : Ev K S x v) (ha : Acc j s (fz (l.map enc)) v o) :
    Val K S ⟨d, .call ⟨.builtin .len, #[x], #[T]⟩, ty, pos, af, gd⟩ (.i l.length) := by
  have := Val.lenAcc (d := d) (ty := ty) (pos := pos) (af := af) (gd := gd) hT hx ha
  simpa [fz] using this

/-- An element of one cell is written. -/
theorem Stp.storeE {α : Type} [Inhabited α] {enc : α → FV} {l : List α} {a : α} {T : TypeId} {x y : Operand} {id gen : Nat} {i : Int} (hT : (K.P.info? T).map (·.size) = some 1) (hx : Ev K S x (.ptr id gen 1 (0 + i.toNat) 0)) (hy : Ev K S y (.f (enc a))) (hf : (AV.f (enc a)).fit = true)
    (hr : S.heap[id]? = some (some ⟨gen, 1, fz (l.map fun a => [enc a])⟩)) (h0 : 0 ≤ i) (h1 : i < l.length) (hd : d = none) :
    Stp K m S ⟨d, .store T x y, ty, pos, af, gd⟩ { S with heap := S.heap.set id (some ⟨gen, 1, fz ((l.set i.toNat a).map fun a => [enc a])⟩) } := by
  subst hd
  have hc : (AV.f (enc a)).cells = [.f (enc a)] := rfl
  have := Stp.store (m := m) (d := none) (ty := ty) (pos := pos) (af := af) (gd := gd) (v := .f (enc a)) (r := ⟨gen, 1, fz (l.map fun a => [enc a])⟩) (e := ([enc (gA l i)]).map .f) (by rw [hT, hc]; rfl) hx hy hf hr rfl rfl (fz_at (enc := fun a => [enc a]) h0 h1) (by rw [hc]; exact Nat.le_refl _) rfl
  have e : (fz (l.map fun a => [enc a])).set (0 + i.toNat) (splice (([enc (gA l i)]).map AV.f) 0 (AV.f (enc a)).cells) = fz ((l.set i.toNat a).map fun a => [enc a]) := by
    simp [fz, splice, hc, List.map_set]
  rw [e] at this
  exact this

theorem Stp.st {T : TypeId} {x y : Operand} {v : AV} {id gen s i o n : Nat} {r : Row} {e : List AV} (hx : Ev K S x (.ptr id gen s i o)) (hy : Ev K S y v) (hT : (K.P.info? T).map (·.size) = some n) (hn : v.cells.length = n) (hf : v.fit = true)
    (hr : S.heap[id]? = some (some r)) (hg : r.gen = gen) (hs : r.s = s) (he : r.els[i]? = some e) (ho : Nat.ble (o + n) e.length = true) (hd : d = none) :
    Stp K m S ⟨d, .store T x y, ty, pos, af, gd⟩ { S with heap := S.heap.set id (some ⟨gen, s, r.els.set i (splice e o v.cells)⟩) } :=
  by subst hg hs; exact Stp.store (by rw [hn]; exact hT) hx hy hf hr rfl rfl he (by rw [hn]; exact Nat.le_of_ble_eq_true ho) hd

theorem LexE.call {ft : Nat → List Nat × List Nat} {QL : St → Prop} {k : Nat} {f : FuncId} {xs : List Operand} {ts : Array TypeId} {args : List AV} {r : AV} (hf : Callable K.P f)
    (hx : ∀ h', Agree (ft k).1 S.heap h' → EvL K { S with env := S.env.filter (fun p => ((⟨some t, .call ⟨.value (.func f), xs.toArray, ts⟩, ty, pos, af, none⟩ : Oper).looksAt ops).contains p.1), heap := h' } xs args) (hlo : AV.loL [] args = true) (hd : Nat.ble (t + 1) S.n = true)
    (hc : AC ⟨K.P, K.W0, K.N⟩ f args [] fun r' h => h = [] ∧ r' = r) (hU : (ft k).2 = [] := by rfl) (h : LexE K ops ft QL rest (k + 1) (S.put t r)) : LexE K ops ft QL (⟨some t, .call ⟨.value (.func f), xs.toArray, ts⟩, ty, pos, af, none⟩ :: rest) k S :=
  LexE.cons (U := []) hU.symm (At.call (caps := []) hf (fun _ => Fun.func) hx (by rw [List.append_nil]; exact hlo) (by simp only [dstOk]; exact decide_eq_true (Nat.le_of_ble_eq_true hd)) (by rw [List.append_nil]; exact hc)) h

/-- A guarded call whose result is of a kind. -/
theorem WL.gcallE {β : Type} [Inhabited β] (F : β → AV) {R : β → Prop} {d : Nat} {f : FuncId} {xs : List Operand} {ts : Array TypeId} {args : List AV} {G : Bool} (hg : Grd K ops S ⟨some d, .call ⟨.value (.func f), xs.toArray, ts⟩, ty, pos, af, gd⟩ G) (hf : Callable K.P f) (hx : G = true → EvL K S xs args) (hlo : AV.loL [] args = true) (hd : Nat.ble (d + 1) S.n = true)
    (hc : G = true → AC ⟨K.P, K.W0, K.N⟩ f args [] fun r' h => h = [] ∧ ∃ b, r' = F b ∧ R b) (h : ∀ b, (G = true → R b) → WL K m ops Q rest (S.put d (.opt G (F b)))) : WL K m ops Q (⟨some d, .call ⟨.value (.func f), xs.toArray, ts⟩, ty, pos, af, gd⟩ :: rest) S := by
  have hdd : dstOk (some d) S.n = true := by simp only [dstOk]; exact decide_eq_true (Nat.le_of_ble_eq_true hd)
  intro L a w Qc hs hq
  refine wpList_step fun Kc hK => ?_
  rw [hg L a w hs]
  cases G with
  | true =>
    simp only [if_true, Oper.wp, run_callV (cs := #[]) (c := .func f) (ρ := a.eval) hf rfl, Oper.upon_enter]
    have hxs := EvL.rep hs (hx rfl)
    rw [show (xs.toArray.map a.eval ++ #[]) = (xs.map a.eval).toArray from by simp]
    refine (call_frozen (m := m) hs hxs hlo (hc rfl) (fun _ _ h => h.1)).mono ?_
    rintro e w' ⟨r', v, rfl, ⟨_, b, rfl, hb⟩, hs', hrep, hext⟩
    exact hK _ _ (h b (fun _ => hb) L _ w' Qc (hs'.putD (d := some d) (dst_ok hdd) (x := .opt true (F b)) (by unfold AV.rep; exact hrep)) fun e a' w'' hl => hq _ _ _ (lift_trans hext _ _ _ hl))
  | false =>
    simp only [Bool.false_eq_true, if_false]
    exact hK _ _ (h default (fun h => by cases h) L _ w Qc (hs.putD (d := some d) (dst_ok hdd) (x := .opt false (F default)) (by unfold AV.rep; simp)) hq)

/-- What is told by x is told by y. -/
def Le (x y : AV) : Prop := ∀ (w : World) (X : Nat → Prop) (L : Link) (v : Value), x.rep w X L v → y.rep w X L v
def LeL (xs ys : List AV) : Prop := ∀ (w : World) (X : Nat → Prop) (L : Link) (vs : List Value), AV.repL w X L xs vs → AV.repL w X L ys vs
theorem Le.refl (x : AV) : Le x x := fun _ _ _ _ h => h
theorem Le.nil {s : Nat} : Le .nil (.f (.lst s [])) := fun _ _ _ _ h => ⟨none, 0, h, Nat.le_refl _, .inl rfl⟩
theorem LeL.nil : LeL [] [] := fun _ _ _ _ h => h
theorem LeL.cons {x y : AV} {xs ys : List AV} (h : Le x y) (hs : LeL xs ys) : LeL (x :: xs) (y :: ys) := fun w X L vs hr => by
  cases vs with
  | nil => exact hr.elim
  | cons v vs => exact ⟨h w X L v hr.1, hs w X L vs hr.2⟩
theorem Le.agg {xs ys : List AV} (h : LeL xs ys) : Le (.agg xs) (.agg ys) := fun w X L v ⟨vs, e, hr⟩ => ⟨vs, e, h w X L _ hr⟩
theorem Val.le {o : Oper} {x y : AV} (h : Val K S o x) (hl : Le x y) : Val K S o y := fun L a w hs => by
  obtain ⟨v, hr, hv⟩ := h L a w hs
  exact ⟨v, hr, hl _ _ _ _ hv⟩

theorem W.after {c : Code} (h : W K m c (fun e S' => ∃ env, Has S' env ∧ Q e { S' with env := env }) S) : W K m c Q S := fun L a w hs =>
  wp_mono (h L a w hs) fun _ _ _ ⟨L', S', ⟨env, he, hq⟩, hs', hx⟩ => ⟨L', { S' with env := env }, hq, hs'.forget he, hx⟩
end
end Go.Aw
namespace Go.Aw
open Go.RowKit

/-- A sort, a node. -/
structure Srt where
  kind : Int
  n : Int
  index : Int
deriving DecidableEq, Inhabited
structure Nd where
  op : Int
  kids : List Int
  n : Int
  m : Int
  u : Int
  text : ByteArray
  sort : Srt
deriving DecidableEq, Inhabited
/-- A regular expression. -/
inductive Rx where
  | mk (kind lo hi : Int) (kids : List Rx)
instance : Inhabited Rx := ⟨.mk 0 0 0 []⟩
def Rx.kind : Rx → Int | .mk k _ _ _ => k
def Rx.lo : Rx → Int | .mk _ l _ _ => l
def Rx.hi : Rx → Int | .mk _ _ h _ => h
def Rx.kids : Rx → List Rx | .mk _ _ _ ks => ks

def encI (x : Int) : List FV := [.i x]
def encS (x : ByteArray) : List FV := [.s x]
def Srt.cells (s : Srt) : List FV := [.i s.kind, .i s.n, .i s.index]
abbrev FV.ints (l : List Int) : FV := .lst 1 (l.map encI)
abbrev FV.srts (l : List Srt) : FV := .lst 3 (l.map Srt.cells)
def Nd.cells (n : Nd) : List FV := [.i n.op, .ints n.kids, .i n.n, .i n.m, .u n.u, .s n.text, .i n.sort.kind, .i n.sort.n, .i n.sort.index]
def Nd.agg (n : Nd) : AV := .agg (n.cells.map .f)
abbrev FV.nodes (g : List Nd) : FV := .lst 9 (g.map Nd.cells)
mutual
def Rx.cells : Rx → List FV
  | .mk k l h ks => [.i k, .v (.int .u8 l), .v (.int .u8 h), .lst 4 (Rx.cellsL ks)]
def Rx.cellsL : List Rx → List (List FV)
  | [] => []
  | r :: rs => r.cells :: Rx.cellsL rs
end
theorem Rx.cellsL_map : ∀ ks : List Rx, Rx.cellsL ks = ks.map Rx.cells
  | [] => rfl
  | r :: rs => by rw [Rx.cellsL, Rx.cellsL_map rs]; rfl
theorem Rx.cells_eq (r : Rx) : r.cells = [.i r.kind, .v (.int .u8 r.lo), .v (.int .u8 r.hi), .lst 4 (r.kids.map Rx.cells)] := by
  cases r with
  | mk k l h ks => rw [Rx.cells, Rx.cellsL_map]; rfl
abbrev FV.rxs (l : List Rx) : FV := .lst 4 (l.map Rx.cells)

/-- Nothing of the heap is left; a value like this. -/
abbrev Pu (R : AV → Prop) : AV → Heap → Prop := fun r h => h = [] ∧ R r

/-- A whole number that fits into 64 bits. -/
def I6 (n : Int) : Prop := -9223372036854775808 ≤ n ∧ n ≤ 9223372036854775807
theorem I6.wrap (n : Int) : I6 (IntKind.i64.wrap n) := by
  rw [IntKind.wrap_i64]; constructor <;> omega
section
variable {K : Ctx} {m : Nat} {S : St} {d : Option Nat} {ty : TypeId} {pos : String} {af : Array Edge} {gd : Option (Nat × Bool)}
theorem Stp.makeI {T E : TypeId} {x y : Operand} {n : Int} {bytes : Nat} (hT : K.P.underlying T = some (.slice E)) (hE : (K.P.info? E).map (·.size) = some 1) (hb : (K.P.info? E).map (·.bytes) = some bytes) (hz : (K.P.info? E).map (·.zero) = some (some (.int .i64 0)))
    (hx : Ev K S x (.i n)) (hy : Ev K S y (.i n)) (h0 : 0 ≤ n) (h1 : n * bytes ≤ 281474976710656 ∧ n ≤ 1152921504606846976) (hd : dstOk d S.n = true) :
    Stp K m S ⟨d, .makeSlice T x y, ty, pos, af, gd⟩ (({ S with heap := S.heap ++ [some ⟨0, 1, fz ((List.replicate n.toNat 0).map encI)⟩] } : St).putD d (.row S.heap.length 0 1 0 n.toNat)) := by
  have e : (n.toNat : Int) = n := by omega
  have hm : n.toNat * bytes ≤ 281474976710656 := by
    have : ((n.toNat * bytes : Nat) : Int) ≤ 281474976710656 := by rw [Int.natCast_mul, e]; exact h1.1
    omega
  have := Stp.make (m := m) (d := d) (ty := ty) (pos := pos) (af := af) (gd := gd) hT hE hb hz rfl (by rw [e]; exact hx) (by rw [e]; exact hy) hm (by omega) hd
  simpa [fz, encI] using this
end
end Go.Aw
namespace Go.Aw
open Go.RowKit
/-- The places of a struct's fields. -/
theorem places {P : Program} {fs : Array Field} (ns : List Nat) (h : fs.toList.map (fun f => (P.info? f.type).map (·.size)) = ns.map some) : ∀ w, (fs.mapM fun f => do pure (f.offset, ← sizeOf f.type) : Sem (Array (Nat × Nat))).run P w = .ok ((fs.toList.zip ns).map fun p => (p.1.offset, p.2)).toArray w := by
  intro w
  obtain ⟨fs⟩ := fs
  simp only [List.mapM_toArray]
  have key : ∀ (l : List Field) (ns : List Nat), l.map (fun f => (P.info? f.type).map (·.size)) = ns.map some → (l.mapM fun f => do pure (f.offset, ← sizeOf f.type) : Sem (List (Nat × Nat))).run P w = .ok ((l.zip ns).map fun p => (p.1.offset, p.2)) w := by
    intro l
    induction l with
    | nil => intro ns h; rfl
    | cons f l ih =>
      intro ns h
      cases ns with
      | nil => simp at h
      | cons n ns =>
        simp only [List.map_cons, List.cons.injEq] at h
        simp only [List.mapM_cons, Sem.run_bind, run_size h.1, Result.andThen_ok, Sem.run_pure, ih ns h.2, List.zip_cons_cons, List.map_cons]
  simp only [map_eq_pure_bind, Sem.run_bind, key fs ns h, Result.andThen_ok, Sem.run_pure]

section
variable {P : Program} {w : World}
theorem eqStruct {n : Nat} {T : TypeId} {fs : Array Field} {xs ys : Array Value} (hT : P.underlying T = some (.struct fs)) (hs : P.stoodInHeld T = false) :
    ∀ es : List Bool, fs.toList.length = es.length → (∀ (i : Nat) (f : Field) (e : Bool), fs.toList[i]? = some f → es[i]? = some e → f.name ≠ "_" ∧ ∃ x y, (part f.type xs f.offset).run P w = .ok x w ∧ (part f.type ys f.offset).run P w = .ok y w ∧ (Op.equalIn n f.type x y).run P w = .ok e w) →
    (Op.equalIn (n+1) T (.agg xs) (.agg ys)).run P w = .ok (es.all id) w := by
  intro es hl h
  have e := run_und (P := P) (w := w) hT
  have ep : (program).run P w = .ok P w := rfl
  simp only [Op.equalIn, Sem.run_bind, e, Result.andThen_ok, ep, hs, Bool.false_eq_true, if_false]
  have key : ∀ (l : List Field) (es : List Bool), l.length = es.length → (∀ (i : Nat) (f : Field) (e : Bool), l[i]? = some f → es[i]? = some e → f.name ≠ "_" ∧ ∃ x y, (part f.type xs f.offset).run P w = .ok x w ∧ (part f.type ys f.offset).run P w = .ok y w ∧ (Op.equalIn n f.type x y).run P w = .ok e w) →
      (forIn l ((none, ()) : Option Bool × Unit) (fun (f : Field) __s =>
                if f.name ≠ "_" then do
                  let __do_lift ← part f.type xs f.offset
                  let __do_lift_1 ← part f.type ys f.offset
                  let __do_lift ← Op.equalIn n f.type __do_lift __do_lift_1
                  if (!__do_lift) = true then pure (ForInStep.done (some false, ()))
                    else pure (ForInStep.yield (none, ()))
                else pure (ForInStep.yield (none, ()))) : Sem (Option Bool × Unit)).run P w = .ok (if es.all id then none else some false, ()) w := by
    intro l
    induction l with
    | nil =>
      intro es hl h
      cases es with
      | nil => rfl
      | cons => simp at hl
    | cons f l ih =>
      intro es hl h
      cases es with
      | nil => simp at hl
      | cons e es =>
        obtain ⟨hn, x, y, h1, h2, h3⟩ := h 0 f e rfl rfl
        simp only [List.forIn_cons, Sem.run_bind, if_pos hn, h1, h2, h3, Result.andThen_ok]
        cases e with
        | true =>
          simp only [Bool.not_true, Bool.false_eq_true, if_false, Sem.run_pure, Result.andThen_ok, List.all_cons, id, Bool.true_and]
          exact ih es (by simpa using hl) fun i f e hf he => h (i + 1) f e (by simpa using hf) (by simpa using he)
        | false => simp only [Bool.not_false, if_true, Sem.run_pure, Result.andThen_ok, List.all_cons, id, Bool.false_and, Bool.false_eq_true, if_false]
  have hk := key fs.toList es hl h
  rw [← Array.forIn_toList]
  simp only [hk, Result.andThen_ok]
  cases es.all id <;> simp [Sem.run_pure]

theorem run_part {t : TypeId} {td : TypeDesc} {cs : Array Value} {off : Nat} {v : Value} (hT : P.underlying t = some td) (hd : aggB td = false) (h : cs[off]? = some v) : (part t cs off).run P w = .ok v w := by
  simp only [part, Sem.run_bind, run_isAgg hT, hd, Result.andThen_ok, Bool.false_eq_true, if_false, h, Sem.run_pure]
theorem run_partAgg {t : TypeId} {td : TypeDesc} {cs : Array Value} {off s : Nat} {vs : Array Value} (hT : P.underlying t = some td) (hd : aggB td = true) (hs : (P.info? t).map (·.size) = some s) (h : cs.extract off (off + s) = vs) : (part t cs off).run P w = .ok (.agg vs) w := by
  simp only [part, Sem.run_bind, run_isAgg hT, hd, Result.andThen_ok, if_true, run_size hs, Sem.run_pure, h]
theorem run_eqInt {n : Nat} {t : TypeId} {k : IntKind} {a b : Int} (hT : P.underlying t = some (.int k)) : (Op.equalIn (n + 1) t (.int k a) (.int k b)).run P w = .ok (decide (a = b)) w := by
  have e := run_und (P := P) (w := w) hT
  simp only [Op.equalIn, Sem.run_bind, e, Result.andThen_ok, if_true, Sem.run_pure]; rfl
theorem run_eqStr {n : Nat} {t : TypeId} {a b : ByteArray} (hT : P.underlying t = some .string) : (Op.equalIn (n + 1) t (.string a) (.string b)).run P w = .ok (decide (a = b)) w := by
  have e := run_und (P := P) (w := w) hT
  simp only [Op.equalIn, Sem.run_bind, e, Result.andThen_ok, Sem.run_pure]
  congr 1
  obtain ⟨a⟩ := a
  obtain ⟨b⟩ := b
  rw [Bool.eq_iff_iff, decide_eq_true_iff, ByteArray.mk.injEq]
  exact beq_iff_eq (a := a) (b := b)

/-- A struct of three whole numbers. -/
structure Is3 (P : Program) (T : TypeId) : Prop where
  ok : ∃ f0 f1 f2 : Field, P.underlying T = some (.struct #[f0, f1, f2]) ∧ P.stoodInHeld T = false ∧ f0.name ≠ "_" ∧ f1.name ≠ "_" ∧ f2.name ≠ "_" ∧ f0.offset = 0 ∧ f1.offset = 1 ∧ f2.offset = 2 ∧ P.underlying f0.type = some (.int .i64) ∧ P.underlying f1.type = some (.int .i64) ∧ P.underlying f2.type = some (.int .i64)
theorem run_eq3 {n : Nat} {T : TypeId} (h : Is3 P T) {a b c a' b' c' : Int} : (Op.equalIn (n + 2) T (.agg #[.int .i64 a, .int .i64 b, .int .i64 c]) (.agg #[.int .i64 a', .int .i64 b', .int .i64 c'])).run P w = .ok (decide (a = a') && (decide (b = b') && decide (c = c'))) w := by
  obtain ⟨f0, f1, f2, hT, hs, n0, n1, n2, o0, o1, o2, t0, t1, t2⟩ := h.ok
  rw [eqStruct hT hs [decide (a = a'), decide (b = b'), decide (c = c')] rfl]
  · simp
  · intro i f e hf he
    match i, hf, he with
    | 0, hf, he => simp at hf he; subst hf he; exact ⟨n0, _, _, run_part t0 rfl (by rw [o0]; rfl), run_part t0 rfl (by rw [o0]; rfl), run_eqInt t0⟩
    | 1, hf, he => simp at hf he; subst hf he; exact ⟨n1, _, _, run_part t1 rfl (by rw [o1]; rfl), run_part t1 rfl (by rw [o1]; rfl), run_eqInt t1⟩
    | 2, hf, he => simp at hf he; subst hf he; exact ⟨n2, _, _, run_part t2 rfl (by rw [o2]; rfl), run_part t2 rfl (by rw [o2]; rfl), run_eqInt t2⟩
    | i + 3, hf, he => simp at hf
/-- The struct of what a node has beside its kids. -/
structure Is8 (P : Program) (T : TypeId) : Prop where
  ok : ∃ f0 f1 f2 f3 f4 f5 : Field, P.underlying T = some (.struct #[f0, f1, f2, f3, f4, f5]) ∧ P.stoodInHeld T = false ∧ (f0.name ≠ "_" ∧ f1.name ≠ "_" ∧ f2.name ≠ "_" ∧ f3.name ≠ "_" ∧ f4.name ≠ "_" ∧ f5.name ≠ "_") ∧ (f0.offset = 0 ∧ f1.offset = 1 ∧ f2.offset = 2 ∧ f3.offset = 3 ∧ f4.offset = 4 ∧ f5.offset = 5) ∧
    P.underlying f0.type = some (.int .i64) ∧ P.underlying f1.type = some (.int .i64) ∧ P.underlying f2.type = some (.int .i64) ∧ P.underlying f3.type = some (.int .u64) ∧ P.underlying f4.type = some .string ∧ Is3 P f5.type ∧ (P.info? f5.type).map (·.size) = some 3
theorem run_eq8 {n : Nat} {T : TypeId} (h : Is8 P T) {a b c d a' b' c' d' p q r p' q' r' : Int} {s s' : ByteArray} : (Op.equalIn (n + 3) T (.agg #[.int .i64 a, .int .i64 b, .int .i64 c, .int .u64 d, .string s, .int .i64 p, .int .i64 q, .int .i64 r]) (.agg #[.int .i64 a', .int .i64 b', .int .i64 c', .int .u64 d', .string s', .int .i64 p', .int .i64 q', .int .i64 r'])).run P w =
    .ok (decide (a = a') && (decide (b = b') && (decide (c = c') && (decide (d = d') && (decide (s = s') && (decide (p = p') && (decide (q = q') && decide (r = r')))))))) w := by
  obtain ⟨f0, f1, f2, f3, f4, f5, hT, hs, ⟨n0, n1, n2, n3, n4, n5⟩, ⟨o0, o1, o2, o3, o4, o5⟩, t0, t1, t2, t3, t4, t5, z5⟩ := h.ok
  rw [eqStruct hT hs [decide (a = a'), decide (b = b'), decide (c = c'), decide (d = d'), decide (s = s'), decide (p = p') && (decide (q = q') && decide (r = r'))] rfl]
  · simp
  · intro i f e hf he
    match i, hf, he with
    | 0, hf, he => simp at hf he; subst hf he; exact ⟨n0, _, _, run_part t0 rfl (by rw [o0]; rfl), run_part t0 rfl (by rw [o0]; rfl), run_eqInt t0⟩
    | 1, hf, he => simp at hf he; subst hf he; exact ⟨n1, _, _, run_part t1 rfl (by rw [o1]; rfl), run_part t1 rfl (by rw [o1]; rfl), run_eqInt t1⟩
    | 2, hf, he => simp at hf he; subst hf he; exact ⟨n2, _, _, run_part t2 rfl (by rw [o2]; rfl), run_part t2 rfl (by rw [o2]; rfl), run_eqInt t2⟩
    | 3, hf, he => simp at hf he; subst hf he; exact ⟨n3, _, _, run_part t3 rfl (by rw [o3]; rfl), run_part t3 rfl (by rw [o3]; rfl), run_eqInt t3⟩
    | 4, hf, he => simp at hf he; subst hf he; exact ⟨n4, _, _, run_part t4 rfl (by rw [o4]; rfl), run_part t4 rfl (by rw [o4]; rfl), run_eqStr t4⟩
    | 5, hf, he =>
      simp only [List.getElem?_cons_succ, List.getElem?_cons_zero, Option.some.injEq] at hf he; subst hf he
      obtain ⟨_, _, _, t5', _⟩ := t5.ok
      exact ⟨n5, _, _, run_partAgg t5' rfl z5 (by rw [o5]; rfl), run_partAgg t5' rfl z5 (by rw [o5]; rfl), run_eq3 t5⟩
    | i + 6, hf, he => simp at hf
end
def Srt.agg (s : Srt) : AV := .agg [.i s.kind, .i s.n, .i s.index]
section
variable {K : Ctx} {S : St} {d : Option Nat} {ty : TypeId} {pos : String} {af : Array Edge} {gd : Option (Nat × Bool)} {T T' : TypeId} {x y : Operand}
theorem agg_cells {w : World} {X : Nat → Prop} {L : Link} {vs : List Value} {v : Value} (h : (AV.agg (vs.map fun v => .f (.v v))).rep w X L v) : v = .agg vs.toArray := by
  obtain ⟨ys, rfl, hR⟩ := h
  have : ∀ (vs ys : List Value), AV.repL w X L (vs.map fun v => .f (.v v)) ys → ys = vs := by
    intro vs
    induction vs with
    | nil => intro ys h; cases ys with | nil => rfl | cons => exact h.elim
    | cons v vs ih => intro ys h; cases ys with | nil => exact h.elim | cons y ys => rw [ih ys h.2, show y = v from h.1]
  have := this vs ys.toList hR
  congr 1; apply Array.toList_inj.1; simpa using this
theorem Val.eqAgg {op : BinOp} {xas bs : List Value} {e r : Bool} (hx : Ev K S x (.agg (xas.map fun v => .f (.v v)))) (hy : Ev K S y (.agg (bs.map fun v => .f (.v v)))) (he : ∀ w, (Op.equalIn 10000 T (.agg xas.toArray) (.agg bs.toArray)).run K.P w = .ok e w) (ho : op = .eql ∧ r = e ∨ op = .neq ∧ r = !e) (hg : K.P.eqGuardType K.P.depth T = false) :
    Val K S ⟨d, .binOp op T x y T', ty, pos, af, gd⟩ (.b r) := fun L a w hs => by
  have e1 := agg_cells (hx L a w hs)
  have e2 := agg_cells (hy L a w hs)
  refine ⟨.bool r, ?_, rfl⟩
  rcases ho with ⟨rfl, rfl⟩ | ⟨rfl, rfl⟩
  · refine run_binOp ?_ ?_
    · rw [e1, e2]; simp [eqGuard, go_sem, hg]
    · rw [e1, e2]
      show (do pure (.bool (← Op.equalIn 10000 T (.agg xas.toArray) (.agg bs.toArray))) : Sem Value).run K.P w = _
      rw [Sem.run_bind, he]; rfl
  · refine run_binOp ?_ ?_
    · rw [e1, e2]; simp [eqGuard, go_sem, hg]
    · rw [e1, e2]
      show (do pure (.bool (!(← Op.equalIn 10000 T (.agg xas.toArray) (.agg bs.toArray)))) : Sem Value).run K.P w = _
      rw [Sem.run_bind, he]; rfl
theorem Srt.eq_iff (s t : Srt) : (decide (s.kind = t.kind) && (decide (s.n = t.n) && decide (s.index = t.index))) = decide (s = t) := by
  cases s; cases t; simp [Srt.mk.injEq]
theorem Val.eqlSrt {s t : Srt} (h : Is3 K.P T ∧ K.P.eqGuardType K.P.depth T = false) (hx : Ev K S x s.agg) (hy : Ev K S y t.agg) : Val K S ⟨d, .binOp .eql T x y T', ty, pos, af, gd⟩ (.b (decide (s = t))) :=
  Val.eqAgg (xas := [.int .i64 s.kind, .int .i64 s.n, .int .i64 s.index]) (bs := [.int .i64 t.kind, .int .i64 t.n, .int .i64 t.index]) hx hy (fun w => by rw [← Srt.eq_iff]; exact run_eq3 h.1) (.inl ⟨rfl, rfl⟩) h.2
theorem Val.neqSrt {s t : Srt} (h : Is3 K.P T ∧ K.P.eqGuardType K.P.depth T = false) (hx : Ev K S x s.agg) (hy : Ev K S y t.agg) : Val K S ⟨d, .binOp .neq T x y T', ty, pos, af, gd⟩ (.b (!decide (s = t))) :=
  Val.eqAgg (xas := [.int .i64 s.kind, .int .i64 s.n, .int .i64 s.index]) (bs := [.int .i64 t.kind, .int .i64 t.n, .int .i64 t.index]) hx hy (fun w => by rw [← Srt.eq_iff]; exact run_eq3 h.1) (.inr ⟨rfl, rfl⟩) h.2
/-- What a node has beside its kids. -/
def Nd.shape (n : Nd) : AV := .agg [.i n.op, .i n.n, .i n.m, .u n.u, .s n.text, .i n.sort.kind, .i n.sort.n, .i n.sort.index]
def Nd.like (a b : Nd) : Bool := decide (a.op = b.op) && (decide (a.n = b.n) && (decide (a.m = b.m) && (decide (a.u = b.u) && (decide (a.text = b.text) && (decide (a.sort = b.sort))))))
theorem Nd.eq_iff (a b : Nd) : (a.like b && decide (a.kids = b.kids)) = decide (a = b) := by
  cases a; cases b
  rw [Bool.eq_iff_iff]
  simp only [Nd.like, Bool.and_eq_true, decide_eq_true_eq, Nd.mk.injEq]
  constructor
  · rintro ⟨⟨h1, h2, h3, h4, h5, h6⟩, h7⟩; exact ⟨h1, h7, h2, h3, h4, h5, h6⟩
  · rintro ⟨h1, h7, h2, h3, h4, h5, h6⟩; exact ⟨⟨h1, h2, h3, h4, h5, h6⟩, h7⟩
theorem Val.neqShp {s t : Nd} (h : Is8 K.P T ∧ K.P.eqGuardType K.P.depth T = false) (hx : Ev K S x s.shape) (hy : Ev K S y t.shape) : Val K S ⟨d, .binOp .neq T x y T', ty, pos, af, gd⟩ (.b (!s.like t)) :=
  Val.eqAgg (xas := [.int .i64 s.op, .int .i64 s.n, .int .i64 s.m, .int .u64 s.u, .string s.text, .int .i64 s.sort.kind, .int .i64 s.sort.n, .int .i64 s.sort.index]) (bs := [.int .i64 t.op, .int .i64 t.n, .int .i64 t.m, .int .u64 t.u, .string t.text, .int .i64 t.sort.kind, .int .i64 t.sort.n, .int .i64 t.sort.index]) hx hy (fun w => by simp only [Nd.like]; rw [← Srt.eq_iff]; exact run_eq8 h.1) (.inr ⟨rfl, rfl⟩) h.2
end
end Go.Aw
namespace Go.Aw
open Go.RowKit Go.Proofs
noncomputable abbrev En (W0 : World) (N : Nat) : Env := ⟨Tryd.prog, W0, N⟩
theorem zs3 : (Tryd.prog.info? 3).map (·.size) = some 1 := by kernel_rfl
theorem zz3 : (Tryd.prog.info? 3).map (·.zero) = some (some (Value.int .i64 0)) := by kernel_rfl
theorem zb3 : (Tryd.prog.info? 3).map (·.bytes) = some 8 := by kernel_rfl
theorem zs4 : (Tryd.prog.info? 4).map (·.size) = some 1 := by kernel_rfl
theorem zz4 : (Tryd.prog.info? 4).map (·.zero) = some (some (Value.bool false)) := by kernel_rfl
theorem zs5 : (Tryd.prog.info? 5).map (·.size) = some 1 := by kernel_rfl
theorem zz5 : (Tryd.prog.info? 5).map (·.zero) = some (some (Value.int .u8 0)) := by kernel_rfl
theorem zs9 : (Tryd.prog.info? 9).map (·.size) = some 1 := by kernel_rfl
theorem zz9 : (Tryd.prog.info? 9).map (·.zero) = some (some (Value.string ByteArray.empty)) := by kernel_rfl
theorem zs22 : (Tryd.prog.info? 22).map (·.size) = some 1 := by kernel_rfl
theorem zz22 : (Tryd.prog.info? 22).map (·.zero) = some (some (Value.slice none 0 0)) := by kernel_rfl
theorem zs23 : (Tryd.prog.info? 23).map (·.size) = some 1 := by kernel_rfl
theorem zs31 : (Tryd.prog.info? 31).map (·.size) = some 1 := by kernel_rfl
theorem zs33 : (Tryd.prog.info? 33).map (·.size) = some 3 := by kernel_rfl
theorem zz33 : (Tryd.prog.info? 33).map (·.zero) = some (some (Value.agg #[(Value.int .i64 0), (Value.int .i64 0), (Value.int .i64 0)])) := by kernel_rfl
theorem zb33 : (Tryd.prog.info? 33).map (·.bytes) = some 24 := by kernel_rfl
theorem zs35 : (Tryd.prog.info? 35).map (·.size) = some 9 := by kernel_rfl
theorem zz35 : (Tryd.prog.info? 35).map (·.zero) = some (some (Value.agg #[(Value.int .i64 0), (Value.slice none 0 0), (Value.int .i64 0), (Value.int .i64 0), (Value.int .u64 0), (Value.string ByteArray.empty), (Value.int .i64 0), (Value.int .i64 0), (Value.int .i64 0)])) := by kernel_rfl
theorem zb35 : (Tryd.prog.info? 35).map (·.bytes) = some 96 := by kernel_rfl
theorem zs39 : (Tryd.prog.info? 39).map (·.size) = some 1 := by kernel_rfl
theorem zz39 : (Tryd.prog.info? 39).map (·.zero) = some (some (Value.agg #[(Value.slice none 0 0)])) := by kernel_rfl
theorem zs47 : (Tryd.prog.info? 47).map (·.size) = some 2 := by kernel_rfl
theorem zz47 : (Tryd.prog.info? 47).map (·.zero) = some (some (Value.agg #[(Value.int .i64 0), (Value.int .i64 0)])) := by kernel_rfl
theorem zb47 : (Tryd.prog.info? 47).map (·.bytes) = some 16 := by kernel_rfl
theorem zs70 : (Tryd.prog.info? 70).map (·.size) = some 8 := by kernel_rfl
theorem zz70 : (Tryd.prog.info? 70).map (·.zero) = some (some (Value.agg #[(Value.int .i64 0), (Value.int .i64 0), (Value.int .i64 0), (Value.int .u64 0), (Value.string ByteArray.empty), (Value.int .i64 0), (Value.int .i64 0), (Value.int .i64 0)])) := by kernel_rfl
theorem zs74 : (Tryd.prog.info? 74).map (·.size) = some 1 := by kernel_rfl
theorem zz74 : (Tryd.prog.info? 74).map (·.zero) = some (some Value.nilFunc) := by kernel_rfl
theorem zs76 : (Tryd.prog.info? 76).map (·.size) = some 5 := by kernel_rfl
theorem zz76 : (Tryd.prog.info? 76).map (·.zero) = some (some (Value.agg #[(Value.slice none 0 0), (Value.slice none 0 0), (Value.slice none 0 0), (Value.int .i64 0), (Value.bool false)])) := by kernel_rfl
theorem zs96 : (Tryd.prog.info? 96).map (·.size) = some 1 := by kernel_rfl
theorem zs98 : (Tryd.prog.info? 98).map (·.size) = some 4 := by kernel_rfl
theorem zz98 : (Tryd.prog.info? 98).map (·.zero) = some (some (Value.agg #[(Value.int .i64 0), (Value.int .u8 0), (Value.int .u8 0), (Value.slice none 0 0)])) := by kernel_rfl
theorem zb98 : (Tryd.prog.info? 98).map (·.bytes) = some 40 := by kernel_rfl
theorem zs121 : (Tryd.prog.info? 121).map (·.size) = some 1 := by kernel_rfl
theorem zz124 : (Tryd.prog.info? 124).map (·.zero) = some (some (Value.agg #[(Value.slice none 0 0), (Value.int .i64 0), (Value.bool false)])) := by kernel_rfl
theorem zs127 : (Tryd.prog.info? 127).map (·.size) = some 6 := by kernel_rfl
theorem zz127 : (Tryd.prog.info? 127).map (·.zero) = some (some (Value.agg #[(Value.string ByteArray.empty), (Value.int .i64 0), (Value.int .i64 0), (Value.int .u8 0), (Value.int .u8 0), (Value.slice none 0 0)])) := by kernel_rfl
theorem zb127 : (Tryd.prog.info? 127).map (·.bytes) = some 64 := by kernel_rfl
theorem pl33 : ∀ w, ((#[{ name := "Kind", type := 3, offset := 0, embedded := false, tag := "", pkgPath := "", byteOffset := 0 }, { name := "N", type := 3, offset := 1, embedded := false, tag := "", pkgPath := "", byteOffset := 8 }, { name := "Index", type := 3, offset := 2, embedded := false, tag := "", pkgPath := "", byteOffset := 16 }] : Array Field).mapM fun f => do pure (f.offset, ← sizeOf f.type) : Sem (Array (Nat × Nat))).run Tryd.prog w = .ok #[(0, 1), (1, 1), (2, 1)] w := places [1, 1, 1] (by kernel_rfl)
theorem pl35 : ∀ w, ((#[{ name := "Op", type := 3, offset := 0, embedded := false, tag := "", pkgPath := "", byteOffset := 0 }, { name := "Kids", type := 22, offset := 1, embedded := false, tag := "", pkgPath := "", byteOffset := 8 }, { name := "N", type := 3, offset := 2, embedded := false, tag := "", pkgPath := "", byteOffset := 32 }, { name := "M", type := 3, offset := 3, embedded := false, tag := "", pkgPath := "", byteOffset := 40 }, { name := "U", type := 31, offset := 4, embedded := false, tag := "", pkgPath := "", byteOffset := 48 }, { name := "Text", type := 9, offset := 5, embedded := false, tag := "", pkgPath := "", byteOffset := 56 }, { name := "Sort", type := 33, offset := 6, embedded := false, tag := "", pkgPath := "", byteOffset := 72 }] : Array Field).mapM fun f => do pure (f.offset, ← sizeOf f.type) : Sem (Array (Nat × Nat))).run Tryd.prog w = .ok #[(0, 1), (1, 1), (2, 1), (3, 1), (4, 1), (5, 1), (6, 3)] w := places [1, 1, 1, 1, 1, 1, 3] (by kernel_rfl)
theorem pl39 : ∀ w, ((#[{ name := "Nodes", type := 23, offset := 0, embedded := false, tag := "", pkgPath := "", byteOffset := 0 }] : Array Field).mapM fun f => do pure (f.offset, ← sizeOf f.type) : Sem (Array (Nat × Nat))).run Tryd.prog w = .ok #[(0, 1)] w := places [1] (by kernel_rfl)
theorem pl70 : ∀ w, ((#[{ name := "op", type := 3, offset := 0, embedded := false, tag := "", pkgPath := "enthymeme/match", byteOffset := 0 }, { name := "n", type := 3, offset := 1, embedded := false, tag := "", pkgPath := "enthymeme/match", byteOffset := 8 }, { name := "m", type := 3, offset := 2, embedded := false, tag := "", pkgPath := "enthymeme/match", byteOffset := 16 }, { name := "u", type := 31, offset := 3, embedded := false, tag := "", pkgPath := "enthymeme/match", byteOffset := 24 }, { name := "text", type := 9, offset := 4, embedded := false, tag := "", pkgPath := "enthymeme/match", byteOffset := 32 }, { name := "sort", type := 33, offset := 5, embedded := false, tag := "", pkgPath := "enthymeme/match", byteOffset := 48 }] : Array Field).mapM fun f => do pure (f.offset, ← sizeOf f.type) : Sem (Array (Nat × Nat))).run Tryd.prog w = .ok #[(0, 1), (1, 1), (2, 1), (3, 1), (4, 1), (5, 3)] w := places [1, 1, 1, 1, 1, 3] (by kernel_rfl)
theorem pl76 : ∀ w, ((#[{ name := "p", type := 39, offset := 0, embedded := false, tag := "", pkgPath := "enthymeme/match", byteOffset := 0 }, { name := "g", type := 39, offset := 1, embedded := false, tag := "", pkgPath := "enthymeme/match", byteOffset := 24 }, { name := "list", type := 22, offset := 2, embedded := false, tag := "", pkgPath := "enthymeme/match", byteOffset := 48 }, { name := "fuel", type := 3, offset := 3, embedded := false, tag := "", pkgPath := "enthymeme/match", byteOffset := 72 }, { name := "spent", type := 4, offset := 4, embedded := false, tag := "", pkgPath := "enthymeme/match", byteOffset := 80 }] : Array Field).mapM fun f => do pure (f.offset, ← sizeOf f.type) : Sem (Array (Nat × Nat))).run Tryd.prog w = .ok #[(0, 1), (1, 1), (2, 1), (3, 1), (4, 1)] w := places [1, 1, 1, 1, 1] (by kernel_rfl)
theorem pl98 : ∀ w, ((#[{ name := "Kind", type := 3, offset := 0, embedded := false, tag := "", pkgPath := "", byteOffset := 0 }, { name := "Lo", type := 5, offset := 1, embedded := false, tag := "", pkgPath := "", byteOffset := 8 }, { name := "Hi", type := 5, offset := 2, embedded := false, tag := "", pkgPath := "", byteOffset := 9 }, { name := "Kids", type := 96, offset := 3, embedded := false, tag := "", pkgPath := "", byteOffset := 16 }] : Array Field).mapM fun f => do pure (f.offset, ← sizeOf f.type) : Sem (Array (Nat × Nat))).run Tryd.prog w = .ok #[(0, 1), (1, 1), (2, 1), (3, 1)] w := places [1, 1, 1, 1] (by kernel_rfl)
theorem pl124 : ∀ w, ((#[{ name := "l", type := 121, offset := 0, embedded := false, tag := "", pkgPath := "enthymeme/enthymemeref04", byteOffset := 0 }, { name := "i", type := 3, offset := 1, embedded := false, tag := "", pkgPath := "enthymeme/enthymemeref04", byteOffset := 24 }, { name := "bad", type := 4, offset := 2, embedded := false, tag := "", pkgPath := "enthymeme/enthymemeref04", byteOffset := 32 }] : Array Field).mapM fun f => do pure (f.offset, ← sizeOf f.type) : Sem (Array (Nat × Nat))).run Tryd.prog w = .ok #[(0, 1), (1, 1), (2, 1)] w := places [1, 1, 1] (by kernel_rfl)
theorem pl127 : ∀ w, ((#[{ name := "Text", type := 9, offset := 0, embedded := false, tag := "", pkgPath := "", byteOffset := 0 }, { name := "At", type := 3, offset := 1, embedded := false, tag := "", pkgPath := "", byteOffset := 16 }, { name := "R", type := 98, offset := 2, embedded := false, tag := "", pkgPath := "", byteOffset := 24 }] : Array Field).mapM fun f => do pure (f.offset, ← sizeOf f.type) : Sem (Array (Nat × Nat))).run Tryd.prog w = .ok #[(0, 1), (1, 1), (2, 4)] w := places [1, 1, 4] (by kernel_rfl)
theorem is33 : Is3 Tryd.prog 33 ∧ Tryd.prog.eqGuardType Tryd.prog.depth 33 = false := ⟨⟨_, _, _, Tryd.underlying33, by kernel_rfl, by decide, by decide, by decide, rfl, rfl, rfl, Tryd.underlying3, Tryd.underlying3, Tryd.underlying3⟩, by kernel_rfl⟩
theorem is70 : Is8 Tryd.prog 70 ∧ Tryd.prog.eqGuardType Tryd.prog.depth 70 = false := ⟨⟨_, _, _, _, _, _, Tryd.underlying70, by kernel_rfl, ⟨by decide, by decide, by decide, by decide, by decide, by decide⟩, ⟨rfl, rfl, rfl, rfl, rfl, rfl⟩, Tryd.underlying3, Tryd.underlying3, Tryd.underlying3, Tryd.underlying31, Tryd.underlying9, is33.1, zs33⟩, by kernel_rfl⟩
theorem ca7 : Callable Tryd.prog 7 := ⟨_, Tryd.func7, rfl, rfl⟩
theorem ca8 : Callable Tryd.prog 8 := ⟨_, Tryd.func8, rfl, rfl⟩
theorem ca10 : Callable Tryd.prog 10 := ⟨_, Tryd.func10, rfl, rfl⟩
theorem ca11 : Callable Tryd.prog 11 := ⟨_, Tryd.func11, rfl, rfl⟩
theorem ca12 : Callable Tryd.prog 12 := ⟨_, Tryd.func12, rfl, rfl⟩
theorem ca13 : Callable Tryd.prog 13 := ⟨_, Tryd.func13, rfl, rfl⟩
theorem ca15 : Callable Tryd.prog 15 := ⟨_, Tryd.func15, rfl, rfl⟩
theorem ca16 : Callable Tryd.prog 16 := ⟨_, Tryd.func16, rfl, rfl⟩
theorem ca17 : Callable Tryd.prog 17 := ⟨_, Tryd.func17, rfl, rfl⟩
theorem ca18 : Callable Tryd.prog 18 := ⟨_, Tryd.func18, rfl, rfl⟩
theorem ca19 : Callable Tryd.prog 19 := ⟨_, Tryd.func19, rfl, rfl⟩
theorem ca22 : Callable Tryd.prog 22 := ⟨_, Tryd.func22, rfl, rfl⟩
theorem ca23 : Callable Tryd.prog 23 := ⟨_, Tryd.func23, rfl, rfl⟩
theorem ca24 : Callable Tryd.prog 24 := ⟨_, Tryd.func24, rfl, rfl⟩
theorem ca25 : Callable Tryd.prog 25 := ⟨_, Tryd.func25, rfl, rfl⟩
theorem ca26 : Callable Tryd.prog 26 := ⟨_, Tryd.func26, rfl, rfl⟩
theorem ca30 : Callable Tryd.prog 30 := ⟨_, Tryd.func30, rfl, rfl⟩
theorem ca31 : Callable Tryd.prog 31 := ⟨_, Tryd.func31, rfl, rfl⟩
theorem ca33 : Callable Tryd.prog 33 := ⟨_, Tryd.func33, rfl, rfl⟩
theorem ca34 : Callable Tryd.prog 34 := ⟨_, Tryd.func34, rfl, rfl⟩
theorem ca35 : Callable Tryd.prog 35 := ⟨_, Tryd.func35, rfl, rfl⟩
theorem ca36 : Callable Tryd.prog 36 := ⟨_, Tryd.func36, rfl, rfl⟩
theorem ca37 : Callable Tryd.prog 37 := ⟨_, Tryd.func37, rfl, rfl⟩
theorem ca38 : Callable Tryd.prog 38 := ⟨_, Tryd.func38, rfl, rfl⟩
theorem ca42 : Callable Tryd.prog 42 := ⟨_, Tryd.func42, rfl, rfl⟩
theorem ca43 : Callable Tryd.prog 43 := ⟨_, Tryd.func43, rfl, rfl⟩
theorem ca44 : Callable Tryd.prog 44 := ⟨_, Tryd.func44, rfl, rfl⟩
theorem ca45 : Callable Tryd.prog 45 := ⟨_, Tryd.func45, rfl, rfl⟩
theorem ca46 : Callable Tryd.prog 46 := ⟨_, Tryd.func46, rfl, rfl⟩
theorem ca47 : Callable Tryd.prog 47 := ⟨_, Tryd.func47, rfl, rfl⟩
theorem ca48 : Callable Tryd.prog 48 := ⟨_, Tryd.func48, rfl, rfl⟩
theorem ca49 : Callable Tryd.prog 49 := ⟨_, Tryd.func49, rfl, rfl⟩
theorem ca50 : Callable Tryd.prog 50 := ⟨_, Tryd.func50, rfl, rfl⟩
theorem ca51 : Callable Tryd.prog 51 := ⟨_, Tryd.func51, rfl, rfl⟩
theorem ca52 : Callable Tryd.prog 52 := ⟨_, Tryd.func52, rfl, rfl⟩
theorem ca53 : Callable Tryd.prog 53 := ⟨_, Tryd.func53, rfl, rfl⟩
theorem ca54 : Callable Tryd.prog 54 := ⟨_, Tryd.func54, rfl, rfl⟩
theorem ca55 : Callable Tryd.prog 55 := ⟨_, Tryd.func55, rfl, rfl⟩
theorem ca56 : Callable Tryd.prog 56 := ⟨_, Tryd.func56, rfl, rfl⟩
theorem ca57 : Callable Tryd.prog 57 := ⟨_, Tryd.func57, rfl, rfl⟩
theorem ca58 : Callable Tryd.prog 58 := ⟨_, Tryd.func58, rfl, rfl⟩
theorem ca59 : Callable Tryd.prog 59 := ⟨_, Tryd.func59, rfl, rfl⟩
theorem ca60 : Callable Tryd.prog 60 := ⟨_, Tryd.func60, rfl, rfl⟩
theorem ca61 : Callable Tryd.prog 61 := ⟨_, Tryd.func61, rfl, rfl⟩
theorem ca62 : Callable Tryd.prog 62 := ⟨_, Tryd.func62, rfl, rfl⟩
theorem ca63 : Callable Tryd.prog 63 := ⟨_, Tryd.func63, rfl, rfl⟩
theorem ca64 : Callable Tryd.prog 64 := ⟨_, Tryd.func64, rfl, rfl⟩
theorem ca65 : Callable Tryd.prog 65 := ⟨_, Tryd.func65, rfl, rfl⟩
theorem ca66 : Callable Tryd.prog 66 := ⟨_, Tryd.func66, rfl, rfl⟩
theorem ca67 : Callable Tryd.prog 67 := ⟨_, Tryd.func67, rfl, rfl⟩
theorem ca68 : Callable Tryd.prog 68 := ⟨_, Tryd.func68, rfl, rfl⟩
theorem ca69 : Callable Tryd.prog 69 := ⟨_, Tryd.func69, rfl, rfl⟩
theorem ca70 : Callable Tryd.prog 70 := ⟨_, Tryd.func70, rfl, rfl⟩
theorem ca71 : Callable Tryd.prog 71 := ⟨_, Tryd.func71, rfl, rfl⟩
theorem ca72 : Callable Tryd.prog 72 := ⟨_, Tryd.func72, rfl, rfl⟩
theorem ca76 : Callable Tryd.prog 76 := ⟨_, Tryd.func76, rfl, rfl⟩
theorem ca77 : Callable Tryd.prog 77 := ⟨_, Tryd.func77, rfl, rfl⟩
theorem ca78 : Callable Tryd.prog 78 := ⟨_, Tryd.func78, rfl, rfl⟩
theorem ca79 : Callable Tryd.prog 79 := ⟨_, Tryd.func79, rfl, rfl⟩
theorem ca80 : Callable Tryd.prog 80 := ⟨_, Tryd.func80, rfl, rfl⟩
theorem ca81 : Callable Tryd.prog 81 := ⟨_, Tryd.func81, rfl, rfl⟩
theorem ca82 : Callable Tryd.prog 82 := ⟨_, Tryd.func82, rfl, rfl⟩
theorem ca83 : Callable Tryd.prog 83 := ⟨_, Tryd.func83, rfl, rfl⟩
theorem ca84 : Callable Tryd.prog 84 := ⟨_, Tryd.func84, rfl, rfl⟩
theorem ca85 : Callable Tryd.prog 85 := ⟨_, Tryd.func85, rfl, rfl⟩
theorem ca86 : Callable Tryd.prog 86 := ⟨_, Tryd.func86, rfl, rfl⟩
theorem ca92 : Callable Tryd.prog 92 := ⟨_, Tryd.func92, rfl, rfl⟩
theorem ca93 : Callable Tryd.prog 93 := ⟨_, Tryd.func93, rfl, rfl⟩
theorem ca94 : Callable Tryd.prog 94 := ⟨_, Tryd.func94, rfl, rfl⟩
theorem ca95 : Callable Tryd.prog 95 := ⟨_, Tryd.func95, rfl, rfl⟩
theorem ca96 : Callable Tryd.prog 96 := ⟨_, Tryd.func96, rfl, rfl⟩
theorem ca99 : Callable Tryd.prog 99 := ⟨_, Tryd.func99, rfl, rfl⟩
theorem ca100 : Callable Tryd.prog 100 := ⟨_, Tryd.func100, rfl, rfl⟩
theorem ca101 : Callable Tryd.prog 101 := ⟨_, Tryd.func101, rfl, rfl⟩
theorem ca102 : Callable Tryd.prog 102 := ⟨_, Tryd.func102, rfl, rfl⟩
theorem ca103 : Callable Tryd.prog 103 := ⟨_, Tryd.func103, rfl, rfl⟩
theorem ca104 : Callable Tryd.prog 104 := ⟨_, Tryd.func104, rfl, rfl⟩
theorem ca105 : Callable Tryd.prog 105 := ⟨_, Tryd.func105, rfl, rfl⟩
theorem ca106 : Callable Tryd.prog 106 := ⟨_, Tryd.func106, rfl, rfl⟩
theorem ap22_22 : AppT Tryd.prog 22 22 3 1 8 (Value.int .i64 0) := ⟨Tryd.underlying22, ⟨_, Tryd.underlying22, fun _ h => by cases h⟩, zs3, zb3, zz3, rfl, by decide⟩
theorem ap46_46 : AppT Tryd.prog 46 46 47 2 16 (Value.agg #[(Value.int .i64 0), (Value.int .i64 0)]) := ⟨Tryd.underlying46, ⟨_, Tryd.underlying46, fun _ h => by cases h⟩, zs47, zb47, zz47, rfl, by decide⟩
theorem ap23_23 : AppT Tryd.prog 23 23 35 9 96 (Value.agg #[(Value.int .i64 0), (Value.slice none 0 0), (Value.int .i64 0), (Value.int .i64 0), (Value.int .u64 0), (Value.string ByteArray.empty), (Value.int .i64 0), (Value.int .i64 0), (Value.int .i64 0)]) := ⟨Tryd.underlying23, ⟨_, Tryd.underlying23, fun _ h => by cases h⟩, zs35, zb35, zz35, rfl, by decide⟩
theorem ap85_85 : AppT Tryd.prog 85 85 33 3 24 (Value.agg #[(Value.int .i64 0), (Value.int .i64 0), (Value.int .i64 0)]) := ⟨Tryd.underlying85, ⟨_, Tryd.underlying85, fun _ h => by cases h⟩, zs33, zb33, zz33, rfl, by decide⟩
theorem ap96_96 : AppT Tryd.prog 96 96 98 4 40 (Value.agg #[(Value.int .i64 0), (Value.int .u8 0), (Value.int .u8 0), (Value.slice none 0 0)]) := ⟨Tryd.underlying96, ⟨_, Tryd.underlying96, fun _ h => by cases h⟩, zs98, zb98, zz98, rfl, by decide⟩
theorem ap121_121 : AppT Tryd.prog 121 121 127 6 64 (Value.agg #[(Value.string ByteArray.empty), (Value.int .i64 0), (Value.int .i64 0), (Value.int .u8 0), (Value.int .u8 0), (Value.slice none 0 0)]) := ⟨Tryd.underlying121, ⟨_, Tryd.underlying121, fun _ h => by cases h⟩, zs127, zb127, zz127, rfl, by decide⟩
end Go.Aw
namespace Go.Aw
open Go.RowKit Go.Proofs
theorem td : (∀ (p : Prop) [Decidable p], (decide p = true) = p) ∧ (∀ (p : Prop) [Decidable p], (decide p = false) ↔ ¬ p) ∧ (∀ a b : Bool, ((a && b) = true) = (a = true ∧ b = true)) ∧ (∀ a b : Bool, ((a || b) = true) = (a = true ∨ b = true)) ∧ (∀ b : Bool, ((!b) = true) = (b = false)) ∧ (∀ a b : Bool, ((a && b) = false) ↔ (a = false ∨ b = false)) ∧ (∀ a b : Bool, ((a || b) = false) ↔ (a = false ∧ b = false)) ∧ (∀ b : Bool, ((!b) = false) = (b = true)) ∧ (∀ p : Prop, (¬ ¬ p) ↔ p) ∧ (∀ a b : Int, (¬ a < b) ↔ b ≤ a) ∧ (∀ a b : Int, (¬ a ≤ b) ↔ b < a) :=
  ⟨fun _ _ => decide_eq_true_eq, fun _ _ => decide_eq_false_iff_not, Bool.and_eq_true, Bool.or_eq_true, Bool.not_eq_true', fun _ _ => Bool.and_eq_false_iff, fun _ _ => Bool.or_eq_false_iff, Bool.not_eq_false', fun _ => Classical.not_not, fun _ _ => Int.not_lt, fun _ _ => Int.not_le⟩
theorem bl {n m : Nat} (h : Nat.ble n m = true) : n ≤ m := Nat.le_of_ble_eq_true h
section
variable {K : Ctx} {m : Nat} {Q : Post} {S : St} {ops : Array Oper} {rest : List Oper} {ty : TypeId} {pos : String} {af : Array Edge}
theorem tm {t : Nat} {x : AV} (h : S.get t = some x) : Ev K S (.tmp t) x := Ev.tmp h
theorem mv {d t : Nat} {x : AV} (h : S.get t = some x) (hd : Nat.ble (d + 1) S.n = true) (hw : WL K m ops Q rest (S.put d x)) : WL K m ops Q (⟨some d, .move (.tmp t), ty, pos, af, none⟩ :: rest) S := WL.v (Val.move (Ev.tmp h)) hd hw
theorem asg {d t : Nat} {x : AV} (h : S.get t = some x) (hd : Nat.ble (d + 1) S.n = true) (hw : WL K m ops Q rest (S.put d x)) : WL K m ops Q (⟨some d, .assign (.tmp t), ty, pos, af, none⟩ :: rest) S := WL.v (Val.assign (Ev.tmp h)) hd hw
theorem wn {next : St → Prop} (h : next S) : WL K m ops (andThen next Q) [] S := WL.nil h
theorem sr {id : Nat} {l : List Oper} {y : Code} (h : WL K m l.toArray (andThen (W K m y Q) Q) l S) : W K m (.seq (.region id l.toArray false) y) Q S := W.seq (W.region h)
end
end Go.Aw
namespace Go.Aw
open Go.RowKit Go.Proofs

/-- A number made small. -/
def around (n most : Int) : Int := (if n < 0 then -(n + 1) else n) % most
theorem around_neg {n most : Int} (h : n < 0) (hm : 1 ≤ most) : around n most = (0 - (n + 1)).tmod most := by
  rw [around, if_pos h, Int.tmod_eq_emod_of_nonneg (by omega)]; congr 1; omega
theorem around_pos {n most : Int} (h : 0 ≤ n) (hm : 1 ≤ most) : around n most = n.tmod most := by
  rw [around, if_neg (by omega), Int.tmod_eq_emod_of_nonneg h]
theorem around_range {n most : Int} (hm : 1 ≤ most) : 0 ≤ around n most ∧ around n most < most := ⟨Int.emod_nonneg _ (by omega), Int.emod_lt_of_pos _ (by omega)⟩
theorem has_step {l : List Int} {n k : Int} (h0 : 0 ≤ k) (h1 : k < l.length) (h : ∀ j : Nat, j < k.toNat → l[j]? ≠ some n) (hc : ¬ gA l k = n) : ∀ j : Nat, j < (k + 1).toNat → l[j]? ≠ some n := by
  intro j hj
  by_cases hjk : j < k.toNat
  · exact h j hjk
  · have : j = k.toNat := by omega
    subst this
    rw [gA_at h0 h1]; simpa using hc
theorem has_end {l : List Int} {n k : Int} (h0 : 0 ≤ k) (h1 : l.length ≤ k) (h : ∀ j : Nat, j < k.toNat → l[j]? ≠ some n) : n ∉ l := by
  intro hm
  obtain ⟨j, hj⟩ := List.getElem?_of_mem hm
  have := (List.getElem?_eq_some_iff.1 hj).1
  exact h j (by omega) hj
theorem same_step {α : Type} [Inhabited α] {a b : List α} {k : Int} (h0 : 0 ≤ k) (h1 : k < a.length) (h2 : k < b.length) (h : ∀ j : Nat, j < k.toNat → a[j]? = b[j]?) (hc : gA a k = gA b k) : ∀ j : Nat, j < (k + 1).toNat → a[j]? = b[j]? := by
  intro j hj
  by_cases hjk : j < k.toNat
  · exact h j hjk
  · have : j = k.toNat := by omega
    subst this
    rw [gA_at h0 h1, gA_at h0 h2, hc]
theorem same_end {α : Type} {a b : List α} {k : Int} (h0 : 0 ≤ k) (h1 : a.length ≤ k) (h2 : b.length = a.length) (h : ∀ j : Nat, j < k.toNat → a[j]? = b[j]?) : a = b := by
  apply List.ext_getElem?
  intro j
  by_cases hj : j < k.toNat
  · exact h j hj
  · rw [List.getElem?_eq_none (by omega), List.getElem?_eq_none (by omega)]
def kidsOf (op : Int) : Int := if op < 0 ∨ 34 < op then -1 else if op ≤ 3 then 0 else if op = 4 ∨ op = 5 ∨ op = 21 ∨ op = 22 ∨ op = 23 ∨ op = 27 ∨ op = 28 ∨ op = 33 ∨ op = 34 then 1 else if op = 19 ∨ op = 25 ∨ op = 30 ∨ op = 32 then 3 else 2
theorem kidsOf_le (op : Int) : kidsOf op ≤ 3 := by unfold kidsOf; repeat' split; all_goals omega
def elemSrt (s : Srt) : Srt := if s.kind = 2 then ⟨0, s.n, 0⟩ else ⟨1, s.n, 0⟩

-- enthymemeref01.Around
set_option maxHeartbeats 1000000 in
theorem c_Around (W0 : World) (N : Nat) (n most : Int) (hn : I6 n) (hm : 1 ≤ most) : AC (En W0 N) 8 [.i n, .i most] [] (fun r h => h = [] ∧ r = .i (around n most)) := by
  refine AC.enter Tryd.func8 rfl Tryd.ntmps8 (bl rfl) fun X => ?_
  obtain ⟨hn0, hn1⟩ := hn
  refine sr ?_
  refine WL.v (Val.assign Ev.const) rfl ?_
  refine WL.norm 13 [(0, _), (1, _)] [] rfl ⟨rfl, rfl, trivial⟩ rfl rfl ?_
  refine wn ?_
  refine W.seq ?_
  refine sr ?_
  refine mv rfl rfl ?_
  refine WL.v (Val.lss (tm rfl) Ev.const) rfl ?_
  refine WL.norm 13 [(0, _), (1, _), (6, _)] [] rfl ⟨rfl, rfl, rfl, trivial⟩ rfl rfl ?_
  refine wn ?_
  refine W.condP rfl (fun hc1 => ?_) (fun hc1 => ?_)
  · try simp only [td] at hc1
    refine W.region ?_
    refine mv rfl rfl ?_
    refine WL.v (Val.add (tm rfl) Ev.const (IntWalk.i64_in _ (by omega))) rfl ?_
    refine WL.v (Val.neg (tm rfl) (IntWalk.i64_in _ (by omega))) rfl ?_
    refine asg rfl rfl ?_
    refine WL.norm 13 [(0, _), (1, _)] [] rfl ⟨rfl, rfl, trivial⟩ rfl rfl ?_
    refine wn ?_
    refine sr ?_
    refine mv rfl rfl ?_
    refine mv rfl rfl ?_
    refine WL.v (Val.rem (tm rfl) (tm rfl) (by omega) rfl) rfl ?_
    refine asg rfl rfl ?_
    refine WL.norm 13 [(4, _)] [] rfl ⟨rfl, trivial⟩ rfl rfl ?_
    refine wn ?_
    refine W.ret ?_
    have e : around n most = _ := around_neg hc1 hm
    exact Ret.of (.inr rfl) rfl (res1 rfl rfl) (Fewer.nil _) (.inr trivial) (fun id h => absurd h (Nat.not_lt_zero _)) (.same rfl) ⟨rfl, by rw [e]⟩
  try simp only [td] at hc1
  refine W.skip (nm ?_)
  refine sr ?_
  refine mv rfl rfl ?_
  refine mv rfl rfl ?_
  refine WL.v (Val.rem (tm rfl) (tm rfl) (by omega) rfl) rfl ?_
  refine asg rfl rfl ?_
  refine WL.norm 13 [(4, _)] [] rfl ⟨rfl, trivial⟩ rfl rfl ?_
  refine wn ?_
  refine W.ret ?_
  have e : around n most = _ := around_pos hc1 hm
  exact Ret.of (.inr rfl) rfl (res1 rfl rfl) (Fewer.nil _) (.inr trivial) (fun id h => absurd h (Nat.not_lt_zero _)) (.same rfl) ⟨rfl, by rw [e]⟩
-- enthymemeref01.Has
set_option maxHeartbeats 1000000 in
theorem c_Has (W0 : World) (N : Nat) (l : List Int) (n : Int) (hl : l.length ≤ 1000000) : AC (En W0 N) 48 [.f (.ints l), .i n] [] (fun r h => h = [] ∧ r = .b (decide (n ∈ l))) := by
  refine AC.enter Tryd.func48 rfl Tryd.ntmps48 (bl rfl) fun X => ?_
  refine sr ?_
  refine WL.v (Val.assign Ev.const) rfl ?_
  refine WL.norm 18 [(0, _), (1, _)] [] rfl ⟨rfl, rfl, trivial⟩ rfl rfl ?_
  refine wn ?_
  refine W.seq ?_
  refine sr ?_
  refine WL.v (Val.assign Ev.const) rfl ?_
  refine WL.norm 18 [(0, _), (1, _), (5, _)] [] rfl ⟨rfl, rfl, rfl, trivial⟩ rfl rfl ?_
  refine wn ?_
  refine W.norm 18 [(0, _), (1, _), (5, _)] [] rfl ⟨rfl, rfl, rfl, trivial⟩ rfl rfl ?_
  refine W.block (W.loop (fun nn S => ∃ (k : Int), S = ⟨18, [(0, .f (.ints l)), (1, .i n), (5, .i k)], [], []⟩ ∧ nn = ((l.length - k).toNat) ∧ (0 ≤ k) ∧ (k ≤ l.length) ∧ (∀ j : Nat, j < k.toNat → l[j]? ≠ some n)) ⟨0, rfl, rfl, by omega, by omega, fun j hj => absurd hj (by simp)⟩ ?_)
  rintro nn S ⟨k, rfl, rfl, hf0_0, hf0_1, hf0_2⟩
  refine W.seq ?_
  refine sr ?_
  refine mv rfl rfl ?_
  refine mv rfl rfl ?_
  refine WL.v (Val.ln (enc := encI) Tryd.underlying22 (tm rfl)) rfl ?_
  refine WL.v (Val.lss (tm rfl) (tm rfl)) rfl ?_
  refine WL.norm 18 [(0, _), (1, _), (5, _), (9, _)] [] rfl ⟨rfl, rfl, rfl, rfl, trivial⟩ rfl rfl ?_
  refine wn ?_
  refine W.condP rfl (fun hc2 => ?_) (fun hc2 => ?_)
  · try simp only [td] at hc2
    refine W.skip (nm ?_)
    refine W.seq ?_
    refine W.block ?_
    refine sr ?_
    refine mv rfl rfl ?_
    refine mv rfl rfl ?_
    refine WL.v (Val.ix (enc := encI) Tryd.underlying22 zs3 (tm rfl) (tm rfl) (by omega) (gA_at (by omega) (by omega))) rfl ?_
    refine WL.v (Val.load Tryd.underlying3 rfl (tm rfl)) rfl ?_
    refine mv rfl rfl ?_
    refine WL.v (Val.eql (tm rfl) (tm rfl)) rfl ?_
    refine WL.norm 18 [(0, _), (1, _), (5, _), (17, _)] [] rfl ⟨rfl, rfl, rfl, rfl, trivial⟩ rfl rfl ?_
    refine wn ?_
    refine W.condP rfl (fun hc4 => ?_) (fun hc4 => ?_)
    · try simp only [td] at hc4
      refine sr ?_
      refine WL.v (Val.assign Ev.const) rfl ?_
      refine WL.norm 18 [(4, _)] [] rfl ⟨rfl, trivial⟩ rfl rfl ?_
      refine wn ?_
      refine W.ret (rt2 (rt1 (rt1 (rt2 (rt1 ?_)))))
      have e : n ∈ l := hc4 ▸ gA_mem hf0_0 (by omega)
      exact Ret.of (.inr rfl) rfl (res1 rfl rfl) (Fewer.nil _) (.inr trivial) (fun id h => absurd h (Nat.not_lt_zero _)) (.same rfl) ⟨rfl, by rw [decide_eq_true e]⟩
    try simp only [td] at hc4
    refine W.skip (nb (nm ?_))
    refine W.region ?_
    refine mv rfl rfl ?_
    refine WL.v (Val.add (tm rfl) Ev.const (IntWalk.i64_in _ (by omega))) rfl ?_
    refine asg rfl rfl ?_
    refine WL.norm 18 [(0, _), (1, _), (5, _)] [] rfl ⟨rfl, rfl, rfl, trivial⟩ rfl rfl ?_
    refine wn ?_
    exact ⟨_, by omega, k + 1, rfl, rfl, by omega, by omega, has_step hf0_0 (by omega) hf0_2 hc4⟩
  try simp only [td] at hc2
  refine W.exit (ex1 (ex1 (ex2 (nm ?_))))
  refine sr ?_
  refine WL.v (Val.assign Ev.const) rfl ?_
  refine WL.norm 18 [(4, _)] [] rfl ⟨rfl, trivial⟩ rfl rfl ?_
  refine wn ?_
  refine W.ret ?_
  have e : n ∉ l := has_end hf0_0 (by omega) hf0_2
  exact Ret.of (.inr rfl) rfl (res1 rfl rfl) (Fewer.nil _) (.inr trivial) (fun id h => absurd h (Nat.not_lt_zero _)) (.same rfl) ⟨rfl, by rw [decide_eq_false e]⟩
-- enthymemeref07.has
set_option maxHeartbeats 1000000 in
theorem c_has (W0 : World) (N : Nat) (l : List Int) (n : Int) (hl : l.length ≤ 1000000) : AC (En W0 N) 63 [.f (.ints l), .i n] [] (fun r h => h = [] ∧ r = .b (decide (n ∈ l))) := by
  refine AC.enter Tryd.func63 rfl Tryd.ntmps63 (bl rfl) fun X => ?_
  refine sr ?_
  refine WL.v (Val.assign Ev.const) rfl ?_
  refine WL.norm 8 [(0, _), (1, _)] [] rfl ⟨rfl, rfl, trivial⟩ rfl rfl ?_
  refine wn ?_
  refine sr ?_
  refine mv rfl rfl ?_
  refine mv rfl rfl ?_
  refine WL.callV ca48 (evc (tm rfl) (evc (tm rfl) evn)) (lo1 (lo1 lo0)) rfl (c_Has W0 N _ _ (by first | omega | simp)) ?_
  rintro _ rfl
  refine asg rfl rfl ?_
  refine WL.norm 8 [(4, _)] [] rfl ⟨rfl, trivial⟩ rfl rfl ?_
  refine wn ?_
  refine W.ret ?_
  exact Ret.of (.inr rfl) rfl (res1 rfl rfl) (Fewer.nil _) (.inr trivial) (fun id h => absurd h (Nat.not_lt_zero _)) (.same rfl) ⟨rfl, rfl⟩
-- enthymemeref01.SameInts
set_option maxHeartbeats 1000000 in
theorem c_SameInts (W0 : World) (N : Nat) (a b : List Int) (hl : a.length ≤ 1000000) : AC (En W0 N) 18 [.f (.ints a), .f (.ints b)] [] (fun r h => h = [] ∧ r = .b (decide (a = b))) := by
  refine AC.enter Tryd.func18 rfl Tryd.ntmps18 (bl rfl) fun X => ?_
  refine sr ?_
  refine WL.v (Val.assign Ev.const) rfl ?_
  refine WL.norm 26 [(0, _), (1, _)] [] rfl ⟨rfl, rfl, trivial⟩ rfl rfl ?_
  refine wn ?_
  refine W.seq ?_
  refine sr ?_
  refine mv rfl rfl ?_
  refine WL.v (Val.ln (enc := encI) Tryd.underlying22 (tm rfl)) rfl ?_
  refine mv rfl rfl ?_
  refine WL.v (Val.ln (enc := encI) Tryd.underlying22 (tm rfl)) rfl ?_
  refine WL.v (Val.neq (tm rfl) (tm rfl)) rfl ?_
  refine WL.norm 26 [(0, _), (1, _), (10, _)] [] rfl ⟨rfl, rfl, rfl, trivial⟩ rfl rfl ?_
  refine wn ?_
  refine W.condP rfl (fun hc1 => ?_) (fun hc1 => ?_)
  · try simp only [td] at hc1
    refine sr ?_
    refine WL.v (Val.assign Ev.const) rfl ?_
    refine WL.norm 26 [(4, _)] [] rfl ⟨rfl, trivial⟩ rfl rfl ?_
    refine wn ?_
    refine W.ret (rt1 ?_)
    have e : a ≠ b := fun h => hc1 (by rw [h])
    exact Ret.of (.inr rfl) rfl (res1 rfl rfl) (Fewer.nil _) (.inr trivial) (fun id h => absurd h (Nat.not_lt_zero _)) (.same rfl) ⟨rfl, by rw [decide_eq_false e]⟩
  try simp only [td] at hc1
  refine W.skip (nm ?_)
  refine W.seq ?_
  refine sr ?_
  refine WL.v (Val.assign Ev.const) rfl ?_
  refine WL.norm 26 [(0, _), (1, _), (5, _)] [] rfl ⟨rfl, rfl, rfl, trivial⟩ rfl rfl ?_
  refine wn ?_
  refine W.norm 26 [(0, _), (1, _), (5, _)] [] rfl ⟨rfl, rfl, rfl, trivial⟩ rfl rfl ?_
  refine W.block (W.loop (fun nn S => ∃ (k : Int), S = ⟨26, [(0, .f (.ints a)), (1, .f (.ints b)), (5, .i k)], [], []⟩ ∧ nn = ((a.length - k).toNat) ∧ (0 ≤ k) ∧ (k ≤ a.length) ∧ (∀ j : Nat, j < k.toNat → a[j]? = b[j]?)) ⟨0, rfl, rfl, by omega, by omega, fun j hj => absurd hj (by simp)⟩ ?_)
  rintro nn S ⟨k, rfl, rfl, hf0_0, hf0_1, hf0_2⟩
  refine W.seq ?_
  refine sr ?_
  refine mv rfl rfl ?_
  refine mv rfl rfl ?_
  refine WL.v (Val.ln (enc := encI) Tryd.underlying22 (tm rfl)) rfl ?_
  refine WL.v (Val.lss (tm rfl) (tm rfl)) rfl ?_
  refine WL.norm 26 [(0, _), (1, _), (5, _), (14, _)] [] rfl ⟨rfl, rfl, rfl, rfl, trivial⟩ rfl rfl ?_
  refine wn ?_
  refine W.condP rfl (fun hc4 => ?_) (fun hc4 => ?_)
  · try simp only [td] at hc4
    refine W.skip (nm ?_)
    refine W.seq ?_
    refine W.block ?_
    refine W.seq ?_
    refine W.drawE (fun _ => ([], [])) rfl (by kernel_rfl) (bl rfl) ?_
    refine LexE.val rfl rfl rfl (fun h' ha => Val.move (tm rfl)) ?_
    refine LexE.val rfl rfl rfl (fun h' ha => Val.move (tm rfl)) ?_
    refine LexE.val rfl rfl rfl (fun h' ha => Val.ix (enc := encI) Tryd.underlying22 zs3 (tm rfl) (tm rfl) (by omega) (gA_at (by omega) (by omega))) ?_
    refine LexE.val rfl rfl rfl (fun h' ha => Val.load Tryd.underlying3 rfl (tm rfl)) ?_
    refine LexE.val rfl rfl rfl (fun h' ha => Val.move (tm rfl)) ?_
    refine LexE.val rfl rfl rfl (fun h' ha => Val.move (tm rfl)) ?_
    refine LexE.val rfl rfl rfl (fun h' ha => Val.ix (enc := encI) Tryd.underlying22 zs3 (tm rfl) (tm rfl) (by omega) (gA_at (by omega) (by omega))) ?_
    refine LexE.val rfl rfl rfl (fun h' ha => Val.load Tryd.underlying3 rfl (tm rfl)) ?_
    refine LexE.val rfl rfl rfl (fun h' ha => Val.neq (tm rfl) (tm rfl)) ?_
    refine LexE.nil (nm ?_)
    refine W.norm 26 [(0, _), (1, _), (5, _), (25, _)] [] rfl ⟨rfl, rfl, rfl, rfl, trivial⟩ rfl rfl ?_
    refine W.condP rfl (fun hc6 => ?_) (fun hc6 => ?_)
    · try simp only [td] at hc6
      refine sr ?_
      refine WL.v (Val.assign Ev.const) rfl ?_
      refine WL.norm 26 [(4, _)] [] rfl ⟨rfl, trivial⟩ rfl rfl ?_
      refine wn ?_
      refine W.ret (rt2 (rt1 (rt1 (rt2 (rt1 ?_)))))
      have e : a ≠ b := fun h => hc6 (by rw [h])
      exact Ret.of (.inr rfl) rfl (res1 rfl rfl) (Fewer.nil _) (.inr trivial) (fun id h => absurd h (Nat.not_lt_zero _)) (.same rfl) ⟨rfl, by rw [decide_eq_false e]⟩
    try simp only [td] at hc6
    refine W.skip (nb (nm ?_))
    refine W.region ?_
    refine mv rfl rfl ?_
    refine WL.v (Val.add (tm rfl) Ev.const (IntWalk.i64_in _ (by omega))) rfl ?_
    refine asg rfl rfl ?_
    refine WL.norm 26 [(0, _), (1, _), (5, _)] [] rfl ⟨rfl, rfl, rfl, trivial⟩ rfl rfl ?_
    refine wn ?_
    exact ⟨_, by omega, k + 1, rfl, rfl, by omega, by omega, same_step hf0_0 (by omega) (by omega) hf0_2 hc6⟩
  try simp only [td] at hc4
  refine W.exit (ex1 (ex1 (ex2 (nm ?_))))
  refine sr ?_
  refine WL.v (Val.assign Ev.const) rfl ?_
  refine WL.norm 26 [(4, _)] [] rfl ⟨rfl, trivial⟩ rfl rfl ?_
  refine wn ?_
  refine W.ret ?_
  have e : a = b := same_end hf0_0 (by omega) (by omega) hf0_2
  exact Ret.of (.inr rfl) rfl (res1 rfl rfl) (Fewer.nil _) (.inr trivial) (fun id h => absurd h (Nat.not_lt_zero _)) (.same rfl) ⟨rfl, by rw [decide_eq_true e]⟩
-- match.isNode
set_option maxHeartbeats 1000000 in
theorem c_isNode (W0 : World) (N : Nat) (g : List Nd) (n : Int) : AC (En W0 N) 30 [.agg [.f (.nodes g)], .i n] [] (fun r h => h = [] ∧ r = .b (decide (0 ≤ n) && decide (n < g.length))) := by
  refine AC.enter Tryd.func30 rfl Tryd.ntmps30 (bl rfl) fun X => ?_
  refine sr ?_
  refine WL.stp rfl (Stp.box (tm rfl) rfl rfl) ?_
  refine WL.v (Val.assign Ev.const) rfl ?_
  refine WL.norm 14 [(1, _), (2, _)] [some ⟨_, _, [[_]]⟩] rfl ⟨rfl, rfl, trivial⟩ rfl rfl ?_
  refine wn ?_
  refine sr ?_
  refine mv rfl rfl ?_
  refine WL.v (Val.geq (tm rfl) Ev.const) rfl ?_
  refine mv rfl rfl ?_
  refine WL.g (Grd.t rfl rfl rfl) (fun hG => Val.move (tm rfl)) rfl ?_
  refine WL.g (Grd.t rfl rfl rfl) (fun hG => Val.fal (off := 0) Tryd.underlying39 rfl rfl zs23 (tm rfl)) rfl ?_
  refine WL.g (Grd.t rfl rfl rfl) (fun hG => Val.loadLive Tryd.underlying23 rfl (Ev.opt rfl hG) rfl rfl rfl rfl rfl) rfl ?_
  refine WL.g (Grd.t rfl rfl rfl) (fun hG => Val.ln (enc := Nd.cells) Tryd.underlying23 (Ev.opt rfl hG)) rfl ?_
  refine WL.g (Grd.t rfl rfl rfl) (fun hG => Val.lss (Ev.opt rfl hG) (Ev.opt rfl hG)) rfl ?_
  refine WL.v (Val.and (tm rfl) (fun hb => Ev.opt rfl hb)) rfl ?_
  refine asg rfl rfl ?_
  refine WL.norm 14 [(4, _)] [some ⟨_, _, [[_]]⟩] rfl ⟨rfl, trivial⟩ rfl rfl ?_
  refine wn ?_
  refine W.ret ?_
  exact Ret.of (.inr rfl) rfl (res1 rfl rfl) (Fewer.nil _) (.inr trivial) (fun id h => absurd h (Nat.not_lt_zero _)) (.same rfl) ⟨rfl, rfl⟩
-- enthymemeref07.BV
set_option maxHeartbeats 1000000 in
theorem c_BV (W0 : World) (N : Nat) (n : Int) : AC (En W0 N) 43 [.i n] [] (fun r h => h = [] ∧ r = Srt.agg ⟨0, n, 0⟩) := by
  refine AC.enter Tryd.func43 rfl Tryd.ntmps43 (bl rfl) fun X => ?_
  refine sr ?_
  refine WL.stp rfl (Stp.alloc zz33 rfl rfl) ?_
  refine WL.norm 5 [(0, _), (2, _)] [some ⟨_, _, [[_, _, _]]⟩] rfl ⟨rfl, rfl, trivial⟩ rfl rfl ?_
  refine wn ?_
  refine sr ?_
  refine mv rfl rfl ?_
  refine WL.v (Val.build (vs := [(0, _), (1, _)]) Tryd.underlying33 zz33 rfl rfl pl33 rfl ⟨Ev.const, rfl, rfl, rfl, ⟨(tm rfl), rfl, rfl, rfl, trivial⟩⟩) rfl ?_
  refine WL.stp rfl (Stp.st (tm rfl) (tm rfl) zs33 rfl rfl rfl rfl rfl rfl rfl rfl) ?_
  refine WL.norm 5 [(2, _)] [some ⟨_, _, [[_, _, _]]⟩] rfl ⟨rfl, trivial⟩ rfl rfl ?_
  refine wn ?_
  refine W.ret ?_
  exact Ret.of (.inr rfl) rfl (resCell rfl Tryd.underlying33 rfl zs33 rfl rfl rfl rfl rfl rfl) (Fewer.nil _) (.inr trivial) (fun id h => absurd h (Nat.not_lt_zero _)) (.same rfl) ⟨rfl, rfl⟩
-- enthymemeref07.Strings
set_option maxHeartbeats 1000000 in
theorem c_Strings (W0 : World) (N : Nat) (n : Int) : AC (En W0 N) 44 [.i n] [] (fun r h => h = [] ∧ r = Srt.agg ⟨1, n, 0⟩) := by
  refine AC.enter Tryd.func44 rfl Tryd.ntmps44 (bl rfl) fun X => ?_
  refine sr ?_
  refine WL.stp rfl (Stp.alloc zz33 rfl rfl) ?_
  refine WL.norm 5 [(0, _), (2, _)] [some ⟨_, _, [[_, _, _]]⟩] rfl ⟨rfl, rfl, trivial⟩ rfl rfl ?_
  refine wn ?_
  refine sr ?_
  refine mv rfl rfl ?_
  refine WL.v (Val.build (vs := [(0, _), (1, _)]) Tryd.underlying33 zz33 rfl rfl pl33 rfl ⟨Ev.const, rfl, rfl, rfl, ⟨(tm rfl), rfl, rfl, rfl, trivial⟩⟩) rfl ?_
  refine WL.stp rfl (Stp.st (tm rfl) (tm rfl) zs33 rfl rfl rfl rfl rfl rfl rfl rfl) ?_
  refine WL.norm 5 [(2, _)] [some ⟨_, _, [[_, _, _]]⟩] rfl ⟨rfl, trivial⟩ rfl rfl ?_
  refine wn ?_
  refine W.ret ?_
  exact Ret.of (.inr rfl) rfl (resCell rfl Tryd.underlying33 rfl zs33 rfl rfl rfl rfl rfl rfl) (Fewer.nil _) (.inr trivial) (fun id h => absurd h (Nat.not_lt_zero _)) (.same rfl) ⟨rfl, rfl⟩
-- enthymemeref06.within
set_option maxHeartbeats 1000000 in
theorem c_within6 (W0 : World) (N : Nat) (n lo hi : Int) : AC (En W0 N) 76 [.i n, .i lo, .i hi] [] (fun r h => h = [] ∧ r = .b (decide (lo ≤ n) && decide (n ≤ hi))) := by
  refine AC.enter Tryd.func76 rfl Tryd.ntmps76 (bl rfl) fun X => ?_
  refine sr ?_
  refine WL.v (Val.assign Ev.const) rfl ?_
  refine WL.norm 15 [(0, _), (1, _), (2, _)] [] rfl ⟨rfl, rfl, rfl, trivial⟩ rfl rfl ?_
  refine wn ?_
  refine sr ?_
  refine mv rfl rfl ?_
  refine mv rfl rfl ?_
  refine WL.v (Val.geq (tm rfl) (tm rfl)) rfl ?_
  refine mv rfl rfl ?_
  refine WL.g (Grd.t rfl rfl rfl) (fun hG => Val.move (tm rfl)) rfl ?_
  refine WL.g (Grd.t rfl rfl rfl) (fun hG => Val.move (tm rfl)) rfl ?_
  refine WL.g (Grd.t rfl rfl rfl) (fun hG => Val.leq (Ev.opt rfl hG) (Ev.opt rfl hG)) rfl ?_
  refine WL.v (Val.and (tm rfl) (fun hb => Ev.opt rfl hb)) rfl ?_
  refine asg rfl rfl ?_
  refine WL.norm 15 [(6, _)] [] rfl ⟨rfl, trivial⟩ rfl rfl ?_
  refine wn ?_
  refine W.ret ?_
  exact Ret.of (.inr rfl) rfl (res1 rfl rfl) (Fewer.nil _) (.inr trivial) (fun id h => absurd h (Nat.not_lt_zero _)) (.same rfl) ⟨rfl, rfl⟩
-- enthymemeref07.within
set_option maxHeartbeats 1000000 in
theorem c_within7 (W0 : World) (N : Nat) (kind : Int) (s : Srt) : AC (En W0 N) 25 [.i kind, s.agg] [] (fun r h => h = [] ∧ ∃ b, r = .b b ∧ True) := by
  refine AC.enter Tryd.func25 rfl Tryd.ntmps25 (bl rfl) fun X => ?_
  refine sr ?_
  refine WL.stp rfl (Stp.box (tm rfl) rfl rfl) ?_
  refine WL.v (Val.assign Ev.const) rfl ?_
  refine WL.norm 21 [(0, _), (3, _)] [some ⟨_, _, [[_, _, _]]⟩] rfl ⟨rfl, rfl, trivial⟩ rfl rfl ?_
  refine wn ?_
  refine sr ?_
  refine WL.v (Val.fal (off := 0) Tryd.underlying33 rfl rfl zs3 (tm rfl)) rfl ?_
  refine WL.v (Val.loadLive Tryd.underlying3 rfl (tm rfl) rfl rfl rfl rfl rfl) rfl ?_
  refine WL.v (Val.eql (tm rfl) Ev.const) rfl ?_
  refine mv rfl rfl ?_
  refine WL.g (Grd.f rfl rfl rfl) (fun hG => Val.move (tm rfl)) rfl ?_
  refine WL.g (Grd.f rfl rfl rfl) (fun hG => Val.gtr (Ev.opt rfl hG) Ev.const) rfl ?_
  refine WL.g (Grd.f rfl rfl rfl) (fun hG => Val.move (Ev.opt rfl hG)) rfl ?_
  refine WL.g (Grd.ot rfl rfl rfl) (fun hG => Val.fal (off := 0) Tryd.underlying33 rfl rfl zs3 (tm rfl)) rfl ?_
  refine WL.g (Grd.ot rfl rfl rfl) (fun hG => Val.loadLive Tryd.underlying3 rfl (Ev.opt rfl hG) rfl rfl rfl rfl rfl) rfl ?_
  refine WL.g (Grd.ot rfl rfl rfl) (fun hG => Val.eql (Ev.opt rfl hG) Ev.const) rfl ?_
  refine WL.g (Grd.f rfl rfl rfl) (fun hG => Val.and (Ev.opt rfl hG) (fun hb => Ev.opt rfl (an hG hb))) rfl ?_
  refine WL.v (Val.or (tm rfl) (fun hb => Ev.opt rfl (nt hb))) rfl ?_
  refine mv rfl rfl ?_
  refine WL.g (Grd.f rfl rfl rfl) (fun hG => Val.move (tm rfl)) rfl ?_
  refine WL.g (Grd.f rfl rfl rfl) (fun hG => Val.gtr (Ev.opt rfl hG) Ev.const) rfl ?_
  refine WL.v (Val.or (tm rfl) (fun hb => Ev.opt rfl (nt hb))) rfl ?_
  refine asg rfl rfl ?_
  refine WL.norm 21 [(4, _)] [some ⟨_, _, [[_, _, _]]⟩] rfl ⟨rfl, trivial⟩ rfl rfl ?_
  refine wn ?_
  refine W.ret ?_
  exact Ret.of (.inr rfl) rfl (res1 rfl rfl) (Fewer.nil _) (.inr trivial) (fun id h => absurd h (Nat.not_lt_zero _)) (.same rfl) ⟨rfl, _, rfl, trivial⟩
-- enthymemeref07.Element
set_option maxHeartbeats 1000000 in
theorem c_Element (W0 : World) (N : Nat) (s : Srt) : AC (En W0 N) 59 [s.agg] [] (fun r h => h = [] ∧ r = Srt.agg (elemSrt s)) := by
  refine AC.enter Tryd.func59 rfl Tryd.ntmps59 (bl rfl) fun X => ?_
  refine sr ?_
  refine WL.stp rfl (Stp.box (tm rfl) rfl rfl) ?_
  refine WL.stp rfl (Stp.alloc zz33 rfl rfl) ?_
  refine WL.norm 12 [(1, _), (2, _)] [some ⟨_, _, [[_, _, _]]⟩, some ⟨_, _, [[_, _, _]]⟩] rfl ⟨rfl, rfl, trivial⟩ rfl rfl ?_
  refine wn ?_
  refine W.seq ?_
  refine sr ?_
  refine WL.v (Val.fal (off := 0) Tryd.underlying33 rfl rfl zs3 (tm rfl)) rfl ?_
  refine WL.v (Val.loadLive Tryd.underlying3 rfl (tm rfl) rfl rfl rfl rfl rfl) rfl ?_
  refine WL.v (Val.eql (tm rfl) Ev.const) rfl ?_
  refine WL.norm 12 [(1, _), (2, _), (5, _)] [some ⟨_, _, [[_, _, _]]⟩, some ⟨_, _, [[_, _, _]]⟩] rfl ⟨rfl, rfl, rfl, trivial⟩ rfl rfl ?_
  refine wn ?_
  refine W.condP rfl (fun hc1 => ?_) (fun hc1 => ?_)
  · try simp only [td] at hc1
    refine sr ?_
    refine WL.v (Val.fal (off := 1) Tryd.underlying33 rfl rfl zs3 (tm rfl)) rfl ?_
    refine WL.v (Val.loadLive Tryd.underlying3 rfl (tm rfl) rfl rfl rfl rfl rfl) rfl ?_
    refine WL.callV ca43 (evc (tm rfl) evn) (lo1 lo0) rfl (c_BV W0 N _) ?_
    rintro _ rfl
    refine WL.stp rfl (Stp.st (tm rfl) (tm rfl) zs33 rfl rfl rfl rfl rfl rfl rfl rfl) ?_
    refine WL.norm 12 [(2, _)] [some ⟨_, _, [[_, _, _]]⟩, some ⟨_, _, [[_, _, _]]⟩] rfl ⟨rfl, trivial⟩ rfl rfl ?_
    refine wn ?_
    refine W.ret (rt1 ?_)
    have e : elemSrt s = ⟨0, s.n, 0⟩ := if_pos hc1
    exact Ret.of (.inr rfl) rfl (resCell rfl Tryd.underlying33 rfl zs33 rfl rfl rfl rfl rfl rfl) (Fewer.nil _) (.inr trivial) (fun id h => absurd h (Nat.not_lt_zero _)) (.same rfl) ⟨rfl, by rw [e]; rfl⟩
  try simp only [td] at hc1
  refine W.skip (nm ?_)
  refine sr ?_
  refine WL.v (Val.fal (off := 1) Tryd.underlying33 rfl rfl zs3 (tm rfl)) rfl ?_
  refine WL.v (Val.loadLive Tryd.underlying3 rfl (tm rfl) rfl rfl rfl rfl rfl) rfl ?_
  refine WL.callV ca44 (evc (tm rfl) evn) (lo1 lo0) rfl (c_Strings W0 N _) ?_
  rintro _ rfl
  refine WL.stp rfl (Stp.st (tm rfl) (tm rfl) zs33 rfl rfl rfl rfl rfl rfl rfl rfl) ?_
  refine WL.norm 12 [(2, _)] [some ⟨_, _, [[_, _, _]]⟩, some ⟨_, _, [[_, _, _]]⟩] rfl ⟨rfl, trivial⟩ rfl rfl ?_
  refine wn ?_
  refine W.ret ?_
  have e : elemSrt s = ⟨1, s.n, 0⟩ := if_neg hc1
  exact Ret.of (.inr rfl) rfl (resCell rfl Tryd.underlying33 rfl zs33 rfl rfl rfl rfl rfl rfl) (Fewer.nil _) (.inr trivial) (fun id h => absurd h (Nat.not_lt_zero _)) (.same rfl) ⟨rfl, by rw [e]; rfl⟩
-- enthymemeref07.Kids
set_option maxHeartbeats 1000000 in
theorem c_Kids (W0 : World) (N : Nat) (op : Int) : AC (En W0 N) 46 [.i op] [] (fun r h => h = [] ∧ r = .i (kidsOf op)) := by
  refine AC.enter Tryd.func46 rfl Tryd.ntmps46 (bl rfl) fun X => ?_
  refine sr ?_
  refine WL.v (Val.assign Ev.const) rfl ?_
  refine WL.norm 27 [(0, _)] [] rfl ⟨rfl, trivial⟩ rfl rfl ?_
  refine wn ?_
  refine W.seq ?_
  refine sr ?_
  refine mv rfl rfl ?_
  refine WL.v (Val.lss (tm rfl) Ev.const) rfl ?_
  refine mv rfl rfl ?_
  refine WL.g (Grd.f rfl rfl rfl) (fun hG => Val.move (tm rfl)) rfl ?_
  refine WL.g (Grd.f rfl rfl rfl) (fun hG => Val.gtr (Ev.opt rfl hG) Ev.const) rfl ?_
  refine WL.v (Val.or (tm rfl) (fun hb => Ev.opt rfl (nt hb))) rfl ?_
  refine WL.norm 27 [(0, _), (8, _)] [] rfl ⟨rfl, rfl, trivial⟩ rfl rfl ?_
  refine wn ?_
  refine W.condP rfl (fun hc1 => ?_) (fun hc1 => ?_)
  · try simp only [td] at hc1
    refine sr ?_
    refine WL.v (Val.assign Ev.const) rfl ?_
    refine WL.norm 27 [(2, _)] [] rfl ⟨rfl, trivial⟩ rfl rfl ?_
    refine wn ?_
    refine W.ret (rt1 ?_)
    exact Ret.of (.inr rfl) rfl (res1 rfl rfl) (Fewer.nil _) (.inr trivial) (fun id h => absurd h (Nat.not_lt_zero _)) (.same rfl) ⟨rfl, congrArg AV.i (by unfold kidsOf; repeat' split; all_goals omega)⟩
  try simp only [td] at hc1
  refine W.skip (nm ?_)
  refine W.seq ?_
  refine sr ?_
  refine mv rfl rfl ?_
  refine WL.v (Val.leq (tm rfl) Ev.const) rfl ?_
  refine WL.norm 27 [(0, _), (10, _)] [] rfl ⟨rfl, rfl, trivial⟩ rfl rfl ?_
  refine wn ?_
  refine W.condP rfl (fun hc3 => ?_) (fun hc3 => ?_)
  · try simp only [td] at hc3
    refine sr ?_
    refine WL.v (Val.assign Ev.const) rfl ?_
    refine WL.norm 27 [(2, _)] [] rfl ⟨rfl, trivial⟩ rfl rfl ?_
    refine wn ?_
    refine W.ret (rt1 ?_)
    exact Ret.of (.inr rfl) rfl (res1 rfl rfl) (Fewer.nil _) (.inr trivial) (fun id h => absurd h (Nat.not_lt_zero _)) (.same rfl) ⟨rfl, congrArg AV.i (by unfold kidsOf; repeat' split; all_goals omega)⟩
  try simp only [td] at hc3
  refine W.skip (nm ?_)
  refine W.seq ?_
  refine sr ?_
  refine mv rfl rfl ?_
  refine WL.norm 27 [(11, _)] [] rfl ⟨rfl, trivial⟩ rfl rfl ?_
  refine wn ?_
  refine W.block ?_
  refine W.seq ?_
  refine sr ?_
  refine WL.v (Val.eql (tm rfl) Ev.const) rfl ?_
  refine asg rfl rfl ?_
  refine WL.norm 27 [(11, _), (12, _)] [] rfl ⟨rfl, rfl, trivial⟩ rfl rfl ?_
  refine wn ?_
  refine W.condP rfl (fun hc6 => ?_) (fun hc6 => ?_)
  · try simp only [td] at hc6
    refine W.skip (nm ?_)
    refine W.cT rfl ?_
    refine sr ?_
    refine WL.v (Val.assign Ev.const) rfl ?_
    refine WL.norm 27 [(2, _)] [] rfl ⟨rfl, trivial⟩ rfl rfl ?_
    refine wn ?_
    refine W.ret (rt2 (rt1 ?_))
    exact Ret.of (.inr rfl) rfl (res1 rfl rfl) (Fewer.nil _) (.inr trivial) (fun id h => absurd h (Nat.not_lt_zero _)) (.same rfl) ⟨rfl, congrArg AV.i (by unfold kidsOf; repeat' split; all_goals omega)⟩
  try simp only [td] at hc6
  refine sr ?_
  refine WL.v (Val.eql (tm rfl) Ev.const) rfl ?_
  refine asg rfl rfl ?_
  refine WL.norm 27 [(11, _), (12, _)] [] rfl ⟨rfl, rfl, trivial⟩ rfl rfl ?_
  refine wn ?_
  refine W.condP rfl (fun hc7 => ?_) (fun hc7 => ?_)
  · try simp only [td] at hc7
    refine W.skip (nm ?_)
    refine W.cT rfl ?_
    refine sr ?_
    refine WL.v (Val.assign Ev.const) rfl ?_
    refine WL.norm 27 [(2, _)] [] rfl ⟨rfl, trivial⟩ rfl rfl ?_
    refine wn ?_
    refine W.ret (rt2 (rt1 ?_))
    exact Ret.of (.inr rfl) rfl (res1 rfl rfl) (Fewer.nil _) (.inr trivial) (fun id h => absurd h (Nat.not_lt_zero _)) (.same rfl) ⟨rfl, congrArg AV.i (by unfold kidsOf; repeat' split; all_goals omega)⟩
  try simp only [td] at hc7
  refine sr ?_
  refine WL.v (Val.eql (tm rfl) Ev.const) rfl ?_
  refine asg rfl rfl ?_
  refine WL.norm 27 [(11, _), (12, _)] [] rfl ⟨rfl, rfl, trivial⟩ rfl rfl ?_
  refine wn ?_
  refine W.condP rfl (fun hc8 => ?_) (fun hc8 => ?_)
  · try simp only [td] at hc8
    refine W.skip (nm ?_)
    refine W.cT rfl ?_
    refine sr ?_
    refine WL.v (Val.assign Ev.const) rfl ?_
    refine WL.norm 27 [(2, _)] [] rfl ⟨rfl, trivial⟩ rfl rfl ?_
    refine wn ?_
    refine W.ret (rt2 (rt1 ?_))
    exact Ret.of (.inr rfl) rfl (res1 rfl rfl) (Fewer.nil _) (.inr trivial) (fun id h => absurd h (Nat.not_lt_zero _)) (.same rfl) ⟨rfl, congrArg AV.i (by unfold kidsOf; repeat' split; all_goals omega)⟩
  try simp only [td] at hc8
  refine sr ?_
  refine WL.v (Val.eql (tm rfl) Ev.const) rfl ?_
  refine asg rfl rfl ?_
  refine WL.norm 27 [(11, _), (12, _)] [] rfl ⟨rfl, rfl, trivial⟩ rfl rfl ?_
  refine wn ?_
  refine W.condP rfl (fun hc9 => ?_) (fun hc9 => ?_)
  · try simp only [td] at hc9
    refine W.skip (nm ?_)
    refine W.cT rfl ?_
    refine sr ?_
    refine WL.v (Val.assign Ev.const) rfl ?_
    refine WL.norm 27 [(2, _)] [] rfl ⟨rfl, trivial⟩ rfl rfl ?_
    refine wn ?_
    refine W.ret (rt2 (rt1 ?_))
    exact Ret.of (.inr rfl) rfl (res1 rfl rfl) (Fewer.nil _) (.inr trivial) (fun id h => absurd h (Nat.not_lt_zero _)) (.same rfl) ⟨rfl, congrArg AV.i (by unfold kidsOf; repeat' split; all_goals omega)⟩
  try simp only [td] at hc9
  refine sr ?_
  refine WL.v (Val.eql (tm rfl) Ev.const) rfl ?_
  refine asg rfl rfl ?_
  refine WL.norm 27 [(11, _), (12, _)] [] rfl ⟨rfl, rfl, trivial⟩ rfl rfl ?_
  refine wn ?_
  refine W.condP rfl (fun hc10 => ?_) (fun hc10 => ?_)
  · try simp only [td] at hc10
    refine W.skip (nm ?_)
    refine W.cT rfl ?_
    refine sr ?_
    refine WL.v (Val.assign Ev.const) rfl ?_
    refine WL.norm 27 [(2, _)] [] rfl ⟨rfl, trivial⟩ rfl rfl ?_
    refine wn ?_
    refine W.ret (rt2 (rt1 ?_))
    exact Ret.of (.inr rfl) rfl (res1 rfl rfl) (Fewer.nil _) (.inr trivial) (fun id h => absurd h (Nat.not_lt_zero _)) (.same rfl) ⟨rfl, congrArg AV.i (by unfold kidsOf; repeat' split; all_goals omega)⟩
  try simp only [td] at hc10
  refine sr ?_
  refine WL.v (Val.eql (tm rfl) Ev.const) rfl ?_
  refine asg rfl rfl ?_
  refine WL.norm 27 [(11, _), (12, _)] [] rfl ⟨rfl, rfl, trivial⟩ rfl rfl ?_
  refine wn ?_
  refine W.condP rfl (fun hc11 => ?_) (fun hc11 => ?_)
  · try simp only [td] at hc11
    refine W.skip (nm ?_)
    refine W.cT rfl ?_
    refine sr ?_
    refine WL.v (Val.assign Ev.const) rfl ?_
    refine WL.norm 27 [(2, _)] [] rfl ⟨rfl, trivial⟩ rfl rfl ?_
    refine wn ?_
    refine W.ret (rt2 (rt1 ?_))
    exact Ret.of (.inr rfl) rfl (res1 rfl rfl) (Fewer.nil _) (.inr trivial) (fun id h => absurd h (Nat.not_lt_zero _)) (.same rfl) ⟨rfl, congrArg AV.i (by unfold kidsOf; repeat' split; all_goals omega)⟩
  try simp only [td] at hc11
  refine sr ?_
  refine WL.v (Val.eql (tm rfl) Ev.const) rfl ?_
  refine asg rfl rfl ?_
  refine WL.norm 27 [(11, _), (12, _)] [] rfl ⟨rfl, rfl, trivial⟩ rfl rfl ?_
  refine wn ?_
  refine W.condP rfl (fun hc12 => ?_) (fun hc12 => ?_)
  · try simp only [td] at hc12
    refine W.skip (nm ?_)
    refine W.cT rfl ?_
    refine sr ?_
    refine WL.v (Val.assign Ev.const) rfl ?_
    refine WL.norm 27 [(2, _)] [] rfl ⟨rfl, trivial⟩ rfl rfl ?_
    refine wn ?_
    refine W.ret (rt2 (rt1 ?_))
    exact Ret.of (.inr rfl) rfl (res1 rfl rfl) (Fewer.nil _) (.inr trivial) (fun id h => absurd h (Nat.not_lt_zero _)) (.same rfl) ⟨rfl, congrArg AV.i (by unfold kidsOf; repeat' split; all_goals omega)⟩
  try simp only [td] at hc12
  refine sr ?_
  refine WL.v (Val.eql (tm rfl) Ev.const) rfl ?_
  refine asg rfl rfl ?_
  refine WL.norm 27 [(11, _), (12, _)] [] rfl ⟨rfl, rfl, trivial⟩ rfl rfl ?_
  refine wn ?_
  refine W.condP rfl (fun hc13 => ?_) (fun hc13 => ?_)
  · try simp only [td] at hc13
    refine W.skip (nm ?_)
    refine W.cT rfl ?_
    refine sr ?_
    refine WL.v (Val.assign Ev.const) rfl ?_
    refine WL.norm 27 [(2, _)] [] rfl ⟨rfl, trivial⟩ rfl rfl ?_
    refine wn ?_
    refine W.ret (rt2 (rt1 ?_))
    exact Ret.of (.inr rfl) rfl (res1 rfl rfl) (Fewer.nil _) (.inr trivial) (fun id h => absurd h (Nat.not_lt_zero _)) (.same rfl) ⟨rfl, congrArg AV.i (by unfold kidsOf; repeat' split; all_goals omega)⟩
  try simp only [td] at hc13
  refine W.region ?_
  refine WL.v (Val.eql (tm rfl) Ev.const) rfl ?_
  refine asg rfl rfl ?_
  refine WL.norm 27 [(11, _), (12, _)] [] rfl ⟨rfl, rfl, trivial⟩ rfl rfl ?_
  refine wn ?_
  refine W.condP rfl (fun hc14 => ?_) (fun hc14 => ?_)
  · try simp only [td] at hc14
    refine sr ?_
    refine WL.v (Val.assign Ev.const) rfl ?_
    refine WL.norm 27 [(2, _)] [] rfl ⟨rfl, trivial⟩ rfl rfl ?_
    refine wn ?_
    refine W.ret (rt2 (rt1 ?_))
    exact Ret.of (.inr rfl) rfl (res1 rfl rfl) (Fewer.nil _) (.inr trivial) (fun id h => absurd h (Nat.not_lt_zero _)) (.same rfl) ⟨rfl, congrArg AV.i (by unfold kidsOf; repeat' split; all_goals omega)⟩
  try simp only [td] at hc14
  refine W.seq ?_
  refine sr ?_
  refine WL.v (Val.eql (tm rfl) Ev.const) rfl ?_
  refine asg rfl rfl ?_
  refine WL.norm 27 [(11, _), (22, _)] [] rfl ⟨rfl, rfl, trivial⟩ rfl rfl ?_
  refine wn ?_
  refine W.condP rfl (fun hc16 => ?_) (fun hc16 => ?_)
  · try simp only [td] at hc16
    refine W.skip (nm ?_)
    refine W.cT rfl ?_
    refine sr ?_
    refine WL.v (Val.assign Ev.const) rfl ?_
    refine WL.norm 27 [(2, _)] [] rfl ⟨rfl, trivial⟩ rfl rfl ?_
    refine wn ?_
    refine W.ret (rt2 (rt1 ?_))
    exact Ret.of (.inr rfl) rfl (res1 rfl rfl) (Fewer.nil _) (.inr trivial) (fun id h => absurd h (Nat.not_lt_zero _)) (.same rfl) ⟨rfl, congrArg AV.i (by unfold kidsOf; repeat' split; all_goals omega)⟩
  try simp only [td] at hc16
  refine sr ?_
  refine WL.v (Val.eql (tm rfl) Ev.const) rfl ?_
  refine asg rfl rfl ?_
  refine WL.norm 27 [(11, _), (22, _)] [] rfl ⟨rfl, rfl, trivial⟩ rfl rfl ?_
  refine wn ?_
  refine W.condP rfl (fun hc17 => ?_) (fun hc17 => ?_)
  · try simp only [td] at hc17
    refine W.skip (nm ?_)
    refine W.cT rfl ?_
    refine sr ?_
    refine WL.v (Val.assign Ev.const) rfl ?_
    refine WL.norm 27 [(2, _)] [] rfl ⟨rfl, trivial⟩ rfl rfl ?_
    refine wn ?_
    refine W.ret (rt2 (rt1 ?_))
    exact Ret.of (.inr rfl) rfl (res1 rfl rfl) (Fewer.nil _) (.inr trivial) (fun id h => absurd h (Nat.not_lt_zero _)) (.same rfl) ⟨rfl, congrArg AV.i (by unfold kidsOf; repeat' split; all_goals omega)⟩
  try simp only [td] at hc17
  refine sr ?_
  refine WL.v (Val.eql (tm rfl) Ev.const) rfl ?_
  refine asg rfl rfl ?_
  refine WL.norm 27 [(11, _), (22, _)] [] rfl ⟨rfl, rfl, trivial⟩ rfl rfl ?_
  refine wn ?_
  refine W.condP rfl (fun hc18 => ?_) (fun hc18 => ?_)
  · try simp only [td] at hc18
    refine W.skip (nm ?_)
    refine W.cT rfl ?_
    refine sr ?_
    refine WL.v (Val.assign Ev.const) rfl ?_
    refine WL.norm 27 [(2, _)] [] rfl ⟨rfl, trivial⟩ rfl rfl ?_
    refine wn ?_
    refine W.ret (rt2 (rt1 ?_))
    exact Ret.of (.inr rfl) rfl (res1 rfl rfl) (Fewer.nil _) (.inr trivial) (fun id h => absurd h (Nat.not_lt_zero _)) (.same rfl) ⟨rfl, congrArg AV.i (by unfold kidsOf; repeat' split; all_goals omega)⟩
  try simp only [td] at hc18
  refine W.region ?_
  refine WL.v (Val.eql (tm rfl) Ev.const) rfl ?_
  refine asg rfl rfl ?_
  refine WL.norm 27 [(22, _)] [] rfl ⟨rfl, trivial⟩ rfl rfl ?_
  refine wn ?_
  refine W.condP rfl (fun hc19 => ?_) (fun hc19 => ?_)
  · try simp only [td] at hc19
    refine sr ?_
    refine WL.v (Val.assign Ev.const) rfl ?_
    refine WL.norm 27 [(2, _)] [] rfl ⟨rfl, trivial⟩ rfl rfl ?_
    refine wn ?_
    refine W.ret (rt2 (rt1 ?_))
    exact Ret.of (.inr rfl) rfl (res1 rfl rfl) (Fewer.nil _) (.inr trivial) (fun id h => absurd h (Nat.not_lt_zero _)) (.same rfl) ⟨rfl, congrArg AV.i (by unfold kidsOf; repeat' split; all_goals omega)⟩
  try simp only [td] at hc19
  refine W.skip (nb (nm ?_))
  refine sr ?_
  refine WL.v (Val.assign Ev.const) rfl ?_
  refine WL.norm 27 [(2, _)] [] rfl ⟨rfl, trivial⟩ rfl rfl ?_
  refine wn ?_
  refine W.ret ?_
  exact Ret.of (.inr rfl) rfl (res1 rfl rfl) (Fewer.nil _) (.inr trivial) (fun id h => absurd h (Nat.not_lt_zero _)) (.same rfl) ⟨rfl, congrArg AV.i (by unfold kidsOf; repeat' split; all_goals omega)⟩
-- enthymemeref07.Same
set_option maxHeartbeats 1000000 in
theorem c_Same (W0 : World) (N : Nat) (a b : Nd) (ha : a.kids.length ≤ 1000000) : AC (En W0 N) 42 [a.agg, b.agg] [] (fun r h => h = [] ∧ r = .b (decide (a = b))) := by
  refine AC.enter Tryd.func42 rfl Tryd.ntmps42 (bl rfl) fun X => ?_
  refine sr ?_
  refine WL.stp rfl (Stp.box (tm rfl) rfl rfl) ?_
  refine WL.stp rfl (Stp.box (tm rfl) rfl rfl) ?_
  refine WL.v (Val.assign Ev.const) rfl ?_
  refine WL.norm 52 [(2, _), (3, _)] [some ⟨_, _, [[_, _, _, _, _, _, _, _, _]]⟩, some ⟨_, _, [[_, _, _, _, _, _, _, _, _]]⟩] rfl ⟨rfl, rfl, trivial⟩ rfl rfl ?_
  refine wn ?_
  refine sr ?_
  refine WL.v (Val.fal (off := 0) Tryd.underlying35 rfl rfl zs3 (tm rfl)) rfl ?_
  refine WL.v (Val.loadLive Tryd.underlying3 rfl (tm rfl) rfl rfl rfl rfl rfl) rfl ?_
  refine WL.v (Val.fal (off := 0) Tryd.underlying35 rfl rfl zs3 (tm rfl)) rfl ?_
  refine WL.v (Val.loadLive Tryd.underlying3 rfl (tm rfl) rfl rfl rfl rfl rfl) rfl ?_
  refine WL.v (Val.eql (tm rfl) (tm rfl)) rfl ?_
  refine mv rfl rfl ?_
  refine WL.g (Grd.t rfl rfl rfl) (fun hG => Val.fal (off := 2) Tryd.underlying35 rfl rfl zs3 (tm rfl)) rfl ?_
  refine WL.g (Grd.t rfl rfl rfl) (fun hG => Val.loadLive Tryd.underlying3 rfl (Ev.opt rfl hG) rfl rfl rfl rfl rfl) rfl ?_
  refine WL.g (Grd.t rfl rfl rfl) (fun hG => Val.fal (off := 2) Tryd.underlying35 rfl rfl zs3 (tm rfl)) rfl ?_
  refine WL.g (Grd.t rfl rfl rfl) (fun hG => Val.loadLive Tryd.underlying3 rfl (Ev.opt rfl hG) rfl rfl rfl rfl rfl) rfl ?_
  refine WL.g (Grd.t rfl rfl rfl) (fun hG => Val.eql (Ev.opt rfl hG) (Ev.opt rfl hG)) rfl ?_
  refine WL.v (Val.and (tm rfl) (fun hb => Ev.opt rfl hb)) rfl ?_
  refine mv rfl rfl ?_
  refine WL.g (Grd.t rfl rfl rfl) (fun hG => Val.fal (off := 3) Tryd.underlying35 rfl rfl zs3 (tm rfl)) rfl ?_
  refine WL.g (Grd.t rfl rfl rfl) (fun hG => Val.loadLive Tryd.underlying3 rfl (Ev.opt rfl hG) rfl rfl rfl rfl rfl) rfl ?_
  refine WL.g (Grd.t rfl rfl rfl) (fun hG => Val.fal (off := 3) Tryd.underlying35 rfl rfl zs3 (tm rfl)) rfl ?_
  refine WL.g (Grd.t rfl rfl rfl) (fun hG => Val.loadLive Tryd.underlying3 rfl (Ev.opt rfl hG) rfl rfl rfl rfl rfl) rfl ?_
  refine WL.g (Grd.t rfl rfl rfl) (fun hG => Val.eql (Ev.opt rfl hG) (Ev.opt rfl hG)) rfl ?_
  refine WL.v (Val.and (tm rfl) (fun hb => Ev.opt rfl hb)) rfl ?_
  refine mv rfl rfl ?_
  refine WL.g (Grd.t rfl rfl rfl) (fun hG => Val.fal (off := 4) Tryd.underlying35 rfl rfl zs31 (tm rfl)) rfl ?_
  refine WL.g (Grd.t rfl rfl rfl) (fun hG => Val.loadLive Tryd.underlying31 rfl (Ev.opt rfl hG) rfl rfl rfl rfl rfl) rfl ?_
  refine WL.g (Grd.t rfl rfl rfl) (fun hG => Val.fal (off := 4) Tryd.underlying35 rfl rfl zs31 (tm rfl)) rfl ?_
  refine WL.g (Grd.t rfl rfl rfl) (fun hG => Val.loadLive Tryd.underlying31 rfl (Ev.opt rfl hG) rfl rfl rfl rfl rfl) rfl ?_
  refine WL.g (Grd.t rfl rfl rfl) (fun hG => Val.eql (Ev.opt rfl hG) (Ev.opt rfl hG)) rfl ?_
  refine WL.v (Val.and (tm rfl) (fun hb => Ev.opt rfl hb)) rfl ?_
  refine mv rfl rfl ?_
  refine WL.g (Grd.t rfl rfl rfl) (fun hG => Val.fal (off := 5) Tryd.underlying35 rfl rfl zs9 (tm rfl)) rfl ?_
  refine WL.g (Grd.t rfl rfl rfl) (fun hG => Val.loadLive Tryd.underlying9 rfl (Ev.opt rfl hG) rfl rfl rfl rfl rfl) rfl ?_
  refine WL.g (Grd.t rfl rfl rfl) (fun hG => Val.fal (off := 5) Tryd.underlying35 rfl rfl zs9 (tm rfl)) rfl ?_
  refine WL.g (Grd.t rfl rfl rfl) (fun hG => Val.loadLive Tryd.underlying9 rfl (Ev.opt rfl hG) rfl rfl rfl rfl rfl) rfl ?_
  refine WL.g (Grd.t rfl rfl rfl) (fun hG => Val.eqlS (Ev.opt rfl hG) (Ev.opt rfl hG)) rfl ?_
  refine WL.v (Val.and (tm rfl) (fun hb => Ev.opt rfl hb)) rfl ?_
  refine mv rfl rfl ?_
  refine WL.g (Grd.t rfl rfl rfl) (fun hG => Val.fal (off := 6) Tryd.underlying35 rfl rfl zs33 (tm rfl)) rfl ?_
  refine WL.g (Grd.t rfl rfl rfl) (fun hG => Val.loadLiveAgg Tryd.underlying33 rfl zs33 (Ev.opt rfl hG) rfl rfl rfl rfl (bl rfl)) rfl ?_
  refine WL.g (Grd.t rfl rfl rfl) (fun hG => Val.fal (off := 6) Tryd.underlying35 rfl rfl zs33 (tm rfl)) rfl ?_
  refine WL.g (Grd.t rfl rfl rfl) (fun hG => Val.loadLiveAgg Tryd.underlying33 rfl zs33 (Ev.opt rfl hG) rfl rfl rfl rfl (bl rfl)) rfl ?_
  refine WL.g (Grd.t rfl rfl rfl) (fun hG => Val.eqlSrt is33 (Ev.opt rfl hG) (Ev.opt rfl hG)) rfl ?_
  refine WL.v (Val.and (tm rfl) (fun hb => Ev.opt rfl hb)) rfl ?_
  refine mv rfl rfl ?_
  refine WL.g (Grd.t rfl rfl rfl) (fun hG => Val.fal (off := 1) Tryd.underlying35 rfl rfl zs22 (tm rfl)) rfl ?_
  refine WL.g (Grd.t rfl rfl rfl) (fun hG => Val.loadLive Tryd.underlying22 rfl (Ev.opt rfl hG) rfl rfl rfl rfl rfl) rfl ?_
  refine WL.g (Grd.t rfl rfl rfl) (fun hG => Val.fal (off := 1) Tryd.underlying35 rfl rfl zs22 (tm rfl)) rfl ?_
  refine WL.g (Grd.t rfl rfl rfl) (fun hG => Val.loadLive Tryd.underlying22 rfl (Ev.opt rfl hG) rfl rfl rfl rfl rfl) rfl ?_
  refine WL.gcall (Grd.t rfl rfl rfl) ca18 (fun hG => (evc (Ev.opt rfl hG) (evc (Ev.opt rfl hG) evn))) (lo1 (lo1 lo0)) rfl (fun hG => c_SameInts W0 N _ _ (by omega)) ?_
  refine WL.v (Val.and (tm rfl) (fun hb => Ev.opt rfl hb)) rfl ?_
  refine asg rfl rfl ?_
  refine WL.norm 52 [(4, _)] [some ⟨_, _, [[_, _, _, _, _, _, _, _, _]]⟩, some ⟨_, _, [[_, _, _, _, _, _, _, _, _]]⟩] rfl ⟨rfl, trivial⟩ rfl rfl ?_
  refine wn ?_
  refine W.ret ?_
  exact Ret.of (.inr rfl) rfl (res1 rfl rfl) (Fewer.nil _) (.inr trivial) (fun id h => absurd h (Nat.not_lt_zero _)) (.same rfl) ⟨rfl, by rw [← Nd.eq_iff]; simp only [Nd.like, Bool.and_assoc]⟩
end Go.Aw
namespace Go.Aw
open Go.RowKit Go.Proofs

/-- Kids come before their node. -/
structure WFG (g : List Nd) : Prop where
  len : g.length ≤ 1000
  node : ∀ i : Nat, ∀ n, g[i]? = some n → n.kids.length ≤ 1000 ∧ ∀ k, k ∈ n.kids → 0 ≤ k ∧ k < i
  var : ∀ n, n ∈ g → n.op = 0 → n.kids = []
theorem WFG.few {g : List Nd} (hg : WFG g) {i : Int} (h0 : 0 ≤ i) (h1 : i < g.length) : (gA g i).kids.length ≤ 1000 := (hg.node _ _ (gA_at h0 h1)).1
theorem WFG.kid {g : List Nd} (hg : WFG g) {i k : Int} (h0 : 0 ≤ i) (h1 : i < g.length) (h2 : 0 ≤ k) (h3 : k < (gA g i).kids.length) : 0 ≤ gA (gA g i).kids k ∧ gA (gA g i).kids k < i := by
  have := (hg.node _ _ (gA_at h0 h1)).2 _ (gA_mem h2 h3)
  omega
theorem u64_wrap_nonneg (n : Int) : 0 ≤ IntKind.u64.wrap n := by simp only [IntKind.wrap, IntKind.signed, IntKind.bits]; exact Int.emod_nonneg _ (by decide)
/-- A node that compares two terms of one sort. -/
def EqFine (g : List Nd) (n : Nd) : Prop := n.op = 18 ∧ n.n = 0 ∧ n.m = 0 ∧ n.u = 0 ∧ n.text = ⟨#[]⟩ ∧ ∃ a b : Int, n.kids = [a, b] ∧ 0 ≤ a ∧ a < g.length ∧ 0 ≤ b ∧ b < g.length ∧ (gA g a).sort = (gA g b).sort
/-- The kids are nodes of a graph. -/
def KidsIn (g : List Nd) (n : Nd) : Prop := n.kids.length ≤ 3 ∧ (∀ k, k ∈ n.kids → 0 ≤ k ∧ k < (g.length : Int)) ∧ (n.op = 0 → n.kids = [])
theorem kids_step {l : List Int} {n k : Int} (h0 : 0 ≤ k) (h1 : k < l.length) (h : ∀ j : Nat, j < k.toNat → ∀ x, l[j]? = some x → 0 ≤ x ∧ x < n) (hc : 0 ≤ gA l k ∧ gA l k < n) : ∀ j : Nat, j < (k + 1).toNat → ∀ x, l[j]? = some x → 0 ≤ x ∧ x < n := by
  intro j hj x hx
  by_cases hjk : j < k.toNat
  · exact h j hjk x hx
  · have : j = k.toNat := by omega
    subst this
    rw [gA_at h0 h1] at hx; cases hx; exact hc
theorem kids_end {l : List Int} {n k : Int} (h0 : 0 ≤ k) (h1 : l.length ≤ k) (h : ∀ j : Nat, j < k.toNat → ∀ x, l[j]? = some x → 0 ≤ x ∧ x < n) : ∀ x, x ∈ l → 0 ≤ x ∧ x < n := by
  intro x hx
  obtain ⟨j, hj⟩ := List.getElem?_of_mem hx
  have := (List.getElem?_eq_some_iff.1 hj).1
  exact h j (by omega) x hj
/-- The sorts of the kids. -/
def sortsOf (g : List Nd) (l : List Int) : List Srt := l.map fun k => (gA g k).sort
theorem sorts_step {g : List Nd} {l : List Int} {k : Int} (h0 : 0 ≤ k) (h1 : k < l.length) : sortsOf g (l.take k.toNat) ++ [(gA g (gA l k)).sort] = sortsOf g (l.take (k + 1).toNat) := by
  have : (k + 1).toNat = k.toNat + 1 := by omega
  rw [this, List.take_add_one, gA_at h0 h1]
  simp [sortsOf]
theorem Acc.some {α : Type} {enc : α → List FV} {l : List α} {j s : Nat} {v : AV} {o : Option Row} (ha : Acc j s (fz (l.map enc)) v o) (hl : l.length ≠ 0) : ∃ gen, v = .row j gen s 0 l.length ∧ o = Option.some ⟨gen, s, fz (l.map enc)⟩ := by
  rcases ha with ⟨he, _, _⟩ | ⟨gen, hv, ho⟩
  · exfalso; apply hl; cases l with | nil => rfl | cons => simp [fz] at he
  · exact ⟨gen, by rw [hv]; simp [fz], ho⟩
theorem like_in {l : List Int} {k n : Int} (h : ∀ x, x ∈ l → 0 ≤ x ∧ x < n) (hk : 0 ≤ k ∧ k < n) : ∀ x, x ∈ l ++ [k] → 0 ≤ x ∧ x < n := by
  intro x hx
  rcases List.mem_append.1 hx with hx | hx
  · exact h x hx
  · rw [List.mem_singleton.1 hx]; exact hk
-- enthymemeref07.Named
set_option maxHeartbeats 1000000 in
theorem c_Named (W0 : World) (N : Nat) (s : ByteArray) (hs : s.size ≤ 1000000) : AC (En W0 N) 64 [.f (.v (.string s))] [] (fun r h => h = [] ∧ ∃ b, r = .b b ∧ True) := by
  refine AC.enter Tryd.func64 rfl Tryd.ntmps64 (bl rfl) fun X => ?_
  refine sr ?_
  refine WL.v (Val.assign Ev.const) rfl ?_
  refine WL.norm 62 [(0, _)] [] rfl ⟨rfl, trivial⟩ rfl rfl ?_
  refine wn ?_
  refine W.seq ?_
  refine sr ?_
  refine mv rfl rfl ?_
  refine WL.v (Val.lenS Tryd.underlying9 (tm rfl)) rfl ?_
  refine WL.v (Val.lss (tm rfl) Ev.const) rfl ?_
  refine mv rfl rfl ?_
  refine WL.g (Grd.f rfl rfl rfl) (fun hG => Val.move (tm rfl)) rfl ?_
  refine WL.g (Grd.f rfl rfl rfl) (fun hG => Val.lenS Tryd.underlying9 (Ev.opt rfl hG)) rfl ?_
  refine WL.g (Grd.f rfl rfl rfl) (fun hG => Val.gtr (Ev.opt rfl hG) Ev.const) rfl ?_
  refine WL.v (Val.or (tm rfl) (fun hb => Ev.opt rfl (nt hb))) rfl ?_
  refine mv rfl rfl ?_
  refine WL.g (Grd.f rfl rfl rfl) (fun hG => Val.move (tm rfl)) rfl ?_
  refine WL.g (Grd.f rfl rfl rfl) (fun hG => Val.ixB Tryd.underlying9 (Ev.opt rfl hG) Ev.const (by try simp only [td] at hG; omega) (by try simp only [td] at hG; omega)) rfl ?_
  refine WL.g (Grd.f rfl rfl rfl) (fun hG => Val.lss (Ev.opt rfl hG) Ev.const) rfl ?_
  refine WL.v (Val.or (tm rfl) (fun hb => Ev.opt rfl (nt hb))) rfl ?_
  refine mv rfl rfl ?_
  refine WL.g (Grd.f rfl rfl rfl) (fun hG => Val.move (tm rfl)) rfl ?_
  refine WL.g (Grd.f rfl rfl rfl) (fun hG => Val.ixB Tryd.underlying9 (Ev.opt rfl hG) Ev.const (by try simp only [td] at hG; omega) (by try simp only [td] at hG; omega)) rfl ?_
  refine WL.g (Grd.f rfl rfl rfl) (fun hG => Val.gtr (Ev.opt rfl hG) Ev.const) rfl ?_
  refine WL.v (Val.or (tm rfl) (fun hb => Ev.opt rfl (nt hb))) rfl ?_
  refine WL.norm 62 [(0, _), (23, _)] [] rfl ⟨rfl, rfl, trivial⟩ rfl rfl ?_
  refine wn ?_
  refine W.condP rfl (fun hc1 => ?_) (fun hc1 => ?_)
  · try simp only [td] at hc1
    refine sr ?_
    refine WL.v (Val.assign Ev.const) rfl ?_
    refine WL.norm 62 [(2, _)] [] rfl ⟨rfl, trivial⟩ rfl rfl ?_
    refine wn ?_
    refine W.ret (rt1 ?_)
    exact Ret.of (.inr rfl) rfl (res1 rfl rfl) (Fewer.nil _) (.inr trivial) (fun id h => absurd h (Nat.not_lt_zero _)) (.same rfl) ⟨rfl, _, rfl, trivial⟩
  try simp only [td] at hc1
  refine W.skip (nm ?_)
  refine W.seq ?_
  refine sr ?_
  refine WL.v (Val.assign Ev.const) rfl ?_
  refine WL.norm 62 [(0, _), (3, _)] [] rfl ⟨rfl, rfl, trivial⟩ rfl rfl ?_
  refine wn ?_
  refine W.norm 62 [(0, _), (3, _)] [] rfl ⟨rfl, rfl, trivial⟩ rfl rfl ?_
  refine W.block (W.loop (fun nn S => ∃ (k : Int), S = ⟨62, [(0, .f (.v (.string s))), (3, .i k)], [], []⟩ ∧ nn = ((s.size - k).toNat) ∧ (0 ≤ k) ∧ (k ≤ s.size)) ⟨0, rfl, rfl, by omega, by omega⟩ ?_)
  rintro nn S ⟨k, rfl, rfl, hf0_0, hf0_1⟩
  refine W.seq ?_
  refine sr ?_
  refine mv rfl rfl ?_
  refine mv rfl rfl ?_
  refine WL.v (Val.lenS Tryd.underlying9 (tm rfl)) rfl ?_
  refine WL.v (Val.lss (tm rfl) (tm rfl)) rfl ?_
  refine WL.norm 62 [(0, _), (3, _), (27, _)] [] rfl ⟨rfl, rfl, rfl, trivial⟩ rfl rfl ?_
  refine wn ?_
  refine W.condP rfl (fun hc4 => ?_) (fun hc4 => ?_)
  · try simp only [td] at hc4
    refine W.skip (nm ?_)
    refine W.seq ?_
    refine W.block ?_
    refine sr ?_
    refine mv rfl rfl ?_
    refine mv rfl rfl ?_
    refine WL.v (Val.ixB Tryd.underlying9 (tm rfl) (tm rfl) (by omega) (by omega)) rfl ?_
    refine WL.v (Val.geq (tm rfl) Ev.const) rfl ?_
    refine mv rfl rfl ?_
    refine WL.g (Grd.t rfl rfl rfl) (fun hG => Val.move (tm rfl)) rfl ?_
    refine WL.g (Grd.t rfl rfl rfl) (fun hG => Val.move (tm rfl)) rfl ?_
    refine WL.g (Grd.t rfl rfl rfl) (fun hG => Val.ixB Tryd.underlying9 (Ev.opt rfl hG) (Ev.opt rfl hG) (by try simp only [td] at hG; omega) (by try simp only [td] at hG; omega)) rfl ?_
    refine WL.g (Grd.t rfl rfl rfl) (fun hG => Val.leq (Ev.opt rfl hG) Ev.const) rfl ?_
    refine WL.v (Val.and (tm rfl) (fun hb => Ev.opt rfl hb)) rfl ?_
    refine asg rfl rfl ?_
    refine WL.norm 62 [(0, _), (3, _), (4, _)] [] rfl ⟨rfl, rfl, rfl, trivial⟩ rfl rfl ?_
    refine wn ?_
    refine sr ?_
    refine mv rfl rfl ?_
    refine mv rfl rfl ?_
    refine WL.v (Val.ixB Tryd.underlying9 (tm rfl) (tm rfl) (by omega) (by omega)) rfl ?_
    refine WL.v (Val.geq (tm rfl) Ev.const) rfl ?_
    refine mv rfl rfl ?_
    refine WL.g (Grd.t rfl rfl rfl) (fun hG => Val.move (tm rfl)) rfl ?_
    refine WL.g (Grd.t rfl rfl rfl) (fun hG => Val.move (tm rfl)) rfl ?_
    refine WL.g (Grd.t rfl rfl rfl) (fun hG => Val.ixB Tryd.underlying9 (Ev.opt rfl hG) (Ev.opt rfl hG) (by try simp only [td] at hG; omega) (by try simp only [td] at hG; omega)) rfl ?_
    refine WL.g (Grd.t rfl rfl rfl) (fun hG => Val.leq (Ev.opt rfl hG) Ev.const) rfl ?_
    refine WL.v (Val.and (tm rfl) (fun hb => Ev.opt rfl hb)) rfl ?_
    refine mv rfl rfl ?_
    refine WL.g (Grd.f rfl rfl rfl) (fun hG => Val.move (tm rfl)) rfl ?_
    refine WL.g (Grd.f rfl rfl rfl) (fun hG => Val.move (tm rfl)) rfl ?_
    refine WL.g (Grd.f rfl rfl rfl) (fun hG => Val.ixB Tryd.underlying9 (Ev.opt rfl hG) (Ev.opt rfl hG) (by try simp only [td] at hG; omega) (by try simp only [td] at hG; omega)) rfl ?_
    refine WL.g (Grd.f rfl rfl rfl) (fun hG => Val.eql (Ev.opt rfl hG) Ev.const) rfl ?_
    refine WL.v (Val.or (tm rfl) (fun hb => Ev.opt rfl (nt hb))) rfl ?_
    refine asg rfl rfl ?_
    refine WL.norm 62 [(0, _), (3, _), (4, _), (5, _)] [] rfl ⟨rfl, rfl, rfl, rfl, trivial⟩ rfl rfl ?_
    refine wn ?_
    refine sr ?_
    refine mv rfl rfl ?_
    refine WL.v (Val.not (tm rfl)) rfl ?_
    refine mv rfl rfl ?_
    refine WL.g (Grd.t rfl rfl rfl) (fun hG => Val.move (tm rfl)) rfl ?_
    refine WL.g (Grd.t rfl rfl rfl) (fun hG => Val.not (Ev.opt rfl hG)) rfl ?_
    refine WL.v (Val.and (tm rfl) (fun hb => Ev.opt rfl hb)) rfl ?_
    refine WL.norm 62 [(0, _), (3, _), (61, _)] [] rfl ⟨rfl, rfl, rfl, trivial⟩ rfl rfl ?_
    refine wn ?_
    refine W.condP rfl (fun hc8 => ?_) (fun hc8 => ?_)
    · try simp only [td] at hc8
      refine sr ?_
      refine WL.v (Val.assign Ev.const) rfl ?_
      refine WL.norm 62 [(2, _)] [] rfl ⟨rfl, trivial⟩ rfl rfl ?_
      refine wn ?_
      refine W.ret (rt2 (rt1 (rt1 (rt2 (rt1 ?_)))))
      exact Ret.of (.inr rfl) rfl (res1 rfl rfl) (Fewer.nil _) (.inr trivial) (fun id h => absurd h (Nat.not_lt_zero _)) (.same rfl) ⟨rfl, _, rfl, trivial⟩
    try simp only [td] at hc8
    refine W.skip (nb (nm ?_))
    refine W.region ?_
    refine mv rfl rfl ?_
    refine WL.v (Val.add (tm rfl) Ev.const (IntWalk.i64_in _ (by omega))) rfl ?_
    refine asg rfl rfl ?_
    refine WL.norm 62 [(0, _), (3, _)] [] rfl ⟨rfl, rfl, trivial⟩ rfl rfl ?_
    refine wn ?_
    exact ⟨_, by omega, k + 1, rfl, rfl, by omega, by omega⟩
  try simp only [td] at hc4
  refine W.exit (ex1 (ex1 (ex2 (nm ?_))))
  refine sr ?_
  refine WL.v (Val.assign Ev.const) rfl ?_
  refine WL.norm 62 [(2, _)] [] rfl ⟨rfl, trivial⟩ rfl rfl ?_
  refine wn ?_
  refine W.ret ?_
  exact Ret.of (.inr rfl) rfl (res1 rfl rfl) (Fewer.nil _) (.inr trivial) (fun id h => absurd h (Nat.not_lt_zero _)) (.same rfl) ⟨rfl, _, rfl, trivial⟩
-- enthymemeref06.ValidSort
set_option maxHeartbeats 1000000 in
theorem c_ValidSort (W0 : World) (N : Nat) (s : Srt) : AC (En W0 N) 65 [s.agg] [] (fun r h => h = [] ∧ ∃ e, r = .i e) := by
  refine AC.enter Tryd.func65 rfl Tryd.ntmps65 (bl rfl) fun X => ?_
  refine sr ?_
  refine WL.stp rfl (Stp.box (tm rfl) rfl rfl) ?_
  refine WL.v (Val.assign Ev.const) rfl ?_
  refine WL.norm 48 [(1, _)] [some ⟨_, _, [[_, _, _]]⟩] rfl ⟨rfl, trivial⟩ rfl rfl ?_
  refine wn ?_
  refine sr ?_
  refine WL.v (Val.assign Ev.const) rfl ?_
  refine WL.norm 48 [(1, _), (3, _)] [some ⟨_, _, [[_, _, _]]⟩] rfl ⟨rfl, rfl, trivial⟩ rfl rfl ?_
  refine wn ?_
  refine W.seq ?_
  refine sr ?_
  refine WL.v (Val.fal (off := 0) Tryd.underlying33 rfl rfl zs3 (tm rfl)) rfl ?_
  refine WL.v (Val.loadLive Tryd.underlying3 rfl (tm rfl) rfl rfl rfl rfl rfl) rfl ?_
  refine WL.norm 48 [(1, _), (3, _), (5, _)] [some ⟨_, _, [[_, _, _]]⟩] rfl ⟨rfl, rfl, rfl, trivial⟩ rfl rfl ?_
  refine wn ?_
  refine W.block ?_
  refine sr ?_
  refine WL.v (Val.eql (tm rfl) Ev.const) rfl ?_
  refine asg rfl rfl ?_
  refine WL.norm 48 [(1, _), (3, _), (5, _), (6, _)] [some ⟨_, _, [[_, _, _]]⟩] rfl ⟨rfl, rfl, rfl, rfl, trivial⟩ rfl rfl ?_
  refine wn ?_
  refine W.condP rfl (fun hc3 => ?_) (fun hc3 => ?_)
  · try simp only [td] at hc3
    refine W.region ?_
    refine WL.v (Val.fal (off := 1) Tryd.underlying33 rfl rfl zs3 (tm rfl)) rfl ?_
    refine WL.v (Val.loadLive Tryd.underlying3 rfl (tm rfl) rfl rfl rfl rfl rfl) rfl ?_
    refine WL.callV ca76 (evc (tm rfl) (evc Ev.const (evc Ev.const evn))) (lo1 (lo1 (lo1 lo0))) rfl (c_within6 W0 N _ _ _) ?_
    rintro _ rfl
    refine mv rfl rfl ?_
    refine WL.g (Grd.t rfl rfl rfl) (fun hG => Val.fal (off := 2) Tryd.underlying33 rfl rfl zs3 (tm rfl)) rfl ?_
    refine WL.g (Grd.t rfl rfl rfl) (fun hG => Val.loadLive Tryd.underlying3 rfl (Ev.opt rfl hG) rfl rfl rfl rfl rfl) rfl ?_
    refine WL.g (Grd.t rfl rfl rfl) (fun hG => Val.eql (Ev.opt rfl hG) Ev.const) rfl ?_
    refine WL.v (Val.and (tm rfl) (fun hb => Ev.opt rfl hb)) rfl ?_
    refine asg rfl rfl ?_
    refine WL.norm 48 [(3, _)] [some ⟨_, _, [[_, _, _]]⟩] rfl ⟨rfl, trivial⟩ rfl rfl ?_
    refine WL.nil (nb (nm ?_))
    refine W.seq ?_
    refine sr ?_
    refine mv rfl rfl ?_
    refine WL.v (Val.not (tm rfl)) rfl ?_
    refine WL.norm 48 [(47, _)] [some ⟨_, _, [[_, _, _]]⟩] rfl ⟨rfl, trivial⟩ rfl rfl ?_
    refine wn ?_
    refine W.condP rfl (fun hc11 => ?_) (fun hc11 => ?_)
    · try simp only [td] at hc11
      refine sr ?_
      refine WL.v (Val.assign Ev.const) rfl ?_
      refine WL.norm 48 [(2, _)] [some ⟨_, _, [[_, _, _]]⟩] rfl ⟨rfl, trivial⟩ rfl rfl ?_
      refine wn ?_
      refine W.ret (rt1 ?_)
      exact Ret.of (.inr rfl) rfl (res1 rfl rfl) (Fewer.nil _) (.inr trivial) (fun id h => absurd h (Nat.not_lt_zero _)) (.same rfl) ⟨rfl, _, rfl⟩
    try simp only [td] at hc11
    refine W.skip (nm ?_)
    refine sr ?_
    refine WL.v (Val.assign Ev.const) rfl ?_
    refine WL.norm 48 [(2, _)] [some ⟨_, _, [[_, _, _]]⟩] rfl ⟨rfl, trivial⟩ rfl rfl ?_
    refine wn ?_
    refine W.ret ?_
    exact Ret.of (.inr rfl) rfl (res1 rfl rfl) (Fewer.nil _) (.inr trivial) (fun id h => absurd h (Nat.not_lt_zero _)) (.same rfl) ⟨rfl, _, rfl⟩
  try simp only [td] at hc3
  refine sr ?_
  refine WL.v (Val.eql (tm rfl) Ev.const) rfl ?_
  refine asg rfl rfl ?_
  refine WL.norm 48 [(1, _), (3, _), (5, _), (16, _)] [some ⟨_, _, [[_, _, _]]⟩] rfl ⟨rfl, rfl, rfl, rfl, trivial⟩ rfl rfl ?_
  refine wn ?_
  refine W.condP rfl (fun hc5 => ?_) (fun hc5 => ?_)
  · try simp only [td] at hc5
    refine W.region ?_
    refine WL.v (Val.fal (off := 1) Tryd.underlying33 rfl rfl zs3 (tm rfl)) rfl ?_
    refine WL.v (Val.loadLive Tryd.underlying3 rfl (tm rfl) rfl rfl rfl rfl rfl) rfl ?_
    refine WL.callV ca76 (evc (tm rfl) (evc Ev.const (evc Ev.const evn))) (lo1 (lo1 (lo1 lo0))) rfl (c_within6 W0 N _ _ _) ?_
    rintro _ rfl
    refine mv rfl rfl ?_
    refine WL.g (Grd.t rfl rfl rfl) (fun hG => Val.fal (off := 2) Tryd.underlying33 rfl rfl zs3 (tm rfl)) rfl ?_
    refine WL.g (Grd.t rfl rfl rfl) (fun hG => Val.loadLive Tryd.underlying3 rfl (Ev.opt rfl hG) rfl rfl rfl rfl rfl) rfl ?_
    refine WL.g (Grd.t rfl rfl rfl) (fun hG => Val.eql (Ev.opt rfl hG) Ev.const) rfl ?_
    refine WL.v (Val.and (tm rfl) (fun hb => Ev.opt rfl hb)) rfl ?_
    refine asg rfl rfl ?_
    refine WL.norm 48 [(3, _)] [some ⟨_, _, [[_, _, _]]⟩] rfl ⟨rfl, trivial⟩ rfl rfl ?_
    refine WL.nil (nb (nm ?_))
    refine W.seq ?_
    refine sr ?_
    refine mv rfl rfl ?_
    refine WL.v (Val.not (tm rfl)) rfl ?_
    refine WL.norm 48 [(47, _)] [some ⟨_, _, [[_, _, _]]⟩] rfl ⟨rfl, trivial⟩ rfl rfl ?_
    refine wn ?_
    refine W.condP rfl (fun hc11 => ?_) (fun hc11 => ?_)
    · try simp only [td] at hc11
      refine sr ?_
      refine WL.v (Val.assign Ev.const) rfl ?_
      refine WL.norm 48 [(2, _)] [some ⟨_, _, [[_, _, _]]⟩] rfl ⟨rfl, trivial⟩ rfl rfl ?_
      refine wn ?_
      refine W.ret (rt1 ?_)
      exact Ret.of (.inr rfl) rfl (res1 rfl rfl) (Fewer.nil _) (.inr trivial) (fun id h => absurd h (Nat.not_lt_zero _)) (.same rfl) ⟨rfl, _, rfl⟩
    try simp only [td] at hc11
    refine W.skip (nm ?_)
    refine sr ?_
    refine WL.v (Val.assign Ev.const) rfl ?_
    refine WL.norm 48 [(2, _)] [some ⟨_, _, [[_, _, _]]⟩] rfl ⟨rfl, trivial⟩ rfl rfl ?_
    refine wn ?_
    refine W.ret ?_
    exact Ret.of (.inr rfl) rfl (res1 rfl rfl) (Fewer.nil _) (.inr trivial) (fun id h => absurd h (Nat.not_lt_zero _)) (.same rfl) ⟨rfl, _, rfl⟩
  try simp only [td] at hc5
  refine sr ?_
  refine WL.v (Val.eql (tm rfl) Ev.const) rfl ?_
  refine asg rfl rfl ?_
  refine WL.norm 48 [(1, _), (3, _), (5, _), (26, _)] [some ⟨_, _, [[_, _, _]]⟩] rfl ⟨rfl, rfl, rfl, rfl, trivial⟩ rfl rfl ?_
  refine wn ?_
  refine W.condP rfl (fun hc7 => ?_) (fun hc7 => ?_)
  · try simp only [td] at hc7
    refine W.region ?_
    refine WL.v (Val.fal (off := 1) Tryd.underlying33 rfl rfl zs3 (tm rfl)) rfl ?_
    refine WL.v (Val.loadLive Tryd.underlying3 rfl (tm rfl) rfl rfl rfl rfl rfl) rfl ?_
    refine WL.callV ca76 (evc (tm rfl) (evc Ev.const (evc Ev.const evn))) (lo1 (lo1 (lo1 lo0))) rfl (c_within6 W0 N _ _ _) ?_
    rintro _ rfl
    refine mv rfl rfl ?_
    refine WL.g (Grd.t rfl rfl rfl) (fun hG => Val.fal (off := 2) Tryd.underlying33 rfl rfl zs3 (tm rfl)) rfl ?_
    refine WL.g (Grd.t rfl rfl rfl) (fun hG => Val.loadLive Tryd.underlying3 rfl (Ev.opt rfl hG) rfl rfl rfl rfl rfl) rfl ?_
    refine WL.gcall (Grd.t rfl rfl rfl) ca76 (fun hG => (evc (Ev.opt rfl hG) (evc Ev.const (evc Ev.const evn)))) (lo1 (lo1 (lo1 lo0))) rfl (fun hG => c_within6 W0 N _ _ _) ?_
    refine WL.v (Val.and (tm rfl) (fun hb => Ev.opt rfl hb)) rfl ?_
    refine asg rfl rfl ?_
    refine WL.norm 48 [(3, _)] [some ⟨_, _, [[_, _, _]]⟩] rfl ⟨rfl, trivial⟩ rfl rfl ?_
    refine WL.nil (nb (nm ?_))
    refine W.seq ?_
    refine sr ?_
    refine mv rfl rfl ?_
    refine WL.v (Val.not (tm rfl)) rfl ?_
    refine WL.norm 48 [(47, _)] [some ⟨_, _, [[_, _, _]]⟩] rfl ⟨rfl, trivial⟩ rfl rfl ?_
    refine wn ?_
    refine W.condP rfl (fun hc11 => ?_) (fun hc11 => ?_)
    · try simp only [td] at hc11
      refine sr ?_
      refine WL.v (Val.assign Ev.const) rfl ?_
      refine WL.norm 48 [(2, _)] [some ⟨_, _, [[_, _, _]]⟩] rfl ⟨rfl, trivial⟩ rfl rfl ?_
      refine wn ?_
      refine W.ret (rt1 ?_)
      exact Ret.of (.inr rfl) rfl (res1 rfl rfl) (Fewer.nil _) (.inr trivial) (fun id h => absurd h (Nat.not_lt_zero _)) (.same rfl) ⟨rfl, _, rfl⟩
    try simp only [td] at hc11
    refine W.skip (nm ?_)
    refine sr ?_
    refine WL.v (Val.assign Ev.const) rfl ?_
    refine WL.norm 48 [(2, _)] [some ⟨_, _, [[_, _, _]]⟩] rfl ⟨rfl, trivial⟩ rfl rfl ?_
    refine wn ?_
    refine W.ret ?_
    exact Ret.of (.inr rfl) rfl (res1 rfl rfl) (Fewer.nil _) (.inr trivial) (fun id h => absurd h (Nat.not_lt_zero _)) (.same rfl) ⟨rfl, _, rfl⟩
  try simp only [td] at hc7
  refine sr ?_
  refine WL.v (Val.eql (tm rfl) Ev.const) rfl ?_
  refine asg rfl rfl ?_
  refine WL.norm 48 [(1, _), (3, _), (36, _)] [some ⟨_, _, [[_, _, _]]⟩] rfl ⟨rfl, rfl, rfl, trivial⟩ rfl rfl ?_
  refine wn ?_
  refine W.condP rfl (fun hc9 => ?_) (fun hc9 => ?_)
  · try simp only [td] at hc9
    refine W.region ?_
    refine WL.v (Val.fal (off := 1) Tryd.underlying33 rfl rfl zs3 (tm rfl)) rfl ?_
    refine WL.v (Val.loadLive Tryd.underlying3 rfl (tm rfl) rfl rfl rfl rfl rfl) rfl ?_
    refine WL.callV ca76 (evc (tm rfl) (evc Ev.const (evc Ev.const evn))) (lo1 (lo1 (lo1 lo0))) rfl (c_within6 W0 N _ _ _) ?_
    rintro _ rfl
    refine mv rfl rfl ?_
    refine WL.g (Grd.t rfl rfl rfl) (fun hG => Val.fal (off := 2) Tryd.underlying33 rfl rfl zs3 (tm rfl)) rfl ?_
    refine WL.g (Grd.t rfl rfl rfl) (fun hG => Val.loadLive Tryd.underlying3 rfl (Ev.opt rfl hG) rfl rfl rfl rfl rfl) rfl ?_
    refine WL.gcall (Grd.t rfl rfl rfl) ca76 (fun hG => (evc (Ev.opt rfl hG) (evc Ev.const (evc Ev.const evn)))) (lo1 (lo1 (lo1 lo0))) rfl (fun hG => c_within6 W0 N _ _ _) ?_
    refine WL.v (Val.and (tm rfl) (fun hb => Ev.opt rfl hb)) rfl ?_
    refine asg rfl rfl ?_
    refine WL.norm 48 [(3, _)] [some ⟨_, _, [[_, _, _]]⟩] rfl ⟨rfl, trivial⟩ rfl rfl ?_
    refine WL.nil (nb (nm ?_))
    refine W.seq ?_
    refine sr ?_
    refine mv rfl rfl ?_
    refine WL.v (Val.not (tm rfl)) rfl ?_
    refine WL.norm 48 [(47, _)] [some ⟨_, _, [[_, _, _]]⟩] rfl ⟨rfl, trivial⟩ rfl rfl ?_
    refine wn ?_
    refine W.condP rfl (fun hc11 => ?_) (fun hc11 => ?_)
    · try simp only [td] at hc11
      refine sr ?_
      refine WL.v (Val.assign Ev.const) rfl ?_
      refine WL.norm 48 [(2, _)] [some ⟨_, _, [[_, _, _]]⟩] rfl ⟨rfl, trivial⟩ rfl rfl ?_
      refine wn ?_
      refine W.ret (rt1 ?_)
      exact Ret.of (.inr rfl) rfl (res1 rfl rfl) (Fewer.nil _) (.inr trivial) (fun id h => absurd h (Nat.not_lt_zero _)) (.same rfl) ⟨rfl, _, rfl⟩
    try simp only [td] at hc11
    refine W.skip (nm ?_)
    refine sr ?_
    refine WL.v (Val.assign Ev.const) rfl ?_
    refine WL.norm 48 [(2, _)] [some ⟨_, _, [[_, _, _]]⟩] rfl ⟨rfl, trivial⟩ rfl rfl ?_
    refine wn ?_
    refine W.ret ?_
    exact Ret.of (.inr rfl) rfl (res1 rfl rfl) (Fewer.nil _) (.inr trivial) (fun id h => absurd h (Nat.not_lt_zero _)) (.same rfl) ⟨rfl, _, rfl⟩
  try simp only [td] at hc9
  refine W.skip (nb (nm ?_))
  refine W.seq ?_
  refine sr ?_
  refine mv rfl rfl ?_
  refine WL.v (Val.not (tm rfl)) rfl ?_
  refine WL.norm 48 [(47, _)] [some ⟨_, _, [[_, _, _]]⟩] rfl ⟨rfl, trivial⟩ rfl rfl ?_
  refine wn ?_
  refine W.condP rfl (fun hc11 => ?_) (fun hc11 => ?_)
  · try simp only [td] at hc11
    refine sr ?_
    refine WL.v (Val.assign Ev.const) rfl ?_
    refine WL.norm 48 [(2, _)] [some ⟨_, _, [[_, _, _]]⟩] rfl ⟨rfl, trivial⟩ rfl rfl ?_
    refine wn ?_
    refine W.ret (rt1 ?_)
    exact Ret.of (.inr rfl) rfl (res1 rfl rfl) (Fewer.nil _) (.inr trivial) (fun id h => absurd h (Nat.not_lt_zero _)) (.same rfl) ⟨rfl, _, rfl⟩
  try simp only [td] at hc11
  refine W.skip (nm ?_)
  refine sr ?_
  refine WL.v (Val.assign Ev.const) rfl ?_
  refine WL.norm 48 [(2, _)] [some ⟨_, _, [[_, _, _]]⟩] rfl ⟨rfl, trivial⟩ rfl rfl ?_
  refine wn ?_
  refine W.ret ?_
  exact Ret.of (.inr rfl) rfl (res1 rfl rfl) (Fewer.nil _) (.inr trivial) (fun id h => absurd h (Nat.not_lt_zero _)) (.same rfl) ⟨rfl, _, rfl⟩
-- enthymemeref07.size
set_option maxHeartbeats 1000000 in
theorem c_size (W0 : World) (N : Nat) (g : List Nd) (hg : WFG g) : ∀ (b : Nat) (i : Int), i < b → 0 ≤ i → i < g.length → AC (En W0 N) 26 [.f (.nodes g), .i i] [] (fun r h => h = [] ∧ ∃ q, r = .i q ∧ True) := by
  intro b
  induction b with
  | zero => intro i h1 h2; omega
  | succ b ih =>
  intro i hib h0 hi
  have hfew := hg.few h0 hi
  refine AC.enter Tryd.func26 rfl Tryd.ntmps26 (bl rfl) fun X => ?_
  refine sr ?_
  refine WL.v (Val.assign Ev.const) rfl ?_
  refine WL.norm 30 [(0, _), (1, _)] [] rfl ⟨rfl, rfl, trivial⟩ rfl rfl ?_
  refine wn ?_
  refine sr ?_
  refine WL.v (Val.assign Ev.const) rfl ?_
  refine WL.norm 30 [(0, _), (1, _), (5, _)] [] rfl ⟨rfl, rfl, rfl, trivial⟩ rfl rfl ?_
  refine wn ?_
  refine W.seq ?_
  refine sr ?_
  refine WL.v (Val.assign Ev.const) rfl ?_
  refine WL.norm 30 [(0, _), (1, _), (5, _), (6, _)] [] rfl ⟨rfl, rfl, rfl, rfl, trivial⟩ rfl rfl ?_
  refine wn ?_
  refine W.norm 30 [(0, _), (1, _), (5, _), (6, _)] [] rfl ⟨rfl, rfl, rfl, rfl, trivial⟩ rfl rfl ?_
  refine W.block (W.loop (fun nn S => ∃ (q k : Int), S = ⟨30, [(0, .f (.nodes g)), (1, .i i), (5, .i q), (6, .i k)], [], []⟩ ∧ nn = (((gA g i).kids.length - k).toNat) ∧ (0 ≤ k) ∧ (k ≤ (gA g i).kids.length)) ⟨1, 0, rfl, rfl, by omega, by omega⟩ ?_)
  rintro nn S ⟨q, k, rfl, rfl, hf0_0, hf0_1⟩
  refine W.seq ?_
  refine sr ?_
  refine mv rfl rfl ?_
  refine mv rfl rfl ?_
  refine mv rfl rfl ?_
  refine WL.v (Val.ix (enc := Nd.cells) Tryd.underlying23 zs35 (tm rfl) (tm rfl) (by omega) (gA_at (by omega) (by omega))) rfl ?_
  refine WL.v (Val.fa (off := 1) Tryd.underlying35 rfl rfl zs22 (tm rfl)) rfl ?_
  refine WL.v (Val.load Tryd.underlying22 rfl (tm rfl)) rfl ?_
  refine WL.v (Val.ln (enc := encI) Tryd.underlying22 (tm rfl)) rfl ?_
  refine WL.v (Val.lss (tm rfl) (tm rfl)) rfl ?_
  refine WL.norm 30 [(0, _), (1, _), (5, _), (6, _), (14, _)] [] rfl ⟨rfl, rfl, rfl, rfl, rfl, trivial⟩ rfl rfl ?_
  refine wn ?_
  refine W.condP rfl (fun hc3 => ?_) (fun hc3 => ?_)
  · try simp only [td] at hc3
    refine W.skip (nm ?_)
    refine W.seq ?_
    refine W.block ?_
    have hk := hg.kid h0 hi hf0_0 hc3
    refine W.region ?_
    refine mv rfl rfl ?_
    refine mv rfl rfl ?_
    refine mv rfl rfl ?_
    refine mv rfl rfl ?_
    refine WL.v (Val.ix (enc := Nd.cells) Tryd.underlying23 zs35 (tm rfl) (tm rfl) (by omega) (gA_at (by omega) (by omega))) rfl ?_
    refine WL.v (Val.fa (off := 1) Tryd.underlying35 rfl rfl zs22 (tm rfl)) rfl ?_
    refine WL.v (Val.load Tryd.underlying22 rfl (tm rfl)) rfl ?_
    refine mv rfl rfl ?_
    refine WL.v (Val.ix (enc := encI) Tryd.underlying22 zs3 (tm rfl) (tm rfl) (by omega) (gA_at (by omega) (by omega))) rfl ?_
    refine WL.v (Val.load Tryd.underlying3 rfl (tm rfl)) rfl ?_
    refine WL.callV ca26 (evc (tm rfl) (evc (tm rfl) evn)) (lo1 (lo1 lo0)) rfl (ih _ (by omega) (by omega) (by omega)) ?_
    rintro _ ⟨q', rfl, _⟩
    refine WL.v (Val.add (tm rfl) (tm rfl) rfl) rfl ?_
    refine asg rfl rfl ?_
    refine WL.norm 30 [(0, _), (1, _), (5, _), (6, _)] [] rfl ⟨rfl, rfl, rfl, rfl, trivial⟩ rfl rfl ?_
    refine WL.nil (nb (nm ?_))
    refine W.region ?_
    refine mv rfl rfl ?_
    refine WL.v (Val.add (tm rfl) Ev.const (IntWalk.i64_in _ (by omega))) rfl ?_
    refine asg rfl rfl ?_
    refine WL.norm 30 [(0, _), (1, _), (5, _), (6, _)] [] rfl ⟨rfl, rfl, rfl, rfl, trivial⟩ rfl rfl ?_
    refine wn ?_
    exact ⟨_, by omega, _, k + 1, rfl, rfl, by omega, by omega⟩
  try simp only [td] at hc3
  refine W.exit (ex1 (ex1 (ex2 (nm ?_))))
  refine sr ?_
  refine mv rfl rfl ?_
  refine asg rfl rfl ?_
  refine WL.norm 30 [(4, _)] [] rfl ⟨rfl, trivial⟩ rfl rfl ?_
  refine wn ?_
  refine W.ret ?_
  exact Ret.of (.inr rfl) rfl (res1 rfl rfl) (Fewer.nil _) (.inr trivial) (fun id h => absurd h (Nat.not_lt_zero _)) (.same rfl) ⟨rfl, _, rfl, trivial⟩
-- enthymemeref07.Like
set_option maxHeartbeats 1000000 in
theorem c_Like (W0 : World) (N : Nat) (g : List Nd) (hg : WFG g) (s : Srt) (n : Int) (hn : I6 n) : AC (En W0 N) 11 [.f (.nodes g), s.agg, .i n] [] (fun r h => h = [] ∧ ∃ q, r = .i q ∧ -1 ≤ q ∧ q < g.length) := by
  refine AC.enter Tryd.func11 rfl Tryd.ntmps11 (bl rfl) fun X => ?_
  have hlen := hg.len
  refine sr ?_
  refine WL.stp rfl (Stp.box (tm rfl) rfl rfl) ?_
  refine WL.v (Val.assign Ev.const) rfl ?_
  refine WL.norm 36 [(0, _), (2, _), (4, _)] [some ⟨_, _, [[_, _, _]]⟩] rfl ⟨rfl, rfl, rfl, trivial⟩ rfl rfl ?_
  refine wn ?_
  refine sr ?_
  refine WL.v (Val.assign Ev.const) rfl ?_
  refine WL.norm 36 [(0, _), (2, _), (4, _), (7, _)] [some ⟨_, _, [[_, _, _]]⟩] rfl ⟨rfl, rfl, rfl, rfl, trivial⟩ rfl rfl ?_
  refine wn ?_
  refine W.seq ?_
  refine sr ?_
  refine WL.v (Val.assign Ev.const) rfl ?_
  refine WL.norm 36 [(0, _), (2, _), (4, _), (7, _), (8, _)] [some ⟨_, _, [[_, _, _]]⟩] rfl ⟨rfl, rfl, rfl, rfl, rfl, trivial⟩ rfl rfl ?_
  refine wn ?_
  refine W.reserve ?_
  refine W.norm 36 [(0, _), (2, _), (4, _), (7, _), (8, _)] [some ⟨_, _, [[_, _, _]]⟩, _] rfl ⟨rfl, rfl, rfl, rfl, rfl, trivial⟩ rfl rfl ?_
  refine W.block (W.loop (fun nn S => ∃ (k : Int) (l : List Int) (v : AV) (o : Option Row), S = ⟨36, [(0, .f (.nodes g)), (2, .i n), (4, .ptr 0 0 3 0 0), (7, v), (8, .i k)], [some ⟨0, 3, [[.i s.kind, .i s.n, .i s.index]]⟩, o], []⟩ ∧ nn = ((g.length - k).toNat) ∧ (0 ≤ k) ∧ (k ≤ g.length) ∧ (Acc 1 1 (fz (l.map encI)) v o) ∧ (l.length ≤ k) ∧ (∀ x, x ∈ l → 0 ≤ x ∧ x < (g.length : Int))) ⟨0, [], _, _, rfl, rfl, by omega, by omega, Acc.zero, by simp, by simp⟩ ?_)
  rintro nn S ⟨k, l, v, o, rfl, rfl, hk0, hk1, ha, hl, hr⟩
  refine W.seq ?_
  refine sr ?_
  refine mv rfl rfl ?_
  refine mv rfl rfl ?_
  refine WL.v (Val.ln (enc := Nd.cells) Tryd.underlying23 (tm rfl)) rfl ?_
  refine WL.v (Val.lss (tm rfl) (tm rfl)) rfl ?_
  refine WL.norm 36 [(0, _), (2, _), (4, _), (7, _), (8, _), (12, _)] [some ⟨_, _, [[_, _, _]]⟩, _] rfl ⟨rfl, rfl, rfl, rfl, rfl, rfl, trivial⟩ rfl rfl ?_
  refine wn ?_
  refine W.condP rfl (fun hc3 => ?_) (fun hc3 => ?_)
  · try simp only [td] at hc3
    refine W.skip (nm ?_)
    refine W.seq ?_
    refine W.block ?_
    refine W.seq ?_
    refine W.drawE (fun k => ([([], []), ([], []), ([], []), ([], []), ([], []), ([0], []), ([], [])] : List (List Nat × List Nat)).getD k ([], [])) rfl (by kernel_rfl) (bl rfl) ?_
    refine LexE.val rfl rfl rfl (fun h' ha => Val.move (tm rfl)) ?_
    refine LexE.val rfl rfl rfl (fun h' ha => Val.move (tm rfl)) ?_
    refine LexE.val rfl rfl rfl (fun h' ha => Val.ix (enc := Nd.cells) Tryd.underlying23 zs35 (tm rfl) (tm rfl) (by omega) (gA_at (by omega) (by omega))) ?_
    refine LexE.val rfl rfl rfl (fun h' ha => Val.fa (off := 6) Tryd.underlying35 rfl rfl zs33 (tm rfl)) ?_
    refine LexE.val rfl rfl rfl (fun h' ha => Val.loadAgg Tryd.underlying33 rfl zs33 (tm rfl) (bl rfl)) ?_
    refine LexE.val rfl rfl rfl (fun h' ha => Val.loadLiveAgg Tryd.underlying33 rfl zs33 (tm rfl) ((ha.at_ 0 (by decide)).trans rfl) rfl rfl rfl (bl rfl)) ?_
    refine LexE.val rfl rfl rfl (fun h' ha => Val.eqlSrt is33 (tm rfl) (tm rfl)) ?_
    refine LexE.nil (nm ?_)
    refine W.norm 36 [(0, _), (2, _), (4, _), (7, _), (8, _), (21, _)] [some ⟨_, _, [[_, _, _]]⟩, _] rfl ⟨rfl, rfl, rfl, rfl, rfl, rfl, trivial⟩ rfl rfl ?_
    refine W.condP rfl (fun hc5 => ?_) (fun hc5 => ?_)
    · try simp only [td] at hc5
      refine W.region ?_
      refine mv rfl rfl ?_
      refine mv rfl rfl ?_
      refine WL.stp rfl (Stp.buildFrozen (xs := [_]) (fs := ([k] : List Int).map encI) Tryd.underlying22 zs3 zz3 rfl rfl (evc (tm rfl) evn) fitL (bl rfl) rfl rfl) ?_
      refine WL.appE (enc := encI) ap22_22 (tm rfl) rfl ha (ArgE.lst (enc := encI) (tm rfl) (by intro x; first | rfl | exact rxLen x)) (by simp only [List.length_append, List.length_map, List.length_cons, List.length_nil]; omega) rfl ?_
      intro v' o' ha'
      refine asg rfl rfl ?_
      refine WL.norm 36 [(0, _), (2, _), (4, _), (7, _), (8, _)] [some ⟨_, _, [[_, _, _]]⟩, _] rfl ⟨rfl, rfl, rfl, rfl, rfl, trivial⟩ rfl rfl ?_
      refine WL.nil (nb (nm ?_))
      refine W.region ?_
      refine mv rfl rfl ?_
      refine WL.v (Val.add (tm rfl) Ev.const (IntWalk.i64_in _ (by omega))) rfl ?_
      refine asg rfl rfl ?_
      refine WL.norm 36 [(0, _), (2, _), (4, _), (7, _), (8, _)] [some ⟨_, _, [[_, _, _]]⟩, _] rfl ⟨rfl, rfl, rfl, rfl, rfl, trivial⟩ rfl rfl ?_
      refine wn ?_
      exact ⟨_, by omega, k + 1, _, _, _, rfl, rfl, by omega, by omega, by assumption, by first | omega | (simp only [List.length_append, List.length_cons, List.length_nil]; omega), by first | assumption | exact like_in hr (by omega)⟩
    try simp only [td] at hc5
    refine W.skip (nb (nm ?_))
    refine W.region ?_
    refine mv rfl rfl ?_
    refine WL.v (Val.add (tm rfl) Ev.const (IntWalk.i64_in _ (by omega))) rfl ?_
    refine asg rfl rfl ?_
    refine WL.norm 36 [(0, _), (2, _), (4, _), (7, _), (8, _)] [some ⟨_, _, [[_, _, _]]⟩, _] rfl ⟨rfl, rfl, rfl, rfl, rfl, trivial⟩ rfl rfl ?_
    refine wn ?_
    exact ⟨_, by omega, k + 1, _, _, _, rfl, rfl, by omega, by omega, by assumption, by first | omega | (simp only [List.length_append, List.length_cons, List.length_nil]; omega), by first | assumption | exact like_in hr (by omega)⟩
  try simp only [td] at hc3
  refine W.exit (ex1 (ex1 (ex2 (nm ?_))))
  refine W.seq ?_
  refine sr ?_
  refine mv rfl rfl ?_
  refine WL.v (Val.lenA Tryd.underlying22 (tm rfl) ha) rfl ?_
  refine WL.v (Val.eql (tm rfl) Ev.const) rfl ?_
  refine WL.norm 36 [(2, _), (7, _), (28, _)] [some ⟨_, _, [[_, _, _]]⟩, _] rfl ⟨rfl, rfl, rfl, trivial⟩ rfl rfl ?_
  refine wn ?_
  refine W.condP rfl (fun hc7 => ?_) (fun hc7 => ?_)
  · try simp only [td] at hc7
    refine sr ?_
    refine WL.v (Val.assign Ev.const) rfl ?_
    refine WL.norm 36 [(6, _)] [some ⟨_, _, [[_, _, _]]⟩, _] rfl ⟨rfl, trivial⟩ rfl rfl ?_
    refine wn ?_
    refine W.ret (rt1 ?_)
    exact Ret.of (.inr rfl) rfl (res1 rfl rfl) (Fewer.nil _) (.inr trivial) (fun id h => absurd h (Nat.not_lt_zero _)) (.same rfl) ⟨rfl, _, rfl, by omega, by omega⟩
  try simp only [td] at hc7
  refine W.skip (nm ?_)
  refine W.seq ?_
  obtain ⟨gen, rfl, rfl⟩ := Acc.some ha (by omega)
  have har := around_range (n := n) (most := l.length) (by omega)
  have hin := hr _ (gA_mem (l := l) har.1 har.2)
  refine W.region ?_
  refine mv rfl rfl ?_
  refine mv rfl rfl ?_
  refine mv rfl rfl ?_
  refine WL.v (Val.lenRow Tryd.underlying22 (tm rfl)) rfl ?_
  refine WL.callV ca8 (evc (tm rfl) (evc (tm rfl) evn)) (lo1 (lo1 lo0)) rfl (c_Around W0 N _ _ (by assumption) (by omega)) ?_
  rintro _ rfl
  refine WL.v (Val.indexAddrLive Tryd.underlying22 zs3 (tm rfl) (tm rfl) (by omega) (by omega)) rfl ?_
  refine WL.v (Val.loadLive Tryd.underlying3 rfl (tm rfl) rfl rfl rfl (fz_at (by omega) (by omega)) rfl) rfl ?_
  refine asg rfl rfl ?_
  refine WL.norm 36 [(6, _)] [some ⟨_, _, [[_, _, _]]⟩, _] rfl ⟨rfl, trivial⟩ rfl rfl ?_
  refine wn ?_
  refine W.ret ?_
  exact Ret.of (.inr rfl) rfl (res1 rfl rfl) (Fewer.nil _) (.inr trivial) (fun id h => absurd h (Nat.not_lt_zero _)) (.same rfl) ⟨rfl, _, rfl, by omega, by omega⟩
end Go.Aw
