/- A small logic over the walk's rules: abstract values. 'FV': a value that is told whole, as a tree, and whose memory no one writes any more; 'AV': besides, pointers and slices into live rows. A small logic over the walk's rules: states, how they stand for frames and worlds, and the rules for the forms of code. A small logic over the walk's rules: regions. An operation that only yields a value ('Val'), guarded or not; what an operand stands for ('Ev'). A small logic over the walk's rules: operations that read memory, addresses, arithmetic, tests, strings. A small logic over the walk's rules: arithmetic, tests, strings, lengths, tuples, structs as values, slices of slices. A small logic over the walk's rules: operations that make memory or write it. A small logic over the walk's rules: a live row is written, or moves as it grows. A small logic over the walk's rules: stores, slices that are made, appends. A small logic over the walk's rules: slices that are built, made, appended to. A small logic over the walk's rules: append; make. A small logic over the walk's rules: rows are let go, or frozen; contracts of functions; calls. A small logic over the walk's rules: calls. A small logic over the walk's rules: what is handed back; structs as values; parts of slices and strings; make; closures. A small logic over the walk's rules: regions whose order is drawn. One walk in the order of the text serves every order, where operations of open order don't touch each other's slots and rows.  -/
import Derived.Tactics
import Derived.Below
import Derived.IntWalk
import Derived.Laws.Strings
import Derived.Orders
import Derived.Still
set_option linter.unusedVariables false
set_option linter.unusedSimpArgs false
namespace Go.Aw

/-- A frozen value, told as a tree: a plain one, a slice by its elements (each a list of cells), a pointer by the cells that lie there. -/
inductive FV where
  | v (x : Value)
  | lst (s : Nat) (xs : List (List FV))
  | ref (cs : List FV)

/-- An abstract value. -/
inductive AV where
  | any
  | f (x : FV)
  | agg (cs : List AV)
  | ptr (id gen s i o : Nat)
  | row (id gen s i len : Nat)
  | tup (vs : List AV)
  | fn (g : Fn) (caps : List AV)
  | opt (b : Bool) (x : AV)

/-- A live row: its generation, the cells of an element, the elements. -/
structure Row where
  gen : Nat
  s : Nat
  els : List (List AV)

abbrev Heap := List (Option Row)
/-- Where a row's generation lies: its block and how many elements fit. -/
abbrev Link := Nat → Nat → Option (Nat × Nat)

mutual
def FV.rep (w : World) (X : Nat → Prop) : FV → Value → Prop
  | .v x, y => y = x
  | .lst s xs, y => ∃ a cap, y = .slice a xs.length cap ∧ xs.length ≤ cap ∧ (xs = [] ∨ ∃ b off, a = some ⟨b, off, none⟩ ∧ b < w.heap.size ∧ ¬ X b ∧ FV.repEls w X xs b off s)
  | .ref cs, y => ∃ b off, y = .pointer (some ⟨b, off, none⟩) ∧ b < w.heap.size ∧ ¬ X b ∧ FV.repCells w X cs b off
def FV.repEls (w : World) (X : Nat → Prop) : List (List FV) → Nat → Nat → Nat → Prop
  | [], _, _, _ => True
  | c :: xs, b, off, s => c.length = s ∧ FV.repCells w X c b off ∧ FV.repEls w X xs b (off + s) s
def FV.repCells (w : World) (X : Nat → Prop) : List FV → Nat → Nat → Prop
  | [], _, _ => True
  | x :: cs, b, off => (∃ v, w.cell? ⟨b, off, none⟩ = some v ∧ FV.rep w X x v) ∧ FV.repCells w X cs b (off + 1)
end

mutual
def AV.rep (w : World) (X : Nat → Prop) (L : Link) : AV → Value → Prop
  | .any, _ => True
  | .f x, y => x.rep w X y
  | .agg cs, y => ∃ vs, y = .agg vs ∧ AV.repL w X L cs vs.toList
  | .ptr id gen s i o, y => ∃ b tot, L id gen = some (b, tot) ∧ y = .pointer (some ⟨b, i * s + o, none⟩)
  | .row id gen s i len, y => ∃ b tot, L id gen = some (b, tot) ∧ y = .slice (some ⟨b, i * s, none⟩) len (tot - i) ∧ i + len ≤ tot
  | .tup cs, y => ∃ vs, y = .tuple vs ∧ AV.repL w X L cs vs.toList
  | .fn g caps, y => ∃ cs, y = .func g #[] cs ∧ AV.repL w X L caps cs.toList
  | .opt b x, y => if b = true then x.rep w X L y else y = undef
def AV.repL (w : World) (X : Nat → Prop) (L : Link) : List AV → List Value → Prop
  | [], [] => True
  | x :: xs, y :: ys => x.rep w X L y ∧ AV.repL w X L xs ys
  | _, _ => False
end

theorem AV.repL_length {w : World} {X : Nat → Prop} {L : Link} : ∀ {xs : List AV} {ys : List Value}, AV.repL w X L xs ys → xs.length = ys.length
  | [], [], _ => rfl
  | _ :: _, _ :: _, h => congrArg (· + 1) (AV.repL_length h.2)
  | [], _ :: _, h => h.elim
  | _ :: _, [], h => h.elim

theorem AV.repL_get {w : World} {X : Nat → Prop} {L : Link} : ∀ {xs : List AV} {ys : List Value}, AV.repL w X L xs ys → ∀ {i : Nat} {x : AV}, xs[i]? = some x → ∃ y, ys[i]? = some y ∧ x.rep w X L y
  | [], [], _, _, _, hx => by simp at hx
  | x :: xs, y :: ys, h, 0, _, hx => by simp at hx; subst hx; exact ⟨y, rfl, h.1⟩
  | x :: xs, y :: ys, h, i + 1, _, hx => by
    have := AV.repL_get h.2 (i := i) (by simpa using hx)
    simpa using this
  | [], _ :: _, h, _, _, _ => h.elim
  | _ :: _, [], h, _, _, _ => h.elim

theorem AV.repL_append {w : World} {X : Nat → Prop} {L : Link} : ∀ {xs : List AV} {ys : List Value}, AV.repL w X L xs ys → ∀ {xs' : List AV} {ys' : List Value}, AV.repL w X L xs' ys' → AV.repL w X L (xs ++ xs') (ys ++ ys')
  | [], [], _, _, _, h' => h'
  | _ :: _, _ :: _, h, _, _, h' => ⟨h.1, AV.repL_append h.2 h'⟩
  | [], _ :: _, h, _, _, _ => h.elim
  | _ :: _, [], h, _, _, _ => h.elim

theorem AV.repL_drop {w : World} {X : Nat → Prop} {L : Link} : ∀ {xs : List AV} {ys : List Value}, AV.repL w X L xs ys → ∀ n, AV.repL w X L (xs.drop n) (ys.drop n)
  | [], [], _, n => by simp; trivial
  | _ :: _, _ :: _, h, 0 => h
  | _ :: _, _ :: _, h, n + 1 => by simpa using AV.repL_drop h.2 n
  | [], _ :: _, h, _ => h.elim
  | _ :: _, [], h, _ => h.elim

theorem AV.repL_take {w : World} {X : Nat → Prop} {L : Link} : ∀ {xs : List AV} {ys : List Value}, AV.repL w X L xs ys → ∀ n, AV.repL w X L (xs.take n) (ys.take n)
  | [], [], _, n => by simp; trivial
  | _ :: _, _ :: _, _, 0 => trivial
  | _ :: _, _ :: _, h, n + 1 => ⟨h.1, AV.repL_take h.2 n⟩
  | [], _ :: _, h, _ => h.elim
  | _ :: _, [], h, _ => h.elim

/-! ### What a frozen value says stays, where the blocks that it reads stay -/
/-- The blocks outside X stay as they were. -/
structure Stays (X : Nat → Prop) (w w' : World) : Prop where
  size : w.heap.size ≤ w'.heap.size
  block : ∀ b, b < w.heap.size → ¬ X b → w'.heap[b]? = w.heap[b]?

theorem Stays.refl (X : Nat → Prop) (w : World) : Stays X w w := ⟨Nat.le_refl _, fun _ _ _ => rfl⟩
theorem Stays.trans {X X' : Nat → Prop} {a b c : World} (h : Stays X a b) (k : Stays X' b c) (hX : ∀ n, n < a.heap.size → X' n → X n) : Stays X a c :=
  ⟨Nat.le_trans h.size k.size, fun n hn hx => (k.block n (Nat.lt_of_lt_of_le hn h.size) (fun h' => hx (hX n hn h'))).trans (h.block n hn hx)⟩

theorem Stays.cell {X : Nat → Prop} {w w' : World} (h : Stays X w w') {b off : Nat} (hb : b < w.heap.size) (hX : ¬ X b) : w'.cell? ⟨b, off, none⟩ = w.cell? ⟨b, off, none⟩ := by
  have := h.block b hb hX
  unfold World.cell?
  rw [this]

section
variable {X X' : Nat → Prop} {w w' : World}
mutual
theorem FV.rep_stays (hs : Stays X w w') (hX : ∀ b, b < w.heap.size → X' b → X b) : ∀ {x : FV} {y : Value}, x.rep w X y → x.rep w' X' y
  | .v _, _, h => h
  | .lst s xs, y, ⟨a, cap, e, hl, h⟩ => ⟨a, cap, e, hl, by
      rcases h with h | ⟨b, off, e', hb, hx, h⟩
      · exact .inl h
      · exact .inr ⟨b, off, e', Nat.lt_of_lt_of_le hb hs.size, fun h' => hx (hX b hb h'), FV.repEls_stays hs hX hb hx h⟩⟩
  | .ref cs, y, ⟨b, off, e, hb, hx, h⟩ => ⟨b, off, e, Nat.lt_of_lt_of_le hb hs.size, fun h' => hx (hX b hb h'), FV.repCells_stays hs hX hb hx h⟩
theorem FV.repEls_stays (hs : Stays X w w') (hX : ∀ b, b < w.heap.size → X' b → X b) : ∀ {xs : List (List FV)} {b off s : Nat}, b < w.heap.size → ¬ X b → FV.repEls w X xs b off s → FV.repEls w' X' xs b off s
  | [], _, _, _, _, _, _ => trivial
  | _ :: _, _, _, _, hb, hx, h => ⟨h.1, FV.repCells_stays hs hX hb hx h.2.1, FV.repEls_stays hs hX hb hx h.2.2⟩
theorem FV.repCells_stays (hs : Stays X w w') (hX : ∀ b, b < w.heap.size → X' b → X b) : ∀ {cs : List FV} {b off : Nat}, b < w.heap.size → ¬ X b → FV.repCells w X cs b off → FV.repCells w' X' cs b off
  | [], _, _, _, _, _ => trivial
  | _ :: _, _, _, hb, hx, h => ⟨by obtain ⟨v, hv, hr⟩ := h.1; exact ⟨v, (hs.cell hb hx).trans hv, FV.rep_stays hs hX hr⟩, FV.repCells_stays hs hX hb hx h.2⟩
end
mutual
theorem AV.rep_stays {L L' : Link} (hs : Stays X w w') (hX : ∀ b, b < w.heap.size → X' b → X b) (hL : ∀ id g x, L id g = some x → L' id g = some x) : ∀ {x : AV} {y : Value}, x.rep w X L y → x.rep w' X' L' y
  | .any, _, _ => trivial
  | .f _, _, h => FV.rep_stays hs hX h
  | .agg _, _, ⟨vs, e, h⟩ => ⟨vs, e, AV.repL_stays hs hX hL h⟩
  | .ptr _ _ _ _ _, _, ⟨b, tot, h, e⟩ => ⟨b, tot, hL _ _ _ h, e⟩
  | .row _ _ _ _ _, _, ⟨b, tot, h, e⟩ => ⟨b, tot, hL _ _ _ h, e⟩
  | .tup _, _, ⟨vs, e, h⟩ => ⟨vs, e, AV.repL_stays hs hX hL h⟩
  | .fn _ _, _, ⟨vs, e, h⟩ => ⟨vs, e, AV.repL_stays hs hX hL h⟩
  | .opt b x, y, h => by
    unfold AV.rep at h ⊢
    split
    · rename_i hb; rw [if_pos hb] at h; exact AV.rep_stays hs hX hL h
    · rename_i hb; rw [if_neg hb] at h; exact h
theorem AV.repL_stays {L L' : Link} (hs : Stays X w w') (hX : ∀ b, b < w.heap.size → X' b → X b) (hL : ∀ id g x, L id g = some x → L' id g = some x) : ∀ {xs : List AV} {ys : List Value}, AV.repL w X L xs ys → AV.repL w' X' L' xs ys
  | [], [], _ => trivial
  | _ :: _, _ :: _, h => ⟨AV.rep_stays hs hX hL h.1, AV.repL_stays hs hX hL h.2⟩
  | [], _ :: _, h => h.elim
  | _ :: _, [], h => h.elim
end
end

/-! ### Reading -/
theorem FV.repEls_at {w : World} {X : Nat → Prop} : ∀ {xs : List (List FV)} {b off s : Nat}, FV.repEls w X xs b off s → ∀ {i : Nat} {c : List FV}, xs[i]? = some c → c.length = s ∧ FV.repCells w X c b (off + i * s)
  | c :: xs, b, off, s, h, 0, _, hi => by simp at hi; subst hi; simpa using ⟨h.1, h.2.1⟩
  | c :: xs, b, off, s, h, i + 1, _, hi => by
    have := FV.repEls_at h.2.2 (i := i) (by simpa using hi)
    rw [Nat.add_mul, Nat.one_mul, Nat.add_comm (i * s) s, ← Nat.add_assoc]; exact this
  | [], _, _, _, _, _, _, hi => by simp at hi
theorem FV.repCells_drop {w : World} {X : Nat → Prop} : ∀ {cs : List FV} {b off : Nat}, FV.repCells w X cs b off → ∀ n, FV.repCells w X (cs.drop n) b (off + n)
  | cs, b, off, h, 0 => h
  | [], _, _, _, n + 1 => by simp; trivial
  | c :: cs, b, off, h, n + 1 => by
    have := FV.repCells_drop h.2 n
    rw [Nat.add_comm n 1, ← Nat.add_assoc]; simpa [Nat.add_comm 1 n] using this
end Go.Aw
namespace Go.Aw
open Go.RowKit

/-- What a function's body runs in: the program, the blocks that are not its own, the world in which all began, and from which block on it may write. -/
structure Ctx where
  P : Program
  X : Nat → Prop
  W0 : World
  N : Nat

/-- The blocks of live rows. -/
def Own (h : Heap) (L : Link) (b : Nat) : Prop := ∃ id r tot, h[id]? = some (some r) ∧ L id r.gen = some (b, tot)

/-- The blocks that a frozen value may not lead to. -/
abbrev Bar (K : Ctx) (h : Heap) (L : Link) (b : Nat) : Prop := K.X b ∨ Own h L b

/-- A row's cells. -/
def rowAt (w : World) (X : Nat → Prop) (L : Link) (r : Row) (c : Array Value) : Prop :=
  ∀ i e, r.els[i]? = some e → AV.repL w X L e ((c.toList.drop (i * r.s)).take r.s)

structure HSim (K : Ctx) (L : Link) (h : Heap) (w : World) : Prop where
  live : ∀ id r, h[id]? = some (some r) → ∃ b tot c e, L id r.gen = some (b, tot) ∧ K.N ≤ b ∧ ¬ K.X b ∧ w.heap[b]? = some (.cells c e) ∧ c.size = tot * r.s ∧ r.els.length ≤ tot ∧
    rowAt w (Bar K h L) L r c
  inj : ∀ id r id' r' b tot tot', h[id]? = some (some r) → h[id']? = some (some r') → L id r.gen = some (b, tot) → L id' r'.gen = some (b, tot') → id = id'
  later : ∀ id r g, h[id]? = some (some r) → r.gen < g → L id g = none
  past : ∀ id g, h[id]?.join = none → L id g = none
  foreign : ∀ b, K.X b → b < w.heap.size

/-- A state: how many slots the frame has, what is known of some of them, the live rows, the deferred calls. -/
structure St where
  n : Nat
  env : List (Nat × AV)
  heap : Heap
  defers : List Deferred

def look : List (Nat × AV) → Nat → Option AV
  | [], _ => none
  | (t, x) :: r, u => bif Nat.beq t u then some x else look r u
theorem look_cons (t : Nat) (x : AV) (r : List (Nat × AV)) (u : Nat) : look ((t, x) :: r) u = if t = u then some x else look r u := by
  simp only [look]
  cases h : Nat.beq t u with
  | true => rw [if_pos (Nat.eq_of_beq_eq_true h)]; rfl
  | false => rw [if_neg (Nat.ne_of_beq_eq_false h)]; rfl

def St.get (S : St) (t : Nat) : Option AV := look S.env t

def St.put (S : St) (t : Nat) (x : AV) : St := { S with env := (t, x) :: S.env }
def St.putD (S : St) : Option Nat → AV → St
  | some t, x => S.put t x
  | none, _ => S

theorem St.get_put (S : St) (t u : Nat) (x : AV) : (S.put t x).get u = if t = u then some x else S.get u := by
  simp only [St.get, St.put, look_cons]

structure Sim (K : Ctx) (L : Link) (S : St) (a : Act) (w : World) : Prop where
  hs : HSim K L S.heap w
  base : Below K.N K.W0 w
  big : K.N ≤ w.heap.size
  slots : ∀ t x, S.get t = some x → x.rep w (Bar K S.heap L) L (a.tmps.getD t undef)
  size : a.tmps.size = S.n
  defers : a.defers = S.defers

/-- What a body does to the world as its caller sees it: rows handed in keep their links, all other old blocks stay. -/
structure Ext (K : Ctx) (m : Nat) (h : Heap) (L : Link) (w : World) (h' : Heap) (L' : Link) (w' : World) : Prop where
  link : ∀ id g x, id < m → L id g = some x → L' id g = some x
  stays : Stays (Own h L) w w'
  own : ∀ b, b < w.heap.size → Own h' L' b → Own h L b

theorem Ext.refl (K : Ctx) (m : Nat) (h : Heap) (L : Link) (w : World) : Ext K m h L w h L w := ⟨fun _ _ _ _ h => h, Stays.refl _ _, fun _ _ h => h⟩
theorem Ext.trans {K : Ctx} {m : Nat} {h h' h'' : Heap} {L L' L'' : Link} {w w' w'' : World} (a : Ext K m h L w h' L' w') (b : Ext K m h' L' w' h'' L'' w'') : Ext K m h L w h'' L'' w'' :=
  ⟨fun id g x hi hx => b.link id g x hi (a.link id g x hi hx), a.stays.trans b.stays a.own, fun n hn hx => a.own n hn (b.own n (Nat.lt_of_lt_of_le hn a.stays.size) hx)⟩

abbrev Post := Exit → St → Prop

/-- A post of states as one of frames and worlds. -/
def lift (K : Ctx) (m : Nat) (S : St) (L : Link) (w : World) (Q : Post) : Exit → Act → World → Prop :=
  fun e a' w' => ∃ L' S', Q e S' ∧ Sim K L' S' a' w' ∧ Ext K m S.heap L w S'.heap L' w'

/-- The code comes from each frame and world that S stands for to such ones that Q's states stand for. -/
def W (K : Ctx) (m : Nat) (c : Code) (Q : Post) (S : St) : Prop :=
  ∀ L a w, Sim K L S a w → c.wp K.P (lift K m S L w Q) a w

theorem lift_mono {K : Ctx} {m : Nat} {S : St} {L : Link} {w : World} {Q Q' : Post} (hq : ∀ e S, Q e S → Q' e S) : ∀ e a w', lift K m S L w Q e a w' → lift K m S L w Q' e a w' :=
  fun _ _ _ ⟨L', S', q, r⟩ => ⟨L', S', hq _ _ q, r⟩

theorem lift_trans {K : Ctx} {m : Nat} {S S1 : St} {L L1 : Link} {w w1 : World} {Q : Post} (he : Ext K m S.heap L w S1.heap L1 w1) : ∀ e a w', lift K m S1 L1 w1 Q e a w' → lift K m S L w Q e a w' :=
  fun _ _ _ ⟨L', S', q, hs, e⟩ => ⟨L', S', q, hs, he.trans e⟩

section
variable {K : Ctx} {m : Nat} {Q : Post} {S : St}

theorem W.mono {c : Code} {Q' : Post} (h : W K m c Q S) (hq : ∀ e S, Q e S → Q' e S) : W K m c Q' S := fun L a w hs => wp_mono (h L a w hs) (lift_mono hq)

theorem W.skip (h : Q .normal S) : W K m .skip Q S := fun L _ w hs => wp_skip ⟨L, S, h, hs, Ext.refl ..⟩
theorem W.ret (h : Q .ret S) : W K m .ret Q S := fun L _ w hs => wp_ret ⟨L, S, h, hs, Ext.refl ..⟩
theorem W.exit {id : Nat} (h : Q (.exit id) S) : W K m (.exit id) Q S := fun L _ w hs => wp_exit ⟨L, S, h, hs, Ext.refl ..⟩
/-- What comes behind: 'next' where the code ends in its normal way. -/
def andThen (next : St → Prop) (Q : Post) : Post
  | .normal, S => next S
  | e, S => Q e S

theorem W.seq {x y : Code} (h : W K m x (andThen (W K m y Q) Q) S) : W K m (.seq x y) Q S := by
  intro L a w hs
  refine wp_seq (wp_mono (h L a w hs) ?_)
  rintro e a' w' ⟨L', S', q, hs', he⟩
  cases e with
  | normal => exact wp_mono (q L' a' w' hs') (lift_trans he)
  | _ => exact ⟨L', S', q, hs', he⟩

theorem W.cond {c : Operand} {x y : Code} {b : Bool} (hc : ∀ L a w, Sim K L S a w → a.eval c = .bool b) (ht : b = true → W K m x Q S) (hf : b = false → W K m y Q S) : W K m (.cond c x y) Q S :=
  fun L a w hs => wp_cond_split (hc L a w hs) (fun h => ht h L a w hs) (fun h => hf h L a w hs)

def inBlock (id : Nat) (Q : Post) : Post
  | .exit id', S => if id' = id then Q .normal S else Q (.exit id') S
  | e, S => Q e S

theorem W.block {id : Nat} {c : Code} (h : W K m c (inBlock id Q) S) : W K m (.block id c) Q S := by
  intro L a w hs
  refine wp_block (wp_mono (h L a w hs) ?_)
  rintro e a' w' ⟨L', S', q, hs', he⟩
  cases e with
  | exit id' =>
    simp only [Exit.inBlock, inBlock] at *
    split
    · rename_i hi; rw [if_pos hi] at q; exact ⟨L', S', q, hs', he⟩
    · rename_i hi; rw [if_neg hi] at q; exact ⟨L', S', q, hs', he⟩
  | _ => exact ⟨L', S', q, hs', he⟩

/-- A loop: I n S at each round's head; each round that comes back lowers n. -/
theorem W.loop {c : Code} (I : Nat → St → Prop) {n : Nat} (h0 : I n S) (round : ∀ n S, I n S → W K m c (andThen (fun S' => ∃ k, k < n ∧ I k S') Q) S) : W K m (.loop c) Q S := by
  intro L a w hs b k cs
  have key : ∀ n S L a w, I n S → Sim K L S a w →
      ∃ e a' w', lift K m S L w Q e a' w' ∧ Arrives K.P (lone (b.at a (.code c :: .inLoop c :: k)) cs w) b k cs e a' w' := by
    intro n
    induction n using Nat.strongRecOn with
    | _ n ih =>
      intro S L a w hI hs
      obtain ⟨e, a₁, w₁, ⟨L₁, S₁, hq, hs₁, he₁⟩, harr⟩ := round n S hI L a w hs b (.inLoop c :: k) cs
      cases e with
      | normal =>
        obtain ⟨n₁, hlt, hI₁⟩ := hq
        obtain ⟨e₂, a₂, w₂, hq₂, harr₂⟩ := ih n₁ hlt S₁ L₁ a₁ w₁ hI₁ hs₁
        exact ⟨e₂, a₂, w₂, lift_trans he₁ _ _ _ hq₂, .of_steps (Steps.trans harr (.one step_inLoop)) harr₂⟩
      | exit id => exact ⟨_, a₁, w₁, ⟨L₁, S₁, hq, hs₁, he₁⟩, .pass (x := .inLoop c) rfl (fun _ _ => .inl (by simp)) harr⟩
      | goto l => exact ⟨_, a₁, w₁, ⟨L₁, S₁, hq, hs₁, he₁⟩, .pass (x := .inLoop c) rfl (fun _ _ => .inl (by simp)) harr⟩
      | ret => exact ⟨_, a₁, w₁, ⟨L₁, S₁, hq, hs₁, he₁⟩, .pass (x := .inLoop c) rfl (fun _ _ => .inl (by simp)) harr⟩
      | panic ch => exact ⟨_, a₁, w₁, ⟨L₁, S₁, hq, hs₁, he₁⟩, .pass (x := .inLoop c) rfl (fun _ _ => .inl (by simp)) harr⟩
      | outgrown => exact ⟨_, a₁, w₁, ⟨L₁, S₁, hq, hs₁, he₁⟩, .pass (x := .inLoop c) rfl (fun _ _ => .inl (by simp)) harr⟩
  obtain ⟨e, a', w', hq, harr⟩ := key n S L a w h0 hs
  exact ⟨e, a', w', hq, .of_steps (.one step_loop) harr⟩

/-! ### Less is known -/
/-- All that S' says of slots, S says. -/
def Has (S : St) : List (Nat × AV) → Prop
  | [] => True
  | (t, x) :: r => S.get t = some x ∧ Has S r

theorem Has.get {S : St} : ∀ {l : List (Nat × AV)}, Has S l → ∀ {t x}, look l t = some x → S.get t = some x
  | (k, y) :: r, h, t, x, hl => by
    rw [look_cons] at hl
    split at hl
    · rename_i hk; subst hk; cases hl; exact h.1
    · exact Has.get h.2 hl

theorem Sim.forget {L : Link} {a : Act} {w : World} {l : List (Nat × AV)} (hs : Sim K L S a w) (h : Has S l) : Sim K L { S with env := l } a w :=
  ⟨hs.hs, hs.base, hs.big, fun t x hx => hs.slots t x (h.get hx), hs.size, hs.defers⟩

theorem W.forget {c : Code} {l : List (Nat × AV)} (h : Has S l) (hw : W K m c Q { S with env := l }) : W K m c Q S :=
  fun L a w hs => hw L a w (hs.forget h)
end
end Go.Aw
namespace Go.Aw
open Go.RowKit

/-- The rest of a region's operations. -/
def WL (K : Ctx) (m : Nat) (ops : Array Oper) (Q : Post) (l : List Oper) (S : St) : Prop :=
  ∀ L a w (Qc : Exit → Act → World → Prop), Sim K L S a w → (∀ e a' w', lift K m S L w Q e a' w' → Qc e a' w') → wpList K.P ops Qc l a w

/-- The same in an order that is drawn: the numbers of the operations still to come. -/
def WO (K : Ctx) (m : Nat) (ops : Array Oper) (Q : Post) (l : List Nat) (S : St) : Prop :=
  ∀ L a w (Qc : Exit → Act → World → Prop), Sim K L S a w → (∀ e a' w', lift K m S L w Q e a' w' → Qc e a' w') → wpOps K.P ops Qc l a w

/-- What an operand stands for. -/
def Ev (K : Ctx) (S : St) (x : Operand) (v : AV) : Prop := ∀ L a w, Sim K L S a w → v.rep w (Bar K S.heap L) L (a.eval x)

/-- An operation that leaves the world as it is yields a value of this kind. -/
def Val (K : Ctx) (S : St) (o : Oper) (x : AV) : Prop :=
  ∀ L a w, Sim K L S a w → ∃ v, (execOp a.eval o).run K.P w = .ok (.value v) w ∧ x.rep w (Bar K S.heap L) L v

/-- The guard lets the operation run exactly if G. -/
def Grd (K : Ctx) (ops : Array Oper) (S : St) (o : Oper) (G : Bool) : Prop := ∀ L a w, Sim K L S a w → Region.wanted o (yielded ops a.tmps) = G

section
variable {K : Ctx} {m : Nat} {Q : Post} {S : St} {ops : Array Oper} {rest : List Oper} {o : Oper}

theorem W.region {id : Nat} {l : List Oper} (h : WL K m l.toArray Q l S) : W K m (.region id l.toArray false) Q S :=
  fun L a w hs => wp_region_lit (h L a w _ hs fun _ _ _ h => h)

theorem WL.nil (h : Q .normal S) : WL K m ops Q [] S := fun L a w Qc hs hq => hq _ _ _ ⟨L, S, h, hs, Ext.refl ..⟩

theorem put_getD (a : Act) (d : Nat) (v : Value) (t : Nat) (h : d < a.tmps.size) : (a.put (some d) v).tmps.getD t undef = if d = t then v else a.tmps.getD t undef := by
  simp only [Act.put, Array.getD_eq_getD_getElem?, Array.getElem?_setIfInBounds]
  split
  · rename_i hd; subst hd; simp [h]
  · rfl

/-- A slot is written, the world stays. -/
theorem Sim.put {L : Link} {a : Act} {w : World} (hs : Sim K L S a w) {d : Nat} (hd : d < S.n) {x : AV} {v : Value} (hx : x.rep w (Bar K S.heap L) L v) : Sim K L (S.put d x) (a.put (some d) v) w :=
  ⟨hs.hs, hs.base, hs.big, fun t y hy => by
    rw [put_getD _ _ _ _ (hs.size ▸ hd)]
    rw [St.get_put] at hy
    split at hy
    · rename_i ht; subst ht; cases hy; rw [if_pos rfl]; exact hx
    · rename_i ht; rw [if_neg ht]; exact hs.slots t y hy, by simp [Act.put]; exact hs.size, hs.defers⟩
theorem Sim.putD {L : Link} {a : Act} {w : World} (hs : Sim K L S a w) {d : Option Nat} (hd : ∀ t, d = some t → t < S.n) {x : AV} {v : Value} (hx : x.rep w (Bar K S.heap L) L v) : Sim K L (S.putD d x) (a.put d v) w := by
  cases d with
  | none => exact hs
  | some d => exact hs.put (hd d rfl) hx

def dstOk (d : Option Nat) (n : Nat) : Bool := match d with | some t => decide (t < n) | none => true
theorem dst_ok {d : Option Nat} {n : Nat} (h : dstOk d n = true) : ∀ t, d = some t → t < n := by
  intro t ht; subst ht; simpa [dstOk] using h

theorem WL.val {x : AV} (hg : o.guard = none) (hv : Val K S o x) (hd : dstOk o.dst S.n = true) (h : WL K m ops Q rest (S.putD o.dst x)) : WL K m ops Q (o :: rest) S := by
  intro L a w Qc hs hq
  obtain ⟨v, hr, hx⟩ := hv L a w hs
  refine wpList_plain hg fun Kc hK => ?_
  simp only [Oper.wp, hr, Oper.upon_value]
  refine hK _ _ (h L _ w Qc (hs.putD (dst_ok hd) hx) fun e a' w' hl => hq _ _ _ ?_)
  have e : (S.putD o.dst x).heap = S.heap := by cases o.dst <;> rfl
  rw [lift, e] at hl
  exact hl

theorem WL.gval {x : AV} {G : Bool} (hg : Grd K ops S o G) (hv : G = true → Val K S o x) (hd : dstOk o.dst S.n = true) (h : WL K m ops Q rest (S.putD o.dst (.opt G x))) : WL K m ops Q (o :: rest) S := by
  intro L a w Qc hs hq
  refine wpList_step fun Kc hK => ?_
  have e : (S.putD o.dst (.opt G x)).heap = S.heap := by cases o.dst <;> rfl
  rw [hg L a w hs]
  cases G with
  | true =>
    obtain ⟨v, hr, hx⟩ := hv rfl L a w hs
    simp only [if_true, Oper.wp, hr, Oper.upon_value]
    refine hK _ _ (h L _ w Qc (hs.putD (dst_ok hd) (by unfold AV.rep; exact hx)) fun e' a' w' hl => hq _ _ _ ?_)
    rw [lift, e] at hl
    exact hl
  | false =>
    simp only [Bool.false_eq_true, if_false]
    refine hK _ _ (h L _ w Qc (hs.putD (dst_ok hd) (by unfold AV.rep; simp)) fun e' a' w' hl => hq _ _ _ ?_)
    rw [lift, e] at hl
    exact hl

/-- Slots are forgotten within a region. -/
theorem WL.forget {l : List Oper} {env : List (Nat × AV)} (h : Has S env) (hw : WL K m ops Q l { S with env := env }) : WL K m ops Q l S :=
  fun L a w Qc hs hq => hw L a w Qc (hs.forget h) hq

/-! ### What guards and operands stand for -/
theorem Ev.tmp {t : Nat} {v : AV} (h : S.get t = some v) : Ev K S (.tmp t) v := fun _ _ _ hs => hs.slots t v h
theorem Ev.opt {t : Nat} {b : Bool} {v : AV} (h : S.get t = some (.opt b v)) (hb : b = true) : Ev K S (.tmp t) v := fun _ _ _ hs => by
  have := hs.slots t _ h
  unfold AV.rep at this
  rw [if_pos hb] at this; exact this
theorem Ev.const {c : Value} : Ev K S (.const c) (.f (.v c)) := fun _ _ _ _ => rfl
theorem Ev.func {f : FuncId} : Ev K S (.func f) (.f (.v (.func (.func f) #[] #[]))) := fun _ _ _ _ => rfl
theorem Ev.any {x : Operand} : Ev K S x .any := fun _ _ _ _ => trivial

theorem yielded_of {a : Act} {j d : Nat} (hj : (ops[j]?).bind (·.dst) = some d) : yielded ops a.tmps j = match a.tmps[d]? with | some (.bool b) => some b | _ => none := by
  unfold yielded; rw [hj]; rfl

theorem getD_bool {a : Act} {d : Nat} {b : Bool} (h : a.tmps.getD d undef = .bool b) : a.tmps[d]? = some (.bool b) := by
  rw [Array.getD_eq_getD_getElem?] at h
  cases hh : a.tmps[d]? with
  | none => rw [hh] at h; simp [undef] at h
  | some y => rw [hh] at h; simp at h; rw [h]
theorem getD_undef {a : Act} {d : Nat} (h : a.tmps.getD d undef = undef) : (match a.tmps[d]? with | some (.bool b) => some b | _ => none) = (none : Option Bool) := by
  rw [Array.getD_eq_getD_getElem?] at h
  cases hh : a.tmps[d]? with
  | none => rfl
  | some y => rw [hh] at h; simp at h; rw [h]; rfl

theorem Grd.plain {j d : Nat} {want b : Bool} (hg : o.guard = some (j, want)) (hj : (ops[j]?).bind (·.dst) = some d) (h : S.get d = some (.f (.v (.bool b)))) : Grd K ops S o (b == want) := by
  intro L a w hs
  have hv : a.tmps.getD d undef = .bool b := hs.slots d _ h
  simp only [Region.wanted, hg, yielded_of hj, getD_bool hv]
  cases b <;> cases want <;> rfl
theorem Grd.opt {j d : Nat} {want b c : Bool} (hg : o.guard = some (j, want)) (hj : (ops[j]?).bind (·.dst) = some d) (h : S.get d = some (.opt c (.f (.v (.bool b))))) : Grd K ops S o (c && (b == want)) := by
  intro L a w hs
  have hv := hs.slots d _ h
  unfold AV.rep at hv
  simp only [Region.wanted, hg, yielded_of hj]
  split at hv
  · rename_i hc
    rw [getD_bool hv, hc]; cases b <;> cases want <;> rfl
  · rename_i hc
    rw [getD_undef hv]
    have : c = false := by simpa using hc
    subst this; rfl

end

/-! ### Operations that only yield a value -/
section
variable {K : Ctx} {S : St} {d : Option Nat} {ty : TypeId} {pos : String} {af : Array Edge} {gd : Option (Nat × Bool)}

theorem Val.move {x : Operand} {v : AV} (h : Ev K S x v) : Val K S ⟨d, .move x, ty, pos, af, gd⟩ v := fun L a w hs => ⟨_, rfl, h L a w hs⟩
theorem Val.assign {x : Operand} {v : AV} (h : Ev K S x v) : Val K S ⟨d, .assign x, ty, pos, af, gd⟩ v := fun L a w hs => ⟨_, rfl, h L a w hs⟩

theorem run_pick {P : Program} {ρ : Operand → Value} {w : World} {c x y : Operand} {b : Bool} (h : ρ c = .bool b) :
    (execOp ρ ⟨d, .pick c x y, ty, pos, af, gd⟩).run P w = .ok (.value (if b then ρ x else ρ y)) w := by
  simp [execOp, h, asBool, go_sem]
theorem Val.pick {c x y : Operand} {b p q : Bool} (hc : Ev K S c (.f (.v (.bool b)))) (hx : b = true → Ev K S x (.f (.v (.bool p)))) (hy : b = false → Ev K S y (.f (.v (.bool q)))) :
    Val K S ⟨d, .pick c x y, ty, pos, af, gd⟩ (.f (.v (.bool (if b then p else q)))) := fun L a w hs => by
  refine ⟨_, run_pick (hc L a w hs), ?_⟩
  cases b with
  | true => exact hx rfl L a w hs
  | false => exact hy rfl L a w hs
theorem Val.and {c x : Operand} {b p : Bool} (hc : Ev K S c (.f (.v (.bool b)))) (hx : b = true → Ev K S x (.f (.v (.bool p)))) :
    Val K S ⟨d, .pick c x (.const (.bool false)), ty, pos, af, gd⟩ (.f (.v (.bool (b && p)))) := by
  have := Val.pick (d := d) (ty := ty) (pos := pos) (af := af) (gd := gd) (p := p) (q := false) hc hx (fun _ => Ev.const)
  have e : (if b = true then p else false) = (b && p) := by cases b <;> rfl
  rw [e] at this; exact this
theorem Val.or {c x : Operand} {b p : Bool} (hc : Ev K S c (.f (.v (.bool b)))) (hx : b = false → Ev K S x (.f (.v (.bool p)))) :
    Val K S ⟨d, .pick c (.const (.bool true)) x, ty, pos, af, gd⟩ (.f (.v (.bool (b || p)))) := by
  have := Val.pick (d := d) (ty := ty) (pos := pos) (af := af) (gd := gd) (p := true) (q := p) hc (fun _ => Ev.const) hx
  have e : (if b = true then true else p) = (b || p) := by cases b <;> rfl
  rw [e] at this; exact this
end
end Go.Aw
namespace Go.Aw
open Go.RowKit

section
variable {P : Program} {w : World}
theorem run_und {T : TypeId} {d : TypeDesc} (h : P.underlying T = some d) : (underlying T).run P w = .ok d w := by
  simp [underlying, h, go_sem]
theorem run_size {T : TypeId} {n : Nat} (h : (P.info? T).map (·.size) = some n) : (sizeOf T).run P w = .ok n w := by
  cases hi : P.info? T with
  | none => rw [hi] at h; simp at h
  | some i => rw [hi] at h; simp at h; simp [sizeOf, typeInfo, hi, h, go_sem]

theorem add_at (b off k : Nat) : (⟨b, off, none⟩ : Addr).add k = ⟨b, off + k, none⟩ := by unfold Addr.add; split <;> simp_all

theorem run_loadCellsFrom {b off : Nat} : ∀ (vs : List Value) (i : Nat) (acc : Array Value), (∀ k y, vs[k]? = some y → w.cell? ⟨b, off + (i + k), none⟩ = some y) →
    (loadCellsFrom ⟨b, off, none⟩ i vs.length acc).run P w = .ok (acc ++ vs.toArray) w
  | [], i, acc, h => by simp [loadCellsFrom, go_sem]
  | v :: vs, i, acc, h => by
    have h0 := h 0 v rfl
    have ih := run_loadCellsFrom vs (i + 1) (acc.push v) (fun k y hk => by
      have := h (k + 1) y (by simpa using hk)
      rw [show i + 1 + k = i + (k + 1) from by omega]; exact this)
    rw [Nat.add_zero] at h0
    simp only [List.length_cons, loadCellsFrom]
    rw [show (do let v ← load ((⟨b, off, none⟩ : Addr).add i); loadCellsFrom ⟨b, off, none⟩ (i + 1) vs.length (acc.push v) : Sem (Array Value)).run P w
      = (loadCellsFrom ⟨b, off, none⟩ (i + 1) vs.length (acc.push v)).run P w from by
        rw [add_at]
        show (Sem.bind (load ⟨b, off + i, none⟩) _).run P w = _
        simp only [load, Sem.bind, Sem.run, h0]]
    rw [ih]; simp
theorem run_loadCells {b off : Nat} {vs : List Value} (h : ∀ k y, vs[k]? = some y → w.cell? ⟨b, off + k, none⟩ = some y) :
    (loadCells ⟨b, off, none⟩ vs.length).run P w = .ok vs.toArray w := by
  have := run_loadCellsFrom (P := P) (w := w) (b := b) (off := off) vs 0 #[] (fun k y hk => by rw [Nat.zero_add]; exact h k y hk)
  simpa [loadCells] using this

theorem cell_block {b off : Nat} {c : Array Value} {e : TypeId} {fr : Nat × Nat} (h : w.heap[b]? = some (.cells c e fr)) : w.cell? ⟨b, off, none⟩ = c[off]? := by
  unfold World.cell?; rw [h]; rfl
end

section
variable {w : World} {X : Nat → Prop} {L : Link}
theorem FV.repCells_list : ∀ {cs : List FV} {b off : Nat}, FV.repCells w X cs b off → ∃ vs : List Value, vs.length = cs.length ∧ (∀ k y, vs[k]? = some y → w.cell? ⟨b, off + k, none⟩ = some y) ∧ AV.repL w X L (cs.map .f) vs
  | [], _, _, _ => ⟨[], rfl, fun k y h => by simp at h, trivial⟩
  | c :: cs, b, off, h => by
    obtain ⟨⟨v, hv, hr⟩, h2⟩ := h
    obtain ⟨vs, hl, hc, hR⟩ := FV.repCells_list h2
    refine ⟨v :: vs, by simp [hl], ?_, ⟨hr, hR⟩⟩
    intro k y hk
    cases k with
    | zero => simp at hk; subst hk; simpa using hv
    | succ k => have := hc k y (by simpa using hk); rw [show off + (k + 1) = off + 1 + k from by omega]; exact this
theorem FV.repCells_take : ∀ {cs : List FV} {b off : Nat}, FV.repCells w X cs b off → ∀ n, FV.repCells w X (cs.take n) b off
  | [], _, _, _, n => by simp; trivial
  | _ :: _, _, _, _, 0 => trivial
  | _ :: _, _, _, h, n + 1 => ⟨h.1, FV.repCells_take h.2 n⟩
end

def aggB : TypeDesc → Bool
  | .struct _ | .array _ _ => true
  | _ => false

section
variable {P : Program} {w : World}
theorem run_isAgg {T : TypeId} {d : TypeDesc} (h : P.underlying T = some d) : (isAgg T).run P w = .ok (aggB d) w := by
  have e := run_und (P := P) (w := w) h
  cases d <;> simp [isAgg, e, aggB, go_sem]
theorem run_loadVar_one {T : TypeId} {d : TypeDesc} {a : Addr} {v : Value} (h : P.underlying T = some d) (hd : aggB d = false) (hc : w.cell? a = some v) : (loadVar T a).run P w = .ok v w := by
  have := run_isAgg (P := P) (w := w) h
  simp only [loadVar, Sem.run_bind, this, Result.andThen_ok, hd, Bool.false_eq_true, if_false, load, Sem.run, hc]
theorem run_loadVar_agg {T : TypeId} {d : TypeDesc} {b off : Nat} {vs : List Value} (h : P.underlying T = some d) (hd : aggB d = true) (hn : (P.info? T).map (·.size) = some vs.length)
    (hc : ∀ k y, vs[k]? = some y → w.cell? ⟨b, off + k, none⟩ = some y) : (loadVar T ⟨b, off, none⟩).run P w = .ok (.agg vs.toArray) w := by
  have h1 := run_isAgg (P := P) (w := w) h
  have h2 := run_size (P := P) (w := w) hn
  have h3 := run_loadCells (P := P) (w := w) hc
  simp only [loadVar, Sem.run_bind, h1, Result.andThen_ok, hd, if_true, h2, h3]; rfl
end

section
variable {d : Option Nat} {ty : TypeId} {pos : String} {af : Array Edge} {gd : Option (Nat × Bool)} {P : Program} {w : World} {ρ : Operand → Value}
theorem run_load {T : TypeId} {x : Operand} {a : Addr} {v : Value} (hx : ρ x = .pointer (some a)) (h : (loadVar T a).run P w = .ok v w) :
    (execOp ρ ⟨d, .load T x, ty, pos, af, gd⟩).run P w = .ok (.value v) w := by
  simp only [execOp, Instr.loadAt, hx, Instr.sureAddr, Sem.run_bind, Sem.run_pure, Result.andThen_ok, h]
end

section
variable {K : Ctx} {S : St} {d : Option Nat} {ty : TypeId} {pos : String} {af : Array Edge} {gd : Option (Nat × Bool)}

/-- One cell out of what lies frozen. -/
theorem Val.load {T : TypeId} {td : TypeDesc} {x : Operand} {c : FV} {cs : List FV} (hT : K.P.underlying T = some td) (hd : aggB td = false) (hx : Ev K S x (.f (.ref (c :: cs)))) :
    Val K S ⟨d, .load T x, ty, pos, af, gd⟩ (.f c) := fun L a w hs => by
  obtain ⟨b, off, e, _, _, ⟨v, hv, hr⟩, _⟩ := hx L a w hs
  exact ⟨v, run_load e (run_loadVar_one hT hd hv), hr⟩
/-- A struct or an array out of what lies frozen. -/
theorem Val.loadAgg {T : TypeId} {td : TypeDesc} {n : Nat} {x : Operand} {cs : List FV} (hT : K.P.underlying T = some td) (hd : aggB td = true) (hn : (K.P.info? T).map (·.size) = some n) (hx : Ev K S x (.f (.ref cs))) (hl : n ≤ cs.length) :
    Val K S ⟨d, .load T x, ty, pos, af, gd⟩ (.agg ((cs.take n).map .f)) := fun L a w hs => by
  obtain ⟨b, off, e, _, _, hc⟩ := hx L a w hs
  obtain ⟨vs, hlen, hv, hR⟩ := FV.repCells_list (L := L) (FV.repCells_take hc n)
  have : vs.length = n := by rw [hlen, List.length_take]; omega
  exact ⟨_, run_load e (run_loadVar_agg hT hd (this ▸ hn) hv), ⟨_, rfl, by simpa using hR⟩⟩

/-- What a live row's element holds, in the block's cells. -/
theorem live_cells {L : Link} {h : Heap} {w : World} (hs : HSim K L h w) {id : Nat} {r : Row} (hr : h[id]? = some (some r)) {i : Nat} {e : List AV} (he : r.els[i]? = some e) :
    ∃ b tot c ty, L id r.gen = some (b, tot) ∧ w.heap[b]? = some (.cells c ty) ∧ ∃ vs : List Value, (∀ k y, vs[k]? = some y → c[i * r.s + k]? = some y) ∧ AV.repL w (Bar K h L) L e vs := by
  obtain ⟨b, tot, c, ty, hL, _, _, hc, _, _, hat⟩ := hs.live id r hr
  refine ⟨b, tot, c, ty, hL, hc, _, ?_, hat i e he⟩
  intro k y hk
  rw [List.getElem?_take] at hk
  split at hk
  · rw [List.getElem?_drop] at hk; simpa using hk
  · simp at hk

theorem Val.loadLive {T : TypeId} {td : TypeDesc} {x : Operand} {id gen s i o : Nat} {r : Row} {e : List AV} {v : AV} (hT : K.P.underlying T = some td) (hd : aggB td = false) (hx : Ev K S x (.ptr id gen s i o))
    (hr : S.heap[id]? = some (some r)) (hg : r.gen = gen) (hss : r.s = s) (he : r.els[i]? = some e) (hv : e[o]? = some v) :
    Val K S ⟨d, .load T x, ty, pos, af, gd⟩ v := fun L a w hs => by
  subst hg hss
  obtain ⟨b, tot, hL, ex⟩ := hx L a w hs
  obtain ⟨b', tot', c, _, hL', hc, vs, hvs, hR⟩ := live_cells hs.hs hr he
  rw [hL] at hL'; cases hL'
  obtain ⟨y, hy, hry⟩ := AV.repL_get hR hv
  exact ⟨y, run_load ex (run_loadVar_one hT hd ((cell_block hc).trans (hvs _ _ hy))), hry⟩
theorem Val.loadLiveAgg {T : TypeId} {td : TypeDesc} {n : Nat} {x : Operand} {id gen s i o : Nat} {r : Row} {e : List AV} (hT : K.P.underlying T = some td) (hd : aggB td = true) (hn : (K.P.info? T).map (·.size) = some n) (hx : Ev K S x (.ptr id gen s i o))
    (hr : S.heap[id]? = some (some r)) (hg : r.gen = gen) (hss : r.s = s) (he : r.els[i]? = some e) (hl : o + n ≤ e.length) :
    Val K S ⟨d, .load T x, ty, pos, af, gd⟩ (.agg ((e.drop o).take n)) := fun L a w hs => by
  subst hg hss
  obtain ⟨b, tot, hL, ex⟩ := hx L a w hs
  obtain ⟨b', tot', c, _, hL', hc, vs, hvs, hR⟩ := live_cells hs.hs hr he
  rw [hL] at hL'; cases hL'
  have hR' := AV.repL_take (AV.repL_drop hR o) n
  have hlen : ((vs.drop o).take n).length = n := by rw [← AV.repL_length hR']; simp; omega
  refine ⟨_, run_load ex (run_loadVar_agg (vs := (vs.drop o).take n) hT hd (hlen.symm ▸ hn) ?_), ⟨_, rfl, by simpa using hR'⟩⟩
  intro k y hk
  rw [List.getElem?_take] at hk
  split at hk
  · rw [List.getElem?_drop] at hk
    rw [cell_block hc, Nat.add_assoc]; exact hvs _ _ hk
  · simp at hk

/-! ### Addresses -/
theorem run_fieldAddr {P : Program} {w : World} {ρ : Operand → Value} {T : TypeId} {x : Operand} {j n b off : Nat} {fs : Array Field} {fl : Field} (hx : ρ x = .pointer (some ⟨b, off, none⟩)) (hT : P.underlying T = some (.struct fs)) (hf : fs[j]? = some fl)
    (hn : (P.info? fl.type).map (·.size) = some (n + 1)) : (execOp ρ ⟨d, .fieldAddr T x j, ty, pos, af, gd⟩).run P w = .ok (.value (.pointer (some ⟨b, off + fl.offset, none⟩))) w := by
  have h1 := run_size (P := P) (w := w) hn
  have h2 := run_und (P := P) (w := w) hT
  simp [execOp, Instr.fieldAt, h2, hf, hx, Instr.sureAddr, fieldPlace, h1, add_at, go_sem]
theorem Val.fieldAddr {T : TypeId} {x : Operand} {j n : Nat} {fs : Array Field} {fl : Field} {cs : List FV} (hT : K.P.underlying T = some (.struct fs)) (hf : fs[j]? = some fl) (hn : (K.P.info? fl.type).map (·.size) = some (n + 1))
    (hx : Ev K S x (.f (.ref cs))) : Val K S ⟨d, .fieldAddr T x j, ty, pos, af, gd⟩ (.f (.ref (cs.drop fl.offset))) := fun L a w hs => by
  obtain ⟨b, off, e, hb, hX, hc⟩ := hx L a w hs
  exact ⟨_, run_fieldAddr e hT hf hn, b, off + fl.offset, rfl, hb, hX, FV.repCells_drop hc _⟩
theorem Val.fieldAddrLive {T : TypeId} {x : Operand} {j n : Nat} {fs : Array Field} {fl : Field} {id gen s i o : Nat} (hT : K.P.underlying T = some (.struct fs)) (hf : fs[j]? = some fl) (hn : (K.P.info? fl.type).map (·.size) = some (n + 1))
    (hx : Ev K S x (.ptr id gen s i o)) : Val K S ⟨d, .fieldAddr T x j, ty, pos, af, gd⟩ (.ptr id gen s i (o + fl.offset)) := fun L a w hs => by
  obtain ⟨b, tot, hL, e⟩ := hx L a w hs
  exact ⟨_, run_fieldAddr e hT hf hn, b, tot, hL, by rw [Nat.add_assoc]⟩

theorem run_indexAddr {P : Program} {w : World} {ρ : Operand → Value} {T E : TypeId} {x y : Operand} {k : IntKind} {i : Int} {s len cap : Nat} {ad : Addr} (hT : P.underlying T = some (.slice E)) (hE : (P.info? E).map (·.size) = some s)
    (hx : ρ x = .slice (some ad) len cap) (hy : ρ y = .int k i) (h0 : 0 ≤ i) (h1 : i < len) : (execOp ρ ⟨d, .indexAddr T x y, ty, pos, af, gd⟩).run P w = .ok (.value (.pointer (some (ad.add (i.toNat * s))))) w := by
  have e1 := run_size (P := P) (w := w) hE
  have e2 := run_und (P := P) (w := w) hT
  simp [execOp, Instr.indexAt, hx, hy, asIntOf, e1, e2, h0, h1, go_sem]
theorem Val.indexAddr {T E : TypeId} {x y : Operand} {k : IntKind} {i : Int} {s : Nat} {xs : List (List FV)} {c : List FV} (hT : K.P.underlying T = some (.slice E)) (hE : (K.P.info? E).map (·.size) = some s)
    (hx : Ev K S x (.f (.lst s xs))) (hy : Ev K S y (.f (.v (.int k i)))) (h0 : 0 ≤ i) (hc : xs[i.toNat]? = some c) : Val K S ⟨d, .indexAddr T x y, ty, pos, af, gd⟩ (.f (.ref c)) := fun L a w hs => by
  obtain ⟨ad, cap, e, _, h⟩ := hx L a w hs
  have hlt : i.toNat < xs.length := by
    by_cases hh : i.toNat < xs.length
    · exact hh
    · rw [List.getElem?_eq_none (by omega)] at hc; simp at hc
  rcases h with h | ⟨b, off, rfl, hb, hX, hr⟩
  · subst h; simp at hlt
  · have := FV.repEls_at hr hc
    exact ⟨_, run_indexAddr hT hE e (hy L a w hs) h0 (by omega), b, _, by rw [add_at], hb, hX, this.2⟩
theorem Val.indexAddrLive {T E : TypeId} {x y : Operand} {k : IntKind} {j : Int} {id gen s i len : Nat} (hT : K.P.underlying T = some (.slice E)) (hE : (K.P.info? E).map (·.size) = some s)
    (hx : Ev K S x (.row id gen s i len)) (hy : Ev K S y (.f (.v (.int k j)))) (h0 : 0 ≤ j) (h1 : j < len) : Val K S ⟨d, .indexAddr T x y, ty, pos, af, gd⟩ (.ptr id gen s (i + j.toNat) 0) := fun L a w hs => by
  obtain ⟨b, tot, hL, e, _⟩ := hx L a w hs
  exact ⟨_, run_indexAddr hT hE e (hy L a w hs) h0 h1, b, tot, hL, by rw [add_at, Nat.add_zero, Nat.add_mul]⟩
end
end Go.Aw
namespace Go.Aw
open Go.RowKit

/-- A whole number; a truth value; a string. -/
abbrev FV.i (n : Int) : FV := .v (.int .i64 n)
abbrev AV.i (n : Int) : AV := .f (.v (.int .i64 n))
abbrev AV.b (b : Bool) : AV := .f (.v (.bool b))
abbrev AV.s (s : ByteArray) : AV := .f (.v (.string s))
abbrev FV.s (s : ByteArray) : FV := .v (.string s)
abbrev FV.u (n : Int) : FV := .v (.int .u64 n)
abbrev AV.u (n : Int) : AV := .f (.v (.int .u64 n))
abbrev AV.c (n : Int) : AV := .f (.v (.int .u8 n))
/-- The nil slice. -/
abbrev AV.nil : AV := .f (.v (.slice none 0 0))

section
variable {K : Ctx} {S : St} {d : Option Nat} {ty : TypeId} {pos : String} {af : Array Edge} {gd : Option (Nat × Bool)}

theorem run_binOp {P : Program} {w : World} {ρ : Operand → Value} {op : BinOp} {T T' : TypeId} {x y : Operand} {r : Value}
    (hg : (eqGuard op T x y (ρ x) (ρ y)).run P w = .ok () w) (h : (binOp op T (ρ x) (ρ y)).run P w = .ok r w) :
    (execOp ρ ⟨d, .binOp op T x y T', ty, pos, af, gd⟩).run P w = .ok (.value r) w := by
  simp only [execOp, Sem.run_bind, hg, Result.andThen_ok, h, Sem.run_pure]

/-- Plain values. -/
def plainV : Value → Bool
  | .int _ _ | .bool _ | .string _ => true
  | _ => false
theorem guard_plain {P : Program} {w : World} {op : BinOp} {T : TypeId} {x y : Operand} {a b : Value} (ha : plainV a = true) : (eqGuard op T x y a b).run P w = .ok () w := by
  cases a <;> simp [plainV] at ha <;> cases op <;> simp [eqGuard, go_sem]
theorem Val.bin {op : BinOp} {T T' : TypeId} {x y : Operand} {a b r : Value} (hx : Ev K S x (.f (.v a))) (hy : Ev K S y (.f (.v b))) (ha : plainV a = true) (h : ∀ w, (binOp op T a b).run K.P w = .ok r w) :
    Val K S ⟨d, .binOp op T x y T', ty, pos, af, gd⟩ (.f (.v r)) := fun L ac w hs => by
  have e1 : ac.eval x = a := hx L ac w hs
  have e2 : ac.eval y = b := hy L ac w hs
  exact ⟨r, run_binOp (by rw [e1]; exact guard_plain ha) (by rw [e1, e2]; exact h w), rfl⟩

section
variable {T T' : TypeId} {x y : Operand} {k : IntKind} {a b r : Int}
theorem Val.add (hx : Ev K S x (.f (.v (.int k a)))) (hy : Ev K S y (.f (.v (.int k b)))) (hr : k.wrap (a + b) = r) : Val K S ⟨d, .binOp .add T x y T', ty, pos, af, gd⟩ (.f (.v (.int k r))) :=
  Val.bin hx hy rfl fun w => by subst hr; simp [binOp, Op.intArith]
theorem Val.sub (hx : Ev K S x (.f (.v (.int k a)))) (hy : Ev K S y (.f (.v (.int k b)))) (hr : k.wrap (a - b) = r) : Val K S ⟨d, .binOp .sub T x y T', ty, pos, af, gd⟩ (.f (.v (.int k r))) :=
  Val.bin hx hy rfl fun w => by subst hr; simp [binOp, Op.intArith]
theorem Val.mul (hx : Ev K S x (.f (.v (.int k a)))) (hy : Ev K S y (.f (.v (.int k b)))) (hr : k.wrap (a * b) = r) : Val K S ⟨d, .binOp .mul T x y T', ty, pos, af, gd⟩ (.f (.v (.int k r))) :=
  Val.bin hx hy rfl fun w => by subst hr; simp [binOp, Op.intArith]
theorem Val.quo (hx : Ev K S x (.f (.v (.int k a)))) (hy : Ev K S y (.f (.v (.int k b)))) (hb : b ≠ 0) (hr : k.wrap (a.tdiv b) = r) : Val K S ⟨d, .binOp .quo T x y T', ty, pos, af, gd⟩ (.f (.v (.int k r))) :=
  Val.bin hx hy rfl fun w => by subst hr; simp [binOp, Op.intDiv, hb]
theorem Val.rem (hx : Ev K S x (.f (.v (.int k a)))) (hy : Ev K S y (.f (.v (.int k b)))) (hb : b ≠ 0) (hr : a.tmod b = r) : Val K S ⟨d, .binOp .rem T x y T', ty, pos, af, gd⟩ (.f (.v (.int k r))) :=
  Val.bin hx hy rfl fun w => by subst hr; simp [binOp, Op.intDiv, hb]
theorem Val.lss (hx : Ev K S x (.f (.v (.int k a)))) (hy : Ev K S y (.f (.v (.int k b)))) : Val K S ⟨d, .binOp .lss T x y T', ty, pos, af, gd⟩ (.f (.v (.bool (decide (a < b))))) :=
  Val.bin hx hy rfl fun w => by simp [binOp, Op.intCmp]
theorem Val.leq (hx : Ev K S x (.f (.v (.int k a)))) (hy : Ev K S y (.f (.v (.int k b)))) : Val K S ⟨d, .binOp .leq T x y T', ty, pos, af, gd⟩ (.f (.v (.bool (decide (a ≤ b))))) :=
  Val.bin hx hy rfl fun w => by simp [binOp, Op.intCmp]
theorem Val.gtr (hx : Ev K S x (.f (.v (.int k a)))) (hy : Ev K S y (.f (.v (.int k b)))) : Val K S ⟨d, .binOp .gtr T x y T', ty, pos, af, gd⟩ (.f (.v (.bool (decide (b < a))))) :=
  Val.bin hx hy rfl fun w => by simp [binOp, Op.intCmp]
theorem Val.geq (hx : Ev K S x (.f (.v (.int k a)))) (hy : Ev K S y (.f (.v (.int k b)))) : Val K S ⟨d, .binOp .geq T x y T', ty, pos, af, gd⟩ (.f (.v (.bool (decide (b ≤ a))))) :=
  Val.bin hx hy rfl fun w => by simp [binOp, Op.intCmp]
theorem Val.eql (hx : Ev K S x (.f (.v (.int k a)))) (hy : Ev K S y (.f (.v (.int k b)))) : Val K S ⟨d, .binOp .eql T x y T', ty, pos, af, gd⟩ (.f (.v (.bool (decide (a = b))))) :=
  Val.bin hx hy rfl fun w => by simp [binOp, Op.intCmp]; rfl
theorem Val.neq (hx : Ev K S x (.f (.v (.int k a)))) (hy : Ev K S y (.f (.v (.int k b)))) : Val K S ⟨d, .binOp .neq T x y T', ty, pos, af, gd⟩ (.f (.v (.bool (decide (¬ a = b))))) :=
  Val.bin hx hy rfl fun w => by simp [binOp, Op.intCmp, bne]; rfl
theorem Val.shl {k' : IntKind} (hx : Ev K S x (.f (.v (.int k a)))) (hy : Ev K S y (.f (.v (.int k' b)))) (hb : 0 ≤ b) (hr : k.wrap (a * 2 ^ (min b.toNat k.bits)) = r) : Val K S ⟨d, .binOp .shl T x y T', ty, pos, af, gd⟩ (.f (.v (.int k r))) :=
  Val.bin hx hy rfl fun w => by subst hr; simp [binOp, Op.shift, Int.not_lt.2 hb]
end

section
variable {T T' : TypeId} {x y : Operand} {p q : Bool}
end

theorem bytes_beq (a b : ByteArray) : (a.toList == b.toList) = decide (a = b) := by
  rw [ByteArray.toList_eq, ByteArray.toList_eq, Bool.eq_iff_iff, beq_iff_eq, decide_eq_true_iff]
  exact ⟨fun h => ByteArray.ext (Array.toList_inj.mp h), fun h => by rw [h]⟩
section
variable {T T' : TypeId} {x y : Operand} {a b : ByteArray}
theorem Val.eqlS (hx : Ev K S x (.f (.v (.string a)))) (hy : Ev K S y (.f (.v (.string b)))) : Val K S ⟨d, .binOp .eql T x y T', ty, pos, af, gd⟩ (.f (.v (.bool (decide (a = b))))) :=
  Val.bin hx hy rfl fun w => by simp [binOp, Op.stringOp, bytes_beq]
theorem Val.neqS (hx : Ev K S x (.f (.v (.string a)))) (hy : Ev K S y (.f (.v (.string b)))) : Val K S ⟨d, .binOp .neq T x y T', ty, pos, af, gd⟩ (.f (.v (.bool (decide (¬ a = b))))) :=
  Val.bin hx hy rfl fun w => by simp [binOp, Op.stringOp, bytes_beq]
theorem Val.addS (hx : Ev K S x (.f (.v (.string a)))) (hy : Ev K S y (.f (.v (.string b)))) (hl : a.size + b.size ≤ 9223372036854775807) : Val K S ⟨d, .binOp .add T x y T', ty, pos, af, gd⟩ (.f (.v (.string (a ++ b)))) :=
  Val.bin hx hy rfl fun w => by
    have : ¬ (((a.size + b.size : Nat) : Int) > IntKind.i64.max) := by simp [IntKind.max, IntKind.signed, IntKind.bits]; omega
    simp only [binOp, Op.stringOp, if_neg this]; rfl
end

theorem run_unOp {P : Program} {w : World} {ρ : Operand → Value} {op : UnOp} {T : TypeId} {x : Operand} {r : Value} (h : (Op.unary op (ρ x)).run P w = .ok r w) :
    (execOp ρ ⟨d, .unOp op T x, ty, pos, af, gd⟩).run P w = .ok (.value r) w := by
  simp only [execOp, Sem.run_bind, h, Result.andThen_ok, Sem.run_pure]
theorem Val.not {T : TypeId} {x : Operand} {b : Bool} (hx : Ev K S x (.f (.v (.bool b)))) : Val K S ⟨d, .unOp .not T x, ty, pos, af, gd⟩ (.f (.v (.bool (!b)))) := fun L a w hs =>
  ⟨_, run_unOp (by rw [show a.eval x = .bool b from hx L a w hs]; rfl), rfl⟩
theorem Val.neg {T : TypeId} {x : Operand} {k : IntKind} {n r : Int} (hx : Ev K S x (.f (.v (.int k n)))) (hr : k.wrap (0 - n) = r) : Val K S ⟨d, .unOp .neg T x, ty, pos, af, gd⟩ (.f (.v (.int k r))) := fun L a w hs =>
  ⟨_, run_unOp (by rw [show a.eval x = .int k n from hx L a w hs]; rfl), by rw [hr]; rfl⟩

theorem Val.convInt {Tx Ty : TypeId} {dx : TypeDesc} {x : Operand} {j k : IntKind} {n r : Int} (h1 : K.P.underlying Tx = some dx) (h2 : K.P.underlying Ty = some (.int k)) (hx : Ev K S x (.f (.v (.int j n)))) (hr : k.wrap n = r) :
    Val K S ⟨d, .convert Tx Ty x, ty, pos, af, gd⟩ (.f (.v (.int k r))) := fun L a w hs => by
  have e : a.eval x = .int j n := hx L a w hs
  subst hr
  refine ⟨.int k (k.wrap n), ?_, rfl⟩
  generalize a.eval = ρ at e
  have e1 := run_und (P := K.P) (w := w) h1
  have e2 := run_und (P := K.P) (w := w) h2
  simp only [execOp, convert, Sem.run_bind, e1, e2, Result.andThen_ok, e, Conv.intToInt, Sem.run_pure]

theorem run_call {P : Program} {w w' : World} {ρ : Operand → Value} {b : Builtin} {xs : Array Operand} {ts : Array TypeId} {r : Next} (h : (builtin b ts ty (xs.map fun | .const _ => true | _ => false) (xs.map ρ)).run P w = .ok r w') :
    (execOp ρ ⟨d, .call ⟨.builtin b, xs, ts⟩, ty, pos, af, gd⟩).run P w = .ok r w' := by
  simp only [execOp, resolve, Sem.run_bind, Sem.run_pure, Result.andThen_ok, invoke]; exact h
theorem Val.len {T : TypeId} {E : TypeId} {x : Operand} {s : Nat} {xs : List (List FV)} (hT : K.P.underlying T = some (.slice E)) (hx : Ev K S x (.f (.lst s xs))) :
    Val K S ⟨d, .call ⟨.builtin .len, #[x], #[T]⟩, ty, pos, af, gd⟩ (.i xs.length) := fun L a w hs => by
  obtain ⟨ad, cap, e, _⟩ := hx L a w hs
  refine ⟨goInt xs.length, run_call ?_, rfl⟩
  have e1 := run_und (P := K.P) (w := w) hT
  generalize a.eval = ρ at e
  simp [builtin, Builtin.len_, Sem.run_bind, e1, e, go_sem]
theorem Val.lenRow {T : TypeId} {E : TypeId} {x : Operand} {id gen s i n : Nat} (hT : K.P.underlying T = some (.slice E)) (hx : Ev K S x (.row id gen s i n)) :
    Val K S ⟨d, .call ⟨.builtin .len, #[x], #[T]⟩, ty, pos, af, gd⟩ (.i n) := fun L a w hs => by
  obtain ⟨b, tot, _, e, _⟩ := hx L a w hs
  refine ⟨goInt n, run_call ?_, rfl⟩
  have e1 := run_und (P := K.P) (w := w) hT
  generalize a.eval = ρ at e
  simp [builtin, Builtin.len_, Sem.run_bind, e1, e, go_sem]
theorem Val.lenNil {T : TypeId} {E : TypeId} {x : Operand} (hT : K.P.underlying T = some (.slice E)) (hx : Ev K S x .nil) :
    Val K S ⟨d, .call ⟨.builtin .len, #[x], #[T]⟩, ty, pos, af, gd⟩ (.i 0) := fun L a w hs => by
  have e : a.eval x = .slice none 0 0 := hx L a w hs
  refine ⟨goInt 0, run_call ?_, rfl⟩
  have e1 := run_und (P := K.P) (w := w) hT
  generalize a.eval = ρ at e
  simp [builtin, Builtin.len_, Sem.run_bind, e1, e, go_sem]
theorem Val.lenS {T : TypeId} {x : Operand} {s : ByteArray} (hT : K.P.underlying T = some .string) (hx : Ev K S x (.f (.v (.string s)))) :
    Val K S ⟨d, .call ⟨.builtin .len, #[x], #[T]⟩, ty, pos, af, gd⟩ (.i s.size) := fun L a w hs => by
  have e : a.eval x = .string s := hx L a w hs
  refine ⟨goInt s.size, run_call ?_, rfl⟩
  have e1 := run_und (P := K.P) (w := w) hT
  generalize a.eval = ρ at e
  simp [builtin, Builtin.len_, Sem.run_bind, e1, e, go_sem]
theorem Val.max {T T' : TypeId} {x y : Operand} {k : IntKind} {m n : Int} (hx : Ev K S x (.f (.v (.int k m)))) (hy : Ev K S y (.f (.v (.int k n)))) :
    Val K S ⟨d, .call ⟨.builtin .max, #[x, y], #[T, T']⟩, ty, pos, af, gd⟩ (.f (.v (.int k (max m n)))) := fun L a w hs => by
  have e : a.eval x = .int k m := hx L a w hs
  have e' : a.eval y = .int k n := hy L a w hs
  refine ⟨.int k (if n > m then n else m), run_call ?_, ?_⟩
  · generalize a.eval = ρ at e e'
    simp [builtin, Builtin.max_, Builtin.max2, Sem.run_bind, e, e', go_sem]
  · simp only [AV.rep, FV.rep]; congr 1; omega
theorem Val.min {T T' : TypeId} {x y : Operand} {k : IntKind} {m n : Int} (hx : Ev K S x (.f (.v (.int k m)))) (hy : Ev K S y (.f (.v (.int k n)))) :
    Val K S ⟨d, .call ⟨.builtin .min, #[x, y], #[T, T']⟩, ty, pos, af, gd⟩ (.f (.v (.int k (min m n)))) := fun L a w hs => by
  have e : a.eval x = .int k m := hx L a w hs
  have e' : a.eval y = .int k n := hy L a w hs
  refine ⟨.int k (if n < m then n else m), run_call ?_, ?_⟩
  · generalize a.eval = ρ at e e'
    simp [builtin, Builtin.min_, Builtin.min2, Sem.run_bind, e, e', go_sem]
  · simp only [AV.rep, FV.rep]; congr 1; omega

theorem Val.extract {x : Operand} {vs : List AV} {v : AV} {j : Nat} (hx : Ev K S x (.tup vs)) (hj : vs[j]? = some v) : Val K S ⟨d, .extract x j, ty, pos, af, gd⟩ v := fun L a w hs => by
  obtain ⟨ys, e, hR⟩ := hx L a w hs
  obtain ⟨y, hy, hr⟩ := AV.repL_get hR hj
  refine ⟨y, ?_, hr⟩
  have hy' : ys[j]? = some y := by simpa using hy
  generalize a.eval = ρ at e
  simp only [execOp, Instr.extract, e, hy', Sem.run_bind, Sem.run_pure, Result.andThen_ok]

theorem Val.nilCheck {x : Operand} {id gen s i o : Nat} (hx : Ev K S x (.ptr id gen s i o)) : Val K S ⟨d, .nilCheck x, ty, pos, af, gd⟩ (.ptr id gen s i o) := fun L a w hs => by
  obtain ⟨b, tot, hL, e⟩ := hx L a w hs
  refine ⟨_, ?_, b, tot, hL, rfl⟩
  generalize a.eval = ρ at e
  simp only [execOp, e, Sem.run_pure]
/-- A byte of a string. -/
theorem Val.indexS {T : TypeId} {x y : Operand} {s : ByteArray} {k : IntKind} {i : Int} {c : UInt8} (hT : K.P.underlying T = some .string) (hx : Ev K S x (.f (.v (.string s)))) (hy : Ev K S y (.f (.v (.int k i)))) (h0 : 0 ≤ i) (hc : s[i.toNat]? = some c) :
    Val K S ⟨d, .index T x y, ty, pos, af, gd⟩ (.c c.toNat) := fun L a w hs => by
  have e : a.eval x = .string s := hx L a w hs
  have e' : a.eval y = .int k i := hy L a w hs
  refine ⟨.int .u8 c.toNat, ?_, rfl⟩
  have e1 := run_und (P := K.P) (w := w) hT
  generalize a.eval = ρ at e e'
  simp only [execOp, Instr.index, e, e', asIntOf, Sem.run_bind, Sem.run_pure, Result.andThen_ok, e1, if_pos h0, hc]
end
end Go.Aw
namespace Go.Aw
open Go.RowKit

/-- An operation with an effect leads from S to S'. -/
def Stp (K : Ctx) (m : Nat) (S : St) (o : Oper) (S' : St) : Prop :=
  ∀ L a w, Sim K L S a w → ∃ r v w' L', (execOp a.eval o).run K.P w = .ok r w' ∧ (r = .value v ∨ (r = .skip ∧ v = undef)) ∧ Sim K L' S' (a.put o.dst v) w' ∧ Ext K m S.heap L w S'.heap L' w'

section
variable {K : Ctx} {m : Nat} {Q : Post} {S S' : St} {ops : Array Oper} {rest : List Oper} {o : Oper}
theorem WL.stp (hg : o.guard = none) (hv : Stp K m S o S') (h : WL K m ops Q rest S') : WL K m ops Q (o :: rest) S := by
  intro L a w Qc hs hq
  obtain ⟨r, v, w', L', hr, hrv, hs', he⟩ := hv L a w hs
  refine wpList_plain hg fun Kc hK => ?_
  simp only [Oper.wp, hr]
  rcases hrv with rfl | ⟨rfl, rfl⟩
  · rw [Oper.upon_value]; exact hK _ _ (h L' _ w' Qc hs' fun e a' w'' hl => hq _ _ _ (lift_trans he _ _ _ hl))
  · rw [Oper.upon_skip]; exact hK _ _ (h L' _ w' Qc hs' fun e a' w'' hl => hq _ _ _ (lift_trans he _ _ _ hl))
theorem WL.gstp {G : Bool} (hg : Grd K ops S o G) (ht : G = true → ∃ S', Stp K m S o S' ∧ WL K m ops Q rest S') (hd : dstOk o.dst S.n = true) (hf : G = false → WL K m ops Q rest (S.putD o.dst (.f (.v undef)))) : WL K m ops Q (o :: rest) S := by
  intro L a w Qc hs hq
  refine wpList_step fun Kc hK => ?_
  rw [hg L a w hs]
  cases G with
  | true =>
    obtain ⟨S', hv, h⟩ := ht rfl
    obtain ⟨r, v, w', L', hr, hrv, hs', he⟩ := hv L a w hs
    simp only [if_true, Oper.wp, hr]
    rcases hrv with rfl | ⟨rfl, rfl⟩
    · rw [Oper.upon_value]; exact hK _ _ (h L' _ w' Qc hs' fun e a' w'' hl => hq _ _ _ (lift_trans he _ _ _ hl))
    · rw [Oper.upon_skip]; exact hK _ _ (h L' _ w' Qc hs' fun e a' w'' hl => hq _ _ _ (lift_trans he _ _ _ hl))
  | false =>
    simp only [Bool.false_eq_true, if_false]
    have e : (S.putD o.dst (.f (.v undef))).heap = S.heap := by cases o.dst <;> rfl
    refine hK _ _ (hf rfl L _ w Qc (hs.putD (dst_ok hd) rfl) fun e' a' w' hl => hq _ _ _ ?_)
    rw [lift, e] at hl
    exact hl
end

/-! ### A new row -/
/-- One link more. -/
def Link.new (L : Link) (id gen b tot : Nat) : Link := fun i g => if i = id ∧ g = gen then some (b, tot) else L i g

section
variable {K : Ctx} {L : Link} {h : Heap} {w : World}

theorem own_push {r : Row} {tot : Nat} (hs : HSim K L h w) {b : Nat} : Own (h ++ [some r]) (L.new h.length r.gen w.heap.size tot) b ↔ Own h L b ∨ b = w.heap.size := by
  constructor
  · rintro ⟨id, r', tot', hi, hl⟩
    by_cases hid : id < h.length
    · rw [List.getElem?_append_left hid] at hi
      simp only [Link.new] at hl
      rw [if_neg (by omega)] at hl
      exact .inl ⟨id, r', tot', hi, hl⟩
    · by_cases he : id = h.length
      · subst he
        rw [List.getElem?_append_right (Nat.le_refl _)] at hi
        simp at hi; subst hi
        simp [Link.new] at hl
        exact .inr hl.1.symm
      · rw [List.getElem?_append_right (by omega), List.getElem?_eq_none (by simp; omega)] at hi; simp at hi
  · rintro (⟨id, r', tot', hi, hl⟩ | rfl)
    · have hid : id < h.length := (List.getElem?_eq_some_iff.1 hi).1
      exact ⟨id, r', tot', by rw [List.getElem?_append_left hid]; exact hi, by simp only [Link.new]; rw [if_neg (by omega)]; exact hl⟩
    · exact ⟨h.length, r, tot, by simp, by simp [Link.new]⟩

theorem own_lt (hs : HSim K L h w) {b : Nat} (ho : Own h L b) : b < w.heap.size := by
  obtain ⟨id, r, tot, hi, hl⟩ := ho
  obtain ⟨b', tot', c, e, hl', _, _, hc, _⟩ := hs.live id r hi
  rw [hl] at hl'; cases hl'
  by_cases hh : b < w.heap.size
  · exact hh
  · rw [Array.getElem?_eq_none (by omega)] at hc; simp at hc

theorem stays_push (X : Nat → Prop) (w : World) (o : Obj) : Stays X w { w with heap := w.heap.push o } :=
  ⟨by simp, fun b hb _ => by show (w.heap.push o)[b]? = _; rw [Array.getElem?_push, if_neg (by omega)]⟩

theorem link_new (hs : HSim K L h w) {g b tot : Nat} : ∀ id' g' x, L id' g' = some x → L.new h.length g b tot id' g' = some x := by
  intro id' g' x hx
  simp only [Link.new]
  split
  · rename_i hh; rw [hh.1, hs.past _ _ (by rw [List.getElem?_eq_none (Nat.le_refl _)]; rfl)] at hx; simp at hx
  · exact hx

theorem HSim.push (hs : HSim K L h w) (hN : K.N ≤ w.heap.size) {r : Row} {c : Array Value} {ty : TypeId} {tot : Nat} (hc : c.size = tot * r.s) (hlen : r.els.length ≤ tot) (hat : rowAt w (Bar K h L) L r c) :
    HSim K (L.new h.length r.gen w.heap.size tot) (h ++ [some r]) { w with heap := w.heap.push (.cells c ty) } := by
  have hbar : ∀ b, b < w.heap.size → Bar K (h ++ [some r]) (L.new h.length r.gen w.heap.size tot) b → Bar K h L b := by
    rintro b hb (hx | ho)
    · exact .inl hx
    · rcases (own_push hs).1 ho with ho | rfl
      · exact .inr ho
      · omega
  have hst := stays_push (Bar K h L) w (.cells c ty)
  have hl := link_new (g := r.gen) (b := w.heap.size) (tot := tot) hs
  have hat' : ∀ r' c', rowAt w (Bar K h L) L r' c' → rowAt { w with heap := w.heap.push (.cells c ty) } (Bar K (h ++ [some r]) (L.new h.length r.gen w.heap.size tot)) (L.new h.length r.gen w.heap.size tot) r' c' :=
    fun r' c' hh i e he => AV.repL_stays hst hbar hl (hh i e he)
  refine ⟨?_, ?_, ?_, ?_, fun b hb => Nat.lt_of_lt_of_le (hs.foreign b hb) hst.size⟩
  · intro id r' hi
    by_cases hid : id < h.length
    · rw [List.getElem?_append_left hid] at hi
      obtain ⟨b, tot', c', e, h1, h2, h3, h4, h5, h6, h7⟩ := hs.live id r' hi
      refine ⟨b, tot', c', e, hl _ _ _ h1, h2, h3, ?_, h5, h6, hat' _ _ h7⟩
      show (w.heap.push _)[b]? = _
      rw [Array.getElem?_push, if_neg]
      · exact h4
      · intro he; subst he; rw [Array.getElem?_eq_none (Nat.le_refl _)] at h4; simp at h4
    · have he : id = h.length := by
        have := (List.getElem?_eq_some_iff.1 hi).1; simp at this; omega
      subst he
      rw [List.getElem?_append_right (Nat.le_refl _)] at hi
      simp at hi; subst hi
      refine ⟨w.heap.size, tot, c, ty, by simp [Link.new], hN, fun hx => Nat.lt_irrefl _ (hs.foreign _ hx), by simp, hc, hlen, hat' _ _ hat⟩
  · intro id r1 id' r2 b t1 t2 hi hi' hl1 hl2
    have one : ∀ {id r' b t}, (h ++ [some r])[id]? = some (some r') → L.new h.length r.gen w.heap.size tot id r'.gen = some (b, t) → (id < h.length ∧ h[id]? = some (some r') ∧ L id r'.gen = some (b, t) ∧ b < w.heap.size) ∨ (id = h.length ∧ b = w.heap.size) := by
      intro id r' b t hi hl
      by_cases hid : id < h.length
      · rw [List.getElem?_append_left hid] at hi
        simp only [Link.new] at hl
        rw [if_neg (by omega)] at hl
        exact .inl ⟨hid, hi, hl, own_lt hs ⟨id, r', t, hi, hl⟩⟩
      · have he : id = h.length := by
          have := (List.getElem?_eq_some_iff.1 hi).1; simp at this; omega
        subst he
        rw [List.getElem?_append_right (Nat.le_refl _)] at hi
        simp at hi; subst hi
        simp [Link.new] at hl
        exact .inr ⟨rfl, hl.1.symm⟩
    rcases one hi hl1 with ⟨a1, a2, a3, a4⟩ | ⟨a1, a2⟩ <;> rcases one hi' hl2 with ⟨c1, c2, c3, c4⟩ | ⟨c1, c2⟩
    · exact hs.inj _ _ _ _ _ _ _ a2 c2 a3 c3
    · omega
    · omega
    · omega
  · intro id r' g hi hg
    by_cases hid : id < h.length
    · rw [List.getElem?_append_left hid] at hi
      simp only [Link.new]
      rw [if_neg (by omega)]; exact hs.later id r' g hi hg
    · have he : id = h.length := by
        have := (List.getElem?_eq_some_iff.1 hi).1; simp at this; omega
      subst he
      rw [List.getElem?_append_right (Nat.le_refl _)] at hi
      simp at hi; subst hi
      simp only [Link.new]
      rw [if_neg (by omega)]; exact hs.past _ _ (by rw [List.getElem?_eq_none (Nat.le_refl _)]; rfl)
  · intro id g hid
    have hne : id ≠ h.length := by rintro rfl; simp at hid
    have hid' : h[id]?.join = none := by
      by_cases hlt : id < h.length
      · rw [List.getElem?_append_left hlt] at hid; exact hid
      · rw [List.getElem?_eq_none (by omega)]; rfl
    simp only [Link.new]
    rw [if_neg (by omega)]; exact hs.past _ _ hid'
end

section
variable {K : Ctx} {m : Nat} {S : St} {L : Link} {a : Act} {w : World}
theorem Below.push {N : Nat} {w0 w : World} (h : Below N w0 w) (hN : N ≤ w.heap.size) (o : Obj) : Below N w0 { w with heap := w.heap.push o } :=
  h.trans ⟨rfl, rfl, rfl, by simp, fun k hk => by show (w.heap.push o)[k]? = _; rw [Array.getElem?_push, if_neg (by omega)]⟩

theorem bar_push {h : Heap} {r : Row} {tot : Nat} (hs : HSim K L h w) : ∀ b, b < w.heap.size → Bar K (h ++ [some r]) (L.new h.length r.gen w.heap.size tot) b → Bar K h L b := by
  rintro b hb (hx | ho)
  · exact .inl hx
  · rcases (own_push hs).1 ho with ho | rfl
    · exact .inr ho
    · omega

theorem Sim.push (hs : Sim K L S a w) {r : Row} {c : Array Value} {ty : TypeId} {tot : Nat} (hc : c.size = tot * r.s) (hlen : r.els.length ≤ tot) (hat : rowAt w (Bar K S.heap L) L r c) :
    Sim K (L.new S.heap.length r.gen w.heap.size tot) { S with heap := S.heap ++ [some r] } a { w with heap := w.heap.push (.cells c ty) } :=
  ⟨hs.hs.push hs.big hc hlen hat, Below.push hs.base hs.big _, Nat.le_trans hs.big (by simp), fun t x hx => AV.rep_stays (stays_push _ w _) (bar_push hs.hs) (link_new hs.hs) (hs.slots t x hx), hs.size, hs.defers⟩

theorem Ext.push {h : Heap} (hs : HSim K L h w) {r : Row} {c : Array Value} {ty : TypeId} {tot : Nat} : Ext K m h L w (h ++ [some r]) (L.new h.length r.gen w.heap.size tot) { w with heap := w.heap.push (.cells c ty) } :=
  ⟨fun id g x _ hx => link_new hs _ _ _ hx, stays_push _ _ _, fun b hb ho => by
    rcases (own_push hs).1 ho with ho | rfl
    · exact ho
    · omega⟩
end

/-! ### A value's cells -/
def AV.cells : AV → List AV
  | .agg cs => cs
  | x => [x]
/-- A value of one cell. -/
def AV.one : AV → Bool
  | .f (.v (.agg _)) | .f (.v (.tuple _)) | .any | .tup _ | .opt _ _ | .agg _ => false
  | _ => true
/-- A value of one cell, or of cells that are. -/
def AV.fit : AV → Bool
  | .agg cs => cs.all AV.one
  | x => x.one

theorem one_not {w : World} {X : Nat → Prop} {L : Link} {x : AV} {v : Value} (hx : x.one = true) (h : x.rep w X L v) : (∀ cs, v ≠ .agg cs) ∧ (∀ cs, v ≠ .tuple cs) := by
  cases x with
  | f y =>
    cases y with
    | v z =>
      have : v = z := h
      subst this
      cases v <;> simp [AV.one] at hx ⊢
    | lst s xs => obtain ⟨a, cap, rfl, _⟩ := h; simp
    | ref cs => obtain ⟨b, off, rfl, _⟩ := h; simp
  | ptr => obtain ⟨b, tot, _, rfl⟩ := h; simp
  | row => obtain ⟨b, tot, _, rfl, _⟩ := h; simp
  | fn => obtain ⟨cs, rfl, _⟩ := h; simp
  | _ => simp [AV.one] at hx
theorem fit_cells {w : World} {X : Nat → Prop} {L : Link} {x : AV} {v : Value} (hx : x.fit = true) (h : x.rep w X L v) : AV.repL w X L x.cells v.cells.toList := by
  cases x with
  | agg cs => obtain ⟨vs, rfl, hR⟩ := h; exact hR
  | any => simp [AV.fit, AV.one] at hx
  | tup => simp [AV.fit, AV.one] at hx
  | opt => simp [AV.fit, AV.one] at hx
  | _ =>
    have hn := one_not (x := _) (by exact hx) h
    have : v.cells = #[v] := by cases v <;> simp_all [Value.cells]
    rw [this]; exact ⟨h, trivial⟩

section
variable {K : Ctx} {m : Nat} {S : St} {d : Option Nat} {ty : TypeId} {pos : String} {af : Array Edge} {gd : Option (Nat × Bool)}

theorem putD_heap (S : St) (d : Option Nat) (x : AV) : (S.putD d x).heap = S.heap := by cases d <;> rfl
theorem Stp.box {T : TypeId} {x : Operand} {v : AV} (hx : Ev K S x v) (hf : v.fit = true) (hd : dstOk d S.n = true) :
    Stp K m S ⟨d, .box T x, ty, pos, af, gd⟩ (({ S with heap := S.heap ++ [some ⟨0, v.cells.length, [v.cells]⟩] } : St).putD d (.ptr S.heap.length 0 v.cells.length 0 0)) := fun L a w hs => by
  have hR := fit_cells hf (hx L a w hs)
  have hl := AV.repL_length hR
  have hp := hs.push (r := ⟨0, v.cells.length, [v.cells]⟩) (c := (a.eval x).cells) (ty := T) (tot := 1) (by simp [hl]) (by simp) (by
    intro i e he
    cases i with
    | zero =>
      simp at he; subst he
      show AV.repL _ _ _ _ (((a.eval x).cells.toList.drop (0 * v.cells.length)).take v.cells.length)
      rw [Nat.zero_mul, List.drop_zero, List.take_of_length_le (by rw [hl]; exact Nat.le_refl _)]; exact hR
    | succ i => simp at he)
  refine ⟨.value (.pointer (some ⟨w.heap.size, 0, none⟩)), _, _, _, ?_, .inl rfl, hp.putD (dst_ok hd) ⟨w.heap.size, 1, by simp [Link.new], by simp⟩, ?_⟩
  · generalize a.eval = ρ
    simp only [execOp, Instr.box, newVar, newRow, newObj, Sem.run_bind, Sem.run, Result.andThen_ok, Sem.run_pure]
  · rw [putD_heap]; exact Ext.push hs.hs

theorem Stp.alloc {T : TypeId} {z : Value} {vs : List Value} (hz : (K.P.info? T).map (·.zero) = some (some z)) (hv : z.cells.toList = vs) (hd : dstOk d S.n = true) :
    Stp K m S ⟨d, .alloc T, ty, pos, af, gd⟩ (({ S with heap := S.heap ++ [some ⟨0, vs.length, [vs.map fun v => .f (.v v)]⟩] } : St).putD d (.ptr S.heap.length 0 vs.length 0 0)) := fun L a w hs => by
  have hR : ∀ ys : List Value, AV.repL w (Bar K S.heap L) L (ys.map fun v => .f (.v v)) ys := by
    intro ys; induction ys with
    | nil => trivial
    | cons y ys ih => exact ⟨rfl, ih⟩
  have hl : z.cells.size = vs.length := by rw [← hv]; simp
  have hp := hs.push (r := ⟨0, vs.length, [vs.map fun v => .f (.v v)]⟩) (c := z.cells) (ty := T) (tot := 1) (by simp [hl]) (by simp) (by
    intro i e he
    cases i with
    | zero =>
      simp at he; subst he
      show AV.repL _ _ _ _ ((z.cells.toList.drop (0 * vs.length)).take vs.length)
      rw [Nat.zero_mul, List.drop_zero, hv, List.take_of_length_le (Nat.le_refl _)]; exact hR vs
    | succ i => simp at he)
  refine ⟨.value (.pointer (some ⟨w.heap.size, 0, none⟩)), _, _, _, ?_, .inl rfl, hp.putD (dst_ok hd) ⟨w.heap.size, 1, by simp [Link.new], by simp⟩, ?_⟩
  · have e1 : (zeroValue T).run K.P w = .ok z w := by
      cases hi : K.P.info? T with
      | none => rw [hi] at hz; simp at hz
      | some i => rw [hi] at hz; simp at hz; simp [zeroValue, typeInfo, hi, hz, go_sem]
    generalize a.eval = ρ
    simp only [execOp, Instr.alloc, newVar, newRow, newObj, Sem.run_bind, e1, Sem.run, Result.andThen_ok, Sem.run_pure]
  · rw [putD_heap]; exact Ext.push hs.hs
end
end Go.Aw
namespace Go.Aw
open Go.RowKit

section
variable {K : Ctx} {L : Link} {h : Heap} {w : World}

/-- A row is written in place, or lies in a new block from now on. -/
structure Upd (K : Ctx) (L : Link) (h : Heap) (w : World) (id : Nat) (r r' : Row) (b tot b' tot' : Nat) (w' : World) : Prop where
  row : h[id]? = some (some r)
  link : L id r.gen = some (b, tot)
  gen : r'.gen = r.gen ∨ r'.gen = r.gen + 1
  place : (b' = b ∧ tot' = tot) ∨ (b' = w.heap.size ∧ r'.gen = r.gen + 1)
  size : w.heap.size ≤ w'.heap.size
  other : ∀ k, k < w.heap.size → k ≠ b' → w'.heap[k]? = w.heap[k]?
  cells : ∃ c e, w'.heap[b']? = some (.cells c e) ∧ c.size = tot' * r'.s ∧ rowAt w (Bar K h L) L r' c
  len : r'.els.length ≤ tot'
  base : w'.os = w.os ∧ w'.tape = w.tape ∧ w'.output = w.output

variable {id b tot b' tot' : Nat} {r r' : Row} {w' : World}
theorem Upd.link_ext (u : Upd K L h w id r r' b tot b' tot' w') (hs : HSim K L h w) : ∀ i g x, L i g = some x → L.new id r'.gen b' tot' i g = some x := by
  intro i g x hx
  simp only [Link.new]
  split
  · rename_i hh
    rw [hh.1, hh.2] at hx
    rcases u.gen with hg | hg
    · rcases u.place with ⟨e1, e2⟩ | ⟨e1, e2⟩
      · rw [hg, u.link] at hx; rw [e1, e2]; exact hx
      · omega
    · rw [hg, hs.later id r _ u.row (by omega)] at hx; simp at hx
  · exact hx

theorem Upd.get (u : Upd K L h w id r r' b tot b' tot' w') {i : Nat} {q : Row} (hi : (h.set id (some r'))[i]? = some (some q)) : (i = id ∧ q = r') ∨ (i ≠ id ∧ h[i]? = some (some q)) := by
  rw [List.getElem?_set] at hi
  split at hi
  · rename_i he
    subst he
    split at hi
    · cases hi; exact .inl ⟨rfl, rfl⟩
    · simp at hi
  · rename_i he; exact .inr ⟨fun h => he h.symm, hi⟩
theorem Upd.lt (u : Upd K L h w id r r' b tot b' tot' w') : id < h.length := (List.getElem?_eq_some_iff.1 u.row).1
theorem Upd.own (u : Upd K L h w id r r' b tot b' tot' w') (hs : HSim K L h w) {k : Nat} (ho : Own (h.set id (some r')) (L.new id r'.gen b' tot') k) : k = b' ∨ Own h L k := by
  obtain ⟨i, q, t, hi, hl⟩ := ho
  rcases u.get hi with ⟨rfl, rfl⟩ | ⟨hne, hi⟩
  · simp [Link.new] at hl; exact .inl hl.1.symm
  · simp only [Link.new] at hl
    rw [if_neg (fun hh => hne hh.1)] at hl
    exact .inr ⟨i, q, t, hi, hl⟩
theorem Upd.own_old (u : Upd K L h w id r r' b tot b' tot' w') (hs : HSim K L h w) {k : Nat} (hk : k < w.heap.size) (ho : Own (h.set id (some r')) (L.new id r'.gen b' tot') k) : Own h L k := by
  rcases u.own hs ho with rfl | ho
  · rcases u.place with ⟨rfl, _⟩ | ⟨rfl, _⟩
    · exact ⟨id, r, tot, u.row, u.link⟩
    · omega
  · exact ho
theorem Upd.stays (u : Upd K L h w id r r' b tot b' tot' w') : Stays (Own h L) w w' :=
  ⟨u.size, fun k hk hx => u.other k hk (fun he => by
    subst he
    rcases u.place with ⟨rfl, _⟩ | ⟨rfl, _⟩
    · exact hx ⟨id, r, tot, u.row, u.link⟩
    · omega)⟩
theorem Stays.bar {X Y : Nat → Prop} {w w' : World} (h : Stays X w w') : Stays (fun b => Y b ∨ X b) w w' := ⟨h.size, fun b hb hx => h.block b hb (fun h' => hx (.inr h'))⟩
theorem Upd.barle (u : Upd K L h w id r r' b tot b' tot' w') (hs : HSim K L h w) : ∀ k, k < w.heap.size → Bar K (h.set id (some r')) (L.new id r'.gen b' tot') k → Bar K h L k := by
  rintro k hk (hx | ho)
  · exact .inl hx
  · exact .inr (u.own_old hs hk ho)

theorem HSim.upd (u : Upd K L h w id r r' b tot b' tot' w') (hs : HSim K L h w) (hN : K.N ≤ w.heap.size) : HSim K (L.new id r'.gen b' tot') (h.set id (some r')) w' := by
  have hst : Stays (Bar K h L) w w' := u.stays.bar
  have hat : ∀ q c, rowAt w (Bar K h L) L q c → rowAt w' (Bar K (h.set id (some r')) (L.new id r'.gen b' tot')) (L.new id r'.gen b' tot') q c :=
    fun q c hh i e he => AV.repL_stays hst (u.barle hs) (u.link_ext hs) (hh i e he)
  refine ⟨?_, ?_, ?_, ?_, fun k hk => Nat.lt_of_lt_of_le (hs.foreign k hk) u.size⟩
  · intro i q hi
    rcases u.get hi with ⟨rfl, rfl⟩ | ⟨hne, hi⟩
    · obtain ⟨c, e, h1, h2, h3⟩ := u.cells
      refine ⟨b', tot', c, e, by simp [Link.new], ?_, ?_, h1, h2, u.len, hat _ _ h3⟩
      · rcases u.place with ⟨rfl, _⟩ | ⟨rfl, _⟩
        · obtain ⟨b2, t2, _, _, hl, hb, _⟩ := hs.live _ _ u.row
          rw [u.link] at hl; cases hl; exact hb
        · exact hN
      · rcases u.place with ⟨rfl, _⟩ | ⟨rfl, _⟩
        · obtain ⟨b2, t2, _, _, hl, _, hx, _⟩ := hs.live _ _ u.row
          rw [u.link] at hl; cases hl; exact hx
        · exact fun hx => Nat.lt_irrefl _ (hs.foreign _ hx)
    · obtain ⟨b2, t2, c, e, h1, h2, h3, h4, h5, h6, h7⟩ := hs.live i q hi
      refine ⟨b2, t2, c, e, u.link_ext hs _ _ _ h1, h2, h3, ?_, h5, h6, hat _ _ h7⟩
      rw [u.other b2 (own_lt hs ⟨i, q, t2, hi, h1⟩) ?_]
      · exact h4
      · rintro rfl
        rcases u.place with ⟨rfl, _⟩ | ⟨rfl, _⟩
        · exact hne (hs.inj _ _ _ _ _ _ _ hi u.row h1 u.link)
        · exact Nat.lt_irrefl _ (own_lt hs ⟨i, q, t2, hi, h1⟩)
  · intro i1 r1 i2 r2 k t1 t2 hi1 hi2 hl1 hl2
    have one : ∀ {i q t}, (h.set id (some r'))[i]? = some (some q) → L.new id r'.gen b' tot' i q.gen = some (k, t) → (i = id ∧ k = b') ∨ (i ≠ id ∧ h[i]? = some (some q) ∧ L i q.gen = some (k, t)) := by
      intro i q t hi hl
      rcases u.get hi with ⟨rfl, rfl⟩ | ⟨hne, hi⟩
      · simp [Link.new] at hl; exact .inl ⟨rfl, hl.1.symm⟩
      · simp only [Link.new] at hl
        rw [if_neg (fun hh => hne hh.1)] at hl
        exact .inr ⟨hne, hi, hl⟩
    have no : ∀ {i q t}, i ≠ id → h[i]? = some (some q) → L i q.gen = some (b', t) → False := by
      intro i q t hne hi hl
      rcases u.place with ⟨rfl, _⟩ | ⟨rfl, _⟩
      · exact hne (hs.inj _ _ _ _ _ _ _ hi u.row hl u.link)
      · exact Nat.lt_irrefl _ (own_lt hs ⟨i, q, t, hi, hl⟩)
    rcases one hi1 hl1 with ⟨a1, a2⟩ | ⟨a1, a2, a3⟩ <;> rcases one hi2 hl2 with ⟨c1, c2⟩ | ⟨c1, c2, c3⟩
    · omega
    · subst a2; exact (no c1 c2 c3).elim
    · subst c2; exact (no a1 a2 a3).elim
    · exact hs.inj _ _ _ _ _ _ _ a2 c2 a3 c3
  · intro i q g hi hg
    rcases u.get hi with ⟨rfl, rfl⟩ | ⟨hne, hi⟩
    · simp only [Link.new]; rw [if_neg (by omega)]
      exact hs.later _ r g u.row (by rcases u.gen with hh | hh <;> omega)
    · simp only [Link.new]; rw [if_neg (fun hh => hne hh.1)]; exact hs.later _ _ g hi hg
  · intro i g hi
    have hlt := u.lt
    have hne : i ≠ id := by
      rintro rfl
      rw [List.getElem?_set, if_pos rfl, if_pos hlt] at hi; simp at hi
    rw [List.getElem?_set, if_neg (fun hh => hne hh.symm)] at hi
    simp only [Link.new]; rw [if_neg (fun hh => hne hh.1)]; exact hs.past _ _ hi

variable {m : Nat} {S : St} {a : Act}
theorem Sim.upd (hs : Sim K L S a w) (u : Upd K L S.heap w id r r' b tot b' tot' w') : Sim K (L.new id r'.gen b' tot') { S with heap := S.heap.set id (some r') } a w' :=
  ⟨hs.hs.upd u hs.big, hs.base.trans ⟨u.base.1, u.base.2.1, u.base.2.2, u.size, fun k hk => u.other k (Nat.lt_of_lt_of_le hk hs.big) (by
      rintro rfl
      rcases u.place with ⟨rfl, _⟩ | ⟨rfl, _⟩
      · obtain ⟨b2, t2, _, _, hl, hb, _⟩ := hs.hs.live _ _ u.row
        rw [u.link] at hl; cases hl; omega
      · have := hs.big; omega)⟩,
    Nat.le_trans hs.big u.size, fun t x hx => AV.rep_stays u.stays.bar (u.barle hs.hs) (u.link_ext hs.hs) (hs.slots t x hx), hs.size, hs.defers⟩
theorem Ext.upd (hs : HSim K L h w) (u : Upd K L h w id r r' b tot b' tot' w') : Ext K m h L w (h.set id (some r')) (L.new id r'.gen b' tot') w' :=
  ⟨fun i g x _ hx => u.link_ext hs i g x hx, u.stays, fun k hk ho => u.own_old hs hk ho⟩
end

/-! ### Cells written one behind the other -/
def wr (c : Array Value) (o : Nat) : List Value → Array Value
  | [] => c
  | v :: vs => wr (c.setIfInBounds o v) (o + 1) vs
theorem wr_size : ∀ (vs : List Value) (c : Array Value) (o : Nat), (wr c o vs).size = c.size
  | [], _, _ => rfl
  | v :: vs, c, o => by rw [wr, wr_size vs]; simp
theorem wr_get : ∀ (vs : List Value) (c : Array Value) (o k : Nat), o + vs.length ≤ c.size → (wr c o vs)[k]? = if o ≤ k ∧ k < o + vs.length then vs[k - o]? else c[k]?
  | [], c, o, k, _ => by rw [wr, if_neg (by simp)]
  | v :: vs, c, o, k, h => by
    simp only [List.length_cons] at h
    rw [wr, wr_get vs _ _ k (by simp; omega)]
    by_cases h1 : o + 1 ≤ k ∧ k < o + 1 + vs.length
    · rw [if_pos h1, if_pos (by simp; omega), show k - o = (k - (o + 1)) + 1 from by omega]; rfl
    · rw [if_neg h1, Array.getElem?_setIfInBounds]
      by_cases h2 : o = k
      · subst h2; rw [if_pos rfl, if_pos (by omega), if_pos (by simp)]; simp
      · rw [if_neg h2, if_neg (by simp; omega)]

/-- A block holds other cells. -/
def setBlk (w : World) (b : Nat) (c : Array Value) (e : TypeId) : World := { w with heap := w.heap.setIfInBounds b (.cells c e) }

theorem setCell_blk {w : World} {b o : Nat} {c : Array Value} {e : TypeId} {v : Value} (hb : w.heap[b]? = some (.cells c e)) : w.setCell ⟨b, o, none⟩ v = setBlk w b (c.setIfInBounds o v) e := by
  unfold World.setCell setBlk
  congr 1
  apply Array.ext_getElem?
  intro i
  rw [Array.getElem?_modify, Array.getElem?_setIfInBounds]
  by_cases h : b = i
  · subst h
    obtain ⟨hlt, hg⟩ := Array.getElem?_eq_some_iff.1 hb
    simp [hlt, hg]
  · simp [h]
theorem setBlk_get {w : World} {b : Nat} {c : Array Value} {e : TypeId} (hb : b < w.heap.size) : (setBlk w b c e).heap[b]? = some (.cells c e) := by
  simp [setBlk, Array.getElem?_setIfInBounds, hb]
theorem setBlk_set (w : World) (b : Nat) (c c' : Array Value) (e e' : TypeId) : setBlk (setBlk w b c e) b c' e' = setBlk w b c' e' := by
  unfold setBlk; congr 1
  apply Array.ext_getElem?
  intro i
  simp only [Array.getElem?_setIfInBounds, Array.size_setIfInBounds]
  split <;> rfl
theorem setBlk_same {w : World} {b : Nat} {c : Array Value} {e : TypeId} (hb : w.heap[b]? = some (.cells c e)) : setBlk w b c e = w := by
  obtain ⟨hlt, hg⟩ := Array.getElem?_eq_some_iff.1 hb
  unfold setBlk
  have : w.heap.setIfInBounds b (.cells c e) = w.heap := by
    apply Array.ext_getElem?
    intro i
    rw [Array.getElem?_setIfInBounds]
    split
    · rename_i h; subst h; simp [hlt, hg]
    · rfl
  rw [this]

/-- Values of one cell each. -/
def single : List Value → Prop
  | [] => True
  | v :: vs => (∀ cs, v ≠ .agg cs) ∧ (∀ cs, v ≠ .tuple cs) ∧ single vs
theorem run_store {P : Program} {w : World} {b o : Nat} {c : Array Value} {e : TypeId} {v : Value} (hb : w.heap[b]? = some (.cells c e)) (ho : o < c.size) (h1 : ∀ cs, v ≠ .agg cs) (h2 : ∀ cs, v ≠ .tuple cs) :
    (store ⟨b, o, none⟩ v).run P w = .ok () (setBlk w b (c.setIfInBounds o v) e) := by
  have hc : w.cell? ⟨b, o, none⟩ = some c[o] := (cell_block hb).trans (by simp [ho])
  have hf : w.frozen? ⟨b, o, none⟩ = false := by simp [World.frozen?, hb]
  have : (store ⟨b, o, none⟩ v).run P w = .ok () (w.setCell ⟨b, o, none⟩ v) := by
    cases v <;> first | exact absurd rfl (h1 _) | exact absurd rfl (h2 _) | simp [store, Sem.run, hc, hf]
  rw [this, setCell_blk hb]
theorem run_storeCells {P : Program} {b : Nat} {e : TypeId} : ∀ (vs : List Value) (w : World) (c : Array Value) (o i : Nat), w.heap[b]? = some (.cells c e) → o + i + vs.length ≤ c.size → single vs →
    (storeCells ⟨b, o, none⟩ vs i).run P w = .ok () (setBlk w b (wr c (o + i) vs) e)
  | [], w, c, o, i, hb, _, _ => by rw [wr, setBlk_same hb]; rfl
  | v :: vs, w, c, o, i, hb, hl, hv => by
    simp only [List.length_cons] at hl
    have hlt := (Array.getElem?_eq_some_iff.1 hb).1
    rw [storeCells, Sem.run_bind, add_at, run_store hb (by omega) hv.1 hv.2.1, Result.andThen_ok]
    rw [run_storeCells vs _ (c.setIfInBounds (o + i) v) o (i + 1) (setBlk_get hlt) (by simp; omega) hv.2.2, setBlk_set]
    rfl
end Go.Aw
namespace Go.Aw
open Go.RowKit

/-- A list with some elements written over. -/
def splice {α : Type} (l : List α) (o : Nat) (xs : List α) : List α := l.take o ++ (xs ++ l.drop (o + xs.length))

theorem repL_single {w : World} {X : Nat → Prop} {L : Link} : ∀ {xs : List AV} {vs : List Value}, xs.all AV.one = true → AV.repL w X L xs vs → single vs
  | [], [], _, _ => trivial
  | x :: xs, v :: vs, h, hr => by
    simp at h
    have := one_not h.1 hr.1
    exact ⟨this.1, this.2, repL_single (by simpa using h.2) hr.2⟩
  | [], _ :: _, _, h => h.elim
  | _ :: _, [], _, h => h.elim
theorem fit_single {w : World} {X : Nat → Prop} {L : Link} {x : AV} {v : Value} (hx : x.fit = true) (h : x.rep w X L v) : single v.cells.toList := by
  have hR := fit_cells hx h
  refine repL_single ?_ hR
  cases x with
  | agg cs => exact hx
  | any => simp [AV.fit, AV.one] at hx
  | tup => simp [AV.fit, AV.one] at hx
  | opt => simp [AV.fit, AV.one] at hx
  | _ => simpa [AV.cells, AV.fit] using hx

theorem wr_slice {c : Array Value} {vs : List Value} {tot s i o j : Nat} (hc : c.size = tot * s) (hi : i < tot) (hl : o + vs.length ≤ s) :
    ((wr c (i * s + o) vs).toList.drop (j * s)).take s = if j = i then splice ((c.toList.drop (i * s)).take s) o vs else (c.toList.drop (j * s)).take s := by
  have hfit : i * s + s ≤ tot * s := by
    have := Nat.mul_le_mul_right s (Nat.succ_le_of_lt hi)
    rw [Nat.succ_mul] at this; exact this
  have hw := wr_get vs c (i * s + o)
  apply List.ext_getElem?
  intro k
  have hL : (((wr c (i * s + o) vs).toList.drop (j * s)).take s)[k]? = if k < s then (wr c (i * s + o) vs)[j * s + k]? else none := by
    rw [List.getElem?_take]; split
    · rw [List.getElem?_drop]; simp
    · rfl
  rw [hL]
  by_cases hj : j = i
  · subst hj
    rw [if_pos rfl]
    have hlen : ((c.toList.drop (j * s)).take s).length = s := by simp; omega
    simp only [splice]
    by_cases hk : k < s
    · rw [if_pos hk, hw _ (by omega)]
      by_cases h1 : k < o
      · rw [if_neg (by omega), List.getElem?_append_left (by rw [List.length_take, hlen]; omega), List.getElem?_take, if_pos h1, List.getElem?_take, if_pos hk, List.getElem?_drop]; simp
      · rw [List.getElem?_append_right (by rw [List.length_take, hlen]; omega), List.length_take, hlen, Nat.min_eq_left (by omega)]
        by_cases h2 : k < o + vs.length
        · rw [if_pos (by omega), List.getElem?_append_left (by omega)]; congr 1; omega
        · rw [if_neg (by omega), List.getElem?_append_right (by omega), List.getElem?_drop, List.getElem?_take, if_pos (by omega), List.getElem?_drop]
          simp; congr 1; omega
    · rw [if_neg hk, List.getElem?_eq_none]
      simp only [List.length_append, List.length_take, List.length_drop, Array.length_toList]
      omega
  · rw [if_neg hj, List.getElem?_take]
    by_cases hk : k < s
    · rw [if_pos hk, if_pos hk, hw _ (by omega), if_neg, List.getElem?_drop]
      · simp
      · intro hh
        rcases Nat.lt_or_gt_of_ne hj with hlt | hgt
        · have := Nat.mul_le_mul_right s (Nat.succ_le_of_lt hlt); rw [Nat.succ_mul] at this; omega
        · have := Nat.mul_le_mul_right s (Nat.succ_le_of_lt hgt); rw [Nat.succ_mul] at this; omega
    · rw [if_neg hk, if_neg hk]

section
variable {K : Ctx} {m : Nat} {S : St} {d : Option Nat} {ty : TypeId} {pos : String} {af : Array Edge} {gd : Option (Nat × Bool)}

theorem repL_splice {w : World} {X : Nat → Prop} {L : Link} {e xs : List AV} {old vs : List Value} {o : Nat} (h : AV.repL w X L e old) (hv : AV.repL w X L xs vs) : AV.repL w X L (splice e o xs) (splice old o vs) := by
  unfold splice
  rw [AV.repL_length hv]
  exact AV.repL_append (AV.repL_take h _) (AV.repL_append hv (AV.repL_drop h _))

/-- The row behind a write of some cells of one element. -/
theorem upd_write {L : Link} {h : Heap} {w : World} (hs : HSim K L h w) {id : Nat} {r : Row} (hr : h[id]? = some (some r)) {i o : Nat} {e : List AV} (he : r.els[i]? = some e) {xs : List AV} {vs : List Value}
    (hv : AV.repL w (Bar K h L) L xs vs) (hl : o + xs.length ≤ e.length) {b tot : Nat} (hL : L id r.gen = some (b, tot)) :
    ∃ c ty, w.heap[b]? = some (.cells c ty) ∧ i * r.s + o + vs.length ≤ c.size ∧ Upd K L h w id r { r with els := r.els.set i (splice e o xs) } b tot b tot (setBlk w b (wr c (i * r.s + o) vs) ty) := by
  obtain ⟨b', tot', c, ty, hL', hN, hX, hc, hsz, hlen, hat⟩ := hs.live id r hr
  rw [hL] at hL'; cases hL'
  have hi : i < r.els.length := (List.getElem?_eq_some_iff.1 he).1
  have hit : i < tot := by omega
  have hes := AV.repL_length (hat i e he)
  have hfit : i * r.s + r.s ≤ tot * r.s := by
    have := Nat.mul_le_mul_right r.s (Nat.succ_le_of_lt hit)
    rw [Nat.succ_mul] at this; exact this
  have hes' : e.length = r.s := by rw [hes]; simp; omega
  have hvl := AV.repL_length hv
  have hb := (Array.getElem?_eq_some_iff.1 hc).1
  refine ⟨c, ty, hc, by omega, hr, hL, .inl rfl, .inl ⟨rfl, rfl⟩, by simp [setBlk], ?_, ⟨_, ty, setBlk_get hb, by rw [wr_size]; exact hsz, ?_⟩, by simpa using hlen, ⟨rfl, rfl, rfl⟩⟩
  · intro k hk hne
    simp only [setBlk, Array.getElem?_setIfInBounds]
    rw [if_neg (fun hh => hne hh.symm)]
  · intro j f hf
    show AV.repL _ _ _ f (((wr c (i * r.s + o) vs).toList.drop (j * r.s)).take r.s)
    rw [wr_slice hsz hit (by omega)]
    rw [List.getElem?_set] at hf
    by_cases hj : i = j
    · subst hj
      rw [if_pos rfl, if_pos hi] at hf
      cases hf
      rw [if_pos rfl]
      exact repL_splice (hat _ _ he) hv
    · rw [if_neg hj] at hf
      rw [if_neg (fun hh => hj hh.symm)]
      exact hat _ _ hf

theorem Stp.store {T : TypeId} {x y : Operand} {v : AV} {id gen s i o : Nat} {r : Row} {e : List AV} (hT : (K.P.info? T).map (·.size) = some v.cells.length) (hx : Ev K S x (.ptr id gen s i o)) (hy : Ev K S y v) (hf : v.fit = true)
    (hr : S.heap[id]? = some (some r)) (hg : r.gen = gen) (hss : r.s = s) (he : r.els[i]? = some e) (hl : o + v.cells.length ≤ e.length) (hd : d = none) :
    Stp K m S ⟨d, .store T x y, ty, pos, af, gd⟩ { S with heap := S.heap.set id (some { r with els := r.els.set i (splice e o v.cells) }) } := fun L a w hs => by
  subst hg hss hd
  obtain ⟨b, tot, hL, ex⟩ := hx L a w hs
  have hv := fit_cells hf (hy L a w hs)
  have hsg := fit_single hf (hy L a w hs)
  obtain ⟨c, cty, hc, hfit, u⟩ := upd_write hs.hs hr he hv hl hL
  have hs' := hs.upd u
  refine ⟨.skip, undef, _, _, ?_, .inr ⟨rfl, rfl⟩, hs', Ext.upd hs.hs u⟩
  have e1 := run_size (P := K.P) (w := w) hT
  have hvl := AV.repL_length hv
  have e2 := run_storeCells (P := K.P) (a.eval y).cells.toList w c (i * r.s + o) 0 hc (by omega) hsg
  generalize a.eval = ρ at *
  have e3 : (ρ y).cells.size = v.cells.length := by rw [hvl]; simp
  simp only [execOp, Instr.storeAt, ex, Instr.sureAddr, storeVar, Sem.run_bind, Sem.run_pure, Result.andThen_ok, e1, e3, ne_eq, not_true_eq_false, if_false, e2]
  rfl
end
end Go.Aw
namespace Go.Aw
open Go.RowKit

def EvL (K : Ctx) (S : St) : List Operand → List AV → Prop
  | [], [] => True
  | x :: xs, v :: vs => Ev K S x v ∧ EvL K S xs vs
  | _, _ => False

/-- Each value of one list of cells. -/
def elsOf (vs : List AV) : List (List AV) := vs.map AV.cells
/-- Frozen elements as elements. -/
def fz (xs : List (List FV)) : List (List AV) := xs.map (·.map .f)

section
variable {w : World} {X : Nat → Prop} {L : Link}
theorem FV.repCells_of : ∀ {cs : List FV} {vs : List Value} {b off : Nat}, AV.repL w X L (cs.map .f) vs → (∀ k y, vs[k]? = some y → w.cell? ⟨b, off + k, none⟩ = some y) → FV.repCells w X cs b off
  | [], [], _, _, _, _ => trivial
  | c :: cs, y0 :: vs, b, off, h, hc => ⟨⟨y0, by simpa using hc 0 y0 rfl, h.1⟩, FV.repCells_of h.2 fun k y hk => by
      have := hc (k + 1) y (by simpa using hk)
      rw [show off + 1 + k = off + (k + 1) from by omega]; exact this⟩
  | [], _ :: _, _, _, h, _ => h.elim
  | _ :: _, [], _, _, h, _ => h.elim
theorem FV.repEls_of : ∀ {xs : List (List FV)} {b off s : Nat}, (∀ i c, xs[i]? = some c → c.length = s ∧ FV.repCells w X c b (off + i * s)) → FV.repEls w X xs b off s
  | [], _, _, _, _ => trivial
  | c :: xs, b, off, s, h => ⟨(h 0 c rfl).1, by simpa using (h 0 c rfl).2, FV.repEls_of fun i e he => by
      have := h (i + 1) e (by simpa using he)
      rw [Nat.add_mul, Nat.one_mul, Nat.add_comm (i * s) s, ← Nat.add_assoc] at this; exact this⟩
end

theorem foldl_wr : ∀ (vs : List Value) (c : Array Value) (o k : Nat), ((vs.zipIdx k).foldl (fun cs p => cs.setIfInBounds (o + p.2) p.1) c) = wr c (o + k) vs
  | [], _, _, _ => rfl
  | v :: vs, c, o, k => by
    simp only [List.zipIdx_cons, List.foldl_cons, wr]
    rw [foldl_wr vs _ o (k + 1)]; rfl

def wrs (c : Array Value) (k s : Nat) : List Value → Array Value
  | [] => c
  | v :: vs => wrs (wr c (k * s) v.cells.toList) (k + 1) s vs
theorem wrs_size : ∀ (vs : List Value) (c : Array Value) (k s : Nat), (wrs c k s vs).size = c.size
  | [], _, _, _ => rfl
  | v :: vs, c, k, s => by rw [wrs, wrs_size vs, wr_size]

theorem fill_dense {s : Nat} : ∀ (vs : List Value) (k : Nat) (c : Array Value), (∀ v, v ∈ vs → v.cells.size = s) → (k + vs.length) * s ≤ c.size →
    Instr.fill (fun i => some (i * s, s)) c ((vs.zipIdx k).map fun p => (p.2, p.1)) = some (wrs c k s vs)
  | [], _, _, _, _ => rfl
  | v :: vs, k, c, hv, hl => by
    have h1 := hv v (by simp)
    simp only [List.length_cons] at hl
    have e : (k + (vs.length + 1)) * s = k * s + s + vs.length * s := by rw [Nat.add_mul, Nat.add_mul, Nat.one_mul]; omega
    have hle : k * s + s ≤ c.size := by omega
    simp only [List.zipIdx_cons, List.map_cons, Instr.fill, h1]
    rw [if_neg (by simp; omega)]
    have : (v.cells.zipIdx.foldl (fun cs x => match x with | (c, j) => cs.setIfInBounds (k * s + j) c) c) = wr c (k * s) v.cells.toList := by
      rw [← Array.foldl_toList, Array.toList_zipIdx]
      exact foldl_wr v.cells.toList c (k * s) 0
    rw [this, wrs]
    exact fill_dense vs (k + 1) _ (fun u hu => hv u (by simp [hu])) (by rw [wr_size, show k + 1 + vs.length = k + (vs.length + 1) from by omega]; exact hl)

theorem wrs_slice {s tot : Nat} : ∀ (vs : List Value) (k : Nat) (c : Array Value), c.size = tot * s → (∀ v, v ∈ vs → v.cells.size = s) → k + vs.length ≤ tot → ∀ j,
    ((wrs c k s vs).toList.drop (j * s)).take s = match (if k ≤ j then vs[j - k]? else none) with | some v => v.cells.toList | none => (c.toList.drop (j * s)).take s
  | [], k, c, _, _, _, j => by simp [wrs]
  | v :: vs, k, c, hc, hv, hl, j => by
    simp only [List.length_cons] at hl
    have h1 := hv v (by simp)
    rw [wrs, wrs_slice vs (k + 1) _ (by rw [wr_size]; exact hc) (fun u hu => hv u (by simp [hu])) (by omega)]
    have hw := wr_slice (vs := v.cells.toList) (o := 0) (i := k) (j := j) hc (by omega) (by simp [h1])
    rw [Nat.add_zero] at hw
    by_cases hj : k + 1 ≤ j
    · rw [if_pos hj, if_pos (by omega), show j - k = (j - (k + 1)) + 1 from by omega]
      simp only [List.getElem?_cons_succ]
      cases vs[j - (k + 1)]? with
      | some u => rfl
      | none => simp only; rw [hw, if_neg (by omega)]
    · rw [if_neg hj]
      simp only
      rw [hw]
      by_cases he : j = k
      · subst he
        rw [if_pos rfl, if_pos (Nat.le_refl _), Nat.sub_self]
        simp only [List.getElem?_cons_zero, splice, List.take_zero, List.nil_append, Nat.zero_add]
        rw [List.drop_eq_nil_of_le, List.append_nil]
        simp [h1]; omega
      · rw [if_neg he, if_neg (by omega)]

section
variable {K : Ctx} {m : Nat} {S : St} {d : Option Nat} {ty : TypeId} {pos : String} {af : Array Edge} {gd : Option (Nat × Bool)}

theorem EvL.rep {L : Link} {a : Act} {w : World} (hs : Sim K L S a w) : ∀ {xs : List Operand} {vs : List AV}, EvL K S xs vs → AV.repL w (Bar K S.heap L) L vs (xs.map a.eval)
  | [], [], _ => trivial
  | _ :: _, _ :: _, h => ⟨h.1 _ _ _ hs, EvL.rep hs h.2⟩
  | [], _ :: _, h => h.elim
  | _ :: _, [], h => h.elim

theorem Sim.heap_same {L : Link} {a : Act} {w w' : World} (hs : Sim K L S a w) (h : w'.heap = w.heap) (ho : w'.os = w.os) (ht : w'.tape = w.tape) (hu : w'.output = w.output) : Sim K L S a w' := by
  have st : ∀ X, Stays X w w' := fun X => ⟨by rw [h]; exact Nat.le_refl _, fun b _ _ => by rw [h]⟩
  refine ⟨⟨?_, hs.hs.inj, hs.hs.later, hs.hs.past, fun b hb => by rw [h]; exact hs.hs.foreign b hb⟩, hs.base.trans ⟨ho, ht, hu, by rw [h]; exact Nat.le_refl _, fun k _ => by rw [h]⟩, by rw [h]; exact hs.big,
    fun t x hx => AV.rep_stays (st _) (fun _ _ h => h) (fun _ _ _ h => h) (hs.slots t x hx), hs.size, hs.defers⟩
  intro id r hr
  obtain ⟨b, tot, c, e, h1, h2, h3, h4, h5, h6, h7⟩ := hs.hs.live id r hr
  exact ⟨b, tot, c, e, h1, h2, h3, by rw [h]; exact h4, h5, h6, fun i e he => AV.repL_stays (st _) (fun _ _ h => h) (fun _ _ _ h => h) (h7 i e he)⟩
theorem Ext.heap_same {L : Link} {h : Heap} {w w' : World} (e : w'.heap = w.heap) : Ext K m h L w h L w' :=
  ⟨fun _ _ _ _ h => h, ⟨by rw [e]; exact Nat.le_refl _, fun b _ _ => by rw [e]⟩, fun _ _ h => h⟩

theorem cells_each {w : World} {X : Nat → Prop} {L : Link} {s : Nat} : ∀ {vs : List AV} {ys : List Value}, AV.repL w X L vs ys → (∀ v, v ∈ vs → v.fit = true ∧ v.cells.length = s) → (∀ y : Value, y ∈ ys → y.cells.size = s) ∧ ∀ (i : Nat) (v : AV), vs[i]? = some v → ∃ y : Value, ys[i]? = some y ∧ AV.repL w X L (AV.cells v) y.cells.toList
  | [], [], _, _ => ⟨fun y hy => by simp at hy, fun i v h => by simp at h⟩
  | v :: vs, y :: ys, h, hv => by
    have h1 := fit_cells (hv v (by simp)).1 h.1
    obtain ⟨h2, h3⟩ := cells_each h.2 (fun u hu => hv u (by simp [hu]))
    refine ⟨?_, ?_⟩
    · intro u hu
      simp at hu
      rcases hu with rfl | hu
      · have := AV.repL_length h1; rw [(hv v (by simp)).2] at this; simpa using this.symm
      · exact h2 u hu
    · intro i u hi
      cases i with
      | zero => simp at hi; subst hi; exact ⟨y, rfl, h1⟩
      | succ i => simpa using h3 i u (by simpa using hi)
  | [], _ :: _, h, _ => h.elim
  | _ :: _, [], h, _ => h.elim

theorem run_zero {P : Program} {w : World} {T : TypeId} {z : Value} (hz : (P.info? T).map (·.zero) = some (some z)) : (zeroValue T).run P w = .ok z w := by
  cases hi : P.info? T with
  | none => rw [hi] at hz; simp at hz
  | some i => rw [hi] at hz; simp at hz; simp [zeroValue, typeInfo, hi, hz, go_sem]

/-- The cells of a slice that is built. -/
theorem run_buildSlice {P : Program} {w : World} {T E : TypeId} {s : Nat} {z : Value} {vs : List Value} (hT : P.underlying T = some (.slice E)) (hE : (P.info? E).map (·.size) = some s) (hz : (P.info? E).map (·.zero) = some (some z))
    (hv : ∀ v, v ∈ vs → v.cells.size = s) (hl : vs.length * s ≤ 16777216) {ps : Array (Nat × Value)} (hps : ps.toList = vs.zipIdx.map fun p => (p.2, p.1)) :
    ∃ c : Array Value, c.size = vs.length * s ∧ (∀ i v, vs[i]? = some v → (c.toList.drop (i * s)).take s = v.cells.toList) ∧
      (Instr.buildSlice T vs.length ps).run P w = .ok (.slice (some ⟨w.heap.size, 0, none⟩) vs.length vs.length) { w with heap := w.heap.push (.cells c E) } := by
  have e1 := run_und (P := P) (w := w) hT
  have e2 := run_size (P := P) (w := w) hE
  have e3 := run_zero (P := P) (w := w) hz
  refine ⟨wrs ((Array.range (vs.length * s)).map fun i => (if vs.length * s = 0 then #[] else z.cells)[i % (if vs.length * s = 0 then (#[] : Array Value) else z.cells).size]!) 0 s vs, by rw [wrs_size]; simp, ?_, ?_⟩
  · intro i v hi
    rw [wrs_slice vs 0 _ (by simp; rfl) hv (by omega) i]
    simp [hi]
  · have hf := fill_dense (s := s) vs 0 ((Array.range (vs.length * s)).map fun i => (if vs.length * s = 0 then #[] else z.cells)[i % (if vs.length * s = 0 then (#[] : Array Value) else z.cells).size]!) hv (by simp)
    simp only [Instr.buildSlice, Sem.run_bind, e1, e2, Result.andThen_ok]
    rw [if_neg (by omega)]
    by_cases h0 : vs.length * s = 0
    · simp only [h0, if_true] at hf ⊢
      simp only [Sem.run_bind, Sem.run_pure, Result.andThen_ok, hps, hf, newRow, newObj, Sem.run]
    · simp only [h0, if_false] at hf ⊢
      simp only [Sem.run_bind, Sem.run_pure, e3, Result.andThen_ok, hps, hf, newRow, newObj, Sem.run]

theorem Stp.buildSlice {T E : TypeId} {n s : Nat} {z : Value} {ps : Array (Nat × Operand)} {xs : List Operand} {vs : List AV} (hT : K.P.underlying T = some (.slice E)) (hE : (K.P.info? E).map (·.size) = some s) (hz : (K.P.info? E).map (·.zero) = some (some z))
    (hps : ps.toList = xs.zipIdx.map fun p => (p.2, p.1)) (hn : xs.length = n) (hx : EvL K S xs vs) (hv : ∀ v, v ∈ vs → v.fit = true ∧ v.cells.length = s) (hl : n * s ≤ 16777216) (hd : dstOk d S.n = true) :
    Stp K m S ⟨d, .buildSlice T n ps, ty, pos, af, gd⟩ (({ S with heap := S.heap ++ [some ⟨0, s, elsOf vs⟩] } : St).putD d (.row S.heap.length 0 s 0 n)) := fun L a w hs => by
  have hR := EvL.rep hs hx
  have hlen := AV.repL_length hR
  obtain ⟨h1, h2⟩ := cells_each hR hv
  simp at hlen
  have hn' : (xs.map a.eval).length = n := by simpa using hn
  obtain ⟨c, hc, hcs, hrun⟩ := run_buildSlice (P := K.P) (w := w) (T := T) (vs := xs.map a.eval) (ps := ps.map fun p => (p.1, a.eval p.2)) hT hE hz h1 (by rw [hn']; exact hl) (by
    rw [Array.toList_map, hps]; simp [List.zipIdx_map])
  rw [hn'] at hrun hc
  have hp := hs.push (r := ⟨0, s, elsOf vs⟩) (c := c) (ty := E) (tot := n) hc (by simp [elsOf]; omega) (by
    intro i e he
    simp only [elsOf, List.getElem?_map] at he
    cases hvi : vs[i]? with
    | none => rw [hvi] at he; simp at he
    | some v =>
      rw [hvi] at he; simp at he; subst he
      obtain ⟨y, hy, hr⟩ := h2 i v hvi
      rw [hcs i y hy]; exact hr)
  refine ⟨.value (.slice (some ⟨w.heap.size, 0, none⟩) n n), _, _, _, ?_, .inl rfl, hp.putD (dst_ok hd) ⟨w.heap.size, n, by simp [Link.new], by simp, by omega⟩, ?_⟩
  · generalize a.eval = ρ at hrun
    simp only [execOp, Sem.run_bind, hrun, Result.andThen_ok, Sem.run_pure]
  · rw [putD_heap]; exact Ext.push hs.hs

/-- A slice that is built out of frozen values, and not written any more. -/
theorem Stp.buildFrozen {T E : TypeId} {n s : Nat} {z : Value} {ps : Array (Nat × Operand)} {xs : List Operand} {vs : List AV} {fs : List (List FV)} (hT : K.P.underlying T = some (.slice E)) (hE : (K.P.info? E).map (·.size) = some s) (hz : (K.P.info? E).map (·.zero) = some (some z))
    (hps : ps.toList = xs.zipIdx.map fun p => (p.2, p.1)) (hn : xs.length = n) (hx : EvL K S xs vs) (hv : ∀ v, v ∈ vs → v.fit = true ∧ v.cells.length = s) (hl : n * s ≤ 16777216) (hfs : elsOf vs = fz fs) (hd : dstOk d S.n = true) :
    Stp K m S ⟨d, .buildSlice T n ps, ty, pos, af, gd⟩ (S.putD d (.f (.lst s fs))) := fun L a w hs => by
  have hR := EvL.rep hs hx
  have hlen := AV.repL_length hR
  obtain ⟨h1, h2⟩ := cells_each hR hv
  simp at hlen
  have hn' : (xs.map a.eval).length = n := by simpa using hn
  obtain ⟨c, hc, hcs, hrun⟩ := run_buildSlice (P := K.P) (w := w) (T := T) (vs := xs.map a.eval) (ps := ps.map fun p => (p.1, a.eval p.2)) hT hE hz h1 (by rw [hn']; exact hl) (by
    rw [Array.toList_map, hps]; simp [List.zipIdx_map])
  rw [hn'] at hrun hc
  have hst := stays_push (Bar K S.heap L) w (.cells c E)
  have hfl : fs.length = n := by
    have := congrArg List.length hfs
    simp [elsOf, fz] at this; omega
  have hs' : Sim K L S a { w with heap := w.heap.push (.cells c E) } := by
    refine ⟨⟨?_, hs.hs.inj, hs.hs.later, hs.hs.past, fun b hb => Nat.lt_of_lt_of_le (hs.hs.foreign b hb) hst.size⟩, Below.push hs.base hs.big _, Nat.le_trans hs.big (by simp), fun t x hx => AV.rep_stays hst (fun _ _ h => h) (fun _ _ _ h => h) (hs.slots t x hx), hs.size, hs.defers⟩
    intro id r hr
    obtain ⟨b, tot, c', e, h1, h2, h3, h4, h5, h6, h7⟩ := hs.hs.live id r hr
    refine ⟨b, tot, c', e, h1, h2, h3, ?_, h5, h6, fun i e he => AV.repL_stays hst (fun _ _ h => h) (fun _ _ _ h => h) (h7 i e he)⟩
    show (w.heap.push _)[b]? = _
    rw [Array.getElem?_push, if_neg]
    · exact h4
    · intro he; subst he; rw [Array.getElem?_eq_none (Nat.le_refl _)] at h4; simp at h4
  refine ⟨.value (.slice (some ⟨w.heap.size, 0, none⟩) n n), _, _, L, ?_, .inl rfl, hs'.putD (dst_ok hd) ?_, ?_⟩
  · generalize a.eval = ρ at hrun
    simp only [execOp, Sem.run_bind, hrun, Result.andThen_ok, Sem.run_pure]
  · refine ⟨some ⟨w.heap.size, 0, none⟩, n, by rw [hfl], by omega, .inr ⟨w.heap.size, 0, rfl, by simp, ?_, FV.repEls_of ?_⟩⟩
    · rintro (hx | ho)
      · exact Nat.lt_irrefl _ (hs.hs.foreign _ hx)
      · exact Nat.lt_irrefl _ (own_lt hs.hs ho)
    · intro i f hf
      have hv' : ∃ v, vs[i]? = some v ∧ v.cells = f.map .f := by
        have := congrArg (fun l => l[i]?) hfs
        simp only [elsOf, fz, List.getElem?_map, hf, Option.map_some] at this
        cases hvi : vs[i]? with
        | none => rw [hvi] at this; simp at this
        | some v => rw [hvi] at this; simp at this; exact ⟨v, rfl, this⟩
      obtain ⟨v, hvi, hvf⟩ := hv'
      obtain ⟨y, hy, hr⟩ := h2 i v hvi
      have hfs' : f.length = s := by
        have := (hv v (List.mem_of_getElem? hvi)).2
        rw [hvf] at this; simpa using this
      refine ⟨hfs', FV.repCells_of (L := L) (vs := y.cells.toList) ?_ ?_⟩
      · rw [← hvf]; exact AV.repL_stays hst (fun _ _ h => h) (fun _ _ _ h => h) hr
      · intro k u hk
        have := hcs i y hy
        rw [← this, List.getElem?_take] at hk
        split at hk
        · rw [List.getElem?_drop] at hk
          rw [Nat.zero_add, cell_block (c := c) (e := E) (fr := (0, 0)) (by simp)]
          simpa using hk
        · simp at hk
  · rw [putD_heap]
    exact ⟨fun _ _ _ _ h => h, stays_push _ _ _, fun _ _ h => h⟩
end
end Go.Aw
namespace Go.Aw
open Go.RowKit

/-- The elements of what is appended. -/
def Arg (K : Ctx) (S : St) (x : Operand) (s : Nat) (els : List (List AV)) : Prop :=
  ∀ L a w, Sim K L S a w → ∃ c : Array Value, c.size = els.length * s ∧ single c.toList ∧ (∀ i e, els[i]? = some e → AV.repL w (Bar K S.heap L) L e ((c.toList.drop (i * s)).take s)) ∧
    (∀ w', w'.heap = w.heap → (Builtin.lenOf (a.eval x)).run K.P w' = .ok els.length w' ∧ (Builtin.firstCells s els.length (a.eval x)).run K.P w' = .ok c w')

theorem growBy_le (n : Nat) : ∀ (k c : Nat), c ≤ n → Builtin.growBy n k c ≤ 2 * n + 1000
  | 0, c, h => by simp [Builtin.growBy]; omega
  | k + 1, c, h => by
    simp only [Builtin.growBy]
    split
    · omega
    · by_cases hh : c + (c + 768) / 4 ≤ n
      · exact growBy_le n k _ hh
      · cases k with
        | zero => simp [Builtin.growBy]; omega
        | succ k => simp only [Builtin.growBy]; rw [if_pos (by omega)]; omega
theorem nextcap_le {n c : Nat} (h : c < n) : Builtin.nextslicecap n c ≤ 2 * n + 1000 := by
  unfold Builtin.nextslicecap
  split
  · omega
  · split
    · omega
    · exact growBy_le n 4 c (by omega)

section
variable {w : World}
theorem single_all : ∀ {vs : List Value}, single vs ↔ ∀ v, v ∈ vs → (∀ cs, v ≠ .agg cs) ∧ ∀ cs, v ≠ .tuple cs
  | [] => by simp [single]
  | v :: vs => by simp only [single, List.mem_cons, forall_eq_or_imp, single_all (vs := vs)]; exact ⟨fun h => ⟨⟨h.1, h.2.1⟩, h.2.2⟩, fun h => ⟨h.1.1, h.1.2, h.2⟩⟩
end

theorem chunk_mem {l : List Value} {n s : Nat} (hl : l.length = n * s) {v : Value} (hv : v ∈ l) : ∃ i, i < n ∧ v ∈ (l.drop (i * s)).take s := by
  obtain ⟨k, hk, rfl⟩ := List.mem_iff_getElem.1 hv
  have hs : 0 < s := by
    rcases Nat.eq_zero_or_pos s with rfl | h
    · simp at hl; subst hl; simp at hk
    · exact h
  refine ⟨k / s, by rw [Nat.div_lt_iff_lt_mul hs]; omega, ?_⟩
  rw [List.mem_iff_getElem?]
  refine ⟨k % s, ?_⟩
  rw [List.getElem?_take, if_pos (Nat.mod_lt _ hs), List.getElem?_drop, Nat.div_add_mod' k s]
  simp [hk]

section
variable {K : Ctx} {m : Nat} {S : St} {d : Option Nat} {ty : TypeId} {pos : String} {af : Array Edge} {gd : Option (Nat × Bool)}

theorem single_chunks {w : World} {X : Nat → Prop} {L : Link} {s : Nat} {c : Array Value} {els : List (List AV)} (hc : c.size = els.length * s) (h : ∀ i e, els[i]? = some e → AV.repL w X L e ((c.toList.drop (i * s)).take s)) (ho : ∀ e, e ∈ els → e.all AV.one = true) : single c.toList := by
  rw [single_all]
  intro v hv
  obtain ⟨i, hi, hm⟩ := chunk_mem (n := els.length) (s := s) (by simpa using hc) hv
  have he : els[i]? = some els[i] := by simp [hi]
  exact single_all.1 (repL_single (ho _ (List.getElem_mem hi)) (h i _ he)) v hm

theorem Arg.lst {x : Operand} {s : Nat} {xs : List (List FV)} (hx : Ev K S x (.f (.lst s xs))) (ho : ∀ e, e ∈ fz xs → e.all AV.one = true) : Arg K S x s (fz xs) := fun L a w hs => by
  obtain ⟨ad, cap, e, _, h⟩ := hx L a w hs
  rcases h with h | ⟨b, off, rfl, hb, hX, hr⟩
  · subst h
    refine ⟨#[], by simp [fz], trivial, fun i e he => by simp [fz] at he, fun w' hw' => ⟨by rw [e]; rfl, ?_⟩⟩
    rw [e]
    cases ad with
    | none => rfl
    | some ad => simp [fz, Builtin.firstCells, loadCells, loadCellsFrom]
  · have hall : ∀ i c, xs[i]? = some c → ∃ vs : List Value, vs.length = s ∧ (∀ k y, vs[k]? = some y → w.cell? ⟨b, off + i * s + k, none⟩ = some y) ∧ AV.repL w (Bar K S.heap L) L (c.map .f) vs := by
      intro i c hi
      obtain ⟨h1, h2⟩ := FV.repEls_at hr hi
      obtain ⟨vs, h3, h4, h5⟩ := FV.repCells_list (L := L) h2
      exact ⟨vs, by omega, h4, h5⟩
    have hflat : ∀ (n : Nat), n ≤ xs.length → ∃ vs : List Value, vs.length = n * s ∧ (∀ k y, vs[k]? = some y → w.cell? ⟨b, off + k, none⟩ = some y) ∧ ∀ i c, i < n → xs[i]? = some c → AV.repL w (Bar K S.heap L) L (c.map .f) ((vs.drop (i * s)).take s) := by
      intro n
      induction n with
      | zero => exact fun _ => ⟨[], by simp, fun k y h => by simp at h, fun i c h => by omega⟩
      | succ n ih =>
        intro hn
        obtain ⟨vs, h1, h2, h3⟩ := ih (by omega)
        have hi : xs[n]? = some xs[n] := by simp [show n < xs.length by omega]
        obtain ⟨us, h4, h5, h6⟩ := hall n _ hi
        refine ⟨vs ++ us, by rw [List.length_append, h1, h4, Nat.succ_mul], ?_, ?_⟩
        · intro k y hk
          by_cases hlt : k < vs.length
          · rw [List.getElem?_append_left hlt] at hk; exact h2 k y hk
          · rw [List.getElem?_append_right (by omega)] at hk
            have := h5 _ _ hk
            rw [show off + k = off + n * s + (k - vs.length) from by omega]; exact this
        · intro i c hlt hc
          by_cases he : i = n
          · subst he
            rw [hi] at hc; cases hc
            rw [List.drop_append_of_le_length (by omega), List.drop_eq_nil_of_le (by omega), List.nil_append, List.take_of_length_le (by omega)]; exact h6
          · have hle : i * s + s ≤ n * s := by
              have := Nat.mul_le_mul_right s (Nat.succ_le_of_lt (show i < n by omega))
              rw [Nat.succ_mul] at this; exact this
            rw [List.drop_append_of_le_length (by omega), List.take_append_of_le_length (by rw [List.length_drop]; omega)]
            exact h3 i c (by omega) hc
    obtain ⟨vs, h1, h2, h3⟩ := hflat xs.length (Nat.le_refl _)
    have hch : ∀ i e, (fz xs)[i]? = some e → AV.repL w (Bar K S.heap L) L e ((vs.toArray.toList.drop (i * s)).take s) := by
      intro i e he
      simp only [fz, List.getElem?_map] at he
      cases hi : xs[i]? with
      | none => rw [hi] at he; simp at he
      | some c => rw [hi] at he; simp at he; subst he; exact h3 i c (List.getElem?_eq_some_iff.1 hi).1 hi
    refine ⟨vs.toArray, by simp [fz, h1], single_chunks (by simp [fz, h1]) hch ho, hch, fun w' hw' => ⟨by rw [e]; simp [fz, Builtin.lenOf], ?_⟩⟩
    rw [e]
    have : (fz xs).length * s = vs.length := by simp [fz, h1]
    simp only [Builtin.firstCells, this]
    exact run_loadCells (fun k y hk => by
      have := h2 k y hk
      unfold World.cell? at this ⊢; rw [hw']; exact this)

theorem Arg.nil {x : Operand} {s : Nat} (hx : Ev K S x .nil) : Arg K S x s [] := fun L a w hs => by
  have e : a.eval x = .slice none 0 0 := hx L a w hs
  exact ⟨#[], by simp, trivial, fun i e he => by simp at he, fun w' hw' => ⟨by rw [e]; rfl, by rw [e]; rfl⟩⟩

theorem Arg.row {x : Operand} {id gen s i n : Nat} {r : Row} (hx : Ev K S x (.row id gen s i n)) (hr : S.heap[id]? = some (some r)) (hg : r.gen = gen) (hss : r.s = s) (hl : i + n ≤ r.els.length) (ho : ∀ e, e ∈ r.els → e.all AV.one = true) :
    Arg K S x s ((r.els.drop i).take n) := fun L a w hs => by
  subst hg hss
  obtain ⟨b, tot, hL, e, hit⟩ := hx L a w hs
  obtain ⟨b', tot', c, cty, hL', hN, hX, hc, hsz, hlen, hat⟩ := hs.hs.live id r hr
  rw [hL] at hL'; cases hL'
  have hle : i * r.s + n * r.s ≤ tot * r.s := by rw [← Nat.add_mul]; exact Nat.mul_le_mul_right _ (by omega)
  have hcl : ((c.toList.drop (i * r.s)).take (n * r.s)).length = n * r.s := by simp; omega
  have hch : ∀ j e, ((r.els.drop i).take n)[j]? = some e → AV.repL w (Bar K S.heap L) L e (((((c.toList.drop (i * r.s)).take (n * r.s)).toArray).toList.drop (j * r.s)).take r.s) := by
    intro j e he
    rw [List.getElem?_take] at he
    split at he
    · rename_i hj
      rw [List.getElem?_drop] at he
      have h1 := hat _ _ he
      have h2 : j * r.s + r.s ≤ n * r.s := by
        have := Nat.mul_le_mul_right r.s (Nat.succ_le_of_lt hj)
        rw [Nat.succ_mul] at this; exact this
      simp only [List.drop_take, List.drop_drop, List.take_take]
      rw [Nat.min_eq_left (by omega), ← Nat.add_mul]; exact h1
    · simp at he
  have hsize : (((c.toList.drop (i * r.s)).take (n * r.s)).toArray).size = ((r.els.drop i).take n).length * r.s := by
    simp only [List.size_toArray, hcl, List.length_take, List.length_drop]; rw [Nat.min_eq_left (by omega)]
  refine ⟨((c.toList.drop (i * r.s)).take (n * r.s)).toArray, hsize, single_chunks hsize hch (fun e he => ho e (List.mem_of_mem_drop (List.mem_of_mem_take he))), hch, fun w' hw' => ⟨by rw [e]; simp [Builtin.lenOf]; omega, ?_⟩⟩
  rw [e]
  have hn : ((r.els.drop i).take n).length = n := by simp; omega
  simp only [Builtin.firstCells, hn]
  have hld := run_loadCells (P := K.P) (w := w') (b := b) (off := i * r.s) (vs := (c.toList.drop (i * r.s)).take (n * r.s)) ?_
  · rw [hcl] at hld; exact hld
  intro k y hk
  rw [List.getElem?_take] at hk
  split at hk
  · rw [List.getElem?_drop] at hk
    rw [cell_block (w := w') (c := c) (e := cty) (fr := (0, 0)) (by rw [hw']; exact hc)]; simpa using hk
  · simp at hk

theorem run_info {P : Program} {w : World} {T : TypeId} {n : Nat} (h : (P.info? T).map (·.bytes) = some n) : ∃ i, i.bytes = n ∧ (typeInfo T).run P w = .ok i w := by
  cases hi : P.info? T with
  | none => rw [hi] at h; simp at h
  | some i => rw [hi] at h; simp at h; exact ⟨i, h, by simp [typeInfo, hi, go_sem]⟩

/-- What the types of an append say. -/
structure AppT (P : Program) (T T' E : TypeId) (s bytes : Nat) (z : Value) : Prop where
  slice : P.underlying T = some (.slice E)
  arg : ∃ D, P.underlying T' = some D ∧ ∀ k, D ≠ .int k
  size : (P.info? E).map (·.size) = some s
  bts : (P.info? E).map (·.bytes) = some bytes
  zero : (P.info? E).map (·.zero) = some (some z)
  cells : z.cells.size = s
  pos : 0 < bytes

theorem run_append_fit {P : Program} {w w1 : World} {T T' E ty : TypeId} {s bytes len n cap : Nat} {z : Value} {base : Option Addr} {x : Value} {c : Array Value} (ht : AppT P T T' E s bytes z)
    (hx : ∀ w', w'.heap = w.heap → (Builtin.lenOf x).run P w' = .ok n w' ∧ (Builtin.firstCells s n x).run P w' = .ok c w') (hfit : len + n ≤ cap)
    (hst : (match base with | some a => storeCells (a.add (len * s)) c.toList | none => pure ()).run P w = .ok () w1) :
    (Builtin.append_ #[T, T'] ty #[.slice base len cap, x]).run P w = .ok (.slice base (len + n) cap) w1 := by
  obtain ⟨D, hD, hDk⟩ := ht.arg
  have e1 := run_und (P := P) (w := w) ht.slice
  have e2 := run_und (P := P) (w := w) hD
  have e3 := run_size (P := P) (w := w) ht.size
  obtain ⟨h1, h2⟩ := hx w rfl
  unfold Builtin.append_
  simp only [List.getElem?_toArray, List.getElem?_cons_zero, List.getElem?_cons_succ, Sem.run_bind, e1, e2, e3, Result.andThen_ok, Sem.run_pure]
  simp only [Bool.false_eq_true, if_false, Sem.run_bind, h1, Result.andThen_ok, Bool.not_false, if_true]
  rw [if_pos hfit]
  simp only [Sem.run_bind, h2, Result.andThen_ok]
  cases base with
  | none => simp only [Sem.run_pure] at hst ⊢; cases hst; rfl
  | some a => simp only [Sem.run_bind] at hst ⊢; rw [hst]; rfl

theorem run_append_grow {P : Program} {w : World} {T T' E ty : TypeId} {s bytes len n cap : Nat} {z : Value} {base : Option Addr} {x : Value} {c c0 : Array Value} (ht : AppT P T T' E s bytes z)
    (hx : ∀ w', w'.heap = w.heap → (Builtin.lenOf x).run P w' = .ok n w' ∧ (Builtin.firstCells s n x).run P w' = .ok c w') (hfit : cap < len + n)
    (hold : ∀ w', w'.heap = w.heap → (Builtin.firstCells s len (.slice base len cap)).run P w' = .ok c0 w') (hroom : (2 * (len + n) + 1000) * bytes ≤ 281474976710656) :
    ∃ newCap w', len + n ≤ newCap ∧ w'.heap = w.heap.push (.cells (c0 ++ c ++ Builtin.zeroCells z.cells (newCap - (len + n))) E) ∧ w'.os = w.os ∧ w'.tape = w.tape ∧ w'.output = w.output ∧
      (Builtin.append_ #[T, T'] ty #[.slice base len cap, x]).run P w = .ok (.slice (some ⟨w.heap.size, 0, none⟩) (len + n) newCap) w' := by
  obtain ⟨D, hD, hDk⟩ := ht.arg
  have e1 := run_und (P := P) (w := w) ht.slice
  have e2 := run_und (P := P) (w := w) hD
  have e3 := run_size (P := P) (w := w) ht.size
  obtain ⟨h1, _⟩ := hx w rfl
  obtain ⟨inf, hib, hi⟩ := run_info (P := P) (w := w) ht.bts
  have hnc := nextcap_le hfit
  have hb1 : ¬ (Builtin.nextslicecap (len + n) cap * inf.bytes > 2 ^ 48) := by
    rw [hib]
    have : Builtin.nextslicecap (len + n) cap * bytes ≤ (2 * (len + n) + 1000) * bytes := Nat.mul_le_mul_right _ hnc
    omega
  refine ⟨(Question.appendCap (len + n) cap E).cut (w.tape w.drawn (.appendCap (len + n) cap E)), { w with drawn := w.drawn + 1, heap := _ }, ?_, rfl, rfl, rfl, rfl, ?_⟩
  · simp only [Question.cut]; omega
  · generalize hnew : (Question.appendCap (len + n) cap E).cut (w.tape w.drawn (.appendCap (len + n) cap E)) = newCap
    have hch : (choose (.appendCap (len + n) cap E)).run P w = .ok newCap { w with drawn := w.drawn + 1 } := by
      simp only [choose, Sem.run, Question.forced, Bool.false_eq_true, if_false, hnew]
    obtain ⟨inf', hib', hi'⟩ := run_info (P := P) (w := { w with drawn := w.drawn + 1 }) ht.bts
    have hroom' : ∀ q, (askRoom q).run P { w with drawn := w.drawn + 1 } = .ok () { w with drawn := w.drawn + 1 } := by
      intro q; unfold askRoom; split
      · simp only [mark, Sem.run]
      · rfl
    have h2 := (hx { w with drawn := w.drawn + 1 } rfl).2
    have h3 := hold { w with drawn := w.drawn + 1 } rfl
    have e4 := run_zero (P := P) (w := { w with drawn := w.drawn + 1 }) ht.zero
    unfold Builtin.append_
    simp only [List.getElem?_toArray, List.getElem?_cons_zero, List.getElem?_cons_succ, Sem.run_bind, e1, e2, e3, Result.andThen_ok, Sem.run_pure]
    simp only [Bool.false_eq_true, if_false, Sem.run_bind, h1, Result.andThen_ok, Bool.not_false, if_true]
    rw [if_neg (by omega)]
    simp only [Sem.run_bind, hi, Result.andThen_ok, false_or]
    rw [if_neg (by rw [hib]; have := ht.pos; omega)]
    simp only [Sem.run_bind, Sem.run_pure, hi, Result.andThen_ok]
    rw [if_neg hb1]
    simp only [Sem.run_bind, Sem.run_pure, hch, hi', hroom', h2, h3, e4, Result.andThen_ok, newRow, newObj, Sem.run]
    rfl

theorem zeroCells_size (z : Array Value) (n : Nat) : (Builtin.zeroCells z n).size = n * z.size := by simp [Builtin.zeroCells]

theorem Stp.append {T T' E : TypeId} {s bytes : Nat} {z : Value} {x y : Operand} {id gen len : Nat} {r : Row} {els : List (List AV)} (ht : AppT K.P T T' E s bytes z) (hx : Ev K S x (.row id gen s 0 len)) (hr : S.heap[id]? = some (some r)) (hg : r.gen = gen) (hss : r.s = s)
    (hlen : r.els.length = len) (hy : Arg K S y s els) (hroom : (2 * (len + els.length) + 1000) * bytes ≤ 281474976710656) (hd : dstOk d S.n = true) :
    Stp K m S ⟨d, .call ⟨.builtin .append, #[x, y], #[T, T']⟩, ty, pos, af, gd⟩ (({ S with heap := S.heap.set id (some ⟨gen + 1, s, r.els ++ els⟩) } : St).putD d (.row id (gen + 1) s 0 (len + els.length))) := fun L a w hs => by
  subst hg hss hlen
  obtain ⟨b, tot, hL, ex, hit⟩ := hx L a w hs
  obtain ⟨b', tot', c0, cty, hL', hN, hX, hc0, hsz, hle, hat⟩ := hs.hs.live id r hr
  rw [hL] at hL'; cases hL'
  obtain ⟨c, hcs, hsg, hce, hcr⟩ := hy L a w hs
  have hb := (Array.getElem?_eq_some_iff.1 hc0).1
  rw [Nat.zero_mul, Nat.sub_zero] at ex
  have hmul : r.els.length * r.s ≤ tot * r.s := Nat.mul_le_mul_right _ hle
  by_cases hfit : r.els.length + els.length ≤ tot
  · -- in place
    have hmul2 : r.els.length * r.s + els.length * r.s ≤ tot * r.s := by rw [← Nat.add_mul]; exact Nat.mul_le_mul_right _ hfit
    have hst := run_storeCells (P := K.P) c.toList w c0 (r.els.length * r.s) 0 hc0 (by simp [hcs]; omega) hsg
    have hrun := run_append_fit (w := w) (T := T) (T' := T') (ty := ty) (base := some ⟨b, 0, none⟩) (len := r.els.length) (cap := tot) ht hcr hfit (w1 := setBlk w b (wr c0 (r.els.length * r.s) c.toList) cty) (by
      simp only [add_at, Nat.zero_add]; exact hst)
    have u : Upd K L S.heap w id r ⟨r.gen + 1, r.s, r.els ++ els⟩ b tot b tot (setBlk w b (wr c0 (r.els.length * r.s) c.toList) cty) := by
      refine ⟨hr, hL, .inr rfl, .inl ⟨rfl, rfl⟩, by simp [setBlk], ?_, ⟨_, cty, setBlk_get hb, by rw [wr_size]; exact hsz, ?_⟩, by simpa using hfit, ⟨rfl, rfl, rfl⟩⟩
      · intro k hk hne
        simp only [setBlk, Array.getElem?_setIfInBounds]
        rw [if_neg (fun hh => hne hh.symm)]
      · intro j e he
        have hw := wr_get c.toList c0 (r.els.length * r.s)
        have hcl : c.toList.length = els.length * r.s := by simp [hcs]
        show AV.repL _ _ _ e (((wr c0 (r.els.length * r.s) c.toList).toList.drop (j * r.s)).take r.s)
        by_cases hj : j < r.els.length
        · rw [List.getElem?_append_left hj] at he
          have hjs : j * r.s + r.s ≤ r.els.length * r.s := by
            have := Nat.mul_le_mul_right r.s (Nat.succ_le_of_lt hj)
            rw [Nat.succ_mul] at this; exact this
          have : ((wr c0 (r.els.length * r.s) c.toList).toList.drop (j * r.s)).take r.s = (c0.toList.drop (j * r.s)).take r.s := by
            apply List.ext_getElem?
            intro k
            rw [List.getElem?_take, List.getElem?_take]
            split
            · rw [List.getElem?_drop, List.getElem?_drop, Array.getElem?_toList, Array.getElem?_toList, hw _ (by omega), if_neg (by omega)]
            · rfl
          rw [this]; exact hat j e he
        · rw [List.getElem?_append_right (by omega)] at he
          have hjn : j - r.els.length < els.length := (List.getElem?_eq_some_iff.1 he).1
          have hjs : (j - r.els.length) * r.s + r.s ≤ els.length * r.s := by
            have := Nat.mul_le_mul_right r.s (Nat.succ_le_of_lt hjn)
            rw [Nat.succ_mul] at this; exact this
          have hjm : j * r.s = r.els.length * r.s + (j - r.els.length) * r.s := by rw [← Nat.add_mul]; congr 1; omega
          have : ((wr c0 (r.els.length * r.s) c.toList).toList.drop (j * r.s)).take r.s = (c.toList.drop ((j - r.els.length) * r.s)).take r.s := by
            apply List.ext_getElem?
            intro k
            rw [List.getElem?_take, List.getElem?_take]
            split
            · rw [List.getElem?_drop, List.getElem?_drop, Array.getElem?_toList, hw _ (by omega), if_pos (by omega)]
              congr 1; omega
            · rfl
          rw [this]; exact hce _ e he
    refine ⟨.value (.slice (some ⟨b, 0, none⟩) (r.els.length + els.length) tot), _, _, _, ?_, .inl rfl, (hs.upd u).putD (dst_ok hd) ⟨b, tot, by simp [Link.new], by simp, by omega⟩, ?_⟩
    · refine run_call ?_
      generalize a.eval = ρ at *
      simp only [builtin, List.map_toArray, List.map_cons, List.map_nil, ex, Sem.run_bind, hrun, Result.andThen_ok, Sem.run_pure]
    · rw [putD_heap]; exact Ext.upd hs.hs u
  · -- it moves
    have hold : ∀ w', w'.heap = w.heap → (Builtin.firstCells r.s r.els.length (.slice (some ⟨b, 0, none⟩) r.els.length tot)).run K.P w' = .ok (c0.toList.take (r.els.length * r.s)).toArray w' := by
      intro w' hw'
      have hl : (c0.toList.take (r.els.length * r.s)).length = r.els.length * r.s := by simp; omega
      have hld := run_loadCells (P := K.P) (w := w') (b := b) (off := 0) (vs := c0.toList.take (r.els.length * r.s)) (fun k y hk => by
        rw [List.getElem?_take] at hk
        split at hk
        · rw [cell_block (w := w') (c := c0) (e := cty) (fr := (0, 0)) (by rw [hw']; exact hc0)]; simpa using hk
        · simp at hk)
      rw [hl] at hld; exact hld
    obtain ⟨newCap, w', hnc, hheap, ho, htp, hou, hrun⟩ := run_append_grow (w := w) (T := T) (T' := T') (ty := ty) (base := some ⟨b, 0, none⟩) (len := r.els.length) (cap := tot) ht hcr (by omega) hold hroom
    have hol : (c0.toList.take (r.els.length * r.s)).length = r.els.length * r.s := by simp; omega
    have u : Upd K L S.heap w id r ⟨r.gen + 1, r.s, r.els ++ els⟩ b tot w.heap.size newCap w' := by
      refine ⟨hr, hL, .inr rfl, .inr ⟨rfl, rfl⟩, by rw [hheap]; simp, ?_, ⟨_, E, by rw [hheap]; simp; rfl, ?_, ?_⟩, by simpa using hnc, ⟨ho, htp, hou⟩⟩
      · intro k hk hne
        rw [hheap, Array.getElem?_push, if_neg (by omega)]
      · simp only [Array.size_append, List.size_toArray, hol, hcs, zeroCells_size, ht.cells]
        rw [← Nat.add_mul, ← Nat.add_mul]; congr 1; omega
      · intro j e he
        simp only [Array.toList_append, List.append_assoc]
        by_cases hj : j < r.els.length
        · rw [List.getElem?_append_left hj] at he
          have hjs : j * r.s + r.s ≤ r.els.length * r.s := by
            have := Nat.mul_le_mul_right r.s (Nat.succ_le_of_lt hj)
            rw [Nat.succ_mul] at this; exact this
          rw [List.drop_append_of_le_length (by omega), List.take_append_of_le_length (by rw [List.length_drop]; omega), List.drop_take, List.take_take, Nat.min_eq_left (by omega)]
          exact hat j e he
        · rw [List.getElem?_append_right (by omega)] at he
          have hjn : j - r.els.length < els.length := (List.getElem?_eq_some_iff.1 he).1
          have hjs : (j - r.els.length) * r.s + r.s ≤ els.length * r.s := by
            have := Nat.mul_le_mul_right r.s (Nat.succ_le_of_lt hjn)
            rw [Nat.succ_mul] at this; exact this
          have hjm : j * r.s = r.els.length * r.s + (j - r.els.length) * r.s := by rw [← Nat.add_mul]; congr 1; omega
          have hcl : c.toList.length = els.length * r.s := by simp [hcs]
          rw [hjm, List.drop_append, List.drop_eq_nil_of_le (by omega), hol, Nat.add_sub_cancel_left, List.nil_append, List.drop_append_of_le_length (by omega), List.take_append_of_le_length (by rw [List.length_drop]; omega)]
          exact hce _ e he
    refine ⟨.value (.slice (some ⟨w.heap.size, 0, none⟩) (r.els.length + els.length) newCap), _, _, _, ?_, .inl rfl, (hs.upd u).putD (dst_ok hd) ⟨w.heap.size, newCap, by simp [Link.new], by simp, by omega⟩, ?_⟩
    · refine run_call ?_
      generalize a.eval = ρ at *
      simp only [builtin, List.map_toArray, List.map_cons, List.map_nil, ex, Sem.run_bind, hrun, Result.andThen_ok, Sem.run_pure]
    · rw [putD_heap]; exact Ext.upd hs.hs u

/-- append of nothing at the nil slice. -/
theorem Stp.appendNone {T T' E : TypeId} {s bytes : Nat} {z : Value} {x y : Operand} (ht : AppT K.P T T' E s bytes z) (hx : Ev K S x .nil) (hy : Arg K S y s []) (hd : dstOk d S.n = true) :
    Stp K m S ⟨d, .call ⟨.builtin .append, #[x, y], #[T, T']⟩, ty, pos, af, gd⟩ (S.putD d .nil) := fun L a w hs => by
  have ex : a.eval x = .slice none 0 0 := hx L a w hs
  obtain ⟨c, hcs, hsg, hce, hcr⟩ := hy L a w hs
  have hrun := run_append_fit (w := w) (w1 := w) (T := T) (T' := T') (ty := ty) (base := none) (len := 0) (cap := 0) ht hcr (by simp) rfl
  refine ⟨.value (.slice none 0 0), _, w, L, ?_, .inl rfl, hs.putD (dst_ok hd) rfl, by rw [putD_heap]; exact Ext.refl ..⟩
  refine run_call ?_
  generalize a.eval = ρ at *
  simp only [builtin, List.map_toArray, List.map_cons, List.map_nil, ex, Sem.run_bind, hrun, Result.andThen_ok, Sem.run_pure]
  rfl
end
end Go.Aw
namespace Go.Aw
open Go.RowKit

/-! ### Values that lead to live rows alone -/
/-- The row is live. -/
def Heap.has (h : Heap) (id : Nat) : Bool := (h[id]?.join).isSome

mutual
def AV.lo (k : Heap) : AV → Bool
  | .any | .f _ => true
  | .agg cs => AV.loL k cs
  | .ptr id _ _ _ _ => Heap.has k id
  | .row id _ _ _ _ => Heap.has k id
  | .tup cs => AV.loL k cs
  | .fn _ caps => AV.loL k caps
  | .opt _ x => x.lo k
def AV.loL (k : Heap) : List AV → Bool
  | [] => true
  | x :: xs => x.lo k && AV.loL k xs
end
/-- The links of the live rows alone. -/
def Link.cut (L : Link) (k : Heap) : Link := fun id g => if Heap.has k id = true then L id g else none

section
variable {w : World} {X X' : Nat → Prop} {L : Link}
mutual
theorem AV.rep_lo (hX : ∀ b, b < w.heap.size → X' b → X b) {k : Heap} {L' : Link} (hL : ∀ id g x, Heap.has k id = true → L id g = some x → L' id g = some x) : ∀ {x : AV} {y : Value}, x.lo k = true → x.rep w X L y → x.rep w X' L' y
  | .any, _, _, _ => trivial
  | .f _, _, _, h => FV.rep_stays (Stays.refl _ _) hX h
  | .agg _, _, hl, ⟨vs, e, h⟩ => ⟨vs, e, AV.repL_lo hX hL hl h⟩
  | .ptr _ _ _ _ _, _, hl, ⟨b, tot, h, e⟩ => ⟨b, tot, hL _ _ _ (by simpa [AV.lo] using hl) h, e⟩
  | .row _ _ _ _ _, _, hl, ⟨b, tot, h, e⟩ => ⟨b, tot, hL _ _ _ (by simpa [AV.lo] using hl) h, e⟩
  | .tup _, _, hl, ⟨vs, e, h⟩ => ⟨vs, e, AV.repL_lo hX hL hl h⟩
  | .fn _ _, _, hl, ⟨vs, e, h⟩ => ⟨vs, e, AV.repL_lo hX hL hl h⟩
  | .opt b x, y, hl, h => by
    unfold AV.rep at h ⊢
    split
    · rename_i hb; rw [if_pos hb] at h; exact AV.rep_lo hX hL hl h
    · rename_i hb; rw [if_neg hb] at h; exact h
theorem AV.repL_lo (hX : ∀ b, b < w.heap.size → X' b → X b) {k : Heap} {L' : Link} (hL : ∀ id g x, Heap.has k id = true → L id g = some x → L' id g = some x) : ∀ {xs : List AV} {ys : List Value}, AV.loL k xs = true → AV.repL w X L xs ys → AV.repL w X' L' xs ys
  | [], [], _, _ => trivial
  | x :: xs, _ :: _, hl, h => by
    have : x.lo k = true ∧ AV.loL k xs = true := by simpa [AV.loL] using hl
    exact ⟨AV.rep_lo hX hL this.1 h.1, AV.repL_lo hX hL this.2 h.2⟩
  | [], _ :: _, _, h => h.elim
  | _ :: _, [], _, h => h.elim
end
end

def rowLo (k : Heap) (r : Row) : Prop := ∀ e, e ∈ r.els → AV.loL k e = true
/-- The rows lead to live rows alone. -/
def HLo (k : Heap) : Heap → Prop
  | [] => True
  | none :: h => HLo k h
  | some r :: h => rowLo k r ∧ HLo k h
theorem HLo.get {k : Heap} : ∀ {h : Heap}, HLo k h → ∀ {id : Nat} {r : Row}, h[id]? = some (some r) → rowLo k r
  | none :: h, hl, 0, r, hi => by simp at hi
  | none :: h, hl, id + 1, r, hi => HLo.get (h := h) hl (id := id) (by simpa using hi)
  | some q :: h, hl, 0, r, hi => by simp at hi; subst hi; exact hl.1
  | some q :: h, hl, id + 1, r, hi => HLo.get (h := h) hl.2 (id := id) (by simpa using hi)
  | [], _, id, r, hi => by simp at hi

theorem loL_map_f (k : Heap) : ∀ (cs : List FV), AV.loL k (cs.map .f) = true
  | [] => rfl
  | c :: cs => by simp [AV.loL, AV.lo, loL_map_f k cs]
theorem rowLo_fz (k : Heap) (g s : Nat) (xs : List (List FV)) : rowLo k ⟨g, s, fz xs⟩ := by
  intro e he
  simp only [fz, List.mem_map] at he
  obtain ⟨c, _, rfl⟩ := he
  exact loL_map_f k c
theorem rowLo_one {k : Heap} {g s : Nat} {cs : List AV} (h : AV.loL k cs = true) : rowLo k ⟨g, s, [cs]⟩ := by
  intro e he; simp at he; subst he; exact h

/-- Fewer rows. -/
structure Fewer (h' h : Heap) : Prop where
  row : ∀ (id : Nat) (r : Row), h'[id]? = some (some r) → h[id]? = some (some r)
  len : h'.length ≤ h.length
theorem Fewer.refl (h : Heap) : Fewer h h := ⟨fun _ _ h => h, Nat.le_refl _⟩
theorem Fewer.trans {a b c : Heap} (h : Fewer a b) (k : Fewer b c) : Fewer a c := ⟨fun id r x => k.row id r (h.row id r x), Nat.le_trans h.len k.len⟩
theorem Fewer.nil (h : Heap) : Fewer [] h := ⟨fun id r x => by simp at x, Nat.zero_le _⟩
theorem Fewer.same {x : Option Row} {h' h : Heap} (k : Fewer h' h) : Fewer (x :: h') (x :: h) :=
  ⟨fun id r hi => by cases id with
    | zero => exact hi
    | succ id => exact k.row id r (by simpa using hi), by simpa using k.len⟩
theorem Fewer.none {x : Option Row} {h' h : Heap} (k : Fewer h' h) : Fewer (none :: h') (x :: h) :=
  ⟨fun id r hi => by cases id with
    | zero => simp at hi
    | succ id => exact k.row id r (by simpa using hi), by simpa using k.len⟩

section
variable {K : Ctx} {L : Link} {h h' : Heap} {w : World}
theorem has_of {h : Heap} {id : Nat} {r : Row} (hi : h[id]? = some (some r)) : Heap.has h id = true := by simp [Heap.has, hi]
theorem of_has {h : Heap} {id : Nat} (hi : Heap.has h id = true) : ∃ r, h[id]? = some (some r) := by
  unfold Heap.has at hi
  cases hh : h[id]? with
  | none => rw [hh] at hi; simp at hi
  | some x => cases x with
    | none => rw [hh] at hi; simp at hi
    | some r => exact ⟨r, rfl⟩
theorem own_sub (hs : Fewer h' h) {b : Nat} (ho : Own h' (L.cut h') b) : Own h L b := by
  obtain ⟨id, r, tot, hi, hl⟩ := ho
  simp only [Link.cut] at hl
  rw [if_pos (has_of hi)] at hl
  exact ⟨id, r, tot, hs.row id r hi, hl⟩
theorem bar_sub (hs : Fewer h' h) : ∀ b, b < w.heap.size → Bar K h' (L.cut h') b → Bar K h L b := by
  rintro b _ (hx | ho)
  · exact .inl hx
  · exact .inr (own_sub hs ho)
theorem cut_ext (k : Heap) : ∀ id g x, Heap.has k id = true → L id g = some x → L.cut k id g = some x := fun id g x hk hx => by simp only [Link.cut]; rw [if_pos hk]; exact hx

theorem HSim.sub (hh : HSim K L h w) (hs : Fewer h' h) (hlo : h' = h ∨ HLo h' h') : HSim K (L.cut h') h' w := by
  refine ⟨?_, ?_, ?_, ?_, hh.foreign⟩
  · intro id r hi
    obtain ⟨b, tot, c, e, h1, h2, h3, h4, h5, h6, h7⟩ := hh.live id r (hs.row id r hi)
    refine ⟨b, tot, c, e, cut_ext _ _ _ _ (has_of hi) h1, h2, h3, h4, h5, h6, fun i e he => ?_⟩
    rcases hlo with hlo | hlo
    · refine AV.repL_stays (Stays.refl _ _) (bar_sub hs) (fun id g x hx => ?_) (h7 i e he)
      refine cut_ext _ _ _ _ ?_ hx
      rw [hlo]
      cases hh2 : Heap.has h id with
      | true => rfl
      | false =>
        rw [hh.past id g (by unfold Heap.has at hh2; cases hj : h[id]?.join with
          | none => rfl
          | some q => rw [hj] at hh2; simp at hh2)] at hx; simp at hx
    · exact AV.repL_lo (bar_sub hs) (cut_ext _) (hlo.get hi e (List.mem_of_getElem? he)) (h7 i e he)
  · intro id r id' r' b t t' hi hi' hl hl'
    simp only [Link.cut] at hl hl'
    rw [if_pos (has_of hi)] at hl; rw [if_pos (has_of hi')] at hl'
    exact hh.inj _ _ _ _ _ _ _ (hs.row _ _ hi) (hs.row _ _ hi') hl hl'
  · intro id r g hi hg
    simp only [Link.cut]; rw [if_pos (has_of hi)]; exact hh.later id r g (hs.row _ _ hi) hg
  · intro id g hid
    simp only [Link.cut]; rw [if_neg (by simp [Heap.has, hid])]

theorem Ext.sub {m : Nat} (hh : HSim K L h w) (hm : ∀ id, id < m → Heap.has h' id = true ∨ h[id]?.join = none) (hs : Fewer h' h) : Ext K m h L w h' (L.cut h') w := by
  refine ⟨fun id g x hi hx => ?_, Stays.refl _ _, fun b _ ho => own_sub hs ho⟩
  rcases hm id hi with hm | hm
  · exact cut_ext _ _ _ _ hm hx
  · rw [hh.past id g hm] at hx; cases hx

/-- What becomes of a value as rows are let go: it leads to none of them; or it is a slice of one, frozen from now on. -/
inductive Thaw (h h' : Heap) : AV → AV → Prop where
  | any {x} : Thaw h h' x .any
  | nil {s} : Thaw h h' (.f (.v (.slice none 0 0))) (.f (.lst s []))
  | same {x} : x.lo h' = true → Thaw h h' x x
  | lst {id gen s i n xs} : h[id]? = some (some ⟨gen, s, fz xs⟩) → h'[id]?.join = none → i + n ≤ xs.length → (∀ e, e ∈ xs → e.length = s) → Thaw h h' (.row id gen s i n) (.f (.lst s ((xs.drop i).take n)))
  | whole {id gen s n xs} : h[id]? = some (some ⟨gen, s, fz xs⟩) → h'[id]?.join = none → n = xs.length → (∀ e, e ∈ xs → e.length = s) → Thaw h h' (.row id gen s 0 n) (.f (.lst s xs))
  | ref {id gen s i o cs xs} : h[id]? = some (some ⟨gen, s, fz xs⟩) → h'[id]?.join = none → xs[i]? = some cs → Thaw h h' (.ptr id gen s i o) (.f (.ref (cs.drop o)))
  | agg0 : Thaw h h' (.agg []) (.agg [])
  | agg {x y xs ys} : Thaw h h' x y → Thaw h h' (.agg xs) (.agg ys) → Thaw h h' (.agg (x :: xs)) (.agg (y :: ys))
  | tup0 : Thaw h h' (.tup []) (.tup [])
  | tup {x y xs ys} : Thaw h h' x y → Thaw h h' (.tup xs) (.tup ys) → Thaw h h' (.tup (x :: xs)) (.tup (y :: ys))

theorem dead_not_own (hh : HSim K L h w) (hs : Fewer h' h) {id : Nat} {r : Row} {b tot : Nat} (hr : h[id]? = some (some r)) (hd : h'[id]?.join = none) (hL : L id r.gen = some (b, tot)) : ¬ Bar K h' (L.cut h') b := by
  rintro (hx | ⟨id', r', tot', hi, hl⟩)
  · obtain ⟨b2, t2, _, _, hl2, _, hX, _⟩ := hh.live id r hr
    rw [hL] at hl2; cases hl2; exact hX hx
  · simp only [Link.cut] at hl
    rw [if_pos (has_of hi)] at hl
    have := hh.inj _ _ _ _ _ _ _ hr (hs.row _ _ hi) hL hl
    subst this
    rw [hi] at hd; simp at hd

theorem lst_frozen (hh : HSim K L h w) (hs : Fewer h' h) {id gen s i n : Nat} {xs : List (List FV)} (hr : h[id]? = some (some ⟨gen, s, fz xs⟩)) (hd : h'[id]?.join = none) (hin : i + n ≤ xs.length) (hxs : ∀ e, e ∈ xs → e.length = s) {v : Value}
    (hv : (AV.row id gen s i n).rep w (Bar K h L) L v) : (FV.lst s ((xs.drop i).take n)).rep w (Bar K h' (L.cut h')) v := by
  obtain ⟨b, tot, hL, rfl, hit⟩ := hv
  have hno := dead_not_own hh hs hr hd hL
  obtain ⟨b2, t2, c, e, hL2, _, _, hc, hsz, hlen, hat⟩ := hh.live id _ hr
  rw [hL] at hL2; cases hL2
  have hb := (Array.getElem?_eq_some_iff.1 hc).1
  have hn : ((xs.drop i).take n).length = n := by simp; omega
  refine ⟨some ⟨b, i * s, none⟩, tot - i, by rw [hn], by rw [hn]; omega, .inr ⟨b, i * s, rfl, hb, hno, FV.repEls_of ?_⟩⟩
  intro j cs hj
  rw [List.getElem?_take] at hj
  split at hj
  · rename_i hjn
    rw [List.getElem?_drop] at hj
    refine ⟨hxs _ (List.mem_of_getElem? hj), ?_⟩
    have he : (fz xs)[i + j]? = some (cs.map .f) := by simp [fz, List.getElem?_map, hj]
    have h1 := hat _ _ he
    refine FV.repCells_of (L := L) (vs := (c.toList.drop ((i + j) * s)).take s) (AV.repL_stays (Stays.refl _ _) (bar_sub hs) (fun _ _ _ h => h) h1) ?_
    intro k y hk
    rw [List.getElem?_take] at hk
    split at hk
    · rw [List.getElem?_drop] at hk
      rw [cell_block hc, show i * s + j * s + k = (i + j) * s + k from by rw [Nat.add_mul]]; simpa using hk
    · simp at hk
  · simp at hj

theorem Thaw.rep (hh : HSim K L h w) (hs : Fewer h' h) {x y : AV} (ht : Thaw h h' x y) : ∀ {v : Value}, x.rep w (Bar K h L) L v → y.rep w (Bar K h' (L.cut h')) (L.cut h') v := by
  induction ht with
  | any => intro v _; trivial
  | nil => intro v hv; exact ⟨none, 0, hv, Nat.le_refl _, .inl rfl⟩
  | same hl => intro v hv; exact AV.rep_lo (bar_sub hs) (cut_ext _) hl hv
  | lst hr hd hin hxs => intro v hv; exact lst_frozen hh hs hr hd hin hxs hv
  | @whole id gen s n xs hr hd hn hxs =>
    intro v hv
    have := lst_frozen hh hs (i := 0) (n := n) hr hd (by omega) hxs hv
    subst hn
    simp only [List.drop_zero, List.take_length] at this
    exact this
  | @ref id gen s i o cs xs hr hd hcs =>
    intro v hv
    obtain ⟨b, tot, hL, rfl⟩ := hv
    have hno := dead_not_own hh hs hr hd hL
    obtain ⟨b2, t2, c, e, hL2, _, _, hc, hsz, hlen, hat⟩ := hh.live id _ hr
    rw [hL] at hL2; cases hL2
    have hb := (Array.getElem?_eq_some_iff.1 hc).1
    have he : (fz xs)[i]? = some (cs.map .f) := by simp [fz, List.getElem?_map, hcs]
    have h1 := hat _ _ he
    refine ⟨b, i * s + o, rfl, hb, hno, FV.repCells_drop (FV.repCells_of (L := L) (vs := (c.toList.drop (i * s)).take s) (AV.repL_stays (Stays.refl _ _) (bar_sub hs) (fun _ _ _ h => h) h1) ?_) o⟩
    intro k y hk
    rw [List.getElem?_take] at hk
    split at hk
    · rw [List.getElem?_drop] at hk
      rw [cell_block hc]; simpa using hk
    · simp at hk
  | agg0 => intro v hv; obtain ⟨vs, e, hR⟩ := hv; cases hvs : vs.toList with
    | nil => exact ⟨vs, e, by rw [hvs]; trivial⟩
    | cons => rw [hvs] at hR; exact hR.elim
  | tup0 => intro v hv; obtain ⟨vs, e, hR⟩ := hv; cases hvs : vs.toList with
    | nil => exact ⟨vs, e, by rw [hvs]; trivial⟩
    | cons => rw [hvs] at hR; exact hR.elim
  | agg _ _ ih1 ih2 =>
    intro v hv
    obtain ⟨vs, e, hR⟩ := hv
    cases hvs : vs.toList with
    | nil => rw [hvs] at hR; exact hR.elim
    | cons y ys =>
      rw [hvs] at hR
      obtain ⟨vs', e', hR'⟩ := ih2 (v := .agg ys.toArray) ⟨ys.toArray, rfl, hR.2⟩
      cases e'
      exact ⟨vs, e, by rw [hvs]; exact ⟨ih1 hR.1, hR'⟩⟩
  | tup _ _ ih1 ih2 =>
    intro v hv
    obtain ⟨vs, e, hR⟩ := hv
    cases hvs : vs.toList with
    | nil => rw [hvs] at hR; exact hR.elim
    | cons y ys =>
      rw [hvs] at hR
      obtain ⟨vs', e', hR'⟩ := ih2 (v := .tuple ys.toArray) ⟨ys.toArray, rfl, hR.2⟩
      cases e'
      exact ⟨vs, e, by rw [hvs]; exact ⟨ih1 hR.1, hR'⟩⟩
end

/-- Each slot that is still told is what the old one becomes. -/
def HasT (S : St) (h' : Heap) : List (Nat × AV) → Prop
  | [] => True
  | (t, y) :: r => (∃ x, S.get t = some x ∧ Thaw S.heap h' x y) ∧ HasT S h' r
theorem HasT.get {S : St} {h' : Heap} : ∀ {l : List (Nat × AV)}, HasT S h' l → ∀ {t y}, look l t = some y → ∃ x, S.get t = some x ∧ Thaw S.heap h' x y
  | (k, y) :: r, h, t, x, hl => by
    rw [look_cons] at hl
    split at hl
    · rename_i hk; subst hk; cases hl; exact h.1
    · exact HasT.get h.2 hl

section
variable {K : Ctx} {m : Nat} {Q : Post} {S : St}
theorem Sim.cut {L : Link} {a : Act} {w : World} {env : List (Nat × AV)} {h' : Heap} (hs : Sim K L S a w) (hsub : Fewer h' S.heap) (hlo : h' = S.heap ∨ HLo h' h') (he : HasT S h' env) :
    Sim K (L.cut h') { S with env := env, heap := h' } a w :=
  ⟨hs.hs.sub hsub hlo, hs.base, hs.big, fun t y hy => by
    obtain ⟨x, hx, ht⟩ := he.get hy
    exact ht.rep hs.hs hsub (hs.slots t x hx), hs.size, hs.defers⟩
theorem W.cut {c : Code} {env : List (Nat × AV)} {h' : Heap} (hsub : Fewer h' S.heap) (hlo : h' = S.heap ∨ HLo h' h') (hm : ∀ id, id < m → Heap.has h' id = true ∨ S.heap[id]?.join = none) (he : HasT S h' env) (hw : W K m c Q { S with env := env, heap := h' }) : W K m c Q S :=
  fun L a w hs => wp_mono (hw _ a w (hs.cut hsub hlo he)) (lift_trans (Ext.sub hs.hs hm hsub))
theorem WL.cut {ops : Array Oper} {l : List Oper} {env : List (Nat × AV)} {h' : Heap} (hsub : Fewer h' S.heap) (hlo : h' = S.heap ∨ HLo h' h') (hm : ∀ id, id < m → Heap.has h' id = true ∨ S.heap[id]?.join = none) (he : HasT S h' env) (hw : WL K m ops Q l { S with env := env, heap := h' }) : WL K m ops Q l S :=
  fun L a w Qc hs hq => hw _ a w Qc (hs.cut hsub hlo he) fun e a' w' hl => hq _ _ _ (lift_trans (Ext.sub hs.hs hm hsub) _ _ _ hl)
end

/-! ### Contracts -/
/-- A program, the world in which all began, and from which block on there may be writing. -/
structure Env where
  P : Program
  W0 : World
  N : Nat
abbrev Env.ctx (E : Env) (X : Nat → Prop) : Ctx := ⟨E.P, X, E.W0, E.N⟩
def AC (E : Env) (f : FuncId) (args : List AV) (h : Heap) (R : AV → Heap → Prop) : Prop :=
  ∀ (X : Nat → Prop) L w vs, HSim (E.ctx X) L h w → Below E.N E.W0 w → E.N ≤ w.heap.size → AV.repL w (Bar (E.ctx X) h L) L args vs →
    Calls E.P f vs.toArray w fun e w' => ∃ r h' L' v, e = .returned v ∧ R r h' ∧ r.rep w' (Bar (E.ctx X) h' L') L' v ∧ HSim (E.ctx X) L' h' w' ∧ Below E.N E.W0 w' ∧ E.N ≤ w'.heap.size ∧
      Ext (E.ctx X) h.length h L w h' L' w'
theorem AC.mono {E : Env} {f : FuncId} {args : List AV} {h : Heap} {R R' : AV → Heap → Prop} (hc : AC E f args h R) (hr : ∀ r h, R r h → R' r h) : AC E f args h R' :=
  fun X L w vs h1 h2 h3 h4 => (hc X L w vs h1 h2 h3 h4).mono fun e w' ⟨r, h', L', v, a, b, c⟩ => ⟨r, h', L', v, a, hr _ _ b, c⟩

/-- A body's end: what is handed back. -/
def Ret (K : Ctx) (m : Nat) (fn : Func) (R : AV → Heap → Prop) : Post := fun e S =>
  (e = .normal ∨ e = .ret) ∧ S.defers = [] ∧ ∃ r h', R r h' ∧ ∀ L a w, Sim K L S a w → ∃ v L', (results fn a.tmps).run K.P w = .ok v w ∧ r.rep w (Bar K h' L') L' v ∧ HSim K L' h' w ∧ Ext K m S.heap L w h' L' w

/-- The slots as a call begins. -/
def argEnv (args : List AV) : List (Nat × AV) := args.zipIdx.map fun p => (p.2, p.1)
theorem look_arg : ∀ (args : List AV) (k t : Nat), look ((args.zipIdx k).map fun p => (p.2, p.1)) t = if k ≤ t then args[t - k]? else none
  | [], k, t => by simp [look]
  | x :: xs, k, t => by
    simp only [List.zipIdx_cons, List.map_cons, look_cons]
    by_cases h : k = t
    · subst h; simp
    · rw [if_neg h, look_arg xs (k + 1) t]
      by_cases h2 : k + 1 ≤ t
      · rw [if_pos h2, if_pos (by omega), show t - k = (t - (k + 1)) + 1 from by omega]; rfl
      · rw [if_neg h2, if_neg (by omega)]

theorem AC.enter {E : Env} {f : FuncId} {args : List AV} {h : Heap} {R : AV → Heap → Prop} {fn : Func} {c : Code} {n : Nat} (hf : E.P.funcs[f]? = some fn) (hb : fn.body = some c) (hn : fn.ntmps = n) (hl : args.length ≤ n)
    (hw : ∀ X, W ⟨E.P, X, E.W0, E.N⟩ h.length c (Ret ⟨E.P, X, E.W0, E.N⟩ h.length fn R) ⟨n, argEnv args, h, []⟩) : AC E f args h R := by
  intro X L w vs h1 h2 h3 h4
  refine calls_of_wp hf hb ?_
  have hlen := AV.repL_length h4
  have hs : Sim (E.ctx X) L ⟨n, argEnv args, h, []⟩ { tmps := vs.toArray ++ Array.replicate (fn.ntmps - vs.toArray.size) undef, defers := [] } w := by
    refine ⟨h1, h2, h3, ?_, by simp; omega, rfl⟩
    intro t x hx
    have : look (argEnv args) t = args[t]? := by have := look_arg args 0 t; simp only [Nat.zero_le, if_true, Nat.sub_zero] at this; exact this
    have hx' : args[t]? = some x := by rw [← this]; exact hx
    obtain ⟨y, hy, hr⟩ := AV.repL_get h4 hx'
    have ht := (List.getElem?_eq_some_iff.1 hy).1
    rw [Array.getD_eq_getD_getElem?, Array.getElem?_append_left (by simpa using ht)]
    simp [hy]; exact hr
  refine wp_mono (hw X L _ w hs) ?_
  rintro e a' w' ⟨L', S', ⟨he, hd, r, h', hR, hres⟩, hs', hext⟩
  obtain ⟨v, L'', hrun, hrep, hhs, hext'⟩ := hres L' a' w' hs'
  have hfin : bodyPost E.P fn (fun e w' => ∃ r h' L' v, e = .returned v ∧ R r h' ∧ r.rep w' (Bar (E.ctx X) h' L') L' v ∧ HSim (E.ctx X) L' h' w' ∧ Below E.N E.W0 w' ∧ E.N ≤ w'.heap.size ∧ Ext (E.ctx X) h.length h L w h' L' w') .normal a' w' :=
    ⟨by rw [hs'.defers, hd], v, hrun, r, h', L'', v, rfl, hR, hrep, hhs, hs'.base, hs'.big, ⟨fun id g x hi hx => hext'.link id g x hi (hext.link id g x hi hx), (hext.trans hext').stays, (hext.trans hext').own⟩⟩
  rcases he with rfl | rfl
  · exact hfin
  · exact hfin
end Go.Aw
namespace Go.Aw
open Go.RowKit

/-- The function has a Go body. -/
def Callable (P : Program) (f : FuncId) : Prop := ∃ fn, P.funcs[f]? = some fn ∧ (fn.name == "runtime.NumGoroutine") = false ∧ fn.body.isNone = false

theorem run_callV {P : Program} {w : World} {ρ : Operand → Value} {d : Option Nat} {ty : TypeId} {pos : String} {af : Array Edge} {gd : Option (Nat × Bool)} {c : Operand} {xs : Array Operand} {ts : Array TypeId} {f : FuncId} {cs : Array Value}
    (hf : Callable P f) (hc : ρ c = .func (.func f) #[] cs) : (execOp ρ ⟨d, .call ⟨.value c, xs, ts⟩, ty, pos, af, gd⟩).run P w = .ok (.enter f (xs.map ρ ++ cs)) w := by
  obtain ⟨fn, h1, h2, h3⟩ := hf
  simp only [execOp, resolve, hc, Deferred.ofValue, Sem.run_bind, Sem.run_pure, Result.andThen_ok, invoke, callFunc, program, Sem.run, h1, h2, h3, Bool.false_eq_true, if_false, Array.empty_append]

/-- What the called operand is: a function, with what it has captured. -/
def Fun (K : Ctx) (S : St) (c : Operand) (f : FuncId) (caps : List AV) : Prop :=
  ∀ L a w, Sim K L S a w → ∃ cs : Array Value, a.eval c = .func (.func f) #[] cs ∧ AV.repL w (Bar K S.heap L) L caps cs.toList
theorem Fun.func {K : Ctx} {S : St} {f : FuncId} : Fun K S (.func f) f [] := fun _ _ _ _ => ⟨#[], rfl, trivial⟩
theorem Fun.clo {K : Ctx} {S : St} {c : Operand} {f : FuncId} {caps : List AV} (h : Ev K S c (.fn (.func f) caps)) : Fun K S c f caps := fun L a w hs => h L a w hs

section
variable {K : Ctx} {m : Nat} {Q : Post} {S : St} {ops : Array Oper} {rest : List Oper} {d : Option Nat} {ty : TypeId} {pos : String} {af : Array Edge} {gd : Option (Nat × Bool)}

/-- A call that is handed frozen values alone. -/
theorem call_frozen {L : Link} {a : Act} {w : World} (hs : Sim K L S a w) {f : FuncId} {args : List AV} {R : AV → Heap → Prop} {vs : List Value} (hx : AV.repL w (Bar K S.heap L) L args vs) (hlo : AV.loL [] args = true) (hc : AC ⟨K.P, K.W0, K.N⟩ f args [] R) (hR : ∀ r h, R r h → h = []) :
    Calls K.P f vs.toArray w fun e w' => ∃ r v, e = .returned v ∧ R r [] ∧ Sim K L S a w' ∧ r.rep w' (Bar K S.heap L) L v ∧ Ext K m S.heap L w S.heap L w' := by
  have h0 : HSim { K with X := Bar K S.heap L } (fun _ _ => none) [] w := by
    refine ⟨fun id r h => by simp at h, fun id r id' r' b t t' h => by simp at h, fun id r g h => by simp at h, fun id g _ => rfl, ?_⟩
    rintro b (hx | ho)
    · exact hs.hs.foreign b hx
    · exact own_lt hs.hs ho
  have hX : ∀ b, b < w.heap.size → Bar { K with X := Bar K S.heap L } [] (fun _ _ => none) b → Bar K S.heap L b := by
    rintro b _ (hx | ⟨id, r, t, h, _⟩)
    · exact hx
    · simp at h
  refine (hc (Bar K S.heap L) (fun _ _ => none) w vs h0 hs.base hs.big (AV.repL_lo hX (fun id g x h => by simp [Heap.has] at h) hlo hx)).mono ?_
  rintro e w' ⟨r, h', L', v, rfl, hr, hrep, hh, hb, hbig, hext⟩
  have := hR r h' hr
  subst this
  have hst : ∀ Y, Stays Y w w' := fun Y => ⟨hext.stays.size, fun b hb hx => hext.stays.block b hb (by rintro ⟨id, r, t, h, _⟩; simp at h)⟩
  have hs' : Sim K L S a w' := by
    refine ⟨⟨?_, hs.hs.inj, hs.hs.later, hs.hs.past, fun b hb => Nat.lt_of_lt_of_le (hs.hs.foreign b hb) hext.stays.size⟩, hb, hbig, fun t x hx => AV.rep_stays (hst _) (fun _ _ h => h) (fun _ _ _ h => h) (hs.slots t x hx), hs.size, hs.defers⟩
    intro id q hq
    obtain ⟨b, tot, c, e, h1, h2, h3, h4, h5, h6, h7⟩ := hs.hs.live id q hq
    refine ⟨b, tot, c, e, h1, h2, h3, ?_, h5, h6, fun i e he => AV.repL_stays (hst _) (fun _ _ h => h) (fun _ _ _ h => h) (h7 i e he)⟩
    rw [(hst (fun _ => False)).block b (own_lt hs.hs ⟨id, q, tot, hq, h1⟩) (fun h => h)]; exact h4
  refine ⟨r, v, rfl, hr, hs', ?_, ⟨fun _ _ _ _ h => h, hst _, fun _ _ h => h⟩⟩
  refine AV.rep_stays (Stays.refl _ _) ?_ ?_ hrep
  · intro b _ hb; exact .inl hb
  · intro id g x hx
    rw [hh.past id g (by simp)] at hx; simp at hx

theorem WL.call {c : Operand} {f : FuncId} {xs : List Operand} {ts : Array TypeId} {args caps : List AV} {R : AV → Prop} (hf : Callable K.P f) (hcl : Fun K S c f caps) (hx : EvL K S xs args) (hlo : AV.loL [] (args ++ caps) = true) (hd : dstOk d S.n = true)
    (hc : AC ⟨K.P, K.W0, K.N⟩ f (args ++ caps) [] fun r h => h = [] ∧ R r) (hg : gd = none) (h : ∀ r, R r → WL K m ops Q rest (S.putD d r)) : WL K m ops Q (⟨d, .call ⟨.value c, xs.toArray, ts⟩, ty, pos, af, gd⟩ :: rest) S := by
  intro L a w Qc hs hq
  subst hg
  obtain ⟨cs, ec, hcs⟩ := hcl L a w hs
  refine wpList_plain rfl fun Kc hK => ?_
  simp only [Oper.wp, run_callV hf ec, Oper.upon_enter]
  have hxs := AV.repL_append (EvL.rep hs hx) hcs
  rw [show (xs.toArray.map a.eval ++ cs) = (xs.map a.eval ++ cs.toList).toArray from by simp]
  refine (call_frozen (m := m) hs hxs hlo hc (fun _ _ h => h.1)).mono ?_
  rintro e w' ⟨r, v, rfl, ⟨_, hr⟩, hs', hrep, hext⟩
  refine hK _ _ (h r hr L _ w' Qc (hs'.putD (dst_ok hd) hrep) fun e a' w'' hl => hq _ _ _ (lift_trans hext _ _ _ ?_))
  rw [lift, putD_heap] at hl; exact hl

end

/-! ### A call that is handed one row -/
mutual
def AV.ren (j : Nat) : AV → AV
  | .ptr id gen s i o => .ptr (id + j) gen s i o
  | .row id gen s i n => .row (id + j) gen s i n
  | .agg cs => .agg (AV.renL j cs)
  | .tup cs => .tup (AV.renL j cs)
  | .fn g caps => .fn g (AV.renL j caps)
  | .opt b x => .opt b (x.ren j)
  | x => x
def AV.renL (j : Nat) : List AV → List AV
  | [] => []
  | x :: xs => x.ren j :: AV.renL j xs
end
mutual
theorem AV.rep_ren {w : World} {X X' : Nat → Prop} {L L' : Link} {j : Nat} {k : Heap} (hX : ∀ b, b < w.heap.size → X' b → X b) (hL : ∀ id g x, Heap.has k id = true → L (id + j) g = some x → L' id g = some x) : ∀ {x : AV} {y : Value}, x.lo k = true → (x.ren j).rep w X L y → x.rep w X' L' y
  | .any, _, _, _ => trivial
  | .f _, _, _, h => FV.rep_stays (Stays.refl _ _) hX h
  | .agg _, _, hl, ⟨vs, e, h⟩ => ⟨vs, e, AV.repL_ren hX hL hl h⟩
  | .ptr id _ _ _ _, _, hl, ⟨b, tot, h, e⟩ => ⟨b, tot, hL _ _ _ (by simpa [AV.lo] using hl) h, e⟩
  | .row id _ _ _ _, _, hl, ⟨b, tot, h, e⟩ => ⟨b, tot, hL _ _ _ (by simpa [AV.lo] using hl) h, e⟩
  | .tup _, _, hl, ⟨vs, e, h⟩ => ⟨vs, e, AV.repL_ren hX hL hl h⟩
  | .fn _ _, _, hl, ⟨vs, e, h⟩ => ⟨vs, e, AV.repL_ren hX hL hl h⟩
  | .opt b x, y, hl, h => by
    simp only [AV.ren] at h
    unfold AV.rep at h ⊢
    split
    · rename_i hb; rw [if_pos hb] at h; exact AV.rep_ren hX hL hl h
    · rename_i hb; rw [if_neg hb] at h; exact h
theorem AV.repL_ren {w : World} {X X' : Nat → Prop} {L L' : Link} {j : Nat} {k : Heap} (hX : ∀ b, b < w.heap.size → X' b → X b) (hL : ∀ id g x, Heap.has k id = true → L (id + j) g = some x → L' id g = some x) : ∀ {xs : List AV} {ys : List Value}, AV.loL k xs = true → AV.repL w X L (AV.renL j xs) ys → AV.repL w X' L' xs ys
  | [], [], _, _ => trivial
  | x :: xs, _ :: _, hl, h => by
    have : x.lo k = true ∧ AV.loL k xs = true := by simpa [AV.loL] using hl
    exact ⟨AV.rep_ren hX hL this.1 h.1, AV.repL_ren hX hL this.2 h.2⟩
  | [], _ :: _, _, h => h.elim
  | _ :: _, [], _, h => h.elim
end
mutual
theorem AV.rep_ren' {w : World} {X X' : Nat → Prop} {L L' : Link} {j : Nat} {k : Heap} (hX : ∀ b, b < w.heap.size → X' b → X b) (hL : ∀ id g x, Heap.has k id = true → L id g = some x → L' (id + j) g = some x) : ∀ {x : AV} {y : Value}, x.lo k = true → x.rep w X L y → (x.ren j).rep w X' L' y
  | .any, _, _, _ => trivial
  | .f _, _, _, h => FV.rep_stays (Stays.refl _ _) hX h
  | .agg _, _, hl, ⟨vs, e, h⟩ => ⟨vs, e, AV.repL_ren' hX hL hl h⟩
  | .ptr id _ _ _ _, _, hl, ⟨b, tot, h, e⟩ => ⟨b, tot, hL _ _ _ (by simpa [AV.lo] using hl) h, e⟩
  | .row id _ _ _ _, _, hl, ⟨b, tot, h, e⟩ => ⟨b, tot, hL _ _ _ (by simpa [AV.lo] using hl) h, e⟩
  | .tup _, _, hl, ⟨vs, e, h⟩ => ⟨vs, e, AV.repL_ren' hX hL hl h⟩
  | .fn _ _, _, hl, ⟨vs, e, h⟩ => ⟨vs, e, AV.repL_ren' hX hL hl h⟩
  | .opt b x, y, hl, h => by
    simp only [AV.ren]
    unfold AV.rep at h ⊢
    split
    · rename_i hb; rw [if_pos hb] at h; exact AV.rep_ren' hX hL hl h
    · rename_i hb; rw [if_neg hb] at h; exact h
theorem AV.repL_ren' {w : World} {X X' : Nat → Prop} {L L' : Link} {j : Nat} {k : Heap} (hX : ∀ b, b < w.heap.size → X' b → X b) (hL : ∀ id g x, Heap.has k id = true → L id g = some x → L' (id + j) g = some x) : ∀ {xs : List AV} {ys : List Value}, AV.loL k xs = true → AV.repL w X L xs ys → AV.repL w X' L' (AV.renL j xs) ys
  | [], [], _, _ => trivial
  | x :: xs, _ :: _, hl, h => by
    have : x.lo k = true ∧ AV.loL k xs = true := by simpa [AV.loL] using hl
    exact ⟨AV.rep_ren' hX hL this.1 h.1, AV.repL_ren' hX hL this.2 h.2⟩
  | [], _ :: _, _, h => h.elim
  | _ :: _, [], _, h => h.elim
end

section
variable {K : Ctx} {m : Nat} {Q : Post} {S : St} {ops : Array Oper} {rest : List Oper} {d : Option Nat} {ty : TypeId} {pos : String} {af : Array Edge} {gd : Option (Nat × Bool)}
/-- What a call of one row gives back. -/
def OneRow (R : AV → Heap → Prop) : Prop := ∀ r h, R r h → ∃ q, h = [some q] ∧ r.lo h = true ∧ rowLo [] q

end
end Go.Aw
namespace Go.Aw
open Go.RowKit

section
variable {K : Ctx} {m : Nat} {S : St} {fn : Func} {R : AV → Heap → Prop}

/-- The body's end, the result in the state's own words. -/
theorem Ret.of {e : Exit} (he : e = .normal ∨ e = .ret) (hd : S.defers = []) {r r' : AV} {h' : Heap} (hres : ∀ L a w, Sim K L S a w → ∃ v, (results fn a.tmps).run K.P w = .ok v w ∧ r.rep w (Bar K S.heap L) L v)
    (hsub : Fewer h' S.heap) (hlo : h' = S.heap ∨ HLo h' h') (hm : ∀ id, id < m → Heap.has h' id = true ∨ S.heap[id]?.join = none) (ht : Thaw S.heap h' r r') (hR : R r' h') : Ret K m fn R e S :=
  ⟨he, hd, r', h', hR, fun L a w hs => by
    obtain ⟨v, hv, hr⟩ := hres L a w hs
    exact ⟨v, L.cut h', hv, ht.rep hs.hs hsub hr, hs.hs.sub hsub hlo, Ext.sub hs.hs hm hsub⟩⟩

theorem res1 {t : Nat} {r : AV} (h : fn.results = #[.tmp t]) (hg : S.get t = some r) : ∀ L a w, Sim K L S a w → ∃ v, (results fn a.tmps).run K.P w = .ok v w ∧ r.rep w (Bar K S.heap L) L v :=
  fun L a w hs => ⟨_, results_tmp h _ _ _, hs.slots t r hg⟩
theorem res2 {t u : Nat} {r q : AV} (h : fn.results = #[.tmp t, .tmp u]) (hg : S.get t = some r) (hg' : S.get u = some q) : ∀ L a w, Sim K L S a w → ∃ v, (results fn a.tmps).run K.P w = .ok v w ∧ (AV.tup [r, q]).rep w (Bar K S.heap L) L v :=
  fun L a w hs => ⟨_, results_tmp2 h _ _ _, _, rfl, hs.slots t r hg, hs.slots u q hg', trivial⟩
theorem results_tmp3 {fn : Func} {t u x : Tmp} (h : fn.results = #[.tmp t, .tmp u, .tmp x]) (tmps : Array Value) (P : Program) (w : World) :
    (results fn tmps).run P w = .ok (.tuple #[tmps.getD t undef, tmps.getD u undef, tmps.getD x undef]) w := by simp [results, h]
theorem res3 {t u x : Nat} {r q p : AV} (h : fn.results = #[.tmp t, .tmp u, .tmp x]) (hg : S.get t = some r) (hg' : S.get u = some q) (hg'' : S.get x = some p) : ∀ L a w, Sim K L S a w → ∃ v, (results fn a.tmps).run K.P w = .ok v w ∧ (AV.tup [r, q, p]).rep w (Bar K S.heap L) L v :=
  fun L a w hs => ⟨_, results_tmp3 h _ _ _, _, rfl, hs.slots t r hg, hs.slots u q hg', hs.slots x p hg'', trivial⟩
theorem results_none' {fn : Func} (h : fn.results = #[]) (tmps : Array Value) (P : Program) (w : World) : (results fn tmps).run P w = .ok (.tuple #[]) w := by simp [results, h]
theorem res0 (h : fn.results = #[]) : ∀ L a w, Sim K L S a w → ∃ v, (results fn a.tmps).run K.P w = .ok v w ∧ (AV.tup []).rep w (Bar K S.heap L) L v :=
  fun L a w hs => ⟨_, results_none' h _ _ _, #[], rfl, trivial⟩

/-- A result that lies in memory: a struct's variable. -/
theorem cellVar {T : TypeId} {td : TypeDesc} {n t : Nat} {id gen s : Nat} {r : Row} {e : List AV} (hT : K.P.underlying T = some td) (hd : aggB td = true) (hn : (K.P.info? T).map (·.size) = some n) (hx : S.get t = some (.ptr id gen s 0 0))
    (hr : S.heap[id]? = some (some r)) (hg : r.gen = gen) (hss : r.s = s) (he : r.els[0]? = some e) (hl : n = e.length) : ∀ L a w, Sim K L S a w → ∃ v, (loadVar T ⟨(match a.tmps.getD t undef with | .pointer (some a) => a.block | _ => 0), 0, none⟩).run K.P w = .ok v w ∧
      a.tmps.getD t undef = .pointer (some ⟨(match a.tmps.getD t undef with | .pointer (some a) => a.block | _ => 0), 0, none⟩) ∧ (AV.agg e).rep w (Bar K S.heap L) L v := fun L a w hs => by
  subst hg hss
  obtain ⟨b, tot, hL, ex⟩ := hs.slots t _ hx
  obtain ⟨b', tot', c, _, hL', hc, vs, hvs, hR⟩ := live_cells hs.hs hr he
  rw [hL] at hL'; cases hL'
  rw [ex]
  simp only [Nat.zero_mul, Nat.add_zero] at hvs ⊢
  have hlen : vs.length = n := by rw [← AV.repL_length hR]; exact hl.symm
  refine ⟨_, run_loadVar_agg (vs := vs) hT hd (hlen.symm ▸ hn) ?_, trivial, _, rfl, by simpa using hR⟩
  intro k y hk
  rw [cell_block hc]; simpa using hvs _ _ hk
theorem resCell {T : TypeId} {td : TypeDesc} {n t : Nat} {id gen s : Nat} {r : Row} {e : List AV} (h : fn.results = #[.cell t T]) (hT : K.P.underlying T = some td) (hd : aggB td = true) (hn : (K.P.info? T).map (·.size) = some n) (hx : S.get t = some (.ptr id gen s 0 0))
    (hr : S.heap[id]? = some (some r)) (hg : r.gen = gen) (hss : r.s = s) (he : r.els[0]? = some e) (hl : n = e.length) : ∀ L a w, Sim K L S a w → ∃ v, (results fn a.tmps).run K.P w = .ok v w ∧ (AV.agg e).rep w (Bar K S.heap L) L v := fun L a w hs => by
  obtain ⟨v, h1, h2, h3⟩ := cellVar hT hd hn hx hr hg hss he hl L a w hs
  refine ⟨v, ?_, h3⟩
  generalize (⟨(match a.tmps.getD t undef with | .pointer (some a) => a.block | _ => 0), 0, none⟩ : Addr) = ad at h1 h2
  simp only [results, h, List.mapM_toArray, List.mapM_cons, List.mapM_nil, h2, asAddr, Sem.run_bind, Sem.run_pure, Result.andThen_ok, h1, Sem.run_map]
  simp
theorem resCell2 {T : TypeId} {td : TypeDesc} {n t u : Nat} {id gen s : Nat} {r : Row} {e : List AV} {q : AV} (h : fn.results = #[.cell t T, .tmp u]) (hT : K.P.underlying T = some td) (hd : aggB td = true) (hn : (K.P.info? T).map (·.size) = some n) (hx : S.get t = some (.ptr id gen s 0 0))
    (hr : S.heap[id]? = some (some r)) (hg : r.gen = gen) (hss : r.s = s) (he : r.els[0]? = some e) (hl : n = e.length) (hu : S.get u = some q) : ∀ L a w, Sim K L S a w → ∃ v, (results fn a.tmps).run K.P w = .ok v w ∧ (AV.tup [.agg e, q]).rep w (Bar K S.heap L) L v := fun L a w hs => by
  obtain ⟨v, h1, h2, h3⟩ := cellVar hT hd hn hx hr hg hss he hl L a w hs
  refine ⟨.tuple #[v, a.tmps.getD u undef], ?_, _, rfl, h3, hs.slots u q hu, trivial⟩
  generalize (⟨(match a.tmps.getD t undef with | .pointer (some a) => a.block | _ => 0), 0, none⟩ : Addr) = ad at h1 h2
  simp only [results, h, List.mapM_toArray, List.mapM_cons, List.mapM_nil, h2, asAddr, Sem.run_bind, Sem.run_pure, Result.andThen_ok, h1, Sem.run_map]
  simp
end

section
variable {K : Ctx} {m : Nat} {S : St} {d : Option Nat} {ty : TypeId} {pos : String} {af : Array Edge} {gd : Option (Nat × Bool)}

/-- A function value. -/
theorem Val.makeFunc {f : Fn} {xs : List Operand} {vs : List AV} (hx : EvL K S xs vs) : Val K S ⟨d, .makeFunc f #[] xs.toArray, ty, pos, af, gd⟩ (.fn f vs) := fun L a w hs => by
  have hR := EvL.rep hs hx
  refine ⟨.func f #[] (xs.map a.eval).toArray, ?_, _, rfl, by simpa using hR⟩
  generalize a.eval = ρ
  simp only [execOp, Instr.makeFunc, Sem.run_bind, Sem.run_pure, Result.andThen_ok]
  simp

/-- A part of a string. -/
theorem run_slice {P : Program} {w : World} {ρ : Operand → Value} {T : TypeId} {x : Operand} {lo hi mx : Option Operand} {td : TypeDesc} {v : Value} (hT : P.underlying T = some td) (hna : ∀ n e, td ≠ .array n e) (h : (Instr.slice T (ρ x) (lo.map ρ) (hi.map ρ) (mx.map ρ)).run P w = .ok v w) :
    (execOp ρ ⟨d, .slice T x lo hi mx, ty, pos, af, gd⟩).run P w = .ok (.value v) w := by
  have e1 := run_und (P := P) (w := w) hT
  simp only [execOp, Instr.sliceAt, Sem.run_bind, e1, Result.andThen_ok]
  cases td <;> first | exact absurd rfl (hna _ _) | simp only [h, Result.andThen_ok, Sem.run_pure]
theorem run_bound {P : Program} {w : World} {k : IntKind} {n : Int} {y : Nat} {c : BoundsCode} (h0 : 0 ≤ n) (h1 : n ≤ y) : (Instr.sliceBound (.int k n) y c).run P w = .ok n.toNat w := by
  simp only [Instr.sliceBound, asIntOf, Sem.run_bind, Sem.run_pure, Result.andThen_ok]
  rw [if_pos ⟨h0, h1⟩]; rfl
/-- An end of a part: nothing is said, or a number. -/
def Bd (K : Ctx) (S : St) : Option Operand → Nat → Nat → Prop
  | none, dflt, n => n = dflt
  | some x, _, n => ∃ k, Ev K S x (.f (.v (.int k n)))
theorem Val.sliceS {T : TypeId} {x : Operand} {lo hi : Option Operand} {s : ByteArray} {l h : Nat} (hT : K.P.underlying T = some .string) (hx : Ev K S x (.f (.v (.string s)))) (hlo : Bd K S lo 0 l) (hhi : Bd K S hi s.size h) (h1 : l ≤ h) (h2 : h ≤ s.size) :
    Val K S ⟨d, .slice T x lo hi none, ty, pos, af, gd⟩ (.f (.v (.string (s.extract l h)))) := fun L a w hs => by
  have e : a.eval x = .string s := hx L a w hs
  refine ⟨.string (s.extract l h), run_slice hT (by simp) ?_, rfl⟩
  have e1 := run_und (P := K.P) (w := w) hT
  have eh : ∀ c, (match (hi.map a.eval) with | some v => Instr.sliceBound v s.size c | none => pure s.size : Sem Nat).run K.P w = .ok h w := by
    intro c
    cases hi with
    | none => simp only [Bd] at hhi; subst hhi; rfl
    | some y =>
      obtain ⟨k, hy⟩ := hhi
      have : a.eval y = .int k h := hy L a w hs
      simp only [Option.map_some, this]; rw [run_bound (by omega) (by omega)]; rfl
  have el : ∀ c, (match (lo.map a.eval) with | some v => Instr.sliceBound v h c | none => pure 0 : Sem Nat).run K.P w = .ok l w := by
    intro c
    cases lo with
    | none => simp only [Bd] at hlo; subst hlo; rfl
    | some y =>
      obtain ⟨k, hy⟩ := hlo
      have : a.eval y = .int k l := hy L a w hs
      simp only [Option.map_some, this]; rw [run_bound (by omega) (by omega)]; rfl
  generalize hi.map a.eval = hv at eh
  generalize lo.map a.eval = lv at el
  generalize a.eval = ρ at e
  simp only [Instr.slice, e, Sem.run_bind, e1, Result.andThen_ok, Option.map_none, Option.isSome_none, Bool.false_eq_true, if_false, Instr.sliceBounds]
  have eh' := eh .sliceAlen
  have el' := el .sliceB
  cases hv <;> cases lv <;> simp only [Sem.run_pure, Sem.run_bind, Result.andThen_ok] at eh' el' ⊢
  · cases eh'; cases el'; rfl
  · cases eh'; rw [el']; rfl
  · rw [eh']; cases el'; rfl
  · rw [eh']; simp only [Result.andThen_ok]; rw [el']; rfl
end
end Go.Aw
namespace Go.Aw
open Go.RowKit

/-- What is known of an operation: what it yields; the rows that it looks at; the rows that it leaves. -/
structure OpF where
  x : AV
  R : List Nat
  U : List (Nat × Option Row)

def setMany (h : Heap) : List (Nat × Option Row) → Heap
  | [] => h
  | (i, r) :: u => setMany (h.set i r) u
theorem setMany_length : ∀ (u : List (Nat × Option Row)) (h : Heap), (setMany h u).length = h.length
  | [], _ => rfl
  | (i, r) :: u, h => by rw [setMany, setMany_length u]; simp
theorem setMany_other : ∀ (u : List (Nat × Option Row)) (h : Heap) (k : Nat), k ∉ u.map (·.1) → (setMany h u)[k]? = h[k]?
  | [], _, _, _ => rfl
  | (i, r) :: u, h, k, hk => by
    simp at hk
    rw [setMany, setMany_other u _ k (by simpa using hk.2), List.getElem?_set, if_neg (fun he => hk.1 he.symm)]
theorem setMany_same : ∀ (u : List (Nat × Option Row)) (h h' : Heap) (k : Nat), h.length = h'.length → k ∈ u.map (·.1) → (setMany h u)[k]? = (setMany h' u)[k]?
  | [], _, _, _, _, hk => by simp at hk
  | (i, r) :: u, h, h', k, hl, hk => by
    rw [setMany, setMany]
    by_cases hu : k ∈ u.map (·.1)
    · exact setMany_same u _ _ k (by simpa using hl) hu
    · simp at hk
      have : k = i := by
        rcases hk with rfl | hk
        · rfl
        · exact absurd (by simpa using hk) hu
      subst this
      rw [setMany_other _ _ _ hu, setMany_other _ _ _ hu, List.getElem?_set, List.getElem?_set, if_pos rfl, if_pos rfl]
      rw [show h.length = h'.length from hl]
theorem setMany_comm {u v : List (Nat × Option Row)} (h : ∀ k, k ∈ u.map (·.1) → k ∉ v.map (·.1)) (hp : Heap) : setMany (setMany hp u) v = setMany (setMany hp v) u := by
  apply List.ext_getElem?
  intro k
  by_cases hu : k ∈ u.map (·.1)
  · rw [setMany_other v _ k (h k hu)]
    exact setMany_same u _ _ k (setMany_length _ _).symm hu
  · rw [setMany_other u _ k hu]
    by_cases hv : k ∈ v.map (·.1)
    · exact setMany_same v _ _ k (setMany_length _ _) hv
    · rw [setMany_other v _ k hv, setMany_other v _ k hv, setMany_other u _ k hu]

structure Agree (R : List Nat) (h h' : Heap) : Prop where
  len : h'.length = h.length
  at_ : ∀ id, id ∈ R → h'[id]? = h[id]?

/-- A state whose slots are a function. -/
structure FS where
  n : Nat
  g : Nat → Option AV
  heap : Heap
  defers : List Deferred

structure SimF (K : Ctx) (L : Link) (F : FS) (a : Act) (w : World) : Prop where
  hs : HSim K L F.heap w
  base : Below K.N K.W0 w
  big : K.N ≤ w.heap.size
  slots : ∀ t x, F.g t = some x → x.rep w (Bar K F.heap L) L (a.tmps.getD t undef)
  size : a.tmps.size = F.n
  defers : a.defers = F.defers

def St.fn (S : St) : FS := ⟨S.n, S.get, S.heap, S.defers⟩
theorem Sim.fn {K : Ctx} {L : Link} {S : St} {a : Act} {w : World} (h : Sim K L S a w) : SimF K L S.fn a w := ⟨h.hs, h.base, h.big, h.slots, h.size, h.defers⟩
theorem SimF.st {K : Ctx} {L : Link} {S : St} {a : Act} {w : World} (h : SimF K L S.fn a w) : Sim K L S a w := ⟨h.hs, h.base, h.big, h.slots, h.size, h.defers⟩

def FS.view (F : FS) (l : List Nat) (h : Heap) : FS := { F with g := fun t => if l.contains t then F.g t else none, heap := h }
def FS.app (F : FS) (o : Oper) (φ : OpF) : FS := { F with g := fun t => if o.dst = some t then some φ.x else F.g t, heap := setMany F.heap φ.U }

/-- An operation, wanted or passed over. -/
def wp1 (P : Program) (ops : Array Oper) (o : Oper) (Kc : Act → World → Prop) (Qc : Exit → Act → World → Prop) (a : Act) (w : World) : Prop :=
  if Region.wanted o (yielded ops a.tmps) then o.wp P a w Kc Qc ∨ (o.asks P a w ∧ LetsOut Qc) else Kc (a.put o.dst undef) w

/-- What an operation does wherever the slots and rows that it looks at are as here. -/
def QS (K : Ctx) (ops : Array Oper) (o : Oper) (φ : OpF) (F : FS) : Prop :=
  dstOk o.dst F.n = true ∧ (∀ k, k ∈ φ.U.map (·.1) → k ∈ φ.R) ∧
  ∀ h', Agree φ.R F.heap h' → ∀ L a w (Kc : Act → World → Prop) (Qc : Exit → Act → World → Prop), SimF K L (F.view (o.looksAt ops) h') a w →
    (∀ v w' L', φ.x.rep w' (Bar K (setMany h' φ.U) L') L' v → HSim K L' (setMany h' φ.U) w' → Below K.N K.W0 w' → K.N ≤ w'.heap.size → Ext K h'.length h' L w (setMany h' φ.U) L' w' → Kc (a.put o.dst v) w') →
    wp1 K.P ops o Kc Qc a w

section
variable {K : Ctx} {m : Nat} {ops : Array Oper} {Q : Exit → Act → World → Prop}

theorem FS.view_app {F : FS} {oi : Oper} {φ : OpF} {l : List Nat} {h : Heap} (hd : ∀ d, oi.dst = some d → d ∉ l) : (F.app oi φ).view l h = F.view l h := by
  simp only [FS.view, FS.app]
  congr 1
  funext t
  by_cases ht : l.contains t = true
  · rw [if_pos ht, if_pos ht]
    split
    · rename_i hh; exact absurd (by simpa using ht) (hd t hh)
    · rfl
  · rw [if_neg ht, if_neg ht]

theorem Agree.app {R : List Nat} {F : FS} {oi : Oper} {φ : OpF} {h' : Heap} (hf : ∀ k, k ∈ φ.U.map (·.1) → k ∉ R) (ha : Agree R (F.app oi φ).heap h') : Agree R F.heap h' :=
  ⟨ha.len.trans (setMany_length _ _), fun id hid => (ha.at_ id hid).trans (setMany_other _ _ _ (fun hu => hf id hu hid))⟩
theorem Agree.app' {R : List Nat} {F : FS} {oi : Oper} {φ : OpF} {h' : Heap} (hf : ∀ k, k ∈ φ.U.map (·.1) → k ∉ R) (ha : Agree R F.heap h') : Agree R (F.app oi φ).heap h' :=
  ⟨ha.len.trans (setMany_length _ _).symm, fun id hid => (ha.at_ id hid).trans (setMany_other _ _ _ (fun hu => hf id hu hid)).symm⟩

theorem QS.back {oi oj : Oper} {φi φj : OpF} {F : FS} (hd : ∀ d, oi.dst = some d → d ∉ oj.looksAt ops) (hf : ∀ k, k ∈ φi.U.map (·.1) → k ∉ φj.R) (h : QS K ops oj φj (F.app oi φi)) : QS K ops oj φj F :=
  ⟨h.1, h.2.1, fun h' ha L a w Kc Qc hs hk => h.2.2 h' (ha.app' hf) L a w Kc Qc (by rw [FS.view_app hd]; exact hs) hk⟩
theorem QS.fore {oi oj : Oper} {φi φj : OpF} {F : FS} (hd : ∀ d, oi.dst = some d → d ∉ oj.looksAt ops) (hf : ∀ k, k ∈ φi.U.map (·.1) → k ∉ φj.R) (h : QS K ops oj φj F) : QS K ops oj φj (F.app oi φi) :=
  ⟨h.1, h.2.1, fun h' ha L a w Kc Qc hs hk => h.2.2 h' (ha.app hf) L a w Kc Qc (by rw [FS.view_app hd] at hs; exact hs) hk⟩
theorem FS.app_comm {F : FS} {oi oj : Oper} {φi φj : OpF} (hd : ∀ d, oi.dst = some d → oj.dst ≠ some d) (hu : ∀ k, k ∈ φi.U.map (·.1) → k ∉ φj.U.map (·.1)) : (F.app oi φi).app oj φj = (F.app oj φj).app oi φi := by
  simp only [FS.app]
  congr 1
  · funext t
    by_cases h1 : oi.dst = some t
    · rw [if_neg (hd t h1), if_pos h1, if_pos h1]
    · rw [if_neg h1, if_neg h1]
  · exact setMany_comm hu _

/-- The full state behind an operation. -/
theorem QS.run {o : Oper} {φ : OpF} {F : FS} (hq : QS K ops o φ F) {L : Link} {a : Act} {w : World} {Kc : Act → World → Prop} {Qc : Exit → Act → World → Prop} (hs : SimF K L F a w)
    (hk : ∀ a' w' L', SimF K L' (F.app o φ) a' w' → Ext K F.heap.length F.heap L w (setMany F.heap φ.U) L' w' → Kc a' w') : wp1 K.P ops o Kc Qc a w := by
  obtain ⟨hd, _, hq⟩ := hq
  refine hq F.heap ⟨rfl, fun _ _ => rfl⟩ L a w Kc Qc ⟨hs.hs, hs.base, hs.big, fun t x hx => ?_, hs.size, hs.defers⟩ ?_
  · simp only [FS.view] at hx
    split at hx
    · exact hs.slots t x hx
    · simp at hx
  · intro v w' L' hrep hh hb hbig hext
    have hll : ∀ id g x, L id g = some x → L' id g = some x := by
      intro id g x hx
      refine hext.link id g x ?_ hx
      by_cases hlt : id < F.heap.length
      · exact hlt
      · rw [hs.hs.past id g (by rw [List.getElem?_eq_none (by omega)]; rfl)] at hx; simp at hx
    refine hk _ w' L' ⟨hh, hb, hbig, fun t x hx => ?_, ?_, ?_⟩ hext
    · simp only [FS.app] at hx
      split at hx
      · rename_i ht
        cases hx
        rw [ht]
        have hlt := dst_ok hd t ht
        rw [put_getD _ _ _ _ (by rw [hs.size]; exact hlt), if_pos rfl]
        exact hrep
      · rename_i ht
        have : (a.put o.dst v).tmps.getD t undef = a.tmps.getD t undef := by
          cases hdst : o.dst with
          | none => rfl
          | some d =>
            rw [put_getD _ _ _ _ (by rw [hs.size]; exact dst_ok hd d hdst), if_neg (fun he => ht (by rw [hdst, he]))]
        rw [this]
        refine AV.rep_stays hext.stays.bar ?_ hll (hs.slots t x hx)
        rintro b hb (hx | ho)
        · exact .inl hx
        · exact .inr (hext.own b hb ho)
    · cases o.dst <;> simp [Act.put, hs.size, FS.app]
    · cases o.dst <;> simp [Act.put, hs.defers, FS.app]

/-- Whatever order is picked from here on. -/
def AnyF (K : Ctx) (ops : Array Oper) (φ : Nat → OpF) (Q : FS → Prop) : Nat → Array Bool → FS → Prop
  | 0, listed, F => Region.ready .any ops listed = [] ∧ Q F
  | fuel + 1, listed, F => (Region.ready .any ops listed = [] → Q F) ∧
    ∀ i o, i ∈ Region.ready .any ops listed → ops[i]? = some o → QS K ops o (φ i) F ∧ AnyF K ops φ Q fuel (listed.setIfInBounds i true) (F.app o (φ i))

theorem AnyF.run {φ : Nat → OpF} {QF : FS → Prop} : ∀ (fuel : Nat) (listed : Array Bool) (F : FS), AnyF K ops φ QF fuel listed F → ∀ {L : Link} {a : Act} {w : World}, SimF K L F a w →
    (∀ F' a' w' L', QF F' → SimF K L' F' a' w' → Ext K F.heap.length F.heap L w F'.heap L' w' → Q .normal a' w') → wpAny K.P .any ops Q fuel listed a w
  | 0, listed, F, h, L, a, w, hs, hq => ⟨h.1, hq F a w L h.2 hs (Ext.refl ..)⟩
  | fuel + 1, listed, F, h, L, a, w, hs, hq => by
    refine ⟨fun h0 => hq F a w L (h.1 h0) hs (Ext.refl ..), fun i hi => ?_⟩
    obtain ⟨_, o, ho, _⟩ := mem_ready.1 hi
    obtain ⟨h1, h2⟩ := h.2 i o hi ho
    unfold wpOp
    simp only [ho]
    refine h1.run hs fun a' w' L' hs' hext => AnyF.run fuel _ _ h2 hs' fun F' a'' w'' L'' hF hs'' hext' => hq F' a'' w'' L'' hF hs'' ?_
    have hl : (F.app o (φ i)).heap.length = F.heap.length := setMany_length _ _
    rw [hl] at hext'
    exact hext.trans hext'

/-! ### What waits for what -/
def dep (ops : Array Oper) : Nat → Nat → Nat → Bool
  | 0, _, _ => false
  | f + 1, j, i => match ops[j]? with
    | some oj => oj.after.any fun e => Region.binds .any e && (e.on == i || dep ops f e.on i)
    | none => false
def Down (ops : Array Oper) (listed : Array Bool) : Prop := ∀ m om, ops[m]? = some om → listed.getD m false = true → ∀ e ∈ om.after, Region.binds .any e = true → listed.getD e.on false = true
theorem getD_mono {listed : Array Bool} {i j : Nat} (h : listed.getD j false = true) : (listed.setIfInBounds i true).getD j false = true := by
  by_cases hij : i = j
  · subst hij
    have hlt : i < listed.size := by
      by_cases hl : i < listed.size
      · exact hl
      · simp [Array.getD, hl] at h
    simp [Array.getD, hlt]
  · rw [getD_set_ne false hij]; exact h
theorem dep_listed {listed : Array Bool} (hD : Down ops listed) {i : Nat} : ∀ (f m : Nat), listed.getD m false = true → dep ops f m i = true → listed.getD i false = true
  | 0, _, _, h => by simp [dep] at h
  | f + 1, m, hm, h => by
    unfold dep at h
    cases ho : ops[m]? with
    | none => rw [ho] at h; simp at h
    | some om =>
      rw [ho] at h
      simp only [Array.any_eq_true', Bool.and_eq_true, Bool.or_eq_true, beq_iff_eq] at h
      obtain ⟨e, he, hb, h | h⟩ := h
      · rw [← h]; exact hD m om ho hm e he hb
      · exact dep_listed hD f e.on (hD m om ho hm e he hb) h
theorem getD_false_of {listed : Array Bool} {i : Nat} (h : listed.getD i true = false) : listed.getD i false = false := by
  by_cases hl : i < listed.size
  · simp [Array.getD, hl] at h ⊢; exact h
  · simp [Array.getD, hl] at h
theorem ready_dep {listed : Array Bool} (hD : Down ops listed) {i j : Nat} (hj : j ∈ Region.ready .any ops listed) (hi : listed.getD i true = false) (f : Nat) : dep ops f j i = false := by
  obtain ⟨_, oj, hoj, hall⟩ := mem_ready.1 hj
  have hi' := getD_false_of hi
  cases f with
  | zero => rfl
  | succ f =>
    by_cases h : dep ops (f + 1) j i = true
    · exfalso
      unfold dep at h
      rw [hoj] at h
      simp only [Array.any_eq_true', Bool.and_eq_true, Bool.or_eq_true, beq_iff_eq] at h
      obtain ⟨e, he, hb, h | h⟩ := h
      · have := hall e he hb; rw [h, hi'] at this; cases this
      · have := dep_listed hD f e.on (hall e he hb) h; rw [hi'] at this; cases this
    · simpa using h
theorem Down.set {listed : Array Bool} (hD : Down ops listed) {j : Nat} (hj : j ∈ Region.ready .any ops listed) : Down ops (listed.setIfInBounds j true) := by
  obtain ⟨_, oj, hoj, hall⟩ := mem_ready.1 hj
  intro m om hm hl e he hb
  by_cases hjm : j = m
  · subst hjm; rw [hoj] at hm; cases hm
    exact getD_mono (hall e he hb)
  · rw [getD_set_ne false hjm] at hl
    exact getD_mono (hD m om hm hl e he hb)
theorem Down.none {n : Nat} : Down ops (Array.replicate n false) := by
  intro m om _ hl
  by_cases h : m < n <;> simp [Array.getD, h] at hl

def feet (φ : Nat → OpF) (i j : Nat) : Bool := ((φ i).U.map (·.1)).all (fun k => !(φ j).R.contains k) && ((φ j).U.map (·.1)).all (fun k => !(φ i).R.contains k)
def freeF (ops : Array Oper) (φ : Nat → OpF) (listed : Array Bool) (i : Nat) : Bool :=
  (List.range ops.size).all fun j => j == i || listed.getD j true || (match ops[i]?, ops[j]? with | some oi, some oj => oi.apart ops oj && feet φ i j | _, _ => false) || dep ops 3 j i
def lexF (ops : Array Oper) (φ : Nat → OpF) : Nat → Nat → Array Bool → Bool
  | 0, _, listed => (Region.ready .any ops listed).isEmpty
  | fuel + 1, k, listed => (Region.ready .any ops listed).contains k && freeF ops φ listed k && lexF ops φ fuel (k + 1) (listed.setIfInBounds k true)

theorem freeF_spec {φ : Nat → OpF} {listed : Array Bool} {i : Nat} {oi : Oper} (hi : ops[i]? = some oi) (h : freeF ops φ listed i = true) : ∀ j oj, ops[j]? = some oj → j ≠ i → listed.getD j true = false → dep ops 3 j i = false → oi.apart ops oj = true ∧ feet φ i j = true := by
  intro j oj hj hne hun hno
  have hlt : j < ops.size := (Array.getElem?_eq_some_iff.1 hj).1
  simp only [freeF, List.all_eq_true, List.mem_range] at h
  have := h j hlt
  rw [hun, hi, hj, hno] at this
  simpa [hne] using this

theorem feet_spec {φ : Nat → OpF} {i j : Nat} (h : feet φ i j = true) : (∀ k, k ∈ (φ i).U.map (·.1) → k ∉ (φ j).R) ∧ (∀ k, k ∈ (φ j).U.map (·.1) → k ∉ (φ i).R) := by
  simp only [feet, Bool.and_eq_true, List.all_eq_true] at h
  exact ⟨fun k hk => by simpa using h.1 k hk, fun k hk => by simpa using h.2 k hk⟩

theorem AnyF.first {φ : Nat → OpF} {QF : FS → Prop} {i : Nat} {oi : Oper} (hi : ops[i]? = some oi) : ∀ (fuel : Nat) (listed : Array Bool) (F : FS),
    (∀ j oj, ops[j]? = some oj → j ≠ i → listed.getD j true = false → dep ops 3 j i = false → oi.apart ops oj = true ∧ feet φ i j = true) →
    Down ops listed → i ∈ Region.ready .any ops listed → QS K ops oi (φ i) F → AnyF K ops φ QF fuel (listed.setIfInBounds i true) (F.app oi (φ i)) → AnyF K ops φ QF (fuel + 1) listed F := by
  intro fuel
  induction fuel with
  | zero =>
    intro listed F _ _ hr hy H
    refine ⟨fun h => (by rw [h] at hr; cases hr), fun j oj hj hoj => ?_⟩
    by_cases hji : j = i
    · subst hji; rw [hi] at hoj; cases hoj; exact ⟨hy, H⟩
    · have := ready_mono hj hji
      rw [H.1] at this
      cases this
  | succ fuel ih =>
    intro listed F hfree hD hr hy H
    refine ⟨fun h => (by rw [h] at hr; cases hr), fun j oj hj hoj => ?_⟩
    by_cases hji : j = i
    · subst hji; rw [hi] at hoj; cases hoj; exact ⟨hy, H⟩
    · obtain ⟨h1, h1'⟩ := H.2 j oj (ready_mono hj hji) hoj
      have hjun := (mem_ready.1 hj).1
      have hnot := ready_dep hD hj (mem_ready.1 hr).1 3
      obtain ⟨hap, hft⟩ := hfree j oj hoj hji hjun hnot
      obtain ⟨a1, a2, a3⟩ := Oper.apart_spec hap
      obtain ⟨f1, f2⟩ := feet_spec hft
      have hfree' : ∀ k ok, ops[k]? = some ok → k ≠ i → (listed.setIfInBounds j true).getD k true = false →
          dep ops 3 k i = false → oi.apart ops ok = true ∧ feet φ i k = true := fun k ok hk hki hun hno => by
        refine hfree k ok hk hki ?_ hno
        by_cases hjk : j = k
        · subst hjk; exact hjun
        · rw [getD_set_ne true hjk] at hun; exact hun
      refine ⟨h1.back a1 f1, ih (listed.setIfInBounds j true) (F.app oj (φ j)) hfree' (hD.set hj) (ready_mono hr (Ne.symm hji)) (hy.fore a3 f2) ?_⟩
      rw [Array.setIfInBounds_comm _ _ hji, ← FS.app_comm a2 (fun k hk hk' => f1 k hk (h1.2.1 k hk'))]
      exact h1'

/-- The walk in the order of the text. -/
def LexF (K : Ctx) (ops : Array Oper) (φ : Nat → OpF) (Q : FS → Prop) : List Oper → Nat → FS → Prop
  | [], _, F => Q F
  | o :: rest, k, F => QS K ops o (φ k) F ∧ LexF K ops φ Q rest (k + 1) (F.app o (φ k))
theorem LexF.any {φ : Nat → OpF} {QF : FS → Prop} : ∀ (l : List Oper) (k : Nat) (listed : Array Bool) (F : FS), (∀ j, l[j]? = ops[k + j]?) → lexF ops φ l.length k listed = true → Down ops listed → LexF K ops φ QF l k F → AnyF K ops φ QF l.length listed F
  | [], _, _, _, _, hB, _, h => ⟨by simpa [lexF] using hB, h⟩
  | o :: l, k, listed, F, hl, hB, hD, h => by
    have h0 : ops[k]? = some o := by simpa using (hl 0).symm
    simp only [List.length_cons, lexF, Bool.and_eq_true] at hB
    obtain ⟨⟨hr, hf⟩, hB'⟩ := hB
    exact AnyF.first h0 l.length listed F (freeF_spec h0 hf) hD (by simpa using hr) h.1 (LexF.any l (k + 1) _ _ (fun j => by have := hl (j + 1); simpa [Nat.add_assoc, Nat.add_comm 1 j] using this) hB' (hD.set (by simpa using hr)) h.2)

/-! ### In the words of states -/
/-- What one operation does, in a state's words: at the slots and rows that it looks at. -/
def At (K : Ctx) (ops : Array Oper) (o : Oper) (φ : OpF) (S : St) : Prop :=
  dstOk o.dst S.n = true ∧ (φ.U.map (·.1)).all (fun k => φ.R.contains k) = true ∧
  ∀ h', Agree φ.R S.heap h' → ∀ m', QSt K m' ops o φ { S with env := S.env.filter (fun p => (o.looksAt ops).contains p.1), heap := h' }
where
  QSt (K : Ctx) (m' : Nat) (ops : Array Oper) (o : Oper) (φ : OpF) (S : St) : Prop :=
    (∃ G x, φ.x = .opt G x ∧ φ.U = [] ∧ Grd K ops S o G ∧ (G = true → Val K S o x)) ∨ (o.guard = none ∧ φ.U = [] ∧ Val K S o φ.x) ∨
    ((o.guard = none ∨ Grd K ops S o true) ∧ ∀ L a w (Kc : Act → World → Prop) (Qc : Exit → Act → World → Prop), Sim K L S a w → (∀ v w' L', Sim K L' { S with env := [], heap := setMany S.heap φ.U } a w' → φ.x.rep w' (Bar K (setMany S.heap φ.U) L') L' v → Ext K m' S.heap L w (setMany S.heap φ.U) L' w' → Kc (a.put o.dst v) w') → o.wp K.P a w Kc Qc) ∨
    (∃ G x, φ.x = .opt G x ∧ φ.U = [] ∧ Grd K ops S o G ∧ (G = true → ∀ L a w (Kc : Act → World → Prop) (Qc : Exit → Act → World → Prop), Sim K L S a w → (∀ v w' L', Sim K L' { S with env := [] } a w' → x.rep w' (Bar K S.heap L') L' v → Ext K m' S.heap L w S.heap L' w' → Kc (a.put o.dst v) w') → o.wp K.P a w Kc Qc))

theorem look_filter (p : Nat → Bool) : ∀ (l : List (Nat × AV)) (t : Nat), look (l.filter fun q => p q.1) t = if p t then look l t else none
  | [], t => by simp [look]
  | (k, x) :: l, t => by
    simp only [List.filter_cons]
    by_cases hk : p k = true
    · rw [if_pos hk]
      simp only [look_cons]
      by_cases he : k = t
      · subst he; simp [hk]
      · rw [if_neg he, if_neg he]; exact look_filter p l t
    · rw [if_neg hk, look_filter p l t]
      simp only [look_cons]
      by_cases he : k = t
      · subst he; simp [hk]
      · rw [if_neg he]

theorem At.qs {o : Oper} {φ : OpF} {S : St} (h : At K ops o φ S) : QS K ops o φ S.fn := by
  obtain ⟨hd, hu, h⟩ := h
  refine ⟨hd, fun k hk => by simp only [List.all_eq_true] at hu; simpa using hu k hk, ?_⟩
  intro h' ha L a w Kc Qc hs hk
  have hs' : Sim K L { S with env := S.env.filter (fun p => (o.looksAt ops).contains p.1), heap := h' } a w := by
    refine ⟨hs.hs, hs.base, hs.big, fun t x hx => hs.slots t x ?_, hs.size, hs.defers⟩
    simp only [St.get, look_filter] at hx
    exact hx
  have sameK : ∀ (v : Value) (x : AV), x.rep w (Bar K h' L) L v → φ.x = x → φ.U = [] → Kc (a.put o.dst v) w := by
    intro v x hx he hU
    have e : setMany h' φ.U = h' := by rw [hU]; rfl
    refine hk v w L (by rw [e, he]; exact hx) (by rw [e]; exact hs.hs) hs.base hs.big (by rw [e]; exact Ext.refl ..)
  unfold wp1
  rcases h h' ha h'.length with ⟨G, x, hx, hU, hg, hv⟩ | ⟨hg, hU, hv⟩ | ⟨hg, hv⟩ | ⟨G, x, hx, hU, hg, hv⟩
  · rw [hg L a w hs']
    cases G with
    | true =>
      obtain ⟨v, hr, hrep⟩ := hv rfl L a w hs'
      simp only [if_true, Oper.wp, hr, Oper.upon_value]
      exact .inl (sameK v (.opt true x) (by unfold AV.rep; exact hrep) hx hU)
    | false =>
      simp only [Bool.false_eq_true, if_false]
      exact sameK undef (.opt false x) (by unfold AV.rep; simp) hx hU
  · obtain ⟨v, hr, hrep⟩ := hv L a w hs'
    rw [if_pos (by simp [Region.wanted, hg])]
    simp only [Oper.wp, hr, Oper.upon_value]
    exact .inl (sameK v φ.x hrep rfl hU)
  · rw [if_pos (by rcases hg with hg | hg; simp [Region.wanted, hg]; exact hg L a w hs')]
    exact .inl (hv L a w Kc Qc hs' fun v w' L' hs'' hrep hext => hk v w' L' hrep hs''.hs hs''.base hs''.big hext)
  · rw [hg L a w hs']
    cases G with
    | true =>
      simp only [if_true]
      refine .inl (hv rfl L a w Kc Qc hs' fun v w' L' hs'' hrep hext => ?_)
      have e : setMany h' φ.U = h' := by rw [hU]; rfl
      exact hk v w' L' (by rw [hx, e]; unfold AV.rep; exact hrep) (by rw [e]; exact hs''.hs) hs''.base hs''.big (by rw [e]; exact hext)
    | false =>
      simp only [Bool.false_eq_true, if_false]
      exact sameK undef (.opt false x) (by unfold AV.rep; simp) hx hU

theorem At.val {o : Oper} {S : St} {x : AV} {R : List Nat} (hg : o.guard = none) (hd : dstOk o.dst S.n = true) (hv : ∀ h', Agree R S.heap h' → Val K { S with env := S.env.filter (fun p => (o.looksAt ops).contains p.1), heap := h' } o x) : At K ops o ⟨x, R, []⟩ S :=
  ⟨hd, rfl, fun h' ha m' => .inr (.inl ⟨hg, rfl, hv h' ha⟩)⟩
theorem At.gval {o : Oper} {S : St} {x : AV} {R : List Nat} {G : Bool} (hg : ∀ h', Grd K ops { S with env := S.env.filter (fun p => (o.looksAt ops).contains p.1), heap := h' } o G) (hd : dstOk o.dst S.n = true)
    (hv : G = true → ∀ h', Agree R S.heap h' → Val K { S with env := S.env.filter (fun p => (o.looksAt ops).contains p.1), heap := h' } o x) : At K ops o ⟨.opt G x, R, []⟩ S :=
  ⟨hd, rfl, fun h' ha m' => .inl ⟨G, x, rfl, rfl, hg h', fun hG => hv hG h' ha⟩⟩

/-- The walk in the order of the text, in the words of states. -/
def LexS (K : Ctx) (ops : Array Oper) (Q : St → Prop) : List Oper → Nat → (Nat → OpF) → St → Prop
  | [], _, _, S => Q S
  | o :: rest, k, φ, S => At K ops o (φ k) S ∧ LexS K ops Q rest (k + 1) φ (({ S with heap := setMany S.heap (φ k).U } : St).putD o.dst (φ k).x)

theorem app_fn (S : St) (o : Oper) (φ : OpF) : S.fn.app o φ = (({ S with heap := setMany S.heap φ.U } : St).putD o.dst φ.x).fn := by
  simp only [FS.app, St.fn]
  cases hd : o.dst with
  | none => simp only [St.putD]; rfl
  | some d =>
    simp only [St.putD, St.put]
    congr 1
    funext t
    have := St.get_put { S with heap := setMany S.heap φ.U } d t φ.x
    simp only [St.put] at this
    rw [this]
    simp only [Option.some.injEq]
    rfl
theorem LexS.f {φ : Nat → OpF} {QS' : St → Prop} : ∀ (l : List Oper) (k : Nat) (S : St), LexS K ops QS' l k φ S → LexF K ops φ (fun F => ∃ S', F = S'.fn ∧ QS' S') l k S.fn
  | [], k, S, h => ⟨S, rfl, h⟩
  | o :: l, k, S, h => ⟨h.1.qs, by rw [app_fn]; exact LexS.f l (k + 1) _ h.2⟩

theorem W.draw {id : Nat} {l : List Oper} {S : St} {Q : Post} {φ : Nat → OpF} (hmix : K.P.follows .mixedOrders = true) (hB : lexF l.toArray φ l.length 0 (Array.replicate l.length false) = true) (hm : m ≤ S.heap.length)
    (h : LexS K l.toArray (fun S' => Q .normal S') l 0 φ S) : W K m (.region id l.toArray true) Q S := by
  intro L a w hs
  refine wp_region_any hmix ?_
  have hany := LexF.any (K := K) l 0 (Array.replicate l.length false) S.fn (by simp) hB Down.none (LexS.f l 0 S h)
  have hs' : Sim K L S a { w with drawn := w.drawn + 1 } := hs.heap_same rfl rfl rfl rfl
  have := AnyF.run (Q := lift K m S L w Q) l.length _ S.fn hany hs'.fn ?_
  · simpa using this
  · rintro F' a' w' L' ⟨S', rfl, hq⟩ hsf hext
    have e0 : Ext K m S.heap L w S.heap L { w with drawn := w.drawn + 1 } := Ext.heap_same rfl
    exact ⟨L', S', hq, hsf.st, e0.trans ⟨fun id g x hi hx => hext.link id g x (by show id < S.heap.length; omega) hx, hext.stays, hext.own⟩⟩
end
end Go.Aw
namespace Go.Aw
open Go.RowKit

section
variable {K : Ctx} {m : Nat} {ops : Array Oper}

/-- As LexS, what is yielded and left found on the way; 'ft k': the rows that operation k looks at, and those that it leaves. -/
def LexE (K : Ctx) (ops : Array Oper) (ft : Nat → List Nat × List Nat) (Q : St → Prop) : List Oper → Nat → St → Prop
  | [], _, S => Q S
  | o :: rest, k, S => ∃ x U, U.map (·.1) = (ft k).2 ∧ At K ops o ⟨x, (ft k).1, U⟩ S ∧ LexE K ops ft Q rest (k + 1) (({ S with heap := setMany S.heap U } : St).putD o.dst x)

theorem LexE.s {ft : Nat → List Nat × List Nat} {Q : St → Prop} : ∀ (l : List Oper) (k : Nat) (S : St), LexE K ops ft Q l k S → ∃ φ : Nat → OpF, (∀ j, k ≤ j → j < k + l.length → (φ j).R = (ft j).1 ∧ (φ j).U.map (·.1) = (ft j).2) ∧ LexS K ops Q l k φ S
  | [], k, S, h => ⟨fun _ => ⟨.any, [], []⟩, fun j h1 h2 => by simp at h2; omega, h⟩
  | o :: l, k, S, ⟨x, U, hU, hA, h⟩ => by
    obtain ⟨φ, hφ, hS⟩ := LexE.s l (k + 1) _ h
    refine ⟨fun j => if j = k then ⟨x, (ft k).1, U⟩ else φ j, fun j h1 h2 => ?_, ?_⟩
    · by_cases hj : j = k
      · subst hj; simp [hU]
      · simp only [hj, if_false]; simp only [List.length_cons] at h2; exact hφ j (by omega) (by omega)
    · refine ⟨by simpa using hA, ?_⟩
      have : ∀ (l : List Oper) (i : Nat) (S : St) (φ' : Nat → OpF), k < i → LexS K ops Q l i φ' S → LexS K ops Q l i (fun j => if j = k then ⟨x, (ft k).1, U⟩ else φ' j) S := by
        intro l
        induction l with
        | nil => intro i S φ' _ h; exact h
        | cons o l ih =>
          intro i S φ' hi h
          have hne : i ≠ k := by omega
          have h2 := ih (i + 1) _ φ' (by omega) h.2
          unfold LexS
          simp only [hne, if_false]
          exact ⟨h.1, h2⟩
      simpa using this l (k + 1) _ φ (by omega) hS

def feetT (ft : Nat → List Nat × List Nat) (i j : Nat) : Bool := ((ft i).2).all (fun k => !((ft j).1).contains k) && ((ft j).2).all (fun k => !((ft i).1).contains k)
def freeT (ops : Array Oper) (ft : Nat → List Nat × List Nat) (listed : Array Bool) (i : Nat) : Bool :=
  (List.range ops.size).all fun j => j == i || listed.getD j true || (match ops[i]?, ops[j]? with | some oi, some oj => oi.apart ops oj && feetT ft i j | _, _ => false) || dep ops 3 j i
def lexT (ops : Array Oper) (ft : Nat → List Nat × List Nat) : Nat → Nat → Array Bool → Bool
  | 0, _, listed => (Region.ready .any ops listed).isEmpty
  | fuel + 1, k, listed => (Region.ready .any ops listed).contains k && freeT ops ft listed k && lexT ops ft fuel (k + 1) (listed.setIfInBounds k true)

theorem lexT_lexF {ft : Nat → List Nat × List Nat} {φ : Nat → OpF} (h : ∀ j, j < ops.size → (φ j).R = (ft j).1 ∧ (φ j).U.map (·.1) = (ft j).2) : ∀ (n k : Nat) (listed : Array Bool), k + n ≤ ops.size → lexT ops ft n k listed = true → lexF ops φ n k listed = true
  | 0, _, _, _, hB => hB
  | n + 1, k, listed, hk, hB => by
    simp only [lexT, Bool.and_eq_true] at hB
    simp only [lexF, Bool.and_eq_true]
    refine ⟨⟨hB.1.1, ?_⟩, lexT_lexF h n (k + 1) _ (by omega) hB.2⟩
    have h2 := hB.1.2
    simp only [freeT, List.all_eq_true, List.mem_range] at h2
    simp only [freeF, List.all_eq_true, List.mem_range]
    intro j hj
    have := h2 j hj
    have hf : feet φ k j = feetT ft k j := by
      unfold feet feetT
      rw [(h k (by omega)).1, (h k (by omega)).2, (h j hj).1, (h j hj).2]
    rw [hf]; exact this

theorem W.drawE {id : Nat} {l : List Oper} {S : St} {Q : Post} (ft : Nat → List Nat × List Nat) (hmix : K.P.follows .mixedOrders = true) (hB : lexT l.toArray ft l.length 0 (Array.replicate l.length false) = true) (hm : m ≤ S.heap.length)
    (h : LexE K l.toArray ft (fun S' => Q .normal S') l 0 S) : W K m (.region id l.toArray true) Q S := by
  obtain ⟨φ, hφ, hS⟩ := LexE.s l 0 S h
  exact W.draw hmix (lexT_lexF (fun j hj => hφ j (Nat.zero_le _) (by simpa using hj)) _ _ _ (by simp) hB) hm hS

theorem LexE.nil {ft : Nat → List Nat × List Nat} {Q : St → Prop} {k : Nat} {S : St} (h : Q S) : LexE K ops ft Q [] k S := h
theorem LexE.cons {ft : Nat → List Nat × List Nat} {Q : St → Prop} {k : Nat} {S : St} {o : Oper} {rest : List Oper} {x : AV} {U : List (Nat × Option Row)} (hU : U.map (·.1) = (ft k).2) (hA : At K ops o ⟨x, (ft k).1, U⟩ S)
    (h : LexE K ops ft Q rest (k + 1) (({ S with heap := setMany S.heap U } : St).putD o.dst x)) : LexE K ops ft Q (o :: rest) k S := ⟨x, U, hU, hA, h⟩
theorem LexE.val {ft : Nat → List Nat × List Nat} {Q : St → Prop} {k : Nat} {S : St} {o : Oper} {rest : List Oper} {x : AV} (hf : (ft k).2 = []) (hg : o.guard = none) (hd : dstOk o.dst S.n = true)
    (hv : ∀ h', Agree (ft k).1 S.heap h' → Val K { S with env := S.env.filter (fun p => (o.looksAt ops).contains p.1), heap := h' } o x) (h : LexE K ops ft Q rest (k + 1) (S.putD o.dst x)) : LexE K ops ft Q (o :: rest) k S :=
  ⟨x, [], hf.symm, At.val hg hd hv, h⟩
theorem LexE.gval {ft : Nat → List Nat × List Nat} {Q : St → Prop} {k : Nat} {S : St} {o : Oper} {rest : List Oper} {x : AV} {G : Bool} (hf : (ft k).2 = []) (hg : ∀ h', Grd K ops { S with env := S.env.filter (fun p => (o.looksAt ops).contains p.1), heap := h' } o G) (hd : dstOk o.dst S.n = true)
    (hv : G = true → ∀ h', Agree (ft k).1 S.heap h' → Val K { S with env := S.env.filter (fun p => (o.looksAt ops).contains p.1), heap := h' } o x) (h : LexE K ops ft Q rest (k + 1) (S.putD o.dst (.opt G x))) : LexE K ops ft Q (o :: rest) k S :=
  ⟨.opt G x, [], hf.symm, At.gval hg hd hv, h⟩
theorem LexE.forget {ft : Nat → List Nat × List Nat} {Q : St → Prop} {k : Nat} {S : St} {l : List Oper} (h : LexE K ops ft Q l k S) : LexE K ops ft Q l k S := h

/-- An operation with an effect, as a rule of its own says it. -/
theorem At.stp {o : Oper} {S : St} {x : AV} {R : List Nat} {U : List (Nat × Option Row)} (hg : o.guard = none) (hd : dstOk o.dst S.n = true) (hU : (U.map (·.1)).all (fun k => R.contains k) = true) (hx : o.dst = none → x = .any)
    (hv : ∀ h', Agree R S.heap h' → ∀ m', Stp K m' { S with env := S.env.filter (fun p => (o.looksAt ops).contains p.1), heap := h' } o (({ S with env := S.env.filter (fun p => (o.looksAt ops).contains p.1), heap := setMany h' U } : St).putD o.dst x)) : At K ops o ⟨x, R, U⟩ S :=
  ⟨hd, hU, fun h' ha m' => .inr (.inr (.inl ⟨.inl hg, fun L a w Kc Qc hs hk => by
    obtain ⟨r, v, w', L', hr, hrv, hs', hext⟩ := hv h' ha m' L a w hs
    rw [putD_heap] at hext
    have hheap : ∀ {y : AV}, (({ S with env := S.env.filter (fun p => (o.looksAt ops).contains p.1), heap := setMany h' U } : St).putD o.dst y).heap = setMany h' U := fun {y} => putD_heap _ _ _
    have hrep : x.rep w' (Bar K (setMany h' U) L') L' v := by
      cases hdst : o.dst with
      | none => rw [hx hdst]; trivial
      | some d =>
        have h1 := hs'.slots d x (by rw [hdst]; simp only [St.putD]; rw [St.get_put, if_pos rfl])
        rw [hheap] at h1
        rw [hdst, put_getD _ _ _ _ (by rw [hs.size]; exact dst_ok hd d hdst), if_pos rfl] at h1
        exact h1
    have hs0 : Sim K L' { S with env := [], heap := setMany h' U } a w' := by
      have h1 := hs'.hs
      rw [hheap] at h1
      exact ⟨h1, hs'.base, hs'.big, fun t y hy => by simp [St.get, look] at hy, hs.size, hs.defers⟩
    have := hk v w' L' hs0 hrep hext
    simp only [Oper.wp, hr]
    rcases hrv with rfl | ⟨rfl, rfl⟩
    · rw [Oper.upon_value]; exact this
    · rw [Oper.upon_skip]; exact this⟩))⟩

theorem At.gstp {o : Oper} {S : St} {x : AV} {R : List Nat} {U : List (Nat × Option Row)} (hg : ∀ h', Grd K ops { S with env := S.env.filter (fun p => (o.looksAt ops).contains p.1), heap := h' } o true) (hd : dstOk o.dst S.n = true) (hU : (U.map (·.1)).all (fun k => R.contains k) = true) (hx : o.dst = none → x = .any)
    (hv : ∀ h', Agree R S.heap h' → ∀ m', Stp K m' { S with env := S.env.filter (fun p => (o.looksAt ops).contains p.1), heap := h' } o (({ S with env := S.env.filter (fun p => (o.looksAt ops).contains p.1), heap := setMany h' U } : St).putD o.dst x)) : At K ops o ⟨x, R, U⟩ S :=
  ⟨hd, hU, fun h' ha m' => .inr (.inr (.inl ⟨.inr (hg h'), fun L a w Kc Qc hs hk => by
    obtain ⟨r, v, w', L', hr, hrv, hs', hext⟩ := hv h' ha m' L a w hs
    rw [putD_heap] at hext
    have hheap : ∀ {y : AV}, (({ S with env := S.env.filter (fun p => (o.looksAt ops).contains p.1), heap := setMany h' U } : St).putD o.dst y).heap = setMany h' U := fun {y} => putD_heap _ _ _
    have hrep : x.rep w' (Bar K (setMany h' U) L') L' v := by
      cases hdst : o.dst with
      | none => rw [hx hdst]; trivial
      | some d =>
        have h1 := hs'.slots d x (by rw [hdst]; simp only [St.putD]; rw [St.get_put, if_pos rfl])
        rw [hheap] at h1
        rw [hdst, put_getD _ _ _ _ (by rw [hs.size]; exact dst_ok hd d hdst), if_pos rfl] at h1
        exact h1
    have hs0 : Sim K L' { S with env := [], heap := setMany h' U } a w' := by
      have h1 := hs'.hs
      rw [hheap] at h1
      exact ⟨h1, hs'.base, hs'.big, fun t y hy => by simp [St.get, look] at hy, hs.size, hs.defers⟩
    have := hk v w' L' hs0 hrep hext
    simp only [Oper.wp, hr]
    rcases hrv with rfl | ⟨rfl, rfl⟩
    · rw [Oper.upon_value]; exact this
    · rw [Oper.upon_skip]; exact this⟩))⟩

/-- A call of frozen values whose result is known. -/
theorem At.call {d : Option Nat} {ty : TypeId} {pos : String} {af : Array Edge} {c : Operand} {f : FuncId} {xs : List Operand} {ts : Array TypeId} {args caps : List AV} {S : St} {r : AV} {R : List Nat} (hf : Callable K.P f)
    (hcl : ∀ h', Fun K { S with env := S.env.filter (fun p => ((⟨d, .call ⟨.value c, xs.toArray, ts⟩, ty, pos, af, none⟩ : Oper).looksAt ops).contains p.1), heap := h' } c f caps)
    (hx : ∀ h', Agree R S.heap h' → EvL K { S with env := S.env.filter (fun p => ((⟨d, .call ⟨.value c, xs.toArray, ts⟩, ty, pos, af, none⟩ : Oper).looksAt ops).contains p.1), heap := h' } xs args) (hlo : AV.loL [] (args ++ caps) = true) (hd : dstOk d S.n = true)
    (hc : AC ⟨K.P, K.W0, K.N⟩ f (args ++ caps) [] fun r' h => h = [] ∧ r' = r) : At K ops ⟨d, .call ⟨.value c, xs.toArray, ts⟩, ty, pos, af, none⟩ ⟨r, R, []⟩ S :=
  ⟨hd, rfl, fun h' ha m' => .inr (.inr (.inl ⟨.inl rfl, fun L a w Kc Qc hs hk => by
    obtain ⟨cs, ec, hcs⟩ := hcl h' L a w hs
    simp only [Oper.wp, run_callV hf ec, Oper.upon_enter]
    have hxs := AV.repL_append (EvL.rep hs (hx h' ha)) hcs
    rw [show (xs.toArray.map a.eval ++ cs) = (xs.map a.eval ++ cs.toList).toArray from by simp]
    refine (call_frozen (m := m') hs hxs hlo hc (fun _ _ h => h.1)).mono ?_
    rintro e w' ⟨r', v, rfl, ⟨_, rfl⟩, hs', hrep, hext⟩
    exact hk v w' L ⟨hs'.hs, hs'.base, hs'.big, fun t y hy => by simp [St.get, look] at hy, hs'.size, hs'.defers⟩ hrep hext⟩))⟩
/-- A guarded call of frozen values whose result is known. -/
theorem At.gcall {d : Option Nat} {ty : TypeId} {pos : String} {af : Array Edge} {gd : Option (Nat × Bool)} {f : FuncId} {xs : List Operand} {ts : Array TypeId} {args : List AV} {S : St} {r : AV} {R : List Nat} {G : Bool} (hf : Callable K.P f)
    (hg : ∀ h', Grd K ops { S with env := S.env.filter (fun p => ((⟨d, .call ⟨.value (.func f), xs.toArray, ts⟩, ty, pos, af, gd⟩ : Oper).looksAt ops).contains p.1), heap := h' } ⟨d, .call ⟨.value (.func f), xs.toArray, ts⟩, ty, pos, af, gd⟩ G)
    (hx : G = true → ∀ h', Agree R S.heap h' → EvL K { S with env := S.env.filter (fun p => ((⟨d, .call ⟨.value (.func f), xs.toArray, ts⟩, ty, pos, af, gd⟩ : Oper).looksAt ops).contains p.1), heap := h' } xs args) (hlo : AV.loL [] args = true) (hd : dstOk d S.n = true)
    (hc : G = true → AC ⟨K.P, K.W0, K.N⟩ f args [] fun r' h => h = [] ∧ r' = r) : At K ops ⟨d, .call ⟨.value (.func f), xs.toArray, ts⟩, ty, pos, af, gd⟩ ⟨.opt G r, R, []⟩ S :=
  ⟨hd, rfl, fun h' ha m' => .inr (.inr (.inr ⟨G, r, rfl, rfl, hg h', fun hG L a w Kc Qc hs hk => by
    simp only [Oper.wp, run_callV (cs := #[]) (c := .func f) (ρ := a.eval) hf rfl, Oper.upon_enter]
    have hxs := EvL.rep hs (hx hG h' ha)
    rw [show (xs.toArray.map a.eval ++ #[]) = (xs.map a.eval).toArray from by simp]
    refine (call_frozen (m := m') hs hxs hlo (hc hG) (fun _ _ h => h.1)).mono ?_
    rintro e w' ⟨r', v, rfl, ⟨_, rfl⟩, hs', hrep, hext⟩
    exact hk v w' L ⟨hs'.hs, hs'.base, hs'.big, fun t y hy => by simp [St.get, look] at hy, hs'.size, hs'.defers⟩ hrep hext⟩))⟩

theorem LexE.stp {ft : Nat → List Nat × List Nat} {Q : St → Prop} {k : Nat} {S : St} {o : Oper} {rest : List Oper} {x : AV} {U : List (Nat × Option Row)} (hU : U.map (·.1) = (ft k).2) (hg : o.guard = none) (hd : dstOk o.dst S.n = true) (hR : ((ft k).2).all (fun j => ((ft k).1).contains j) = true) (hx : o.dst = none → x = .any)
    (hv : ∀ h', Agree (ft k).1 S.heap h' → ∀ m', Stp K m' { S with env := S.env.filter (fun p => (o.looksAt ops).contains p.1), heap := h' } o (({ S with env := S.env.filter (fun p => (o.looksAt ops).contains p.1), heap := setMany h' U } : St).putD o.dst x))
    (h : LexE K ops ft Q rest (k + 1) (({ S with heap := setMany S.heap U } : St).putD o.dst x)) : LexE K ops ft Q (o :: rest) k S :=
  LexE.cons hU (At.stp hg hd (by rw [hU]; exact hR) hx hv) h
theorem LexE.gstp {ft : Nat → List Nat × List Nat} {Q : St → Prop} {k : Nat} {S : St} {o : Oper} {rest : List Oper} {x : AV} {U : List (Nat × Option Row)} (hU : U.map (·.1) = (ft k).2) {G : Bool} (hg : ∀ h', Grd K ops { S with env := S.env.filter (fun p => (o.looksAt ops).contains p.1), heap := h' } o G) (hG : G = true) (hd : dstOk o.dst S.n = true) (hR : ((ft k).2).all (fun j => ((ft k).1).contains j) = true) (hx : o.dst = none → x = .any)
    (hv : ∀ h', Agree (ft k).1 S.heap h' → ∀ m', Stp K m' { S with env := S.env.filter (fun p => (o.looksAt ops).contains p.1), heap := h' } o (({ S with env := S.env.filter (fun p => (o.looksAt ops).contains p.1), heap := setMany h' U } : St).putD o.dst x))
    (h : LexE K ops ft Q rest (k + 1) (({ S with heap := setMany S.heap U } : St).putD o.dst x)) : LexE K ops ft Q (o :: rest) k S :=
  LexE.cons hU (At.gstp (fun h' => hG ▸ hg h') hd (by rw [hU]; exact hR) hx hv) h
theorem LexE.gcall {ft : Nat → List Nat × List Nat} {Q : St → Prop} {k : Nat} {S : St} {rest : List Oper} {t : Nat} {ty : TypeId} {pos : String} {af : Array Edge} {gd : Option (Nat × Bool)} {f : FuncId} {xs : List Operand} {ts : Array TypeId} {args : List AV} {r : AV} {G : Bool}
    (hg : ∀ h', Grd K ops { S with env := S.env.filter (fun p => ((⟨some t, .call ⟨.value (.func f), xs.toArray, ts⟩, ty, pos, af, gd⟩ : Oper).looksAt ops).contains p.1), heap := h' } ⟨some t, .call ⟨.value (.func f), xs.toArray, ts⟩, ty, pos, af, gd⟩ G) (hf : Callable K.P f)
    (hx : G = true → ∀ h', Agree (ft k).1 S.heap h' → EvL K { S with env := S.env.filter (fun p => ((⟨some t, .call ⟨.value (.func f), xs.toArray, ts⟩, ty, pos, af, gd⟩ : Oper).looksAt ops).contains p.1), heap := h' } xs args) (hlo : AV.loL [] args = true) (hd : Nat.ble (t + 1) S.n = true)
    (hc : G = true → AC ⟨K.P, K.W0, K.N⟩ f args [] fun r' h => h = [] ∧ r' = r) (hU : (ft k).2 = []) (h : LexE K ops ft Q rest (k + 1) (S.put t (.opt G r))) : LexE K ops ft Q (⟨some t, .call ⟨.value (.func f), xs.toArray, ts⟩, ty, pos, af, gd⟩ :: rest) k S :=
  LexE.cons (U := []) hU.symm (At.gcall hf hg hx hlo (by simp only [dstOk]; exact decide_eq_true (Nat.le_of_ble_eq_true hd)) hc) h
end
end Go.Aw
namespace Go.Aw
open Go.RowKit

section
variable {K : Ctx} {m : Nat} {Q : Post} {S : St} {ops : Array Oper} {next : St → Prop}
theorem nm {S : St} (h : next S) : andThen next Q .normal S := h
theorem rt1 {S : St} (h : Q .ret S) : andThen next Q .ret S := h
theorem rt2 {S : St} {id : Nat} (h : Q .ret S) : inBlock id Q .ret S := h
theorem ex1 {S : St} {id : Nat} (h : Q (.exit id) S) : andThen next Q (.exit id) S := h
theorem ex2 {S : St} {id : Nat} (h : Q .normal S) : inBlock id Q (.exit id) S := by simp only [inBlock, if_true]; exact h
theorem nb {S : St} {id : Nat} (h : Q .normal S) : inBlock id Q .normal S := h

theorem Sim.norm {L : Link} {a : Act} {w : World} {n : Nat} {env : List (Nat × AV)} {h : Heap} {d : List Deferred} (hs : Sim K L S a w) (hn : S.n = n) (he : Has S env) (hh : S.heap = h) (hd : S.defers = d) : Sim K L ⟨n, env, h, d⟩ a w := by
  subst hn hh hd
  exact hs.forget he
theorem WL.norm {l : List Oper} (n : Nat) (env : List (Nat × AV)) (h : Heap) (hn : S.n = n) (he : Has S env) (hh : S.heap = h) (hd : S.defers = []) (hw : WL K m ops Q l ⟨n, env, h, []⟩) : WL K m ops Q l S := by
  subst hn hh
  rw [← hd] at hw
  exact WL.forget he hw
theorem W.norm {c : Code} (n : Nat) (env : List (Nat × AV)) (h : Heap) (hn : S.n = n) (he : Has S env) (hh : S.heap = h) (hd : S.defers = []) (hw : W K m c Q ⟨n, env, h, []⟩) : W K m c Q S := by
  subst hn hh
  rw [← hd] at hw
  exact W.forget he hw
theorem WL.normD {l : List Oper} (d : List Deferred) (n : Nat) (env : List (Nat × AV)) (h : Heap) (hn : S.n = n) (he : Has S env) (hh : S.heap = h) (hd : S.defers = d) (hw : WL K m ops Q l ⟨n, env, h, d⟩) : WL K m ops Q l S := by
  subst hn hh hd
  exact WL.forget he hw
theorem W.normD {c : Code} (d : List Deferred) (n : Nat) (env : List (Nat × AV)) (h : Heap) (hn : S.n = n) (he : Has S env) (hh : S.heap = h) (hd : S.defers = d) (hw : W K m c Q ⟨n, env, h, d⟩) : W K m c Q S := by
  subst hn hh hd
  exact W.forget he hw
end
end Go.Aw
namespace Go.Aw
theorem lo0 {k : Heap} : AV.loL k [] = true := rfl
theorem lo1 {k : Heap} {x : FV} {xs : List AV} (h : AV.loL k xs = true) : AV.loL k (.f x :: xs) = true := by simp only [AV.loL, AV.lo, Bool.true_and]; exact h
theorem lo2 {k : Heap} {cs xs : List AV} (hc : AV.loL k cs = true) (h : AV.loL k xs = true) : AV.loL k (.agg cs :: xs) = true := by simp only [AV.loL, AV.lo, hc, Bool.true_and]; exact h
theorem lo3 {k : Heap} {id gen s i o : Nat} {xs : List AV} (hc : Heap.has k id = true) (h : AV.loL k xs = true) : AV.loL k (.ptr id gen s i o :: xs) = true := by simp only [AV.loL, AV.lo, hc, Bool.true_and]; exact h
theorem lo4 {k : Heap} {id gen s i o : Nat} {xs : List AV} (hc : Heap.has k id = true) (h : AV.loL k xs = true) : AV.loL k (.row id gen s i o :: xs) = true := by simp only [AV.loL, AV.lo, hc, Bool.true_and]; exact h
end Go.Aw
namespace Go.Aw
section
variable {K : Ctx} {m : Nat} {Q : Post} {S : St} {ops : Array Oper} {rest : List Oper} {d : Option Nat} {ty : TypeId} {pos : String} {af : Array Edge} {gd : Option (Nat × Bool)}
/-- A call of a function by its name, frozen values handed in. -/
theorem WL.callF {f : FuncId} {xs : List Operand} {ts : Array TypeId} {args : List AV} {R : AV → Prop} (hf : Callable K.P f) (hx : EvL K S xs args) (hlo : AV.loL [] args = true) (hd : dstOk d S.n = true)
    (hc : AC ⟨K.P, K.W0, K.N⟩ f args [] fun r h => h = [] ∧ R r) (hg : gd = none) (h : ∀ r, R r → WL K m ops Q rest (S.putD d r)) : WL K m ops Q (⟨d, .call ⟨.value (.func f), xs.toArray, ts⟩, ty, pos, af, gd⟩ :: rest) S :=
  WL.call (caps := []) hf Fun.func hx (by rw [List.append_nil]; exact hlo) hd (by rw [List.append_nil]; exact hc) hg h
end
end Go.Aw
namespace Go.Aw
section
variable {K : Ctx} {m : Nat} {Q : Post} {S : St} {ops : Array Oper} {rest : List Oper} {d : Nat} {op : Op} {ty : TypeId} {pos : String} {af : Array Edge}
theorem WL.v {x : AV} (hv : Val K S ⟨some d, op, ty, pos, af, none⟩ x) (hd : Nat.ble (d + 1) S.n = true) (h : WL K m ops Q rest (S.put d x)) : WL K m ops Q (⟨some d, op, ty, pos, af, none⟩ :: rest) S :=
  WL.val rfl hv (by simp only [dstOk]; exact decide_eq_true (Nat.le_of_ble_eq_true hd)) h
theorem WL.g {x : AV} {G : Bool} {gd : Option (Nat × Bool)} (hg : Grd K ops S ⟨some d, op, ty, pos, af, gd⟩ G) (hv : G = true → Val K S ⟨some d, op, ty, pos, af, gd⟩ x) (hd : Nat.ble (d + 1) S.n = true) (h : WL K m ops Q rest (S.put d (.opt G x))) : WL K m ops Q (⟨some d, op, ty, pos, af, gd⟩ :: rest) S :=
  WL.gval hg hv (by simp only [dstOk]; exact decide_eq_true (Nat.le_of_ble_eq_true hd)) h
theorem evn : EvL K S [] [] := trivial
theorem evc {x : Operand} {xs : List Operand} {v : AV} {vs : List AV} (h : Ev K S x v) (hs : EvL K S xs vs) : EvL K S (x :: xs) (v :: vs) := ⟨h, hs⟩
theorem WL.callV {f : FuncId} {xs : List Operand} {ts : Array TypeId} {args : List AV} {R : AV → Prop} (hf : Callable K.P f) (hx : EvL K S xs args) (hlo : AV.loL [] args = true) (hd : Nat.ble (d + 1) S.n = true)
    (hc : AC ⟨K.P, K.W0, K.N⟩ f args [] fun r h => h = [] ∧ R r) (h : ∀ r, R r → WL K m ops Q rest (S.put d r)) : WL K m ops Q (⟨some d, .call ⟨.value (.func f), xs.toArray, ts⟩, ty, pos, af, none⟩ :: rest) S :=
  WL.callF (d := some d) hf hx hlo (by simp only [dstOk]; exact decide_eq_true (Nat.le_of_ble_eq_true hd)) hc rfl h
theorem Val.fa {T : TypeId} {x : Operand} {j off n : Nat} {fs : Array Field} {fl : Field} {cs : List FV} {d : Option Nat} {gd : Option (Nat × Bool)} (hT : K.P.underlying T = some (.struct fs)) (hf : fs[j]? = some fl) (ho : fl.offset = off) (hn : (K.P.info? fl.type).map (·.size) = some (n + 1))
    (hx : Ev K S x (.f (.ref cs))) : Val K S ⟨d, .fieldAddr T x j, ty, pos, af, gd⟩ (.f (.ref (cs.drop off))) := by subst ho; exact Val.fieldAddr hT hf hn hx
end
end Go.Aw
namespace Go.Aw
theorem nt {b : Bool} (h : b = false) : (!b) = true := by rw [h]; rfl
theorem an {b c : Bool} (h : b = true) (k : c = true) : (b && c) = true := by rw [h, k]; rfl
section
variable {K : Ctx} {m : Nat} {Q : Post} {S : St} {ops : Array Oper} {rest : List Oper} {o : Oper} {j d : Nat} {b c : Bool}
theorem Grd.t (hg : o.guard = some (j, true)) (hj : (ops[j]?).bind (·.dst) = some d) (h : S.get d = some (.f (.v (.bool b)))) : Grd K ops S o b := by
  have := Grd.plain (K := K) hg hj h; rw [show (b == true) = b by cases b <;> rfl] at this; exact this
theorem Grd.f (hg : o.guard = some (j, false)) (hj : (ops[j]?).bind (·.dst) = some d) (h : S.get d = some (.f (.v (.bool b)))) : Grd K ops S o (!b) := by
  have := Grd.plain (K := K) hg hj h; rw [show (b == false) = !b by cases b <;> rfl] at this; exact this
theorem Grd.ot (hg : o.guard = some (j, true)) (hj : (ops[j]?).bind (·.dst) = some d) (h : S.get d = some (.opt c (.f (.v (.bool b))))) : Grd K ops S o (c && b) := by
  have := Grd.opt (K := K) hg hj h; rw [show (b == true) = b by cases b <;> rfl] at this; exact this
theorem Grd.of (hg : o.guard = some (j, false)) (hj : (ops[j]?).bind (·.dst) = some d) (h : S.get d = some (.opt c (.f (.v (.bool b))))) : Grd K ops S o (c && !b) := by
  have := Grd.opt (K := K) hg hj h; rw [show (b == false) = !b by cases b <;> rfl] at this; exact this
end
section
variable {K : Ctx} {S : St} {d : Option Nat} {ty : TypeId} {pos : String} {af : Array Edge} {gd : Option (Nat × Bool)}
theorem Val.fal {T : TypeId} {x : Operand} {j off n : Nat} {fs : Array Field} {fl : Field} {id gen s i o : Nat} (hT : K.P.underlying T = some (.struct fs)) (hf : fs[j]? = some fl) (ho : fl.offset = off) (hn : (K.P.info? fl.type).map (·.size) = some (n + 1))
    (hx : Ev K S x (.ptr id gen s i o)) : Val K S ⟨d, .fieldAddr T x j, ty, pos, af, gd⟩ (.ptr id gen s i (o + off)) := by subst ho; exact Val.fieldAddrLive hT hf hn hx
/-- A list of frozen things of one kind, each told by its cells. -/
theorem Val.ix {α : Type} {enc : α → List FV} {l : List α} {a : α} {s : Nat} {T E : TypeId} {x y : Operand} {k : IntKind} {i : Int} (hT : K.P.underlying T = some (.slice E)) (hE : (K.P.info? E).map (·.size) = some s)
    (hx : Ev K S x (.f (.lst s (l.map enc)))) (hy : Ev K S y (.f (.v (.int k i)))) (h0 : 0 ≤ i) (h1 : l[i.toNat]? = some a) : Val K S ⟨d, .indexAddr T x y, ty, pos, af, gd⟩ (.f (.ref (enc a))) :=
  Val.indexAddr hT hE hx hy h0 (by simp [h1])
theorem Val.ln {α : Type} {enc : α → List FV} {l : List α} {s : Nat} {T E : TypeId} {x : Operand} (hT : K.P.underlying T = some (.slice E)) (hx : Ev K S x (.f (.lst s (l.map enc)))) :
    Val K S ⟨d, .call ⟨.builtin .len, #[x], #[T]⟩, ty, pos, af, gd⟩ (.i l.length) := by
  have := Val.len (d := d) (ty := ty) (pos := pos) (af := af) (gd := gd) hT hx
  rw [List.length_map] at this; exact this
def gB (s : ByteArray) (i : Int) : UInt8 := if h : i.toNat < s.size then s[i.toNat]'h else 0
theorem Val.ixB {T : TypeId} {x y : Operand} {s : ByteArray} {k : IntKind} {i : Int} (hT : K.P.underlying T = some .string) (hx : Ev K S x (.f (.v (.string s)))) (hy : Ev K S y (.f (.v (.int k i)))) (h0 : 0 ≤ i) (h1 : i < s.size) :
    Val K S ⟨d, .index T x y, ty, pos, af, gd⟩ (.c (gB s i).toNat) :=
  Val.indexS hT hx hy h0 (by
    have : i.toNat < s.size := by omega
    simp only [gB, dif_pos this]; exact getElem?_pos s i.toNat this)
end
/-- All fit: each is one cell. -/
theorem fitL {s : Nat} {vs : List AV} (h : (vs.all fun v => v.fit && Nat.beq v.cells.length s) = true := by rfl) : ∀ v, v ∈ vs → v.fit = true ∧ v.cells.length = s := by
  intro v hv
  have := List.all_eq_true.1 h v hv
  rw [Bool.and_eq_true] at this
  exact ⟨this.1, Nat.eq_of_beq_eq_true this.2⟩
end Go.Aw
namespace Go.Aw
/-! ### Structs that are built -/
def fillA : List AV → List (Nat × AV) → List AV
  | cs, [] => cs
  | cs, (o, v) :: r => fillA (splice cs o v.cells) r
/-- The parts that a struct is built of: the field's number, its place, its cells. -/
def PartsOk (K : Ctx) (S : St) (pl : Array (Nat × Nat)) (n : Nat) : List (Nat × Operand) → List (Nat × AV) → Prop
  | [], [] => True
  | (j, x) :: ps, (o, v) :: vs => Ev K S x v ∧ v.fit = true ∧ pl[j]? = some (o, v.cells.length) ∧ Nat.ble (o + v.cells.length) n = true ∧ PartsOk K S pl n ps vs
  | _, _ => False

theorem wr_toList : ∀ (vs : List Value) (c : Array Value) (o : Nat), o + vs.length ≤ c.size → (wr c o vs).toList = splice c.toList o vs := by
  intro vs c o h
  have hcl : c.toList.length = c.size := Array.length_toList
  apply List.ext_getElem?
  intro k
  rw [Array.getElem?_toList, wr_get vs c o k h]
  unfold splice
  by_cases h1 : k < o
  · rw [if_neg (by omega), List.getElem?_append_left (by rw [List.length_take, hcl]; omega), List.getElem?_take, if_pos h1, Array.getElem?_toList]
  · rw [List.getElem?_append_right (by rw [List.length_take, hcl]; omega), List.length_take, hcl, Nat.min_eq_left (by omega)]
    by_cases h2 : k < o + vs.length
    · rw [if_pos (by omega), List.getElem?_append_left (by omega)]
    · rw [if_neg (by omega), List.getElem?_append_right (by omega), List.getElem?_drop, Array.getElem?_toList]; congr 1; omega

section
variable {K : Ctx} {m : Nat} {S : St} {d : Option Nat} {ty : TypeId} {pos : String} {af : Array Edge} {gd : Option (Nat × Bool)}
theorem fill_parts {L : Link} {a : Act} {w : World} (hs : Sim K L S a w) {pl : Array (Nat × Nat)} {n : Nat} : ∀ {ps : List (Nat × Operand)} {vs : List (Nat × AV)} {cs : List AV} {c : Array Value}, PartsOk K S pl n ps vs → AV.repL w (Bar K S.heap L) L cs c.toList → c.size = n →
    ∃ c', Instr.fill (pl[·]?) c (ps.map fun p => (p.1, a.eval p.2)) = some c' ∧ AV.repL w (Bar K S.heap L) L (fillA cs vs) c'.toList
  | [], [], cs, c, _, hr, _ => ⟨c, rfl, hr⟩
  | (j, x) :: ps, (o, v) :: vs, cs, c, hp, hr, hn => by
    obtain ⟨h1, h2, h3, h4, h5⟩ := hp
    have hv := fit_cells h2 (h1 L a w hs)
    have hvl := AV.repL_length hv
    have hle := Nat.le_of_ble_eq_true h4
    have hsz : (a.eval x).cells.size = v.cells.length := by rw [hvl]; simp
    have hr' : AV.repL w (Bar K S.heap L) L (splice cs o v.cells) (wr c o (a.eval x).cells.toList).toList := by
      rw [wr_toList _ _ _ (by rw [← hvl]; omega)]; exact repL_splice hr hv
    obtain ⟨c', hf, hrep⟩ := fill_parts hs h5 hr' (by rw [wr_size]; exact hn)
    refine ⟨c', ?_, hrep⟩
    simp only [List.map_cons, Instr.fill, h3]
    rw [if_neg (by rw [hsz]; simp; omega)]
    have : ((a.eval x).cells.zipIdx.foldl (fun cs x => match x with | (c, j) => cs.setIfInBounds (o + j) c) c) = wr c o (a.eval x).cells.toList := by
      rw [← Array.foldl_toList, Array.toList_zipIdx]
      exact foldl_wr _ c o 0
    rw [this]; exact hf
  | [], _ :: _, _, _, h, _, _ => h.elim
  | _ :: _, [], _, _, h, _, _ => h.elim

theorem repL_consts {w : World} {X : Nat → Prop} {L : Link} : ∀ ys : List Value, AV.repL w X L (ys.map fun v => .f (.v v)) ys
  | [] => trivial
  | _ :: ys => ⟨rfl, repL_consts ys⟩
theorem Val.build {T : TypeId} {fs : Array Field} {z : Value} {zs : List Value} {pl : Array (Nat × Nat)} {ps : Array (Nat × Operand)} {psl : List (Nat × Operand)} {vs : List (Nat × AV)} {n : Nat} (hT : K.P.underlying T = some (.struct fs)) (hz : (K.P.info? T).map (·.zero) = some (some z)) (hzs : z.cells.toList = zs) (hn : zs.length = n)
    (hpl : ∀ w, (fs.mapM fun f => do pure (f.offset, ← sizeOf f.type) : Sem (Array (Nat × Nat))).run K.P w = .ok pl w) (hps : ps.toList = psl) (hp : PartsOk K S pl n psl vs) :
    Val K S ⟨d, .build T ps, ty, pos, af, gd⟩ (.agg (fillA (zs.map fun v => .f (.v v)) vs)) := fun L a w hs => by
  subst hps
  obtain ⟨c', hf, hr⟩ := fill_parts hs hp (cs := zs.map fun v => .f (.v v)) (c := z.cells) (by rw [hzs]; exact repL_consts zs) (by rw [← hn, ← hzs]; simp)
  refine ⟨.agg c', ?_, c', rfl, hr⟩
  have e1 := run_und (P := K.P) (w := w) hT
  have e2 := run_zero (P := K.P) (w := w) hz
  generalize a.eval = ρ at hf
  simp only [execOp, Instr.build, Sem.run_bind, e1, e2, Result.andThen_ok, hpl w, Array.toList_map, hf, Sem.run_pure]

/-- A guarded call of frozen values whose result is known. -/
theorem WL.gcall {Q : Post} {ops : Array Oper} {rest : List Oper} {d : Nat} {f : FuncId} {xs : List Operand} {ts : Array TypeId} {args : List AV} {r : AV} {G : Bool} (hg : Grd K ops S ⟨some d, .call ⟨.value (.func f), xs.toArray, ts⟩, ty, pos, af, gd⟩ G) (hf : Callable K.P f) (hx : G = true → EvL K S xs args) (hlo : AV.loL [] args = true) (hd : Nat.ble (d + 1) S.n = true)
    (hc : G = true → AC ⟨K.P, K.W0, K.N⟩ f args [] fun r' h => h = [] ∧ r' = r) (h : WL K m ops Q rest (S.put d (.opt G r))) : WL K m ops Q (⟨some d, .call ⟨.value (.func f), xs.toArray, ts⟩, ty, pos, af, gd⟩ :: rest) S := by
  have hdd : dstOk (some d) S.n = true := by simp only [dstOk]; exact decide_eq_true (Nat.le_of_ble_eq_true hd)
  intro L a w Qc hs hq
  refine wpList_step fun Kc hK => ?_
  rw [hg L a w hs]
  cases G with
  | true =>
    simp only [if_true, Oper.wp, run_callV (cs := #[]) (c := .func f) (ρ := a.eval) hf rfl, Oper.upon_enter]
    have hxs := EvL.rep hs (hx rfl)
    rw [show (xs.toArray.map a.eval ++ #[]) = (xs.map a.eval).toArray from by simp]
    refine (call_frozen (m := m) hs hxs hlo (hc rfl) (fun _ _ h => h.1)).mono ?_
    rintro e w' ⟨r', v, rfl, ⟨_, rfl⟩, hs', hrep, hext⟩
    exact hK _ _ (h L _ w' Qc (hs'.putD (d := some d) (dst_ok hdd) (x := .opt true r') (by unfold AV.rep; exact hrep)) fun e a' w'' hl => hq _ _ _ (lift_trans hext _ _ _ hl))
  | false =>
    simp only [Bool.false_eq_true, if_false]
    exact hK _ _ (h L _ w Qc (hs.putD (d := some d) (dst_ok hdd) (x := .opt false r) (by unfold AV.rep; simp)) hq)

theorem W.condP {Q : Post} {c : Nat} {x y : Code} {b : Bool} (hc : S.get c = some (.f (.v (.bool b)))) (ht : b = true → W K m x Q (S.put c (.f (.v (.bool true))))) (hf : b = false → W K m y Q (S.put c (.f (.v (.bool false))))) : W K m (.cond (.tmp c) x y) Q S := by
  have key : ∀ (bb : Bool), b = bb → ∀ L a w, Sim K L S a w → Sim K L (S.put c (.f (.v (.bool bb)))) a w := by
    intro bb hb L a w hs
    subst hb
    refine ⟨hs.hs, hs.base, hs.big, fun t y hy => hs.slots t y ?_, hs.size, hs.defers⟩
    rw [St.get_put] at hy
    split at hy
    · rename_i ht; rw [← ht, hc]; exact hy
    · exact hy
  exact W.cond (b := b) (fun L a w hs => hs.slots c _ hc) (fun h L a w hs => ht h L a w (key true h L a w hs)) (fun h L a w hs => hf h L a w (key false h L a w hs))
theorem W.cT {Q : Post} {c : Nat} {x y : Code} (hc : S.get c = some (.f (.v (.bool true)))) (h : W K m x Q S) : W K m (.cond (.tmp c) x y) Q S := W.cond (b := true) (fun L a w hs => hs.slots c _ hc) (fun _ => h) (fun h => by cases h)
end
end Go.Aw
namespace Go.Aw
open Go.RowKit

section
variable {K : Ctx} {L : Link} {h h' : Heap} {w : World} {j : Nat} {r : Row} {tot : Nat}
/-- A row is planted at a number that has none. -/
structure Planted (h h' : Heap) (j : Nat) (r : Row) : Prop where
  free : h[j]?.join = none
  here : h'[j]? = some (some r)
  same : ∀ i, i ≠ j → h'[i]? = h[i]?

theorem Planted.own (hp : Planted h h' j r) (hs : HSim K L h w) {b : Nat} : Own h' (L.new j r.gen w.heap.size tot) b ↔ Own h L b ∨ b = w.heap.size := by
  constructor
  · rintro ⟨id, r', tot', hi, hl⟩
    by_cases hid : id = j
    · subst hid
      rw [hp.here] at hi; cases hi
      simp [Link.new] at hl
      exact .inr hl.1.symm
    · rw [hp.same id hid] at hi
      simp only [Link.new] at hl
      rw [if_neg (by simp [hid])] at hl
      exact .inl ⟨id, r', tot', hi, hl⟩
  · rintro (⟨id, r', tot', hi, hl⟩ | rfl)
    · have hid : id ≠ j := by rintro rfl; have := hp.free; rw [hi] at this; cases this
      exact ⟨id, r', tot', by rw [hp.same id hid]; exact hi, by simp only [Link.new]; rw [if_neg (by simp [hid])]; exact hl⟩
    · exact ⟨j, r, tot, hp.here, by simp [Link.new]⟩
theorem Planted.link (hp : Planted h h' j r) (hs : HSim K L h w) {g b tot : Nat} : ∀ id' g' x, L id' g' = some x → L.new j g b tot id' g' = some x := by
  intro i g' x hx
  simp only [Link.new]
  split
  · rename_i hh; rw [hh.1, hs.past _ _ hp.free] at hx; cases hx
  · exact hx
theorem Planted.hsim (hp : Planted h h' j r) (hs : HSim K L h w) (hN : K.N ≤ w.heap.size) {c : Array Value} {ty : TypeId} (hc : c.size = tot * r.s) (hlen : r.els.length ≤ tot) (hat : rowAt w (Bar K h L) L r c) :
    HSim K (L.new j r.gen w.heap.size tot) h' { w with heap := w.heap.push (.cells c ty) } := by
  have hbar : ∀ b, b < w.heap.size → Bar K h' (L.new j r.gen w.heap.size tot) b → Bar K h L b := by
    rintro b hb (hx | ho)
    · exact .inl hx
    · rcases (hp.own hs).1 ho with ho | rfl
      · exact .inr ho
      · omega
  have hst := stays_push (Bar K h L) w (.cells c ty)
  have hl := hp.link hs (g := r.gen) (b := w.heap.size) (tot := tot)
  have hat' : ∀ r' c', rowAt w (Bar K h L) L r' c' → rowAt { w with heap := w.heap.push (.cells c ty) } (Bar K h' (L.new j r.gen w.heap.size tot)) (L.new j r.gen w.heap.size tot) r' c' :=
    fun r' c' hh i e he => AV.repL_stays hst hbar hl (hh i e he)
  have off : ∀ {id g}, id ≠ j → L.new j r.gen w.heap.size tot id g = L id g := fun {id g} hid => by simp only [Link.new]; rw [if_neg (by simp [hid])]
  refine ⟨?_, ?_, ?_, ?_, fun b hb => Nat.lt_of_lt_of_le (hs.foreign b hb) hst.size⟩
  · intro id r' hi
    by_cases hid : id = j
    · subst hid
      rw [hp.here] at hi; cases hi
      exact ⟨w.heap.size, tot, c, ty, by simp [Link.new], hN, fun hx => Nat.lt_irrefl _ (hs.foreign _ hx), by simp, hc, hlen, hat' _ _ hat⟩
    · rw [hp.same id hid] at hi
      obtain ⟨b, tot', c', e, h1, h2, h3, h4, h5, h6, h7⟩ := hs.live id r' hi
      refine ⟨b, tot', c', e, hl _ _ _ h1, h2, h3, ?_, h5, h6, hat' _ _ h7⟩
      show (w.heap.push _)[b]? = _
      rw [Array.getElem?_push, if_neg]
      · exact h4
      · intro he; subst he; rw [Array.getElem?_eq_none (Nat.le_refl _)] at h4; simp at h4
  · intro id r1 id' r2 b t1 t2 hi hi' hl1 hl2
    have one : ∀ {id r' b t}, h'[id]? = some (some r') → L.new j r.gen w.heap.size tot id r'.gen = some (b, t) → (id ≠ j ∧ h[id]? = some (some r') ∧ L id r'.gen = some (b, t) ∧ b < w.heap.size) ∨ (id = j ∧ b = w.heap.size) := by
      intro id r' b t hi hl
      by_cases hid : id = j
      · subst hid
        rw [hp.here] at hi; cases hi
        simp [Link.new] at hl
        exact .inr ⟨rfl, hl.1.symm⟩
      · rw [hp.same id hid] at hi
        rw [off hid] at hl
        exact .inl ⟨hid, hi, hl, own_lt hs ⟨id, r', t, hi, hl⟩⟩
    rcases one hi hl1 with ⟨a1, a2, a3, a4⟩ | ⟨a1, a2⟩ <;> rcases one hi' hl2 with ⟨c1, c2, c3, c4⟩ | ⟨c1, c2⟩
    · exact hs.inj _ _ _ _ _ _ _ a2 c2 a3 c3
    · omega
    · omega
    · omega
  · intro id r' g hi hg
    by_cases hid : id = j
    · subst hid
      rw [hp.here] at hi; cases hi
      simp only [Link.new]
      rw [if_neg (by omega)]; exact hs.past _ _ hp.free
    · rw [hp.same id hid] at hi
      rw [off hid]; exact hs.later id r' g hi hg
  · intro id g hid
    have hne : id ≠ j := by rintro rfl; rw [hp.here] at hid; cases hid
    rw [hp.same id hne] at hid
    rw [off hne]; exact hs.past _ _ hid
end

/-- A list that grows by append: nil as long as it has nothing. -/
def Acc (j s : Nat) (els : List (List AV)) (v : AV) (o : Option Row) : Prop :=
  (els = [] ∧ v = .nil ∧ o = none) ∨ ∃ gen, v = .row j gen s 0 els.length ∧ o = some ⟨gen, s, els⟩
theorem Acc.zero {j s : Nat} : Acc j s [] .nil none := .inl ⟨rfl, rfl, rfl⟩
theorem Acc.row {j s gen n : Nat} {els : List (List AV)} (h : n = els.length) : Acc j s els (.row j gen s 0 n) (some ⟨gen, s, els⟩) := .inr ⟨gen, by subst h; rfl, rfl⟩

section
variable {K : Ctx} {m : Nat} {S : St} {d : Option Nat} {ty : TypeId} {pos : String} {af : Array Edge} {gd : Option (Nat × Bool)}

/-- append at the nil slice, the new row planted. -/
theorem Stp.appendPlant {T T' E : TypeId} {s bytes j : Nat} {z : Value} {x y : Operand} {els : List (List AV)} (ht : AppT K.P T T' E s bytes z) (hx : Ev K S x .nil) (hj : S.heap[j]? = some none) (hy : Arg K S y s els) (hpos : 0 < els.length) (hroom : (2 * els.length + 1000) * bytes ≤ 281474976710656) (hd : dstOk d S.n = true) :
    Stp K m S ⟨d, .call ⟨.builtin .append, #[x, y], #[T, T']⟩, ty, pos, af, gd⟩ (({ S with heap := S.heap.set j (some ⟨0, s, els⟩) } : St).putD d (.row j 0 s 0 els.length)) := fun L a w hs => by
  have ex : a.eval x = .slice none 0 0 := hx L a w hs
  obtain ⟨c, hcs, hsg, hce, hcr⟩ := hy L a w hs
  obtain ⟨newCap, w', hnc, hheap, ho, htp, hou, hrun⟩ := run_append_grow (w := w) (T := T) (T' := T') (ty := ty) (base := none) (len := 0) (cap := 0) ht hcr (by omega) (c0 := #[]) (fun _ _ => rfl) (by rw [Nat.zero_add]; exact hroom)
  rw [Nat.zero_add] at hnc hrun hheap
  have hjl : j < S.heap.length := (List.getElem?_eq_some_iff.1 hj).1
  have hp : Planted S.heap (S.heap.set j (some ⟨0, s, els⟩)) j ⟨0, s, els⟩ := ⟨by rw [hj]; rfl, by rw [List.getElem?_set_self hjl], fun i hi => by rw [List.getElem?_set_ne (fun h => hi h.symm)]⟩
  have hat : rowAt w (Bar K S.heap L) L ⟨0, s, els⟩ (#[] ++ c ++ Builtin.zeroCells z.cells (newCap - els.length)) := by
    intro i e he
    have hjn : i < els.length := (List.getElem?_eq_some_iff.1 he).1
    have hjs : i * s + s ≤ els.length * s := by
      have := Nat.mul_le_mul_right s (Nat.succ_le_of_lt hjn)
      rw [Nat.succ_mul] at this; exact this
    have hcl : c.toList.length = els.length * s := by simp [hcs]
    simp only [Array.toList_append, List.nil_append]
    rw [List.drop_append_of_le_length (by omega), List.take_append_of_le_length (by rw [List.length_drop]; omega)]
    exact hce i e he
  have hsz : (#[] ++ c ++ Builtin.zeroCells z.cells (newCap - els.length)).size = newCap * s := by
    simp only [Array.size_append, hcs, zeroCells_size, ht.cells, List.size_toArray, List.length_nil, Nat.zero_add]
    rw [← Nat.add_mul]; congr 1; omega
  have hh := hp.hsim hs.hs hs.big (ty := E) (tot := newCap) hsz (by simpa using hnc) hat
  have hbar : ∀ b, b < w.heap.size → Bar K (S.heap.set j (some ⟨0, s, els⟩)) (L.new j 0 w.heap.size newCap) b → Bar K S.heap L b := by
    rintro b hb (hx | ho)
    · exact .inl hx
    · rcases (hp.own hs.hs).1 ho with ho | rfl
      · exact .inr ho
      · omega
  have hs1 : Sim K (L.new j 0 w.heap.size newCap) { S with heap := S.heap.set j (some ⟨0, s, els⟩) } a { w with heap := w.heap.push (.cells (#[] ++ c ++ Builtin.zeroCells z.cells (newCap - els.length)) E) } :=
    ⟨hh, Below.push hs.base hs.big _, Nat.le_trans hs.big (by simp), fun t x hx => AV.rep_stays (stays_push _ w _) hbar (hp.link hs.hs) (hs.slots t x hx), hs.size, hs.defers⟩
  have hp' := hs1.heap_same (w' := w') (by rw [hheap]) ho htp hou
  refine ⟨.value (.slice (some ⟨w.heap.size, 0, none⟩) els.length newCap), _, _, _, ?_, .inl rfl, hp'.putD (dst_ok hd) ⟨w.heap.size, newCap, by simp [Link.new], by simp, by omega⟩, ?_⟩
  · refine run_call ?_
    generalize a.eval = ρ at *
    simp only [builtin, List.map_toArray, List.map_cons, List.map_nil, ex, Sem.run_bind, hrun, Result.andThen_ok, Sem.run_pure]
  · rw [putD_heap]
    have e1 : Ext K m S.heap L w (S.heap.set j (some ⟨0, s, els⟩)) (L.new j 0 w.heap.size newCap) { w with heap := w.heap.push (.cells (#[] ++ c ++ Builtin.zeroCells z.cells (newCap - els.length)) E) } :=
      ⟨fun id g x _ hx => hp.link hs.hs _ _ _ hx, stays_push _ _ _, fun b hb ho => by
        rcases (hp.own hs.hs).1 ho with ho | rfl
        · exact ho
        · exact absurd hb (Nat.lt_irrefl _)⟩
    exact e1.trans (Ext.heap_same (by rw [hheap]))

variable {Q : Post} {ops : Array Oper} {rest : List Oper} {t : Nat}
/-- append to a list that may still be nil. -/
theorem WL.app {T T' E : TypeId} {s bytes j : Nat} {z : Value} {x y : Operand} {els new : List (List AV)} {v : AV} {o : Option Row} (ht : AppT K.P T T' E s bytes z) (hx : Ev K S x v) (hj : S.heap[j]? = some o) (ha : Acc j s els v o) (hy : Arg K S y s new)
    (hroom : (2 * (els.length + new.length) + 1000) * bytes ≤ 281474976710656) (hd : Nat.ble (t + 1) S.n = true) (h : ∀ v' o', Acc j s (els ++ new) v' o' → WL K m ops Q rest (({ S with heap := S.heap.set j o' } : St).put t v')) :
    WL K m ops Q (⟨some t, .call ⟨.builtin .append, #[x, y], #[T, T']⟩, ty, pos, af, none⟩ :: rest) S := by
  have hdd : dstOk (some t) S.n = true := by simp only [dstOk]; exact decide_eq_true (Nat.le_of_ble_eq_true hd)
  rcases ha with ⟨rfl, rfl, rfl⟩ | ⟨gen, rfl, rfl⟩
  · cases new with
    | nil =>
      refine WL.stp rfl (Stp.appendNone ht hx hy hdd) ?_
      have := h .nil none Acc.zero
      have e : S.heap.set j none = S.heap := by
        apply List.ext_getElem?
        intro i
        rw [List.getElem?_set]
        split
        · rename_i hi; subst hi; rw [if_pos ((List.getElem?_eq_some_iff.1 hj).1), hj]
        · rfl
      rw [e] at this
      exact this
    | cons n ns =>
      refine WL.stp rfl (Stp.appendPlant ht hx hj hy (by simp) (by simpa using hroom) hdd) ?_
      exact h _ _ (Acc.row (by simp))
  · refine WL.stp rfl (Stp.append ht hx hj rfl rfl rfl hy hroom hdd) ?_
    exact h _ _ (Acc.row (by simp))
theorem Val.lenAcc {T E : TypeId} {x : Operand} {j s : Nat} {els : List (List AV)} {v : AV} {o : Option Row} (hT : K.P.underlying T = some (.slice E)) (hx : Ev K S x v) (ha : Acc j s els v o) :
    Val K S ⟨d, .call ⟨.builtin .len, #[x], #[T]⟩, ty, pos, af, gd⟩ (.i els.length) := by
  rcases ha with ⟨rfl, rfl, rfl⟩ | ⟨gen, rfl, rfl⟩
  · exact Val.lenNil hT hx
  · exact Val.lenRow hT hx
theorem Acc.thaw {h h' : Heap} {j s : Nat} {xs : List (List FV)} {v : AV} {o : Option Row} (ha : Acc j s (fz xs) v o) (hj : h[j]? = some o) (hd : h'[j]?.join = none) (hxs : ∀ e, e ∈ xs → e.length = s) : Thaw h h' v (.f (.lst s xs)) := by
  rcases ha with ⟨he, rfl, rfl⟩ | ⟨gen, rfl, rfl⟩
  · have : xs = [] := by cases xs with | nil => rfl | cons => simp [fz] at he
    subst this; exact .nil
  · exact .whole hj hd (by simp [fz]) hxs

/-- Numbers kept free for rows to come. -/
theorem Sim.reserve {L : Link} {a : Act} {w : World} (hs : Sim K L S a w) : Sim K L { S with heap := S.heap ++ [none] } a w := by
  have hg : ∀ {i : Nat} {r : Row}, (S.heap ++ [none])[i]? = some (some r) → S.heap[i]? = some (some r) := by
    intro i r hi
    by_cases hl : i < S.heap.length
    · rw [List.getElem?_append_left hl] at hi; exact hi
    · rw [List.getElem?_append_right (by omega)] at hi
      cases hk : i - S.heap.length with
      | zero => rw [hk] at hi; simp at hi
      | succ => rw [hk] at hi; simp at hi
  have hn : ∀ {i : Nat}, (S.heap ++ [none])[i]?.join = none → S.heap[i]?.join = none := by
    intro i hi
    by_cases hl : i < S.heap.length
    · rw [List.getElem?_append_left hl] at hi; exact hi
    · rw [List.getElem?_eq_none (by omega)]; rfl
  have ho : ∀ b, Own (S.heap ++ [none]) L b ↔ Own S.heap L b := fun b => ⟨fun ⟨i, r, t, h1, h2⟩ => ⟨i, r, t, hg h1, h2⟩, fun ⟨i, r, t, h1, h2⟩ => ⟨i, r, t, by rw [List.getElem?_append_left (List.getElem?_eq_some_iff.1 h1).1]; exact h1, h2⟩⟩
  have hb : Bar K (S.heap ++ [none]) L = Bar K S.heap L := by funext b; simp only [Bar, ho b]
  refine ⟨⟨fun id r hi => ?_, fun id r id' r' b t t' h1 h2 => hs.hs.inj id r id' r' b t t' (hg h1) (hg h2), fun id r g hi => hs.hs.later id r g (hg hi), fun id g hi => hs.hs.past id g (hn hi), hs.hs.foreign⟩, hs.base, hs.big, fun t x hx => ?_, hs.size, hs.defers⟩
  · have := hs.hs.live id r (hg hi); rw [hb]; exact this
  · rw [hb]; exact hs.slots t x hx
theorem Ext.reserve {L : Link} {w : World} {h h' : Heap} {L' : Link} {w' : World} (he : Ext K m (h ++ [none]) L w h' L' w') : Ext K m h L w h' L' w' := by
  have ho : ∀ b, Own (h ++ [none]) L b ↔ Own h L b := fun b => ⟨fun ⟨i, r, t, h1, h2⟩ => ⟨i, r, t, by
    by_cases hl : i < h.length
    · rw [List.getElem?_append_left hl] at h1; exact h1
    · rw [List.getElem?_append_right (by omega)] at h1
      cases hk : i - h.length with
      | zero => rw [hk] at h1; simp at h1
      | succ => rw [hk] at h1; simp at h1, h2⟩, fun ⟨i, r, t, h1, h2⟩ => ⟨i, r, t, by rw [List.getElem?_append_left (List.getElem?_eq_some_iff.1 h1).1]; exact h1, h2⟩⟩
  exact ⟨he.link, ⟨he.stays.size, fun b hb hx => he.stays.block b hb (fun h => hx ((ho b).1 h))⟩, fun b hb h => (ho b).1 (he.own b hb h)⟩
theorem W.reserve {c : Code} (h : W K m c Q { S with heap := S.heap ++ [none] }) : W K m c Q S := fun L a w hs =>
  wp_mono (h L a w hs.reserve) fun e a' w' ⟨L', S', hq, hs', he⟩ => ⟨L', S', hq, hs', Ext.reserve he⟩
theorem WL.reserve (h : WL K m ops Q rest { S with heap := S.heap ++ [none] }) : WL K m ops Q rest S := fun L a w Qc hs hq =>
  h L a w Qc hs.reserve fun e a' w' ⟨L', S', hq', hs', he⟩ => hq e a' w' ⟨L', S', hq', hs', Ext.reserve he⟩
end
end Go.Aw
namespace Go.Aw
open Go.RowKit
section
variable {K : Ctx} {m : Nat} {Q : Post} {S : St} {ops : Array Oper} {rest : List Oper} {d : Option Nat} {ty : TypeId} {pos : String} {af : Array Edge} {gd : Option (Nat × Bool)}
def oLo (o : Option Row) : Prop := ∀ q, o = some q → rowLo [] q
/-- What a call of one row gives back. -/
def OneO (R : AV → Heap → Prop) : Prop := ∀ r h, R r h → ∃ o, h = [o] ∧ r.lo h = true ∧ oLo o

end
theorem oLo_acc {j s : Nat} {xs : List (List FV)} {v : AV} {o : Option Row} (ha : Acc j s (fz xs) v o) : oLo o := by
  rintro q rfl
  rcases ha with ⟨_, _, h⟩ | ⟨g, _, h⟩
  · cases h
  · cases h; exact rowLo_fz [] _ _ _
theorem lo_acc {j s : Nat} {els : List (List AV)} {v : AV} {o : Option Row} {h : Heap} (ha : Acc j s els v o) (hj : h[j]? = some o) : v.lo h = true := by
  rcases ha with ⟨_, rfl, _⟩ | ⟨g, rfl, rfl⟩
  · rfl
  · simp only [AV.lo]; simp [Heap.has, hj]
theorem Acc.ren {j k s : Nat} {els : List (List AV)} {v : AV} {o : Option Row} (ha : Acc k s els v o) : Acc (k + j) s els (v.ren j) o := by
  rcases ha with ⟨rfl, rfl, rfl⟩ | ⟨g, rfl, rfl⟩
  · exact .inl ⟨rfl, rfl, rfl⟩
  · exact .inr ⟨g, rfl, rfl⟩
end Go.Aw
namespace Go.Aw
open Go.RowKit
section
variable {K : Ctx} {m : Nat} {S : St} {d : Option Nat} {ty : TypeId} {pos : String} {af : Array Edge} {gd : Option (Nat × Bool)} {Q : Post} {ops : Array Oper} {rest : List Oper}

theorem run_askRoom {P : Program} {w : World} (q : Nat) : (askRoom q).run P w = .ok () w := by
  unfold askRoom; split
  · simp only [mark, Sem.run]
  · rfl
theorem mod_one_get (z : Value) (k : Nat) : (#[z] : Array Value)[k % (#[z] : Array Value).size]! = z := by
  have : k % (#[z] : Array Value).size = 0 := by simp [Nat.mod_one]
  rw [this]; rfl
/-- A slice of zeros, of one cell each. -/
theorem Stp.make {T E : TypeId} {x y : Operand} {n bytes : Nat} {z : Value} (hT : K.P.underlying T = some (.slice E)) (hE : (K.P.info? E).map (·.size) = some 1) (hb : (K.P.info? E).map (·.bytes) = some bytes) (hz : (K.P.info? E).map (·.zero) = some (some z)) (hz1 : z.cells = #[z])
    (hx : Ev K S x (.i n)) (hy : Ev K S y (.i n)) (hl : n * bytes ≤ 281474976710656) (hn : n ≤ 1152921504606846976) (hd : dstOk d S.n = true) :
    Stp K m S ⟨d, .makeSlice T x y, ty, pos, af, gd⟩ (({ S with heap := S.heap ++ [some ⟨0, 1, List.replicate n [.f (.v z)]⟩] } : St).putD d (.row S.heap.length 0 1 0 n)) := fun L a w hs => by
  have ex : a.eval x = .int .i64 n := hx L a w hs
  have ey : a.eval y = .int .i64 n := hy L a w hs
  have e1 := run_und (P := K.P) (w := w) hT
  have e2 := run_size (P := K.P) (w := w) hE
  have e3 := run_zero (P := K.P) (w := w) hz
  obtain ⟨inf, hib, hi⟩ := run_info (P := K.P) (w := w) hb
  have hw : IntKind.i64.wrap (n : Int) = n := IntWalk.i64_in _ (by omega)
  have hc1 : ¬ ((inf.bytes : Int) * (n : Int) > 2 ^ 48) := by
    have h1 : ((n * bytes : Nat) : Int) ≤ 281474976710656 := by omega
    rw [hib, Int.mul_comm, ← Int.natCast_mul]; omega
  have hrun : ∃ c : Array Value, c.size = n * 1 ∧ (∀ i, i < n → c[i]? = some z) ∧ (Instr.makeSlice T (.int .i64 n) (.int .i64 n)).run K.P w = .ok (.slice (some ⟨w.heap.size, 0, none⟩) n n) { w with heap := w.heap.push (.cells c E) } := by
    refine ⟨(Array.range (n * 1)).map ((if n * 1 = 0 then #[] else z.cells)[· % (if n * 1 = 0 then (#[] : Array Value) else z.cells).size]!), by simp, ?_, ?_⟩
    · intro i hi
      have hne : ¬ (n * 1 = 0) := by omega
      have hin : i < n * 1 := by omega
      simp only [Array.getElem?_map, Array.getElem?_range, hin, if_true, hne, if_false, hz1, Option.map_some, mod_one_get]
    · simp only [Instr.makeSlice, Sem.run_bind, e1, Result.andThen_ok, asInt, asIntOf, Sem.run_pure, hi, hw]
      rw [if_neg (by simp only [Bool.or_eq_true, decide_eq_true_eq]; omega)]
      simp only [Sem.run_bind, Sem.run_pure, Result.andThen_ok, run_askRoom, e2, Int.toNat_natCast]
      by_cases h0 : n * 1 = 0
      · simp only [h0, if_true, Sem.run_pure, Result.andThen_ok, newRow, newObj, Sem.run_bind, Sem.run]
      · simp only [h0, if_false, Sem.run_bind, e3, Result.andThen_ok, Sem.run_pure, newRow, newObj, Sem.run]
  obtain ⟨c, hcs, hcz, hrun⟩ := hrun
  have hp := hs.push (r := ⟨0, 1, List.replicate n [.f (.v z)]⟩) (c := c) (ty := E) (tot := n) hcs (by simp) (by
    intro i e he
    rw [List.getElem?_replicate] at he
    split at he
    · rename_i hin
      cases he
      have h1 := hcz i hin
      have : (c.toList.drop (i * 1)).take 1 = [z] := by
        apply List.ext_getElem?
        intro k
        rw [List.getElem?_take]
        cases k with
        | zero => rw [if_pos (by omega), List.getElem?_drop, Array.getElem?_toList, Nat.mul_one, Nat.add_zero, h1]; rfl
        | succ k => rw [if_neg (by omega)]; rfl
      show AV.repL _ _ _ _ ((c.toList.drop (i * 1)).take 1)
      rw [this]; exact ⟨rfl, trivial⟩
    · cases he)
  refine ⟨.value (.slice (some ⟨w.heap.size, 0, none⟩) n n), _, _, _, ?_, .inl rfl, hp.putD (dst_ok hd) ⟨w.heap.size, n, by simp [Link.new], by simp, by omega⟩, ?_⟩
  · generalize a.eval = ρ at ex ey
    simp only [execOp, ex, ey, Sem.run_bind, hrun, Result.andThen_ok, Sem.run_pure]
  · rw [putD_heap]; exact Ext.push hs.hs

def bdAt (a : Act) (x : Option Operand) (dflt n : Nat) : Prop := match x with | none => n = dflt | some o => ∃ k, a.eval o = .int k n
theorem bd_run {P : Program} {a : Act} {w : World} {x : Option Operand} {dflt n y : Nat} {c : BoundsCode} (hx : bdAt a x dflt n) (hn : n ≤ y) :
    (match (x.map a.eval) with | some v => Instr.sliceBound v y c | none => pure dflt : Sem Nat).run P w = .ok n w := by
  cases x with
  | none => simp only [bdAt] at hx; subst hx; rfl
  | some o =>
    obtain ⟨k, hk⟩ := hx
    simp only [Option.map_some, hk]; rw [run_bound (by omega) (by omega)]; rfl
theorem Bd.at {x : Option Operand} {dflt n : Nat} (h : Bd K S x dflt n) {L : Link} {a : Act} {w : World} (hs : Sim K L S a w) : bdAt a x dflt n := by
  cases x with
  | none => exact h
  | some o => obtain ⟨k, hk⟩ := h; exact ⟨k, hk L a w hs⟩
theorem repEls_drop {w : World} {X : Nat → Prop} {b s : Nat} : ∀ {xs : List (List FV)} {off : Nat} (n : Nat), FV.repEls w X xs b off s → FV.repEls w X (xs.drop n) b (off + n * s) s
  | xs, off, 0, h => by simpa using h
  | [], off, n + 1, _ => by simp [FV.repEls]
  | c :: xs, off, n + 1, h => by
    have := repEls_drop n h.2.2
    rw [List.drop_succ_cons, Nat.add_mul, Nat.one_mul, Nat.add_comm (n * s) s, ← Nat.add_assoc]; exact this
theorem repEls_take {w : World} {X : Nat → Prop} {b s : Nat} : ∀ {xs : List (List FV)} {off : Nat} (n : Nat), FV.repEls w X xs b off s → FV.repEls w X (xs.take n) b off s
  | _, _, 0, _ => by simp [FV.repEls]
  | [], _, n + 1, _ => by simp [FV.repEls]
  | c :: xs, off, n + 1, h => ⟨h.1, h.2.1, repEls_take n h.2.2⟩
/-- A part of a frozen slice, its end within the length. -/
theorem Val.sliceL {T E : TypeId} {x : Operand} {lo hi : Option Operand} {s l h : Nat} {xs : List (List FV)} (hT : K.P.underlying T = some (.slice E)) (hE : (K.P.info? E).map (·.size) = some s) (hx : Ev K S x (.f (.lst s xs))) (hlo : Bd K S lo 0 l) (hhi : Bd K S hi xs.length h) (h1 : l ≤ h) (h2 : h ≤ xs.length) :
    Val K S ⟨d, .slice T x lo hi none, ty, pos, af, gd⟩ (.f (.lst s ((xs.drop l).take (h - l)))) := fun L a w hs => by
  obtain ⟨ad, cap, e, hc, hr⟩ := hx L a w hs
  have hlen : ((xs.drop l).take (h - l)).length = h - l := by rw [List.length_take, List.length_drop]; omega
  refine ⟨.slice (if cap = l then ad else ad.map (·.add (l * s))) (h - l) (cap - l), run_slice hT (by simp) ?_, ?_⟩
  · have e1 := run_und (P := K.P) (w := w) hT
    have e2 := run_size (P := K.P) (w := w) hE
    have eh := fun c => bd_run (P := K.P) (w := w) (y := cap) (c := c) (hhi.at hs) (by omega)
    have el := fun c => bd_run (P := K.P) (w := w) (y := h) (c := c) (hlo.at hs) h1
    generalize hi.map a.eval = hv at eh
    generalize lo.map a.eval = lv at el
    generalize a.eval = ρ at e
    simp only [Instr.slice, e, Sem.run_bind, e1, Result.andThen_ok, Option.map_none, Option.isSome_none, Bool.false_eq_true, if_false, if_true, Instr.sliceBounds, Sem.run_pure, e2]
    have eh' := eh .sliceAcap
    have el' := el .sliceB
    cases hv <;> cases lv <;> simp only [Sem.run_pure, Sem.run_bind, Result.andThen_ok] at eh' el' ⊢ <;> simp_all [Result.andThen_ok, Sem.run_bind, Sem.run_pure]
  · refine ⟨_, _, by rw [hlen], by rw [hlen]; omega, ?_⟩
    by_cases h0 : h - l = 0
    · left; apply List.eq_nil_of_length_eq_zero; rw [hlen]; exact h0
    · right
      rcases hr with hr | ⟨b, off, rfl, hb, hX, hr⟩
      · subst hr; simp at h2; omega
      · refine ⟨b, off + l * s, ?_, hb, hX, repEls_take _ (repEls_drop l hr)⟩
        rw [if_neg (by omega)]; simp only [Option.map_some, add_at]

/-- Paths that meet: what holds where they meet. -/
theorem W.join {x y : Code} (J : St → Prop) (h : W K m x (andThen J Q) S) (hj : ∀ S', J S' → W K m y Q S') : W K m (.seq x y) Q S :=
  W.seq (W.mono h fun e S' hq => by
    cases e with
    | normal => exact hj S' hq
    | _ => exact hq)
end
end Go.Aw
namespace Go.Aw
open Go.RowKit
section
variable {K : Ctx} {m : Nat} {S : St} {d : Option Nat} {ty : TypeId} {pos : String} {af : Array Edge} {gd : Option (Nat × Bool)} {Q : Post} {ops : Array Oper} {rest : List Oper}
theorem planted_set {h : Heap} {j : Nat} {r : Row} (hj : h[j]? = some none) : Planted h (h.set j (some r)) j r :=
  ⟨by rw [hj]; rfl, by rw [List.getElem?_set_self (List.getElem?_eq_some_iff.1 hj).1], fun i hi => by rw [List.getElem?_set_ne (fun h => hi h.symm)]⟩
theorem Sim.plant {L : Link} {a : Act} {w : World} {j : Nat} {r : Row} {c : Array Value} {E : TypeId} {tot : Nat} (hs : Sim K L S a w) (hj : S.heap[j]? = some none) (hc : c.size = tot * r.s) (hlen : r.els.length ≤ tot) (hat : rowAt w (Bar K S.heap L) L r c) :
    Sim K (L.new j r.gen w.heap.size tot) { S with heap := S.heap.set j (some r) } a { w with heap := w.heap.push (.cells c E) } := by
  have hp := planted_set (r := r) hj
  have hbar : ∀ b, b < w.heap.size → Bar K (S.heap.set j (some r)) (L.new j r.gen w.heap.size tot) b → Bar K S.heap L b := by
    rintro b hb (hx | ho)
    · exact .inl hx
    · rcases (hp.own hs.hs).1 ho with ho | rfl
      · exact .inr ho
      · omega
  exact ⟨hp.hsim hs.hs hs.big hc hlen hat, Below.push hs.base hs.big _, Nat.le_trans hs.big (by simp), fun t x hx => AV.rep_stays (stays_push _ w _) hbar (hp.link hs.hs) (hs.slots t x hx), hs.size, hs.defers⟩
theorem Ext.plant {L : Link} {h : Heap} {w : World} {j : Nat} {r : Row} {o : Obj} {tot : Nat} (hs : HSim K L h w) (hj : h[j]? = some none) : Ext K m h L w (h.set j (some r)) (L.new j r.gen w.heap.size tot) { w with heap := w.heap.push o } := by
  have hp := planted_set (r := r) hj
  exact ⟨fun id g x _ hx => hp.link hs _ _ _ hx, stays_push _ _ _, fun b hb ho => by
    rcases (hp.own hs).1 ho with ho | rfl
    · exact ho
    · exact absurd hb (Nat.lt_irrefl _)⟩
theorem Stp.allocAt {T : TypeId} {z : Value} {vs : List Value} {j n : Nat} (hz : (K.P.info? T).map (·.zero) = some (some z)) (hv : z.cells.toList = vs) (hn : vs.length = n) (hj : S.heap[j]? = some none) (hd : dstOk d S.n = true) :
    Stp K m S ⟨d, .alloc T, ty, pos, af, gd⟩ (({ S with heap := S.heap.set j (some ⟨0, n, [vs.map fun v => .f (.v v)]⟩) } : St).putD d (.ptr j 0 n 0 0)) := fun L a w hs => by
  subst hn
  have hR : ∀ ys : List Value, AV.repL w (Bar K S.heap L) L (ys.map fun v => .f (.v v)) ys := by
    intro ys; induction ys with
    | nil => trivial
    | cons y ys ih => exact ⟨rfl, ih⟩
  have hl : z.cells.size = vs.length := by rw [← hv]; simp
  have hp := hs.plant (r := ⟨0, vs.length, [vs.map fun v => .f (.v v)]⟩) (c := z.cells) (E := T) (tot := 1) hj (by simp [hl]) (by simp) (by
    intro i e he
    cases i with
    | zero =>
      simp at he; subst he
      show AV.repL _ _ _ _ ((z.cells.toList.drop (0 * vs.length)).take vs.length)
      rw [Nat.zero_mul, List.drop_zero, hv, List.take_of_length_le (Nat.le_refl _)]; exact hR vs
    | succ i => simp at he)
  have e1 := run_zero (P := K.P) (w := w) hz
  refine ⟨.value (.pointer (some ⟨w.heap.size, 0, none⟩)), _, _, _, ?_, .inl rfl, hp.putD (dst_ok hd) ⟨w.heap.size, 1, by simp [Link.new], by simp⟩, ?_⟩
  · generalize a.eval = ρ
    simp only [execOp, Instr.alloc, e1, newVar, newRow, newObj, Sem.run_bind, Sem.run, Result.andThen_ok, Sem.run_pure]
  · rw [putD_heap]; exact Ext.plant hs.hs hj
theorem Stp.buildAt {T E : TypeId} {n s j : Nat} {z : Value} {ps : Array (Nat × Operand)} {xs : List Operand} {vs : List AV} (hT : K.P.underlying T = some (.slice E)) (hE : (K.P.info? E).map (·.size) = some s) (hz : (K.P.info? E).map (·.zero) = some (some z))
    (hps : ps.toList = xs.zipIdx.map fun p => (p.2, p.1)) (hn : xs.length = n) (hx : EvL K S xs vs) (hv : ∀ v, v ∈ vs → v.fit = true ∧ v.cells.length = s) (hl : n * s ≤ 16777216) (hj : S.heap[j]? = some none) (hd : dstOk d S.n = true) :
    Stp K m S ⟨d, .buildSlice T n ps, ty, pos, af, gd⟩ (({ S with heap := S.heap.set j (some ⟨0, s, elsOf vs⟩) } : St).putD d (.row j 0 s 0 n)) := fun L a w hs => by
  have hR := EvL.rep hs hx
  have hlen := AV.repL_length hR
  obtain ⟨h1, h2⟩ := cells_each hR hv
  simp at hlen
  have hn' : (xs.map a.eval).length = n := by simpa using hn
  obtain ⟨c, hc, hcs, hrun⟩ := run_buildSlice (P := K.P) (w := w) (T := T) (vs := xs.map a.eval) (ps := ps.map fun p => (p.1, a.eval p.2)) hT hE hz h1 (by rw [hn']; exact hl) (by
    rw [Array.toList_map, hps]; simp [List.zipIdx_map])
  rw [hn'] at hrun hc
  have hp := hs.plant (r := ⟨0, s, elsOf vs⟩) (c := c) (E := E) (tot := n) hj hc (by simp [elsOf]; omega) (by
    intro i e he
    simp only [elsOf, List.getElem?_map] at he
    cases hvi : vs[i]? with
    | none => rw [hvi] at he; simp at he
    | some v =>
      rw [hvi] at he; simp at he; subst he
      obtain ⟨y, hy, hr⟩ := h2 i v hvi
      rw [hcs i y hy]; exact hr)
  refine ⟨.value (.slice (some ⟨w.heap.size, 0, none⟩) n n), _, _, _, ?_, .inl rfl, hp.putD (dst_ok hd) ⟨w.heap.size, n, by simp [Link.new], by simp, by omega⟩, ?_⟩
  · generalize a.eval = ρ at hrun
    simp only [execOp, Sem.run_bind, hrun, Result.andThen_ok, Sem.run_pure]
  · rw [putD_heap]; exact Ext.plant hs.hs hj
end
/-- Rows behind the first ones are let go. -/
theorem Fewer.pre {h' h : Heap} (r : Heap) (e : h = h' ++ r) : Fewer h' h := by
  subst e
  exact ⟨fun id x hx => by rw [List.getElem?_append_left (List.getElem?_eq_some_iff.1 hx).1]; exact hx, by simp⟩
theorem HLo.nil {k : Heap} : HLo k [] := trivial
theorem HLo.cons {k : Heap} {o : Option Row} {h : Heap} (ho : ∀ q, o = some q → rowLo k q) (h1 : HLo k h) : HLo k (o :: h) := by
  cases o with
  | none => exact h1
  | some q => exact ⟨ho q rfl, h1⟩
theorem HLo.none {k : Heap} {h : Heap} (h1 : HLo k h) : HLo k (none :: h) := h1
mutual
theorem lo_mono {k : Heap} : ∀ (x : AV), x.lo [] = true → x.lo k = true
  | .any, _ => by simp [AV.lo]
  | .f _, _ => by simp [AV.lo]
  | .agg cs, h => by simp only [AV.lo] at h ⊢; exact loL_mono cs h
  | .ptr .., h => by simp [AV.lo, Heap.has] at h
  | .row .., h => by simp [AV.lo, Heap.has] at h
  | .tup cs, h => by simp only [AV.lo] at h ⊢; exact loL_mono cs h
  | .fn _ cs, h => by simp only [AV.lo] at h ⊢; exact loL_mono cs h
  | .opt _ x, h => by simp only [AV.lo] at h ⊢; exact lo_mono x h
theorem loL_mono {k : Heap} : ∀ (xs : List AV), AV.loL [] xs = true → AV.loL k xs = true
  | [], _ => by simp [AV.loL]
  | x :: xs, h => by simp only [AV.loL, Bool.and_eq_true] at h ⊢; exact ⟨lo_mono x h.1, loL_mono xs h.2⟩
end
theorem rowLo_mono {k : Heap} {q : Row} (h : rowLo [] q) : rowLo k q := fun e he => loL_mono e (h e he)
theorem HLo.o {k : Heap} {o : Option Row} {h : Heap} (ho : oLo o) (h1 : HLo k h) : HLo k (o :: h) := HLo.cons (fun q hq => rowLo_mono (ho q hq)) h1
theorem HLo.box {k : Heap} {g s : Nat} {cs : List AV} {h : Heap} (hc : AV.loL k cs = true) (h1 : HLo k h) : HLo k (some ⟨g, s, [cs]⟩ :: h) := HLo.cons (fun q hq => by cases hq; exact rowLo_one hc) h1
theorem HLo.fz {k : Heap} {g s : Nat} {xs : List (List FV)} {h : Heap} (h1 : HLo k h) : HLo k (some ⟨g, s, Go.Aw.fz xs⟩ :: h) := HLo.cons (fun q hq => by cases hq; exact rowLo_fz _ _ _ _) h1
end Go.Aw
