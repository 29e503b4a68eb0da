/- From a contract to a row: the arguments of the laws, read as data, and the start that the rows' conditions ask for. -/
import Derived.Test.YtdjiaddhgooppaaDoorRows
import Derived.Test.YtdjiaddhgooppaaDoorTie
import Derived.Test.YtdjiaddhgooppaaDoorCards
import Derived.ProofKit
import Derived.LaidMore
import Derived.OpenShut
import Derived.Stop.Joined
import Derived.SevenTiedAt
import Derived.SizedLaws
import Derived.Test.YtdjiaddhgooppaaDoorAwf
set_option linter.unusedVariables false
set_option linter.unusedSimpArgs false
set_option maxRecDepth 100000
namespace Go.Proofs.YtdjiaddhgooppaaDoor
open Go Go.Aw Go.ChangeShapes Go.WideShapes Go.ChangeAt Go.WideMaps Go.WideElems Go.RowKit

def laid3 : List (String × DataW Unit) := [("math/bits.deBruijn32tab", Rows.laid_math_bits_deBruijn32tab), ("math/bits.deBruijn64tab", Rows.laid_math_bits_deBruijn64tab), ("internal/strconv.uint64pow10", Rows.laid_internal_strconv_uint64pow10)]
theorem door_met (os : Os) (args : Array Value) : laidMetH Tryd.prog laid3 ((World.doorLaid Tryd.prog 400 os).forCall (fun _ _ => 0) ⟨#[], args, []⟩).memory :=
  laidMetH_of_parts3 (fuel := 8) (laidMet_of_run' 8 (by kernel_rfl) (by kernel_rfl)) (by kernel_rfl) (by kernel_rfl)
theorem own : ownKnob Tryd.prog.godebug = none := by kernel_rfl
theorem laidOut3 : laidOutB Tryd.prog = true := by kernel_rfl
theorem cells3 : Tryd.prog.cellsOf 3 = 1 := by kernel_rfl
theorem bytes3 : Tryd.prog.bytesOf 3 = 8 := by kernel_rfl
theorem i6_of_wf {n : Int} (h : (Lit.int .i64 n).wf = true) : I6 n := by
  have h1 : IntKind.i64.min = -9223372036854775808 := rfl
  have h2 : IntKind.i64.max = 9223372036854775807 := rfl
  simp only [Lit.wf, Bool.and_eq_true, decide_eq_true_eq] at h
  constructor <;> omega
section
variable {H : Type} {enc : TypeId × Value → H} {W : World} {base : Nat}
/-- An argument of whole numbers. -/
theorem int_arg {v : Value} {d : DataW H} {p : List MemPlace} {X : Nat → Prop} {L : Link} (hval : Value.okWide Tryd.prog W .any base 3 v) (h : DataW.Trod enc Tryd.prog W 0 (fun _ => true) true 3 v d p) : ∃ n : Int, I6 n ∧ (AV.i n).rep W X L v := by
  obtain ⟨n, rfl, rfl, rfl, wn⟩ := open_int Tryd.underlying3 hval h
  exact ⟨n, i6_of_wf wn, rfl⟩
theorem ints_arg {v : Value} {d : DataW H} {p : List MemPlace} {X : Nat → Prop} {L : Link} (hval : Value.okWide Tryd.prog W .any base 22 v) (h : DataW.Trod enc Tryd.prog W 0 (fun _ => true) true 22 v d p) (hlt : ∀ x, x ∈ p → x.block < W.heap.size) (hX : ∀ b, ¬ X b)
    (hsz : ∀ elems spare, d = .slice elems spare → (elems.length + spare.length) * 8 ≤ reachBytes) : ∃ l : List Int, l.length ≤ 1152921504606846975 ∧ (∀ x, x ∈ l → I6 x) ∧ (AV.f (.ints l)).rep W X L v := by
  obtain ⟨a0, len, cap, rfl⟩ := okWide_slice Tryd.underlying22 hval
  obtain ⟨fuel, hf⟩ := h
  rcases open_ints Tryd.underlying22 Tryd.underlying3 cells3 hf with ⟨hcs, hx⟩ | ⟨a, len', cap', zs, hcs, _, hl, hm, hz, hx, hcell, hwz⟩
  · simp [Value.cells] at hcs
    obtain ⟨rfl, rfl, rfl⟩ := hcs
    exact ⟨[], by simp, by simp, none, 0, rfl, Nat.le_refl _, .inl rfl⟩
  · simp [Value.cells] at hcs
    obtain ⟨rfl, rfl, rfl⟩ := hcs
    simp only [Prod.mk.injEq] at hx
    obtain ⟨rfl, rfl⟩ := hx
    simp only [if_true] at hz
    have hreach := hsz _ _ rfl
    simp only [lits, List.length_map, List.length_take, List.length_drop, reachBytes] at hreach
    have hlen : (zs.take len).length = len := by rw [List.length_take]; omega
    refine ⟨zs.take len, by omega, fun x hx => i6_of_wf (hwz x (List.mem_of_mem_take hx)), ?_⟩
    by_cases hl0 : len = 0
    · subst hl0
      exact ⟨some a, cap, by simp, by simp, .inl (by simp)⟩
    · obtain ⟨b, off, spot⟩ := a
      have hspot : spot = none := by simpa [Addr.add] using World.cell?_spot (hcell 0 (by omega))
      subst hspot
      have hbW : b < W.heap.size := hlt (.cell b off) (MemPlace.mem_row.2 ⟨0, by omega, by simp⟩)
      refine ⟨some ⟨b, off, none⟩, cap, by rw [List.length_map, hlen], by rw [List.length_map, hlen]; exact hl, .inr ⟨b, off, rfl, hbW, hX b, FV.repEls_of fun j c hj => ?_⟩⟩
      rw [List.getElem?_map] at hj
      cases hz2 : (zs.take len)[j]? with
      | none => rw [hz2] at hj; cases hj
      | some z =>
        rw [hz2] at hj
        cases hj
        have hjl := (List.getElem?_eq_some_iff.1 hz2).1
        rw [List.getElem?_take, if_pos (by omega)] at hz2
        refine ⟨rfl, ⟨.int .i64 z, ?_, rfl⟩, trivial⟩
        have := hcell j (by omega)
        rw [add_plain, List.getD, hz2] at this
        rw [Nat.mul_one]; exact this
theorem trodAll_below : ∀ {ts : List TypeId} {vs : List Value} {ds : List (DataW H)} {ps : List MemPlace} {W' : World}, (∀ t, t ∈ ts → t = 22 ∨ t = 3) → DataW.TrodAll enc Tryd.prog W 0 (fun _ => true) true ts vs ds ps → Below W.heap.size W W' → (∀ x, x ∈ ps → x.block < W.heap.size) → DataW.TrodAll enc Tryd.prog W' 0 (fun b => decide (b < W.heap.size)) true ts vs ds ps
  | [], [], [], _, _, _, h, _, _ => h
  | t :: ts, v :: vs, d :: ds, _, _, hts, ⟨p, q, h1, h2, rfl⟩, hb, hlt => by
    refine ⟨p, q, ?_, trodAll_below (fun t ht => hts t (List.mem_cons_of_mem _ ht)) h2 hb (fun x hx => hlt x (List.mem_append_right _ hx)), rfl⟩
    have hx : ∀ x, x ∈ p → x.block < W.heap.size := fun x hx => hlt x (List.mem_append_left _ hx)
    rcases hts t (List.mem_cons_self ..) with rfl | rfl
    · exact Below.trod laidOut3 (by kernel_rfl) (of_decide_eq_true (by kernel_rfl)) h1 hb hx
    · exact Below.trod laidOut3 (by kernel_rfl) (of_decide_eq_true (by kernel_rfl)) h1 hb hx
  | [], _ :: _, _, _, _, _, h, _, _ => h.elim
  | [], [], _ :: _, _, _, _, h, _, _ => h.elim
  | _ :: _, [], _, _, _, _, h, _, _ => h.elim
  | _ :: _, _ :: _, [], _, _, _, h, _, _ => h.elim
end
theorem hsim0 (W : World) : HSim ⟨Tryd.prog, fun _ => False, W, W.heap.size⟩ (fun _ _ => none) [] W :=
  ⟨fun id r h => by simp at h, fun id r id' r' b t t' h => by simp at h, fun id r g h => by simp at h, fun _ _ _ => rfl, fun b h => h.elim⟩
theorem run_law {W : World} {f : FuncId} {args : List AV} {vs : List Value} (hc : AC (En W W.heap.size) f args [] (fun r h => h = [] ∧ r = .b true)) (hrep : AV.repL W (Bar ⟨Tryd.prog, fun _ => False, W, W.heap.size⟩ [] (fun _ _ => none)) (fun _ _ => none) args vs) :
    Calls Tryd.prog f vs.toArray W (fun e W' => e = .returned (.bool true) ∧ Below W.heap.size W W') :=
  (hc (fun _ => False) (fun _ _ => none) W vs (hsim0 W) (Below.refl _ _) (Nat.le_refl _) hrep).mono fun e W' ⟨r, h', L', v, he, ⟨_, hr⟩, hrep, _, hb, _, _⟩ => by
    subst hr
    have hv : v = .bool true := hrep
    subst hv
    exact ⟨he, hb⟩
theorem noBar (W : World) : ∀ b, ¬ Bar ⟨Tryd.prog, fun _ => False, W, W.heap.size⟩ [] (fun _ _ => none) b := by
  rintro b (h | ⟨id, r, t, h, _⟩)
  · exact h
  · simp at h
end Go.Proofs.YtdjiaddhgooppaaDoor
