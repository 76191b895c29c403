/- Arguments of a row: a type's reading (trod) as a kind's (Kd): integers, strings, Booleans, structs of such, slices of each. 'Opens P t k B': whatever reads as a value of type t is one of kind k, and B holds of it. -/
import Derived.Test.YtobiejdagfimdaaProg
import Derived.Below
import Derived.Deep.Draws
import Derived.Deep.AppendLies
import Derived.Maps.AppendAt
import Derived.OwnWalk
import Derived.Laws.BytesArg
import Derived.Laws.MakeOwn
import Derived.Laws.OwnMore
import Derived.Deep.OwnRows
import Derived.Tactics
import Derived.Lib.ConvBytes
import Derived.Laws.Slices
import Derived.WalkKit
import Derived.KernelRfl
import Derived.RowKit3
import Derived.Deep.LoopGhost
import Derived.Deep.QuietTactic
import Derived.BigQuiet
import Derived.WideLaws
import Derived.Deep.DeepCutAuto
import Derived.Deep.CutBlock
import Derived.Deep.RegionHeld3
import Derived.Laws.Rows
import Derived.Lib.AppendStr
import Derived.ArgAppend
import Derived.Laws.IdiomCopy
import Derived.OrdersHeld
import Derived.Laws.BitsLemmas
import Derived.RowKit
import Derived.Test.YtobiejdagfimdaaWWords
import Derived.Test.YtobiejdagfimdaaWLast
import Derived.Test.YtobiejdagfimdaaWTab
import Derived.Test.YtobiejdagfimdaaWFour
import Derived.Test.YtobiejdagfimdaaWQPut
import Derived.Test.YtobiejdagfimdaaWApart
import Derived.Test.YtobiejdagfimdaaWArr
import Derived.Test.YtobiejdagfimdaaWZeros
import Derived.Test.YtobiejdagfimdaaWFoot
import Derived.Test.YtobiejdagfimdaaWKept
import Derived.Test.YtobiejdagfimdaaWShare
import Derived.Test.YtobiejdagfimdaaWN
import Derived.Test.YtobiejdagfimdaaWFootNe
import Derived.Test.YtobiejdagfimdaaWAt
import Derived.Test.YtobiejdagfimdaaWEqStruct
import Derived.Test.YtobiejdagfimdaaWRepsOne
import Derived.Test.YtobiejdagfimdaaWInv
import Derived.Test.YtobiejdagfimdaaWInvWords
import Derived.Test.YtobiejdagfimdaaWGuard
import Derived.Test.YtobiejdagfimdaaWNEv
import Derived.Test.YtobiejdagfimdaaWMore
import Derived.Lib.SmallJoins
import Derived.SizedLaws
import Derived.Deep.Slices
namespace Go.Proofs.Ytobiejdagfimdaa.Hand
open Go.ChangeShapes Go.WideShapes Go.RowKit Go.Deep
open Go.RowKit Go.Proofs.YtobiejdagfimdaaW.PrintWords Go.Proofs.YtobiejdagfimdaaW.PrintLast Go.Proofs.YtobiejdagfimdaaW.PrintMore
set_option linter.unusedVariables false
set_option linter.unusedSimpArgs false

theorem weights_mem_all {H : Type} {P : Program} {e : TypeId} : ∀ {ds : List (DataW H)} {d : DataW H}, d ∈ ds → ∀ n ∈ d.weights P e, n ∈ DataW.weightsAll P e ds
  | d0 :: ds, d, hd, n, hn => by
    simp only [DataW.weightsAll, List.mem_append]
    rcases List.mem_cons.1 hd with rfl | h
    · exact Or.inl hn
    · exact Or.inr (weights_mem_all h n hn)
  | [], _, hd, _, _ => by cases hd

def Light {H : Type} (P : Program) (t : TypeId) (d : DataW H) : Prop := ∀ n ∈ d.weights P t, n ≤ reachBytes
def Opens {α : Type} (P : Program) (t : TypeId) (k : Kd α) (B : α → Prop) : Prop :=
  ∀ (H : Type) (enc : TypeId × Value → H) (w : World) (base : Nat) (spare : Nat → Bool) (held : Bool) (fuel : Nat) (cs : List Value) (x : DataW H × List MemPlace),
    DataW.trod enc P w base spare held fuel t cs = some x → Light P t x.1 → ∃ a : α, k.K w a cs ∧ B a
theorem light_arg {H : Type} {P : Program} {ts : List TypeId} {ds : List (DataW H)} (h : (DataW.weightsEach P ts ds).all (· ≤ reachBytes) = true) {j : Nat} {t : TypeId} {d : DataW H} (ht : ts[j]? = some t) (hd : ds[j]? = some d) : Light P t d :=
  fun n hn => by simpa using List.all_eq_true.1 h _ (DataW.weights_mem_each ht hd n hn)
theorem light_field {H : Type} {P : Program} {t : TypeId} {fs : Array Field} {parts : List (DataW H)} (hs : P.underlying t = some (.struct fs)) (h : Light P t (.agg parts)) {i : Nat} {f : Field} {d : DataW H} (hf : fs[i]? = some f) (hd : parts[i]? = some d) : Light P f.type d :=
  fun n hn => h n (by
    simp only [DataW.weights, hs]
    exact DataW.weights_mem_each (j := i) (t := f.type) (by rw [List.getElem?_map]; simp [hf]) hd n hn)

theorem opens_int {P : Program} {t : TypeId} {k : IntKind} (ht : P.underlying t = some (.int k)) : Opens P t (Kd.int k) (fun n => (Lit.int k n).wf = true) := by
  intro H enc w base spare held fuel cs x h _
  obtain ⟨n, rfl, _, hn⟩ := DataW.trod_int ht h
  exact ⟨n, rfl, hn⟩
theorem opens_string {P : Program} {t : TypeId} (ht : P.underlying t = some .string) : Opens P t Kd.string (fun s => s.size ≤ 140737488351232) := by
  intro H enc w base spare held fuel cs x h hw
  obtain ⟨s, rfl, rfl, _⟩ := DataW.trod_string ht h
  refine ⟨s, rfl, ?_⟩
  have := hw s.data.toList.length (by simp [DataW.weights])
  rw [Array.length_toList] at this
  simpa [reachBytes] using this

/-- A slice, opened as a row of its kind. -/
theorem open_row {α : Type} {P : Program} {t e : TypeId} {k : Kd α} {B : α → Prop} (ho : Opens P e k B) (hsz : P.cellsOf e = k.sz) (ht : P.underlying t = some (.slice e)) {H : Type} {enc : TypeId × Value → H} {w : World} {base : Nat} {spare : Nat → Bool} {held : Bool} {fuel : Nat} {cs : List Value} {x : DataW H × List MemPlace}
    (h : DataW.trod enc P w base spare held fuel t cs = some x) (hw : Light P t x.1) :
    ∃ (A : Option Addr) (c : Nat) (l : List α), cs = [.slice A l.length c] ∧ l.length ≤ c ∧ c ≤ maxLen ∧ Kd.C k w A l.length l ∧ (∀ a ∈ l, B a) ∧ l.length * P.bytesOf e ≤ reachBytes := by
  rcases Go.Deep.open_slice ht h with ⟨rfl, _⟩ | ⟨a, len, cap, m, n, D, Pl, rfl, hb, hl, hm, hmm, rfl, hx⟩
  · have hC : Kd.C k w none 0 ([] : List α) := ⟨rfl, by decide, fun h => absurd h (by decide)⟩
    exact ⟨none, 0, [], rfl, Nat.le_refl _, Nat.zero_le _, hC, (fun _ h => by cases h), by simp⟩
  · have hlm : len ≤ m := by rw [hmm]; split <;> omega
    have each : ∀ i : Fin len, ∃ q : α × List Value, w.cells? base (a.add (i.val * P.cellsOf e)) (P.cellsOf e) = some q.2 ∧ k.K w q.1 q.2 ∧ B q.1 := by
      intro i
      obtain ⟨cs', h1, h2⟩ := hx i.val (by omega)
      obtain ⟨y, hk, hB⟩ := ho H enc w base spare held n cs' _ h2 (fun v hv => hw v (by
        simp only [DataW.weights, ht, List.mem_cons, List.mem_append]
        refine Or.inr (Or.inl (weights_mem_all (d := D i.val) ?_ v hv))
        exact List.mem_map.2 ⟨i.val, List.mem_range.2 i.isLt, rfl⟩))
      exact ⟨(y, cs'), h1, hk, hB⟩
    let f : Fin len → α := fun i => (Classical.choose (each i)).1
    have hf : ∀ i : Fin len, ∃ c, w.cells? base (a.add (i.val * P.cellsOf e)) (P.cellsOf e) = some c ∧ k.K w (f i) c ∧ B (f i) := fun i => ⟨_, Classical.choose_spec (each i)⟩
    have hlen : (List.ofFn f).length = len := List.length_ofFn
    refine ⟨some a, cap, List.ofFn f, by rw [hlen], by omega, hm, ⟨rfl, ?_, fun _ => ⟨a, rfl, fun j p hj => ?_⟩⟩, ?_, ?_⟩
    · rw [hlen]; have : maxLen ≤ 9223372036854775807 := by decide
      omega
    · have hjl : j < len := by
        have := (List.getElem?_eq_some_iff.1 hj).1
        omega
      obtain ⟨c, h1, h2, _⟩ := hf ⟨j, hjl⟩
      obtain ⟨_, hcl, hcell⟩ := World.cells?_some h1
      have hp : p = f ⟨j, hjl⟩ := by
        rw [List.getElem?_ofFn, dif_pos hjl] at hj
        exact (Option.some.inj hj).symm
      rw [hp]
      refine ⟨c, k.K_len h2, h2, fun i u hu => ?_⟩
      have hi : i < P.cellsOf e := by
        have := (List.getElem?_eq_some_iff.1 hu).1
        omega
      have := hcell i hi
      rw [Go.Deep.add_add, hsz] at this
      exact this.trans hu
    · intro y hy
      obtain ⟨i, rfl⟩ := List.mem_ofFn.1 hy
      exact (hf i).choose_spec.2.2
    · rw [hlen]
      have := hw _ (by simp only [DataW.weights, ht]; exact List.mem_cons_self ..)
      simp only [List.length_map, List.length_range] at this
      exact Nat.le_trans (Nat.mul_le_mul_right _ (by omega)) this

/-- A struct whose fields are two cells. -/
theorem opens_pair {α β γ : Type} {P : Program} {t : TypeId} {f0 f1 : Field} {k0 : Kd α} {k1 : Kd β} {B0 : α → Prop} {B1 : β → Prop} (hs : P.underlying t = some (.struct #[f0, f1])) (hone : oneCellFields P #[f0, f1] = true)
    (h0 : Opens P f0.type k0 B0) (h1 : Opens P f1.type k1 B1) (k : Kd γ) (mk : α → β → γ) (B : γ → Prop) (hk : ∀ w a b c0 c1, k0.K w a [c0] → k1.K w b [c1] → k.K w (mk a b) [c0, c1]) (hB : ∀ a b, B0 a → B1 b → B (mk a b)) (hC : P.cellsOf t = 2) : Opens P t k B := by
  intro H enc w base spare held fuel cs x h hw
  obtain ⟨ys, n, _, rfl, hl, hlen, hg⟩ := DataW.trod_struct hs h
  obtain ⟨o0, z0⟩ := hone_of hone 0 f0 rfl
  obtain ⟨o1, z1⟩ := hone_of hone 1 f1 rfl
  have g0 := hg 0 f0 rfl
  have g1 := hg 1 f1 rfl
  rw [o0, z0] at g0
  rw [o1, z1] at g1
  match cs, hl.trans hC, ys, hlen with
  | [c0, c1], _, [y0, y1], _ =>
    obtain ⟨a, ha, hBa⟩ := h0 H enc w base spare held n _ _ g0 (light_field hs hw (i := 0) rfl rfl)
    obtain ⟨b, hb, hBb⟩ := h1 H enc w base spare held n _ _ g1 (light_field hs hw (i := 1) rfl rfl)
    exact ⟨mk a b, hk w a b c0 c1 ha hb, hB a b hBa hBb⟩
end Go.Proofs.Ytobiejdagfimdaa.Hand
