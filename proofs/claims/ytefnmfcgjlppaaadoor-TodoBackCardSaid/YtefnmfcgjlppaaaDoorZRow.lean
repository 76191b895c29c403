/- The plain law of todo's Check, Left and Same. -/
import Derived.Test.YtefnmfcgjlppaaaDoorZLine
import Derived.Test.YtefnmfcgjlppaaaDoorZPTdx16
import Derived.Test.YtefnmfcgjlppaaaDoorProg
import Derived.Below
import Derived.Deep.Draws
import Derived.Deep.AppendLies
import Derived.Maps.AppendAt
import Derived.OwnWalk
import Derived.Laws.BytesArg
import Derived.Laws.MakeOwn
import Derived.Laws.OwnMore
import Derived.Deep.OwnRows
import Derived.Tactics
import Derived.Lib.ConvBytes
import Derived.Laws.Slices
import Derived.WalkKit
import Derived.KernelRfl
import Derived.RowKit3
import Derived.Deep.LoopGhost
import Derived.Deep.QuietTactic
import Derived.BigQuiet
import Derived.WideLaws
import Derived.Deep.DeepCutAuto
import Derived.Deep.CutBlock
import Derived.Deep.RegionHeld3
import Derived.Laws.Rows
import Derived.Lib.AppendStr
import Derived.ArgAppend
import Derived.Laws.IdiomCopy
import Derived.OrdersHeld
import Derived.Laws.BitsLemmas
import Derived.RowKit
import Derived.Test.YtefnmfcgjlppaaaDoorWWords
import Derived.Test.YtefnmfcgjlppaaaDoorWLast
import Derived.Test.YtefnmfcgjlppaaaDoorWTab
import Derived.Test.YtefnmfcgjlppaaaDoorWFour
import Derived.Test.YtefnmfcgjlppaaaDoorWQPut
import Derived.Test.YtefnmfcgjlppaaaDoorWApart
import Derived.Test.YtefnmfcgjlppaaaDoorWArr
import Derived.Test.YtefnmfcgjlppaaaDoorWZeros
import Derived.Test.YtefnmfcgjlppaaaDoorWFoot
import Derived.Test.YtefnmfcgjlppaaaDoorWKept
import Derived.Test.YtefnmfcgjlppaaaDoorWShare
import Derived.Test.YtefnmfcgjlppaaaDoorWN
import Derived.Test.YtefnmfcgjlppaaaDoorWFootNe
import Derived.Test.YtefnmfcgjlppaaaDoorWAt
import Derived.Test.YtefnmfcgjlppaaaDoorWEqStruct
import Derived.Test.YtefnmfcgjlppaaaDoorWRepsOne
import Derived.Test.YtefnmfcgjlppaaaDoorWInv
import Derived.Test.YtefnmfcgjlppaaaDoorWInvWords
import Derived.Test.YtefnmfcgjlppaaaDoorWGuard
import Derived.Test.YtefnmfcgjlppaaaDoorWNEv
import Derived.Test.YtefnmfcgjlppaaaDoorWMore
import Derived.Lib.SmallJoins
import Derived.SizedLaws
import Derived.Deep.Slices
import Derived.Test.YtefnmfcgjlppaaaDoorRows
import Derived.ProofKit
import Derived.OpenShut
import Derived.ShutString
import Derived.ChangeOld
import Derived.LaidMore
import Derived.Stop.Joined
import Derived.Test.YtefnmfcgjlppaaaDoorZPTdx13
namespace Go.Proofs.YtefnmfcgjlppaaaDoor.Pure
open Go.RowKit Go.Proofs.YtefnmfcgjlppaaaDoor.PTd Go.Proofs.YtefnmfcgjlppaaaDoor.Hand Go.Proofs.YtefnmfcgjlppaaaDoorW.PrintWords Go.Proofs.YtefnmfcgjlppaaaDoorW.PrintLast
set_option linter.unusedVariables false
set_option linter.unusedSimpArgs false
abbrev Todo := S34
theorem contains_f (s : ByteArray) : strings_Contains.f s ⟨#[10]⟩ = some (feedQ s) := by
  unfold strings_Contains.f strings_Index.f
  rw [if_pos (show (⟨#[10]⟩ : ByteArray).size = 1 from rfl), Option.bind_some]
  rfl
theorem goodQ_eq (x : Todo) : goodQ x = (if x.f0 < 1 ∨ x.f0 > 7 then false else if x.f0 = 7 then (x.f1.toList == []) && (x.f2.toList == []) else isQ x.f1 && !feedQ x.f2 && decide ((x.f2.size : Int) ≤ 4096)) := by
  have h := goodQ_f x
  have hi : ident_Is.f 59 x.f1 = some (isQ x.f1) := is_up x.f1 9
  unfold todo_good.f at h
  generalize goodQ x = g at *
  by_cases h1 : x.f0 < 1
  · rw [if_pos h1, todo_good.j0, if_pos rfl] at h
    injection h with h
    rw [if_pos (Or.inl h1), h]
  · rw [if_neg h1, todo_good.j0] at h
    by_cases h2 : x.f0 > 7
    · rw [if_pos (decide_eq_true h2)] at h
      injection h with h
      rw [if_pos (Or.inr h2), h]
    · rw [if_neg (by simpa using h2)] at h
      rw [if_neg (fun h => h.elim h1 h2)]
      by_cases h3 : x.f0 = 7
      · rw [if_pos h3] at h
        rw [if_pos h3]
        by_cases h4 : x.f1.toList = []
        · rw [if_pos h4] at h
          injection h with h
          rw [← h, h4]; rfl
        · rw [if_neg h4] at h
          injection h with h
          rw [← h, beq_eq_false_iff_ne.mpr h4]; rfl
      · rw [if_neg h3, hi, Option.bind_some] at h
        rw [if_neg h3]
        cases hb : isQ x.f1 with
        | false =>
          rw [hb, if_neg (by simp)] at h
          injection h with h
          rw [← h]; rfl
        | true =>
          rw [hb, if_pos rfl, contains_f, Option.bind_some] at h
          cases hf : feedQ x.f2 with
          | true =>
            rw [hf, if_pos rfl] at h
            injection h with h
            rw [← h]; rfl
          | false =>
            rw [hf, if_neg (by simp)] at h
            injection h with h
            rw [← h]; rfl
def Sized (l : List Todo) : Prop := ∀ x ∈ l, x.f1.size ≤ 1000000000000000 ∧ x.f2.size ≤ 1000000000000000
theorem may_ev (x : Todo) (hx : x.f2.size ≤ 1000000000000000) : Ev (fun k => graftageref42_may.f k x.f0 x.f1 x.f2) (goodQ x) := by
  rw [goodQ_eq]
  have hj : ∀ b : Bool, Ev (fun k => graftageref42_may.j0 k b x.f0 x.f1 x.f2) (if b = true then false else if x.f0 = 7 then (if x.f1.toList = [] then (x.f2.toList == []) else false) else isQ x.f1) := by
    intro b
    refine Ev.succ ?_
    cases b with
    | true => exact Ev.of (fun k => by rw [graftageref42_may.j0, if_pos rfl]; rfl)
    | false =>
      rw [if_neg (by simp)]
      by_cases h3 : x.f0 = 7
      · rw [if_pos h3]
        refine Ev.of (fun k => ?_)
        rw [graftageref42_may.j0, if_neg (by simp), if_pos h3]
        split <;> rfl
      · rw [if_neg h3]
        refine Ev.congr (fun k => ?_) (Ev.bind (g := fun t _ => some t) (is_ev x.f1) (Ev.pure _))
        rw [graftageref42_may.j0, if_neg (by simp), if_neg h3]
  by_cases h1 : 1 ≤ x.f0 ∧ x.f0 ≤ 7
  · rw [if_neg (by omega)]
    have hw : ¬ (wordR x.f0).toList = [] := fun h => (wordR_nil _).1 h h1
    have hf := feed_ev x.f2 (by omega)
    cases hq : feedQ x.f2 with
    | true =>
      rw [hq] at hf
      refine Ev.val (Ev.congr (fun k => ?_) (Ev.bind (g := fun t k => if t = true then graftageref42_may.j0 k true x.f0 x.f1 x.f2 else graftageref42_may.j0 k (decide ((x.f2.size : Int) > 4096)) x.f0 x.f1 x.f2) hf (Ev.congr (fun k => if_pos rfl) (hj true)))) ?_
      · rw [graftageref42_may.f, word_f, Option.bind_some, if_neg hw]
      · rw [if_pos rfl]
        have hn : ¬ x.f2.toList = [] := by
          intro h
          unfold feedQ at hq
          rw [toList_bytes] at h
          rw [h] at hq
          exact absurd hq (by decide)
        by_cases h3 : x.f0 = 7
        · rw [if_pos h3, beq_eq_false_iff_ne.mpr hn, Bool.and_false]
        · rw [if_neg h3]; simp
    | false =>
      rw [hq] at hf
      refine Ev.val (Ev.congr (fun k => ?_) (Ev.bind (g := fun t k => if t = true then graftageref42_may.j0 k true x.f0 x.f1 x.f2 else graftageref42_may.j0 k (decide ((x.f2.size : Int) > 4096)) x.f0 x.f1 x.f2) hf (Ev.congr (fun k => if_neg (by simp)) (hj _)))) ?_
      · rw [graftageref42_may.f, word_f, Option.bind_some, if_neg hw]
      · by_cases h4 : (x.f2.size : Int) > 4096
        · rw [decide_eq_true h4, if_pos rfl, decide_eq_false (show ¬ (x.f2.size : Int) ≤ 4096 by omega)]
          have hn : ¬ x.f2.toList = [] := by
            intro h
            rw [toList_bytes] at h
            have : x.f2.size = 0 := by
              have e : x.f2.size = x.f2.data.toList.length := by rw [Array.length_toList]; rfl
              rw [e, h]; rfl
            omega
          by_cases h3 : x.f0 = 7
          · rw [if_pos h3, beq_eq_false_iff_ne.mpr hn, Bool.and_false]
          · rw [if_neg h3]; simp
        · rw [decide_eq_false h4, if_neg (by simp), decide_eq_true (show (x.f2.size : Int) ≤ 4096 by omega)]
          by_cases h3 : x.f0 = 7
          · rw [if_pos h3, if_pos h3]
            by_cases h5 : x.f1.toList = []
            · rw [if_pos h5, h5]; rfl
            · rw [if_neg h5, beq_eq_false_iff_ne.mpr h5]; rfl
          · rw [if_neg h3, if_neg h3]; simp
  · rw [if_pos (by omega)]
    refine Ev.val (Ev.congr (fun k => ?_) (hj true)) (by rw [if_pos rfl])
    rw [graftageref42_may.f, word_f, Option.bind_some, if_pos ((wordR_nil _).2 h1)]
theorem rmakes_f (x : Todo) : graftageref42_makes.f x.f0 = some (makesQ x) := by
  unfold graftageref42_makes.f makesQ
  by_cases h1 : x.f0 = 1
  · rw [if_pos h1, decide_eq_true h1]; rfl
  · rw [if_neg h1, decide_eq_false h1]
    by_cases h2 : x.f0 = 2
    · rw [if_pos h2, decide_eq_true h2]; rfl
    · rw [if_neg h2, decide_eq_false h2]
      rfl
theorem idxQ_any (p : Todo → Bool) : ∀ (l : List Todo) (i : Int), 0 ≤ i → decide (0 ≤ idxQ p l i) = l.any p := by
  intro l
  induction l with
  | nil => intro i _; rfl
  | cons x l ih =>
    intro i hi
    rw [idxQ, List.any_cons]
    cases hp : p x with
    | true => rw [if_pos rfl, decide_eq_true hi]; rfl
    | false => rw [if_neg (by simp), ih (i + 1) (by omega)]; rfl
theorem drop_take_cons (l : List Todo) (i j : Nat) (hj : j < i) (hi : i ≤ l.length) : (l.take i).drop j = rd_T34 l j :: (l.take i).drop (j + 1) := by
  have h1 : (l.take i).length = i := by rw [List.length_take]; omega
  rw [drop_cons (l.take i) j (by omega)]
  congr 1
  unfold rd_T34
  simp only [Int.toNat_natCast, List.getD_eq_getElem?_getD, List.getElem?_take_of_lt hj]
theorem chk_l1 (l : List Todo) (there : Bool) (i : Nat) (hi : i < l.length) (hl : l.length ≤ 256) (R : Int) (hE : Ev (fun k => graftageref42_Check.l1 k l there i i) R) (d : Nat) : ∀ j : Nat, i = j + d →
    Ev (fun k => graftageref42_Check.l1 k l there i j) (if (rd_T34 l i).f1.toList ≠ [] ∧ ((l.take i).drop j).any (sameId (rd_T34 l i).f1) = true then 6 else R) := by
  induction d with
  | zero =>
    intro j hj
    obtain rfl : i = j := hj
    have h1 : (l.take i).length = i := by rw [List.length_take]; omega
    rw [List.drop_of_length_le (by omega), if_neg (by simp)]
    exact hE
  | succ d ih =>
    intro j hj
    have ih' := ih (j + 1) (by omega)
    rw [drop_take_cons l i j (by omega) (by omega), List.any_cons]
    refine Ev.succ ?_
    by_cases h1 : (rd_T34 l i).f1.toList = []
    · rw [if_neg (fun h => h.1 h1)]
      rw [if_neg (fun h => h.1 h1)] at ih'
      refine Ev.congr (fun k => ?_) ih'
      rw [graftageref42_Check.l1, if_pos (by omega), if_pos (by omega), if_pos (by omega), if_pos h1, wrap64_id (by omega) (by omega)]
      rfl
    · cases h2 : sameId (rd_T34 l i).f1 (rd_T34 l j) with
      | true =>
        rw [Bool.true_or, if_pos ⟨h1, rfl⟩]
        refine Ev.of (fun k => ?_)
        rw [graftageref42_Check.l1, if_pos (by omega), if_pos (by omega), if_pos (by omega), if_neg h1, if_pos (by omega), if_pos (by omega), if_pos (beq_iff_eq.1 h2)]
      | false =>
        rw [Bool.false_or]
        refine Ev.congr (fun k => ?_) ih'
        rw [graftageref42_Check.l1, if_pos (by omega), if_pos (by omega), if_pos (by omega), if_neg h1, if_pos (by omega), if_pos (by omega), if_neg (beq_eq_false_iff_ne.1 h2), wrap64_id (by omega) (by omega)]
        rfl
theorem chk_l0 (l : List Todo) (hl : l.length ≤ 256) (hs : Sized l) (d : Nat) : ∀ (i : Nat) (there : Bool), l.length = i + d → Ev (fun k => graftageref42_Check.l0 k l there i) (checkL (l.drop i) (l.take i) there) := by
  induction d with
  | zero =>
    intro i there hi
    rw [List.drop_of_length_le (by omega), checkL]
    refine Ev.succ (Ev.of (fun k => ?_))
    rw [graftageref42_Check.l0, if_neg (by omega)]
  | succ d ih =>
    intro i there hi
    have hlt : i < l.length := by omega
    have ih' := fun t => ih (i + 1) t (by omega)
    have hmem : rd_T34 l i ∈ l := by
      have : rd_T34 l i = l[i] := by
        unfold rd_T34
        rw [Int.toNat_natCast, List.getD_eq_getElem?_getD, List.getElem?_eq_getElem hlt]; rfl
      rw [this]; exact List.getElem_mem hlt
    have hm := may_ev (rd_T34 l i) (hs _ hmem).2
    rw [drop_cons l i hlt, checkL, take_snoc l i hlt, idxQ_any _ _ _ (Int.le_refl 0)]
    refine Ev.succ (Ev.congr (fun k => ?_) (Ev.bind (g := fun t k => if t = true then graftageref42_Check.l1 k l there i 0 else some 1) hm ?_))
    · rw [graftageref42_Check.l0, if_pos (by omega), if_pos (by omega)]
    · cases hg : goodQ (rd_T34 l i) with
      | false =>
        rw [if_pos rfl]
        exact Ev.of (fun k => by rw [if_neg (by simp)])
      | true =>
        rw [if_neg (by simp)]
        refine Ev.congr (fun k => if_pos rfl) ?_
        have hE : Ev (fun k => graftageref42_Check.l1 k l there i i) (if ((rd_T34 l i).f0 = 4 ∨ (rd_T34 l i).f0 = 5) ∧ there = false then 420 else checkL (l.drop (i + 1)) (l.take (i + 1)) (there || makesQ (rd_T34 l i))) := by
          have hw : wrap64 ((i : Int) + 1) = ((i + 1 : Nat) : Int) := by rw [wrap64_id (by omega) (by omega)]; rfl
          refine Ev.succ ?_
          cases there with
          | true =>
            rw [if_neg (fun h => by simpa using h.2), Bool.true_or]
            refine Ev.congr (fun k => ?_) (ih' true)
            rw [graftageref42_Check.l1, if_neg (by omega), if_pos (by omega), if_pos (by omega), if_pos rfl, hw]
            simp only [if_true, ite_self]
          | false =>
            rw [Bool.false_or]
            by_cases h4 : (rd_T34 l i).f0 = 4
            · rw [if_pos ⟨Or.inl h4, rfl⟩]
              refine Ev.of (fun k => ?_)
              rw [graftageref42_Check.l1, if_neg (by omega), if_pos (by omega), if_pos (by omega), if_pos h4, if_neg (by simp)]
            · by_cases h5 : (rd_T34 l i).f0 = 5
              · rw [if_pos ⟨Or.inr h5, rfl⟩]
                refine Ev.of (fun k => ?_)
                rw [graftageref42_Check.l1, if_neg (by omega), if_pos (by omega), if_pos (by omega), if_neg h4, if_pos h5, if_neg (by simp)]
              · rw [if_neg (fun h => h.1.elim h4 h5)]
                refine Ev.congr (fun k => ?_) (ih' (makesQ (rd_T34 l i)))
                rw [graftageref42_Check.l1, if_neg (by omega), if_pos (by omega), if_pos (by omega), if_neg h4, if_neg h5, if_neg (by simp), rmakes_f, Option.bind_some, hw]
        have h := chk_l1 l there i hlt hl _ hE i 0 (by omega)
        rw [List.drop_zero] at h
        refine Ev.val h (ite_congr (propext ?_) (fun _ => rfl) (fun _ => rfl))
        rw [bne_iff_ne]
theorem check_ev (l : List Todo) (hs : Sized l) : Ev (fun k => graftageref42_Check.f k l) (checkQ l) := by
  unfold checkQ
  by_cases h : l.length > 256
  · rw [if_pos h]
    exact Ev.of (fun k => by rw [graftageref42_Check.f, if_pos (by omega)])
  · rw [if_neg h]
    refine Ev.val (Ev.congr (fun k => ?_) (chk_l0 l (by omega) hs l.length 0 false (by omega))) (by simp)
    rw [graftageref42_Check.f, if_neg (by omega)]
    rfl
theorem check_f (l : List Todo) : todo_Check.f l = some (checkQ l) := rfl
/-! Same -/
theorem same_l0 (l : List Todo) (hl : l.length ≤ 1000000000) (d : Nat) : ∀ i : Nat, l.length = i + d → Ev (fun k => graftageref42_Same.l0 k l l i) true := by
  induction d with
  | zero =>
    intro i hi
    refine Ev.succ (Ev.of (fun k => ?_))
    rw [graftageref42_Same.l0, if_neg (by omega)]
  | succ d ih =>
    intro i hi
    refine Ev.succ (Ev.congr (fun k => ?_) (ih (i + 1) (by omega)))
    have e : (!((rd_T34 l i).f0 == (rd_T34 l i).f0) || (!((rd_T34 l i).f1.toList == (rd_T34 l i).f1.toList) || !((rd_T34 l i).f2.toList == (rd_T34 l i).f2.toList))) = false := by simp
    rw [graftageref42_Same.l0, if_pos (by omega), if_pos (by omega), if_pos (by omega), if_neg (by rw [e]; simp), wrap64_id (by omega) (by omega)]
    rfl
theorem same_ev (l : List Todo) (hl : l.length ≤ 1000000000) : Ev (fun k => graftageref42_Same.f k l l) true := by
  refine Ev.congr (fun k => ?_) (same_l0 l hl l.length 0 (by omega))
  rw [graftageref42_Same.f, if_pos rfl]
  rfl
end Go.Proofs.YtefnmfcgjlppaaaDoor.Pure
/- Arguments of a row: a type's reading (trod) as a kind's (Kd): integers, strings, Booleans, structs of such, slices of each. 'Opens P t k B': whatever reads as a value of type t is one of kind k, and B holds of it. -/
namespace Go.Proofs.YtefnmfcgjlppaaaDoor.Hand
open Go.ChangeShapes Go.WideShapes Go.RowKit Go.Deep
open Go.RowKit Go.Proofs.YtefnmfcgjlppaaaDoorW.PrintWords Go.Proofs.YtefnmfcgjlppaaaDoorW.PrintLast Go.Proofs.YtefnmfcgjlppaaaDoorW.PrintMore
set_option linter.unusedVariables false
set_option linter.unusedSimpArgs false

theorem weights_mem_all {H : Type} {P : Program} {e : TypeId} : ∀ {ds : List (DataW H)} {d : DataW H}, d ∈ ds → ∀ n ∈ d.weights P e, n ∈ DataW.weightsAll P e ds
  | d0 :: ds, d, hd, n, hn => by
    simp only [DataW.weightsAll, List.mem_append]
    rcases List.mem_cons.1 hd with rfl | h
    · exact Or.inl hn
    · exact Or.inr (weights_mem_all h n hn)
  | [], _, hd, _, _ => by cases hd

def Light {H : Type} (P : Program) (t : TypeId) (d : DataW H) : Prop := ∀ n ∈ d.weights P t, n ≤ reachBytes
def Opens {α : Type} (P : Program) (t : TypeId) (k : Kd α) (B : α → Prop) : Prop :=
  ∀ (H : Type) (enc : TypeId × Value → H) (w : World) (base : Nat) (spare : Nat → Bool) (held : Bool) (fuel : Nat) (cs : List Value) (x : DataW H × List MemPlace),
    DataW.trod enc P w base spare held fuel t cs = some x → Light P t x.1 → ∃ a : α, k.K w a cs ∧ B a
theorem light_arg {H : Type} {P : Program} {ts : List TypeId} {ds : List (DataW H)} (h : (DataW.weightsEach P ts ds).all (· ≤ reachBytes) = true) {j : Nat} {t : TypeId} {d : DataW H} (ht : ts[j]? = some t) (hd : ds[j]? = some d) : Light P t d :=
  fun n hn => by simpa using List.all_eq_true.1 h _ (DataW.weights_mem_each ht hd n hn)
theorem light_field {H : Type} {P : Program} {t : TypeId} {fs : Array Field} {parts : List (DataW H)} (hs : P.underlying t = some (.struct fs)) (h : Light P t (.agg parts)) {i : Nat} {f : Field} {d : DataW H} (hf : fs[i]? = some f) (hd : parts[i]? = some d) : Light P f.type d :=
  fun n hn => h n (by
    simp only [DataW.weights, hs]
    exact DataW.weights_mem_each (j := i) (t := f.type) (by rw [List.getElem?_map]; simp [hf]) hd n hn)

theorem opens_int {P : Program} {t : TypeId} {k : IntKind} (ht : P.underlying t = some (.int k)) : Opens P t (Kd.int k) (fun n => (Lit.int k n).wf = true) := by
  intro H enc w base spare held fuel cs x h _
  obtain ⟨n, rfl, _, hn⟩ := DataW.trod_int ht h
  exact ⟨n, rfl, hn⟩
theorem opens_string {P : Program} {t : TypeId} (ht : P.underlying t = some .string) : Opens P t Kd.string (fun s => s.size ≤ 140737488351232) := by
  intro H enc w base spare held fuel cs x h hw
  obtain ⟨s, rfl, rfl, _⟩ := DataW.trod_string ht h
  refine ⟨s, rfl, ?_⟩
  have := hw s.data.toList.length (by simp [DataW.weights])
  rw [Array.length_toList] at this
  simpa [reachBytes] using this

/-- A slice, opened as a row of its kind. -/
theorem open_row {α : Type} {P : Program} {t e : TypeId} {k : Kd α} {B : α → Prop} (ho : Opens P e k B) (hsz : P.cellsOf e = k.sz) (ht : P.underlying t = some (.slice e)) {H : Type} {enc : TypeId × Value → H} {w : World} {base : Nat} {spare : Nat → Bool} {held : Bool} {fuel : Nat} {cs : List Value} {x : DataW H × List MemPlace}
    (h : DataW.trod enc P w base spare held fuel t cs = some x) (hw : Light P t x.1) :
    ∃ (A : Option Addr) (c : Nat) (l : List α), cs = [.slice A l.length c] ∧ l.length ≤ c ∧ c ≤ maxLen ∧ Kd.C k w A l.length l ∧ (∀ a ∈ l, B a) ∧ l.length * P.bytesOf e ≤ reachBytes := by
  rcases Go.Deep.open_slice ht h with ⟨rfl, _⟩ | ⟨a, len, cap, m, n, D, Pl, rfl, hb, hl, hm, hmm, rfl, hx⟩
  · have hC : Kd.C k w none 0 ([] : List α) := ⟨rfl, by decide, fun h => absurd h (by decide)⟩
    exact ⟨none, 0, [], rfl, Nat.le_refl _, Nat.zero_le _, hC, (fun _ h => by cases h), by simp⟩
  · have hlm : len ≤ m := by rw [hmm]; split <;> omega
    have each : ∀ i : Fin len, ∃ q : α × List Value, w.cells? base (a.add (i.val * P.cellsOf e)) (P.cellsOf e) = some q.2 ∧ k.K w q.1 q.2 ∧ B q.1 := by
      intro i
      obtain ⟨cs', h1, h2⟩ := hx i.val (by omega)
      obtain ⟨y, hk, hB⟩ := ho H enc w base spare held n cs' _ h2 (fun v hv => hw v (by
        simp only [DataW.weights, ht, List.mem_cons, List.mem_append]
        refine Or.inr (Or.inl (weights_mem_all (d := D i.val) ?_ v hv))
        exact List.mem_map.2 ⟨i.val, List.mem_range.2 i.isLt, rfl⟩))
      exact ⟨(y, cs'), h1, hk, hB⟩
    let f : Fin len → α := fun i => (Classical.choose (each i)).1
    have hf : ∀ i : Fin len, ∃ c, w.cells? base (a.add (i.val * P.cellsOf e)) (P.cellsOf e) = some c ∧ k.K w (f i) c ∧ B (f i) := fun i => ⟨_, Classical.choose_spec (each i)⟩
    have hlen : (List.ofFn f).length = len := List.length_ofFn
    refine ⟨some a, cap, List.ofFn f, by rw [hlen], by omega, hm, ⟨rfl, ?_, fun _ => ⟨a, rfl, fun j p hj => ?_⟩⟩, ?_, ?_⟩
    · rw [hlen]; have : maxLen ≤ 9223372036854775807 := by decide
      omega
    · have hjl : j < len := by
        have := (List.getElem?_eq_some_iff.1 hj).1
        omega
      obtain ⟨c, h1, h2, _⟩ := hf ⟨j, hjl⟩
      obtain ⟨_, hcl, hcell⟩ := World.cells?_some h1
      have hp : p = f ⟨j, hjl⟩ := by
        rw [List.getElem?_ofFn, dif_pos hjl] at hj
        exact (Option.some.inj hj).symm
      rw [hp]
      refine ⟨c, k.K_len h2, h2, fun i u hu => ?_⟩
      have hi : i < P.cellsOf e := by
        have := (List.getElem?_eq_some_iff.1 hu).1
        omega
      have := hcell i hi
      rw [Go.Deep.add_add, hsz] at this
      exact this.trans hu
    · intro y hy
      obtain ⟨i, rfl⟩ := List.mem_ofFn.1 hy
      exact (hf i).choose_spec.2.2
    · rw [hlen]
      have := hw _ (by simp only [DataW.weights, ht]; exact List.mem_cons_self ..)
      simp only [List.length_map, List.length_range] at this
      exact Nat.le_trans (Nat.mul_le_mul_right _ (by omega)) this

/-- A struct whose fields are two cells. -/
theorem opens_pair {α β γ : Type} {P : Program} {t : TypeId} {f0 f1 : Field} {k0 : Kd α} {k1 : Kd β} {B0 : α → Prop} {B1 : β → Prop} (hs : P.underlying t = some (.struct #[f0, f1])) (hone : oneCellFields P #[f0, f1] = true)
    (h0 : Opens P f0.type k0 B0) (h1 : Opens P f1.type k1 B1) (k : Kd γ) (mk : α → β → γ) (B : γ → Prop) (hk : ∀ w a b c0 c1, k0.K w a [c0] → k1.K w b [c1] → k.K w (mk a b) [c0, c1]) (hB : ∀ a b, B0 a → B1 b → B (mk a b)) (hC : P.cellsOf t = 2) : Opens P t k B := by
  intro H enc w base spare held fuel cs x h hw
  obtain ⟨ys, n, _, rfl, hl, hlen, hg⟩ := DataW.trod_struct hs h
  obtain ⟨o0, z0⟩ := hone_of hone 0 f0 rfl
  obtain ⟨o1, z1⟩ := hone_of hone 1 f1 rfl
  have g0 := hg 0 f0 rfl
  have g1 := hg 1 f1 rfl
  rw [o0, z0] at g0
  rw [o1, z1] at g1
  match cs, hl.trans hC, ys, hlen with
  | [c0, c1], _, [y0, y1], _ =>
    obtain ⟨a, ha, hBa⟩ := h0 H enc w base spare held n _ _ g0 (light_field hs hw (i := 0) rfl rfl)
    obtain ⟨b, hb, hBb⟩ := h1 H enc w base spare held n _ _ g1 (light_field hs hw (i := 1) rfl rfl)
    exact ⟨mk a b, hk w a b c0 c1 ha hb, hB a b hBa hBb⟩
end Go.Proofs.YtefnmfcgjlppaaaDoor.Hand
/- What the rows of the todo seat share: the listed words' cells, and a list of instructions that came in. -/
namespace Go.Proofs.YtefnmfcgjlppaaaDoor.Hand
open Go.ChangeShapes Go.WideShapes Go.ChangeAt Go.RowKit Go.Deep
open Go.ChangeMaps (open_string shut_string)
open Go.Proofs.YtefnmfcgjlppaaaDoor.PTd Go.Proofs.YtefnmfcgjlppaaaDoor.Pure
open Go.Proofs.YtefnmfcgjlppaaaDoorW.PrintWords Go.Proofs.YtefnmfcgjlppaaaDoorW.PrintLast Go.Proofs.YtefnmfcgjlppaaaDoorW.PrintMore
set_option linter.unusedVariables false
theorem row_own : ownKnob Tryd.prog.godebug = none := by kernel_rfl
theorem row_laidOut : laidOutB Tryd.prog = true := by kernel_rfl
abbrev laidL : List (String × DataW Unit) := [("graftage/todo.words", Rows.laid_graftage_todo_words)]
theorem gWords : Tryd.prog.globalNamed "graftage/todo.words" = some 0 := by kernel_rfl
theorem tWords : (Tryd.prog.globals[0]?).map (·.type) = some 60 := by kernel_rfl
theorem door_met (os : Os) (args : Array Value) : laidMetH Tryd.prog laidL ((World.doorLaid Tryd.prog 400 os).forCall (fun _ _ => 0) ⟨#[], args, []⟩).memory :=
  laidMetH_of_parts3 (fuel := 8) (laidMet_of_run' 8 (by kernel_rfl) (by kernel_rfl)) (by kernel_rfl) (by kernel_rfl)
theorem of_laid {W : World} (h : laidMetH Tryd.prog laidL W) : Wds W := by
  rw [MakeChecks.laidMetH_plain _ _ _ (by kernel_rfl)] at h
  obtain ⟨ps, ⟨g0, t0, cs0, f0, p0, q0, hg0, ht0, hv0, hd0, _, _⟩, _, _⟩ := h
  obtain rfl := Option.some.inj (gWords.symm.trans hg0)
  obtain rfl := Option.some.inj (tWords.symm.trans ht0)
  obtain ⟨xs, m1, rfl, hx1, hlen, hn7, hel⟩ := DataW.trod_array Tryd.underlying60 hd0
  have c9 : Tryd.prog.cellsOf 9 = 1 := by kernel_rfl
  have c60 : Tryd.prog.cellsOf 60 = 7 := by kernel_rfl
  rw [c60] at hlen
  rw [c9] at hel
  simp only [Prod.mk.injEq] at hx1
  have hx := hx1.1
  have key : ∀ (j : Nat) (bs : List UInt8), j < 7 → (xs[j]?).map (·.1) = some (DataW.lit (.string bs)) → W.cell? ⟨0, j, none⟩ = some (.string ⟨⟨bs⟩⟩) := by
    intro j bs hj hb
    obtain ⟨y, hy, hyb⟩ := Option.map_eq_some_iff.1 hb
    have h1 := hel j hj
    rw [hy] at h1
    obtain ⟨s, e1, e2, _⟩ := DataW.trod_string Tryd.underlying9 h1
    rw [e2] at hyb
    injection hyb with e2
    injection e2 with e2
    rw [World.var?_cell hg0 hv0 j]
    have hjl : j < cs0.toList.length := by rw [hlen]; exact hj
    rw [Nat.mul_one, List.drop_eq_getElem_cons hjl, List.take_succ_cons, List.take_zero] at e1
    injection e1 with e1 _
    rw [← Array.getElem?_toList, List.getElem?_eq_getElem hjl, e1]
    obtain ⟨⟨l⟩⟩ := s
    simp only at e2
    rw [← e2]
  have kk : ∀ (j : Nat), (xs[j]?).map (·.1) = (xs.map (·.1))[j]? := fun j => by rw [List.getElem?_map]
  have hxs : xs.map (·.1) = [.lit (.string [112, 105, 99, 107]), .lit (.string [114, 101, 119, 111, 114, 100]), .lit (.string [101, 100, 105, 116]), .lit (.string [115, 113, 117, 97, 115, 104]), .lit (.string [102, 105, 120, 117, 112]), .lit (.string [100, 114, 111, 112]), .lit (.string [98, 114, 101, 97, 107])] := by
    have := hx
    unfold Rows.laid_graftage_todo_words at this
    injection this with this
    exact this.symm
  exact ⟨key 0 _ (by decide) (by rw [kk, hxs]; rfl), key 1 _ (by decide) (by rw [kk, hxs]; rfl), key 2 _ (by decide) (by rw [kk, hxs]; rfl), key 3 _ (by decide) (by rw [kk, hxs]; rfl), key 4 _ (by decide) (by rw [kk, hxs]; rfl), key 5 _ (by decide) (by rw [kk, hxs]; rfl), key 6 _ (by decide) (by rw [kk, hxs]; rfl)⟩
/-- A struct whose fields are three cells. -/
theorem opens_three {α β γ δ : Type} {P : Program} {t : TypeId} {f0 f1 f2 : Field} {k0 : Kd α} {k1 : Kd β} {k2 : Kd γ} {B0 : α → Prop} {B1 : β → Prop} {B2 : γ → Prop} (hs : P.underlying t = some (.struct #[f0, f1, f2])) (hone : oneCellFields P #[f0, f1, f2] = true)
    (h0 : Opens P f0.type k0 B0) (h1 : Opens P f1.type k1 B1) (h2 : Opens P f2.type k2 B2) (k : Kd δ) (mk : α → β → γ → δ) (B : δ → Prop) (hk : ∀ w a b c c0 c1 c2, k0.K w a [c0] → k1.K w b [c1] → k2.K w c [c2] → k.K w (mk a b c) [c0, c1, c2]) (hB : ∀ a b c, B0 a → B1 b → B2 c → B (mk a b c)) (hC : P.cellsOf t = 3) : Opens P t k B := by
  intro H enc w base spare held fuel cs x h hw
  obtain ⟨ys, n, _, rfl, hl, hlen, hg⟩ := DataW.trod_struct hs h
  obtain ⟨o0, z0⟩ := hone_of hone 0 f0 rfl
  obtain ⟨o1, z1⟩ := hone_of hone 1 f1 rfl
  obtain ⟨o2, z2⟩ := hone_of hone 2 f2 rfl
  have g0 := hg 0 f0 rfl
  have g1 := hg 1 f1 rfl
  have g2 := hg 2 f2 rfl
  rw [o0, z0] at g0
  rw [o1, z1] at g1
  rw [o2, z2] at g2
  match cs, hl.trans hC, ys, hlen with
  | [c0, c1, c2], _, [y0, y1, y2], _ =>
    obtain ⟨a, ha, hBa⟩ := h0 H enc w base spare held n _ _ g0 (light_field hs hw (i := 0) rfl rfl)
    obtain ⟨b, hb, hBb⟩ := h1 H enc w base spare held n _ _ g1 (light_field hs hw (i := 1) rfl rfl)
    obtain ⟨c, hc, hBc⟩ := h2 H enc w base spare held n _ _ g2 (light_field hs hw (i := 2) rfl rfl)
    exact ⟨mk a b c, hk w a b c c0 c1 c2 ha hb hc, hB a b c hBa hBb hBc⟩
theorem opens_todo : Opens Tryd.prog 34 k34 (fun x => x.f1.size ≤ 140737488351232 ∧ x.f2.size ≤ 140737488351232) :=
  opens_three Tryd.underlying34 (by kernel_rfl) (opens_int Tryd.underlying3) (opens_string Tryd.underlying9) (opens_string Tryd.underlying9) k34 (fun a b c => ⟨a, b, c⟩) _ (fun w a b c c0 c1 c2 h0 h1 h2 => by
    obtain rfl : c0 = .int .i64 a := by simpa using (show [c0] = [Value.int .i64 a] from h0)
    obtain rfl : c1 = .string b := by simpa using (show [c1] = [Value.string b] from h1)
    obtain rfl : c2 = .string c := by simpa using (show [c2] = [Value.string c] from h2)
    exact k34_mk w ⟨a, b, c⟩) (fun a b c _ h1 h2 => ⟨h1, h2⟩) (by kernel_rfl)
theorem todo_opened {H : Type} {enc : TypeId × Value → H} {W : World} {base : Nat} {v : Value} {d : DataW H} {p : List MemPlace} (hv : Value.okWide Tryd.prog W .any base 23 v) (h : DataW.Trod enc Tryd.prog W 0 (fun _ => true) true 23 v d p)
    (hw : Light Tryd.prog 23 d) :
    ∃ (A : Option Addr) (c : Nat) (l : List S34), v = .slice A l.length c ∧ l.length ≤ c ∧ Kd.C k34 W A l.length l ∧ Sized l ∧ l.length ≤ 4000000000000 := by
  obtain ⟨A, n, c, rfl⟩ := okWide_slice Tryd.underlying23 hv
  obtain ⟨fuel, hf⟩ := h
  obtain ⟨A', c', l, e, hl, _, hC, hB, hm⟩ := open_row opens_todo (by kernel_rfl) Tryd.underlying23 hf hw
  have e' : Value.slice A n c = Value.slice A' l.length c' := by simpa [Value.cells] using e
  cases e'
  have hb : Tryd.prog.bytesOf 34 = 40 := by kernel_rfl
  rw [hb] at hm
  exact ⟨A, c, l, rfl, hl, hC, fun x hx => by have := hB x hx; omega, by have : reachBytes = 140737488351232 := rfl
                                                                         omega⟩
end Go.Proofs.YtefnmfcgjlppaaaDoor.Hand
/- The law's own example holds. -/
namespace Go.Proofs.YtefnmfcgjlppaaaDoor.Pure
open Go.RowKit Go.Proofs.YtefnmfcgjlppaaaDoor.PTd Go.Proofs.YtefnmfcgjlppaaaDoor.Hand Go.Proofs.YtefnmfcgjlppaaaDoorW.PrintWords Go.Proofs.YtefnmfcgjlppaaaDoorW.PrintLast
set_option linter.unusedVariables false
set_option maxRecDepth 100000 in
set_option maxHeartbeats 4000000 in
theorem lives_k : graftagelaw42_lives.f 300 = some true := by
  unfold graftagelaw42_lives.f
  simp only [ByteArray.toList_eq]
  kernel_rfl
theorem lives_ev : Ev (fun k => graftagelaw42_lives.f k) true := Ev.mono (f := fun k => graftagelaw42_lives.f k) graftagelaw42_lives.mono lives_k
end Go.Proofs.YtefnmfcgjlppaaaDoor.Pure
