/- The law OctetBack gives true for every laid sequence; the argument reads afterwards as it read before. -/
import Derived.Test.YtddnamlkembflaaRows
import Derived.Test.YtddnamlkembflaaPureOctetBack
import Derived.Test.YtddnamlkembflaaStructArg
import Derived.WalkKit
import Derived.ProofKit
import Derived.OpenShut
import Derived.ShutString
import Derived.ChangeOld
import Derived.Below
import Derived.SizedLaws
namespace Go.Proofs.Ytddnamlkembflaa.octetBack
open Go.ChangeShapes Go.WideShapes Go.ChangeAt Go.RowKit
open Go.ChangeMaps (open_string shut_string)
open Go.Proofs.Ytddnamlkembflaa.Hand
set_option linter.unusedVariables false
theorem own : ownKnob Try.prog.godebug = none := by kernel_rfl
theorem laidOut : laidOutB Try.prog = true := by kernel_rfl

theorem wf_u64 {n : Int} (h : (Lit.int .u64 n).wf = true) : 0 ≤ n ∧ n < 18446744073709551616 := by
  simp [Lit.wf, IntKind.min, IntKind.max, IntKind.signed, IntKind.bits] at h; omega
theorem wf_u32 {n : Int} (h : (Lit.int .u32 n).wf = true) : 0 ≤ n ∧ n < 4294967296 := by
  simp [Lit.wf, IntKind.min, IntKind.max, IntKind.signed, IntKind.bits] at h; omega
theorem list5 {α : Type} {l : List α} (h : l.length = 5) : ∃ a b c d e, l = [a, b, c, d, e] := by
  match l, h with
  | [a, b, c, d, e], _ => exact ⟨a, b, c, d, e, rfl⟩

set_option maxRecDepth 100000 in
theorem opened {H : Type} {enc : TypeId × Value → H} {W : World} {base : Nat} {v : Value} {d : DataW H} {p : List MemPlace} (hv : Value.okWide Try.prog W .any base 37 v) (h : DataW.Trod enc Try.prog W 0 (fun _ => true) true 37 v d p)
    (hsz : (DataW.weightsEach Try.prog [37] [d]).all (· ≤ reachBytes) = true) :
    ∃ (a t b : ByteArray) (n w : Int), v = .agg #[.string a, .string t, .string b, .int .u64 n, .int .u32 w] ∧ a.size ≤ 140737488351232 ∧ t.size ≤ 140737488351232 ∧ b.size ≤ 140737488351232 ∧ (Lit.int .u64 n).wf = true ∧ (Lit.int .u32 w).wf = true := by
  obtain ⟨cs, ys, m, rfl, hd, hl, hyl, hf⟩ := open_byvalue Try.underlying37 (by kernel_rfl) (by kernel_rfl) hv h
  obtain ⟨c0, c1, c2, c3, c4, rfl⟩ := list5 hl
  obtain ⟨y0, y1, y2, y3, y4, rfl⟩ := list5 hyl
  obtain ⟨_, _, e0, k0, h0⟩ := hf 0 _ rfl
  obtain ⟨_, _, e1, k1, h1⟩ := hf 1 _ rfl
  obtain ⟨_, _, e2, k2, h2⟩ := hf 2 _ rfl
  obtain ⟨_, _, e3, k3, h3⟩ := hf 3 _ rfl
  obtain ⟨_, _, e4, k4, h4⟩ := hf 4 _ rfl
  simp only [List.getElem?_cons_zero, List.getElem?_cons_succ, Option.some.injEq] at e0 e1 e2 e3 e4 k0 k1 k2 k3 k4
  subst e0 e1 e2 e3 e4 k0 k1 k2 k3 k4
  obtain ⟨a, ea, ha, _⟩ := DataW.trod_string Try.underlying9 h0
  obtain ⟨t, et, ht, _⟩ := DataW.trod_string Try.underlying9 h1
  obtain ⟨b, eb, hb, _⟩ := DataW.trod_string Try.underlying9 h2
  obtain ⟨n, en, _, hn⟩ := DataW.trod_int Try.underlying22 h3
  obtain ⟨w, ew, _, hw⟩ := DataW.trod_int Try.underlying28 h4
  simp only [List.cons.injEq, and_true] at ea et eb en ew
  subst ea et eb en ew ha ht hb
  have sz : ∀ (i : Nat) (f : Field) (s : ByteArray), _ → _ → s.data.toList.length ≤ 140737488351232 := fun i f s hfi hpi => sized_field (j := 0) (i := i) (f := f) hsz rfl (by rw [hd]; rfl) Try.underlying37 hfi hpi
  refine ⟨a, t, b, n, w, rfl, ?_, ?_, ?_, hn, hw⟩
  · have := sz 0 _ a rfl rfl; rwa [Array.length_toList] at this
  · have := sz 1 _ t rfl rfl; rwa [Array.length_toList] at this
  · have := sz 2 _ b rfl rfl; rwa [Array.length_toList] at this

set_option maxRecDepth 100000 in
theorem lifted (os : Os) (started : os.Started) (H : Type) (enc : TypeId × Value → H) :
    ReturnsInHanded {} Try.checked os 4 .any (Rows.octetBackSpec.pre6 enc Try.prog Try.f4 Rows.octetBackRow.domain false) (Rows.octetBackSpec.post enc Try.prog Try.f4 false true false false) := by
  refine returnsInHanded_of_change_sized (C := Try.checked) own started (by kernel_rfl) Try.func4
    (ChangeSpec.witness6 (enc := enc) (C := Try.checked) false ⟨#[], #[.agg #[.string ByteArray.empty, .string ByteArray.empty, .string ByteArray.empty, .int .u64 0, .int .u32 0]], []⟩ 8 (by kernel_rfl) (by kernel_rfl) (by kernel_rfl) (by kernel_rfl)) ?_
  intro W base args ds gs before hval0 hW hcnd hsz0 _
  have hsz : (DataW.weightsEach Try.prog (Try.f4.params.toList ++ Rows.octetBackSpec.plain.varTypes Try.prog) (ds ++ gs)).all (· ≤ reachBytes) = true := hsz0
  have hval : ∀ (j : Nat) t v, Try.f4.params[j]? = some t → args[j]? = some v → Value.okWide Try.prog W .any base t v := hval0
  have hW' := hW
  obtain ⟨p, q, hA0, hV, rfl, hfz, hnd⟩ := hW
  have hA : DataW.TrodAll enc Try.prog W 0 (fun _ => true) true Try.f4.params.toList args.toList ds p := hA0
  rw [Try.params4] at hA hval hsz
  obtain ⟨v0, vs0, d0, ds0, p0, q0, hargs, rfl, rfl, h0, r0⟩ := trodAll_cons hA
  obtain ⟨rfl, rfl, rfl⟩ := trodAll_nil r0
  obtain rfl : args = #[v0] := by cases args; simp_all
  obtain ⟨rfl, rfl⟩ := trodVars_none hV
  have k0 := h0
  have lt0 : ∀ x ∈ p0, x.block < W.heap.size := by obtain ⟨m, hm⟩ := k0; exact DataW.trod_lt m _ _ _ hm
  obtain ⟨a, t, b, n, w, rfl, wa, wt, wb, wn, ww⟩ := opened (hval 0 37 v0 rfl rfl) h0 hsz
  clear hA0 hval0 hsz0 hsz
  refine (POct.graftagelaw01_OctetBack.calls 260 a t b n w true W (Pure.OctetBack a t b n w wa wt wb (wf_u64 wn).1 (wf_u64 wn).2 (wf_u32 ww).1 (wf_u32 ww).2) rfl).mono fun e W' ⟨he, bel⟩ => ?_
  subst he
  exact ⟨_, rfl, _, _, _, [], _, [], hW', trodAll_mk1 (shut_bool Try.underlying4 _), (trodAll_cons_mk (Below.trod laidOut (by kernel_rfl) (of_decide_eq_true (by kernel_rfl)) k0 bel lt0) trodAll_mk0), rfl, bel.frame _, fun h => by cases h⟩
theorem over : Rows.octetBackRow.holds Try.pinned (OpenSpec.ofChange Rows.octetBackSpec) :=
  OpenClaim.holds_of_wide 4 Try.f4 rfl rfl rfl rfl rfl rfl rfl ⟨rfl, rfl, rfl, rfl, rfl⟩ rfl rfl rfl rfl rfl (by kernel_rfl) Try.func4 (by kernel_rfl)
    (of_decide_eq_true (by kernel_rfl)) (by unfold Func.isWrapper; first | (rw [if_pos (by decide +kernel)]; kernel_rfl) | (rw [if_neg (by decide +kernel)]; exact ⟨rfl, rfl⟩))
    (fun os started H enc _ => lifted os started H enc)
theorem proved : Rows.OctetBackSaid := over
#print axioms proved
end Go.Proofs.Ytddnamlkembflaa.octetBack
namespace Go.Proofs.Ytddnamlkembflaa
/-- The row, under a short name, for the claim. -/
theorem octetBack_holds : Rows.OctetBackSaid := octetBack.proved
end Go.Proofs.Ytddnamlkembflaa
