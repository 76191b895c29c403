/- The law PktBack gives true for every list of pieces, string and number; the list reads afterwards as it read before. -/
import Derived.Test.YtobiejdagfimdaaRows
import Derived.Test.YtobiejdagfimdaaPurePktBack
import Derived.Test.YtobiejdagfimdaaArgs
import Derived.WalkKit
import Derived.ProofKit
import Derived.OpenShut
import Derived.ShutString
import Derived.ChangeOld
import Derived.Below
import Derived.SizedLaws
namespace Go.Proofs.Ytobiejdagfimdaa.pktBack
open Go.ChangeShapes Go.WideShapes Go.ChangeAt Go.RowKit
open Go.ChangeMaps (open_string shut_string)
open Go.Proofs.Ytobiejdagfimdaa.Hand Go.Proofs.Ytobiejdagfimdaa.PPkt
open Go.Proofs.YtobiejdagfimdaaW.PrintWords Go.Proofs.YtobiejdagfimdaaW.PrintLast Go.Proofs.YtobiejdagfimdaaW.PrintMore
set_option linter.unusedVariables false
theorem own : ownKnob Try.prog.godebug = none := by kernel_rfl
theorem laidOut : laidOutB Try.prog = true := by kernel_rfl
theorem opens_pkt : Opens Try.prog 24 k24 (fun x => x.f1.size ≤ 140737488351232) :=
  opens_pair Try.underlying24 (by kernel_rfl) (opens_int Try.underlying3) (opens_string Try.underlying9) k24 (fun a b => ⟨a, b⟩) _ (fun w a b c0 c1 h0 h1 => by
    obtain rfl : c0 = .int .i64 a := by simpa using (show [c0] = [Value.int .i64 a] from h0)
    obtain rfl : c1 = .string b := by simpa using (show [c1] = [Value.string b] from h1)
    exact k24_mk w ⟨a, b⟩) (fun a b _ h => h) (by kernel_rfl)
theorem opened {H : Type} {enc : TypeId × Value → H} {W : World} {base : Nat} {v : Value} {d : DataW H} {p : List MemPlace} (hv : Value.okWide Try.prog W .any base 28 v) (h : DataW.Trod enc Try.prog W 0 (fun _ => true) true 28 v d p)
    (hw : Light Try.prog 28 d) :
    ∃ (A : Option Addr) (c : Nat) (l : List S24), v = .slice A l.length c ∧ l.length ≤ c ∧ Kd.C k24 W A l.length l ∧ (∀ x ∈ l, x.f1.size ≤ 140737488351232) ∧ l.length ≤ 140737488351232 := by
  obtain ⟨A, n, c, rfl⟩ := okWide_slice Try.underlying28 hv
  obtain ⟨fuel, hf⟩ := h
  obtain ⟨A', c', l, e, hl, _, hC, hB, hm⟩ := open_row opens_pkt (by kernel_rfl) Try.underlying28 hf hw
  have e' : Value.slice A n c = Value.slice A' l.length c' := by simpa [Value.cells] using e
  cases e'
  have hb : Try.prog.bytesOf 24 = 24 := by kernel_rfl
  rw [hb] at hm
  exact ⟨A, c, l, rfl, hl, hC, hB, by have : reachBytes = 140737488351232 := rfl
                                      omega⟩

set_option maxRecDepth 100000 in
theorem lifted (os : Os) (started : os.Started) (H : Type) (enc : TypeId × Value → H) :
    ReturnsInHanded {} Try.checked os 7 .any (Rows.pktBackSpec.pre6 enc Try.prog Try.f7 Rows.pktBackRow.domain false) (Rows.pktBackSpec.post enc Try.prog Try.f7 false true false false) := by
  refine returnsInHanded_of_change_sized (C := Try.checked) own started (by kernel_rfl) Try.func7
    (ChangeSpec.witness6 (enc := enc) (C := Try.checked) false ⟨#[], #[.slice none 0 0, .string ByteArray.empty, .int .i64 0], []⟩ 8 (by kernel_rfl) (by kernel_rfl) (by kernel_rfl) (by kernel_rfl)) ?_
  intro W base args ds gs before hval0 hW hcnd hsz0 _
  have hsz : (DataW.weightsEach Try.prog (Try.f7.params.toList ++ Rows.pktBackSpec.plain.varTypes Try.prog) (ds ++ gs)).all (· ≤ reachBytes) = true := hsz0
  have hval : ∀ (j : Nat) t v, Try.f7.params[j]? = some t → args[j]? = some v → Value.okWide Try.prog W .any base t v := hval0
  have hW' := hW
  obtain ⟨p, q, hA0, hV, rfl, hfz, hnd⟩ := hW
  have hA : DataW.TrodAll enc Try.prog W 0 (fun _ => true) true Try.f7.params.toList args.toList ds p := hA0
  rw [Try.params7] at hA hval hsz
  obtain ⟨v0, vs0, d0, ds0, p0, q0, hargs, rfl, rfl, h0, r0⟩ := trodAll_cons hA
  obtain ⟨v1, vs1, d1, ds1, p1, q1, rfl, rfl, rfl, h1, r1⟩ := trodAll_cons r0
  obtain ⟨v2, vs2, d2, ds2, p2, q2, rfl, rfl, rfl, h2, r2⟩ := trodAll_cons r1
  obtain ⟨rfl, rfl, rfl⟩ := trodAll_nil r2
  obtain rfl : args = #[v0, v1, v2] := by cases args; simp_all
  obtain ⟨rfl, rfl⟩ := trodVars_none hV
  have k0 := h0
  have lt0 : ∀ x ∈ p0, x.block < W.heap.size := by obtain ⟨m, hm⟩ := k0; exact DataW.trod_lt m _ _ _ hm
  obtain ⟨A, c, l, rfl, hlc, hC, hB, hn⟩ := opened (hval 0 28 v0 rfl rfl) h0 (light_arg hsz (j := 0) rfl rfl)
  obtain ⟨a1, rfl, rfl, rfl, y1⟩ := open_string Try.underlying9 (hval 1 9 v1 rfl rfl) h1
  have w1 : a1.size ≤ 140737488351232 := by
    have z := sized_string hsz (j := 1) (t := 9) rfl rfl
    rw [Array.length_toList] at z
    exact z
  obtain ⟨a2, rfl, rfl, rfl, w2⟩ := open_int Try.underlying3 (hval 2 3 v2 rfl rfl) h2
  clear hA0 hval0 hsz0 hsz
  refine (graftagelaw46_PktBack.calls _ A c l a1 a2 true W hC hlc (Pure.PktBack l a1 a2 (by omega) (fun x hx => by have := hB x hx; omega)) rfl).mono fun e W' ⟨he, bel⟩ => ?_
  subst he
  exact ⟨_, rfl, _, _, _, [], _, [], hW', trodAll_mk1 (shut_bool Try.underlying4 _), (trodAll_cons_mk (Below.trod laidOut (by kernel_rfl) (of_decide_eq_true (by kernel_rfl)) k0 bel lt0) (trodAll_cons_mk (shut_string Try.underlying9 y1) (trodAll_cons_mk (shut_int Try.underlying3 w2) trodAll_mk0))), rfl, bel.frame _, fun h => by cases h⟩
theorem over : Rows.pktBackRow.holds Try.pinned (OpenSpec.ofChange Rows.pktBackSpec) :=
  OpenClaim.holds_of_wide 7 Try.f7 rfl rfl rfl rfl rfl rfl rfl ⟨rfl, rfl, rfl, rfl, rfl⟩ rfl rfl rfl rfl rfl (by kernel_rfl) Try.func7 (by kernel_rfl)
    (of_decide_eq_true (by kernel_rfl)) (by unfold Func.isWrapper; first | (rw [if_pos (by decide +kernel)]; kernel_rfl) | (rw [if_neg (by decide +kernel)]; exact ⟨rfl, rfl⟩))
    (fun os started H enc _ => lifted os started H enc)
theorem proved : Rows.PktBackSaid := over
#print axioms proved
end Go.Proofs.Ytobiejdagfimdaa.pktBack
namespace Go.Proofs.Ytobiejdagfimdaa
/-- The row, under a short name, for the claim. -/
theorem pktBack_holds : Rows.PktBackSaid := pktBack.proved
end Go.Proofs.Ytobiejdagfimdaa
