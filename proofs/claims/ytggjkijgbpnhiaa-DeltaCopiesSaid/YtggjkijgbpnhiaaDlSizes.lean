/- delta.Sizes, by hand. -/
import Derived.Test.YtggjkijgbpnhiaaDlHead
namespace Go.Proofs.Ytggjkijgbpnhiaa.Hand
open Go.RowKit Go.Proofs.YtggjkijgbpnhiaaW.PrintWords Go.Proofs.YtggjkijgbpnhiaaW.PrintLast Go.Proofs.YtggjkijgbpnhiaaW.PrintMore
open Go.Proofs.Ytggjkijgbpnhiaa.PDl
set_option linter.unusedVariables false
set_option linter.unusedSimpArgs false
set_option maxHeartbeats 4000000 in
set_option maxRecDepth 100000 in
theorem sizes_any (s : ByteArray) (w : World) (hz : s.size ≤ 1000000000) :
    Calls Try.prog 15 #[.string s] w fun y w' => y = .returned (.tuple #[.int .i64 (if hdE s = 0 then hdN s else 0), .int .i64 (if hdE s = 0 then hdM s else 0), .int .i64 (hdE s)]) ∧ Below w.heap.size w w' := by
  obtain ⟨n, hn⟩ : ∃ x, (if hdE s = 0 then hdN s else 0) = x := ⟨_, rfl⟩
  obtain ⟨m, hm⟩ : ∃ x, (if hdE s = 0 then hdM s else 0) = x := ⟨_, rfl⟩
  have hh := fun W hs => head_any w.heap.size s W hs hz
  rw [hn, hm] at hh
  rw [hn, hm]
  have HH := Lib.hid hh
  clear hh hn hm
  have hr0 : Rd (w.alloc (.cells #[.string s, .int .i64 0, .int .i64 0] 56)) w.heap.size s 0 0 := heap_alloc_new _ _
  have hB0 : Below w.heap.size w (w.alloc (.cells #[.string s, .int .i64 0, .int .i64 0] 56)) := (Below.refl _ _).alloc (Nat.le_refl _) _
  go_enter Try.func15, Try.ntmps15
  go_wp2_with fail
  refine (HH.out _ hr0).mono ?_
  rintro y w1 ⟨rfl, hs1, hL1⟩
  have r2 := hs1.c2
  go_wp2
  go_quiet (fail)
  go_wp2
  go_ret3
  exact ⟨rfl, pw_below_drewN (hB0.trans hL1.2) _⟩
def delta_Sizes.f (a0 : ByteArray) : Option (Int × Int × Int) := if a0.size ≤ 1000000000 then some (if hdE a0 = 0 then hdN a0 else 0, if hdE a0 = 0 then hdM a0 else 0, hdE a0) else none
theorem delta_Sizes.calls (a0 : ByteArray) (r1 r2 r3 : Int) (w : World) (h : delta_Sizes.f a0 = some (r1, r2, r3)) :
    Calls Try.prog 15 #[.string a0] w fun y w' => y = .returned (.tuple #[.int .i64 r1, .int .i64 r2, .int .i64 r3]) ∧ Below w.heap.size w w' := by
  unfold delta_Sizes.f at h
  split at h
  · simp only [Option.some.injEq, Prod.mk.injEq] at h
    obtain ⟨rfl, rfl, rfl⟩ := h
    exact sizes_any a0 w (by assumption)
  · cases h
end Go.Proofs.Ytggjkijgbpnhiaa.Hand
