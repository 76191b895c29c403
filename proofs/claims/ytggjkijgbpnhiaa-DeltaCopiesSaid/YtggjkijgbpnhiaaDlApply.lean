/- delta.Apply, by hand. -/
import Derived.Test.YtggjkijgbpnhiaaDlPieces
import Derived.Test.YtggjkijgbpnhiaaBuilder
namespace Go.Proofs.Ytggjkijgbpnhiaa.Hand
open Go.RowKit Go.Proofs.YtggjkijgbpnhiaaW.PrintWords Go.Proofs.YtggjkijgbpnhiaaW.PrintLast Go.Proofs.YtggjkijgbpnhiaaW.PrintMore
open Go.Proofs.Ytggjkijgbpnhiaa.PDl
set_option linter.unusedVariables false
set_option linter.unusedSimpArgs false

theorem run_entered {P : Program} {f : FuncId} {fn : Func} (hf : P.funcs[f]? = some fn) (hname : (fn.name == "runtime.NumGoroutine") = false) (hb : fn.body.isSome = true) (args : Array Value) (w : World) :
    (callFunc f args).run P w = .ok (.enter f args) w := by
  obtain ⟨c, hc⟩ := Option.isSome_iff_exists.1 hb
  exact run_enter hf hname hc args w
theorem IsB.kept {w w' : World} {B b : Nat} {s : ByteArray} {S : Nat → Prop} (h : IsB w B b s) (hk : Kept w w' S) (hn : ∀ k, B ≤ k → ¬ S k) : IsB w' B b s := by
  have key : ∀ p, Lib.BuilderAt 45 5 B b p (Lib.strCells s) w → Lib.BuilderAt 45 5 B b p (Lib.strCells s) w' := by
    intro p h
    have hlt := h.lt
    obtain ⟨hB, v, hk', hown, hne⟩ := h
    exact ⟨hB, v, (hk.2 b hlt (hn b hB)).trans hk', own_move hown (fun j hj => hk.2 j (hown.lt j hj).2 (hn j (hown.lt j hj).1)), hne⟩
  exact h.imp (key _) (key _)

/-- The bytes of the pieces. -/
def outL (base s : ByteArray) : List Pc → ByteArray → ByteArray
  | [], o => o
  | x :: l, o => outL base s l (o ++ (if x.1 = true then base.extract x.2.1.toNat (x.2.1 + x.2.2).toNat else s.extract x.2.1.toNat (x.2.1 + x.2.2).toNat))
theorem outL_snoc (base s : ByteArray) (x : Pc) (l : List Pc) : ∀ o, outL base s (l ++ [x]) o = outL base s l o ++ (if x.1 = true then base.extract x.2.1.toNat (x.2.1 + x.2.2).toNat else s.extract x.2.1.toNat (x.2.1 + x.2.2).toNat) := by
  induction l with
  | nil => intro o; rfl
  | cons y l ih => intro o; exact ih _
def ApI (b bb bs : Nat) (base s : ByteArray) (w : World) (l : List Pc) : Prop :=
  IsB w b b (outL base s l ⟨#[]⟩) ∧ w.heap[bb]? = some (.cells #[.string base] 9 (0, 0)) ∧ w.heap[bs]? = some (.cells #[.string s] 9 (0, 0)) ∧ ((outL base s l ⟨#[]⟩).size : Int) = (l.map (·.2.2)).sum

set_option maxHeartbeats 2000000 in
set_option maxRecDepth 100000 in
theorem applyDo (b bb bs g : Nat) (base s : ByteArray) (told : Int) (hbb : bb < b) (hbs : bs < b) (hg : g < b) (ht : told ≤ 1000000000) (hbz : base.size ≤ 1000000000) (hz : s.size ≤ 1000000000) (W : World) (l : List Pc) (c : Bool) (a n p e : Int) (hI : ApI b bb bs base s W l) (hs : Rd W g s p e)
    (ha : 0 ≤ a) (hn : 0 ≤ n) (h1 : c = true → a + n ≤ base.size) (h2 : c = false → a + n ≤ s.size) (h3 : (l.map (·.2.2)).sum + n ≤ told) :
    Calls Try.prog 31 (#[.agg #[.bool c, .int .i64 a, .int .i64 n]] ++ #[.pointer (some ⟨b, 0, none⟩), .pointer (some ⟨bb, 0, none⟩), .pointer (some ⟨bs, 0, none⟩)]) W fun x W' => x = .returned (.tuple #[]) ∧ ApI b bb bs base s W' (l ++ [(c, a, n)]) ∧ Rd W' g s p e ∧ Below b W W' := by
  obtain ⟨hB, kb, ks, hsum⟩ := hI
  have hblt := hB.lt
  have cb := cell_of_one kb
  have cs := cell_of_one ks
  have HI : ∀ t : ByteArray, (t.size : Int) = n → t = (if c = true then base.extract a.toNat (a + n).toNat else s.extract a.toNat (a + n).toNat) → ∀ W', IsB W' b b (outL base s l ⟨#[]⟩ ++ t) → Below b W W' → ApI b bb bs base s W' (l ++ [(c, a, n)]) ∧ Rd W' g s p e ∧ Below b W W' := by
    intro t htz hte W' hB' hb
    refine ⟨⟨?_, (hb.block bb hbb).trans kb, (hb.block bs hbs).trans ks, ?_⟩, (hb.block g hg).trans hs, hb⟩
    · rw [outL_snoc]; rw [hte] at hB'; exact hB'
    · rw [outL_snoc, ← hte, size_append]; simp; omega
  have HH := Lib.hid HI
  have HS := Lib.hid hsum
  have hlt0 : bb < W.heap.size := lt_of_block kb
  have hlt1 : bs < W.heap.size := lt_of_block ks
  clear HI hsum kb ks hs
  have hBa : ∀ o, IsB (W.alloc o) b b (outL base s l ⟨#[]⟩) := fun o => hB.alloc o
  cases c with
  | true =>
    have hle := h1 rfl
    have hsz : (base.extract a.toNat (a + n).toNat).size = n.toNat := by rw [ByteArray.size_extract]; omega
    go_enter Try.func31, Try.ntmps31
    go_wp2_with (go_at_call 22; refine (writeString_any b b _ _ _ (hBa _) (by rw [hsz]; have := HS.out; omega) (by simp; omega)).mono ?_; rintro e w1 ⟨rfl, hB1, hb1⟩)
    go_end0
    exact ⟨rfl, HH.out _ (by rw [hsz]; omega) (by simp) _ hB1 (((Below.refl b W).alloc (by omega) _).trans hb1)⟩
  | false =>
    have hle := h2 rfl
    have hsz : (s.extract a.toNat (a + n).toNat).size = n.toNat := by rw [ByteArray.size_extract]; omega
    go_enter Try.func31, Try.ntmps31
    go_wp2_with (go_at_call 22; refine (writeString_any b b _ _ _ (hBa _) (by rw [hsz]; have := HS.out; omega) (by simp; omega)).mono ?_; rintro e w1 ⟨rfl, hB1, hb1⟩)
    go_end0
    exact ⟨rfl, HH.out _ (by rw [hsz]; omega) (by simp) _ hB1 (((Below.refl b W).alloc (by omega) _).trans hb1)⟩
theorem apply_does (b bb bs g : Nat) (base s : ByteArray) (told : Int) (hbb : bb < b) (hbs : bs < b) (hg : g < b) (hgb : g ≠ bb) (hgs : g ≠ bs) (ht : told ≤ 1000000000) (hbz : base.size ≤ 1000000000) (hz : s.size ≤ 1000000000) :
    Does g g s base.size told 31 #[.pointer (some ⟨b, 0, none⟩), .pointer (some ⟨bb, 0, none⟩), .pointer (some ⟨bs, 0, none⟩)] (ApI b bb bs base s) where
  entered := run_entered Try.func31 (by kernel_rfl) (by kernel_rfl)
  keep := fun W W' l hI hk => ⟨hI.1.kept hk (fun k hk => by omega), (hk.2 bb (lt_of_block hI.2.1) (fun e => hgb e.symm)).trans hI.2.1, (hk.2 bs (lt_of_block hI.2.2.1) (fun e => hgs e.symm)).trans hI.2.2.1, hI.2.2.2⟩
  does := fun W l c a n p e hI hs ha hn h1 h2 h3 => (applyDo b bb bs g base s told hbb hbs hg ht hbz hz W l c a n p e hI hs ha (by omega) h1 h2 h3).mono fun x W' h => ⟨h.1, h.2.1, h.2.2.1, h.2.2.2.mono (by omega)⟩
end Go.Proofs.Ytggjkijgbpnhiaa.Hand
