/- delta.Make$1, by hand: what is not copied is laid. -/
import Derived.Test.YtggjkijgbpnhiaaDlApply
import Derived.Test.YtggjkijgbpnhiaaPut
namespace Go.Proofs.Ytggjkijgbpnhiaa.Hand
open Go.RowKit Go.Proofs.YtggjkijgbpnhiaaW.PrintWords Go.Proofs.YtggjkijgbpnhiaaW.PrintLast Go.Proofs.YtggjkijgbpnhiaaW.PrintMore
open Go.Proofs.Ytggjkijgbpnhiaa.PDl
set_option linter.unusedVariables false
set_option linter.unusedSimpArgs false

theorem IsB.far {w : World} {B b k : Nat} {s : ByteArray} {c : Array Value} {t : TypeId} {fr : Nat × Nat} (h : IsB w B b s) (hf : w.heap[k]? = some (.cells c t fr)) (ht : t ≠ 5) (hk : k ≠ b) (j : Nat) (u : Value) : IsB (w.setCell ⟨k, j, none⟩ u) B b s := by
  have key : ∀ p, Lib.BuilderAt 45 5 B b p (Lib.strCells s) w → Lib.BuilderAt 45 5 B b p (Lib.strCells s) (w.setCell ⟨k, j, none⟩ u) := by
    intro p h
    have hlt := h.lt
    obtain ⟨hB, v, hk', hown, hne⟩ := h
    refine ⟨hB, v, (Below.heap_setCell _ ⟨k, j, none⟩ _ b (by show b ≠ k; omega)).trans hk', own_move hown (fun i hi => Below.heap_setCell _ ⟨k, j, none⟩ _ i ?_), hne⟩
    show i ≠ k
    rintro rfl
    obtain ⟨cells, hc⟩ := own_typed hown i hi
    rw [hf] at hc
    simp only [Option.some.injEq, Obj.cells.injEq] at hc
    exact ht hc.2.1
  exact h.imp (key _) (key _)

def layQ (s : ByteArray) : Nat → Nat → Nat → ByteArray → ByteArray
  | 0, _, _, o => o
  | d + 1, f, t, o => if f < t then layQ s d (f + min 1024 (t - f)) t (o ++ octet_Put.g ⟨#[]⟩ (2 * (min 1024 (t - f) : Nat)) ++ s.extract f (f + min 1024 (t - f))) else o
theorem putG_size (b : ByteArray) (n : Int) : (octet_Put.g b n).size ≤ b.size + 10 := by
  unfold octet_Put.g
  have h : (strOfNums (bytesOf b ++ vnums 9 n)).size = (bytesOf b ++ vnums 9 n).length := by show (strOfNums _).data.size = _; simp [strOfNums]
  rw [h, List.length_append, bytesOf_length]
  have := vnums_length 9 n
  omega
theorem putE_size (n : Int) : (octet_Put.g ⟨#[]⟩ n).size ≤ 10 := by
  unfold octet_Put.g
  have h : (strOfNums (bytesOf ⟨#[]⟩ ++ vnums 9 n)).size = (bytesOf ⟨#[]⟩ ++ vnums 9 n).length := by show (strOfNums _).data.size = _; simp [strOfNums]
  rw [h]
  have := vnums_length 9 n
  simp [bytesOf]
  omega
theorem layQ_size (s : ByteArray) (d : Nat) : ∀ f t o, t ≤ s.size → (layQ s d f t o).size ≤ o.size + 11 * (t - f) := by
  induction d with
  | zero => intro f t o ht; simp [layQ]
  | succ d ih =>
    intro f t o ht
    rw [layQ]
    split
    · have h1 := ih (f + min 1024 (t - f)) t (o ++ octet_Put.g ⟨#[]⟩ (2 * (min 1024 (t - f) : Nat)) ++ s.extract f (f + min 1024 (t - f))) ht
      have h2 := putE_size (2 * (min 1024 (t - f) : Nat))
      rw [size_append, size_append, ByteArray.size_extract] at h1
      omega
    · omega
/-- Make's three blocks: from where nothing is laid, the builder, the string. -/
def MkS (w : World) (Fr Bb Sx : Nat) (s : ByteArray) (f : Nat) (o : ByteArray) : Prop :=
  w.heap[Fr]? = some (.cells #[.int .i64 f] 3 (0, 0)) ∧ IsB w Bb Bb o ∧ w.heap[Sx]? = some (.cells #[.string s] 9 (0, 0))
def LayRel (w : World) (Fr Bb Sx : Nat) (s : ByteArray) (t : Nat) (R : ByteArray) (wr : World) : Prop :=
  ∃ (f d : Nat) (o : ByteArray), f ≤ t ∧ t - f ≤ d ∧ MkS wr Fr Bb Sx s f o ∧ layQ s d f t o = R ∧ o.size + 11 * (t - f) ≤ 100000000000 ∧ Below Bb w wr
def fromOf (w : World) (F : Nat) : Nat := match w.cell? ⟨F, 0, none⟩ with | some (.int _ n) => n.toNat | _ => 0
set_option maxHeartbeats 1000000 in
set_option maxRecDepth 100000 in
theorem lay_any (Fr Bb Sx : Nat) (s : ByteArray) (f t : Nat) (o : ByteArray) (w : World) (hS : MkS w Fr Bb Sx s f o) (hft : f ≤ t) (ht : t ≤ s.size) (hz : s.size ≤ 1000000000) (hoz : o.size ≤ 50000000000) (h1 : Sx < Bb) (h2 : Bb < Fr) :
    Calls Try.prog 23 #[.int .i64 t, .pointer (some ⟨Fr, 0, none⟩), .pointer (some ⟨Bb, 0, none⟩), .pointer (some ⟨Sx, 0, none⟩)] w fun e w' => e = .returned (.tuple #[]) ∧ MkS w' Fr Bb Sx s t (layQ s (t - f) f t o) ∧ Below Bb w w' := by
  obtain ⟨R, hR⟩ : ∃ R, layQ s (t - f) f t o = R := ⟨_, rfl⟩
  rw [hR]
  have hstart : LayRel w Fr Bb Sx s t R w := ⟨f, t - f, o, hft, Nat.le_refl _, hS, hR, by omega, Below.refl _ _⟩
  have HS := Lib.hid hstart
  clear hstart hR hS hft hoz
  go_enter Try.func23, Try.ntmps23
  go_wp2
  go_loopw [5] (fun _ wr => LayRel w Fr Bb Sx s t R wr) (fun _ wr => t - fromOf wr Fr)
  case atStart => exact HS.out
  case round =>
    obtain ⟨f, d, o, hft, hd, ⟨hF, hB, hX⟩, hQ, hoz, hbel⟩ := hrel
    have cf := cell_of_one hF
    have ff := free_of_one hF
    have cx := cell_of_one hX
    have HQ := Lib.hid hQ
    have hfo : fromOf wr Fr = f := by unfold fromOf; rw [cf]; simp
    have HFO := Lib.hid hfo
    have hBb := hB.lt
    clear HS hQ hfo
    by_cases hlt : f < t
    · have hlt' : (f : Int) < t := by omega
      obtain ⟨d, rfl⟩ : ∃ x, d = x + 1 := ⟨d - 1, by omega⟩
      have hQ2 := HQ.out
      rw [layQ, if_pos hlt] at hQ2
      obtain ⟨n, hn⟩ : ∃ n, min 1024 (t - f) = n := ⟨_, rfl⟩
      rw [hn] at hQ2
      have hn1 : 1 ≤ n := by omega
      have hn2 : f + n ≤ t := by omega
      have hn3 : n ≤ 1024 := by omega
      have hmin : min 1024 ((t : Int) - f) = (n : Int) := by omega
      have HMin := Lib.hid hmin
      have HQ2 := Lib.hid hQ2
      clear hQ2 HQ hmin hn
      go_wp2_with fail
      rw [HMin.out]
      refine (put_any ⟨#[]⟩ (2 * (n : Int)) _ (by decide) (by omega) (by simp; omega)).mono ?_
      rintro e w1 ⟨rfl, hb1⟩
      have hB1 := hB.below hb1
      have hF1 := (hb1.block Fr (lt_of_block hF)).trans hF
      have hX1 := (hb1.block Sx (lt_of_block hX)).trans hX
      have hbw1 := hbel.trans (hb1.mono (by omega))
      have hps := putE_size (2 * (n : Int))
      have hgs : Bb ≤ w1.heap.size := by have := hb1.size; omega
      clear hb1 hB hF hX cf ff cx
      go_wp2_with fail
      refine (writeString_any2 Bb Bb o _ _ hB1 (by omega) hgs).mono ?_
      rintro e w2 ⟨rfl, hB2, hb2, hk2⟩
      have hF2 := hk2 Fr _ _ _ hF1 (by decide) (by omega)
      have hX2 := hk2 Sx _ _ _ hX1 (by decide) (by omega)
      have cf2 := cell_of_one hF2
      have ff2 := free_of_one hF2
      have cx2 := cell_of_one hX2
      have hfn : (f : Int) + n ≤ s.size := by omega
      have hbw2 := hbw1.trans hb2
      have hesz : (s.extract f (f + n)).size = n := by rw [ByteArray.size_extract]; omega
      have hgs2 : Bb ≤ w2.heap.size := by have := hb2.size; omega
      have hosz : (o ++ octet_Put.g ⟨#[]⟩ (2 * (n : Int))).size ≤ o.size + 10 := by rw [size_append]; omega
      have HE := Lib.hid hesz
      have HO := Lib.hid hosz
      clear hF1 hX1 hb2 hk2 hB1 hesz hosz
      go_wp2_with fail
      refine (writeString_any2 Bb Bb _ _ _ hB2 (by rw [HE.out]; have := HO.out; omega) hgs2).mono ?_
      rintro e w3 ⟨rfl, hB3, hb3, hk3⟩
      have hF3 := hk3 Fr _ _ _ hF2 (by decide) (by omega)
      have hX3 := hk3 Sx _ _ _ hX2 (by decide) (by omega)
      have cf3 := cell_of_one hF3
      have ff3 := free_of_one hF3
      have hbw3 := hbw2.trans hb3
      have hfe : (f : Int) + n = ((f + n : Nat) : Int) := by simp
      have HFE := Lib.hid hfe
      clear hfe cf2 ff2 cx2 hF2 hX2 hb3 hk3 hB2
      go_wp2
      go_roundw
      case rel =>
        refine ⟨f + n, d, _, by omega, by omega, ⟨?_, hB3.far hF3 (by decide) (by omega) 0 _, ?_⟩, HQ2.out, ?_, hbw3.setCell (by show Bb ≤ Fr; omega) _⟩
        · rw [HFE.out]; exact one_setCell hF3
        · exact (Below.heap_setCell _ ⟨Fr, 0, none⟩ _ Sx (by show Sx ≠ Fr; omega)).trans hX3
        · rw [size_append, HE.out]; have := HO.out; omega
      case measure =>
        have e1 : fromOf (w3.setCell ⟨Fr, 0, none⟩ (.int .i64 ((f : Int) + n))) Fr = f + n := by
          unfold fromOf; rw [cell_of_one (one_setCell hF3)]; simp; omega
        rw [e1, HFO.out]; omega
    · obtain rfl : f = t := by omega
      have hQ2 := HQ.out
      have hRo : R = o := by
        rw [← hQ2]
        cases d with
        | zero => rfl
        | succ d => rw [layQ, if_neg (Nat.lt_irrefl _)]
      have HRo := Lib.hid hRo
      clear hQ2 hRo
      have hge : decide ((f : Int) < f) = false := by simp
      go_wp2
      go_end0
      rw [HRo.out]
      exact ⟨rfl, ⟨hF, hB, hX⟩, hbel⟩
end Go.Proofs.Ytggjkijgbpnhiaa.Hand
