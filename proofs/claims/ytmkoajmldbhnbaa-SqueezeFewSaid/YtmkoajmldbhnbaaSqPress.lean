/- squeeze.Compress, by hand: a finder, a closure over three variables, a loop. -/
import Derived.Test.YtmkoajmldbhnbaaSqFlush
import Derived.Test.YtmkoajmldbhnbaaSqBest
namespace Go.Proofs.Ytmkoajmldbhnbaa.Hand
open Go.Maps Go.ChangeShapes Go.WideElems Go.MapKept
open Go.RowKit Go.Proofs.YtmkoajmldbhnbaaW.PrintWords Go.Proofs.YtmkoajmldbhnbaaW.PrintLast Go.Proofs.YtmkoajmldbhnbaaW.PrintMore
open Go.Proofs.Ytmkoajmldbhnbaa.PSqA
set_option linter.unusedVariables false
set_option linter.unusedSimpArgs false

theorem runG_size (s : ByteArray) (a : Int) (b : Nat) (r : Nat) : ∀ n : Int, (b : Int) + n ≤ s.size → (b : Int) + runG s a b r n ≤ s.size := by
  induction r with
  | zero => intro n h; exact h
  | succ r ih =>
    intro n h
    rw [runG]
    split
    · rename_i c; exact ih (n + 1) (by omega)
    · exact h
theorem bestR_range (s : ByteArray) (t : Nat) (ht : t ≤ s.size) (zs : List Int) (hm : ∀ j, j < zs.length → 0 ≤ zs.getD j 0 ∧ zs.getD j 0 < t) (i : Nat) : ∀ n b : Int, i ≤ zs.length → 0 ≤ n → n ≤ 258 → t + n ≤ s.size → 0 ≤ b → b ≤ 4096 →
    0 ≤ (bestR s t zs i n b).1 ∧ (bestR s t zs i n b).1 ≤ 258 ∧ t + (bestR s t zs i n b).1 ≤ s.size ∧ 0 ≤ (bestR s t zs i n b).2 ∧ (bestR s t zs i n b).2 ≤ 4096 := by
  induction i with
  | zero => intro n b _ h1 h2 h3 h4 h5; exact ⟨h1, h2, h3, h4, h5⟩
  | succ i ih =>
    intro n b hi h1 h2 h3 h4 h5
    rw [bestR]
    have hmi := hm i (by omega)
    split
    · split
      · have hr := runG_range s (zs.getD i 0) t 258 0
        exact ih _ _ (by omega) (by unfold runN; omega) (by unfold runN; omega) (by unfold runN; exact runG_size s _ t 258 0 (by omega)) (by omega) (by omega)
      · exact ih _ _ (by omega) h1 h2 h3 h4 h5
    · exact ⟨h1, h2, h3, h4, h5⟩
theorem bestS_range (s : ByteArray) (t : Nat) (ht : t ≤ s.size) : 0 ≤ (bestS s t).1 ∧ (bestS s t).1 ≤ 258 ∧ t + (bestS s t).1 ≤ s.size ∧ 0 ≤ (bestS s t).2 ∧ (bestS s t).2 ≤ 4096 := by
  unfold bestS
  split
  · refine bestR_range s t ht _ (fun j hj => ?_) _ 0 0 (Nat.le_refl _) (by omega) (by omega) (by omega) (by omega) (by omega)
    rw [List.getD_eq_getElem?_getD, List.getElem?_eq_getElem hj]
    exact posS_mem s t _ _ (List.getElem_mem _)
  · simp; omega

/-- What Compress makes from a place on. -/
def compQ (s : ByteArray) : Nat → Nat → Nat → ByteArray → ByteArray
  | 0, _, f, b => flushS s b f s.size
  | d + 1, t, f, b => if t < s.size then
      (if (bestS s t).1 < 4 then (if (t : Int) + 1 - f = 1024 then compQ s d (t + 1) (t + 1) (flushS s b f (t + 1)) else compQ s d (t + 1) f b)
       else compQ s d (t + (bestS s t).1.toNat) (t + (bestS s t).1.toNat) (octet_Put.g (octet_Put.g (flushS s b f t) (2 * (bestS s t).1 + 1)) (bestS s t).2))
    else flushS s b f s.size
def compS (s : ByteArray) : ByteArray := compQ s s.size 0 0 (octet_Put.g ⟨#[]⟩ s.size)

theorem flushS_size (s b : ByteArray) (f t : Nat) (hf : f ≤ t) : (flushS s b f t).size ≤ b.size + 10 + (t - f) := by
  unfold flushS
  split
  · have h1 := putG_size b (2 * ((t : Int) - f))
    rw [size_appS, ByteArray.size_extract]; omega
  · omega

/-- The four blocks and the finder, at a place. -/
def Prs (w : World) (S Bb : Nat) (s b : ByteArray) (f t : Nat) : Prop :=
  w.heap[S]? = some (.cells #[.string s] 9 (0, 0)) ∧ w.heap[Bb]? = some (.cells #[.string b] 9 (0, 0)) ∧ w.heap[Bb + 1 + 1 + 1]? = some (.cells #[.int .i64 f] 3 (0, 0)) ∧ S < Bb ∧
    (∃ seen, seen ≤ t ∧ Fnd w (Bb + 1 + 1) (Bb + 1) (Bb + 1 + 1 + 1 + 1) s seen)

theorem groups_empty {w : World} {P : Program} {k base e : Nat} {q : IntKind} {b : Nat} (hb : w.heap[b]? = some (.map #[] 0)) (h : b < base) : w.ownsGroups (H := Unit) P k base e q b 0 (.map []) :=
  ⟨#[], 0, hb, ⟨by simp, stamped_empty 0, by simp⟩, Nat.le_refl _, rfl, h, by simp, by simp⟩
theorem groups_kept2 {w w' : World} {P : Program} {k base e : Nat} {q : IntKind} {b n : Nat} {D : DataW Unit} (h : w.ownsGroups P k base e q b n D) (hb' : w'.heap[b]? = w.heap[b]?) (hr : ∀ g, base ≤ g → g < w.heap.size → w'.heap[g]? = w.heap[g]?) : w'.ownsGroups P k base e q b n D := by
  obtain ⟨es, clock, hb, F, hs, rfl, hbb, hlen, hap⟩ := h
  have mv : ∀ v zs, w.ownsInts base e q v zs → w'.ownsInts base e q v zs := fun v zs ho => ⟨own_move ho.1 (fun g hg => hr g (ho.1.lt g hg).1 (ho.1.lt g hg).2), ho.2⟩
  obtain ⟨F1, hmap, _⟩ := F.stay (R' := rowElem (H := Unit) w' base e q) (fun x hx z hz => by
    obtain ⟨zs, ho, rfl⟩ := rowElem_inv hz
    exact rowElem_mk (mv _ _ ho))
  refine ⟨es, clock, hb'.trans hb, F1, hs, by rw [hmap], hbb, fun x hx zs ho => ?_, hap⟩
  obtain ⟨y, hy⟩ := F.reads x hx
  obtain ⟨z, hz, _⟩ := rd_val hy
  obtain ⟨zs0, ho0, _⟩ := rowElem_inv hz
  rw [ho.unique (mv _ _ ho0)]
  exact hlen x hx zs0 ho0
theorem Fnd.kept2 {w w' : World} {F M base : Nat} {s : ByteArray} {n : Nat} {S : Nat → Prop} (h : Fnd w F M base s n) (hk : Kept w w' S) (h1 : ¬ S F) (h2 : ¬ S M) (h3 : ∀ g, base ≤ g → ¬ S g) : Fnd w' F M base s n := by
  obtain ⟨m, D, hm, hblk, hown, hD, hwas, hMF, hFb, hbs⟩ := h
  exact ⟨m, D, hm, (hk.2 F (lt_of_block hblk) h1).trans hblk, groups_kept2 hown (hk.2 M (by omega) h2) (fun g hg hl => hk.2 g hl (h3 g hg)), hD, hwas, hMF, hFb, Nat.le_trans hbs hk.1⟩

def PressRel (w : World) (S Bb : Nat) (s R : ByteArray) (tv : Value) (wr : World) : Prop :=
  ∃ (t f d : Nat) (b : ByteArray), tv = .int .i64 t ∧ f ≤ t ∧ t ≤ s.size ∧ s.size ≤ t + d ∧ b.size + (t - f) ≤ 10 + 41 * t ∧ compQ s d t f b = R ∧ Prs wr S Bb s b f t ∧ Below w.heap.size w wr

theorem compQ_end (s : ByteArray) (d f : Nat) (b : ByteArray) : compQ s d s.size f b = flushS s b f s.size := by
  cases d with
  | zero => rfl
  | succ d => rw [compQ, if_neg (Nat.lt_irrefl _)]
theorem flush_at (tv : Int) (s b : ByteArray) (f t Bs Bb Bf : Nat) (w : World) (htv : tv = (t : Int)) (hs : w.heap[Bs]? = some (.cells #[.string s] 9 (0, 0))) (hb : w.heap[Bb]? = some (.cells #[.string b] 9 (0, 0))) (hf : w.heap[Bf]? = some (.cells #[.int .i64 f] 3 (0, 0)))
    (hsb : Bs ≠ Bb) (hbf : Bb < Bf) (ht : t ≤ s.size) (hft : f ≤ t) (hz : s.size ≤ 1000000000) (hbz : b.size ≤ 1000000000000) :
    Calls Try.prog 16 #[.int .i64 tv, .pointer (some ⟨Bf, 0, none⟩), .pointer (some ⟨Bb, 0, none⟩), .pointer (some ⟨Bs, 0, none⟩)] w fun e w' => e = .returned (.tuple #[]) ∧
      w'.heap[Bf]? = some (.cells #[.int .i64 t] 3 (0, 0)) ∧ w'.heap[Bb]? = some (.cells #[.string (flushS s b f t)] 9 (0, 0)) ∧ Kept w w' (fun g => g = Bf ∨ g = Bb) ∧ Below Bb w w' := by
  subst htv; exact flush_any s b f t Bs Bb Bf w hs hb hf hsb hbf ht hft hz hbz
theorem press_start {s : ByteArray} {w w1 : World} (hS1 : w1.heap[w.heap.size]? = some (.cells #[.string s] 9 (0, 0))) (lS1 : w.heap.size < w1.heap.size) (hB : Below w.heap.size w w1) :
    PressRel w w.heap.size w1.heap.size s (compS s) (.int .i64 0) ((((w1.alloc (.cells #[.string (octet_Put.g ⟨#[]⟩ s.size)] 9)).alloc (.map #[] 0)).alloc (.cells #[.string s, .map (some (w1.heap.size + 1)), .int .i64 0] 40)).alloc (.cells #[.int .i64 0] 3)) := by
  have past : ∀ (W : World) (o x : Obj) (g : Nat), W.heap[g]? = some x → (W.alloc o).heap[g]? = some x := fun W o x g h => (Below.heap_alloc W o g (lt_of_block h)).trans h
  have sz : ∀ (W : World) (o : Obj), (W.alloc o).heap.size = W.heap.size + 1 := fun W o => by simp
  have h1 := heap_alloc_new w1 (.cells #[.string (octet_Put.g ⟨#[]⟩ s.size)] 9)
  generalize hA : w1.alloc (.cells #[.string (octet_Put.g ⟨#[]⟩ s.size)] 9) = A at *
  have zA : A.heap.size = w1.heap.size + 1 := by rw [← hA]; exact sz _ _
  have hSA : A.heap[w.heap.size]? = some (.cells #[.string s] 9 (0, 0)) := by rw [← hA]; exact past _ _ _ _ hS1
  have hBA : Below w.heap.size w A := by rw [← hA]; exact hB.alloc (by omega) _
  have h2 := heap_alloc_new A (.map #[] 0)
  have h1B := past A (.map #[] 0) _ _ h1
  have hSB := past A (.map #[] 0) _ _ hSA
  have hBB := hBA.alloc (show w.heap.size ≤ A.heap.size by omega) (.map #[] 0)
  have zB := sz A (.map #[] 0)
  generalize A.alloc (.map #[] 0) = B at *
  have h3 := heap_alloc_new B (.cells #[.string s, .map (some (w1.heap.size + 1)), .int .i64 0] 40)
  have h1C := past B (.cells #[.string s, .map (some (w1.heap.size + 1)), .int .i64 0] 40) _ _ h1B
  have h2C := past B (.cells #[.string s, .map (some (w1.heap.size + 1)), .int .i64 0] 40) _ _ h2
  have hSC := past B (.cells #[.string s, .map (some (w1.heap.size + 1)), .int .i64 0] 40) _ _ hSB
  have hBC := hBB.alloc (show w.heap.size ≤ B.heap.size by omega) (.cells #[.string s, .map (some (w1.heap.size + 1)), .int .i64 0] 40)
  have zC := sz B (.cells #[.string s, .map (some (w1.heap.size + 1)), .int .i64 0] 40)
  generalize B.alloc (.cells #[.string s, .map (some (w1.heap.size + 1)), .int .i64 0] 40) = C at *
  have h4 := heap_alloc_new C (.cells #[.int .i64 0] 3)
  have h1D := past C (.cells #[.int .i64 0] 3) _ _ h1C
  have h2D := past C (.cells #[.int .i64 0] 3) _ _ h2C
  have h3D := past C (.cells #[.int .i64 0] 3) _ _ h3
  have hSD := past C (.cells #[.int .i64 0] 3) _ _ hSC
  have hBD := hBC.alloc (show w.heap.size ≤ C.heap.size by omega) (.cells #[.int .i64 0] 3)
  have zD := sz C (.cells #[.int .i64 0] 3)
  rw [zA] at h2D
  rw [zB, zA] at h3D
  rw [zC, zB, zA] at h4
  have hp := putG_size ⟨#[]⟩ s.size
  have e0 : (⟨#[]⟩ : ByteArray).size = 0 := rfl
  exact ⟨0, 0, s.size, octet_Put.g ⟨#[]⟩ s.size, rfl, Nat.le_refl _, Nat.zero_le _, by omega, by omega, rfl, ⟨hSD, h1D, h4, lS1, 0, Nat.le_refl _, 0, .map [], Nat.le_refl _, h3D, groups_empty h2D (by omega), isMap_empty, WasL.start s, by omega, by omega, by omega⟩, hBD⟩

theorem match_end {s b2 : ByteArray} {w w5 : World} {S Bb t n1 d f : Nat} {R : ByteArray} (hQ : compQ s d (t + n1) (t + n1) b2 = R) (hs : w5.heap[S]? = some (.cells #[.string s] 9 (0, 0))) {b1 : ByteArray} (hb : w5.heap[Bb]? = some (.cells #[.string b1] 9 (0, 0)))
    (hf : w5.heap[Bb + 1 + 1 + 1]? = some (.cells #[.int .i64 f] 3 (0, 0))) (hF : Fnd w5 (Bb + 1 + 1) (Bb + 1) (Bb + 1 + 1 + 1 + 1) s t) (hSB : S < Bb) (h1 : t + n1 ≤ s.size) (h2 : s.size ≤ t + n1 + d) (h3 : b2.size ≤ 10 + 41 * (t + n1)) (h4 : S ≤ Bb) (hB : Below S w w5) (hSS : w.heap.size = S) :
    PressRel w S Bb s R (.int .i64 ((t : Int) + n1)) ((w5.setCell ⟨Bb, 0, none⟩ (.string b2)).setCell ⟨Bb + 1 + 1 + 1, 0, none⟩ (.int .i64 ((t : Int) + n1))) := by
  have e : (t : Int) + n1 = ((t + n1 : Nat) : Int) := by simp
  have hf1 := (Below.heap_setCell w5 ⟨Bb, 0, none⟩ (.string b2) (Bb + 1 + 1 + 1) (by show Bb + 1 + 1 + 1 ≠ Bb; omega)).trans hf
  refine ⟨t + n1, t + n1, d, b2, by rw [e], Nat.le_refl _, h1, h2, by omega, hQ, ⟨?_, ?_, ?_, hSB, t, by omega, ?_⟩, ?_⟩
  · exact (Below.heap_setCell _ _ _ _ (by show S ≠ Bb + 1 + 1 + 1; omega)).trans ((Below.heap_setCell _ _ _ _ (by show S ≠ Bb; omega)).trans hs)
  · exact (Below.heap_setCell _ _ _ _ (by show Bb ≠ Bb + 1 + 1 + 1; omega)).trans (one_setCell hb)
  · rw [← e]; exact one_setCell hf1
  · exact hF.kept2 (((Kept.refl w5 (fun g => g = Bb ∨ g = Bb + 1 + 1 + 1)).setCell (Or.inl (Or.inl rfl)) _).setCell (Or.inl (Or.inr rfl)) _) (by omega) (by omega) (by omega)
  · rw [hSS]
    exact (hB.setCell (by show S ≤ Bb; omega) _).setCell (by show S ≤ Bb + 1 + 1 + 1; omega) _

set_option maxHeartbeats 2000000 in
set_option maxRecDepth 100000 in
theorem press_any (s : ByteArray) (w : World) (hz : s.size ≤ 1000000) :
    Calls Try.prog 9 #[.string s] w fun e w' => e = .returned (.string (compS s)) ∧ Below w.heap.size w w' := by
  have hmm := @run_makeMap Try.prog
  have hsz0 : (s.size : Int) < 2 * 128 ^ 9 := by simp; omega
  go_enter Try.func9, Try.ntmps9
  go_wp2_with (fail)
  refine (put_any ⟨#[]⟩ (s.size : Int) _ (Nat.zero_le _) (by omega) hsz0).mono ?_
  rintro e w1 ⟨rfl, hB1⟩
  have hS1 : w1.heap[w.heap.size]? = some (.cells #[.string s] 9 (0, 0)) := (hB1.block w.heap.size (by simp)).trans (heap_alloc_new _ _)
  have cS1 := cell_of_one hS1
  have lS1 := lt_of_block hS1
  have hB1' : Below w.heap.size w w1 := ((Below.refl _ w).alloc (Nat.le_refl _) _).trans (hB1.mono (by simp))
  have hstart : PressRel w w.heap.size w1.heap.size s (compS s) (.int .i64 0) ((((w1.alloc (.cells #[.string (octet_Put.g ⟨#[]⟩ s.size)] 9)).alloc (.map #[] 0)).alloc (.cells #[.string s, .map (some (w1.heap.size + 1)), .int .i64 0] 40)).alloc (.cells #[.int .i64 0] 3)) := by
    exact press_start hS1 lS1 hB1'
  have HS := Lib.hid hstart
  clear hstart
  go_wp2
  clear hS1 cS1 hB1 hmm
  go_loopw [7, 8, 9] (fun tv _ _ wr => PressRel w w.heap.size w1.heap.size s (compS s) tv wr) (fun tv _ _ _ => s.size - (intOf tv).toNat)
  case atStart => exact HS.out
  case round =>
    obtain ⟨t, f, d, b, rfl, hft, hts, hd, hbz, hQ, ⟨hs, hb, hf, hSB, seen, hseen, hFnd⟩, hB⟩ := hrel
    have HQ := Lib.hid hQ
    clear hQ HS
    have cs := cell_of_one hs
    have cb := cell_of_one hb
    have cf := cell_of_one hf
    generalize hBb : w1.heap.size = Bb at *
    generalize hSS : w.heap.size = S at *
    have hz1 : s.size ≤ 1000000000 := by omega
    have lS := lt_of_block hs
    have lB := lt_of_block hb
    have lF := lt_of_block hf
    have hne : S ≠ Bb := by omega
    have hbf : Bb < Bb + 1 + 1 + 1 := by omega
    have hbz1 : b.size ≤ 1000000000000 := by omega
    by_cases hlt : t < s.size
    · obtain ⟨d, rfl⟩ : ∃ m, d = m + 1 := ⟨d - 1, by omega⟩
      have hbr := bestS_range s t hts
      have hbest := best_any (Bb + 1 + 1) (Bb + 1) (Bb + 1 + 1 + 1 + 1) s seen t
      have hQ2 := HQ.out
      rw [compQ, if_pos hlt] at hQ2
      obtain ⟨n1, hn1⟩ : ∃ m : Nat, (bestS s t).1 = m := Int.eq_ofNat_of_zero_le hbr.1
      obtain ⟨bk, hbk⟩ : ∃ m : Nat, (bestS s t).2 = m := Int.eq_ofNat_of_zero_le hbr.2.2.2.1
      rw [hn1, hbk] at hbr hbest hQ2
      rw [Int.toNat_natCast] at hQ2
      obtain ⟨_, hr1, hr2, _, hr3⟩ := hbr
      have hlt' : (t : Int) < s.size := by omega
      have hfs := flushS_size s b f t hft
      by_cases hsm : (n1 : Int) < 4
      · rw [if_pos hsm] at hQ2
        have hfs1 := flushS_size s b f (t + 1) (by omega)
        by_cases hp : (t : Int) + 1 - f = 1024
        · rw [if_pos hp] at hQ2
          have HQ2 := Lib.hid hQ2
          have hp' : ((t : Int) + 1 - f == 1024) = true := by simpa using hp
          have htv : (t : Int) + 1 = ((t + 1 : Nat) : Int) := by omega
          have HT := Lib.hid htv
          clear hQ2 hn1 hbk htv
          go_wp2_with (first | (go_at_call 17; refine (hbest _ hz1 hts hseen hFnd).mono ?_; rintro e w2 ⟨rfl, hF2, hk2, hB2⟩; have hs2 := (hk2.2 S lS (by omega)).trans hs; have hb2 := (hk2.2 Bb lB (by omega)).trans hb; have hf2 := (hk2.2 _ lF (by omega)).trans hf; have cs2 := cell_of_one hs2; have cb2 := cell_of_one hb2; have cf2 := cell_of_one hf2) | (go_at_call 16; refine (flush_at _ s b f (t + 1) S Bb (Bb + 1 + 1 + 1) _ HT.out hs2 hb2 hf2 hne hbf (by omega) (by omega) hz1 hbz1).mono ?_; rintro e w3 ⟨rfl, hf3, hb3, hk3, hB3⟩; have hs3 := (hk3.2 S (lt_of_block hs2) (by omega)).trans hs2; have hF3 := hF2.kept2 hk3 (by omega) (by omega) (by omega); have cs3 := cell_of_one hs3; have cb3 := cell_of_one hb3; have cf3 := cell_of_one hf3; have fb3 := free_of_one hb3; have ff3 := free_of_one hf3))
          go_roundw
          case rel => exact ⟨t + 1, t + 1, d, _, by simp, by omega, by omega, by omega, by omega, HQ2.out, ⟨hs3, hb3, hf3, hSB, t, by omega, hF3⟩, by rw [hSS]; exact (hB.trans (hB2.mono (by omega))).trans (hB3.mono (by omega))⟩
          case measure => simp [intOf]; omega
        · rw [if_neg hp] at hQ2
          have HQ2 := Lib.hid hQ2
          have hp' : ((t : Int) + 1 - f == 1024) = false := by simpa using hp
          clear hQ2 hn1 hbk
          go_wp2_with (go_at_call 17; refine (hbest _ hz1 hts hseen hFnd).mono ?_; rintro e w2 ⟨rfl, hF2, hk2, hB2⟩; have hs2 := (hk2.2 S lS (by omega)).trans hs; have hb2 := (hk2.2 Bb lB (by omega)).trans hb; have hf2 := (hk2.2 _ lF (by omega)).trans hf; have cs2 := cell_of_one hs2; have cb2 := cell_of_one hb2; have cf2 := cell_of_one hf2)
          go_roundw
          case rel => exact ⟨t + 1, f, d, b, by simp, by omega, by omega, by omega, by omega, HQ2.out, ⟨hs2, hb2, hf2, hSB, t, by omega, hF2⟩, by rw [hSS]; exact hB.trans (hB2.mono (by omega))⟩
          case measure => simp [intOf]; omega
      · rw [if_neg hsm] at hQ2
        have HQ2 := Lib.hid hQ2
        have hp1 := putG_size (flushS s b f t) (2 * (n1 : Int) + 1)
        have hp2 := putG_size (octet_Put.g (flushS s b f t) (2 * (n1 : Int) + 1)) (bk : Int)
        have hq1 : (flushS s b f t).size ≤ 140737488355000 := by omega
        have hq2 : 0 ≤ 2 * (n1 : Int) + 1 := by omega
        have hq3 : 2 * (n1 : Int) + 1 < 2 * 128 ^ 9 := by simp; omega
        have hq4 : (octet_Put.g (flushS s b f t) (2 * (n1 : Int) + 1)).size ≤ 140737488355000 := by omega
        have hq5 : 0 ≤ (bk : Int) := by omega
        have hq6 : (bk : Int) < 2 * 128 ^ 9 := by simp; omega
        have hge : (4 : Int) ≤ n1 := by omega
        have hsd : decide ((n1 : Int) < 4) = false := decide_eq_false hsm
        have HNe := Lib.hid hsm
        clear hsm
        have tok1 : True := trivial
        have tok2 : True := trivial
        clear hQ2 hn1 hbk
        go_wp2_with (first | (go_at_call 17; refine (hbest _ hz1 hts hseen hFnd).mono ?_; rintro e w2 ⟨rfl, hF2, hk2, hB2⟩; have hs2 := (hk2.2 S lS (by omega)).trans hs; have hb2 := (hk2.2 Bb lB (by omega)).trans hb; have hf2 := (hk2.2 _ lF (by omega)).trans hf; have cs2 := cell_of_one hs2; have cb2 := cell_of_one hb2; have cf2 := cell_of_one hf2) | (go_at_call 16; refine (flush_at _ s b f t S Bb (Bb + 1 + 1 + 1) _ rfl hs2 hb2 hf2 hne hbf (by omega) (by omega) hz1 hbz1).mono ?_; rintro e w3 ⟨rfl, hf3, hb3, hk3, hB3⟩; have hs3 := (hk3.2 S (lt_of_block hs2) (by omega)).trans hs2; have hF3 := hF2.kept2 hk3 (by omega) (by omega) (by omega); have cs3 := cell_of_one hs3; have cb3 := cell_of_one hb3; have cf3 := cell_of_one hf3; have fb3 := free_of_one hb3; have ff3 := free_of_one hf3) | (go_at_call 15; have _t := tok1; refine (put_any (flushS s b f t) (2 * (n1 : Int) + 1) _ hq1 hq2 hq3).mono ?_; rintro e w4 ⟨rfl, hB4⟩; clear tok1; have hs4 := (hB4.block S (lt_of_block hs3)).trans hs3; have hb4 := (hB4.block Bb (lt_of_block hb3)).trans hb3; have hf4 := (hB4.block _ (lt_of_block hf3)).trans hf3) | (go_at_call 15; have _t := tok2; refine (put_any (octet_Put.g (flushS s b f t) (2 * (n1 : Int) + 1)) (bk : Int) _ hq4 hq5 hq6).mono ?_; rintro e w5 ⟨rfl, hB5⟩; clear tok2; have hs5 := (hB5.block S (lt_of_block hs4)).trans hs4; have hb5 := (hB5.block Bb (lt_of_block hb4)).trans hb4; have hf5 := (hB5.block _ (lt_of_block hf4)).trans hf4; have hF5 := (hF3.below hB4).below hB5; have cb5 := cell_of_one hb5; have fb5 := free_of_one hb5; have cf5 := cell_of_one hf5; have ff5 := free_of_one hf5))
        go_roundw
        case rel =>
          exact match_end HQ2.out hs5 hb5 hf5 hF5 hSB (by omega) (by omega) (by omega) (by omega) (((hB.trans (hB2.mono (by omega))).trans (hB3.mono (by omega))).trans ((hB4.mono (by have := hB2.size; have := hB3.size; omega)).trans (hB5.mono (by have := hB2.size; have := hB3.size; have := hB4.size; omega)))) hSS
        case measure => simp [intOf]; omega
    · obtain rfl : t = s.size := by omega
      have hQ2 := HQ.out
      rw [compQ_end] at hQ2
      have HQ2 := Lib.hid hQ2
      have hF2 := hFnd
      have hs2 := hs
      have hb2 := hb
      have hf2 := hf
      clear hQ2
      go_wp2_with (first | (go_at_call 16; refine (flush_at _ s b f s.size S Bb (Bb + 1 + 1 + 1) _ rfl hs2 hb2 hf2 hne hbf (by omega) (by omega) hz1 hbz1).mono ?_; rintro e w3 ⟨rfl, hf3, hb3, hk3, hB3⟩; have hs3 := (hk3.2 S (lt_of_block hs2) (by omega)).trans hs2; have hF3 := hF2.kept2 hk3 (by omega) (by omega) (by omega); have cs3 := cell_of_one hs3; have cb3 := cell_of_one hb3; have cf3 := cell_of_one hf3; have fb3 := free_of_one hb3; have ff3 := free_of_one hf3))
      go_ret
      rw [← HQ2.out]
      exact ⟨rfl, by rw [hSS]; exact hB.trans (hB3.mono (by omega))⟩
def squeeze_Compress.f (a0 : ByteArray) : Option ByteArray := if a0.size ≤ 1000000 then some (compS a0) else none
theorem squeeze_Compress.calls (a0 : ByteArray) (r : ByteArray) (w : World) (h : squeeze_Compress.f a0 = some r) :
    Calls Try.prog 9 #[.string a0] w fun e w' => e = .returned (.string r) ∧ Below w.heap.size w w' := by
  unfold squeeze_Compress.f at h
  split at h
  · simp only [Option.some.injEq] at h
    subst h
    exact press_any a0 w (by assumption)
  · cases h
end Go.Proofs.Ytmkoajmldbhnbaa.Hand
