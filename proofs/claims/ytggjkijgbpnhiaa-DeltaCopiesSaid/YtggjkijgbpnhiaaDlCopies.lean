/- delta.Copies, by hand. -/
import Derived.Test.YtggjkijgbpnhiaaDlHead
import Derived.Test.YtggjkijgbpnhiaaDlApply
namespace Go.Proofs.Ytggjkijgbpnhiaa.Hand
open Go.RowKit Go.Proofs.YtggjkijgbpnhiaaW.PrintWords Go.Proofs.YtggjkijgbpnhiaaW.PrintLast Go.Proofs.YtggjkijgbpnhiaaW.PrintMore
open Go.Proofs.Ytggjkijgbpnhiaa.PDl
set_option linter.unusedVariables false
set_option linter.unusedSimpArgs false

/-- The runs among the pieces; b: where the first piece begins. -/
def runL : List Pc → Int → List S34
  | [], _ => []
  | x :: l, b => if x.1 = true then ⟨x.2.1, b, x.2.2⟩ :: runL l (b + x.2.2) else runL l (b + x.2.2)
theorem runL_snoc (x : Pc) (l : List Pc) : ∀ b, runL (l ++ [x]) b = runL l b ++ (if x.1 = true then [⟨x.2.1, b + (l.map (·.2.2)).sum, x.2.2⟩] else []) := by
  induction l with
  | nil => intro b; simp [runL]
  | cons y l ih =>
    intro b
    simp only [List.cons_append, runL, ih, List.map_cons, List.sum_cons]
    rw [Int.add_assoc]
    split <;> simp
theorem runL_length (l : List Pc) : ∀ b, (runL l b).length ≤ l.length := by
  induction l with
  | nil => intro b; exact Nat.le_refl _
  | cons y l ih =>
    intro b
    have := ih (b + y.2.2)
    simp only [runL]
    split <;> simp <;> omega
def CpI (o : Nat) (w : World) (l : List Pc) : Prop :=
  ∃ v, w.heap[o]? = some (.cells #[v] 30 (0, 0)) ∧ Kd.R k34 34 w (o + 1 + 1) (fun _ => True) v (runL l 0) ∧ w.heap[o + 1]? = some (.cells #[.int .i64 (l.map (·.2.2)).sum] 3 (0, 0)) ∧ (l.length : Int) ≤ (l.map (·.2.2)).sum

set_option maxHeartbeats 4000000 in
set_option maxRecDepth 100000 in
theorem copiesDo (o g : Nat) (s : ByteArray) (base told : Int) (hg : g < o) (ht : told ≤ 1000000000) (hb : base ≤ 1000000000) (hz : s.size ≤ 1000000000) (W : World) (l : List Pc) (c : Bool) (a n p e : Int) (hI : CpI o W l) (hs : Rd W g s p e)
    (ha : 0 ≤ a) (hn : 1 ≤ n) (h1 : c = true → a + n ≤ base) (h2 : c = false → a + n ≤ s.size) (h3 : (l.map (·.2.2)).sum + n ≤ told) :
    Calls Try.prog 35 (#[.agg #[.bool c, .int .i64 a, .int .i64 n]] ++ #[.pointer (some ⟨o, 0, none⟩), .pointer (some ⟨o + 1, 0, none⟩)]) W fun x W' => x = .returned (.tuple #[]) ∧ CpI o W' (l ++ [(c, a, n)]) ∧ Rd W' g s p e ∧ Below o W W' := by
  obtain ⟨v, hv, hR, hc, hl⟩ := hI
  obtain ⟨m, hm⟩ : ∃ m, (l.map (·.2.2)).sum = m := ⟨_, rfl⟩
  have hrl := runL_length l 0
  have hsn := runL_snoc (c, a, n) l 0
  have hsum : ((l ++ [(c, a, n)]).map (·.2.2)).sum = m + n := by simp [hm]
  rw [hm] at hc hl h3 hsn
  rw [Int.zero_add] at hsn
  generalize hxs : runL l 0 = xs at *
  have cv := cell_of_one hv
  have cc := cell_of_one hc
  have fc := free_of_one hc
  have fv := free_of_one hv
  have lv := lt_of_block hv
  have lc := lt_of_block hc
  have m0 : 0 ≤ m := by omega
  obtain ⟨A, cp, rfl⟩ : ∃ A cp, v = .slice A xs.length cp := Kd.R_slice hR
  have HSN := Lib.hid hsn
  have HSum := Lib.hid hsum
  have HR := Lib.hid hR
  have HV := Lib.hid hv
  have HC := Lib.hid hc
  clear hsn hsum hR hm hxs hv hc
  cases c with
  | true =>
    have hR := HR.out
    obtain ⟨inner, hown⟩ := Kd.R_own hR
    have hob : ∀ k, (Value.slice A xs.length cp).ownBlock = some k → o + 1 + 1 ≤ k ∧ k < W.heap.size := fun k hk => ⟨own_base hown k hk, own_lt hown k hk⟩
    have HOB := Lib.hid hob
    have hR2 : Kd.R k34 34 (W.alloc (.cells #[.bool true, .int .i64 a, .int .i64 n] 61)) (o + 1 + 1) (fun _ => True) (.slice A xs.length cp) xs := Kd.R_alloc hR _
    have hBW : Below (o + 1 + 1) W (W.alloc (.cells #[.bool true, .int .i64 a, .int .i64 n] 61)) := (Below.refl _ W).alloc (by omega) _
    have hzW : o + 1 + 1 ≤ (W.alloc (.cells #[.bool true, .int .i64 a, .int .i64 n] 61)).heap.size := by simp; omega
    have hxl : (xs.length + 1) * 24 ≤ 140737488355328 := by omega
    have HR2 := Lib.hid hR2
    have HBW := Lib.hid hBW
    have HZW := Lib.hid hzW
    have HXL := Lib.hid hxl
    clear hR hown hob hR2 hBW hzW hxl
    go_enter Try.func35, Try.ntmps35
    go_wp2_with (at_builtin; refine Kd.R_append k34 (w0 := W) (o + 1 + 1) rfl _ _ 30 34 (.agg #[.int .i64 0, .int .i64 0, .int .i64 0]) 24 rfl Try.underlying30 info34 rfl (by decide) (by decide) (.slice A xs.length cp) xs (⟨a, m, n⟩ : S34) [.int .i64 a, .int .i64 m, .int .i64 n] (fun _ => True) (fun _ => False) rfl (by simp [go_sem]) (k34_mkM _ _ _ _) (fun _ h => h.elim) (fun _ _ => trivial) HR2.out HBW.out HZW.out HXL.out ?_; intro v1 w1 hR1 hB1 hg1 hat1; obtain ⟨A1, cp1, hv1e⟩ := Kd.R_slice hR1; subst hv1e; have hne : ∀ k, k < o + 1 + 1 → k < (W.alloc (.cells #[.bool true, .int .i64 a, .int .i64 n] 61)).heap.size → w1.heap[k]? = (W.alloc (.cells #[.bool true, .int .i64 a, .int .i64 n] 61)).heap[k]? := (fun k hk hl => hg1.block k hl (fun e => by have := (HOB.out k e.symm).1; omega)); have hv1 : w1.heap[o]? = some (.cells #[.slice A xs.length cp] 30 (0, 0)) := (hne o (by omega) (by simp; omega)).trans ((Below.heap_alloc _ _ _ lv).trans HV.out); have hc1 : w1.heap[o + 1]? = some (.cells #[.int .i64 m] 3 (0, 0)) := (hne (o + 1) (by omega) (by simp; omega)).trans ((Below.heap_alloc _ _ _ lc).trans HC.out); have hp1 : w1.heap[W.heap.size]? = some (.cells #[.bool true, .int .i64 a, .int .i64 n] 61 (0, 0)) := (hg1.block _ (by simp) (fun e => by have := (HOB.out _ e.symm).2; omega)).trans (heap_alloc_new _ _); have cv1 := cell_of_one hv1; have fv1 := free_of_one hv1; have cc1 := cell_of_one hc1; have fc1 := free_of_one hc1; have pp2 := PcB.c2 hp1; have HV1 := Lib.hid hv1; have HC1 := Lib.hid hc1; have HR1 := Lib.hid hR1; have HB1 := Lib.hid hB1; clear hv1 hc1 hp1 hR1 hB1 hg1 hat1 hne)
    go_end0
    have ho1 : o + 1 < w1.heap.size := lt_of_block HC1.out
    have hg1 : g < w1.heap.size := by omega
    have hRx := HR1.out
    rw [List.length_append, List.length_singleton] at hRx
    refine ⟨rfl, ⟨.slice A1 (xs.length + 1) cp1, ?_, ?_, ?_, ?_⟩, ?_, ?_⟩
    · exact (Below.heap_setCell _ ⟨o + 1, 0, none⟩ _ o (by show o ≠ o + 1; omega)).trans (one_setCell HV1.out)
    · rw [HSN.out]
      simp only [if_true]
      exact Kd.R_far (Kd.R_mono (Kd.R_far (Kd.R_bound hRx) (p := ⟨o, 0, none⟩) (fun k hk => by show k ≠ o; have := hk.2.1; omega) _) (fun k hk => hk)) (p := ⟨o + 1, 0, none⟩) (fun k hk => by show k ≠ o + 1; have := hk.2.1; omega) _ |> fun h => Kd.R_mono h (fun _ _ => trivial)
    · rw [HSum.out]; exact one_setCell ((Below.heap_setCell _ ⟨o, 0, none⟩ _ (o + 1) (by show o + 1 ≠ o; omega)).trans HC1.out)
    · rw [HSum.out]; simp; omega
    · exact (Below.heap_setCell _ ⟨o + 1, 0, none⟩ _ g (by show g ≠ o + 1; omega)).trans ((Below.heap_setCell _ ⟨o, 0, none⟩ _ g (by show g ≠ o; omega)).trans ((HB1.out.block g (by omega)).trans hs))
    · exact ((HB1.out.mono (by omega)).setCell (by show o ≤ o; omega) _).setCell (by show o ≤ o + 1; omega) _
  | false =>
    go_enter Try.func35, Try.ntmps35
    go_wp2
    go_end0
    refine ⟨rfl, ⟨.slice A xs.length cp, ?_, ?_, ?_, ?_⟩, ?_, ?_⟩
    · exact (Below.heap_alloc _ _ o (by simpa using lv)).trans ((Below.heap_setCell _ ⟨o + 1, 0, none⟩ _ o (by show o ≠ o + 1; omega)).trans HV.out)
    · rw [HSN.out, if_neg (by simp), List.append_nil]
      exact Kd.R_alloc (Kd.R_mono (Kd.R_far (Kd.R_bound HR.out) (p := ⟨o + 1, 0, none⟩) (fun k hk => by show k ≠ o + 1; have := hk.2.1; omega) _) (fun _ _ => trivial)) _
    · rw [HSum.out]; exact (Below.heap_alloc _ _ (o + 1) (by simpa using lc)).trans (one_setCell HC.out)
    · rw [HSum.out]; simp; omega
    · exact (Below.heap_alloc _ _ g (by have := hs.lt; simpa using this)).trans ((Below.heap_setCell _ ⟨o + 1, 0, none⟩ _ g (by show g ≠ o + 1; omega)).trans hs)
    · exact ((Below.refl o W).setCell (p := ⟨o + 1, 0, none⟩) (by show o ≤ o + 1; omega) _).alloc (by simp; omega) _
theorem copies_does (o g : Nat) (s : ByteArray) (base told : Int) (hg : g < o) (ht : told ≤ 1000000000) (hb : base ≤ 1000000000) (hz : s.size ≤ 1000000000) :
    Does g g s base told 35 #[.pointer (some ⟨o, 0, none⟩), .pointer (some ⟨o + 1, 0, none⟩)] (CpI o) where
  entered := run_entered Try.func35 (by kernel_rfl) (by kernel_rfl)
  keep := fun W W' l hI hk => by
    obtain ⟨v, hv, hR, hc, hl⟩ := hI
    exact ⟨v, (hk.2 o (lt_of_block hv) (by omega)).trans hv, Kd.R_mono (Kd.R_step (Kd.R_bound hR) (fun k hk2 hlt => hk.2 k hlt (by have := hk2.2.1; omega))) (fun _ _ => trivial), (hk.2 (o + 1) (lt_of_block hc) (by omega)).trans hc, hl⟩
  does := fun W l c a n p e hI hs ha hn h1 h2 h3 => (copiesDo o g s base told hg ht hb hz W l c a n p e hI hs ha hn h1 h2 h3).mono fun x W' h => ⟨h.1, h.2.1, h.2.2.1, h.2.2.2.mono (by omega)⟩
def copiesR (s : ByteArray) : Int × List Pc := pcsQ s (hdN s) (hdM s) ((hdM s).toNat + 1) (hdP s) 0 []
def copiesS (s : ByteArray) : List S34 × Int :=
  if hdE s = 0 then (if (copiesR s).1 = 0 then (runL (copiesR s).2 0, 0) else ([], (copiesR s).1)) else ([], hdE s)
theorem copies_any (s : ByteArray) (w : World) (hz : s.size ≤ 1000000000) :
    Calls Try.prog 16 #[.string s] w fun e w' => ∃ v0_ : Value, e = .returned (.tuple #[v0_, .int .i64 (copiesS s).2]) ∧ Kd.R k34 34 w' w.heap.size (fun _ => True) v0_ (copiesS s).1 ∧ Below w.heap.size w w' := by
  have hh := fun W hs => head_any w.heap.size s W hs hz
  have hsm := hd_small s
  unfold copiesS copiesR
  generalize hdE s = e at *
  generalize hdN s = n at *
  generalize hdM s = m at *
  generalize hdP s = p at *
  obtain ⟨RR, hRR⟩ : ∃ R, pcsQ s n m (m.toNat + 1) p 0 [] = R := ⟨_, rfl⟩
  rw [hRR]
  have HRR := Lib.hid hRR
  obtain ⟨X, hX⟩ : ∃ X, (if e = 0 then (if RR.1 = 0 then (runL RR.2 0, 0) else ([], RR.1)) else ([], e)) = (X : List S34 × Int) := ⟨_, rfl⟩
  rw [hX]
  have HX := Lib.hid hX
  clear hX
  have HH := Lib.hid hh
  have HSM := Lib.hid hsm
  clear hh hsm hRR
  have hr0 : Rd (w.alloc (.cells #[.string s, .int .i64 0, .int .i64 0] 56)) w.heap.size s 0 0 := heap_alloc_new _ _
  have hB0 : Below w.heap.size w (w.alloc (.cells #[.string s, .int .i64 0, .int .i64 0] 56)) := (Below.refl _ _).alloc (Nat.le_refl _) _
  by_cases he : e = 0
  · subst he
    obtain ⟨v1, v2, v3, v4, v5, v6⟩ := HSM.out rfl
    go_enter Try.func16, Try.ntmps16
    go_wp2_with fail
    refine (HH.out _ hr0).mono ?_
    rintro y w1 ⟨rfl, hs1, hL1⟩
    simp only [if_true]
    have hB1 := hB0.trans hL1.2
    have hg1 := hs1.lt
    have r2 := hs1.c2
    clear hr0 hB0 hL1
    generalize hgg : w.heap.size = g at *
    have HGG := Lib.hid hgg
    clear hgg
    have hdo := copies_does w1.heap.size g s n m hg1 (by omega) (by omega) hz
    have hs2 := (hs1.alloc (.cells #[.slice none 0 0] 30)).alloc (.cells #[.int .i64 0] 3)
    have hI0 : CpI w1.heap.size ((w1.alloc (.cells #[.slice none 0 0] 30)).alloc (.cells #[.int .i64 0] 3)) [] := by
      have h1 := heap_alloc_new w1 (.cells #[.slice none 0 0] 30)
      have h2 := heap_alloc_new (w1.alloc (.cells #[.slice none 0 0] 30)) (.cells #[.int .i64 0] 3)
      have hz1 : (w1.alloc (.cells #[.slice none 0 0] 30)).heap.size = w1.heap.size + 1 := by simp
      rw [hz1] at h2
      exact ⟨_, (Below.heap_alloc _ _ _ (by simp)).trans h1, Kd.R_nil _ _ _ _ _, h2, by simp⟩
    have hpc := pieces_any g g s n m p _ _ _ _ hz hdo hs2 hI0 (Nat.le_refl _) v5 v6 v1 (by omega) v3 (by omega)
    rw [HRR.out] at hpc
    have HP := Lib.hid hpc
    clear hpc hdo hI0 HRR HSM HH
    go_wp2_with fail
    refine HP.out.mono ?_
    rintro y w6 ⟨rfl, ⟨p9, hs6⟩, hI6, hB6⟩
    have r6 := hs6.c2
    have hB6' := ((hB1.alloc (by omega) (.cells #[.slice none 0 0] 30)).alloc (by simp; omega) (.cells #[.int .i64 0] 3)).trans hB6
    obtain ⟨v, hv, hR, hc, hl⟩ := hI6
    have cv := cell_of_one hv
    have HRv := Lib.hid hR
    clear hR hv hc hl
    by_cases h5 : RR.1 = 0
    · have hb5 : (RR.1 != 0) = false := by simpa using h5
      have h51 := Lib.hid h5
      clear h5
      go_wp2
      refine bodyPost_ret (results_tmp2 rfl _ _ _) rfl ?_
      rw [HGG.out]
      refine ⟨v, ?_, ?_, hB6'⟩
      · rw [show X = (runL RR.2 0, 0) by have h := HX.out; simpa [h51.out] using h.symm]; rfl
      · rw [show X = (runL RR.2 0, 0) by have h := HX.out; simpa [h51.out] using h.symm]
        exact Kd.R_lower HRv.out (by omega)
    · have hb5 : (RR.1 != 0) = true := by simpa using h5
      have h51 := Lib.hid h5
      clear h5
      go_wp2
      go_quiet (fail)
      go_wp2
      go_ret2
      rw [HGG.out]
      refine ⟨.slice none 0 0, ?_, ?_, pw_below_drewN hB6' _⟩
      · rw [show X = ([], RR.1) by have h := HX.out; simpa [h51.out] using h.symm]; rfl
      · rw [show X = ([], RR.1) by have h := HX.out; simpa [h51.out] using h.symm]
        exact Kd.R_nil _ _ _ _ _
  · have hb5 : (e != 0) = true := by simpa using he
    have h51 := Lib.hid he
    clear he
    go_enter Try.func16, Try.ntmps16
    go_wp2_with fail
    refine (HH.out _ hr0).mono ?_
    rintro y w1 ⟨rfl, hs1, hL1⟩
    have r2 := hs1.c2
    go_wp2
    go_quiet (fail)
    go_wp2
    go_ret2
    refine ⟨.slice none 0 0, ?_, ?_, pw_below_drewN (hB0.trans hL1.2) _⟩
    · rw [show X = ([], e) by have h := HX.out; simpa [h51.out] using h.symm]; rfl
    · rw [show X = ([], e) by have h := HX.out; simpa [h51.out] using h.symm]
      exact Kd.R_nil _ _ _ _ _
def delta_Copies.f (a0 : ByteArray) : Option (List S34 × Int) := if a0.size ≤ 1000000000 then some (copiesS a0) else none
theorem delta_Copies.calls (a0 : ByteArray) (r1 : List S34) (r2 : Int) (w : World) (h : delta_Copies.f a0 = some (r1, r2)) :
    Calls Try.prog 16 #[.string a0] w fun e w' => ∃ v0_ : Value, e = .returned (.tuple #[v0_, .int .i64 r2]) ∧ Kd.R k34 34 w' w.heap.size (fun _ => True) v0_ r1 ∧ Below w.heap.size w w' := by
  unfold delta_Copies.f at h
  split at h
  · simp only [Option.some.injEq] at h
    have := copies_any a0 w (by assumption)
    rw [h] at this
    exact this
  · cases h
end Go.Proofs.Ytggjkijgbpnhiaa.Hand
