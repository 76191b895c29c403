/- (*delta.reader).pieces, by hand: what it calls is a hypothesis. -/
import Derived.Test.YtggjkijgbpnhiaaDlRd
import Derived.StillTailTactics
namespace Go.Proofs.Ytggjkijgbpnhiaa.Hand
open Go.RowKit Go.Proofs.YtggjkijgbpnhiaaW.PrintWords Go.Proofs.YtggjkijgbpnhiaaW.PrintLast Go.Proofs.YtggjkijgbpnhiaaW.PrintMore
open Go.Proofs.Ytggjkijgbpnhiaa.PDl
set_option linter.unusedVariables false
set_option linter.unusedSimpArgs false

def failS (e x : Int) (so : Bool) : Int := if so = true ∧ e = 0 then x else e
abbrev Pc := Bool × Int × Int
/-- One piece: the error, the place behind it, the piece. -/
def pcX (s : ByteArray) (base told p came : Int) : Int × Int × Pc :=
  if (numS s p 0).1 % 2 = 1 then
    (failS (failS (numS s (numS s p 0).2.1 (failS (numS s p 0).2.2 2 (decide ((numS s p 0).1 / 2 = 0)))).2.2 40
        (decide ((numS s (numS s p 0).2.1 (failS (numS s p 0).2.2 2 (decide ((numS s p 0).1 / 2 = 0)))).1 > base ∨ (numS s p 0).1 / 2 > base - min (numS s (numS s p 0).2.1 (failS (numS s p 0).2.2 2 (decide ((numS s p 0).1 / 2 = 0)))).1 base))) 2
        (decide ((numS s p 0).1 / 2 > told - came)),
     (numS s (numS s p 0).2.1 (failS (numS s p 0).2.2 2 (decide ((numS s p 0).1 / 2 = 0)))).2.1,
     true, min (numS s (numS s p 0).2.1 (failS (numS s p 0).2.2 2 (decide ((numS s p 0).1 / 2 = 0)))).1 base, (numS s p 0).1 / 2)
  else
    (failS (failS (failS (numS s p 0).2.2 2 (decide ((numS s p 0).1 / 2 = 0 ∨ (numS s p 0).1 / 2 > 1024))) 2 (decide ((numS s p 0).1 / 2 > told - came))) 3 (decide ((numS s p 0).1 / 2 > (s.size : Int) - (numS s p 0).2.1)),
     (numS s p 0).2.1 + (numS s p 0).1 / 2, false, (numS s p 0).2.1, (numS s p 0).1 / 2)
def pcsQ (s : ByteArray) (base told : Int) : Nat → Int → Int → List Pc → Int × List Pc
  | 0, _, _, acc => (0, acc)
  | d + 1, p, came, acc => if came < told then
      (if (pcX s base told p came).1 = 0 then pcsQ s base told d (pcX s base told p came).2.1 (came + (pcX s base told p came).2.2.2.2) (acc ++ [(pcX s base told p came).2.2]) else ((pcX s base told p came).1, acc))
    else (if p < s.size then 2 else 0, acc)

theorem numS_ok (s : ByteArray) (p e : Int) (h0 : 0 ≤ p) (h1 : p ≤ s.size) : 0 ≤ (numS s p e).1 ∧ (numS s p e).1 < 18446744073709551616 ∧ 0 ≤ (numS s p e).2.1 ∧ (numS s p e).2.1 ≤ s.size ∧ (e = 0 → (numS s p e).2.2 = 0 → p < (numS s p e).2.1) ∧ (e ≠ 0 → (numS s p e).2.2 = e) := by
  unfold numS
  by_cases he : e = 0
  · subst he
    rcases takeS_cases s p with h | ⟨x, h, hx1, hx2⟩
    · obtain ⟨n, q, z, hr⟩ : ∃ n q z, takeS s p = (n, q, z) := ⟨_, _, _, rfl⟩
      rw [hr] at h ⊢
      simp only at h
      subst h
      obtain ⟨a1, a2, a3, a4, a5, a6⟩ := takeS_ok hr
      have hv := vb_length_pos 9 n
      rw [← a6, bytesOf_length, ByteArray.size_extract] at hv
      simp only [if_true]
      exact ⟨a4, a5, by omega, a3, fun _ _ => by omega, fun h => absurd rfl h⟩
    · rw [h]
      simp only [if_true]
      rw [if_neg (by omega)]
      exact ⟨by simp, by simp, h0, h1, fun _ h => absurd h (by simp; omega), fun h => absurd rfl h⟩
  · rw [if_neg he]
    exact ⟨by simp, by simp, h0, h1, fun h => absurd h he, fun _ => rfl⟩

/-- A piece in memory: block b. -/
def PcB (w : World) (b : Nat) (c : Bool) (a n : Int) : Prop := w.heap[b]? = some (.cells #[.bool c, .int .i64 a, .int .i64 n] 61 (0, 0))
section
variable {w w' : World} {b g : Nat} {c : Bool} {a n p e : Int} {s : ByteArray}
theorem PcB.c0 (h : PcB w b c a n) : w.cell? ⟨b, 0, none⟩ = some (.bool c) := by unfold PcB at h; simp [World.cell?, h]
theorem PcB.c1 (h : PcB w b c a n) : w.cell? ⟨b, 1, none⟩ = some (.int .i64 a) := by unfold PcB at h; simp [World.cell?, h]
theorem PcB.c2 (h : PcB w b c a n) : w.cell? ⟨b, 2, none⟩ = some (.int .i64 n) := by unfold PcB at h; simp [World.cell?, h]
theorem PcB.fr (h : PcB w b c a n) (j : Nat) : w.frozen? ⟨b, j, none⟩ = false := by unfold PcB at h; simp [World.frozen?, h]
theorem PcB.new (w : World) (c : Bool) (a n : Int) : PcB (w.alloc (.cells #[.bool c, .int .i64 a, .int .i64 n] 61)) w.heap.size c a n := heap_alloc_new _ _
theorem PcB.set1 (h : PcB w b c a n) (q : Int) : PcB (w.setCell ⟨b, 1, none⟩ (.int .i64 q)) b c q n := by
  have hlt := lt_of_block h
  unfold PcB at *
  show (w.heap.modify b _)[b]? = _
  rw [Array.getElem?_eq_getElem (by simpa using hlt), Array.getElem_modify_self]
  rw [Array.getElem?_eq_getElem hlt] at h
  simp only [Option.some.injEq] at h
  rw [h]; simp
theorem PcB.set2 (h : PcB w b c a n) (q : Int) : PcB (w.setCell ⟨b, 2, none⟩ (.int .i64 q)) b c a q := by
  have hlt := lt_of_block h
  unfold PcB at *
  show (w.heap.modify b _)[b]? = _
  rw [Array.getElem?_eq_getElem (by simpa using hlt), Array.getElem_modify_self]
  rw [Array.getElem?_eq_getElem hlt] at h
  simp only [Option.some.injEq] at h
  rw [h]; simp
theorem PcB.lone (h : PcB w b c a n) (hL : Lone w w' g) (hne : b ≠ g) : PcB w' b c a n := hL.block h hne
theorem PcB.rdSet (h : PcB w b c a n) (hne : b ≠ g) (j : Nat) (u : Value) : PcB (w.setCell ⟨g, j, none⟩ u) b c a n := (Below.heap_setCell _ _ _ _ hne).trans h
theorem Rd.alloc (h : Rd w g s p e) (o : Obj) : Rd (w.alloc o) g s p e := (Below.heap_alloc _ _ _ h.lt).trans h
theorem Rd.other (h : Rd w g s p e) (hne : g ≠ b) (j : Nat) (u : Value) : Rd (w.setCell ⟨b, j, none⟩ u) g s p e := (Below.heap_setCell _ _ _ _ hne).trans h
theorem fail_to (x e' : Int) (so : Bool) (he : failS e x so = e') (hs : Rd w g s p e) :
    Calls Try.prog 29 #[.pointer (some ⟨g, 0, none⟩), .int .i64 x, .bool so] w fun y w' => y = .returned (.tuple #[]) ∧ Rd w' g s p e' ∧ Lone w w' g := by
  subst he; exact fail_any g s p e x so w hs
theorem fail_keep (x : Int) (so : Bool) (he : e ≠ 0) (hs : Rd w g s p e) :
    Calls Try.prog 29 #[.pointer (some ⟨g, 0, none⟩), .int .i64 x, .bool so] w fun y w' => y = .returned (.tuple #[]) ∧ Rd w' g s p e ∧ Lone w w' g :=
  fail_to x e so (by unfold failS; rw [if_neg (fun h => he h.2)]) hs
theorem fail_zero (x : Int) (hs : Rd w g s p 0) :
    Calls Try.prog 29 #[.pointer (some ⟨g, 0, none⟩), .int .i64 x, .bool false] w fun y w' => y = .returned (.tuple #[]) ∧ Rd w' g s p 0 ∧ Lone w w' g :=
  fail_to x 0 false (by unfold failS; simp) hs
theorem fail_first (x : Int) (hs : Rd w g s p 0) :
    Calls Try.prog 29 #[.pointer (some ⟨g, 0, none⟩), .int .i64 x, .bool true] w fun y w' => y = .returned (.tuple #[]) ∧ Rd w' g s p x ∧ Lone w w' g :=
  fail_to x x true (by unfold failS; simp) hs
end
/-- Nothing that was has turned, but block g. -/
def Stp (B : Nat) (w w' : World) (g : Nat) : Prop := Kept w w' (fun b => b = g) ∧ Below B w w'
section
variable {B g b : Nat} {w w' w'' : World}
theorem Stp.of (h : Lone w w' g) (hB : B ≤ g) : Stp B w w' g := ⟨h.1, h.2.mono hB⟩
theorem Stp.lone (h : Stp B w w' g) (k : Lone w' w'' g) (hB : B ≤ g) : Stp B w w'' g := ⟨h.1.then_ k.1 (fun b hb => Or.inl hb), h.2.trans (k.2.mono hB)⟩
theorem Stp.alloc (h : Stp B w w' g) (hB : B ≤ w.heap.size) (o : Obj) : Stp B w (w'.alloc o) g := ⟨h.1.alloc o, h.2.alloc (by have := h.1.1; omega) o⟩
theorem Stp.drew (h : Stp B w w' g) : Stp B w w'.drew g := ⟨h.1.drew, h.2.drew⟩
theorem Stp.set (h : Stp B w w' g) (hb : b = g ∨ w.heap.size ≤ b) (hB : B ≤ b) (j : Nat) (u : Value) : Stp B w (w'.setCell ⟨b, j, none⟩ u) g := ⟨h.1.setCell hb u, h.2.setCell hB u⟩
end
theorem fail_true (e x : Int) : failS e x true = if e = 0 then x else e := by unfold failS; simp
theorem fail_false (e x : Int) : failS e x false = e := by unfold failS; simp
theorem fail_err (e x : Int) (so : Bool) (h : e ≠ 0) : failS e x so = e := by unfold failS; rw [if_neg (fun k => h k.2)]
theorem run_enter {P : Program} {f : FuncId} {fn : Func} {c : Code} (hf : P.funcs[f]? = some fn) (hname : (fn.name == "runtime.NumGoroutine") = false) (hb : fn.body = some c) (args : Array Value) (w : World) :
    (callFunc f args).run P w = .ok (.enter f args) w := by
  have h1 : fn.name ≠ "runtime.NumGoroutine" := by simpa using hname
  simp [callFunc, hf, h1, hb]
/-- What is called with each piece: I holds of the world and of the pieces so far. -/
structure Does (B g : Nat) (s : ByteArray) (base told : Int) (f : FuncId) (caps : Array Value) (I : World → List Pc → Prop) : Prop where
  entered : ∀ args w, (callFunc f args).run Try.prog w = .ok (.enter f args) w
  keep : ∀ W W' l, I W l → Kept W W' (fun b => b = g) → I W' l
  does : ∀ W l c a n p e, I W l → Rd W g s p e → 0 ≤ a → 1 ≤ n → (c = true → a + n ≤ base) → (c = false → a + n ≤ s.size) → (l.map (·.2.2)).sum + n ≤ told →
    Calls Try.prog f (#[.agg #[.bool c, .int .i64 a, .int .i64 n]] ++ caps) W fun x W' => x = .returned (.tuple #[]) ∧ I W' (l ++ [(c, a, n)]) ∧ Rd W' g s p e ∧ Below B W W'

def PcRel (w : World) (B g : Nat) (s : ByteArray) (base told : Int) (I : World → List Pc → Prop) (R : Int × List Pc) (cv : Value) (wr : World) : Prop :=
  ∃ (p came : Int) (acc : List Pc) (d : Nat), cv = .int .i64 came ∧ 0 ≤ p ∧ p ≤ s.size ∧ 0 ≤ came ∧ came ≤ told ∧ told - came < d ∧ (acc.map (·.2.2)).sum = came ∧ pcsQ s base told d p came acc = R ∧ Rd wr g s p 0 ∧ I wr acc ∧ Below B w wr
def PcEnd (w : World) (B g : Nat) (s : ByteArray) (I : World → List Pc → Prop) (R : Int × List Pc) (w' : World) : Prop := (∃ p, Rd w' g s p R.1) ∧ I w' R.2 ∧ Below B w w'

set_option maxHeartbeats 16000000 in
set_option maxRecDepth 100000 in
theorem pieces_any (B g : Nat) (s : ByteArray) (base told p0 : Int) (f : FuncId) (caps : Array Value) (I : World → List Pc → Prop) (w : World) (hz : s.size ≤ 1000000000) (hD : Does B g s base told f caps I) (hs : Rd w g s p0 0) (hI : I w []) (hBg : B ≤ g) (hp0 : 0 ≤ p0) (hp1 : p0 ≤ s.size)
    (hb0 : 0 ≤ base) (hb1 : base ≤ 1000000000) (ht0 : 0 ≤ told) (ht1 : told ≤ 1000000000) :
    Calls Try.prog 30 #[.pointer (some ⟨g, 0, none⟩), .int .i64 base, .int .i64 told, .func (.func f) #[] caps] w fun x w' => x = .returned (.tuple #[]) ∧ PcEnd w B g s I (pcsQ s base told (told.toNat + 1) p0 0 []) w' := by
  have hstart : PcRel w B g s base told I (pcsQ s base told (told.toNat + 1) p0 0 []) (.int .i64 0) w := ⟨p0, 0, [], told.toNat + 1, rfl, hp0, hp1, by omega, by omega, by omega, rfl, rfl, hs, hI, Below.refl _ _⟩
  have HS := Lib.hid hstart
  generalize hR : pcsQ s base told (told.toNat + 1) p0 0 [] = R at *
  have HD := Lib.hid hD
  clear hstart hD hs hI hR
  go_enter Try.func30, Try.ntmps30
  go_wp2
  go_loopw [8] (fun cv wr => PcRel w B g s base told I R cv wr) (fun cv _ => (told - intOf cv).toNat)
  case atStart => exact HS.out
  case round =>
    obtain ⟨p, came, acc, d, rfl, hp0, hp1, hc0, hc1, hd, hsum, hQ, hs, hI, hB⟩ := hrel
    have HQ := Lib.hid hQ
    have HSum := Lib.hid hsum
    have HI := Lib.hid hI
    clear HS hQ hsum hI
    have c2 := hs.c2
    by_cases hlt : came < told
    · obtain ⟨d, rfl⟩ : ∃ m, d = m + 1 := ⟨d - 1, by omega⟩
      obtain ⟨k1, k2, k3, k4, k5, k6⟩ := numS_ok s p 0 hp0 hp1
      obtain ⟨x, p1, e1, hx⟩ : ∃ x p1 e1, numS s p 0 = (x, p1, e1) := ⟨_, _, _, rfl⟩
      rw [hx] at k1 k2 k3 k4 k5
      simp only at k1 k2 k3 k4 k5
      have hn1 := fun W => num_any g s p 0 W
      rw [hx] at hn1
      have HN1 := Lib.hid hn1
      have HX := Lib.hid hx
      clear hn1 hx k5 k6
      by_cases cp : x % 2 = 1
      · have cpb : (x % 2 == 1) = true := by simpa using cp
        have hu1 : (0 : Int) ≤ told - came := by omega
        obtain rfl : e1 = 0 := by
          by_cases h : e1 = 0
          · exact h
          · exfalso
            have hh := HX.out
            unfold numS at hh
            rw [if_pos rfl] at hh
            split at hh <;> simp only [Prod.mk.injEq] at hh <;> omega
        obtain ⟨j1, j2, j3, j4, j5, j6⟩ := numS_ok s p1 0 k3 k4
        obtain ⟨a, p2, e3, hx2⟩ : ∃ a p2 e3, numS s p1 0 = (a, p2, e3) := ⟨_, _, _, rfl⟩
        rw [hx2] at j1 j2 j3 j4
        simp only at j1 j2 j3 j4
        clear j5 j6
        have hn2 := fun W => num_any g s p1 0 W
        rw [hx2] at hn2
        have HN2 := Lib.hid hn2
        have HX2 := Lib.hid hx2
        clear hn2 hx2
        by_cases z : x / 2 = 0
        · have zb : (x / 2 == 0) = true := by simpa using z
          have ab : decide (base < 0) = false := by simp; omega
          have hn0 : numS s p1 2 = (0, p1, 2) := by unfold numS; rw [if_neg (by omega)]
          have hf : (pcX s base told p came).1 = 2 := by
            unfold pcX
            rw [HX.out]
            simp only
            rw [if_pos cp, decide_eq_true z, fail_true, if_pos rfl, hn0]
            simp only
            rw [fail_err 2 40 _ (by omega), fail_err 2 2 _ (by omega)]
          have hne : (2 : Int) ≠ 0 := by omega
          have hn3 := fun W => num_any g s p1 2 W
          rw [hn0] at hn3
          have HN3 := Lib.hid hn3
          clear hn3 hn0 z j1 j2 j3 j4
          have hfin : (pcsQ s base told (d + 1) p came acc) = (2, acc) := by rw [pcsQ, if_pos hlt, hf, if_neg hne]
          rw [HQ.out] at hfin
          have HF := Lib.hid hfin
          clear hfin hf HQ
          go_wp2_with fail
          refine (HN1.out _ hs hz).mono ?_
          rintro y w1 ⟨rfl, hs1, hL1⟩
          have hgb : g < w1.heap.size := hs1.lt
          have hK := Stp.of hL1 hBg
          have hgw : wr.heap.size ≤ w1.heap.size := hL1.size
          have hBb : B ≤ wr.heap.size := Nat.le_trans hBg (Nat.le_of_lt hs.lt)
          have hPb := PcB.new w1 true 0 0
          have hs1' := hs1.alloc (.cells #[.bool true, .int .i64 0, .int .i64 0] 61)
          have hK := hK.alloc hBb (.cells #[.bool true, .int .i64 0, .int .i64 0] 61)
          clear hs c2 hL1 hs1
          go_wp2_with fail
          refine (fail_first 2 hs1').mono ?_
          rintro y w2 ⟨rfl, hs2, hLw2⟩
          have hP2 := hPb.lone hLw2 (by omega)
          have hK := hK.lone hLw2 hBg
          clear hPb hLw2 hs1'
          generalize w1.heap.size = b at *
          have a0 := hP2.c0
          go_wp2_with fail
          refine (HN3.out _ hs2 hz).mono ?_
          rintro y w3 ⟨rfl, hs3, hLw3⟩
          have hP3 := hP2.lone hLw3 (by omega)
          have hK := hK.lone hLw3 hBg
          clear hP2 hLw3 hs2 a0
          go_wp2_with fail
          refine (fail_keep 40 _ hne hs3).mono ?_
          rintro y w4 ⟨rfl, hs4, hLw4⟩
          have hP4 := hP3.lone hLw4 (by omega)
          have hK := hK.lone hLw4 hBg
          clear hP3 hLw4 hs3
          have a1 := hP4.c1
          have af := hP4.fr 1
          have hs4' := hs4.other (show g ≠ b by omega) 1 (.int .i64 0)
          have hP4' := hP4.set1 0
          have hK := hK.set (Or.inr hgw) (by omega) 1 (.int .i64 0)
          clear hP4 hs4
          go_wp2_with fail
          refine (fail_keep 2 _ hne hs4').mono ?_
          rintro y w5 ⟨rfl, hs5, hLw5⟩
          have hP5 := hP4'.lone hLw5 (by omega)
          have hK := hK.lone hLw5 hBg
          clear hP4' hLw5 hs4'
          clear a1 af
          have a0 := hP5.c0
          have r0 := hs5.c0
          have r1 := hs5.c1
          go_wp2
          refine wp_region_still_tail 20 (by kernel_rfl) (by kernel_rfl) ?_
          simp only [List.take_succ_cons, List.take_zero, List.drop_succ_cons, List.drop_zero]
          repeat ((with_reducible refine wpStill_step (fun K hK => ?_)); go_simp; (with_reducible refine hK _ ?_); clear hK K)
          (with_reducible refine wpStill_nil ?_)
          change wpList _ _ _ _ _ w5.drew
          have hs6 : Rd w5.drew g s p1 2 := hs5
          have hK := hK.drew
          have hP6 : PcB w5.drew b true 0 0 := hP5
          clear a0 r0 r1 hs5 hP5
          generalize w5.drew = w6 at *
          have a0 := hP6.c0
          have r0 := hs6.c0
          have r1 := hs6.c1
          go_wp2_with fail
          refine (fail_keep 3 _ hne hs6).mono ?_
          rintro y w7 ⟨rfl, hs7, hLw7⟩
          have hP7 := hP6.lone hLw7 (by omega)
          have hK := hK.lone hLw7 hBg
          clear hP6 hLw7 hs6
          have r2 := hs7.c2
          go_wp2
          (try simp only [Exit.inBlock, Exit.then]); refine bodyPost_ret (results_none rfl _ _ _) rfl ?_
          refine ⟨rfl, ?_⟩
          rw [HF.out]
          exact ⟨⟨_, hs7⟩, HD.out.keep _ _ _ HI.out hK.1, hB.trans hK.2⟩
        · have zb : (x / 2 == 0) = false := by simpa using z
          have hpc : pcX s base told p came = (failS (failS e3 40 (decide (a > base ∨ x / 2 > base - min a base))) 2 (decide (x / 2 > told - came)), p2, true, min a base, x / 2) := by
            unfold pcX
            rw [HX.out]
            simp only
            rw [if_pos cp, decide_eq_false z, fail_false, HX2.out]
          have hn0 : 0 ≤ x / 2 := by omega
          have hn1 : 1 ≤ x / 2 := by omega
          by_cases he3 : e3 = 0
          · subst he3
            by_cases hA : a > base
            · have ab : decide (base < a) = true := by simp; omega
              have hgt : base < a := hA
              have hf : (pcX s base told p came).1 = 40 := by rw [hpc]; simp only; rw [decide_eq_true (Or.inl hA), fail_true, if_pos rfl, fail_err _ _ _ (by omega)]
              have hne : (40 : Int) ≠ 0 := by omega
              clear hA z hpc
              have hfin : (pcsQ s base told (d + 1) p came acc) = (40, acc) := by rw [pcsQ, if_pos hlt, hf, if_neg hne]
              rw [HQ.out] at hfin
              have HF := Lib.hid hfin
              clear hfin hf HQ
              go_wp2_with fail
              refine (HN1.out _ hs hz).mono ?_
              rintro y w1 ⟨rfl, hs1, hL1⟩
              have hgb : g < w1.heap.size := hs1.lt
              have hK := Stp.of hL1 hBg
              have hgw : wr.heap.size ≤ w1.heap.size := hL1.size
              have hBb : B ≤ wr.heap.size := Nat.le_trans hBg (Nat.le_of_lt hs.lt)
              have hPb := PcB.new w1 true 0 0
              have hs1' := hs1.alloc (.cells #[.bool true, .int .i64 0, .int .i64 0] 61)
              have hK := hK.alloc hBb (.cells #[.bool true, .int .i64 0, .int .i64 0] 61)
              clear hs c2 hL1 hs1
              go_wp2_with fail
              refine (fail_zero 2 hs1').mono ?_
              rintro y w2 ⟨rfl, hs2, hLw2⟩
              have hP2 := hPb.lone hLw2 (by omega)
              have hK := hK.lone hLw2 hBg
              clear hPb hLw2 hs1'
              generalize w1.heap.size = b at *
              have a0 := hP2.c0
              go_wp2_with fail
              refine (HN2.out _ hs2 hz).mono ?_
              rintro y w3 ⟨rfl, hs3, hLw3⟩
              have hP3 := hP2.lone hLw3 (by omega)
              have hK := hK.lone hLw3 hBg
              clear hP2 hLw3 hs2 a0
              go_wp2_with fail
              refine (fail_first 40 hs3).mono ?_
              rintro y w4 ⟨rfl, hs4, hLw4⟩
              have hP4 := hP3.lone hLw4 (by omega)
              have hK := hK.lone hLw4 hBg
              clear hP3 hLw4 hs3
              have a1 := hP4.c1
              have af := hP4.fr 1
              have hs4' := hs4.other (show g ≠ b by omega) 1 (.int .i64 base)
              have hP4' := hP4.set1 base
              have hK := hK.set (Or.inr hgw) (by omega) 1 (.int .i64 base)
              clear hP4 hs4
              go_wp2_with fail
              refine (fail_keep 2 _ hne hs4').mono ?_
              rintro y w5 ⟨rfl, hs5, hLw5⟩
              have hP5 := hP4'.lone hLw5 (by omega)
              have hK := hK.lone hLw5 hBg
              clear hP4' hLw5 hs4'
              clear a1 af
              have a0 := hP5.c0
              have r0 := hs5.c0
              have r1 := hs5.c1
              go_wp2
              refine wp_region_still_tail 20 (by kernel_rfl) (by kernel_rfl) ?_
              simp only [List.take_succ_cons, List.take_zero, List.drop_succ_cons, List.drop_zero]
              repeat ((with_reducible refine wpStill_step (fun K hK => ?_)); go_simp; (with_reducible refine hK _ ?_); clear hK K)
              (with_reducible refine wpStill_nil ?_)
              change wpList _ _ _ _ _ w5.drew
              have hs6 : Rd w5.drew g s p2 40 := hs5
              have hK := hK.drew
              have hP6 : PcB w5.drew b true base 0 := hP5
              clear a0 r0 r1 hs5 hP5
              generalize w5.drew = w6 at *
              have a0 := hP6.c0
              have r0 := hs6.c0
              have r1 := hs6.c1
              go_wp2_with fail
              refine (fail_keep 3 _ hne hs6).mono ?_
              rintro y w7 ⟨rfl, hs7, hLw7⟩
              have hP7 := hP6.lone hLw7 (by omega)
              have hK := hK.lone hLw7 hBg
              clear hP6 hLw7 hs6
              have r2 := hs7.c2
              go_wp2
              (try simp only [Exit.inBlock, Exit.then]); refine bodyPost_ret (results_none rfl _ _ _) rfl ?_
              refine ⟨rfl, ?_⟩
              rw [HF.out]
              exact ⟨⟨_, hs7⟩, HD.out.keep _ _ _ HI.out hK.1, hB.trans hK.2⟩
            · have ab : decide (base < a) = false := by simp; omega
              have hle : a ≤ base := by omega
              have hle2 : ¬ base < a := by omega
              by_cases hA2 : x / 2 > base - a
              · have tb : decide (base - a < x / 2) = true := decide_eq_true hA2
                have hf : (pcX s base told p came).1 = 40 := by rw [hpc]; simp only; rw [decide_eq_true (Or.inr (by omega)), fail_true, if_pos rfl, fail_err _ _ _ (by omega)]
                have hne : (40 : Int) ≠ 0 := by omega
                have TB := Lib.hid tb
                clear hA hA2 z hpc tb
                have hfin : (pcsQ s base told (d + 1) p came acc) = (40, acc) := by rw [pcsQ, if_pos hlt, hf, if_neg hne]
                rw [HQ.out] at hfin
                have HF := Lib.hid hfin
                clear hfin hf HQ
                go_wp2_with fail
                refine (HN1.out _ hs hz).mono ?_
                rintro y w1 ⟨rfl, hs1, hL1⟩
                have hgb : g < w1.heap.size := hs1.lt
                have hK := Stp.of hL1 hBg
                have hgw : wr.heap.size ≤ w1.heap.size := hL1.size
                have hBb : B ≤ wr.heap.size := Nat.le_trans hBg (Nat.le_of_lt hs.lt)
                have hPb := PcB.new w1 true 0 0
                have hs1' := hs1.alloc (.cells #[.bool true, .int .i64 0, .int .i64 0] 61)
                have hK := hK.alloc hBb (.cells #[.bool true, .int .i64 0, .int .i64 0] 61)
                clear hs c2 hL1 hs1
                go_wp2_with fail
                refine (fail_zero 2 hs1').mono ?_
                rintro y w2 ⟨rfl, hs2, hLw2⟩
                have hP2 := hPb.lone hLw2 (by omega)
                have hK := hK.lone hLw2 hBg
                clear hPb hLw2 hs1'
                generalize w1.heap.size = b at *
                have a0 := hP2.c0
                go_wp2_with fail
                refine (HN2.out _ hs2 hz).mono ?_
                rintro y w3 ⟨rfl, hs3, hLw3⟩
                have hP3 := hP2.lone hLw3 (by omega)
                have hK := hK.lone hLw3 hBg
                clear hP2 hLw3 hs2 a0
                go_wp2_with fail
                rw [TB.out]
                refine (fail_first 40 hs3).mono ?_
                rintro y w4 ⟨rfl, hs4, hLw4⟩
                have hP4 := hP3.lone hLw4 (by omega)
                have hK := hK.lone hLw4 hBg
                clear hP3 hLw4 hs3
                have a1 := hP4.c1
                have af := hP4.fr 1
                have hs4' := hs4.other (show g ≠ b by omega) 1 (.int .i64 a)
                have hP4' := hP4.set1 a
                have hK := hK.set (Or.inr hgw) (by omega) 1 (.int .i64 a)
                clear hP4 hs4
                go_wp2_with fail
                refine (fail_keep 2 _ hne hs4').mono ?_
                rintro y w5 ⟨rfl, hs5, hLw5⟩
                have hP5 := hP4'.lone hLw5 (by omega)
                have hK := hK.lone hLw5 hBg
                clear hP4' hLw5 hs4'
                clear a1 af
                have a0 := hP5.c0
                have r0 := hs5.c0
                have r1 := hs5.c1
                go_wp2
                refine wp_region_still_tail 20 (by kernel_rfl) (by kernel_rfl) ?_
                simp only [List.take_succ_cons, List.take_zero, List.drop_succ_cons, List.drop_zero]
                repeat ((with_reducible refine wpStill_step (fun K hK => ?_)); go_simp; (with_reducible refine hK _ ?_); clear hK K)
                (with_reducible refine wpStill_nil ?_)
                change wpList _ _ _ _ _ w5.drew
                have hs6 : Rd w5.drew g s p2 40 := hs5
                have hK := hK.drew
                have hP6 : PcB w5.drew b true a 0 := hP5
                clear a0 r0 r1 hs5 hP5
                generalize w5.drew = w6 at *
                have a0 := hP6.c0
                have r0 := hs6.c0
                have r1 := hs6.c1
                go_wp2_with fail
                refine (fail_keep 3 _ hne hs6).mono ?_
                rintro y w7 ⟨rfl, hs7, hLw7⟩
                have hP7 := hP6.lone hLw7 (by omega)
                have hK := hK.lone hLw7 hBg
                clear hP6 hLw7 hs6
                have r2 := hs7.c2
                go_wp2
                (try simp only [Exit.inBlock, Exit.then]); refine bodyPost_ret (results_none rfl _ _ _) rfl ?_
                refine ⟨rfl, ?_⟩
                rw [HF.out]
                exact ⟨⟨_, hs7⟩, HD.out.keep _ _ _ HI.out hK.1, hB.trans hK.2⟩
              · have tb : decide (base - a < x / 2) = false := decide_eq_false hA2
                have TB := Lib.hid tb
                clear tb
                rw [decide_eq_false (by omega), fail_false, Int.min_eq_left (by omega)] at hpc
                by_cases hT : x / 2 > told - came
                · have ub : decide (told - came < x / 2) = true := decide_eq_true hT
                  have hf : (pcX s base told p came).1 = 2 := by rw [hpc]; simp only; rw [decide_eq_true hT, fail_true, if_pos rfl]
                  have hne : (2 : Int) ≠ 0 := by omega
                  have UB := Lib.hid ub
                  clear hA hA2 z hpc hT ub
                  have hfin : (pcsQ s base told (d + 1) p came acc) = (2, acc) := by rw [pcsQ, if_pos hlt, hf, if_neg hne]
                  rw [HQ.out] at hfin
                  have HF := Lib.hid hfin
                  clear hfin hf HQ
                  go_wp2_with fail
                  refine (HN1.out _ hs hz).mono ?_
                  rintro y w1 ⟨rfl, hs1, hL1⟩
                  have hgb : g < w1.heap.size := hs1.lt
                  have hK := Stp.of hL1 hBg
                  have hgw : wr.heap.size ≤ w1.heap.size := hL1.size
                  have hBb : B ≤ wr.heap.size := Nat.le_trans hBg (Nat.le_of_lt hs.lt)
                  have hPb := PcB.new w1 true 0 0
                  have hs1' := hs1.alloc (.cells #[.bool true, .int .i64 0, .int .i64 0] 61)
                  have hK := hK.alloc hBb (.cells #[.bool true, .int .i64 0, .int .i64 0] 61)
                  clear hs c2 hL1 hs1
                  go_wp2_with fail
                  refine (fail_zero 2 hs1').mono ?_
                  rintro y w2 ⟨rfl, hs2, hLw2⟩
                  have hP2 := hPb.lone hLw2 (by omega)
                  have hK := hK.lone hLw2 hBg
                  clear hPb hLw2 hs1'
                  generalize w1.heap.size = b at *
                  have a0 := hP2.c0
                  go_wp2_with fail
                  refine (HN2.out _ hs2 hz).mono ?_
                  rintro y w3 ⟨rfl, hs3, hLw3⟩
                  have hP3 := hP2.lone hLw3 (by omega)
                  have hK := hK.lone hLw3 hBg
                  clear hP2 hLw3 hs2 a0
                  go_wp2_with fail
                  rw [TB.out]
                  refine (fail_zero 40 hs3).mono ?_
                  rintro y w4 ⟨rfl, hs4, hLw4⟩
                  have hP4 := hP3.lone hLw4 (by omega)
                  have hK := hK.lone hLw4 hBg
                  clear hP3 hLw4 hs3
                  have a1 := hP4.c1
                  have af := hP4.fr 1
                  have hs4' := hs4.other (show g ≠ b by omega) 1 (.int .i64 a)
                  have hP4' := hP4.set1 a
                  have hK := hK.set (Or.inr hgw) (by omega) 1 (.int .i64 a)
                  clear hP4 hs4
                  go_wp2_with fail
                  rw [UB.out]
                  refine (fail_first 2 hs4').mono ?_
                  rintro y w5 ⟨rfl, hs5, hLw5⟩
                  have hP5 := hP4'.lone hLw5 (by omega)
                  have hK := hK.lone hLw5 hBg
                  clear hP4' hLw5 hs4'
                  clear a1 af
                  have a0 := hP5.c0
                  have r0 := hs5.c0
                  have r1 := hs5.c1
                  go_wp2
                  refine wp_region_still_tail 20 (by kernel_rfl) (by kernel_rfl) ?_
                  simp only [List.take_succ_cons, List.take_zero, List.drop_succ_cons, List.drop_zero]
                  repeat ((with_reducible refine wpStill_step (fun K hK => ?_)); go_simp; (with_reducible refine hK _ ?_); clear hK K)
                  (with_reducible refine wpStill_nil ?_)
                  change wpList _ _ _ _ _ w5.drew
                  have hs6 : Rd w5.drew g s p2 2 := hs5
                  have hK := hK.drew
                  have hP6 : PcB w5.drew b true a 0 := hP5
                  clear a0 r0 r1 hs5 hP5
                  generalize w5.drew = w6 at *
                  have a0 := hP6.c0
                  have r0 := hs6.c0
                  have r1 := hs6.c1
                  go_wp2_with fail
                  refine (fail_keep 3 _ hne hs6).mono ?_
                  rintro y w7 ⟨rfl, hs7, hLw7⟩
                  have hP7 := hP6.lone hLw7 (by omega)
                  have hK := hK.lone hLw7 hBg
                  clear hP6 hLw7 hs6
                  have r2 := hs7.c2
                  go_wp2
                  (try simp only [Exit.inBlock, Exit.then]); refine bodyPost_ret (results_none rfl _ _ _) rfl ?_
                  refine ⟨rfl, ?_⟩
                  rw [HF.out]
                  exact ⟨⟨_, hs7⟩, HD.out.keep _ _ _ HI.out hK.1, hB.trans hK.2⟩
                · have ub : decide (told - came < x / 2) = false := decide_eq_false hT
                  have UB := Lib.hid ub
                  rw [decide_eq_false hT, fail_false] at hpc
                  have hn2 : a + x / 2 ≤ base := by omega
                  have hQ2 := HQ.out
                  rw [pcsQ, if_pos hlt, hpc, if_pos rfl] at hQ2
                  simp only at hQ2
                  have HQ2 := Lib.hid hQ2
                  have hlt63 : x / 2 ≤ 1000000000 := by omega
                  have hcn : came + x / 2 ≤ told := by omega
                  clear hA hA2 z hpc hQ2 hT ub
                  go_wp2_with fail
                  refine (HN1.out _ hs hz).mono ?_
                  rintro y w1 ⟨rfl, hs1, hL1⟩
                  have hgb : g < w1.heap.size := hs1.lt
                  have hK := Stp.of hL1 hBg
                  have hgw : wr.heap.size ≤ w1.heap.size := hL1.size
                  have hBb : B ≤ wr.heap.size := Nat.le_trans hBg (Nat.le_of_lt hs.lt)
                  have hPb := PcB.new w1 true 0 0
                  have hs1' := hs1.alloc (.cells #[.bool true, .int .i64 0, .int .i64 0] 61)
                  have hK := hK.alloc hBb (.cells #[.bool true, .int .i64 0, .int .i64 0] 61)
                  clear hs c2 hL1 hs1
                  go_wp2_with fail
                  refine (fail_zero 2 hs1').mono ?_
                  rintro y w2 ⟨rfl, hs2, hLw2⟩
                  have hP2 := hPb.lone hLw2 (by omega)
                  have hK := hK.lone hLw2 hBg
                  clear hPb hLw2 hs1'
                  generalize w1.heap.size = b at *
                  have a0 := hP2.c0
                  go_wp2_with fail
                  refine (HN2.out _ hs2 hz).mono ?_
                  rintro y w3 ⟨rfl, hs3, hLw3⟩
                  have hP3 := hP2.lone hLw3 (by omega)
                  have hK := hK.lone hLw3 hBg
                  clear hP2 hLw3 hs2 a0
                  go_wp2_with fail
                  rw [TB.out]
                  refine (fail_zero 40 hs3).mono ?_
                  rintro y w4 ⟨rfl, hs4, hLw4⟩
                  have hP4 := hP3.lone hLw4 (by omega)
                  have hK := hK.lone hLw4 hBg
                  clear hP3 hLw4 hs3
                  have a1 := hP4.c1
                  have af := hP4.fr 1
                  have hs4' := hs4.other (show g ≠ b by omega) 1 (.int .i64 a)
                  have hP4' := hP4.set1 a
                  have hK := hK.set (Or.inr hgw) (by omega) 1 (.int .i64 a)
                  clear hP4 hs4
                  go_wp2_with fail
                  rw [UB.out]
                  refine (fail_zero 2 hs4').mono ?_
                  rintro y w5 ⟨rfl, hs5, hLw5⟩
                  have hP5 := hP4'.lone hLw5 (by omega)
                  have hK := hK.lone hLw5 hBg
                  clear hP4' hLw5 hs4'
                  clear a1 af
                  have a0 := hP5.c0
                  have r0 := hs5.c0
                  have r1 := hs5.c1
                  go_wp2
                  refine wp_region_still_tail 20 (by kernel_rfl) (by kernel_rfl) ?_
                  simp only [List.take_succ_cons, List.take_zero, List.drop_succ_cons, List.drop_zero]
                  repeat ((with_reducible refine wpStill_step (fun K hK => ?_)); go_simp; (with_reducible refine hK _ ?_); clear hK K)
                  (with_reducible refine wpStill_nil ?_)
                  change wpList _ _ _ _ _ w5.drew
                  have hs6 : Rd w5.drew g s p2 0 := hs5
                  have hK := hK.drew
                  have hP6 : PcB w5.drew b true a 0 := hP5
                  clear a0 r0 r1 hs5 hP5
                  generalize w5.drew = w6 at *
                  have a0 := hP6.c0
                  have r0 := hs6.c0
                  have r1 := hs6.c1
                  go_wp2_with fail
                  refine (fail_zero 3 hs6).mono ?_
                  rintro y w7 ⟨rfl, hs7, hLw7⟩
                  have hP7 := hP6.lone hLw7 (by omega)
                  have hK := hK.lone hLw7 hBg
                  clear hP6 hLw7 hs6
                  clear a0 r0 r1
                  have a0 := hP7.c0
                  have a1 := hP7.c1
                  have a2 := hP7.c2
                  have af := hP7.fr 2
                  have r2 := hs7.c2
                  have hs8 := hs7.other (show g ≠ b by omega) 2 (.int .i64 (x / 2))
                  have hP8 := hP7.set2 (x / 2)
                  have hK := hK.set (Or.inr hgw) (by omega) 2 (.int .i64 (x / 2))
                  have hent := HD.out.entered
                  clear hP7 hs7
                  go_wp2_with fail
                  refine (HD.out.does _ acc true a (x / 2) p2 0 (HD.out.keep _ _ _ HI.out hK.1) hs8 j1 hn1 (fun _ => hn2) (by intro h; cases h) (by rw [HSum.out]; exact hcn)).mono ?_
                  rintro y w9 ⟨rfl, hI9, hs9, hB9⟩
                  go_wp2
                  go_roundw
                  case rel => exact ⟨p2, came + x / 2, acc ++ [(true, a, x / 2)], d, rfl, by omega, by omega, by omega, by omega, by omega, by simp [HSum.out], HQ2.out, hs9, hI9, (hB.trans hK.2).trans hB9⟩
                  case measure => simp [intOf]; omega
          · obtain ⟨ha0, hp2⟩ : a = 0 ∧ p2 = p1 := by
              have hh := HX2.out
              unfold numS at hh
              rw [if_pos rfl] at hh
              split at hh
              · simp only [Prod.mk.injEq] at hh; omega
              · simp only [Prod.mk.injEq] at hh; omega
            subst ha0 hp2
            have ab : decide (base < 0) = false := by simp; omega
            have hf : (pcX s base told p came).1 = e3 := by rw [hpc]; simp only; rw [fail_err _ _ _ he3, fail_err _ _ _ he3]
            have hne : e3 ≠ 0 := he3
            have heb : (e3 != 0) = true := by simpa using hne
            clear z hpc he3
            have hfin : (pcsQ s base told (d + 1) p came acc) = (e3, acc) := by rw [pcsQ, if_pos hlt, hf, if_neg hne]
            rw [HQ.out] at hfin
            have HF := Lib.hid hfin
            clear hfin hf HQ
            go_wp2_with fail
            refine (HN1.out _ hs hz).mono ?_
            rintro y w1 ⟨rfl, hs1, hL1⟩
            have hgb : g < w1.heap.size := hs1.lt
            have hK := Stp.of hL1 hBg
            have hgw : wr.heap.size ≤ w1.heap.size := hL1.size
            have hBb : B ≤ wr.heap.size := Nat.le_trans hBg (Nat.le_of_lt hs.lt)
            have hPb := PcB.new w1 true 0 0
            have hs1' := hs1.alloc (.cells #[.bool true, .int .i64 0, .int .i64 0] 61)
            have hK := hK.alloc hBb (.cells #[.bool true, .int .i64 0, .int .i64 0] 61)
            clear hs c2 hL1 hs1
            go_wp2_with fail
            refine (fail_zero 2 hs1').mono ?_
            rintro y w2 ⟨rfl, hs2, hLw2⟩
            have hP2 := hPb.lone hLw2 (by omega)
            have hK := hK.lone hLw2 hBg
            clear hPb hLw2 hs1'
            generalize w1.heap.size = b at *
            have a0 := hP2.c0
            go_wp2_with fail
            refine (HN2.out _ hs2 hz).mono ?_
            rintro y w3 ⟨rfl, hs3, hLw3⟩
            have hP3 := hP2.lone hLw3 (by omega)
            have hK := hK.lone hLw3 hBg
            clear hP2 hLw3 hs2 a0
            go_wp2_with fail
            refine (fail_keep 40 _ hne hs3).mono ?_
            rintro y w4 ⟨rfl, hs4, hLw4⟩
            have hP4 := hP3.lone hLw4 (by omega)
            have hK := hK.lone hLw4 hBg
            clear hP3 hLw4 hs3
            have a1 := hP4.c1
            have af := hP4.fr 1
            have hs4' := hs4.other (show g ≠ b by omega) 1 (.int .i64 0)
            have hP4' := hP4.set1 0
            have hK := hK.set (Or.inr hgw) (by omega) 1 (.int .i64 0)
            clear hP4 hs4
            go_wp2_with fail
            refine (fail_keep 2 _ hne hs4').mono ?_
            rintro y w5 ⟨rfl, hs5, hLw5⟩
            have hP5 := hP4'.lone hLw5 (by omega)
            have hK := hK.lone hLw5 hBg
            clear hP4' hLw5 hs4'
            clear a1 af
            have a0 := hP5.c0
            have r0 := hs5.c0
            have r1 := hs5.c1
            go_wp2
            refine wp_region_still_tail 20 (by kernel_rfl) (by kernel_rfl) ?_
            simp only [List.take_succ_cons, List.take_zero, List.drop_succ_cons, List.drop_zero]
            repeat ((with_reducible refine wpStill_step (fun K hK => ?_)); go_simp; (with_reducible refine hK _ ?_); clear hK K)
            (with_reducible refine wpStill_nil ?_)
            change wpList _ _ _ _ _ w5.drew
            have hs6 : Rd w5.drew g s p2 e3 := hs5
            have hK := hK.drew
            have hP6 : PcB w5.drew b true 0 0 := hP5
            clear a0 r0 r1 hs5 hP5
            generalize w5.drew = w6 at *
            have a0 := hP6.c0
            have r0 := hs6.c0
            have r1 := hs6.c1
            go_wp2_with fail
            refine (fail_keep 3 _ hne hs6).mono ?_
            rintro y w7 ⟨rfl, hs7, hLw7⟩
            have hP7 := hP6.lone hLw7 (by omega)
            have hK := hK.lone hLw7 hBg
            clear hP6 hLw7 hs6
            have r2 := hs7.c2
            go_wp2
            (try simp only [Exit.inBlock, Exit.then]); refine bodyPost_ret (results_none rfl _ _ _) rfl ?_
            refine ⟨rfl, ?_⟩
            rw [HF.out]
            exact ⟨⟨_, hs7⟩, HD.out.keep _ _ _ HI.out hK.1, hB.trans hK.2⟩
      · have cpb : (x % 2 == 1) = false := by simpa using cp
        have hu1 : (0 : Int) ≤ told - came := by omega
        have hu2 : (0 : Int) ≤ (s.size : Int) - p1 := by omega
        have hpc : pcX s base told p came = (failS (failS (failS e1 2 (decide (x / 2 = 0 ∨ x / 2 > 1024))) 2 (decide (x / 2 > told - came))) 3 (decide (x / 2 > (s.size : Int) - p1)), p1 + x / 2, false, p1, x / 2) := by
          unfold pcX; rw [HX.out, if_neg cp]
        by_cases hF : x / 2 = 0 ∨ x / 2 > 1024
        · obtain ⟨e2, he2⟩ : ∃ e2, failS e1 2 true = e2 := ⟨_, rfl⟩
          have hne : e2 ≠ 0 := by rw [← he2, fail_true]; split <;> omega
          have hf : (pcX s base told p came).1 = e2 := by rw [hpc]; simp only; rw [decide_eq_true hF, he2, fail_err _ _ _ hne, fail_err _ _ _ hne]
          have HE2 := Lib.hid he2
          have heb : (e2 != 0) = true := by simpa using hne
          clear he2 hpc
          have hfin : (pcsQ s base told (d + 1) p came acc) = (e2, acc) := by rw [pcsQ, if_pos hlt, hf, if_neg hne]
          rw [HQ.out] at hfin
          have HF := Lib.hid hfin
          clear hfin hf HQ
          by_cases z : x / 2 = 0
          all_goals
            try have zb : (x / 2 == 0) = true := by simpa using z
            try have zb : (x / 2 == 0) = false := by simpa using z
            try have zc : decide (1024 < x / 2) = true := by simp; omega
            clear z hF
            go_wp2_with fail
            refine (HN1.out _ hs hz).mono ?_
            rintro y w1 ⟨rfl, hs1, hL1⟩
            have hgb : g < w1.heap.size := hs1.lt
            have hK := Stp.of hL1 hBg
            have hgw : wr.heap.size ≤ w1.heap.size := hL1.size
            have hBb : B ≤ wr.heap.size := Nat.le_trans hBg (Nat.le_of_lt hs.lt)
            have hPb := PcB.new w1 false 0 0
            have hs1' := hs1.alloc (.cells #[.bool false, .int .i64 0, .int .i64 0] 61)
            have hK := hK.alloc hBb (.cells #[.bool false, .int .i64 0, .int .i64 0] 61)
            clear hs c2 hL1 hs1
            go_wp2_with fail
            refine (fail_to 2 e2 true HE2.out hs1').mono ?_
            rintro y w2 ⟨rfl, hs2, hLw2⟩
            have hP2 := hPb.lone hLw2 (by omega)
            have hK := hK.lone hLw2 hBg
            clear hPb hLw2 hs1'
            generalize w1.heap.size = b at *
            have a0 := hP2.c0
            have a1 := hP2.c1
            have af := hP2.fr 1
            have r1 := hs2.c1
            have hs2' := hs2.other (show g ≠ b by omega) 1 (.int .i64 p1)
            have hP2' := hP2.set1 p1
            have hK := hK.set (Or.inr hgw) (by omega) 1 (.int .i64 p1)
            clear hP2 hs2
            go_wp2_with fail
            refine (fail_keep 2 _ hne hs2').mono ?_
            rintro y w3 ⟨rfl, hs3, hLw3⟩
            have hP3 := hP2'.lone hLw3 (by omega)
            have hK := hK.lone hLw3 hBg
            clear hP2' hLw3 hs2'
            clear a0 a1 af r1
            have a0 := hP3.c0
            have r0 := hs3.c0
            have r1 := hs3.c1
            go_wp2
            go_still_tail 20, (by kernel_rfl)
            change wpList _ _ _ _ _ w3.drew
            have hs4 : Rd w3.drew g s p1 e2 := hs3
            have hK := hK.drew
            have hP4 : PcB w3.drew b false p1 0 := hP3
            clear a0 r0 r1 hs3 hP3
            generalize w3.drew = w4 at *
            have a0 := hP4.c0
            have r0 := hs4.c0
            have r1 := hs4.c1
            go_wp2_with fail
            refine (fail_keep 3 _ hne hs4).mono ?_
            rintro y w5 ⟨rfl, hs5, hLw5⟩
            have hP5 := hP4.lone hLw5 (by omega)
            have hK := hK.lone hLw5 hBg
            clear hP4 hLw5 hs4
            have r2 := hs5.c2
            go_wp2
            (try simp only [Exit.inBlock, Exit.then]); refine bodyPost_ret (results_none rfl _ _ _) rfl ?_
            refine ⟨rfl, ?_⟩
            rw [HF.out]
            exact ⟨⟨_, hs5⟩, HD.out.keep _ _ _ HI.out hK.1, hB.trans hK.2⟩
        · have z : ¬ x / 2 = 0 := fun h => hF (Or.inl h)
          have zb : (x / 2 == 0) = false := by simpa using z
          have zc : decide (1024 < x / 2) = false := by simp; omega
          obtain rfl : e1 = 0 := by
            by_cases h : e1 = 0
            · exact h
            · exfalso
              have hh := HX.out
              unfold numS at hh
              rw [if_pos rfl] at hh
              split at hh <;> simp only [Prod.mk.injEq] at hh <;> omega
          rw [decide_eq_false hF, fail_false] at hpc
          by_cases hG1 : x / 2 > told - came
          · have hf : (pcX s base told p came).1 = 2 := by rw [hpc]; simp only; rw [decide_eq_true hG1, fail_true, if_pos rfl, fail_err _ _ _ (by omega)]
            have hne : (2 : Int) ≠ 0 := by omega
            have g1b : decide (told - came < x / 2) = true := decide_eq_true hG1
            clear hG1 hF z hpc
            have hfin : (pcsQ s base told (d + 1) p came acc) = (2, acc) := by rw [pcsQ, if_pos hlt, hf, if_neg hne]
            rw [HQ.out] at hfin
            have HF := Lib.hid hfin
            clear hfin hf HQ
            go_wp2_with fail
            refine (HN1.out _ hs hz).mono ?_
            rintro y w1 ⟨rfl, hs1, hL1⟩
            have hgb : g < w1.heap.size := hs1.lt
            have hK := Stp.of hL1 hBg
            have hgw : wr.heap.size ≤ w1.heap.size := hL1.size
            have hBb : B ≤ wr.heap.size := Nat.le_trans hBg (Nat.le_of_lt hs.lt)
            have hPb := PcB.new w1 false 0 0
            have hs1' := hs1.alloc (.cells #[.bool false, .int .i64 0, .int .i64 0] 61)
            have hK := hK.alloc hBb (.cells #[.bool false, .int .i64 0, .int .i64 0] 61)
            clear hs c2 hL1 hs1
            go_wp2_with fail
            refine (fail_zero 2 hs1').mono ?_
            rintro y w2 ⟨rfl, hs2, hLw2⟩
            have hP2 := hPb.lone hLw2 (by omega)
            have hK := hK.lone hLw2 hBg
            clear hPb hLw2 hs1'
            generalize w1.heap.size = b at *
            have a0 := hP2.c0
            have a1 := hP2.c1
            have af := hP2.fr 1
            have r1 := hs2.c1
            have hs2' := hs2.other (show g ≠ b by omega) 1 (.int .i64 p1)
            have hP2' := hP2.set1 p1
            have hK := hK.set (Or.inr hgw) (by omega) 1 (.int .i64 p1)
            clear hP2 hs2
            go_wp2_with fail
            refine (fail_first 2 hs2').mono ?_
            rintro y w3 ⟨rfl, hs3, hLw3⟩
            have hP3 := hP2'.lone hLw3 (by omega)
            have hK := hK.lone hLw3 hBg
            clear hP2' hLw3 hs2'
            clear a0 a1 af r1
            have a0 := hP3.c0
            have r0 := hs3.c0
            have r1 := hs3.c1
            go_wp2
            go_still_tail 20, (by kernel_rfl)
            change wpList _ _ _ _ _ w3.drew
            have hs4 : Rd w3.drew g s p1 2 := hs3
            have hK := hK.drew
            have hP4 : PcB w3.drew b false p1 0 := hP3
            clear a0 r0 r1 hs3 hP3
            generalize w3.drew = w4 at *
            have a0 := hP4.c0
            have r0 := hs4.c0
            have r1 := hs4.c1
            go_wp2_with fail
            refine (fail_keep 3 _ hne hs4).mono ?_
            rintro y w5 ⟨rfl, hs5, hLw5⟩
            have hP5 := hP4.lone hLw5 (by omega)
            have hK := hK.lone hLw5 hBg
            clear hP4 hLw5 hs4
            have r2 := hs5.c2
            go_wp2
            (try simp only [Exit.inBlock, Exit.then]); refine bodyPost_ret (results_none rfl _ _ _) rfl ?_
            refine ⟨rfl, ?_⟩
            rw [HF.out]
            exact ⟨⟨_, hs5⟩, HD.out.keep _ _ _ HI.out hK.1, hB.trans hK.2⟩
          · have g1b : decide (told - came < x / 2) = false := decide_eq_false hG1
            rw [decide_eq_false hG1, fail_false] at hpc
            by_cases hG2 : x / 2 > (s.size : Int) - p1
            · have hf : (pcX s base told p came).1 = 3 := by rw [hpc]; simp only; rw [decide_eq_true hG2, fail_true, if_pos rfl]
              have hne : (3 : Int) ≠ 0 := by omega
              have g2b : decide ((s.size : Int) - p1 < x / 2) = true := decide_eq_true hG2
              clear hG1 hG2 hF z hpc
              have hfin : (pcsQ s base told (d + 1) p came acc) = (3, acc) := by rw [pcsQ, if_pos hlt, hf, if_neg hne]
              rw [HQ.out] at hfin
              have HF := Lib.hid hfin
              clear hfin hf HQ
              go_wp2_with fail
              refine (HN1.out _ hs hz).mono ?_
              rintro y w1 ⟨rfl, hs1, hL1⟩
              have hgb : g < w1.heap.size := hs1.lt
              have hK := Stp.of hL1 hBg
              have hgw : wr.heap.size ≤ w1.heap.size := hL1.size
              have hBb : B ≤ wr.heap.size := Nat.le_trans hBg (Nat.le_of_lt hs.lt)
              have hPb := PcB.new w1 false 0 0
              have hs1' := hs1.alloc (.cells #[.bool false, .int .i64 0, .int .i64 0] 61)
              have hK := hK.alloc hBb (.cells #[.bool false, .int .i64 0, .int .i64 0] 61)
              clear hs c2 hL1 hs1
              go_wp2_with fail
              refine (fail_zero 2 hs1').mono ?_
              rintro y w2 ⟨rfl, hs2, hLw2⟩
              have hP2 := hPb.lone hLw2 (by omega)
              have hK := hK.lone hLw2 hBg
              clear hPb hLw2 hs1'
              generalize w1.heap.size = b at *
              have a0 := hP2.c0
              have a1 := hP2.c1
              have af := hP2.fr 1
              have r1 := hs2.c1
              have hs2' := hs2.other (show g ≠ b by omega) 1 (.int .i64 p1)
              have hP2' := hP2.set1 p1
              have hK := hK.set (Or.inr hgw) (by omega) 1 (.int .i64 p1)
              clear hP2 hs2
              go_wp2_with fail
              refine (fail_zero 2 hs2').mono ?_
              rintro y w3 ⟨rfl, hs3, hLw3⟩
              have hP3 := hP2'.lone hLw3 (by omega)
              have hK := hK.lone hLw3 hBg
              clear hP2' hLw3 hs2'
              clear a0 a1 af r1
              have a0 := hP3.c0
              have r0 := hs3.c0
              have r1 := hs3.c1
              go_wp2
              go_still_tail 20, (by kernel_rfl)
              change wpList _ _ _ _ _ w3.drew
              have hs4 : Rd w3.drew g s p1 0 := hs3
              have hK := hK.drew
              have hP4 : PcB w3.drew b false p1 0 := hP3
              clear a0 r0 r1 hs3 hP3
              generalize w3.drew = w4 at *
              have a0 := hP4.c0
              have r0 := hs4.c0
              have r1 := hs4.c1
              go_wp2_with fail
              rw [g2b]
              refine (fail_first 3 hs4).mono ?_
              rintro y w5 ⟨rfl, hs5, hLw5⟩
              have hP5 := hP4.lone hLw5 (by omega)
              have hK := hK.lone hLw5 hBg
              clear hP4 hLw5 hs4
              have r2 := hs5.c2
              go_wp2
              (try simp only [Exit.inBlock, Exit.then]); refine bodyPost_ret (results_none rfl _ _ _) rfl ?_
              refine ⟨rfl, ?_⟩
              rw [HF.out]
              exact ⟨⟨_, hs5⟩, HD.out.keep _ _ _ HI.out hK.1, hB.trans hK.2⟩
            · have g2b : decide ((s.size : Int) - p1 < x / 2) = false := decide_eq_false hG2
              rw [decide_eq_false hG2, fail_false] at hpc
              have hn0 : 0 ≤ x / 2 := by omega
              have hn1 : 1 ≤ x / 2 := by omega
              have hn2 : p1 + x / 2 ≤ s.size := by omega
              have hQ2 := HQ.out
              rw [pcsQ, if_pos hlt, hpc, if_pos rfl] at hQ2
              simp only at hQ2
              have HQ2 := Lib.hid hQ2
              have hlt63 : x / 2 ≤ 1000000000 := by omega
              have hcn : came + x / 2 ≤ told := by omega
              clear hG1 hG2 hF z hpc hQ2
              go_wp2_with fail
              refine (HN1.out _ hs hz).mono ?_
              rintro y w1 ⟨rfl, hs1, hL1⟩
              have hgb : g < w1.heap.size := hs1.lt
              have hK := Stp.of hL1 hBg
              have hgw : wr.heap.size ≤ w1.heap.size := hL1.size
              have hBb : B ≤ wr.heap.size := Nat.le_trans hBg (Nat.le_of_lt hs.lt)
              have hPb := PcB.new w1 false 0 0
              have hs1' := hs1.alloc (.cells #[.bool false, .int .i64 0, .int .i64 0] 61)
              have hK := hK.alloc hBb (.cells #[.bool false, .int .i64 0, .int .i64 0] 61)
              clear hs c2 hL1 hs1
              go_wp2_with fail
              refine (fail_zero 2 hs1').mono ?_
              rintro y w2 ⟨rfl, hs2, hLw2⟩
              have hP2 := hPb.lone hLw2 (by omega)
              have hK := hK.lone hLw2 hBg
              clear hPb hLw2 hs1'
              generalize w1.heap.size = b at *
              have a0 := hP2.c0
              have a1 := hP2.c1
              have af := hP2.fr 1
              have r1 := hs2.c1
              have hs2' := hs2.other (show g ≠ b by omega) 1 (.int .i64 p1)
              have hP2' := hP2.set1 p1
              have hK := hK.set (Or.inr hgw) (by omega) 1 (.int .i64 p1)
              clear hP2 hs2
              go_wp2_with fail
              refine (fail_zero 2 hs2').mono ?_
              rintro y w3 ⟨rfl, hs3, hLw3⟩
              have hP3 := hP2'.lone hLw3 (by omega)
              have hK := hK.lone hLw3 hBg
              clear hP2' hLw3 hs2'
              clear a0 a1 af r1
              have a0 := hP3.c0
              have r0 := hs3.c0
              have r1 := hs3.c1
              go_wp2
              go_still_tail 20, (by kernel_rfl)
              change wpList _ _ _ _ _ w3.drew
              have hs4 : Rd w3.drew g s p1 0 := hs3
              have hK := hK.drew
              have hP4 : PcB w3.drew b false p1 0 := hP3
              clear a0 r0 r1 hs3 hP3
              generalize w3.drew = w4 at *
              have a0 := hP4.c0
              have r0 := hs4.c0
              have r1 := hs4.c1
              go_wp2_with fail
              try rw [g2b]
              refine (fail_zero 3 hs4).mono ?_
              rintro y w5 ⟨rfl, hs5, hLw5⟩
              have hP5 := hP4.lone hLw5 (by omega)
              have hK := hK.lone hLw5 hBg
              clear hP4 hLw5 hs4 a0 r0 r1
              have a0 := hP5.c0
              have a1 := hP5.c1
              have a2 := hP5.c2
              have af := hP5.fr 2
              have r1 := hs5.c1
              have r2 := hs5.c2
              have rf := hs5.fr 1
              have hs6 := hs5.other (show g ≠ b by omega) 2 (.int .i64 (x / 2))
              have hP6 := hP5.set2 (x / 2)
              have hK := hK.set (Or.inr hgw) (by omega) 2 (.int .i64 (x / 2))
              clear hs5 hP5
              go_wp2
              clear a0 a1 a2 af r1 r2 rf
              generalize w5.setCell ⟨b, 2, none⟩ (.int .i64 (x / 2)) = w6 at *
              have a2 := hP6.c2
              have r1 := hs6.c1
              have rf := hs6.fr 1
              go_still_tail 9, (by kernel_rfl)
              change wpList _ _ _ _ _ w6.drew
              have hs7 : Rd w6.drew g s p1 0 := hs6
              have hK := hK.drew
              have hP7 : PcB w6.drew b false p1 (x / 2) := hP6
              clear a2 r1 rf hs6 hP6
              generalize w6.drew = w7 at *
              have a2 := hP7.c2
              have r1 := hs7.c1
              have rf := hs7.fr 1
              have hs8 := hs7.set1 (p1 + x / 2)
              have hP8 := hP7.rdSet (show b ≠ g by omega) 1 (.int .i64 (p1 + x / 2))
              have hK := hK.set (Or.inl rfl) hBg 1 (.int .i64 (p1 + x / 2))
              have b0 := hP8.c0
              have b1 := hP8.c1
              have b2 := hP8.c2
              have hent := HD.out.entered
              go_wp2_with fail
              refine (HD.out.does _ acc false p1 (x / 2) (p1 + x / 2) 0 (HD.out.keep _ _ _ HI.out hK.1) hs8 k3 hn1 (by intro h; cases h) (fun _ => hn2) (by rw [HSum.out]; exact hcn)).mono ?_
              rintro y w9 ⟨rfl, hI9, hs9, hB9⟩
              go_wp2
              go_roundw
              case rel => exact ⟨p1 + x / 2, came + x / 2, acc ++ [(false, p1, x / 2)], d, rfl, by omega, by omega, by omega, by omega, by omega, by simp [HSum.out], HQ2.out, hs9, hI9, (hB.trans hK.2).trans hB9⟩
              case measure => simp [intOf]; omega
    · obtain rfl : came = told := by omega
      have hge : decide (came < came) = false := by simp
      have hfin : (pcsQ s base came d p came acc) = (if p < s.size then 2 else 0, acc) := by
        obtain ⟨d, rfl⟩ : ∃ m, d = m + 1 := ⟨d - 1, by omega⟩
        rw [pcsQ, if_neg (by omega)]
      rw [HQ.out] at hfin
      have HF := Lib.hid hfin
      clear hfin HQ
      have c0 := hs.c0
      have c1 := hs.c1
      go_wp2
      go_still_tail 11, (by kernel_rfl)
      change wpList _ _ _ _ _ wr.drew
      have hs4 : Rd wr.drew g s p 0 := hs
      have hK : Stp B wr wr.drew g := Stp.drew ⟨Kept.refl _ _, Below.refl _ _⟩
      generalize wr.drew = w4 at *
      clear c0 c1 c2
      have c0 := hs4.c0
      have c1 := hs4.c1
      go_wp2_with fail
      refine (fail_any g s p 0 2 _ _ hs4).mono ?_
      rintro y w5 ⟨rfl, hs5, hL5⟩
      have hK := hK.lone hL5 hBg
      go_wp2
      go_end0
      refine ⟨rfl, ?_⟩
      rw [HF.out]
      refine ⟨⟨p, ?_⟩, HD.out.keep _ _ _ HI.out hK.1, hB.trans hK.2⟩
      simpa using hs5
end Go.Proofs.Ytggjkijgbpnhiaa.Hand
