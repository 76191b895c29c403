/- delta.Make, by hand. -/
import Derived.Test.YtggjkijgbpnhiaaDlLay
import Derived.Test.YtggjkijgbpnhiaaOctPlain
import Derived.Test.YtggjkijgbpnhiaaDlFind
import Derived.Deep.RegionHeld3
namespace Go.Proofs.Ytggjkijgbpnhiaa.Hand
open Go.RowKit Go.Proofs.YtggjkijgbpnhiaaW.PrintWords Go.Proofs.YtggjkijgbpnhiaaW.PrintLast Go.Proofs.YtggjkijgbpnhiaaW.PrintMore
open Go.Proofs.Ytggjkijgbpnhiaa.PDl
set_option linter.unusedVariables false
set_option linter.unusedSimpArgs false

/-- What Make lays from a place on. -/
def makeQ (s base : ByteArray) : Nat → Nat → Nat → ByteArray → ByteArray
  | 0, _, f, o => layQ s (s.size - f) f s.size o
  | d + 1, i, f, o => if i < s.size then
      (if (findS base base.size (s.extract i s.size)).2 = 0 then makeQ s base d (i + 1) f o
       else makeQ s base d (i + (findS base base.size (s.extract i s.size)).2.toNat) (i + (findS base base.size (s.extract i s.size)).2.toNat)
         (layQ s (i - f) f i o ++ octet_Put.g (octet_Put.g ⟨#[]⟩ (2 * (findS base base.size (s.extract i s.size)).2 + 1)) (findS base base.size (s.extract i s.size)).1))
    else layQ s (s.size - f) f s.size o
def makeS (base s : ByteArray) : ByteArray :=
  makeQ s base s.size 0 0 (octet_Put.g (octet_Put.g ⟨#[]⟩ base.size) s.size)
theorem findL_range (s t : ByteArray) (zs : List Int) : ∀ a n : Int, (∀ x ∈ zs, 0 ≤ x ∧ x < s.size) → 0 ≤ a → a ≤ s.size → 0 ≤ n → n ≤ t.size → 8 ≤ t.size → 0 ≤ (findL s t zs a n).1 ∧ (findL s t zs a n).1 ≤ s.size ∧ 0 ≤ (findL s t zs a n).2 ∧ (findL s t zs a n).2 ≤ t.size := by
  induction zs with
  | nil => intro a n _ h1 h2 h3 h4 _; exact ⟨h1, h2, h3, h4⟩
  | cons p zs ih =>
    intro a n hm h1 h2 h3 h4 h8
    have hp := hm p (List.mem_cons_self ..)
    have hr := matG_range s t p t.size 8
    have hr2 : matN s t p ≤ t.size := hr.2 (by omega)
    have hr1 : 8 ≤ matN s t p := hr.1
    have hm' : ∀ x ∈ zs, 0 ≤ x ∧ x < s.size := fun x hx => hm x (List.mem_cons_of_mem _ hx)
    rw [findL]
    split
    · split
      · exact ⟨by omega, by omega, by omega, hr2⟩
      · exact ih _ _ hm' (by omega) (by omega) (by omega) hr2 h8
    · split
      · exact ⟨h1, h2, h3, h4⟩
      · exact ih _ _ hm' h1 h2 h3 h4 h8
theorem findS_range (s : ByteArray) (m : Nat) (t : ByteArray) (hm : m ≤ s.size) : 0 ≤ (findS s m t).1 ∧ (findS s m t).1 ≤ s.size ∧ 0 ≤ (findS s m t).2 ∧ (findS s m t).2 ≤ t.size := by
  unfold findS
  split
  · simp
  · exact findL_range s t _ 0 0 (fun x hx => by have := posS_mem s m _ x hx; omega) (by omega) (by omega) (by omega) (by omega) (by omega)

def MakeRel (W0 : World) (Fr Bb Sx : Nat) (s base : ByteArray) (R : ByteArray) (iv : Value) (wr : World) : Prop :=
  ∃ (i f d : Nat) (o : ByteArray), iv = .int .i64 i ∧ f ≤ i ∧ i ≤ s.size ∧ s.size ≤ i + d ∧ MkS wr Fr Bb Sx s f o ∧ makeQ s base d i f o = R ∧ o.size ≤ 30 + 41 * f ∧ Below Bb W0 wr
theorem MkS.below {w w' : World} {Fr Bb Sx : Nat} {s : ByteArray} {f : Nat} {o : ByteArray} (h : MkS w Fr Bb Sx s f o) (hb : Below w.heap.size w w') : MkS w' Fr Bb Sx s f o :=
  ⟨(hb.block Fr (lt_of_block h.1)).trans h.1, h.2.1.below hb, (hb.block Sx (lt_of_block h.2.2)).trans h.2.2⟩
theorem makeQ_end (s base : ByteArray) (d f : Nat) (o : ByteArray) : makeQ s base d s.size f o = layQ s (s.size - f) f s.size o := by
  cases d with
  | zero => rfl
  | succ d => rw [makeQ, if_neg (Nat.lt_irrefl _)]
set_option maxHeartbeats 1000000 in
set_option maxRecDepth 100000 in
theorem make_big (base s : ByteArray) (w : World) (h : 1048576 < base.size ∨ 1048576 < s.size) :
    Calls Try.prog 11 #[.string base, .string s] w fun e w' => e = .returned (.string ⟨#[]⟩) ∧ Below w.heap.size w w' := by
  by_cases h1 : 1048576 < base.size
  · have h1d : decide ((1048576 : Int) < base.size) = true := by simp; omega
    go_enter Try.func11, Try.ntmps11
    go_wp2
    go_ret
    exact ⟨rfl, (Below.refl _ _).alloc (Nat.le_refl _) _⟩
  · have h1d : decide ((1048576 : Int) < base.size) = false := by simp; omega
    have h2d : decide ((1048576 : Int) < s.size) = true := by simp; omega
    go_enter Try.func11, Try.ntmps11
    go_wp2
    go_ret
    exact ⟨rfl, (Below.refl _ _).alloc (Nat.le_refl _) _⟩
set_option maxHeartbeats 2000000 in
set_option maxRecDepth 100000 in
theorem make_any (base s : ByteArray) (w : World) (hb : base.size ≤ 1048576) (hz : s.size ≤ 1048576) :
    Calls Try.prog 11 #[.string base, .string s] w fun e w' => e = .returned (.string (makeS base s)) ∧ Below w.heap.size w w' := by
  have h1d : decide ((1048576 : Int) < base.size) = false := by simp; omega
  have h2d : decide ((1048576 : Int) < s.size) = false := by simp; omega
  go_enter Try.func11, Try.ntmps11
  go_wp2_with fail
  refine (runs_any base _ (by omega)).mono ?_
  rintro e w1 ⟨rfl, hplc, hb1⟩
  have hz0 : (w.alloc (.cells #[.string s] 9)).heap.size = w.heap.size + 1 := by simp
  rw [hz0] at hplc hb1
  have hS1 := (hb1.block w.heap.size (by simp)).trans (heap_alloc_new _ _)
  have cs1 := cell_of_one hS1
  have lS1 : w.heap.size < w1.heap.size := lt_of_block hS1
  have hB1 : Below w.heap.size w w1 := ((Below.refl _ w).alloc (Nat.le_refl _) _).trans (hb1.mono (by omega))
  have HPlc := Lib.hid hplc
  have HB1 := Lib.hid hB1
  have HS1 := Lib.hid hS1
  clear hplc hb1 hB1 hS1 hz0
  generalize hSx : w.heap.size = Sx at *
  have HSx := Lib.hid hSx
  clear hSx
  have tok1 : True := trivial
  have tok2 : True := trivial
  have hp1 := putE_size (base.size : Int)
  have hp1' : (octet_Put.g ⟨#[]⟩ (base.size : Int)).size ≤ 140737488355000 := by omega
  have hn1 : (base.size : Int) < 2 * 128 ^ 9 := by simp; omega
  have hn2 : (s.size : Int) < 2 * 128 ^ 9 := by simp; omega
  have hn10 : (0 : Int) ≤ base.size := by omega
  have hn20 : (0 : Int) ≤ s.size := by omega
  have hw1 : IntKind.u64.wrap (base.size : Int) = base.size := wrap_u64_id (by omega) (by omega)
  have hw2 : IntKind.u64.wrap (s.size : Int) = s.size := wrap_u64_id (by omega) (by omega)
  have he0 : (⟨#[]⟩ : ByteArray).size ≤ 140737488355000 := by decide
  go_wp2
  go_region_held3 (fun w' => w'.cell? ⟨Sx, 0, none⟩ = some (.string s)) (first | go_keep | exact cs3 | exact cs2)
    (first
      | (go_at_call 21; have _t := tok1; (with_reducible refine (put_any ⟨#[]⟩ (base.size : Int) _ he0 hn10 hn1).mono ?_); rintro e w2 ⟨rfl, hb2⟩; have cs2 := (hb2.cell (p := ⟨Sx, 0, none⟩) lS1).trans cs1; clear tok1)
      | (go_at_call 21; have _t := tok2; (with_reducible refine (put_any (octet_Put.g ⟨#[]⟩ (base.size : Int)) (s.size : Int) _ hp1' hn20 hn2).mono ?_); rintro e w3 ⟨rfl, hb3⟩; have cs3 := (hb3.cell (p := ⟨Sx, 0, none⟩) (Nat.lt_of_lt_of_le lS1 hb2.size)).trans cs2; clear tok2))
  have z23 : w1.heap.size ≤ w2.heap.size := hb2.size
  have hB3 := (HB1.out.trans ((pw_below_drewN (Below.refl w1.heap.size w1) 1).mono (by omega) |>.trans (hb2.mono (show Sx ≤ w1.heap.size by omega)))).trans (hb3.mono (by have := hb2.size; omega))
  have hPl3 := ((HPlc.out.below (pw_below_drewN (Below.refl w1.heap.size w1) 1)).below hb2).below hb3
  have hS3 := (hb3.block Sx (by omega)).trans ((hb2.block Sx lS1).trans HS1.out)
  have l3 : Sx < w3.heap.size := lt_of_block hS3
  have hpz : (octet_Put.g (octet_Put.g ⟨#[]⟩ (base.size : Int)) (s.size : Int)).size ≤ 20 := by have := putG_size (octet_Put.g ⟨#[]⟩ (base.size : Int)) (s.size : Int); omega
  have hstep : makeS base s = makeQ s base s.size 0 0 (octet_Put.g (octet_Put.g ⟨#[]⟩ (base.size : Int)) (s.size : Int)) := rfl
  have HStep := Lib.hid hstep
  have HB3 := Lib.hid hB3
  have HPl3 := Lib.hid hPl3
  generalize octet_Put.g (octet_Put.g ⟨#[]⟩ (base.size : Int)) (s.size : Int) = hd at *
  clear hb2 hb3 hB3 hPl3 hstep HPlc HB1 HS1 cs1 cs2 cs3 lS1 hp1 hp1' hn1 hn2 hw1 hw2 he0
  rw [HSx.out]
  go_wp2_with fail
  refine (writeString_any2 w3.heap.size w3.heap.size ⟨#[]⟩ hd _ (IsB.fresh w3 w3.heap.size (Nat.le_refl _)) (by show 0 + _ ≤ _; omega) (by simp)).mono ?_
  rintro e w4 ⟨rfl, hB4, hb4, hk4⟩
  have hS4 := hk4 Sx _ _ _ ((Below.heap_alloc _ _ _ l3).trans hS3) (by decide) (by omega)
  have hb34 : Below w3.heap.size w3 w4 := ((Below.refl _ w3).alloc (Nat.le_refl _) _).trans hb4
  have z34 : w3.heap.size < w4.heap.size := hB4.lt
  have e0 : (⟨#[]⟩ : ByteArray) ++ hd = hd := bytesOf_inj (by rw [bytesOf_append]; rfl)
  rw [e0] at hB4
  have hstart : MakeRel w3 w4.heap.size w3.heap.size Sx s base (makeS base s) (.int .i64 0) (w4.alloc (.cells #[.int .i64 0] 3)) := by
    refine ⟨0, 0, s.size, hd, rfl, Nat.le_refl _, Nat.zero_le _, by omega, ⟨heap_alloc_new _ _, hB4.alloc _, (Below.heap_alloc _ _ _ (lt_of_block hS4)).trans hS4⟩, HStep.out.symm, by omega, hb34.alloc (by omega) _⟩
  have HStart := Lib.hid hstart
  clear hB4 hb4 hk4 hS4 hb34 hstart e0 HStep hpz hS3
  generalize hBb : w3.heap.size = Bb at *
  generalize hFr : w4.heap.size = Fr at *
  have HBb := Lib.hid hBb
  have HFr := Lib.hid hFr
  clear hBb hFr
  go_wp2
  rw [HFr.out]
  obtain ⟨R, hR⟩ : ∃ R, makeS base s = R := ⟨_, rfl⟩
  rw [hR] at HStart
  have HR := Lib.hid hR
  clear hR
  go_loopw [10, 11, 12] (fun iv _ _ wr => MakeRel w3 Fr Bb Sx s base R iv wr) (fun iv _ _ _ => s.size - (intOf iv).toNat)
  case atStart => exact HStart.out
  case round =>
    obtain ⟨i, f, d, o, rfl, hfi, his, hd, hS, hQ, hoz, hbel⟩ := hrel
    have hS' := hS
    obtain ⟨hF, hB, hX⟩ := hS'
    have cx := cell_of_one hX
    have HQ := Lib.hid hQ
    have hlB := hB.lt
    clear hQ HStart
    by_cases hlt : i < s.size
    · have hlt' : (i : Int) < s.size := by omega
      obtain ⟨d, rfl⟩ : ∃ x, d = x + 1 := ⟨d - 1, by omega⟩
      have hQ2 := HQ.out
      rw [makeQ, if_pos hlt] at hQ2
      have hes : (s.extract i s.size).size = s.size - i := by rw [ByteArray.size_extract]; omega
      have hfr := findS_range base base.size (s.extract i s.size) (Nat.le_refl _)
      have hPw : Plc wr (Sx + 1 + 1 + 1) (Sx + 1 + 1) (Sx + 1 + 1 + 1 + 1) (Sx + 1) base base.size := HPl3.out.below (by rw [HBb.out]; exact hbel)
      have hfind := fun W hW => find_any (Sx + 1 + 1 + 1) (Sx + 1 + 1) (Sx + 1 + 1 + 1 + 1) (Sx + 1) base (s.extract i s.size) base.size W (by omega) (by omega) (Nat.le_refl _) hW
      generalize findS base base.size (s.extract i s.size) = an at *
      obtain ⟨a, n⟩ := an
      simp only at hQ2 hfr
      rw [hes] at hfr
      obtain ⟨ha0, ha1, hn0, hn1⟩ := hfr
      have HQ2 := Lib.hid hQ2
      have HFind := Lib.hid hfind
      clear hQ2 hfind hes HQ
      by_cases hnz : n = 0
      · have hnb : (n == 0) = true := by simpa using hnz
        have hQ3 := HQ2.out
        rw [if_pos hnz] at hQ3
        have HQ3 := Lib.hid hQ3
        clear hQ3 hnz
        go_wp2_with fail
        refine (HFind.out _ hPw).mono ?_
        rintro e w5 ⟨rfl, hb5⟩
        have hS5 := hS.below hb5
        go_wp2
        go_roundw
        case rel => exact ⟨i + 1, f, d, o, by simp, by omega, by omega, by omega, hS5, HQ3.out, hoz, hbel.trans (hb5.mono (by omega))⟩
        case measure => simp [intOf]; omega
      · have hnb : (n == 0) = false := by simpa using hnz
        have hQ3 := HQ2.out
        rw [if_neg hnz] at hQ3
        have hlz := layQ_size s (i - f) f i o his
        have hLS := fun W hW => lay_any Fr Bb Sx s f i o W hW hfi his (by omega) (by omega) (by omega) (by omega)
        generalize layQ s (i - f) f i o = o1 at *
        have hpn := putE_size (2 * n + 1)
        have hpa := putG_size (octet_Put.g ⟨#[]⟩ (2 * n + 1)) a
        have hn64 : 2 * n + 1 < 2 * 128 ^ 9 := by simp; omega
        have ha64 : a < 2 * 128 ^ 9 := by simp; omega
        obtain ⟨nn, rfl⟩ : ∃ x : Nat, n = x := Int.eq_ofNat_of_zero_le hn0
        rw [Int.toNat_natCast] at hQ3
        have HQ3 := Lib.hid hQ3
        have HLS := Lib.hid hLS
        have hnz' : 1 ≤ (nn : Int) := by omega
        clear hQ3 hLS hnz HQ2
        go_wp2_with fail
        refine (HFind.out _ hPw).mono ?_
        rintro e w5 ⟨rfl, hb5⟩
        have hS5 := hS.below hb5
        have hb5' := hbel.trans (hb5.mono (by omega))
        go_wp2_with fail
        refine (HLS.out _ hS5).mono ?_
        rintro e w6 ⟨rfl, hS6, hb6⟩
        have hb6' := hb5'.trans hb6
        have hl6 := hS6.2.1.lt
        clear hS hS5 hF hB hX hb5 hb6 hPw cx
        go_wp2_with fail
        refine (put_any ⟨#[]⟩ (2 * (nn : Int) + 1) _ (by decide) (by omega) hn64).mono ?_
        rintro e w7 ⟨rfl, hb7⟩
        have hS7 := hS6.below hb7
        have hb7' := hb6'.trans (hb7.mono (by omega))
        clear hS6 hb7
        go_wp2_with fail
        refine (put_any (octet_Put.g ⟨#[]⟩ (2 * (nn : Int) + 1)) a _ (by omega) ha0 ha64).mono ?_
        rintro e w8 ⟨rfl, hb8⟩
        have hS8 := hS7.below hb8
        have hl7 := hS7.2.1.lt
        have hb8' := hb7'.trans (hb8.mono (by omega))
        clear hS7 hb8
        have hl8 := hS8.2.1.lt
        go_wp2_with fail
        refine (writeString_any2 Bb Bb o1 _ _ hS8.2.1 (by omega) (by omega)).mono ?_
        rintro e w9 ⟨rfl, hB9, hb9, hk9⟩
        have hF9 := hk9 Fr _ _ _ hS8.1 (by decide) (by omega)
        have hX9 := hk9 Sx _ _ _ hS8.2.2 (by decide) (by omega)
        have cf9 := cell_of_one hF9
        have ff9 := free_of_one hF9
        have hb9' := hb8'.trans hb9
        have hfe : (i : Int) + nn = ((i + nn : Nat) : Int) := by simp
        have HFE := Lib.hid hfe
        have hsz9 : (o1 ++ octet_Put.g (octet_Put.g ⟨#[]⟩ (2 * (nn : Int) + 1)) a).size ≤ 30 + 41 * (i + nn) := by rw [size_append]; omega
        have HSZ := Lib.hid hsz9
        clear hfe hS8 hk9 hb9 hsz9
        go_wp2
        go_roundw
        case rel =>
          refine ⟨i + nn, i + nn, d, _, by rw [HFE.out], Nat.le_refl _, by omega, by omega, ⟨?_, hB9.far hF9 (by decide) (by omega) 0 _, ?_⟩, HQ3.out, HSZ.out, hb9'.setCell (by show Bb ≤ Fr; omega) _⟩
          · rw [HFE.out]; exact one_setCell hF9
          · exact (Below.heap_setCell _ ⟨Fr, 0, none⟩ _ Sx (by show Sx ≠ Fr; omega)).trans hX9
        case measure => simp [intOf]; omega
    · obtain rfl : i = s.size := by omega
      have hge : decide ((s.size : Int) < s.size) = false := by simp
      have hQ2 := HQ.out
      rw [makeQ_end] at hQ2
      have HQ2 := Lib.hid hQ2
      clear hQ2
      go_wp2_with fail
      refine (lay_any Fr Bb Sx s f s.size o _ hS hfi (Nat.le_refl _) (by omega) (by omega) (by omega) (by omega)).mono ?_
      rintro e w6 ⟨rfl, hS6, hb6⟩
      have hl6 := hS6.2.1.lt
      go_wp2_with fail
      refine (string_any Bb Bb _ _ hS6.2.1 (by omega)).mono ?_
      rintro e w7 ⟨rfl, hb7⟩
      go_wp2
      go_ret
      rw [HSx.out]
      refine ⟨by rw [HR.out, ← HQ2.out]; rfl, ((HB3.out.trans (hbel.mono (by omega))).trans (hb6.mono (by omega))).trans (hb7.mono (by omega))⟩
def delta_Make.g (base s : ByteArray) : ByteArray := if 1048576 < base.size ∨ 1048576 < s.size then ⟨#[]⟩ else makeS base s
def delta_Make.f (a0 a1 : ByteArray) : Option ByteArray := some (delta_Make.g a0 a1)
theorem delta_Make.calls (a0 a1 : ByteArray) (r : ByteArray) (w : World) (h : delta_Make.f a0 a1 = some r) :
    Calls Try.prog 11 #[.string a0, .string a1] w fun e w' => e = .returned (.string r) ∧ Below w.heap.size w w' := by
  simp only [delta_Make.f, Option.some.injEq] at h
  subst h
  unfold delta_Make.g
  split
  · exact make_big a0 a1 w (by assumption)
  · exact make_any a0 a1 w (by omega) (by omega)
end Go.Proofs.Ytggjkijgbpnhiaa.Hand
