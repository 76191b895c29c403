/- todo.Auto's first closure: the test of what a thing mends. -/
import Derived.Test.YtefnmfcgjlppaaaDoorZThing
import Derived.Deep.RegionHeldLaw
import Derived.Deep.RegionLaw
import Derived.StillTailTactics
import Derived.Test.YtefnmfcgjlppaaaDoorZPTdx12
import Derived.Test.YtefnmfcgjlppaaaDoorZKind
import Derived.Maps.OwnRows
namespace Go.Proofs.YtefnmfcgjlppaaaDoor.Hand
open Go.RowKit Go.Proofs.YtefnmfcgjlppaaaDoorW.PrintWords Go.Proofs.YtefnmfcgjlppaaaDoorW.PrintLast Go.Proofs.YtefnmfcgjlppaaaDoorW.PrintMore
open Go.Proofs.YtefnmfcgjlppaaaDoor.PTd
set_option linter.unusedVariables false
set_option linter.unusedSimpArgs false
def mendsQ (s : ByteArray) (x : S34) : Bool := makesQ x && (x.f2.toList == s.toList)
set_option maxHeartbeats 1000000 in
set_option maxRecDepth 100000 in
theorem auto1_any (g : Nat) (s : ByteArray) (x : S34) (w : World) (h : w.heap[g]? = some (.cells #[.string s] 9 (0, 0))) :
    Calls Tryd.prog 29 (#[.agg #[.int .i64 x.f0, .string x.f1, .string x.f2]] ++ #[.pointer (some ⟨g, 0, none⟩)]) w fun e w' => e = .returned (.bool (mendsQ s x)) ∧ Below w.heap.size w w' := by
  have hm := fun w => todo_makes.calls _ _ _ _ w (makesQ_f x)
  obtain ⟨x0, x1, x2⟩ := x
  unfold mendsQ
  generalize makesQ _ = m at *
  have HM := Lib.hid hm
  have hT := heap_alloc_new w (.cells #[.int .i64 x0, .string x1, .string x2] 34)
  have hg := blk_alloc h (.cells #[.int .i64 x0, .string x1, .string x2] 34)
  have hB : Below w.heap.size w (w.alloc (.cells #[.int .i64 x0, .string x1, .string x2] 34)) := (Below.refl _ _).alloc (Nat.le_refl _) _
  change Td _ _ x0 x1 x2 at hT
  clear hm h
  go_enter Tryd.func29, Tryd.ntmps29
  go_wp2_with fail
  refine (HM.out _).mono ?_
  rintro e w1 ⟨rfl, hb1⟩
  have hT1 := hT.below hb1
  have hg1 := blk_below hg hb1
  have hB1 := hB.trans (hb1.mono hB.size)
  have t0 := hT1.c0
  have t1 := hT1.c1
  have t2 := hT1.c2
  have cg := cell_of_one hg1
  clear hT hg hB hb1 HM
  cases m with
  | true =>
    go_wp2
    go_ret
    exact ⟨rfl, hB1⟩
  | false =>
    go_wp2
    go_ret
    exact ⟨rfl, hB1⟩
theorem auto1_tests (g : Nat) (s : ByteArray) (w : World) (h : w.heap[g]? = some (.cells #[.string s] 9 (0, 0))) : Tests w 29 #[.pointer (some ⟨g, 0, none⟩)] (mendsQ s) where
  entered := fun args w => by
    obtain ⟨k, hk⟩ := Option.isSome_iff_exists.1 (show (Tryd.f29.body).isSome = true by kernel_rfl)
    exact run_enter Tryd.func29 (by kernel_rfl) hk args w
  tells := fun x wr hb => auto1_any g s x wr (blk_below h hb)
end Go.Proofs.YtefnmfcgjlppaaaDoor.Hand
/- todo.Auto's second closure: one thing and what is behind it are put out. -/
namespace Go.Proofs.YtefnmfcgjlppaaaDoor.Hand
open Go.RowKit Go.Proofs.YtefnmfcgjlppaaaDoorW.PrintWords Go.Proofs.YtefnmfcgjlppaaaDoorW.PrintLast Go.Proofs.YtefnmfcgjlppaaaDoorW.PrintMore
open Go.Proofs.YtefnmfcgjlppaaaDoor.PTd
set_option linter.unusedVariables false
set_option linter.unusedSimpArgs false
theorem R_self {w : World} {base : Nat} {ok : Nat → Prop} {v : Value} {xs : List S34} (h : Kd.R k34 34 w base ok v xs) : Kd.R k34 34 w base (fun k => v.ownBlock = some k) v xs :=
  ⟨fun _ hk => hk, h.2.imp_ (fun x cs hp => by rw [k34_openM hp]; exact k34_mkM _ _ _ _)⟩
theorem R_true {w : World} {base : Nat} {ok : Nat → Prop} {v : Value} {xs : List S34} (h : Kd.R k34 34 w base ok v xs) : Kd.R k34 34 w base (fun _ => True) v xs := Kd.R_mono h (fun _ _ => trivial)
/-- A row stays where another row (or none) was written. -/
theorem R_stay {w w1 : World} {base : Nat} {v : Value} {xs : List S34} (h : Kd.R k34 34 w base (fun _ => True) v xs) {row : Option Nat} (hg : w.grownBy w1 row) (hne : ∀ k, v.ownBlock = some k → some k ≠ row) : Kd.R k34 34 w1 base (fun _ => True) v xs :=
  R_true (Kd.R_grown (R_self h) hg hne)
theorem R_stayk {w w1 : World} {base g : Nat} {row : Option Nat} {v : Value} {xs : List S34} (h : Kd.R k34 34 w base (fun _ => True) v xs) (hk : KeepBut w w1 g row) (hne : ∀ k, v.ownBlock = some k → k ≠ g ∧ some k ≠ row) : Kd.R k34 34 w1 base (fun _ => True) v xs :=
  R_true (Kd.R_step (R_self h) (fun k ho hl => hk.2 k hl (hne k ho).1 (hne k ho).2))
/-- What is known behind an append whose row went into the block ob. -/
structure Putted (w w2 : World) (ob W0 : Nat) (vo v1 : Value) (ys : List S34) : Prop where
  at_ : w2.heap[ob]? = some (.cells #[v1] 23 (0, 0))
  row : Kd.R k34 34 w2 W0 (fun _ => True) v1 ys
  keep : KeepBut w w2 ob vo.ownBlock
  own : v1.ownBlock = vo.ownBlock ∨ ∃ b, v1.ownBlock = some b ∧ w.heap.size ≤ b
  below : Below W0 w w2
theorem Putted.mk' {w Wr w1 : World} {ob W0 : Nat} {vo v1 : Value} {out ys : List S34} (hh : Wr.heap = w.heap) (hB : Below W0 w w1) (hg : Wr.grownBy w1 vo.ownBlock) (ho : w.heap[ob]? = some (.cells #[vo] 23 (0, 0)))
    (hR : Kd.R k34 34 w W0 (fun _ => True) vo out) (hR1 : Kd.R k34 34 w1 W0 (fun _ => True) v1 ys) (hat : v1.ownBlock = vo.ownBlock ∨ ∃ b, v1.ownBlock = some b ∧ Wr.heap.size ≤ b) (hW0 : W0 ≤ ob) : Putted w (w1.setCell ⟨ob, 0, none⟩ v1) ob W0 vo v1 ys := by
  have neo : some ob ≠ vo.ownBlock := Kd.R_ne hR ho (by decide)
  have lo : ob < w.heap.size := lt_of_block ho
  have b1 : w1.heap[ob]? = some (.cells #[vo] 23 (0, 0)) := (hg.block ob (by rw [hh]; exact lo) neo).trans (by rw [hh]; exact ho)
  have ne1 : some ob ≠ v1.ownBlock := Kd.R_ne hR1 b1 (by decide)
  have hs := hg.size
  rw [hh] at hs
  refine ⟨blk_set b1 0 v1, ?_, ⟨?_, ?_⟩, ?_, hB.setCell hW0 v1⟩
  · exact R_true (Kd.R_far (R_self hR1) (p := ⟨ob, 0, none⟩) (fun k hk e => ne1 (by rw [hk, e])) v1)
  · simpa using hs
  · intro k hk hne hrow
    rw [Below.heap_setCell _ _ _ _ (by exact hne), hg.block k (by rw [hh]; exact hk) hrow, hh]
  · rw [hh] at hat; exact hat
theorem Putted.other {w w2 : World} {ob W0 : Nat} {vo v1 v : Value} {ys xs : List S34} (h : Putted w w2 ob W0 vo v1 ys) (ho : w.heap[ob]? = some (.cells #[vo] 23 (0, 0))) (hv : Kd.R k34 34 w W0 (fun _ => True) v xs) (hne : ∀ k, v.ownBlock = some k → some k ≠ vo.ownBlock) :
    Kd.R k34 34 w2 W0 (fun _ => True) v xs ∧ ∀ k, v.ownBlock = some k → some k ≠ v1.ownBlock := by
  have neo : some ob ≠ v.ownBlock := Kd.R_ne hv ho (by decide)
  refine ⟨R_stayk hv h.keep (fun k hk => ⟨fun e => neo (by rw [hk, e]), hne k hk⟩), fun k hk e => ?_⟩
  rcases h.own with h1 | ⟨b, h1, h2⟩
  · rw [h1] at e; exact hne k hk e
  · rw [h1] at e; have := Kd.R_lt hv k hk; injection e; omega
theorem Putted.block {w w2 : World} {ob W0 : Nat} {vo v1 : Value} {ys : List S34} (h : Putted w w2 ob W0 vo v1 ys) {k : Nat} {o : Obj} (hk : w.heap[k]? = some o) (hne : k ≠ ob) (hrow : some k ≠ vo.ownBlock) : w2.heap[k]? = some o :=
  (h.keep.2 k (lt_of_block hk) hne hrow).trans hk
theorem Putted.trans {w w2 w3 : World} {ob W0 : Nat} {vo v1 v2 : Value} {ys zs : List S34} (h : Putted w w2 ob W0 vo v1 ys) (h' : Putted w2 w3 ob W0 v1 v2 zs) : Putted w w3 ob W0 vo v2 zs := by
  have hs := h.keep.1
  refine ⟨h'.at_, h'.row, ⟨Nat.le_trans hs h'.keep.1, fun k hk hne hrow => ?_⟩, ?_, h.below.trans h'.below⟩
  · rw [h'.keep.2 k (by omega) hne ?_, h.keep.2 k hk hne hrow]
    intro e
    rcases h.own with h1 | ⟨b, h1, h2⟩
    · exact hrow (e.trans h1)
    · rw [h1] at e; injection e; omega
  · rcases h'.own with h1 | ⟨b, h1, h2⟩
    · rcases h.own with h3 | ⟨b, h3, h4⟩
      · exact Or.inl (h1.trans h3)
      · exact Or.inr ⟨b, h1.trans h3, h4⟩
    · exact Or.inr ⟨b, h1, by omega⟩
set_option maxHeartbeats 2000000 in
set_option maxRecDepth 100000 in
theorem auto2_any (ob lb bb bh n : Nat) (cs : Array Value) (i : Int) (Al : Option Addr) (cl : Nat) (l : List S34) (out bi : List S34) (vo : Value) (Ai : Option Addr) (ci : Nat) (w : World) (W0 : Nat)
    (ho : w.heap[ob]? = some (.cells #[vo] 23 (0, 0))) (hl : w.heap[lb]? = some (.cells #[.slice Al l.length cl] 23 (0, 0)))
    (hbb : w.heap[bb]? = some (.cells #[.slice (some ⟨bh, 0, none⟩) n n] 42 (0, 0))) (hbh : w.heap[bh]? = some (.cells cs 23 (0, 0))) (hci : cs[i.toNat]? = some (.slice Ai bi.length ci)) (hin : i < n)
    (hob : lb ≠ ob ∧ bh ≠ ob) (hA : ∀ ad, Al = some ad → ad.block < W0) (hW0 : W0 ≤ ob) (hle : out.length + bi.length ≤ 1000000000)
    (hR : Kd.R k34 34 w W0 (fun _ => True) vo out) (hRi : Kd.R k34 34 w W0 (fun _ => True) (.slice Ai bi.length ci) bi) (hne : ∀ k, (Value.slice Ai bi.length ci).ownBlock = some k → some k ≠ vo.ownBlock)
    (hC : Kd.C k34 w Al l.length l) (h0 : 0 ≤ i) (h1 : i < l.length) :
    Calls Tryd.prog 31 (#[.int .i64 i] ++ #[.pointer (some ⟨ob, 0, none⟩), .pointer (some ⟨lb, 0, none⟩), .pointer (some ⟨bb, 0, none⟩)]) w fun e w' => e = .returned (.tuple #[]) ∧
      ∃ v1, Putted w w' ob W0 vo v1 (out ++ [rd_T34 l i] ++ bi) := by
  have co := cell_of_one ho
  have cel := cell_of_one hl
  have cb := cell_of_one hbb
  obtain ⟨ad, e, g0, g1, g2⟩ := at_T34 hC i h0 h1
  cases e
  obtain ⟨x, hx⟩ : ∃ x, rd_T34 l i = x := ⟨_, rfl⟩
  rw [hx] at g0 g1 g2 ⊢
  clear hx
  have hsz : W0 ≤ w.heap.size := by have := lt_of_block ho; omega
  have hA' := hA ad rfl
  have row := Kd.R_base hR
  have rowl := Kd.R_lt hR
  have neo : some ob ≠ vo.ownBlock := Kd.R_ne hR ho (by decide)
  have nel : some lb ≠ vo.ownBlock := Kd.R_ne hR hl (by decide)
  have nebb : some bb ≠ vo.ownBlock := Kd.R_ne hR hbb (by decide)
  have nebh : some bh ≠ vo.ownBlock := Kd.R_ne hR hbh (by decide)
  have nea : some (ad.add (i.toNat * 3)).block ≠ vo.ownBlock := by
    rw [add_block]
    exact fun e => by have := row _ e.symm; omega
  have hbo : bb ≠ ob := by rintro rfl; rw [hbb] at ho; injection ho with ho; injection ho with _ ho; exact absurd ho (by decide)
  go_enter Tryd.func31, Tryd.ntmps31
  go_wp2
  have hbx : (out.length + 1) * 40 ≤ 140737488355328 := by omega
  have lo : ob < w.heap.size := lt_of_block ho
  have ll : lb < w.heap.size := lt_of_block hl
  have la : (ad.add (i.toNat * 3)).block < w.heap.size := World.block_lt_of_cell? _ _ g0
  go_region_law
    ((refine Kd.R_append_step k34 (w0 := w) W0 rfl _ _ 23 34 (.agg #[.int .i64 0, .string ⟨#[]⟩, .string ⟨#[]⟩]) 40 rfl Tryd.underlying23 info34 rfl (by decide) (by decide) vo out x [.int .i64 x.f0, .string x.f1, .string x.f2] (fun _ => True) (fun _ => False) rfl (by simp [go_sem]) (k34_mkM _ _ _ _) (fun _ h => h.elim) (fun _ _ => trivial) (Kd.R_drew hR) (below_drew1 (Below.refl _ _)) hsz hbx ?_; intro v1 w1 hR1 hB1 hg1 hat1; have b1 : w1.heap[ob]? = some (.cells #[vo] 23 (0, 0)) := (hg1.block ob lo neo).trans ho; have f1 := free_of_one b1; have k1 := cell_of_one b1; obtain ⟨A1, cp1, hv1e⟩ := Kd.R_slice hR1; subst hv1e))
  all_goals
    have P1 := Putted.mk' (w := w) (Wr := w.drew) rfl hB1 hg1 ho hR hR1 hat1 hW0
    have e1 : (out ++ [x]).length = out.length + 1 := by simp
    rw [e1] at P1 hat1
    have Q1 := P1.other ho hRi hne
    have bb1 := P1.block hbb hbo nebb
    have bh1 := P1.block hbh hob.2 nebh
    clear hR1 hat1 hg1 hB1 b1 f1 k1
    generalize w1.setCell ⟨ob, 0, none⟩ (.slice A1 (out.length + 1) cp1) = w2 at *
    have k1 := cell_of_one P1.at_
    have f1 := free_of_one P1.at_
    have k2 := cell_of_one bb1
    have k3 : w2.cell? ⟨bh, i.toNat, none⟩ = some (.slice Ai bi.length ci) := by simp [World.cell?, bh1, hci]
    have HP1 := Lib.hid P1
    have HQ1 := Lib.hid Q1
    clear P1 Q1 co cel cb g0 g1 g2 hR hRi hC hA hA'
    go_wp2
    have hsz2 : W0 ≤ w2.heap.size := Nat.le_trans hsz HP1.out.keep.1
    have R1 := Lib.hid (Kd.R_drew HP1.out.row)
    have C1 := Lib.hid (Kd.C_drew (Kd.R_reads' HQ1.out.1).2.2)
    have B2 := Lib.hid (below_drew1 (Below.refl W0 w2))
    have hby : ((out ++ [x]).length + bi.length) * 40 ≤ 140737488355328 := by rw [e1]; omega
    have HBY := Lib.hid hby
    have HSZ := Lib.hid hsz2
    clear hby hsz2 hle
    go_still_tail 5, (by kernel_rfl)
    change wpList _ _ _ _ _ w2.drew
    go_wp2_with (at_builtin; refine Kd.R_append_rows k34 (w0 := w2) W0 rfl _ _ 23 34 (.agg #[.int .i64 0, .string ⟨#[]⟩, .string ⟨#[]⟩]) 40 rfl Tryd.underlying23 info34 rfl (by decide) (by decide) (.slice A1 (out.length + 1) cp1) (out ++ [x]) bi Ai bi.length ci (fun _ => True) (fun _ => False) rfl rfl R1.out C1.out (fun _ _ h => h) (fun _ h => h.elim) (fun _ _ => trivial) B2.out HSZ.out HBY.out ?_; intro v1 w3 hR1 hB1 hg1 hat1; have b1 : w3.heap[ob]? = some (.cells #[.slice A1 (out.length + 1) cp1] 23 (0, 0)) := (hg1.block ob (lt_of_block HP1.out.at_) (Kd.R_ne HP1.out.row HP1.out.at_ (by decide))).trans HP1.out.at_; have f3 := free_of_one b1; have k3 := cell_of_one b1; obtain ⟨A3, cp3, hv1e⟩ := Kd.R_slice hR1; subst hv1e; have HR3 := Lib.hid hR1; have HB3 := Lib.hid hB1; have HG3 := Lib.hid hg1; have HA3 := Lib.hid hat1; clear hR1 hB1 hg1 hat1)
    have e3 : (out ++ [x] ++ bi).length = out.length + (bi.length + 1) := by simp
    have P3 := HP1.out.trans (Putted.mk' (w := w2) (Wr := w2.drew) rfl HB3.out HG3.out HP1.out.at_ HP1.out.row HR3.out HA3.out hW0)
    rw [e3] at P3
    have HP3 := Lib.hid P3
    clear P3 HP1
    go_end0
    exact ⟨rfl, _, HP3.out⟩
end Go.Proofs.YtefnmfcgjlppaaaDoor.Hand
/- todo.first as a plain function; the plain law of todo.Auto's answer. -/
namespace Go.Proofs.YtefnmfcgjlppaaaDoor.Hand
open Go.RowKit Go.Proofs.YtefnmfcgjlppaaaDoorW.PrintWords Go.Proofs.YtefnmfcgjlppaaaDoorW.PrintLast Go.Proofs.YtefnmfcgjlppaaaDoorW.PrintMore
open Go.Proofs.YtefnmfcgjlppaaaDoor.PTd
set_option linter.unusedVariables false
set_option linter.unusedSimpArgs false
def fxP : ByteArray := ⟨#[102, 105, 120, 117, 112, 33, 32]⟩
def sqP : ByteArray := ⟨#[115, 113, 117, 97, 115, 104, 33, 32]⟩
def preQ (s p : ByteArray) : Bool := decide (p.size ≤ s.size) && ((s.extract 0 p.size).toList == p.toList)
def firstL : Nat → ByteArray → Int → ByteArray × Int
  | 0, s, k => (s, k)
  | n + 1, s, k => if preQ s fxP = true then firstL n (s.extract 7 s.size) (if k = 0 then 5 else k) else if preQ s sqP = true then firstL n (s.extract 8 s.size) (if k = 0 then 4 else k) else (s, k)
def firstQ (s : ByteArray) : ByteArray × Int := firstL s.size s 0
theorem hasPre_f (s p : ByteArray) : stringslite_HasPrefix.f s p = some (preQ s p) := by
  unfold stringslite_HasPrefix.f preQ
  by_cases h : p.size ≤ s.size
  · rw [if_pos (by omega), if_pos (by omega), if_pos (by omega)]
    simp [h]
  · rw [if_neg (by omega)]
    simp [h]
theorem cutPre_f (s p : ByteArray) : strings_CutPrefix.f s p = some (if preQ s p = true then (s.extract p.size s.size, true) else (s, false)) := by
  unfold strings_CutPrefix.f stringslite_CutPrefix.f
  rw [hasPre_f, Option.bind_some]
  cases h : preQ s p with
  | true =>
    have h2 : p.size ≤ s.size := by
      unfold preQ at h
      simp only [Bool.and_eq_true, decide_eq_true_eq] at h
      exact h.1
    rw [if_pos rfl, if_pos (by omega), if_pos (by omega), Option.bind_some]
    simp
  | false => simp
theorem or_f (x y : Int) (hy : y ≠ 0) (k : Nat) : cmp_Or_int.f (k + 3) [x, y] = some (if x = 0 then y else x) := by
  unfold cmp_Or_int.f
  rw [cmp_Or_int.l0]
  have r0 : rd [x, y] 0 = x := rfl
  have r1 : rd [x, y] 1 = y := rfl
  have e1 : wrap64 (0 + 1) = 1 := wrap64_id (by decide) (by decide)
  simp only [r0, e1, List.length_cons, List.length_nil]
  rw [if_pos (by decide), if_pos (by decide), if_pos (by decide)]
  by_cases h : x = 0
  · rw [if_pos h, if_pos h, cmp_Or_int.l0]
    simp only [r1, List.length_cons, List.length_nil]
    rw [if_pos (by decide), if_pos (by decide), if_pos (by decide), if_neg hy]
  · rw [if_neg h, if_neg h]
theorem preQ_size {s p : ByteArray} (h : preQ s p = true) : p.size ≤ s.size := by
  unfold preQ at h
  simp only [Bool.and_eq_true, decide_eq_true_eq] at h
  exact h.1
theorem first_l0 : ∀ (n : Nat) (s : ByteArray) (k : Int) (d : Nat), s.size ≤ n → todo_first.l0 (n + d + 5) s k = some (firstL n s k) := by
  intro n
  induction n with
  | zero =>
    intro s k d hs
    have h1 : preQ s fxP = false := Bool.eq_false_iff.2 (fun h => by have := preQ_size h; have : fxP.size = 7 := rfl; omega)
    have h2 : preQ s sqP = false := Bool.eq_false_iff.2 (fun h => by have := preQ_size h; have : sqP.size = 8 := rfl; omega)
    rw [show 0 + d + 5 = (d + 4) + 1 by omega, todo_first.l0]
    change (strings_CutPrefix.f s fxP).bind _ = _
    rw [cutPre_f, Option.bind_some]
    change (strings_CutPrefix.f s sqP).bind _ = _
    rw [cutPre_f, Option.bind_some, h1, h2]
    rfl
  | succ n ih =>
    intro s k d hs
    rw [show n + 1 + d + 5 = (n + d + 5) + 1 by omega, todo_first.l0]
    change (strings_CutPrefix.f s fxP).bind _ = _
    rw [cutPre_f, Option.bind_some]
    change (strings_CutPrefix.f s sqP).bind _ = _
    rw [cutPre_f, Option.bind_some, firstL]
    cases h1 : preQ s fxP with
    | true =>
      have := preQ_size h1
      have e7 : fxP.size = 7 := rfl
      rw [if_pos rfl, if_pos rfl, if_pos rfl, show n + d + 5 = (n + d + 2) + 3 by omega, or_f k 5 (by decide), Option.bind_some]
      exact ih (s.extract 7 s.size) _ d (by rw [ByteArray.size_extract]; omega)
    | false =>
      rw [if_neg (show ¬ (false = true) by simp), if_neg (show ¬ (false = true) by simp)]
      cases h2 : preQ s sqP with
      | true =>
        have := preQ_size h2
        have e8 : sqP.size = 8 := rfl
        rw [if_neg (show ¬ ((s, false).2 = true) by simp), if_pos rfl, if_pos rfl, if_pos rfl, show n + d + 5 = (n + d + 2) + 3 by omega, or_f k 4 (by decide), Option.bind_some]
        exact ih (s.extract 8 s.size) _ d (by rw [ByteArray.size_extract]; omega)
      | false => rfl
theorem first_any (s : ByteArray) (w : World) : Calls Tryd.prog 27 #[.string s] w fun e w' => e = .returned (.tuple #[.string (firstQ s).1, .int .i64 (firstQ s).2]) ∧ Below w.heap.size w w' :=
  todo_first.calls (s.size + 0 + 5) s _ _ w (first_l0 s.size s 0 0 (Nat.le_refl _))
/-- Where the instruction at goes and as what; -1. -/
def goalQ (l : List S34) (at_ : Nat) : Int × Int :=
  if (rd_T34 l at_).f0 ≠ 1 ∨ (firstQ (rd_T34 l at_).f2).2 = 0 then (-1, 0)
  else (idxQ (mendsQ (firstQ (rd_T34 l at_).f2).1) (l.take at_) 0, (firstQ (rd_T34 l at_).f2).2)
def behQ (l : List S34) (j : Nat) : Nat → List S34
  | 0 => []
  | k + 1 => behQ l j k ++ (if (goalQ l k).1 = j then [(⟨(goalQ l k).2, (rd_T34 l k).f1, (rd_T34 l k).f2⟩ : S34)] else [])
def wentQ (l : List S34) (j k : Nat) : Bool := decide (j < k) && decide (0 ≤ (goalQ l j).1)
def outQ (l : List S34) : Nat → List S34
  | 0 => []
  | i + 1 => outQ l i ++ (if 0 ≤ (goalQ l i).1 then [] else [rd_T34 l i] ++ behQ l i l.length)
def autoQ (l : List S34) : List S34 := if checkQ l = 0 then outQ l l.length else l
theorem idxQ_bound (p : S34 → Bool) : ∀ (l : List S34) (i : Int), 0 ≤ i → idxQ p l i = -1 ∨ (i ≤ idxQ p l i ∧ idxQ p l i < i + l.length) := by
  intro l
  induction l with
  | nil => intro i h; left; rfl
  | cons x l ih =>
    intro i h
    rw [idxQ]
    split
    · right; simp; omega
    · rcases ih (i + 1) (by omega) with h2 | ⟨h2, h3⟩
      · left; exact h2
      · right; simp; omega
theorem behQ_length (l : List S34) (j k : Nat) : (behQ l j k).length ≤ k := by
  induction k with
  | zero => simp [behQ]
  | succ k ih => rw [behQ]; split <;> simp <;> omega
end Go.Proofs.YtefnmfcgjlppaaaDoor.Hand
/- todo.Auto's memory: what stands behind which instruction, and which went. -/
namespace Go.Proofs.YtefnmfcgjlppaaaDoor.Hand
open Go.RowKit Go.Proofs.YtefnmfcgjlppaaaDoorW.PrintWords Go.Proofs.YtefnmfcgjlppaaaDoorW.PrintLast Go.Proofs.YtefnmfcgjlppaaaDoorW.PrintMore
open Go.Proofs.YtefnmfcgjlppaaaDoor.PTd
set_option linter.unusedVariables false
set_option linter.unusedSimpArgs false
theorem made_rep (z : Value) (hz : z.cells = #[z]) (n : Nat) : madeCells z.cells n = Array.replicate n z := by
  apply Array.ext
  · simp [size_madeCells]
  · intro i h1 h2
    simp [madeCells, hz, Nat.mod_one]
theorem info23' : (Tryd.prog.info? 23).map (fun i => (i.zero, i.size, i.bytes)) = some (some (.slice none 0 0), 1, 24) := by kernel_rfl
theorem info4' : (Tryd.prog.info? 4).map (fun i => (i.zero, i.size, i.bytes)) = some (some (.bool false), 1, 1) := by kernel_rfl
theorem mk_beh (n : Nat) (hn : n ≤ 256) (W : World) : (Instr.makeSlice 42 (.int .i64 (n : Int)) (.int .i64 (n : Int))).run Tryd.prog W = .ok (.slice (some ⟨W.heap.size, 0, none⟩) n n) (W.alloc (.cells (Array.replicate n (.slice none 0 0)) 23)) := by
  obtain ⟨i0, hi, hz0, hz1, hz2⟩ := info_parts info23'
  rw [run_make (P := Tryd.prog) W 42 23 i0 (.slice none 0 0) Tryd.underlying42 hi hz0 .i64 .i64 n n (by omega) (by omega) (by rw [hz2]; omega) (by omega), hz1, Int.toNat_natCast, Nat.mul_one, made_rep _ rfl]
theorem mk_went (n : Nat) (hn : n ≤ 256) (W : World) : (Instr.makeSlice 43 (.int .i64 (n : Int)) (.int .i64 (n : Int))).run Tryd.prog W = .ok (.slice (some ⟨W.heap.size, 0, none⟩) n n) (W.alloc (.cells (Array.replicate n (.bool false)) 4)) := by
  obtain ⟨i0, hi, hz0, hz1, hz2⟩ := info_parts info4'
  rw [run_make (P := Tryd.prog) W 43 4 i0 (.bool false) Tryd.underlying43 hi hz0 .i64 .i64 n n (by omega) (by omega) (by rw [hz2]; omega) (by omega), hz1, Int.toNat_natCast, Nat.mul_one, made_rep _ rfl]
theorem check_le {l : List S34} (h : checkQ l = 0) : l.length ≤ 256 := by
  unfold checkQ at h
  by_cases c : l.length > 256
  · rw [if_pos c] at h; exact absurd h (by decide)
  · omega
/-- lb: the list's box; bh: the rows; bh + 1: their variable; bh + 1 + 1: which went. -/
structure AIv (l : List S34) (A0 : Option Addr) (c0 lb bh k : Nat) (vs : Array Value) (w : World) : Prop where
  hl : w.heap[lb]? = some (.cells #[.slice A0 l.length c0] 23 (0, 0))
  hb : w.heap[bh + 1]? = some (.cells #[.slice (some ⟨bh, 0, none⟩) l.length l.length] 42 (0, 0))
  hv : w.heap[bh]? = some (.cells vs 23 (0, 0))
  hs : vs.size = l.length
  row : ∀ j, j < l.length → ∃ A c, vs[j]? = some (.slice A (behQ l j k).length c) ∧ Kd.R k34 34 w lb (fun _ => True) (.slice A (behQ l j k).length c) (behQ l j k)
  ne : ∀ (i j : Nat) (v v' : Value), i ≠ j → vs[i]? = some v → vs[j]? = some v' → ∀ b, v.ownBlock = some b → some b ≠ v'.ownBlock
  hw : ∃ ws : Array Value, w.heap[bh + 1 + 1]? = some (.cells ws 4 (0, 0)) ∧ ws.size = l.length ∧ ∀ j, j < l.length → ws[j]? = some (.bool (wentQ l j k))
  lt : lb < bh
theorem AIv.below {l : List S34} {A0 : Option Addr} {c0 lb bh k : Nat} {vs : Array Value} {w w' : World} (h : AIv l A0 c0 lb bh k vs w) (hb : Below w.heap.size w w') : AIv l A0 c0 lb bh k vs w' := by
  refine ⟨blk_below h.hl hb, blk_below h.hb hb, blk_below h.hv hb, h.hs, fun j hj => ?_, h.ne, ?_, h.lt⟩
  · obtain ⟨A, c, h1, h2⟩ := h.row j hj
    exact ⟨A, c, h1, Kd.R_below h2 hb⟩
  · obtain ⟨ws, h1, h2, h3⟩ := h.hw
    exact ⟨ws, blk_below h1 hb, h2, h3⟩
theorem AIv.start {l : List S34} {A0 : Option Addr} {c0 lb : Nat} {w : World} (h : w.heap[lb]? = some (.cells #[.slice A0 l.length c0] 23 (0, 0))) :
    AIv l A0 c0 lb w.heap.size 0 (Array.replicate l.length (.slice none 0 0)) (((w.alloc (.cells (Array.replicate l.length (.slice none 0 0)) 23)).alloc (.cells #[.slice (some ⟨w.heap.size, 0, none⟩) l.length l.length] 42)).alloc (.cells (Array.replicate l.length (.bool false)) 4)) := by
  have a1 := blk_new w (.cells (Array.replicate l.length (.slice none 0 0)) 23)
  have a2 := blk_new (w.alloc (.cells (Array.replicate l.length (.slice none 0 0)) 23)) (.cells #[.slice (some ⟨w.heap.size, 0, none⟩) l.length l.length] 42)
  have a3 := blk_new ((w.alloc (.cells (Array.replicate l.length (.slice none 0 0)) 23)).alloc (.cells #[.slice (some ⟨w.heap.size, 0, none⟩) l.length l.length] 42)) (.cells (Array.replicate l.length (.bool false)) 4)
  have z1 : (w.alloc (.cells (Array.replicate l.length (.slice none 0 0)) 23)).heap.size = w.heap.size + 1 := by simp
  have z2 : ((w.alloc (.cells (Array.replicate l.length (.slice none 0 0)) 23)).alloc (.cells #[.slice (some ⟨w.heap.size, 0, none⟩) l.length l.length] 42)).heap.size = w.heap.size + 1 + 1 := by simp
  rw [z1] at a2
  rw [z2] at a3
  refine ⟨blk_alloc (blk_alloc (blk_alloc h _) _) _, blk_alloc a2 _, blk_alloc (blk_alloc a1 _) _, by simp, fun j hj => ⟨none, 0, by simp [behQ, hj], by rw [behQ]; exact Kd.R_nil _ _ _ _ _⟩, ?_, ⟨_, a3, by simp, fun j hj => by simp [hj, wentQ]⟩, lt_of_block h⟩
  intro i j v v' hij hi hj b hb
  have : v = .slice none 0 0 := by
    rw [Array.getElem?_eq_some_iff] at hi
    obtain ⟨h1, h2⟩ := hi
    rw [← h2]; simp
  subst this
  simp [Value.ownBlock] at hb
/-- Nothing moves. -/
theorem AIv.no {l : List S34} {A0 : Option Addr} {c0 lb bh k : Nat} {vs : Array Value} {w : World} (h : AIv l A0 c0 lb bh k vs w) (hg : (goalQ l k).1 < 0) : AIv l A0 c0 lb bh (k + 1) vs w := by
  have eb : ∀ j : Nat, behQ l j (k + 1) = behQ l j k := fun j => by rw [behQ, if_neg (by omega), List.append_nil]
  have ew : ∀ j : Nat, wentQ l j (k + 1) = wentQ l j k := fun j => by
    unfold wentQ
    by_cases c : j = k
    · subst c
      rw [show decide (0 ≤ (goalQ l j).1) = false from decide_eq_false (by omega)]; simp
    · rw [show decide (j < k + 1) = decide (j < k) by congr 1; exact propext (by omega)]
  refine ⟨h.hl, h.hb, h.hv, h.hs, fun j hj => ?_, h.ne, ?_, h.lt⟩
  · rw [eb]; exact h.row j hj
  · obtain ⟨ws, h1, h2, h3⟩ := h.hw
    exact ⟨ws, h1, h2, fun j hj => by rw [ew]; exact h3 j hj⟩
/-- The instruction k goes behind the instruction a. -/
theorem AIv.yes {l : List S34} {A0 : Option Addr} {c0 lb bh k a : Nat} {vs : Array Value} {w w1 Wr : World} {A : Option Addr} {c : Nat} {v1 : Value} (h : AIv l A0 c0 lb bh k vs w) (hg : (goalQ l k).1 = a) (ha : a < l.length) (hk : k < l.length)
    (hva : vs[a]? = some (.slice A (behQ l a k).length c)) (hh : ∀ i, i < w.heap.size → Wr.heap[i]? = w.heap[i]?) (hsz : w.heap.size ≤ Wr.heap.size) (hgr : Wr.grownBy w1 (Value.slice A (behQ l a k).length c).ownBlock)
    (hR1 : Kd.R k34 34 w1 lb (fun _ => True) v1 (behQ l a k ++ [(⟨(goalQ l k).2, (rd_T34 l k).f1, (rd_T34 l k).f2⟩ : S34)]))
    (hat : v1.ownBlock = (Value.slice A (behQ l a k).length c).ownBlock ∨ ∃ b, v1.ownBlock = some b ∧ Wr.heap.size ≤ b) :
    AIv l A0 c0 lb bh (k + 1) (vs.setIfInBounds a v1) ((w1.setCell ⟨bh, a, none⟩ v1).setCell ⟨bh + 1 + 1, k, none⟩ (.bool true)) := by
  obtain ⟨A', c', hva', hRa⟩ := h.row a ha
  rw [hva] at hva'
  have hlt := h.lt
  have keep : ∀ {g : Nat} {cs : Array Value} {t : Nat}, w.heap[g]? = some (.cells cs t (0, 0)) → t ≠ 34 → w1.heap[g]? = some (.cells cs t (0, 0)) := by
    intro g cs t hgc ht
    have hRa' : Kd.R k34 34 w lb (fun _ => True) (.slice A (behQ l a k).length c) (behQ l a k) := by
      injection hva' with e; rw [e]; exact hRa
    have hl := blk_lt hgc
    rw [hgr.block g (by omega) (Kd.R_ne hRa' hgc (fun e => ht e.symm)), hh g hl]
    exact hgc
  have b1 := keep h.hl (by decide)
  have b2 := keep h.hb (by decide)
  have b3 := keep h.hv (by decide)
  obtain ⟨ws, hw1, hw2, hw3⟩ := h.hw
  have b4 := keep hw1 (by decide)
  have n1 : some bh ≠ v1.ownBlock := Kd.R_ne hR1 b3 (by decide)
  have n4 : some (bh + 1 + 1) ≠ v1.ownBlock := Kd.R_ne hR1 b4 (by decide)
  have far : ∀ {v : Value} {xs : List S34}, Kd.R k34 34 w1 lb (fun _ => True) v xs → Kd.R k34 34 ((w1.setCell ⟨bh, a, none⟩ v1).setCell ⟨bh + 1 + 1, k, none⟩ (.bool true)) lb (fun _ => True) v xs := by
    intro v xs hv
    have m1 : some bh ≠ v.ownBlock := Kd.R_ne hv b3 (by decide)
    have m4 : some (bh + 1 + 1) ≠ v.ownBlock := Kd.R_ne hv b4 (by decide)
    exact R_true (Kd.R_far (Kd.R_far (R_self hv) (p := ⟨bh, a, none⟩) (fun q hq e => m1 (by rw [hq, e])) v1) (p := ⟨bh + 1 + 1, k, none⟩) (fun q hq e => m4 (by rw [hq, e])) _)
  have eb : ∀ j : Nat, behQ l j (k + 1) = behQ l j k ++ (if (goalQ l k).1 = j then [(⟨(goalQ l k).2, (rd_T34 l k).f1, (rd_T34 l k).f2⟩ : S34)] else []) := fun j => rfl
  have hlen : (behQ l a k ++ [(⟨(goalQ l k).2, (rd_T34 l k).f1, (rd_T34 l k).f2⟩ : S34)]).length = (behQ l a k).length + 1 := by simp
  refine ⟨blk_far (blk_far b1 (by show lb ≠ bh; omega) _) (by show lb ≠ bh + 1 + 1; omega) _, blk_far (blk_far b2 (by show bh + 1 ≠ bh; omega) _) (by show bh + 1 ≠ bh + 1 + 1; omega) _, blk_far (blk_set b3 a v1) (by show bh ≠ bh + 1 + 1; omega) _, by simp [h.hs], fun j hj => ?_, ?_, ⟨ws.setIfInBounds k (.bool true), blk_set (blk_far b4 (by show bh + 1 + 1 ≠ bh; omega) _) k _, by simp [hw2], fun j hj => ?_⟩, hlt⟩
  · by_cases c2 : a = j
    · subst c2
      rw [eb, if_pos hg]
      obtain ⟨A1, c1, hv1⟩ := Kd.R_slice hR1
      refine ⟨A1, c1, ?_, ?_⟩
      · rw [Array.getElem?_setIfInBounds_self_of_lt (by rw [h.hs]; exact hj), hv1]
      · rw [← hv1]; exact far hR1
    · rw [eb, if_neg (by omega), List.append_nil]
      obtain ⟨A1, c1, h1, h2⟩ := h.row j hj
      refine ⟨A1, c1, by rw [Array.getElem?_setIfInBounds_ne c2]; exact h1, far (R_true (Kd.R_step (R_self h2) (fun q hq hl => ?_)))⟩
      rw [hgr.block q (by omega) (h.ne j a _ _ (fun e => c2 e.symm) h1 hva q hq), hh q hl]
  · intro i j v v' hij hi hj b hb
    have olt : ∀ (i : Nat) (v : Value), vs[i]? = some v → ∀ b, v.ownBlock = some b → b < w.heap.size := by
      intro i v hi b hb
      have hil : i < l.length := by rw [← h.hs]; exact (Array.getElem?_eq_some_iff.1 hi).1
      obtain ⟨A1, c1, h1, h2⟩ := h.row i hil
      rw [hi] at h1
      injection h1 with h1
      subst h1
      exact Kd.R_lt h2 b hb
    by_cases ci : a = i
    · subst ci
      rw [Array.getElem?_setIfInBounds_self_of_lt (by rw [h.hs]; exact ha)] at hi
      injection hi with hi
      subst hi
      rw [Array.getElem?_setIfInBounds_ne hij] at hj
      rcases hat with h1 | ⟨b', h1, h2⟩
      · rw [h1] at hb
        exact h.ne a j _ _ hij hva hj b hb
      · rw [h1] at hb
        injection hb with hb
        intro e
        have := olt j v' hj b e.symm
        omega
    · rw [Array.getElem?_setIfInBounds_ne ci] at hi
      by_cases cj : a = j
      · subst cj
        rw [Array.getElem?_setIfInBounds_self_of_lt (by rw [h.hs]; exact ha)] at hj
        injection hj with hj
        subst hj
        rcases hat with h1 | ⟨b', h1, h2⟩
        · rw [h1]
          exact h.ne i a _ _ hij hi hva b hb
        · rw [h1]
          intro e
          injection e with e
          have := olt i v hi b hb
          omega
      · rw [Array.getElem?_setIfInBounds_ne cj] at hj
        exact h.ne i j v v' hij hi hj b hb
  · by_cases c2 : k = j
    · subst c2
      rw [Array.getElem?_setIfInBounds_self_of_lt (by rw [hw2]; exact hj)]
      unfold wentQ
      rw [show decide (k < k + 1) = true from decide_eq_true (by omega), show decide (0 ≤ (goalQ l k).1) = true from decide_eq_true (by omega)]; rfl
    · rw [Array.getElem?_setIfInBounds_ne c2, hw3 j hj]
      unfold wentQ
      rw [show decide (j < k + 1) = decide (j < k) by congr 1; exact propext (by omega)]
theorem AIv.putted {l : List S34} {A0 : Option Addr} {c0 lb bh k ob : Nat} {vs : Array Value} {w w2 : World} {vo v1 : Value} {out ys : List S34} (h : AIv l A0 c0 lb bh k vs w) (P : Putted w w2 ob lb vo v1 ys)
    (ho : w.heap[ob]? = some (.cells #[vo] 23 (0, 0))) (hR : Kd.R k34 34 w lb (fun _ => True) vo out) (hne : ∀ (j : Nat) (v : Value), vs[j]? = some v → ∀ b, v.ownBlock = some b → some b ≠ vo.ownBlock) (hob : bh + 1 + 1 < ob) :
    AIv l A0 c0 lb bh k vs w2 ∧ ∀ (j : Nat) (v : Value), vs[j]? = some v → ∀ b, v.ownBlock = some b → some b ≠ v1.ownBlock := by
  have hlt := h.lt
  have other : ∀ j, j < l.length → ∀ v, vs[j]? = some v → (∃ A c, v = .slice A (behQ l j k).length c ∧ Kd.R k34 34 w2 lb (fun _ => True) v (behQ l j k)) ∧ ∀ b, v.ownBlock = some b → some b ≠ v1.ownBlock := by
    intro j hj v hv
    obtain ⟨A, c, h1, h2⟩ := h.row j hj
    rw [hv] at h1
    injection h1 with h1
    subst h1
    obtain ⟨h3, h4⟩ := P.other ho h2 (hne j _ hv)
    exact ⟨⟨A, c, rfl, h3⟩, h4⟩
  refine ⟨⟨P.block h.hl (by omega) (Kd.R_ne hR h.hl (by decide)), P.block h.hb (by omega) (Kd.R_ne hR h.hb (by decide)), P.block h.hv (by omega) (Kd.R_ne hR h.hv (by decide)), h.hs, fun j hj => ?_, h.ne, ?_, hlt⟩, fun j v hv => ?_⟩
  · obtain ⟨A, c, h1, h2⟩ := h.row j hj
    obtain ⟨⟨A', c', h3, h4⟩, _⟩ := other j hj _ h1
    exact ⟨A, c, h1, h4⟩
  · obtain ⟨ws, h1, h2, h3⟩ := h.hw
    exact ⟨ws, P.block h1 (by omega) (Kd.R_ne hR h1 (by decide)), h2, h3⟩
  · have hjl : j < l.length := by rw [← h.hs]; exact (Array.getElem?_eq_some_iff.1 hv).1
    exact (other j hjl v hv).2
theorem outQ_length (l : List S34) (i : Nat) : (outQ l i).length ≤ i * (l.length + 1) := by
  induction i with
  | zero => simp [outQ]
  | succ i ih =>
    have := behQ_length l i l.length
    rw [outQ]
    split <;> simp [Nat.add_mul] <;> omega
end Go.Proofs.YtefnmfcgjlppaaaDoor.Hand
/- todo.Auto, by hand. -/
namespace Go.Proofs.YtefnmfcgjlppaaaDoor.Hand
open Go.RowKit Go.Proofs.YtefnmfcgjlppaaaDoorW.PrintWords Go.Proofs.YtefnmfcgjlppaaaDoorW.PrintLast Go.Proofs.YtefnmfcgjlppaaaDoorW.PrintMore
open Go.Proofs.YtefnmfcgjlppaaaDoor.PTd
set_option linter.unusedVariables false
set_option linter.unusedSimpArgs false
def AutoRel1 (w : World) (l : List S34) (A0 : Option Addr) (c0 lb bh : Nat) (iv : Value) (wr : World) : Prop :=
  ∃ (k : Nat) (vs : Array Value), iv = .int .i64 k ∧ k ≤ l.length ∧ AIv l A0 c0 lb bh k vs wr ∧ Below w.heap.size w wr
def AutoRel2 (w : World) (l : List S34) (A0 : Option Addr) (c0 lb bh ob : Nat) (vs : Array Value) (iv : Value) (wr : World) : Prop :=
  ∃ (i : Nat) (vo : Value), iv = .int .i64 i ∧ i ≤ l.length ∧ AIv l A0 c0 lb bh l.length vs wr ∧ wr.heap[ob]? = some (.cells #[vo] 23 (0, 0)) ∧ Kd.R k34 34 wr lb (fun _ => True) vo (outQ l i) ∧
    (∀ (j : Nat) (v : Value), vs[j]? = some v → ∀ b, v.ownBlock = some b → some b ≠ vo.ownBlock) ∧ Below lb w wr
set_option maxHeartbeats 2000000 in
set_option maxRecDepth 100000 in
theorem auto_any (A0 : Option Addr) (c0 : Nat) (l : List S34) (w : World) (hr0 : Kd.C k34 w A0 l.length l) (hc0 : l.length ≤ c0) (hl9 : l.length ≤ 1000000000) :
    Calls Tryd.prog 12 #[.slice A0 l.length c0] w fun e w' => ∃ v0_ : Value, e = .returned (v0_) ∧ Kd.R k34 34 w' w.heap.size (fun _ => True) v0_ (autoQ l) ∧ Below w.heap.size w w' := by
  have HR0 := Lib.hid hr0
  have HC0 := Lib.hid hc0
  have HL9 := Lib.hid hl9
  clear hr0 hc0 hl9
  have hb0 : (w.alloc (.cells #[.slice A0 l.length c0] 23)).heap[w.heap.size]? = some (.cells #[.slice A0 l.length c0] 23 (0, 0)) := heap_alloc_new w _
  have hB0 : Below w.heap.size w (w.alloc (.cells #[.slice A0 l.length c0] 23)) := (Below.refl _ _).alloc (Nat.le_refl _) _
  have hC1 := Lib.hid (Kd.C_alloc HR0.out (.cells #[.slice A0 l.length c0] 23))
  by_cases hc : checkQ l = 0
  · obtain ⟨r, hr⟩ : ∃ r, autoQ l = r := ⟨_, rfl⟩
    rw [hr]
    unfold autoQ at hr
    rw [if_pos hc] at hr
    have HR := Lib.hid hr
    have HLE := Lib.hid (check_le hc)
    clear hr
    have hm1 := mk_beh l.length (check_le hc)
    have hm2 := mk_went l.length (check_le hc)
    go_enter Tryd.func12, Tryd.ntmps12
    go_wp2_with (go_at_call 14; refine (check_any _ _ l _ hC1.out HC0.out).mono ?_; rintro e w1 ⟨rfl, hb1⟩; have hB1 := hB0.trans (hb1.mono hB0.size); have hb1' := blk_below hb0 hb1; have k0 := cell_of_one hb1'; have hlt := lt_of_block hb1'; have k1 := cell_of_one (blk_alloc hb1' (.cells (Array.replicate l.length (.slice none 0 0)) 23)); have k2 := cell_of_one (blk_alloc (blk_alloc hb1' (.cells (Array.replicate l.length (.slice none 0 0)) 23)) (.cells #[.slice (some ⟨w1.heap.size, 0, none⟩) l.length l.length] 42)); have k3 := cell_of_one (blk_alloc (blk_alloc (blk_alloc hb1' (.cells (Array.replicate l.length (.slice none 0 0)) 23)) (.cells #[.slice (some ⟨w1.heap.size, 0, none⟩) l.length l.length] 42)) (.cells (Array.replicate l.length (.bool false)) 4)); clear hb0 hB0 hb1; rw [hc])
    have hA := AIv.start (l := l) hb1'
    have hB2 := ((hB1.alloc hB1.size (.cells (Array.replicate l.length (.slice none 0 0)) 23)).alloc (by simp; omega) (.cells #[.slice (some ⟨w1.heap.size, 0, none⟩) l.length l.length] 42)).alloc (by simp; omega) (.cells (Array.replicate l.length (.bool false)) 4)
    generalize ((w1.alloc (.cells (Array.replicate l.length (.slice none 0 0)) 23)).alloc (.cells #[.slice (some ⟨w1.heap.size, 0, none⟩) l.length l.length] 42)).alloc (.cells (Array.replicate l.length (.bool false)) 4) = w2 at *
    obtain ⟨bh, hbh⟩ : ∃ bh, w1.heap.size = bh := ⟨_, rfl⟩
    rw [hbh] at hA ⊢
    obtain ⟨lb, hlb⟩ : ∃ lb, w.heap.size = lb := ⟨_, rfl⟩
    rw [hlb] at hA hB2 ⊢
    have HLB := Lib.hid hlb
    have HA := Lib.hid hA
    have HB2 := Lib.hid hB2
    clear hm1 hm2 k0 k1 k2 k3 hlt hb1' hbh hlb hA hB2 hB1 hc hC1
    go_loopw [26] (fun iv wr => AutoRel1 w l A0 c0 lb bh iv wr) (fun iv _ => (l.length - intOf iv).toNat)
    case atStart => exact ⟨0, _, rfl, Nat.zero_le _, HA.out, by rw [HLB.out]; exact HB2.out⟩
    case round =>
      obtain ⟨k, vs, rfl, hk, hA, hbel⟩ := hrel
      clear HA HB2
      by_cases c : (k : Int) < (l.length : Int)
      · have cb : decide ((k : Int) < (l.length : Int)) = true := decide_eq_true c
        have i0 : 0 ≤ (k : Int) := by omega
        have hlt : k < l.length := by omega
        obtain ⟨ad, e, h0, h1, h2⟩ := at_T34 HR0.out (k : Int) i0 c
        cases e
        replace h0 := (hbel.cell (World.block_lt_of_cell? w _ h0)).trans h0
        replace h1 := (hbel.cell (World.block_lt_of_cell? w _ h1)).trans h1
        replace h2 := (hbel.cell (World.block_lt_of_cell? w _ h2)).trans h2
        simp only [Int.toNat_natCast] at h0 h1 h2
        have hC := Kd.C_take (Kd.C_below HR0.out hbel) hk
        have htl : (l.take k).length = k := by rw [List.length_take]; omega
        have hG : goalQ l k = (if (rd_T34 l k).f0 ≠ 1 ∨ (firstQ (rd_T34 l k).f2).2 = 0 then (-1, 0) else (idxQ (mendsQ (firstQ (rd_T34 l k).f2).1) (l.take k) 0, (firstQ (rd_T34 l k).f2).2)) := rfl
        obtain ⟨x, hx⟩ : ∃ x, rd_T34 l (k : Int) = x := ⟨_, rfl⟩
        rw [hx] at h0 h1 h2 hG
        have hF := fun w => first_any x.f2 w
        generalize firstQ x.f2 = F at *
        obtain ⟨s, kq⟩ := F
        have hcap : (k : Int) ≤ (c0 : Int) := by have := HC0.out; omega
        have hl256 : (k : Int) ≤ 256 := by have := HLE.out; omega
        have hw : IntKind.i64.wrap ((k : Int) + 1) = (k : Int) + 1 := by rw [i64_w]; exact wrap64_id (by omega) (by omega)
        have HX := Lib.hid hx
        have HGO := Lib.hid hG
        have HF := Lib.hid hF
        have HK := Lib.hid hk
        have HTL := Lib.hid htl
        have hT := heap_alloc_new wr (.cells #[.int .i64 x.f0, .string x.f1, .string x.f2] 34)
        change Td _ _ _ _ _ at hT
        have hB1 := Lib.hid (hbel.alloc hbel.size (.cells #[.int .i64 x.f0, .string x.f1, .string x.f2] 34))
        have hC1 := Kd.C_alloc hC (.cells #[.int .i64 x.f0, .string x.f1, .string x.f2] 34)
        have hA1 := Lib.hid (hA.below (below_alloc (Below.refl _ wr) (.cells #[.int .i64 x.f0, .string x.f1, .string x.f2] 34)))
        have HA0 := Lib.hid hA
        have hbel0 := Lib.hid hbel
        clear hx hG hF hC htl hbel hA
        go_wp2_with fail
        refine (HF.out _).mono ?_
        rintro e w2 ⟨rfl, hb2⟩
        have hS3 := heap_alloc_new w2 (.cells #[.string s] 9)
        have hT3 := (hT.below hb2).alloc (.cells #[.string s] 9)
        have hB3 := (hB1.out.trans (hb2.mono hB1.out.size)).alloc (Nat.le_trans hB1.out.size hb2.size) (.cells #[.string s] 9)
        have hC3 := Kd.C_alloc (Kd.C_below hC1 hb2) (.cells #[.string s] 9)
        have hA3 := (hA1.out.below hb2).below (below_alloc (Below.refl _ w2) (.cells #[.string s] 9))
        have hbT := Lib.hid (((below_alloc (Below.refl wr.heap.size wr) (.cells #[.int .i64 x.f0, .string x.f1, .string x.f2] 34)).trans (hb2.mono (by simp))).alloc (Nat.le_trans (by simp) hb2.size) (.cells #[.string s] 9))
        have lTS : wr.heap.size < w2.heap.size := lt_of_block (hT.below hb2)
        have hB1s : w.heap.size ≤ wr.heap.size := hbel0.out.size
        clear hT hb2 hC1 h0 h1 h2 hA1 hB1 HF hbel0
        go_upto_region 9 with (fail)
        have HLT := Lib.hid hB1s
        clear hB1s
        generalize hTe : wr.heap.size = T at *
        have HTE := Lib.hid hTe
        clear hTe
        generalize w2.alloc (.cells #[.string s] 9) = w3 at *
        generalize w2.heap.size = S at *
        have t0 := hT3.c0
        have t1 := hT3.c1
        have t2 := hT3.c2
        have cs := cell_of_one hS3
        have cl := cell_of_one hA3.hl
        by_cases e1 : x.f0 = 1
        · have f1 : (x.f0 == 1) = true := beq_iff_eq.mpr e1
          have f2 : (x.f0 != 1) = false := by simp [bne, f1]
          by_cases e2 : kq = 0
          · subst e2
            have hg : (goalQ l k).1 < 0 := by rw [HGO.out, if_pos (Or.inr rfl)]; exact (by decide : (-1 : Int) < 0)
            have HA4 := Lib.hid (hA3.no hg)
            have HB4 := Lib.hid hB3
            clear hg hA3 hB3 hC3 HGO e1
            go_wp2
            refine ⟨⟨k + 1, vs, rfl, by have := HK.out; omega, HA4.out, HB4.out⟩, ?_⟩
            simp [intOf]; omega
          · have e3 : (kq == 0) = false := beq_eq_false_iff_ne.mpr e2
            have hI := indexFunc_any 29 #[.pointer (some ⟨S, 0, none⟩)] (mendsQ s) (some ad) c0 (l.take k) w3 (auto1_tests S s w3 hS3) hC3 (by have := HL9.out; rw [List.length_take]; omega)
            have hib := idxQ_bound (mendsQ s) (l.take k) 0 (Int.le_refl 0)
            have hg := HGO.out
            rw [if_neg (fun h => h.elim (fun h => h e1) e2)] at hg
            rw [HTL.out] at hI hib
            obtain ⟨gi, hgi⟩ : ∃ gi, idxQ (mendsQ s) (l.take k) 0 = gi := ⟨_, rfl⟩
            rw [hgi] at hI hib hg
            have HI := Lib.hid hI
            have HG2 := Lib.hid hg
            have HIB := Lib.hid hib
            have HA3 := Lib.hid hA3
            have HB3 := Lib.hid hB3
            have HT3 := Lib.hid hT3
            clear hI hg hib hgi HGO hA3 hB3 hC3 hT3 hS3 e1 e2
            go_wp2_with fail
            refine HI.out.mono ?_
            rintro e w4 ⟨rfl, hb4⟩
            have hT4 := HT3.out.below hb4
            have hA4 := HA3.out.below hb4
            have hB4 := HB3.out.trans (hb4.mono HB3.out.size)
            have hbT4 := hbT.out.trans (hb4.mono (by have := hbT.out.size; have := HTE.out; omega))
            clear hb4 t0 t1 t2 cs cl HA3 HB3 HT3 HI
            rcases HIB.out with g1 | ⟨g1, g2⟩
            · subst g1
              have hg : (goalQ l k).1 < 0 := by rw [HG2.out]; exact (by decide : (-1 : Int) < 0)
              have HA4 := Lib.hid (hA4.no hg)
              have HB4 := Lib.hid hB4
              clear hg hA4 hB4 hT4 HG2 HIB
              go_wp2
              refine ⟨⟨k + 1, vs, rfl, by have := HK.out; omega, HA4.out, HB4.out⟩, ?_⟩
              simp [intOf]; omega
            · obtain ⟨a, rfl⟩ := Int.eq_ofNat_of_zero_le g1
              have ga : decide ((a : Int) ≥ 0) = true := decide_eq_true g1
              have ga2 : decide (0 ≤ (a : Int)) = true := decide_eq_true g1
              have hak : a < k := by omega
              have hal : (a : Int) < (l.length : Int) := by omega
              obtain ⟨Aa, ca, hva, hRa⟩ := hA4.row a (by omega)
              clear HIB g1 g2
              have t0 := hT4.c0
              have t1 := hT4.c1
              have t2 := hT4.c2
              have f0 := hT4.fr 0
              go_upto_region 13 with (fail)
              have hT5 : Td (w4.setCell ⟨T, 0, none⟩ (.int .i64 kq)) T kq x.f1 x.f2 := by
                have := blk_set hT4 0 (.int .i64 kq)
                unfold Td
                exact this.trans (by simp)
              have hbT5 := hbT4.setCell (p := ⟨T, 0, none⟩) (Nat.le_refl T) (.int .i64 kq)
              have hB5 := hB4.setCell (p := ⟨T, 0, none⟩) HLT.out (.int .i64 kq)
              clear hT4 hbT4 hB4 hA4 hRa hva t0 t1 t2 f0
              generalize w4.setCell ⟨T, 0, none⟩ (.int .i64 kq) = w5 at *
              have hA5 := HA0.out.below (by rw [HTE.out]; exact hbT5)
              obtain ⟨Aa, ca, hva, hRa⟩ := hA5.row a (by omega)
              have hbl := behQ_length l a k
              obtain ⟨ws, hw1, hw2, hw3⟩ := hA5.hw
              have HYES := fun (w1 : World) (v1 : Value) => @AIv.yes l (some ad) c0 lb bh k a vs w5 w1 w5.drew Aa ca v1 hA5 (by rw [HG2.out]) (by omega) (by omega) hva (fun _ _ => rfl) (Nat.le_refl _)
              rw [HG2.out, HX.out] at HYES
              dsimp only at HYES
              have HWK := hw3 k (by omega)
              generalize wentQ l k k = wk at *
              generalize behQ l a k = zs at *
              have t0 := hT5.c0
              have t1 := hT5.c1
              have t2 := hT5.c2
              have kb := cell_of_one hA5.hb
              have kv : w5.cell? ⟨bh, a, none⟩ = some (.slice Aa zs.length ca) := by rw [blk_cell hA5.hv]; exact hva
              have kbA := cell_of_one (blk_alloc hA5.hb (.cells #[.int .i64 kq, .string x.f1, .string x.f2] 34))
              have kvA : (w5.alloc (.cells #[.int .i64 kq, .string x.f1, .string x.f2] 34)).cell? ⟨bh, a, none⟩ = some (.slice Aa zs.length ca) := by rw [blk_cell (blk_alloc hA5.hv _)]; exact hva
              have hzb : (zs.length + 1) * 40 ≤ 140737488355328 := by omega
              have neh : some bh ≠ (Value.slice Aa zs.length ca).ownBlock := Kd.R_ne hRa hA5.hv (by decide)
              have new : some (bh + 1 + 1) ≠ (Value.slice Aa zs.length ca).ownBlock := Kd.R_ne hRa hw1 (by decide)
              have neb : some (bh + 1) ≠ (Value.slice Aa zs.length ca).ownBlock := Kd.R_ne hRa hA5.hb (by decide)
              have lh := lt_of_block hA5.hv
              have lb1 := lt_of_block hA5.hb
              have hbb := hA5.hb
              have hltb := hA5.lt
              have lw := lt_of_block hw1
              have hlb5 : lb ≤ w5.heap.size := by have := lt_of_block hA5.hl; omega
              have hbv := hA5.hv
              have HT5 := Lib.hid hT5
              have HB5 := Lib.hid hB5
              have HYE := Lib.hid HYES
              clear hA5 hT5 hbT5 hB5 HYES hw3 HA0 hbT HG2 HX
              go_region_law
                ((refine Kd.R_append_step k34 (w0 := w5) lb rfl _ _ 23 34 (.agg #[.int .i64 0, .string ⟨#[]⟩, .string ⟨#[]⟩]) 40 rfl Tryd.underlying23 info34 rfl (by decide) (by decide) (.slice Aa zs.length ca) zs (⟨kq, x.f1, x.f2⟩ : S34) [.int .i64 kq, .string x.f1, .string x.f2] (fun _ => True) (fun _ => False) rfl (by simp [go_sem]) (k34_mkM _ _ _ (⟨kq, x.f1, x.f2⟩ : S34)) (fun _ h => h.elim) (fun _ _ => trivial) (Kd.R_drew hRa) (below_drew1 (Below.refl _ _)) hlb5 hzb ?_; intro v1 w1 hR1 hB1 hg1 hat1; have b1 : w1.heap[bh]? = some (.cells vs 23 (0, 0)) := (hg1.block bh lh neh).trans hbv; have q1 : w1.cell? ⟨bh, a, none⟩ = some (.slice Aa zs.length ca) := (by rw [blk_cell b1]; exact hva); have q2 := blk_frozen b1 a; have q3 := cell_of_one ((hg1.block (bh + 1) lb1 neb).trans hbb); have b2 : w1.heap[bh + 1 + 1]? = some (.cells ws 4 (0, 0)) := (hg1.block (bh + 1 + 1) lw new).trans hw1; obtain ⟨A1, cp1, hv1e⟩ := Kd.R_slice hR1; subst hv1e))
              all_goals
                have ez : (zs ++ [(⟨kq, x.f1, x.f2⟩ : S34)]).length = zs.length + 1 := by simp
                have HAY := HYE.out w1 _ hg1 hR1 hat1
                rw [ez] at HAY
                have b4 := blk_far b2 (p := ⟨bh, a, none⟩) (by show bh + 1 + 1 ≠ bh; omega) (.slice A1 (zs.length + 1) cp1)
                have HBY : Below w.heap.size w ((w1.setCell ⟨bh, a, none⟩ (.slice A1 (zs.length + 1) cp1)).setCell ⟨bh + 1 + 1, k, none⟩ (.bool true)) :=
                  ((HB5.out.trans (by rw [HLB.out]; exact hB1)).setCell (by show w.heap.size ≤ bh; rw [HLB.out]; omega) _).setCell (by show w.heap.size ≤ bh + 1 + 1; rw [HLB.out]; omega) _
                have HAYY := Lib.hid HAY
                have HBYY := Lib.hid HBY
                clear HAY HBY hg1 hR1 hat1 HYE hB1 hRa q1 q2 q3 b1 b2 hbv hw1 hbb
                generalize w1.setCell ⟨bh, a, none⟩ (.slice A1 (zs.length + 1) cp1) = w6 at *
                have kw : w6.cell? ⟨bh + 1 + 1, k, none⟩ = some (.bool wk) := (blk_cell b4 k).trans HWK
                have fw := blk_frozen b4 k
                go_wp2
                refine ⟨⟨k + 1, _, rfl, by have := HK.out; omega, HAYY.out, HBYY.out⟩, ?_⟩
                simp [intOf]; omega
        · have f1 : (x.f0 == 1) = false := beq_eq_false_iff_ne.mpr e1
          have f2 : (x.f0 != 1) = true := by simp [bne, f1]
          have hg : (goalQ l k).1 < 0 := by rw [HGO.out, if_pos (Or.inl e1)]; exact (by decide : (-1 : Int) < 0)
          have HA4 := Lib.hid (hA3.no hg)
          have HB4 := Lib.hid hB3
          clear hg hA3 hB3 hC3 HGO e1
          go_wp2
          refine ⟨⟨k + 1, vs, rfl, by have := HK.out; omega, HA4.out, HB4.out⟩, ?_⟩
          simp [intOf]; omega
      · have cb : decide ((k : Int) < (l.length : Int)) = false := decide_eq_false c
        obtain rfl : k = l.length := by omega
        have hRo : Kd.R k34 34 (wr.alloc (.cells #[.slice none 0 0] 23)) lb (fun _ => True) (.slice none 0 0) (outQ l 0) := Kd.R_nil _ _ _ _ _
        have hbo := blk_new wr (.cells #[.slice none 0 0] 23)
        have hA1 := hA.below (below_alloc (Below.refl _ wr) (.cells #[.slice none 0 0] 23))
        have hB1 := hbel.alloc hbel.size (.cells #[.slice none 0 0] 23)
        have hob : bh + 1 + 1 < wr.heap.size := by obtain ⟨ws, h1, _⟩ := hA.hw; exact lt_of_block h1
        have hltb := hA.lt
        have cl := cell_of_one hA1.hl
        have HOB := Lib.hid hob
        have HRO := Lib.hid hRo
        have HBO := Lib.hid hbo
        have HA1 := Lib.hid hA1
        have HB1 := Lib.hid hB1
        have HLTB := Lib.hid hltb
        clear c hk hob hRo hbo hA1 hB1 hA hbel hltb
        go_upto_region 19 with (fail)
        generalize wr.alloc (.cells #[.slice none 0 0] 23) = w3 at *
        generalize wr.heap.size = ob at *
        go_wp2
        clear cl
        go_loopw [70] (fun iv wr => AutoRel2 w l A0 c0 lb bh ob vs iv wr) (fun iv _ => (l.length - intOf iv).toNat)
        case atStart =>
          refine ⟨0, _, rfl, Nat.zero_le _, HA1.out, HBO.out, HRO.out, ?_, by rw [← HLB.out]; exact HB1.out⟩
          intro j v hj b hb
          simp [Value.ownBlock]
        case round =>
          obtain ⟨i, vo, rfl, hi, hA, ho, hRv, hne, hbel⟩ := hrel
          clear HA1 HBO HRO HB1
          by_cases c : (i : Int) < (l.length : Int)
          · have cb : decide ((i : Int) < (l.length : Int)) = true := decide_eq_true c
            have i0 : 0 ≤ (i : Int) := by omega
            have hlt : i < l.length := by omega
            obtain ⟨ad, e, h0, h1, h2⟩ := at_T34 HR0.out (i : Int) i0 c
            have had : ad.block < lb := by
              have := World.block_lt_of_cell? _ _ h0
              rw [add_block] at this
              have := HLB.out
              omega
            clear h0 h1 h2
            have hw : IntKind.i64.wrap ((i : Int) + 1) = (i : Int) + 1 := by rw [i64_w]; exact wrap64_id (by omega) (by have := HLE.out; omega)
            obtain ⟨ws, hw1, hw2, hw3⟩ := hA.hw
            have hwi := hw3 i hlt
            have cw : wr.cell? ⟨bh + 1 + 1, i, none⟩ = some (.bool (wentQ l i l.length)) := (blk_cell hw1 i).trans hwi
            have eo : outQ l (i + 1) = outQ l i ++ (if 0 ≤ (goalQ l i).1 then [] else [rd_T34 l i] ++ behQ l i l.length) := rfl
            have ew : wentQ l i l.length = decide (0 ≤ (goalQ l i).1) := by
              unfold wentQ
              rw [decide_eq_true hlt, Bool.true_and]
            rw [ew] at cw
            clear hw1 hw2 hw3 hwi ew
            by_cases g : 0 ≤ (goalQ l i).1
            · rw [decide_eq_true g] at cw
              rw [if_pos g, List.append_nil] at eo
              rw [← eo] at hRv
              have HA := Lib.hid hA
              have HO := Lib.hid ho
              have HRV := Lib.hid hRv
              have HNE := Lib.hid hne
              have HBE := Lib.hid hbel
              clear hA ho hRv hne hbel g eo
              go_wp2
              refine ⟨⟨i + 1, vo, rfl, by omega, HA.out, HO.out, HRV.out, HNE.out, HBE.out⟩, ?_⟩
              simp [intOf]; omega
            · rw [decide_eq_false g] at cw
              rw [if_neg g] at eo
              obtain ⟨Ai, ci, hci, hRi⟩ := hA.row i hlt
              have hlen := outQ_length l i
              have hbl := behQ_length l i l.length
              have hsmall : i * (l.length + 1) ≤ 256 * 257 := Nat.mul_le_mul (by have := HLE.out; omega) (by have := HLE.out; omega)
              have hob2 := HOB.out
              have hltb := hA.lt
              have hC2 := auto2_any ob lb (bh + 1) bh l.length vs (i : Int) A0 c0 l (outQ l i) (behQ l i l.length) vo Ai ci wr lb ho hA.hl hA.hb hA.hv (by rw [Int.toNat_natCast]; exact hci) c (by omega) (fun a ha => by rw [e] at ha; injection ha with ha; rw [← ha]; exact had) (by omega) (by have := HLE.out; omega) hRv hRi (hne i _ hci) (Kd.C_below HR0.out (hbel.mono (by rw [HLB.out]; exact Nat.le_refl _))) i0 c
              have HP := fun (w2 : World) (v1 : Value) (ys : List S34) (P : Putted wr w2 ob lb vo v1 ys) => AIv.putted hA P ho hRv hne hob2
              have HPU := Lib.hid HP
              have HC2 := Lib.hid hC2
              have HBE := Lib.hid hbel
              have HEO := Lib.hid eo
              clear hA ho hRv hne hbel g eo hci hRi hlen hbl hsmall hob2 hltb hC2 HP e had
              go_wp2_with fail
              refine HC2.out.mono ?_
              rintro e2 w4 ⟨rfl, v1, P⟩
              obtain ⟨hA4, hne4⟩ := HPU.out w4 v1 _ P
              have hr4 := P.row
              rw [List.append_assoc, ← HEO.out] at hr4
              have HA4 := Lib.hid hA4
              have HNE4 := Lib.hid hne4
              have HR4 := Lib.hid hr4
              have HO4 := Lib.hid P.at_
              have HB4 := Lib.hid (HBE.out.trans P.below)
              clear hA4 hne4 hr4 P HC2 HPU HBE
              go_wp2
              refine ⟨⟨i + 1, v1, rfl, by omega, HA4.out, HO4.out, HR4.out, HNE4.out, HB4.out⟩, ?_⟩
              simp [intOf]; omega
          · have cb : decide ((i : Int) < (l.length : Int)) = false := decide_eq_false c
            obtain rfl : i = l.length := by omega
            have co := cell_of_one ho
            have HRV := Lib.hid hRv
            have HBE := Lib.hid hbel
            clear c hi hA ho hRv hne hbel
            go_wp2
            go_ret
            refine ⟨_, rfl, ?_, ?_⟩
            · have := HRV.out
              rw [← HR.out]
              rw [HLB.out]
              exact this
            · rw [HLB.out]; exact HBE.out
  · obtain ⟨c, hc'⟩ : ∃ c, checkQ l = c := ⟨_, rfl⟩
    rw [hc'] at hc
    have e1 : (c == 0) = false := beq_eq_false_iff_ne.mpr hc
    have e2 : (c != 0) = true := by simp [bne, e1]
    have hA : autoQ l = l := by unfold autoQ; rw [hc', if_neg hc]
    rw [hA]
    clear hc hA
    go_enter Tryd.func12, Tryd.ntmps12
    go_wp2_with (first
      | (go_at_call 14; refine (check_any _ _ l _ hC1.out HC0.out).mono ?_; rintro e w1 ⟨rfl, hb1⟩; have hB1 := hB0.trans (hb1.mono hB0.size); have hb1' := blk_below hb0 hb1; have k0 := cell_of_one hb1'; have hC2 := Lib.hid (Kd.C_below hC1.out hb1); clear hb0 hB0 hb1; rw [hc'])
      | (go_at_call 26; refine (clone_any _ _ l _ hC2.out HL9.out).mono ?_; rintro e w2 ⟨v2, rfl, hR2, hb2⟩; obtain ⟨A2, cp2, hv2e⟩ := Kd.R_slice hR2; subst hv2e; have HR2 := Lib.hid (Kd.R_lower hR2 hB1.size); have HB2 := Lib.hid (hB1.trans (hb2.mono hB1.size)); clear hR2 hb2))
    go_ret
    exact ⟨_, rfl, HR2.out, HB2.out⟩
def todo_Auto.f (l0 : List S34) : Option (List S34) := if l0.length ≤ 1000000000 then some (autoQ l0) else none
theorem todo_Auto.calls (A0 : Option Addr) (c0 : Nat) (l0 : List S34) (r : List S34) (w : World) (hr0 : Kd.C k34 w A0 l0.length l0) (hc0 : l0.length ≤ c0) (h : todo_Auto.f l0 = some r) :
    Calls Tryd.prog 12 #[.slice A0 l0.length c0] w fun e w' => ∃ v0_ : Value, e = .returned (v0_) ∧ Kd.R k34 34 w' w.heap.size (fun _ => True) v0_ r ∧ Below w.heap.size w w' := by
  unfold todo_Auto.f at h
  split at h
  · simp only [Option.some.injEq] at h
    subst h
    exact auto_any A0 c0 l0 w hr0 hc0 (by assumption)
  · cases h
end Go.Proofs.YtefnmfcgjlppaaaDoor.Hand
