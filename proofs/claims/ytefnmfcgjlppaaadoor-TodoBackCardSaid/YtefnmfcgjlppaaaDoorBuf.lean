/- A row of bytes that the call owns, whatever mark its block bears: what '[]byte(s)' makes, and what append makes of it. -/
import Derived.Test.YtefnmfcgjlppaaaDoorProg
import Derived.Below
import Derived.Deep.Draws
import Derived.Deep.AppendLies
import Derived.Maps.AppendAt
import Derived.OwnWalk
import Derived.Laws.BytesArg
import Derived.Laws.MakeOwn
import Derived.Laws.OwnMore
import Derived.Deep.OwnRows
import Derived.Tactics
import Derived.Lib.ConvBytes
import Derived.Laws.Slices
import Derived.WalkKit
import Derived.KernelRfl
import Derived.RowKit3
import Derived.Deep.LoopGhost
import Derived.Deep.QuietTactic
import Derived.BigQuiet
import Derived.WideLaws
import Derived.Deep.DeepCutAuto
import Derived.Deep.CutBlock
import Derived.Deep.RegionHeld3
import Derived.Laws.Rows
import Derived.Lib.AppendStr
import Derived.ArgAppend
import Derived.Laws.IdiomCopy
import Derived.OrdersHeld
import Derived.Laws.BitsLemmas
import Derived.RowKit
import Derived.Test.YtefnmfcgjlppaaaDoorWWords
import Derived.Test.YtefnmfcgjlppaaaDoorWLast
import Derived.Test.YtefnmfcgjlppaaaDoorWTab
import Derived.Test.YtefnmfcgjlppaaaDoorWFour
import Derived.Test.YtefnmfcgjlppaaaDoorWQPut
import Derived.Test.YtefnmfcgjlppaaaDoorWApart
import Derived.Test.YtefnmfcgjlppaaaDoorWArr
import Derived.Test.YtefnmfcgjlppaaaDoorWZeros
import Derived.Test.YtefnmfcgjlppaaaDoorWFoot
import Derived.Test.YtefnmfcgjlppaaaDoorWKept
import Derived.Test.YtefnmfcgjlppaaaDoorWShare
import Derived.Test.YtefnmfcgjlppaaaDoorWN
import Derived.Test.YtefnmfcgjlppaaaDoorWFootNe
import Derived.Test.YtefnmfcgjlppaaaDoorWAt
import Derived.Test.YtefnmfcgjlppaaaDoorWEqStruct
import Derived.Test.YtefnmfcgjlppaaaDoorWRepsOne
import Derived.Test.YtefnmfcgjlppaaaDoorWInv
import Derived.Test.YtefnmfcgjlppaaaDoorWInvWords
import Derived.Test.YtefnmfcgjlppaaaDoorWGuard
import Derived.Test.YtefnmfcgjlppaaaDoorWNEv
import Derived.Test.YtefnmfcgjlppaaaDoorWMore
import Derived.Scope
import Derived.WalkMore
namespace Go.Proofs.YtefnmfcgjlppaaaDoor.Hand
open Go.RowKit Go.Proofs.YtefnmfcgjlppaaaDoorW.PrintWords Go.Proofs.YtefnmfcgjlppaaaDoorW.PrintLast Go.Proofs.YtefnmfcgjlppaaaDoorW.PrintMore
set_option linter.unusedVariables false
set_option linter.unusedSimpArgs false

/-- A scope without a jump. -/
theorem scope_strip {P : Program} {Q : Exit → Act → World → Prop} {c : Code} {a : Act} {w : World} (hq : ∀ l a w, ¬ Q (.goto l) a w) (h : c.wp P Q a w) : (Code.scope c).wp P Q a w :=
  wp_scope_straight (wp_mono h fun e a w q => by cases e <;> first | exact q | exact hq _ _ _ q)

/-- The value v is a slice from the head of a block from number B on, whose first cells are the bytes xs; no cell of the block is frozen. -/
def Buf (w : World) (B : Nat) (e : TypeId) (v : Value) (xs : List Int) : Prop :=
  ∃ (g cap : Nat) (cur : Array Value) (fr : Nat × Nat), v = .slice (some ⟨g, 0, none⟩) xs.length cap ∧ B ≤ g ∧ w.heap[g]? = some (.cells cur e fr) ∧ xs.length ≤ cap ∧ cap ≤ maxLen ∧ cur.size = cap ∧
    (∀ j, j < cap → (decide (fr.1 ≤ j) && decide (j < fr.2)) = false) ∧ cur.toList.take xs.length = nums .u8 xs

theorem Buf.of_own {w : World} {B : Nat} {e : TypeId} {v : Value} {xs : List Int} (h : w.ownsRow B e 1 v xs.length (nums .u8 xs)) (hx : 0 < xs.length) : Buf w B e v xs := by
  rcases h.2 with ⟨_, h0⟩ | ⟨g, cap, cur, rfl, hb, hg, hn, hc, hs, ht⟩
  · omega
  · refine ⟨g, cap, cur, (0, 0), rfl, hb, hg, hn, hc, by simpa using hs, fun j _ => by simp, by simpa using ht⟩

theorem Buf.block {w w' : World} {B : Nat} {e : TypeId} {v : Value} {xs : List Int} (h : Buf w B e v xs) (hk : ∀ g, v.ownBlock = some g → w'.heap[g]? = w.heap[g]?) : Buf w' B e v xs := by
  obtain ⟨g, cap, cur, fr, rfl, hb, hg, r⟩ := h
  exact ⟨g, cap, cur, fr, rfl, hb, (hk g rfl).trans hg, r⟩

theorem Buf.lt {w : World} {B : Nat} {e : TypeId} {v : Value} {xs : List Int} (h : Buf w B e v xs) : ∀ g, v.ownBlock = some g → B ≤ g ∧ g < w.heap.size := by
  obtain ⟨g, cap, cur, fr, rfl, hb, hg, r⟩ := h
  intro k hk
  simp [Value.ownBlock] at hk
  subst hk
  refine ⟨hb, ?_⟩
  rcases Nat.lt_or_ge g w.heap.size with h | h
  · exact h
  · rw [Array.getElem?_eq_none h] at hg; cases hg

theorem Buf.alloc {w : World} {B : Nat} {e : TypeId} {v : Value} {xs : List Int} (h : Buf w B e v xs) (o : Obj) : Buf (w.alloc o) B e v xs :=
  h.block fun g hg => Below.heap_alloc _ _ _ (h.lt g hg).2

theorem Buf.drew {w : World} {B : Nat} {e : TypeId} {v : Value} {xs : List Int} (h : Buf w B e v xs) : Buf w.drew B e v xs := h.block fun _ _ => rfl

theorem nums_get (xs : List Int) (j : Nat) (h : j < xs.length) : (nums .u8 xs)[j]? = some (.int .u8 (xs.getD j 0)) := by
  simp [nums, List.getElem?_eq_getElem h, List.getD_eq_getElem?_getD]

theorem Buf.cell {w : World} {B : Nat} {e : TypeId} {g cap n : Nat} {xs : List Int} (h : Buf w B e (.slice (some ⟨g, 0, none⟩) n cap) xs) (j : Nat) (hj : j < xs.length) : w.cell? ⟨g, j, none⟩ = some (.int .u8 (xs.getD j 0)) := by
  obtain ⟨g', cap', cur, fr, he, hb, hg, hn, hc, hs, hf, ht⟩ := h
  simp at he
  obtain ⟨rfl, _, rfl⟩ := he
  rw [cell_of_row w g j cur e fr hg]
  have h1 := nums_get xs j hj
  rw [← ht, List.getElem?_take_of_lt hj] at h1
  simpa using h1

theorem Buf.reads {w : World} {B : Nat} {e : TypeId} {v : Value} {xs : List Int} (h : Buf w B e v xs) : ∃ A c, v = .slice A xs.length c ∧ ReadsInt w .u8 A xs.length xs := by
  have h' := h
  obtain ⟨g, cap, cur, fr, rfl, hb, hg, hn, hc, hs, hf, ht⟩ := h'
  refine ⟨_, _, rfl, rfl, by simp only [maxLen] at hc; omega, fun _ => ⟨_, rfl, fun j hj => ?_⟩⟩
  rw [add_plain]
  exact h.cell j hj

/-- string(v). -/
theorem Buf.string {P : Program} {w : World} {B : Nat} {e e' src dst : TypeId} {v : Value} {xs : List Int} (hs : P.underlying src = some (.slice e')) (he : P.underlying e' = some (.int .u8)) (hd : P.underlying dst = some .string)
    (h : Buf w B e v xs) : (convert src dst v).run P w = .ok (.string (strOfNums xs)) w := by
  obtain ⟨A, c, rfl, hr⟩ := h.reads
  exact string_of_reads hs he hd hr

/-- What '[]byte(s)' makes. -/
theorem Buf.made (w : World) (B : Nat) (e : TypeId) (s : ByteArray) (hB : B ≤ w.heap.size) (hs : s.size ≤ maxLen) :
    Buf (Lib.bytesWorld w e s) B e (.slice (some ⟨w.heap.size, 0, none⟩) s.size (grownCap w s.size 0 e)) (bytesOf s) := by
  have hge := grownCap_ge w s.size 0 e
  have hsz : (Lib.bytesCells w e s).size = grownCap w s.size 0 e := by
    have h2 : s.data.size = s.size := rfl
    simp [Lib.bytesCells, h2]; omega
  refine ⟨w.heap.size, _, _, _, by rw [bytesOf_length], hB, Lib.bytesWorld_at_new w e s, by rw [bytesOf_length]; exact hge, grownCap_le_maxLen w _ _ e hs, hsz, fun j hj => ?_, ?_⟩
  · have : ¬ (Lib.bytesCells w e s).size ≤ j := by omega
    simp [this]
  · rw [bytesOf_length, Lib.bytesCells]
    have h2 : s.data.size = s.size := rfl
    simp [h2, nums, bytesOf, List.take_append]

/-- 'append(v, x)' of one byte. -/
theorem run_append_buf {P : Program} (w : World) (t ty e : TypeId) (ht : P.underlying t = some (.slice e)) (hinfo : (P.info? e).map (fun i => (i.zero, i.size, i.bytes)) = some (some (.int .u8 0), 1, 1))
    (B : Nat) (v : Value) (xs : List Int) (hb : Buf w B e v xs) (hB : B ≤ w.heap.size) (ad : Addr) (c : Nat) (x : Int) (hx : w.cell? ad = some (.int .u8 x)) (hlen : xs.length + 1 ≤ 140737488355328) :
    ∃ v' w', (Builtin.append_ #[t, t] ty #[v, .slice (some ad) 1 c]).run P w = .ok v' w' ∧ Buf w' B e v' (xs ++ [x]) ∧ Below B w w' ∧ w.grownBy w' v.ownBlock := by
  obtain ⟨i, hi, hp⟩ : ∃ i, P.info? e = some i ∧ (i.zero, i.size, i.bytes) = (some (.int .u8 0), 1, 1) := by
    cases h : P.info? e with
    | none => rw [h] at hinfo; simp at hinfo
    | some i => rw [h] at hinfo; exact ⟨i, rfl, by simpa using hinfo⟩
  simp only [Prod.mk.injEq] at hp
  obtain ⟨hz, hsz, hby⟩ := hp
  have hb' := hb
  obtain ⟨g, cap, cur, fr, rfl, hbg, hg, hn, hc, hs, hf, htk⟩ := hb'
  have hgl : g < w.heap.size := (hb.lt g rfl).2
  have hnews : ∀ j u, ([Value.int .u8 x] : List Value)[j]? = some u → w.cell? (ad.add j) = some u := by
    intro j u hj
    match j, hj with
    | 0, hj => simp at hj; subst hj; simpa [Addr.add] using hx
    | j + 1, hj => simp at hj
  by_cases hroom : xs.length + 1 ≤ cap
  · have hr := run_append_room_cells (P := P) w t ty e i ht hi g 0 xs.length cap ad 1 c [.int .u8 x] (by rw [hsz]; rfl) hnews (by simp [Value.oneCell']) hroom
      (fun j hj => by
        simp at hj; subst hj
        rw [hsz, cell_of_row w g _ cur e fr hg]
        simp
        omega)
      (fun j hj => by
        simp at hj; subst hj
        have := hf xs.length (by omega)
        simpa [World.frozen?, hg, hsz] using this)
    simp only [hsz, Nat.mul_one, Nat.zero_add, World.setCells] at hr
    refine ⟨_, _, hr, ⟨g, cap, cur.setIfInBounds xs.length (.int .u8 x), fr, by simp, hbg, ?_, by simpa using hroom, hc, by simpa using hs, hf, ?_⟩, (Below.refl B w).setCell hbg _, ⟨rfl, rfl, rfl, by simp [World.setCell], fun k hk hne => Below.heap_setCell _ _ _ _ (fun e' => hne (by simp [Value.ownBlock, e']))⟩⟩
    · simp [World.setCell, Array.getElem?_modify, hg]
    · have hl : xs.length < cur.size := by omega
      have e1 : (cur.setIfInBounds xs.length (.int .u8 x)).toList = cur.toList.set xs.length (.int .u8 x) := by simp
      rw [e1, nums_append, ← htk]
      simp only [List.length_append, List.length_singleton]
      rw [List.take_succ_eq_append_getElem (by simpa using hl)]
      rw [List.take_set_of_le (Nat.le_refl _)]
      simp [nums]
  · have holds : ∀ j u, (nums .u8 xs)[j]? = some u → w.cell? ((⟨g, 0, none⟩ : Addr).add j) = some u := by
      intro j u hj
      have hjl : j < xs.length := by
        rcases Nat.lt_or_ge j xs.length with h | h
        · exact h
        · rw [List.getElem?_eq_none (by simpa [nums] using h)] at hj; cases hj
      rw [nums_get xs j hjl] at hj
      injection hj with hj
      subst hj
      rw [add_plain]
      exact hb.cell j hjl
    obtain ⟨v', w', hr, ho, hgr⟩ := run_append_arg_grows (P := P) w t ty e i (.int .u8 0) 1 1 ht hi hz hsz hby rfl (by decide) ⟨g, 0, none⟩ xs.length cap (nums .u8 xs) (by simp [nums]) holds ad 1 c [.int .u8 x] rfl hnews (by omega) (by simp only [maxLen]; omega) (by omega)
    have ho' : w'.ownsRow w.heap.size e 1 v' (xs ++ [x]).length (nums .u8 (xs ++ [x])) := by
      simpa [nums] using ho
    have hbuf := Buf.of_own ho' (by simp)
    refine ⟨v', w', hr, ?_, ?_, ?_⟩
    · obtain ⟨g', cap', cur', fr', h1, h2, h3⟩ := hbuf
      exact ⟨g', cap', cur', fr', h1, by omega, h3⟩
    · exact ⟨hgr.os, hgr.tape, hgr.output, hgr.size, fun k hk => hgr.block k (by omega) (by simp)⟩
    · exact ⟨hgr.os, hgr.tape, hgr.output, hgr.size, fun k hk _ => hgr.block k hk (by simp)⟩

theorem wpList_append_buf {P : Program} (w : World) {ops : Array Oper} {rest : List Oper} {o : Oper} {a : Act} {Q : Exit → Act → World → Prop}
    (hgd : o.guard = none) (s x : Operand) (t : TypeId) (hop : o.op = Op.call { callee := Callee.builtin Builtin.append, args := #[s, x], argTypes := #[t, t] })
    (e : TypeId) (ht : P.underlying t = some (.slice e)) (hinfo : (P.info? e).map (fun i => (i.zero, i.size, i.bytes)) = some (some (.int .u8 0), 1, 1))
    (B : Nat) (v : Value) (xs : List Int) (hs : a.eval s = v) (hb : Buf w B e v xs) (hB : B ≤ w.heap.size) (ad : Addr) (c : Nat) (n : Int) (hx : a.eval x = .slice (some ad) 1 c) (hc : w.cell? ad = some (.int .u8 n)) (hlen : xs.length + 1 ≤ 140737488355328)
    (h : ∀ v' w', Buf w' B e v' (xs ++ [n]) → Below B w w' → wpList P ops Q rest (a.put o.dst v') w') :
    wpList P ops Q (o :: rest) a w := by
  refine wpList_plain hgd fun K hK => ?_
  obtain ⟨v', w', hr, h2, h3, _⟩ := run_append_buf (P := P) w t o.type e ht hinfo B v xs hb hB ad c n hc hlen
  unfold Oper.wp execOp
  simp only [hop, resolve, invoke, builtin, Sem.run_bind, Sem.run_pure, Result.andThen_ok, List.map_toArray, List.map_cons, List.map_nil, hs, hx, hr]
  exact hK _ _ (h v' w' h2 h3)

end Go.Proofs.YtefnmfcgjlppaaaDoor.Hand
