/- The law ScriptTells: what its proof takes, part 2 of 5 (packed by wip/gen/pack.py: each section was a text of its own). -/
import Derived.Test.YtcmemgahgenpdaaDoorZTells0
import Derived.Lib.IndexLaws
import Derived.Lib.AtoiAll
import Derived.Lib.ItoaMem
import Derived.Lib.ItoaLen
import Derived.MapKept
import Derived.StringKeys
import Derived.WideMake
import Derived.ChangeMaps4
import Derived.Lib.SplitLaws
section
namespace Go.Proofs.YtcmemgahgenpdaaDoor.Pure
open Go.RowKit Go.Proofs.YtcmemgahgenpdaaDoor.PSc Go.Proofs.YtcmemgahgenpdaaDoor.Hand Go.Proofs.YtcmemgahgenpdaaDoorW.PrintWords Go.Proofs.YtcmemgahgenpdaaDoorW.PrintLast
set_option linter.unusedVariables false
set_option linter.unusedSimpArgs false
def Ev {α : Type} (f : Nat → Option α) (r : α) : Prop := ∃ n, ∀ k, n ≤ k → f k = some r
theorem Ev.of {α : Type} {f : Nat → Option α} {r : α} (h : ∀ k, f k = some r) : Ev f r := ⟨0, fun k _ => h k⟩
theorem Ev.pure {α : Type} (r : α) : Ev (fun _ => some r) r := ⟨0, fun _ _ => rfl⟩
theorem Ev.bind {α β : Type} {f : Nat → Option α} {a : α} {g : α → Nat → Option β} {r : β} (h : Ev f a) (h2 : Ev (g a) r) : Ev (fun k => (f k).bind (fun x => g x k)) r := by
  obtain ⟨n, hn⟩ := h
  obtain ⟨m, hm⟩ := h2
  refine ⟨max n m, fun k hk => ?_⟩
  show (f k).bind _ = _
  rw [hn k (by omega)]
  exact hm k (by omega)
theorem Ev.succ {α : Type} {f : Nat → Option α} {r : α} (h : Ev (fun k => f (k + 1)) r) : Ev f r := by
  obtain ⟨n, hn⟩ := h
  refine ⟨n + 1, fun k hk => ?_⟩
  obtain ⟨j, rfl⟩ : ∃ j, k = j + 1 := ⟨k - 1, by omega⟩
  exact hn j (by omega)
theorem Ev.congr {α : Type} {f g : Nat → Option α} {r : α} (h : ∀ k, f k = g k) (hg : Ev g r) : Ev f r := by
  obtain ⟨n, hn⟩ := hg
  exact ⟨n, fun k hk => (h k).trans (hn k hk)⟩
theorem Ev.mono {α : Type} {f : Nat → Option α} {r : α} (hm : ∀ k, LeO (f k) (f (k + 1))) {k : Nat} (h : f k = some r) : Ev f r := ⟨k, fun j hj => at_rounds (g := f) hm hj h⟩
theorem Ev.val {α : Type} {f : Nat → Option α} {r r' : α} (h : Ev f r) (e : r = r') : Ev f r' := e ▸ h
theorem Ev.det {α : Type} {f : Nat → Option α} {r r' : α} (h : Ev f r) (h' : Ev f r') : r = r' := by
  obtain ⟨n, hn⟩ := h
  obtain ⟨m, hm⟩ := h'
  exact Option.some.inj ((hn (max n m) (by omega)).symm.trans (hm (max n m) (by omega)))
theorem bt_list (s : ByteArray) (k : Nat) (h : k < s.size) (c : UInt8) : (s.data.toList[k]? = some c) ↔ bt s k = (c.toNat : Int) := by
  unfold bt
  rw [dif_pos (show ((k : Int)).toNat < s.size by omega)]
  have h2 : k < s.data.size := h
  rw [show s.data.toList[k]? = some s.data[k] by rw [Array.getElem?_toList, Array.getElem?_eq_getElem h2]]
  have e : s[((k : Int)).toNat]'(by omega) = s.data[k] := rfl
  rw [e]
  constructor
  · intro hh; injection hh with hh; rw [hh]
  · intro hh
    have : s.data[k].toNat = c.toNat := by exact_mod_cast hh
    rw [UInt8.toNat_inj.1 this]
def Bs (s : ByteArray) : List UInt8 := s.data.toList
theorem Bs_size (s : ByteArray) : (Bs s).length = s.size := data_length s
theorem Bs_inj {s t : ByteArray} (h : Bs s = Bs t) : s = t := toList_iff.1 (by rw [toList_bytes, toList_bytes]; exact h)
theorem Bs_append (s t : ByteArray) : Bs (s ++ t) = Bs s ++ Bs t := by simp [Bs, ByteArray.data_append]
theorem bt_app {s : ByteArray} {A R : List UInt8} {c : UInt8} (h : Bs s = A ++ c :: R) : bt s (A.length : Nat) = (c.toNat : Int) ∧ A.length < s.size := by
  have hl : A.length < s.size := by rw [← Bs_size, h]; simp
  refine ⟨(bt_list s A.length hl c).1 ?_, hl⟩
  show (Bs s)[A.length]? = some c
  rw [h]; simp
def pieceB (c : UInt8) : List UInt8 := Bs (pieceQ (c.toNat : Int))
def wordB (l : List UInt8) : List UInt8 := l.flatMap pieceB
theorem wordL_bytes (s : ByteArray) (i : Nat) (hi : i ≤ s.size) : Bs (wordL s i) = wordB ((Bs s).take i) := by
  induction i with
  | zero => rfl
  | succ i ih =>
    have hlt : i < (Bs s).length := by rw [Bs_size]; omega
    rw [wordL, Bs_append, ih (by omega), List.take_add_one, List.getElem?_eq_getElem hlt]
    unfold wordB
    rw [List.flatMap_append]
    congr 1
    have h1 := (bt_list s i (by omega) ((Bs s)[i])).1 (List.getElem?_eq_getElem hlt)
    rw [h1]
    simp [pieceB]
theorem wordS_bytes (s : ByteArray) (h : s.size ≠ 0) : Bs (wordS s) = wordB (Bs s) := by
  unfold wordS
  rw [if_neg h, wordL_bytes s s.size (Nat.le_refl _), ← Bs_size, List.take_length]
def pieceOk (c : UInt8) : Bool :=
  (pieceB c == [c] && c != 37 && c != 45) || (match pieceB c with | [a, h, l] => a == 37 && Lib.indexByte (Bs digS) h == (c.toNat / 16 : Nat) && Lib.indexByte (Bs digS) l == (c.toNat % 16 : Nat) && Go.bits .or .i64 (wrap64 (((c.toNat / 16 : Nat) : Int) * 16)) ((c.toNat % 16 : Nat) : Int) % 256 == (c.toNat : Int) | _ => false)
theorem piece_all : ((List.range 256).all fun n => pieceOk (UInt8.ofNat n)) = true := by kernel_rfl
theorem piece_ok (c : UInt8) : pieceOk c = true := by
  have h := List.all_eq_true.1 piece_all c.toNat (List.mem_range.2 (by have := c.toNat_lt; omega))
  rwa [show UInt8.ofNat c.toNat = c from by simp] at h
theorem piece_cases (c : UInt8) : (pieceB c = [c] ∧ c ≠ 37 ∧ c ≠ 45) ∨ ∃ h l : UInt8, pieceB c = [37, h, l] ∧ Lib.indexByte (Bs digS) h = (c.toNat / 16 : Nat) ∧ Lib.indexByte (Bs digS) l = (c.toNat % 16 : Nat) ∧ Go.bits .or .i64 (wrap64 (((c.toNat / 16 : Nat) : Int) * 16)) ((c.toNat % 16 : Nat) : Int) % 256 = (c.toNat : Int) := by
  have h := piece_ok c
  unfold pieceOk at h
  rw [Bool.or_eq_true] at h
  rcases h with h | h
  · left
    simp only [Bool.and_eq_true, beq_iff_eq, bne_iff_ne] at h
    exact ⟨h.1.1, h.1.2, h.2⟩
  · right
    split at h
    · rename_i a hh l he
      simp only [Bool.and_eq_true, beq_iff_eq] at h
      obtain ⟨⟨⟨rfl, h2⟩, h3⟩, h4⟩ := h
      exact ⟨hh, l, he, h2, h3, h4⟩
    · cases h
def hexI (c : Int) : Int := Lib.indexByte (Bs digS) c.toNat.toUInt8
theorem hexI_nat (c : UInt8) : hexI (c.toNat : Int) = Lib.indexByte (Bs digS) c := by
  unfold hexI
  rw [Int.toNat_natCast]
  congr 1
  simp
theorem text_lit (s : ByteArray) (hs : s.size ≤ 1000000000) (k : Nat) (acc : List Int) (ha : acc.length ≤ 1000000000) (i : Nat) (hi : i < s.size) (h : bt s i ≠ 37 ∨ s.size ≤ i + 2) :
    script_text.l0 (k + 2) s acc i = script_text.l0 k s (acc ++ [bt s i]) ((i + 1 : Nat) : Int) := by
  have w2 : wrap64 ((i : Int) + 2) = (i : Int) + 2 := wrap64_id (by omega) (by omega)
  have w1 : wrap64 ((i : Int) + 1) = ((i + 1 : Nat) : Int) := by rw [wrap64_id (by omega) (by omega)]; rfl
  have hj : script_text.j1 (k + 1) s acc i (bt s i) false = script_text.l0 k s (acc ++ [bt s i]) ((i + 1 : Nat) : Int) := by
    rw [script_text.j1, if_neg (by simp), if_pos (by omega), w1]
  rw [script_text.l0, if_pos (by omega), if_pos (by omega)]
  by_cases c : bt s i = 37
  · have : decide (wrap64 ((i : Int) + 2) < (s.size : Int)) = false := decide_eq_false (by rw [w2]; rcases h with h | h; exact absurd c h; omega)
    rw [if_pos c, this, hj]
  · rw [if_neg c, hj]
def bad : ByteArray × Bool := ((⟨#[]⟩ : ByteArray), false)
theorem text_hex (s : ByteArray) (hs : s.size ≤ 1000000000) (k : Nat) (acc : List Int) (ha : acc.length ≤ 1000000000) (i : Nat) (hi : i + 2 < s.size) (h : bt s i = 37) :
    script_text.l0 (k + 2) s acc i = if hexI (bt s ((i + 1 : Nat) : Int)) < 0 then some bad else if hexI (bt s ((i + 2 : Nat) : Int)) < 0 then some bad else script_text.l0 k s (acc ++ [(Go.bits .or .i64 (wrap64 (hexI (bt s ((i + 1 : Nat) : Int)) * 16)) (hexI (bt s ((i + 2 : Nat) : Int)))) % 256]) ((i + 3 : Nat) : Int) := by
  have w2 : wrap64 ((i : Int) + 2) = ((i + 2 : Nat) : Int) := by rw [wrap64_id (by omega) (by omega)]; rfl
  have w1 : wrap64 ((i : Int) + 1) = ((i + 1 : Nat) : Int) := by rw [wrap64_id (by omega) (by omega)]; rfl
  have w3 : wrap64 (((i + 2 : Nat) : Int) + 1) = ((i + 3 : Nat) : Int) := by rw [wrap64_id (by omega) (by omega)]; rfl
  rw [script_text.l0, if_pos (by omega), if_pos (by omega), if_pos h, show decide (wrap64 ((i : Int) + 2) < (s.size : Int)) = true from decide_eq_true (by rw [w2]; omega)]
  rw [script_text.j1, if_pos rfl, w1, w2, w3, if_pos (by omega), if_pos (by omega)]
  simp only [strings_IndexByte.f, Option.bind_some]
  rw [if_pos (by omega), if_pos (by omega), if_pos (show acc.length < 140737488355328 by omega)]
  rfl
theorem text_end (s : ByteArray) (k : Nat) (acc : List Int) (ha : acc.length ≤ 1000000000) :
    script_text.l0 (k + 1) s acc (s.size : Nat) = some (strOfNums acc, decide ((strOfNums acc).size ≠ 0 ∧ wordS (strOfNums acc) = s)) := by
  have hsz := strOfNums_size acc
  rw [script_text.l0, if_neg (by omega)]
  by_cases c : (strOfNums acc).toList = ([] : List UInt8)
  · have h0 : (strOfNums acc).size = 0 := by
      rw [toList_bytes] at c
      have := congrArg List.length c
      rw [data_length] at this; exact this
    rw [if_pos c]
    simp [h0]
  · rw [if_neg c, show script_word.f (strOfNums acc) = some (wordS (strOfNums acc)) from by unfold script_word.f; rw [if_pos (by omega)]]
    have h0 : (strOfNums acc).size ≠ 0 := by
      intro h0
      apply c
      rw [toList_bytes]
      exact List.length_eq_zero_iff.1 (by rw [data_length]; exact h0)
    simp only [Option.bind_some, Option.some.injEq, Prod.mk.injEq, true_and]
    by_cases e : wordS (strOfNums acc) = s
    · simp [h0, e]
    · simp [h0, e, toList_iff]
theorem text_some (s : ByteArray) (hs : s.size ≤ 1000000000) : ∀ (d i : Nat) (acc : List Int), i + d = s.size → acc.length ≤ i →
    ∃ r : ByteArray × Bool, Ev (fun k => script_text.l0 k s acc i) r ∧ (r.2 = true → r.1.size ≠ 0 ∧ wordS r.1 = s) := by
  intro d
  induction d using Nat.strongRecOn with
  | ind d ih =>
    intro i acc hd ha
    by_cases c : i < s.size
    · by_cases h : bt s i ≠ 37 ∨ s.size ≤ i + 2
      · obtain ⟨r, hr, hr2⟩ := ih (d - 1) (by omega) (i + 1) (acc ++ [bt s i]) (by omega) (by simp; omega)
        exact ⟨r, Ev.succ (Ev.succ (Ev.congr (fun k => text_lit s hs k acc (by omega) i c h) hr)), hr2⟩
      · have h1 : bt s i = 37 := Decidable.byContradiction fun e => h (Or.inl e)
        have h2 : i + 2 < s.size := by omega
        have hx := fun k => text_hex s hs k acc (by omega) i h2 h1
        by_cases c1 : hexI (bt s ((i + 1 : Nat) : Int)) < 0
        · exact ⟨bad, Ev.succ (Ev.succ (Ev.of fun k => by rw [hx k, if_pos c1])), fun h => by cases h⟩
        · by_cases c2 : hexI (bt s ((i + 2 : Nat) : Int)) < 0
          · exact ⟨bad, Ev.succ (Ev.succ (Ev.of fun k => by rw [hx k, if_neg c1, if_pos c2])), fun h => by cases h⟩
          · obtain ⟨r, hr, hr2⟩ := ih (d - 3) (by omega) (i + 3) (acc ++ [(Go.bits .or .i64 (wrap64 (hexI (bt s ((i + 1 : Nat) : Int)) * 16)) (hexI (bt s ((i + 2 : Nat) : Int)))) % 256]) (by omega) (by simp; omega)
            exact ⟨r, Ev.succ (Ev.succ (Ev.congr (fun k => by rw [hx k, if_neg c1, if_neg c2]) hr)), hr2⟩
    · obtain rfl : i = s.size := by omega
      refine ⟨_, Ev.succ (Ev.of fun k => text_end s k acc (by omega)), fun h => ?_⟩
      exact of_decide_eq_true h
theorem text_word (s : ByteArray) (hs : s.size ≤ 1000000000) (T : List UInt8) : ∀ (A : List UInt8) (acc : List Int), Bs s = A ++ wordB T → acc.length ≤ A.length →
    Ev (fun k => script_text.l0 k s acc (A.length : Nat)) (strOfNums (acc ++ T.map fun b => (b.toNat : Int)), decide ((strOfNums (acc ++ T.map fun b => (b.toNat : Int))).size ≠ 0 ∧ wordS (strOfNums (acc ++ T.map fun b => (b.toNat : Int))) = s)) := by
  induction T with
  | nil =>
    intro A acc hA ha
    have hl : A.length = s.size := by rw [← Bs_size, hA]; simp [wordB]
    rw [hl, List.map_nil, List.append_nil]
    exact Ev.succ (Ev.of fun k => text_end s k acc (by omega))
  | cons c T ih =>
    intro A acc hA ha
    have hA2 : Bs s = A ++ (pieceB c ++ wordB T) := by rw [hA]; rfl
    have hsz := Bs_size s
    rcases piece_cases c with ⟨hp, h1, h2⟩ | ⟨h, l, hp, hh, hlo, hb⟩
    · rw [hp] at hA2
      obtain ⟨hb, hlt⟩ := bt_app hA2
      have hne : bt s (A.length : Nat) ≠ 37 := by
        rw [hb]; intro e
        have h37 : c.toNat = 37 := by exact_mod_cast e
        exact h1 (UInt8.toNat_inj.1 h37)
      have := ih (A ++ [c]) (acc ++ [(c.toNat : Int)]) (by rw [hA2]; simp) (by simp; omega)
      rw [List.append_assoc] at this
      refine Ev.succ (Ev.succ (Ev.congr (fun k => ?_) this))
      rw [text_lit s hs k acc (by omega) A.length hlt (Or.inl hne), hb, List.length_append]; rfl
    · rw [hp] at hA2
      have e0 : Bs s = A ++ 37 :: (h :: l :: wordB T) := hA2
      have e1 : Bs s = (A ++ [37]) ++ h :: (l :: wordB T) := by rw [hA2]; simp
      have e2 : Bs s = (A ++ [37, h]) ++ l :: wordB T := by rw [hA2]; simp
      obtain ⟨b0, l0⟩ := bt_app e0
      obtain ⟨b1, l1⟩ := bt_app e1
      obtain ⟨b2, l2⟩ := bt_app e2
      have n1 : (A ++ [(37 : UInt8)]).length = A.length + 1 := by simp
      have n2 : (A ++ [37, h]).length = A.length + 2 := by simp
      rw [n1] at b1 l1
      rw [n2] at b2 l2
      have this := ih (A ++ [37, h, l]) (acc ++ [(c.toNat : Int)]) (by rw [hA2]; simp) (by simp; omega)
      rw [List.append_assoc] at this
      refine Ev.succ (Ev.succ (Ev.congr (fun k => ?_) this))
      have hH : hexI (bt s ((A.length + 1 : Nat) : Int)) = (c.toNat / 16 : Nat) := by rw [b1, hexI_nat, hh]
      have hL : hexI (bt s ((A.length + 2 : Nat) : Int)) = (c.toNat % 16 : Nat) := by rw [b2, hexI_nat, hlo]
      rw [text_hex s hs k acc (by omega) A.length (by omega) (by rw [b0]; rfl), hH, hL, if_neg (by omega), if_neg (by omega), hb]
      simp
theorem wordS_empty : wordS ⟨#[]⟩ = ⟨#[45]⟩ := rfl
theorem text_of_word (t : ByteArray) (hs : (wordS t).size ≤ 1000000000) : Ev (fun k => script_text.f k (wordS t)) (t, true) := by
  by_cases h0 : t.size = 0
  · have ht : t = ⟨#[]⟩ := Bs_inj (List.length_eq_zero_iff.1 (by rw [Bs_size]; exact h0))
    subst ht
    refine Ev.of fun k => ?_
    rw [wordS_empty]
    unfold script_text.f
    rw [if_pos (by rw [toList_bytes])]
  · have hb := wordS_bytes t h0
    have hne : ¬ (wordS t).toList = ([45] : List UInt8) := by
      rw [toList_bytes]
      show ¬ Bs (wordS t) = [45]
      rw [hb]
      cases hT : Bs t with
      | nil => exact absurd (by rw [← Bs_size, hT]; rfl) h0
      | cons c T =>
        intro e
        have e2 : pieceB c ++ wordB T = [45] := e
        rcases piece_cases c with ⟨hp, h1, h2⟩ | ⟨h, l, hp, _⟩
        · rw [hp] at e2
          simp at e2
          exact h2 e2.1
        · rw [hp] at e2
          simp at e2
    have hT := text_word (wordS t) hs (Bs t) [] [] (by rw [hb]; rfl) (Nat.le_refl _)
    rw [List.nil_append, show strOfNums ((Bs t).map fun b => (b.toNat : Int)) = t from str_bytesOf t] at hT
    rw [show decide (t.size ≠ 0 ∧ wordS t = wordS t) = true from decide_eq_true ⟨h0, rfl⟩] at hT
    refine Ev.congr (fun k => ?_) hT
    unfold script_text.f
    rw [if_neg hne]; rfl
theorem text_any (s : ByteArray) (hs : s.size ≤ 1000000000) : ∃ r : ByteArray × Bool, Ev (fun k => script_text.f k s) r ∧ (r.2 = true → wordS r.1 = s) := by
  by_cases c : s.toList = ([45] : List UInt8)
  · refine ⟨(⟨#[]⟩, true), Ev.of fun k => ?_, fun _ => ?_⟩
    · unfold script_text.f; rw [if_pos c]
    · rw [wordS_empty]; exact toList_iff.1 (by rw [c, toList_bytes])
  · obtain ⟨r, hr, h2⟩ := text_some s hs s.size 0 [] (by omega) (Nat.le_refl _)
    refine ⟨r, Ev.congr (fun k => ?_) hr, fun h => (h2 h).2⟩
    unfold script_text.f; rw [if_neg c]; rfl
noncomputable def textQ (s : ByteArray) : ByteArray × Bool := if h : s.size ≤ 1000000000 then Classical.choose (text_any s h) else bad
theorem textQ_ev (s : ByteArray) (hs : s.size ≤ 1000000000) : Ev (fun k => script_text.f k s) (textQ s) := by
  unfold textQ
  rw [dif_pos hs]
  exact (Classical.choose_spec (text_any s hs)).1
theorem textQ_word (t : ByteArray) (hs : (wordS t).size ≤ 1000000000) : textQ (wordS t) = (t, true) := Ev.det (textQ_ev _ hs) (text_of_word t hs)
end Go.Proofs.YtcmemgahgenpdaaDoor.Pure
end
section
namespace Go.Proofs.YtcmemgahgenpdaaDoor.Hand
open Go.RowKit Go.Proofs.YtcmemgahgenpdaaDoorW.PrintWords Go.Proofs.YtcmemgahgenpdaaDoorW.PrintLast Go.Proofs.YtcmemgahgenpdaaDoorW.PrintMore
set_option linter.unusedVariables false
set_option linter.unusedSimpArgs false
def itoaS (v : Int) : ByteArray := ⟨(Lib.itoa v).toArray⟩
def numP (s : ByteArray) : Int × Bool :=
  match Lib.atoiAll s.data.toList with
  | .ok v => if itoaS v = s ∧ -1099511627776 ≤ v ∧ v ≤ 1099511627776 then (v, true) else (0, false)
  | _ => (0, false)
theorem atoiAll_bounds {l : List UInt8} {v : Int} (h : Lib.atoiAll l = .ok v) : -9223372036854775808 ≤ v ∧ v ≤ 9223372036854775807 := by
  unfold Lib.atoiAll at h
  split at h
  · cases h
  · rename_i c r
    simp only at h
    split at h
    · cases h
    · cases h
    · rename_i u hu
      split at h
      · cases h
      · split at h
        · cases h
        · cases h
          split <;> omega
theorem below_bytes (w : World) (e : TypeId) (t : ByteArray) : Below w.heap.size w (Lib.bytesWorld w e t) := Lib.bytesWorld_below w e t
def Nb (w : World) (g : Nat) (n : Int) (b : Bool) : Prop := w.heap[g]? = some (.cells #[.int .i64 n, .bool b] 55 (0, 0))
theorem Nb.c0 {w : World} {g : Nat} {n : Int} {b : Bool} (h : Nb w g n b) : w.cell? ⟨g, 0, none⟩ = some (.int .i64 n) := by rw [Lib.cell_of_heap h]; rfl
theorem Nb.c1 {w : World} {g : Nat} {n : Int} {b : Bool} (h : Nb w g n b) : w.cell? ⟨g, 1, none⟩ = some (.bool b) := by rw [Lib.cell_of_heap h]; rfl
theorem Nb.fr {w : World} {g : Nat} {n : Int} {b : Bool} (h : Nb w g n b) (i : Nat) : w.frozen? ⟨g, i, none⟩ = false := Lib.frozen_of_heap h i
theorem Nb.set {w : World} {g : Nat} {n n' : Int} {b b' : Bool} (h : Nb w g n b) : Nb ((w.setCell ⟨g, 0, none⟩ (.int .i64 n')).setCell ⟨g, 1, none⟩ (.bool b')) g n' b' := by
  unfold Nb at *
  have := blk_set (blk_set h 0 (.int .i64 n')) 1 (.bool b')
  simpa using this
theorem Nb.below {w w' : World} {g : Nat} {n : Int} {b : Bool} (h : Nb w g n b) (hb : Below w.heap.size w w') : Nb w' g n b := (hb.block g (lt_of_block h)).trans h
theorem below_two {w w' : World} {g : Nat} (h : Below w.heap.size w w') (hg : w.heap.size ≤ g) (u v : Value) : Below w.heap.size w ((w'.setCell ⟨g, 0, none⟩ u).setCell ⟨g, 1, none⟩ v) := Below.setCell (Below.setCell h (p := ⟨g, 0, none⟩) hg u) (p := ⟨g, 1, none⟩) hg v
set_option maxHeartbeats 1000000 in
set_option maxRecDepth 100000 in
theorem read_any (s : ByteArray) (w : World) (hWd : Wds w) (hz : s.size ≤ 281474976710656) :
    Calls Tryd.prog 30 #[.string s] w fun e w' => e = .returned (.agg #[.int .i64 (numP s).1, .bool (numP s).2]) ∧ Below w.heap.size w w' := by
  obtain ⟨rn, rb, hr⟩ : ∃ rn rb, numP s = (rn, rb) := ⟨_, _, rfl⟩
  rw [hr]
  have HR := Lib.hid hr
  clear hr
  have hb0 : Below w.heap.size w (w.alloc (.cells #[.int .i64 0, .bool false] 55)) := (Below.refl _ w).alloc (Nat.le_refl _) _
  have hx0 : Nb (w.alloc (.cells #[.int .i64 0, .bool false] 55)) w.heap.size 0 false := heap_alloc_new w (.cells #[.int .i64 0, .bool false] 55)
  have hW1 := hWd.below hb0
  have hB0 := Lib.hid hb0
  have HX0 := Lib.hid hx0
  clear hb0 hx0
  have hsz : (w.alloc (.cells #[.int .i64 0, .bool false] 55)).heap.size = w.heap.size + 1 := Array.size_push _
  cases ha : Lib.atoiAll s.data.toList with
  | ok v =>
    have hv := atoiAll_bounds ha
    go_enter Tryd.func30, Tryd.ntmps30
    go_wp2_with fail
    refine (Tryd.strconv_Atoi_ok s (by omega) v ha _).mono ?_
    rintro e w1 ⟨rfl, hw1⟩
    have hb1 : Below (w.alloc (.cells #[.int .i64 0, .bool false] 55)).heap.size (w.alloc (.cells #[.int .i64 0, .bool false] 55)) w1 := by
      rcases hw1 with rfl | ⟨t, rfl⟩
      · exact Below.refl _ _
      · exact below_bytes _ _ _
    have hx1 := HX0.out.below hb1
    have hW2 := hW1.below hb1
    have hB1 := Lib.hid (hB0.out.trans (hb1.mono (by omega : w.heap.size ≤ _)))
    clear hw1 hb1 hB0 HX0 hW1
    have hr := HR.out
    unfold numP at hr
    rw [ha] at hr
    simp only at hr
    have HR2 := Lib.hid hr
    clear hr HR
    go_wp2_with fail
    refine (strconv_Itoa_20.calls v (itoaS v) _ hW2 (by unfold strconv_Itoa_20.f itoaS; rw [if_pos hv])).mono ?_
    rintro e w2 ⟨rfl, hb2⟩
    have hx2 := hx1.below hb2
    have hB2 := Lib.hid (hB1.out.trans (hb2.mono (Nat.le_of_lt (lt_of_block hx1))))
    clear hb2 hx1 hB1 hW2
    generalize itoaS v = t at *
    have hr := HR2.out
    clear HR2
    by_cases c1 : t = s
    · have c1b : (t.toList != s.toList) = false := by rw [bne_eq_false_iff_eq, c1]
      have c1c : (t.toList == s.toList) = true := beq_iff_eq.2 (by rw [c1])
      by_cases c2 : -1099511627776 ≤ v
      · have c2b : decide (v < -1099511627776) = false := decide_eq_false (by omega)
        by_cases c3 : v ≤ 1099511627776
        · have c3b : decide (1099511627776 < v) = false := decide_eq_false (by omega)
          rw [if_pos ⟨c1, c2, c3⟩] at hr
          simp only [Prod.mk.injEq] at hr
          obtain ⟨rfl, rfl⟩ := hr
          clear c1 c2 c3
          have d0 := hx2.c0
          have d1 := hx2.c1
          have f0 := hx2.fr 0
          have f1 := hx2.fr 1
          have hE := Lib.hid (hx2.set (n' := v) (b' := true))
          have hBE := Lib.hid (below_two hB2.out (Nat.le_refl _) (.int .i64 (v)) (.bool true))
          clear hx2 hB2
          go_wp2
          have hE := hE.out
          unfold Nb at hE
          refine bodyPost_ret (results_cell_row rfl _ _ w.heap.size 55 _ (0, 0) _ rfl hE Tryd.underlying55 rfl (by kernel_rfl)) rfl ?_
          exact ⟨rfl, hBE.out⟩
        · have c3b : decide (1099511627776 < v) = true := decide_eq_true (by omega)
          rw [if_neg (fun h => c3 h.2.2)] at hr
          simp only [Prod.mk.injEq] at hr
          obtain ⟨rfl, rfl⟩ := hr
          clear c1 c2 c3
          have d0 := hx2.c0
          have d1 := hx2.c1
          have f0 := hx2.fr 0
          have f1 := hx2.fr 1
          have hE := Lib.hid (hx2.set (n' := 0) (b' := false))
          have hBE := Lib.hid (below_two hB2.out (Nat.le_refl _) (.int .i64 (0)) (.bool false))
          clear hx2 hB2
          go_wp2
          have hE := hE.out
          unfold Nb at hE
          refine bodyPost_ret (results_cell_row rfl _ _ w.heap.size 55 _ (0, 0) _ rfl hE Tryd.underlying55 rfl (by kernel_rfl)) rfl ?_
          exact ⟨rfl, hBE.out⟩
      · have c2b : decide (v < -1099511627776) = true := decide_eq_true (by omega)
        rw [if_neg (fun h => c2 h.2.1)] at hr
        simp only [Prod.mk.injEq] at hr
        obtain ⟨rfl, rfl⟩ := hr
        clear c1 c2
        have d0 := hx2.c0
        have d1 := hx2.c1
        have f0 := hx2.fr 0
        have f1 := hx2.fr 1
        have hE := Lib.hid (hx2.set (n' := 0) (b' := false))
        have hBE := Lib.hid (below_two hB2.out (Nat.le_refl _) (.int .i64 (0)) (.bool false))
        clear hx2 hB2
        go_wp2
        have hE := hE.out
        unfold Nb at hE
        refine bodyPost_ret (results_cell_row rfl _ _ w.heap.size 55 _ (0, 0) _ rfl hE Tryd.underlying55 rfl (by kernel_rfl)) rfl ?_
        exact ⟨rfl, hBE.out⟩
    · have c1b : (t.toList != s.toList) = true := by rw [bne_iff_ne]; exact fun h => c1 (toList_iff.1 h)
      have c1c : (t.toList == s.toList) = false := beq_eq_false_iff_ne.2 (fun h => c1 (toList_iff.1 h))
      rw [if_neg (fun h => c1 h.1)] at hr
      simp only [Prod.mk.injEq] at hr
      obtain ⟨rfl, rfl⟩ := hr
      clear c1
      have d0 := hx2.c0
      have d1 := hx2.c1
      have f0 := hx2.fr 0
      have f1 := hx2.fr 1
      have hE := Lib.hid (hx2.set (n' := 0) (b' := false))
      have hBE := Lib.hid (below_two hB2.out (Nat.le_refl _) (.int .i64 (0)) (.bool false))
      clear hx2 hB2
      go_wp2
      have hE := hE.out
      unfold Nb at hE
      refine bodyPost_ret (results_cell_row rfl _ _ w.heap.size 55 _ (0, 0) _ rfl hE Tryd.underlying55 rfl (by kernel_rfl)) rfl ?_
      exact ⟨rfl, hBE.out⟩
  | «syntax» =>
    obtain ⟨tp, pv, hvar⟩ := hW1.errS
    have hr := HR.out
    unfold numP at hr
    rw [ha] at hr
    simp only [Prod.mk.injEq] at hr
    obtain ⟨rfl, rfl⟩ := hr
    clear HR
    go_enter Tryd.func30, Tryd.ntmps30
    go_wp2_with fail
    refine (Tryd.strconv_Atoi_syntax_var s hz ha tp pv _ hvar).mono ?_
    rintro e w2 ⟨N, rfl, _, _, hb2⟩
    have hx2 := HX0.out.below hb2
    have hB2 := Lib.hid (hB0.out.trans (hb2.mono (by omega : w.heap.size ≤ _)))
    clear hb2 HX0 hB0 hW1 hvar
    have d0 := hx2.c0
    have d1 := hx2.c1
    have f0 := hx2.fr 0
    have f1 := hx2.fr 1
    have hE := Lib.hid (hx2.set (n' := 0) (b' := false))
    have hBE := Lib.hid (below_two hB2.out (Nat.le_refl _) (.int .i64 (0)) (.bool false))
    clear hx2 hB2
    go_wp2
    have hE := hE.out
    unfold Nb at hE
    refine bodyPost_ret (results_cell_row rfl _ _ w.heap.size 55 _ (0, 0) _ rfl hE Tryd.underlying55 rfl (by kernel_rfl)) rfl ?_
    exact ⟨rfl, hBE.out⟩
  | range =>
    obtain ⟨tp, pv, hvar⟩ := hW1.errR
    have hr := HR.out
    unfold numP at hr
    rw [ha] at hr
    simp only [Prod.mk.injEq] at hr
    obtain ⟨rfl, rfl⟩ := hr
    clear HR
    go_enter Tryd.func30, Tryd.ntmps30
    go_wp2_with fail
    refine (Tryd.strconv_Atoi_range_var s hz ha tp pv _ hvar).mono ?_
    rintro e w2 ⟨N, rfl, _, _, hb2⟩
    have hx2 := HX0.out.below hb2
    have hB2 := Lib.hid (hB0.out.trans (hb2.mono (by omega : w.heap.size ≤ _)))
    clear hb2 HX0 hB0 hW1 hvar
    have d0 := hx2.c0
    have d1 := hx2.c1
    have f0 := hx2.fr 0
    have f1 := hx2.fr 1
    have hE := Lib.hid (hx2.set (n' := 0) (b' := false))
    have hBE := Lib.hid (below_two hB2.out (Nat.le_refl _) (.int .i64 (0)) (.bool false))
    clear hx2 hB2
    go_wp2
    have hE := hE.out
    unfold Nb at hE
    refine bodyPost_ret (results_cell_row rfl _ _ w.heap.size 55 _ (0, 0) _ rfl hE Tryd.underlying55 rfl (by kernel_rfl)) rfl ?_
    exact ⟨rfl, hBE.out⟩
end Go.Proofs.YtcmemgahgenpdaaDoor.Hand
end
section
namespace Go.Proofs.YtcmemgahgenpdaaDoor.PSc
open Go.Proofs.YtcmemgahgenpdaaDoor.Hand Go.RowKit Go.Proofs.YtcmemgahgenpdaaDoorW.PrintWords Go.Proofs.YtcmemgahgenpdaaDoorW.PrintLast Go.Proofs.YtcmemgahgenpdaaDoorW.PrintMore
attribute [local go_sem] max2_int min2_int max_two min_two max_three min_three max_four min_four
set_option linter.unusedVariables false
set_option linter.unusedSimpArgs false
def graftageref14_Digits.l0 : Nat → Int → ByteArray → Int → Option (ByteArray)
 | 0, _, _, _ => none
 | k + 1, x0, x3, x4 => if x4 = 0 then (if x3.toList = ([] : List UInt8) then ((some (([(wrap64 (48 + (mx (Int.tmod x4 10) (wrap64 (-(Int.tmod x4 10)))))) % 256] : List Int) : List Int)).bind fun y223 => (if (strOfNums y223).size + x3.size ≤ 9223372036854775807 then (graftageref14_Digits.l0 k x0 ((strOfNums y223) ++ x3) (wrap64 (Int.tdiv x4 10))) else (none))) else (if x0 < 0 then (if 1 + x3.size ≤ 9223372036854775807 then (some ((⟨#[45]⟩ : ByteArray) ++ x3)) else (none)) else (some x3))) else ((some (([(wrap64 (48 + (mx (Int.tmod x4 10) (wrap64 (-(Int.tmod x4 10)))))) % 256] : List Int) : List Int)).bind fun y226 => (if (strOfNums y226).size + x3.size ≤ 9223372036854775807 then (graftageref14_Digits.l0 k x0 ((strOfNums y226) ++ x3) (wrap64 (Int.tdiv x4 10))) else (none)))
def graftageref14_Digits.f (k : Nat) (a0 : Int) : Option (ByteArray) := graftageref14_Digits.l0 k a0 (⟨#[]⟩ : ByteArray) a0
set_option maxHeartbeats 8000000 in
set_option maxRecDepth 100000 in
theorem graftageref14_Digits.calls (k : Nat) (a0 : Int) (r : ByteArray) (w : World) (h : graftageref14_Digits.f k a0 = some r) :
  Calls Tryd.prog 25 #[.int .i64 a0] w fun e w' => e = .returned (.string r) ∧ Below w.heap.size w w' := by
 have HB := Aside0.mk (Below.refl w.heap.size w)
 have H : (graftageref14_Digits.l0 k a0 (⟨#[]⟩ : ByteArray) a0) = some r := h
 clear h
 have H' := Aside0.mk H
 clear H
 go_enter Tryd.func25, Tryd.ntmps25
 go_wp2
 go_loopg [3, 4] k (fun kq v3 v4 w' => ∃ (x3_1 : ByteArray) (x4_1 : Int), v3 = .string x3_1 ∧ v4 = .int .i64 x4_1 ∧ Aside0 (graftageref14_Digits.l0 kq a0 x3_1 x4_1 = some r) ∧ Aside0 (kq ≤ k) ∧ Aside0 (Below w.heap.size w w'))
 case atStart => exact ⟨((⟨#[]⟩ : ByteArray)), (a0), (by first | rfl | (simp; done) | (simp [*]; done)), (by first | rfl | (simp; done) | (simp [*]; done)), H', ⟨Nat.le_refl _⟩, ⟨by repeat (first | (with_reducible first | exact HB.out | apply below_alloc | apply pw_below_drewN | apply below_drew1) | exact HB.out)⟩⟩
 case round =>
  clear H'
  obtain ⟨x3_1, x4_1, rfl, rfl, HA, HK1, HB⟩ := hrel
  cases gk with
  | zero => exact absurd HA.out (by simp [graftageref14_Digits.l0])
  | succ k1 =>
   have H := HA.out
   clear HA
   simp only [graftageref14_Digits.l0] at H
   by_cases c2 : x4_1 = 0
   ·rw [if_pos c2] at H
    have c2b0 : (x4_1 == 0) = true := beq_iff_eq.mpr c2
    have c2b1 : (x4_1 != 0) = false := bne_eq_false_iff_eq.mpr c2
    clear c2
    by_cases c3 : x3_1.toList = ([] : List UInt8)
    ·rw [if_pos c3] at H
     have c3b0 : (x3_1.toList == ([] : List UInt8)) = true := beq_iff_eq.mpr c3
     have c3b1 : (x3_1.toList != ([] : List UInt8)) = false := bne_eq_false_iff_eq.mpr c3
     clear c3
     obtain ⟨ji4, hji4⟩ : ∃ j_ : Int, (mx (Int.tmod x4_1 10) (wrap64 (-(Int.tmod x4_1 10)))) = j_ := ⟨_, rfl⟩
     replace H : ((some (([(wrap64 (48 + (ji4))) % 256] : List Int) : List Int)).bind fun y223 => (if (strOfNums y223).size + x3_1.size ≤ 9223372036854775807 then (graftageref14_Digits.l0 k1 a0 ((strOfNums y223) ++ x3_1) (wrap64 (Int.tdiv x4_1 10))) else (none))) = some r := by first | (rw [hji4] at H; exact H) | (simp only [hji4] at H ⊢; exact H)
     have hji4_ : (if (Int.tmod x4_1 10) < (wrap64 (-(Int.tmod x4_1 10))) then (wrap64 (-(Int.tmod x4_1 10))) else (Int.tmod x4_1 10)) = ji4 := hji4
     obtain ⟨y223, hy223⟩ : ∃ y_ : List Int, y_ = (([(wrap64 (48 + (ji4))) % 256] : List Int)) := ⟨_, rfl⟩
     replace H : (if (strOfNums y223).size + x3_1.size ≤ 9223372036854775807 then (graftageref14_Digits.l0 k1 a0 ((strOfNums y223) ++ x3_1) (wrap64 (Int.tdiv x4_1 10))) else (none)) = some r := by first | (rw [hy223]; with_reducible exact H) | (have H2_ := (Option.bind_some _ _).symm.trans H; rw [hy223]; with_reducible exact H2_) | (have H2_ := (Option.bind_some _ _).symm.trans H; with_reducible exact H2_) | with_reducible exact H | (rw [hy223]; exact H) | exact H
     have Ny223 := Aside0.mk hy223
     clear hy223
     by_cases c5 : (strOfNums y223).size + x3_1.size ≤ 9223372036854775807
     ·rw [if_pos c5] at H
      have c5b0 := eq_true c5
      have c5b1 : decide ((strOfNums y223).size + x3_1.size ≤ 9223372036854775807) = true := decide_eq_true c5
      try have c5b2 : (9223372036854775807 < (strOfNums y223).size + x3_1.size) = False := eq_false (Nat.not_lt.2 c5)
      have H' := Aside0.mk H
      clear H
      go_wp2_with (first | ((with_reducible refine gate_dst (N := 23) rfl ?_); refine Kd.R_lit (Kd.int .u8) _ 5 ?hg (N := 23) ?hd (xs := ([(wrap64 (48 + (ji4))) % 256] : List Int)) (inner := [.int .u8 ((wrap64 (48 + (ji4))) % 256)]) (ok := fun _ => True) (okp := fun _ => True) ?hr ?hp (fun _ hk => hk) trivial (Below.refl _ _) (Nat.le_refl _) (by simp) ?_; (case hd => rfl); (case hg => rfl); (case hr => first | (go_simp; done) | (go_simp; rfl)); (case hp => exact (Reps.one (show Kd.M (Kd.int .u8) _ _ _ ((wrap64 (48 + (ji4))) % 256) [.int .u8 ((wrap64 (48 + (ji4))) % 256)] from rfl) (Reps.none _ _))); intro v224 w6 ho7 hb hg_ hnew_; clear hg_ hnew_; (first | rw [← Ny223.out] at ho7 | (simp only [Int.reduceToNat] at ho7; rw [← Ny223.out] at ho7)); have n0_ := Aside0.mk (Kd.R_lower ho7 (below_size (by repeat (first | (with_reducible first | exact HB.out | apply below_alloc | apply pw_below_drewN | apply below_drew1) | exact HB.out)))); have n1_ := Aside0.mk (below_step (by repeat (first | (with_reducible first | exact HB.out | apply below_alloc | apply pw_below_drewN | apply below_drew1) | exact HB.out)) hb); clear HB; have HO225 := n0_; have HB := n1_; clear n0_ n1_; clear hb ho7; have hcv8 := own_string (P := Tryd.prog) Tryd.underlying62 Tryd.underlying5 Tryd.underlying9 (Kd.own_of_R HO225.out)))
      go_roundg k1
      case measure => have := HK1.out; omega
      case rel => exact ⟨((strOfNums y223) ++ x3_1), (wrap64 (Int.tdiv x4_1 10)), (by first | rfl | (simp; done) | (simp [*]; done)), (by first | rfl | (simp; done) | (simp [*]; done)), H', ⟨by have := HK1.out; omega⟩, ⟨by repeat (first | (with_reducible first | exact HB.out | apply below_alloc | apply pw_below_drewN | apply below_drew1) | exact HB.out)⟩⟩
     ·rw [if_neg c5] at H
      exact absurd H (by simp)
    ·rw [if_neg c3] at H
     have c3b0 : (x3_1.toList == ([] : List UInt8)) = false := beq_eq_false_iff_ne.mpr c3
     have c3b1 : (x3_1.toList != ([] : List UInt8)) = true := bne_iff_ne.mpr c3
     by_cases c9 : a0 < 0
     ·rw [if_pos c9] at H
      have c9b0 : decide (a0 < 0) = true := decide_eq_true c9
      clear c9
      by_cases c10 : 1 + x3_1.size ≤ 9223372036854775807
      ·rw [if_pos c10] at H
       have c10b0 := eq_true c10
       have c10b1 : decide (1 + x3_1.size ≤ 9223372036854775807) = true := decide_eq_true c10
       try have c10b2 : (9223372036854775807 < 1 + x3_1.size) = False := eq_false (Nat.not_lt.2 c10)
       obtain rfl := Option.some.inj H
       go_wp2
       go_ret
       exact ⟨by first | rfl | (simp [errW_none, errW_some] <;> rfl) | (simp [*, errW_none, errW_some] <;> rfl), by repeat (first | (with_reducible first | exact HB.out | apply below_alloc | apply pw_below_drewN | apply below_drew1) | exact HB.out)⟩
      ·rw [if_neg c10] at H
       exact absurd H (by simp)
     ·rw [if_neg c9] at H
      have c9b0 : decide (a0 < 0) = false := decide_eq_false c9
      clear c9
      obtain rfl := Option.some.inj H
      go_wp2
      go_ret
      exact ⟨by first | rfl | (simp [errW_none, errW_some] <;> rfl) | (simp [*, errW_none, errW_some] <;> rfl), by repeat (first | (with_reducible first | exact HB.out | apply below_alloc | apply pw_below_drewN | apply below_drew1) | exact HB.out)⟩
   ·rw [if_neg c2] at H
    have c2b0 : (x4_1 == 0) = false := beq_eq_false_iff_ne.mpr c2
    have c2b1 : (x4_1 != 0) = true := bne_iff_ne.mpr c2
    obtain ⟨ji11, hji11⟩ : ∃ j_ : Int, (mx (Int.tmod x4_1 10) (wrap64 (-(Int.tmod x4_1 10)))) = j_ := ⟨_, rfl⟩
    replace H : ((some (([(wrap64 (48 + (ji11))) % 256] : List Int) : List Int)).bind fun y226 => (if (strOfNums y226).size + x3_1.size ≤ 9223372036854775807 then (graftageref14_Digits.l0 k1 a0 ((strOfNums y226) ++ x3_1) (wrap64 (Int.tdiv x4_1 10))) else (none))) = some r := by first | (rw [hji11] at H; exact H) | (simp only [hji11] at H ⊢; exact H)
    have hji11_ : (if (Int.tmod x4_1 10) < (wrap64 (-(Int.tmod x4_1 10))) then (wrap64 (-(Int.tmod x4_1 10))) else (Int.tmod x4_1 10)) = ji11 := hji11
    obtain ⟨y226, hy226⟩ : ∃ y_ : List Int, y_ = (([(wrap64 (48 + (ji11))) % 256] : List Int)) := ⟨_, rfl⟩
    replace H : (if (strOfNums y226).size + x3_1.size ≤ 9223372036854775807 then (graftageref14_Digits.l0 k1 a0 ((strOfNums y226) ++ x3_1) (wrap64 (Int.tdiv x4_1 10))) else (none)) = some r := by first | (rw [hy226]; with_reducible exact H) | (have H2_ := (Option.bind_some _ _).symm.trans H; rw [hy226]; with_reducible exact H2_) | (have H2_ := (Option.bind_some _ _).symm.trans H; with_reducible exact H2_) | with_reducible exact H | (rw [hy226]; exact H) | exact H
    have Ny226 := Aside0.mk hy226
    clear hy226
    by_cases c12 : (strOfNums y226).size + x3_1.size ≤ 9223372036854775807
    ·rw [if_pos c12] at H
     have c12b0 := eq_true c12
     have c12b1 : decide ((strOfNums y226).size + x3_1.size ≤ 9223372036854775807) = true := decide_eq_true c12
     try have c12b2 : (9223372036854775807 < (strOfNums y226).size + x3_1.size) = False := eq_false (Nat.not_lt.2 c12)
     have H' := Aside0.mk H
     clear H
     go_wp2_with (first | ((with_reducible refine gate_dst (N := 23) rfl ?_); refine Kd.R_lit (Kd.int .u8) _ 5 ?hg (N := 23) ?hd (xs := ([(wrap64 (48 + (ji11))) % 256] : List Int)) (inner := [.int .u8 ((wrap64 (48 + (ji11))) % 256)]) (ok := fun _ => True) (okp := fun _ => True) ?hr ?hp (fun _ hk => hk) trivial (Below.refl _ _) (Nat.le_refl _) (by simp) ?_; (case hd => rfl); (case hg => rfl); (case hr => first | (go_simp; done) | (go_simp; rfl)); (case hp => exact (Reps.one (show Kd.M (Kd.int .u8) _ _ _ ((wrap64 (48 + (ji11))) % 256) [.int .u8 ((wrap64 (48 + (ji11))) % 256)] from rfl) (Reps.none _ _))); intro v227 w13 ho14 hb hg_ hnew_; clear hg_ hnew_; (first | rw [← Ny226.out] at ho14 | (simp only [Int.reduceToNat] at ho14; rw [← Ny226.out] at ho14)); have n0_ := Aside0.mk (Kd.R_lower ho14 (below_size (by repeat (first | (with_reducible first | exact HB.out | apply below_alloc | apply pw_below_drewN | apply below_drew1) | exact HB.out)))); have n1_ := Aside0.mk (below_step (by repeat (first | (with_reducible first | exact HB.out | apply below_alloc | apply pw_below_drewN | apply below_drew1) | exact HB.out)) hb); clear HB; have HO228 := n0_; have HB := n1_; clear n0_ n1_; clear hb ho14; have hcv15 := own_string (P := Tryd.prog) Tryd.underlying62 Tryd.underlying5 Tryd.underlying9 (Kd.own_of_R HO228.out)))
     go_roundg k1
     case measure => have := HK1.out; omega
     case rel => exact ⟨((strOfNums y226) ++ x3_1), (wrap64 (Int.tdiv x4_1 10)), (by first | rfl | (simp; done) | (simp [*]; done)), (by first | rfl | (simp; done) | (simp [*]; done)), H', ⟨by have := HK1.out; omega⟩, ⟨by repeat (first | (with_reducible first | exact HB.out | apply below_alloc | apply pw_below_drewN | apply below_drew1) | exact HB.out)⟩⟩
    ·rw [if_neg c12] at H
     exact absurd H (by simp)
def graftageref14_Find.l0 : Nat → ByteArray → Int → Int → Option (Int)
 | 0, _, _, _ => none
 | k + 1, x0, x1, x7 => if x7 < (x0.size : Int) then (if 0 ≤ x7 then (if (bt x0 x7) = x1 then (some x7) else (graftageref14_Find.l0 k x0 x1 (wrap64 (x7 + 1)))) else (none)) else (some (-1))
def graftageref14_Find.f (k : Nat) (a0 : ByteArray) (a1 : Int) (a2 : Int) : Option (Int) := graftageref14_Find.l0 k a0 a1 a2
theorem graftageref14_Find.mono_l : ∀ k, (∀ y0 y1 y2, LeO (graftageref14_Find.l0 k y0 y1 y2) (graftageref14_Find.l0 (k + 1) y0 y1 y2))
 | 0 => fun _ _ _ r h => by simp [graftageref14_Find.l0] at h
 | k + 1 => by
  have ih0 := graftageref14_Find.mono_l k
  ·intro y0 y1 y2
   unfold graftageref14_Find.l0
   repeat' first
   | (with_reducible exact ih0 _ _ _)
   | (with_reducible exact LeO.refl _)
   | (with_reducible exact LeO.none _)
   | (with_reducible refine LeO.ite ?_ ?_)
   | (with_reducible refine LeO.bind ?_ (fun _ => ?_))
   | exact ih0 _ _ _
   | exact LeO.none _
   | refine LeO.ite ?_ ?_
   | refine LeO.bind ?_ (fun _ => ?_)
theorem graftageref14_Find.mono : ∀ a0 a1 a2 k, LeO (graftageref14_Find.f k a0 a1 a2) (graftageref14_Find.f (k + 1) a0 a1 a2) := by
 intro a0 a1 a2 k
 have ih0 := graftageref14_Find.mono_l k
 unfold graftageref14_Find.f
 repeat' first
   | (with_reducible exact ih0 _ _ _)
   | (with_reducible exact LeO.refl _)
   | (with_reducible exact LeO.none _)
   | (with_reducible refine LeO.ite ?_ ?_)
   | (with_reducible refine LeO.bind ?_ (fun _ => ?_))
   | exact ih0 _ _ _
   | exact LeO.none _
   | refine LeO.ite ?_ ?_
   | refine LeO.bind ?_ (fun _ => ?_)
set_option maxHeartbeats 8000000 in
set_option maxRecDepth 100000 in
theorem graftageref14_Find.calls (k : Nat) (a0 : ByteArray) (a1 : Int) (a2 : Int) (r : Int) (w : World) (h : graftageref14_Find.f k a0 a1 a2 = some r) :
  Calls Tryd.prog 54 #[.string a0, .int .u8 a1, .int .i64 a2] w fun e w' => e = .returned (.int .i64 r) ∧ Drawn0 w w' := by
 have H : (graftageref14_Find.l0 k a0 a1 a2) = some r := h
 clear h
 have H' := Aside0.mk H
 clear H
 go_enter Tryd.func54, Tryd.ntmps54
 go_wp2
 go_loopg [7] k (fun kq v7 w' => ∃ (x7_1 : Int), v7 = .int .i64 x7_1 ∧ Aside0 (graftageref14_Find.l0 kq a0 a1 x7_1 = some r) ∧ Aside0 (kq ≤ k) ∧ Drawn0 w w')
 case atStart => exact ⟨(a2), (by first | rfl | (simp; done) | (simp [*]; done)), H', ⟨Nat.le_refl _⟩, by repeat (first | exact Drawn0.refl _ | apply Drawn0.step)⟩
 case round =>
  clear H'
  try clear p2
  obtain ⟨x7_1, rfl, HA, HK1, ⟨m1, rfl⟩⟩ := hrel
  cases gk with
  | zero => exact absurd HA.out (by simp [graftageref14_Find.l0])
  | succ k1 =>
   have H := HA.out
   clear HA
   simp only [graftageref14_Find.l0] at H
   by_cases c4 : x7_1 < (a0.size : Int)
   ·rw [if_pos c4] at H
    have c4b0 : decide (x7_1 < (a0.size : Int)) = true := decide_eq_true c4
    clear c4
    by_cases c5 : 0 ≤ x7_1
    ·rw [if_pos c5] at H
     have c5b0 : decide (0 ≤ x7_1) = true := decide_eq_true c5
     clear c5
     by_cases c7 : (bt a0 x7_1) = a1
     ·rw [if_pos c7] at H
      have c7b0 : ((bt a0 x7_1) == a1) = true := beq_iff_eq.mpr c7
      have c7b1 : ((bt a0 x7_1) != a1) = false := bne_eq_false_iff_eq.mpr c7
      clear c7
      obtain rfl := Option.some.inj H
      have p6 : 0 ≤ (x7_1 : Int) := of_decide_eq_true (by first | (with_reducible assumption) | assumption)
      have q6 : x7_1 < (a0.size : Int) := of_decide_eq_true (by first | (with_reducible assumption) | assumption)
      have hx6 := bt_at a0 x7_1
      replace p6 := eq_true p6
      replace q6 := eq_true q6
      go_wp2
      go_ret
      exact ⟨by first | rfl | (simp; done) | (simp [*]; done), by repeat (first | exact Drawn0.refl _ | apply Drawn0.step)⟩
     ·rw [if_neg c7] at H
      have c7b0 : ((bt a0 x7_1) == a1) = false := beq_eq_false_iff_ne.mpr c7
      have c7b1 : ((bt a0 x7_1) != a1) = true := bne_iff_ne.mpr c7
      have H' := Aside0.mk H
      clear H
      have p6 : 0 ≤ (x7_1 : Int) := of_decide_eq_true (by first | (with_reducible assumption) | assumption)
      have q6 : x7_1 < (a0.size : Int) := of_decide_eq_true (by first | (with_reducible assumption) | assumption)
      have hx6 := bt_at a0 x7_1
      replace p6 := eq_true p6
      replace q6 := eq_true q6
      go_wp2
      go_roundg k1
      case measure => have := HK1.out; omega
      case rel => exact ⟨(wrap64 (x7_1 + 1)), (by first | rfl | (simp; done) | (simp [*]; done)), H', ⟨by have := HK1.out; omega⟩, by repeat (first | exact Drawn0.refl _ | apply Drawn0.step)⟩
    ·rw [if_neg c5] at H
     exact absurd H (by simp)
   ·rw [if_neg c4] at H
    have c4b0 : decide (x7_1 < (a0.size : Int)) = false := decide_eq_false c4
    clear c4
    obtain rfl := Option.some.inj H
    go_wp2
    go_ret
    exact ⟨by first | rfl | (simp; done) | (simp [*]; done), by repeat (first | exact Drawn0.refl _ | apply Drawn0.step)⟩
def graftageref56_plain.f (k : Nat) (a0 : Int) : Option (Bool) := if a0 ≥ 97 then (if a0 ≤ 122 then (some true) else (if a0 ≥ 65 then (if a0 ≤ 90 then (some true) else (if a0 ≥ 48 then (if a0 ≤ 57 then (some true) else ((graftageref14_Find.f k (⟨#[46, 47, 95, 58, 64, 94, 126, 43]⟩ : ByteArray) a0 0).bind fun t229 => (some (decide (t229 ≥ 0))))) else ((graftageref14_Find.f k (⟨#[46, 47, 95, 58, 64, 94, 126, 43]⟩ : ByteArray) a0 0).bind fun t230 => (some (decide (t230 ≥ 0)))))) else (if a0 ≥ 48 then (if a0 ≤ 57 then (some true) else ((graftageref14_Find.f k (⟨#[46, 47, 95, 58, 64, 94, 126, 43]⟩ : ByteArray) a0 0).bind fun t231 => (some (decide (t231 ≥ 0))))) else ((graftageref14_Find.f k (⟨#[46, 47, 95, 58, 64, 94, 126, 43]⟩ : ByteArray) a0 0).bind fun t232 => (some (decide (t232 ≥ 0))))))) else (if a0 ≥ 65 then (if a0 ≤ 90 then (some true) else (if a0 ≥ 48 then (if a0 ≤ 57 then (some true) else ((graftageref14_Find.f k (⟨#[46, 47, 95, 58, 64, 94, 126, 43]⟩ : ByteArray) a0 0).bind fun t233 => (some (decide (t233 ≥ 0))))) else ((graftageref14_Find.f k (⟨#[46, 47, 95, 58, 64, 94, 126, 43]⟩ : ByteArray) a0 0).bind fun t234 => (some (decide (t234 ≥ 0)))))) else (if a0 ≥ 48 then (if a0 ≤ 57 then (some true) else ((graftageref14_Find.f k (⟨#[46, 47, 95, 58, 64, 94, 126, 43]⟩ : ByteArray) a0 0).bind fun t235 => (some (decide (t235 ≥ 0))))) else ((graftageref14_Find.f k (⟨#[46, 47, 95, 58, 64, 94, 126, 43]⟩ : ByteArray) a0 0).bind fun t236 => (some (decide (t236 ≥ 0))))))
theorem graftageref56_plain.mono : ∀ a0 k, LeO (graftageref56_plain.f k a0) (graftageref56_plain.f (k + 1) a0) := by
 intro a0 k
 unfold graftageref56_plain.f
 repeat' first
   | (with_reducible exact graftageref14_Find.mono _ _ _ _)
   | (with_reducible exact LeO.refl _)
   | (with_reducible exact LeO.none _)
   | (with_reducible refine LeO.ite ?_ ?_)
   | (with_reducible refine LeO.bind ?_ (fun _ => ?_))
   | exact graftageref14_Find.mono _ _ _ _
   | exact LeO.none _
   | refine LeO.ite ?_ ?_
   | refine LeO.bind ?_ (fun _ => ?_)
set_option maxHeartbeats 8000000 in
set_option maxRecDepth 100000 in
theorem graftageref56_plain.calls (k : Nat) (a0 : Int) (r : Bool) (w : World) (h : graftageref56_plain.f k a0 = some r) :
  Calls Tryd.prog 42 #[.int .u8 a0] w fun e w' => e = .returned (.bool r) ∧ Drawn0 w w' := by
 have H : (if a0 ≥ 97 then (if a0 ≤ 122 then (some true) else (if a0 ≥ 65 then (if a0 ≤ 90 then (some true) else (if a0 ≥ 48 then (if a0 ≤ 57 then (some true) else ((graftageref14_Find.f k (⟨#[46, 47, 95, 58, 64, 94, 126, 43]⟩ : ByteArray) a0 0).bind fun t229 => (some (decide (t229 ≥ 0))))) else ((graftageref14_Find.f k (⟨#[46, 47, 95, 58, 64, 94, 126, 43]⟩ : ByteArray) a0 0).bind fun t230 => (some (decide (t230 ≥ 0)))))) else (if a0 ≥ 48 then (if a0 ≤ 57 then (some true) else ((graftageref14_Find.f k (⟨#[46, 47, 95, 58, 64, 94, 126, 43]⟩ : ByteArray) a0 0).bind fun t231 => (some (decide (t231 ≥ 0))))) else ((graftageref14_Find.f k (⟨#[46, 47, 95, 58, 64, 94, 126, 43]⟩ : ByteArray) a0 0).bind fun t232 => (some (decide (t232 ≥ 0))))))) else (if a0 ≥ 65 then (if a0 ≤ 90 then (some true) else (if a0 ≥ 48 then (if a0 ≤ 57 then (some true) else ((graftageref14_Find.f k (⟨#[46, 47, 95, 58, 64, 94, 126, 43]⟩ : ByteArray) a0 0).bind fun t233 => (some (decide (t233 ≥ 0))))) else ((graftageref14_Find.f k (⟨#[46, 47, 95, 58, 64, 94, 126, 43]⟩ : ByteArray) a0 0).bind fun t234 => (some (decide (t234 ≥ 0)))))) else (if a0 ≥ 48 then (if a0 ≤ 57 then (some true) else ((graftageref14_Find.f k (⟨#[46, 47, 95, 58, 64, 94, 126, 43]⟩ : ByteArray) a0 0).bind fun t235 => (some (decide (t235 ≥ 0))))) else ((graftageref14_Find.f k (⟨#[46, 47, 95, 58, 64, 94, 126, 43]⟩ : ByteArray) a0 0).bind fun t236 => (some (decide (t236 ≥ 0))))))) = some r := h
 clear h
 by_cases c2 : a0 ≥ 97
 ·rw [if_pos c2] at H
  have c2b0 : decide (97 ≤ a0) = true := decide_eq_true c2
  clear c2
  by_cases c3 : a0 ≤ 122
  ·rw [if_pos c3] at H
   have c3b0 : decide (a0 ≤ 122) = true := decide_eq_true c3
   clear c3
   obtain rfl := Option.some.inj H
   go_enter Tryd.func42, Tryd.ntmps42
   go_wp2
   go_ret
   exact ⟨by first | rfl | (simp; done) | (simp [*]; done), by repeat (first | exact Drawn0.refl _ | apply Drawn0.step)⟩
  ·rw [if_neg c3] at H
   have c3b0 : decide (a0 ≤ 122) = false := decide_eq_false c3
   clear c3
   by_cases c4 : a0 ≥ 65
   ·rw [if_pos c4] at H
    have c4b0 : decide (65 ≤ a0) = true := decide_eq_true c4
    clear c4
    by_cases c5 : a0 ≤ 90
    ·rw [if_pos c5] at H
     have c5b0 : decide (a0 ≤ 90) = true := decide_eq_true c5
     clear c5
     obtain rfl := Option.some.inj H
     go_enter Tryd.func42, Tryd.ntmps42
     go_wp2
     go_ret
     exact ⟨by first | rfl | (simp; done) | (simp [*]; done), by repeat (first | exact Drawn0.refl _ | apply Drawn0.step)⟩
    ·rw [if_neg c5] at H
     have c5b0 : decide (a0 ≤ 90) = false := decide_eq_false c5
     clear c5
     by_cases c6 : a0 ≥ 48
     ·rw [if_pos c6] at H
      have c6b0 : decide (48 ≤ a0) = true := decide_eq_true c6
      clear c6
      by_cases c7 : a0 ≤ 57
      ·rw [if_pos c7] at H
       have c7b0 : decide (a0 ≤ 57) = true := decide_eq_true c7
       clear c7
       obtain rfl := Option.some.inj H
       go_enter Tryd.func42, Tryd.ntmps42
       go_wp2
       go_ret
       exact ⟨by first | rfl | (simp; done) | (simp [*]; done), by repeat (first | exact Drawn0.refl _ | apply Drawn0.step)⟩
      ·rw [if_neg c7] at H
       have c7b0 : decide (a0 ≤ 57) = false := decide_eq_false c7
       clear c7
       replace H := Option.bind_eq_some_iff.mp H
       obtain ⟨t229, A80, H⟩ := H
       replace H : (some (decide (t229 ≥ 0))) = some r := H
       have A8 := Aside0.mk A80
       clear A80
       obtain rfl := Option.some.inj H
       go_enter Tryd.func42, Tryd.ntmps42
       go_wp2_with (first | ((with_reducible refine gate_callee (f := 54) rfl ?_); refine goesL_ (some 26) rfl rfl Tryd.func54 (by kernel_rfl) rfl #[.string (⟨#[46, 47, 95, 58, 64, 94, 126, 43]⟩ : ByteArray), .int .u8 a0, .int .i64 0] rfl (by (try simp only [List.map_toArray, List.map_cons, List.map_nil]); first | done | rfl | (simp only [List.length_drop, List.length_take]; rfl)) ?_; (with_reducible refine (graftageref14_Find.calls k (⟨#[46, 47, 95, 58, 64, 94, 126, 43]⟩ : ByteArray) a0 0 t229 _ A8.out).mono ?_); rintro e w' ⟨rfl, ⟨nd, rfl⟩⟩; refine ⟨_, rfl, ?_⟩))
       go_ret
       exact ⟨by first | rfl | (simp; done) | (simp [*]; done), by repeat (first | exact Drawn0.refl _ | apply Drawn0.step)⟩
     ·rw [if_neg c6] at H
      have c6b0 : decide (48 ≤ a0) = false := decide_eq_false c6
      clear c6
      replace H := Option.bind_eq_some_iff.mp H
      obtain ⟨t230, A90, H⟩ := H
      replace H : (some (decide (t230 ≥ 0))) = some r := H
      have A9 := Aside0.mk A90
      clear A90
      obtain rfl := Option.some.inj H
      go_enter Tryd.func42, Tryd.ntmps42
      go_wp2_with (first | ((with_reducible refine gate_callee (f := 54) rfl ?_); refine goesL_ (some 26) rfl rfl Tryd.func54 (by kernel_rfl) rfl #[.string (⟨#[46, 47, 95, 58, 64, 94, 126, 43]⟩ : ByteArray), .int .u8 a0, .int .i64 0] rfl (by (try simp only [List.map_toArray, List.map_cons, List.map_nil]); first | done | rfl | (simp only [List.length_drop, List.length_take]; rfl)) ?_; (with_reducible refine (graftageref14_Find.calls k (⟨#[46, 47, 95, 58, 64, 94, 126, 43]⟩ : ByteArray) a0 0 t230 _ A9.out).mono ?_); rintro e w' ⟨rfl, ⟨nd, rfl⟩⟩; refine ⟨_, rfl, ?_⟩))
      go_ret
      exact ⟨by first | rfl | (simp; done) | (simp [*]; done), by repeat (first | exact Drawn0.refl _ | apply Drawn0.step)⟩
   ·rw [if_neg c4] at H
    have c4b0 : decide (65 ≤ a0) = false := decide_eq_false c4
    clear c4
    by_cases c10 : a0 ≥ 48
    ·rw [if_pos c10] at H
     have c10b0 : decide (48 ≤ a0) = true := decide_eq_true c10
     clear c10
     by_cases c11 : a0 ≤ 57
     ·rw [if_pos c11] at H
      have c11b0 : decide (a0 ≤ 57) = true := decide_eq_true c11
      clear c11
      obtain rfl := Option.some.inj H
      go_enter Tryd.func42, Tryd.ntmps42
      go_wp2
      go_ret
      exact ⟨by first | rfl | (simp; done) | (simp [*]; done), by repeat (first | exact Drawn0.refl _ | apply Drawn0.step)⟩
     ·rw [if_neg c11] at H
      have c11b0 : decide (a0 ≤ 57) = false := decide_eq_false c11
      clear c11
      replace H := Option.bind_eq_some_iff.mp H
      obtain ⟨t231, A120, H⟩ := H
      replace H : (some (decide (t231 ≥ 0))) = some r := H
      have A12 := Aside0.mk A120
      clear A120
      obtain rfl := Option.some.inj H
      go_enter Tryd.func42, Tryd.ntmps42
      go_wp2_with (first | ((with_reducible refine gate_callee (f := 54) rfl ?_); refine goesL_ (some 26) rfl rfl Tryd.func54 (by kernel_rfl) rfl #[.string (⟨#[46, 47, 95, 58, 64, 94, 126, 43]⟩ : ByteArray), .int .u8 a0, .int .i64 0] rfl (by (try simp only [List.map_toArray, List.map_cons, List.map_nil]); first | done | rfl | (simp only [List.length_drop, List.length_take]; rfl)) ?_; (with_reducible refine (graftageref14_Find.calls k (⟨#[46, 47, 95, 58, 64, 94, 126, 43]⟩ : ByteArray) a0 0 t231 _ A12.out).mono ?_); rintro e w' ⟨rfl, ⟨nd, rfl⟩⟩; refine ⟨_, rfl, ?_⟩))
      go_ret
      exact ⟨by first | rfl | (simp; done) | (simp [*]; done), by repeat (first | exact Drawn0.refl _ | apply Drawn0.step)⟩
    ·rw [if_neg c10] at H
     have c10b0 : decide (48 ≤ a0) = false := decide_eq_false c10
     clear c10
     replace H := Option.bind_eq_some_iff.mp H
     obtain ⟨t232, A130, H⟩ := H
     replace H : (some (decide (t232 ≥ 0))) = some r := H
     have A13 := Aside0.mk A130
     clear A130
     obtain rfl := Option.some.inj H
     go_enter Tryd.func42, Tryd.ntmps42
     go_wp2_with (first | ((with_reducible refine gate_callee (f := 54) rfl ?_); refine goesL_ (some 26) rfl rfl Tryd.func54 (by kernel_rfl) rfl #[.string (⟨#[46, 47, 95, 58, 64, 94, 126, 43]⟩ : ByteArray), .int .u8 a0, .int .i64 0] rfl (by (try simp only [List.map_toArray, List.map_cons, List.map_nil]); first | done | rfl | (simp only [List.length_drop, List.length_take]; rfl)) ?_; (with_reducible refine (graftageref14_Find.calls k (⟨#[46, 47, 95, 58, 64, 94, 126, 43]⟩ : ByteArray) a0 0 t232 _ A13.out).mono ?_); rintro e w' ⟨rfl, ⟨nd, rfl⟩⟩; refine ⟨_, rfl, ?_⟩))
     go_ret
     exact ⟨by first | rfl | (simp; done) | (simp [*]; done), by repeat (first | exact Drawn0.refl _ | apply Drawn0.step)⟩
 ·rw [if_neg c2] at H
  have c2b0 : decide (97 ≤ a0) = false := decide_eq_false c2
  clear c2
  by_cases c14 : a0 ≥ 65
  ·rw [if_pos c14] at H
   have c14b0 : decide (65 ≤ a0) = true := decide_eq_true c14
   clear c14
   by_cases c15 : a0 ≤ 90
   ·rw [if_pos c15] at H
    have c15b0 : decide (a0 ≤ 90) = true := decide_eq_true c15
    clear c15
    obtain rfl := Option.some.inj H
    go_enter Tryd.func42, Tryd.ntmps42
    go_wp2
    go_ret
    exact ⟨by first | rfl | (simp; done) | (simp [*]; done), by repeat (first | exact Drawn0.refl _ | apply Drawn0.step)⟩
   ·rw [if_neg c15] at H
    have c15b0 : decide (a0 ≤ 90) = false := decide_eq_false c15
    clear c15
    by_cases c16 : a0 ≥ 48
    ·rw [if_pos c16] at H
     have c16b0 : decide (48 ≤ a0) = true := decide_eq_true c16
     clear c16
     by_cases c17 : a0 ≤ 57
     ·rw [if_pos c17] at H
      have c17b0 : decide (a0 ≤ 57) = true := decide_eq_true c17
      clear c17
      obtain rfl := Option.some.inj H
      go_enter Tryd.func42, Tryd.ntmps42
      go_wp2
      go_ret
      exact ⟨by first | rfl | (simp; done) | (simp [*]; done), by repeat (first | exact Drawn0.refl _ | apply Drawn0.step)⟩
     ·rw [if_neg c17] at H
      have c17b0 : decide (a0 ≤ 57) = false := decide_eq_false c17
      clear c17
      replace H := Option.bind_eq_some_iff.mp H
      obtain ⟨t233, A180, H⟩ := H
      replace H : (some (decide (t233 ≥ 0))) = some r := H
      have A18 := Aside0.mk A180
      clear A180
      obtain rfl := Option.some.inj H
      go_enter Tryd.func42, Tryd.ntmps42
      go_wp2_with (first | ((with_reducible refine gate_callee (f := 54) rfl ?_); refine goesL_ (some 26) rfl rfl Tryd.func54 (by kernel_rfl) rfl #[.string (⟨#[46, 47, 95, 58, 64, 94, 126, 43]⟩ : ByteArray), .int .u8 a0, .int .i64 0] rfl (by (try simp only [List.map_toArray, List.map_cons, List.map_nil]); first | done | rfl | (simp only [List.length_drop, List.length_take]; rfl)) ?_; (with_reducible refine (graftageref14_Find.calls k (⟨#[46, 47, 95, 58, 64, 94, 126, 43]⟩ : ByteArray) a0 0 t233 _ A18.out).mono ?_); rintro e w' ⟨rfl, ⟨nd, rfl⟩⟩; refine ⟨_, rfl, ?_⟩))
      go_ret
      exact ⟨by first | rfl | (simp; done) | (simp [*]; done), by repeat (first | exact Drawn0.refl _ | apply Drawn0.step)⟩
    ·rw [if_neg c16] at H
     have c16b0 : decide (48 ≤ a0) = false := decide_eq_false c16
     clear c16
     replace H := Option.bind_eq_some_iff.mp H
     obtain ⟨t234, A190, H⟩ := H
     replace H : (some (decide (t234 ≥ 0))) = some r := H
     have A19 := Aside0.mk A190
     clear A190
     obtain rfl := Option.some.inj H
     go_enter Tryd.func42, Tryd.ntmps42
     go_wp2_with (first | ((with_reducible refine gate_callee (f := 54) rfl ?_); refine goesL_ (some 26) rfl rfl Tryd.func54 (by kernel_rfl) rfl #[.string (⟨#[46, 47, 95, 58, 64, 94, 126, 43]⟩ : ByteArray), .int .u8 a0, .int .i64 0] rfl (by (try simp only [List.map_toArray, List.map_cons, List.map_nil]); first | done | rfl | (simp only [List.length_drop, List.length_take]; rfl)) ?_; (with_reducible refine (graftageref14_Find.calls k (⟨#[46, 47, 95, 58, 64, 94, 126, 43]⟩ : ByteArray) a0 0 t234 _ A19.out).mono ?_); rintro e w' ⟨rfl, ⟨nd, rfl⟩⟩; refine ⟨_, rfl, ?_⟩))
     go_ret
     exact ⟨by first | rfl | (simp; done) | (simp [*]; done), by repeat (first | exact Drawn0.refl _ | apply Drawn0.step)⟩
  ·rw [if_neg c14] at H
   have c14b0 : decide (65 ≤ a0) = false := decide_eq_false c14
   clear c14
   by_cases c20 : a0 ≥ 48
   ·rw [if_pos c20] at H
    have c20b0 : decide (48 ≤ a0) = true := decide_eq_true c20
    clear c20
    by_cases c21 : a0 ≤ 57
    ·rw [if_pos c21] at H
     have c21b0 : decide (a0 ≤ 57) = true := decide_eq_true c21
     clear c21
     obtain rfl := Option.some.inj H
     go_enter Tryd.func42, Tryd.ntmps42
     go_wp2
     go_ret
     exact ⟨by first | rfl | (simp; done) | (simp [*]; done), by repeat (first | exact Drawn0.refl _ | apply Drawn0.step)⟩
    ·rw [if_neg c21] at H
     have c21b0 : decide (a0 ≤ 57) = false := decide_eq_false c21
     clear c21
     replace H := Option.bind_eq_some_iff.mp H
     obtain ⟨t235, A220, H⟩ := H
     replace H : (some (decide (t235 ≥ 0))) = some r := H
     have A22 := Aside0.mk A220
     clear A220
     obtain rfl := Option.some.inj H
     go_enter Tryd.func42, Tryd.ntmps42
     go_wp2_with (first | ((with_reducible refine gate_callee (f := 54) rfl ?_); refine goesL_ (some 26) rfl rfl Tryd.func54 (by kernel_rfl) rfl #[.string (⟨#[46, 47, 95, 58, 64, 94, 126, 43]⟩ : ByteArray), .int .u8 a0, .int .i64 0] rfl (by (try simp only [List.map_toArray, List.map_cons, List.map_nil]); first | done | rfl | (simp only [List.length_drop, List.length_take]; rfl)) ?_; (with_reducible refine (graftageref14_Find.calls k (⟨#[46, 47, 95, 58, 64, 94, 126, 43]⟩ : ByteArray) a0 0 t235 _ A22.out).mono ?_); rintro e w' ⟨rfl, ⟨nd, rfl⟩⟩; refine ⟨_, rfl, ?_⟩))
     go_ret
     exact ⟨by first | rfl | (simp; done) | (simp [*]; done), by repeat (first | exact Drawn0.refl _ | apply Drawn0.step)⟩
   ·rw [if_neg c20] at H
    have c20b0 : decide (48 ≤ a0) = false := decide_eq_false c20
    clear c20
    replace H := Option.bind_eq_some_iff.mp H
    obtain ⟨t236, A230, H⟩ := H
    replace H : (some (decide (t236 ≥ 0))) = some r := H
    have A23 := Aside0.mk A230
    clear A230
    obtain rfl := Option.some.inj H
    go_enter Tryd.func42, Tryd.ntmps42
    go_wp2_with (first | ((with_reducible refine gate_callee (f := 54) rfl ?_); refine goesL_ (some 26) rfl rfl Tryd.func54 (by kernel_rfl) rfl #[.string (⟨#[46, 47, 95, 58, 64, 94, 126, 43]⟩ : ByteArray), .int .u8 a0, .int .i64 0] rfl (by (try simp only [List.map_toArray, List.map_cons, List.map_nil]); first | done | rfl | (simp only [List.length_drop, List.length_take]; rfl)) ?_; (with_reducible refine (graftageref14_Find.calls k (⟨#[46, 47, 95, 58, 64, 94, 126, 43]⟩ : ByteArray) a0 0 t236 _ A23.out).mono ?_); rintro e w' ⟨rfl, ⟨nd, rfl⟩⟩; refine ⟨_, rfl, ?_⟩))
    go_ret
    exact ⟨by first | rfl | (simp; done) | (simp [*]; done), by repeat (first | exact Drawn0.refl _ | apply Drawn0.step)⟩
def graftageref02_Hex.l0 : Nat → ByteArray → ByteArray → List Int → Int → Option (ByteArray)
 | 0, _, _, _, _ => none
 | k + 1, x0, x3, x4, x5 => if x5 < (x0.size : Int) then (if 0 ≤ x5 then (if 0 ≤ ((Int.tdiv (bt x0 x5) 16) % 256) then (if ((Int.tdiv (bt x0 x5) 16) % 256) < (x3.size : Int) then (if 0 ≤ (Int.tmod (bt x0 x5) 16) then (if (Int.tmod (bt x0 x5) 16) < (x3.size : Int) then ((some (([bt x3 ((Int.tdiv (bt x0 x5) 16) % 256), bt x3 (Int.tmod (bt x0 x5) 16)] : List Int) : List Int)).bind fun y240 => (if x4.length + y240.length < 140737488355328 then (graftageref02_Hex.l0 k x0 x3 (x4 ++ y240) (wrap64 (x5 + 1))) else (none))) else (none)) else (none)) else (none)) else (none)) else (none)) else (some (strOfNums x4))
def graftageref02_Hex.f (k : Nat) (a0 : ByteArray) : Option (ByteArray) := graftageref02_Hex.l0 k a0 (⟨#[48, 49, 50, 51, 52, 53, 54, 55, 56, 57, 97, 98, 99, 100, 101, 102]⟩ : ByteArray) (([] : List Int)) 0
theorem graftageref02_Hex.mono_l : ∀ k, (∀ y0 y1 y2 y3, LeO (graftageref02_Hex.l0 k y0 y1 y2 y3) (graftageref02_Hex.l0 (k + 1) y0 y1 y2 y3))
 | 0 => fun _ _ _ _ r h => by simp [graftageref02_Hex.l0] at h
 | k + 1 => by
  have ih0 := graftageref02_Hex.mono_l k
  ·intro y0 y1 y2 y3
   unfold graftageref02_Hex.l0
   repeat' first
   | (with_reducible exact ih0 _ _ _ _)
   | (with_reducible exact LeO.refl _)
   | (with_reducible exact LeO.none _)
   | (with_reducible refine LeO.ite ?_ ?_)
   | (with_reducible refine LeO.bind ?_ (fun _ => ?_))
   | exact ih0 _ _ _ _
   | exact LeO.none _
   | refine LeO.ite ?_ ?_
   | refine LeO.bind ?_ (fun _ => ?_)
theorem graftageref02_Hex.mono : ∀ a0 k, LeO (graftageref02_Hex.f k a0) (graftageref02_Hex.f (k + 1) a0) := by
 intro a0 k
 have ih0 := graftageref02_Hex.mono_l k
 unfold graftageref02_Hex.f
 repeat' first
   | (with_reducible exact ih0 _ _ _ _)
   | (with_reducible exact LeO.refl _)
   | (with_reducible exact LeO.none _)
   | (with_reducible refine LeO.ite ?_ ?_)
   | (with_reducible refine LeO.bind ?_ (fun _ => ?_))
   | exact ih0 _ _ _ _
   | exact LeO.none _
   | refine LeO.ite ?_ ?_
   | refine LeO.bind ?_ (fun _ => ?_)
def graftageref02_Hex.T6 : Bool × List (List Nat × List Nat) := (true, [([], []), ([], []), ([], []), ([], []), ([2, 3], [2, 3]), ([4], [4]), ([1, 5], [1, 5]), ([], []), ([], []), ([], []), ([8, 9], [8, 9]), ([10], [10]), ([7, 11], [7, 11]), ([6, 12], [6, 12]), ([0, 13], [0, 13]), ([14, 14, 0, 1, 2, 3, 4, 5, 6, 7, 8, 9, 10, 11, 12, 13, 14], [0, 14])])
def graftageref02_Hex.B6 : List Nat := [0, 0, 0, 0, 12, 28, 62, 0, 0, 0, 768, 1792, 3968, 8190, 16383, 32767]
theorem graftageref02_Hex.tab6 : rtab .any (opsOf Tryd.f43 6) = graftageref02_Hex.T6 := by kernel_rfl
theorem graftageref02_Hex.bits6 : waitsOk graftageref02_Hex.T6.2 graftageref02_Hex.B6 = true := by kernel_rfl
set_option maxHeartbeats 8000000 in
set_option maxRecDepth 100000 in
theorem graftageref02_Hex.calls (k : Nat) (a0 : ByteArray) (r : ByteArray) (w : World) (h : graftageref02_Hex.f k a0 = some r) :
  Calls Tryd.prog 43 #[.string a0] w fun e w' => e = .returned (.string r) ∧ Below w.heap.size w w' := by
 have HB := Aside0.mk (Below.refl w.heap.size w)
 have H : (graftageref02_Hex.l0 k a0 (⟨#[48, 49, 50, 51, 52, 53, 54, 55, 56, 57, 97, 98, 99, 100, 101, 102]⟩ : ByteArray) (([] : List Int)) 0) = some r := h
 clear h
 obtain ⟨y237, hy237⟩ : ∃ y_ : List Int, y_ = (([] : List Int)) := ⟨_, rfl⟩
 replace H : (graftageref02_Hex.l0 k a0 (⟨#[48, 49, 50, 51, 52, 53, 54, 55, 56, 57, 97, 98, 99, 100, 101, 102]⟩ : ByteArray) y237 0) = some r := by first | (rw [hy237]; with_reducible exact H) | (have H2_ := (Option.bind_some _ _).symm.trans H; rw [hy237]; with_reducible exact H2_) | (have H2_ := (Option.bind_some _ _).symm.trans H; with_reducible exact H2_) | with_reducible exact H | (rw [hy237]; exact H) | exact H
 have Ny237 := Aside0.mk hy237
 clear hy237
 have H' := Aside0.mk H
 clear H
 go_enter Tryd.func43, Tryd.ntmps43
 go_wp2_with (first | ((with_reducible refine gate_dst (N := 6) rfl ?_); refine Kd.R_lit (Kd.int .u8) _ 5 ?hg (N := 6) ?hd (xs := ([] : List Int)) (inner := []) (ok := fun _ => True) (okp := fun _ => True) ?hr ?hp (fun _ hk => hk) trivial (Below.refl _ _) (Nat.le_refl _) (by simp) ?_; (case hd => rfl); (case hg => rfl); (case hr => first | (go_simp; done) | (go_simp; rfl)); (case hp => exact (Reps.none _ _)); intro v238 w2 ho3 hb hg_ hnew_; clear hg_ hnew_; (first | rw [← Ny237.out] at ho3 | (simp only [Int.reduceToNat] at ho3; rw [← Ny237.out] at ho3)); have n0_ := Aside0.mk (Kd.R_lower ho3 (below_size (by repeat (first | (with_reducible first | exact HB.out | apply below_alloc | apply pw_below_drewN | apply below_drew1) | exact HB.out)))); have n1_ := Aside0.mk (below_step (by repeat (first | (with_reducible first | exact HB.out | apply below_alloc | apply pw_below_drewN | apply below_drew1) | exact HB.out)) hb); clear HB; have HO239 := n0_; have HB := n1_; clear n0_ n1_; clear hb ho3))
 go_loopg [4, 5] k (fun kq v4 v5 w' => ∃ (x4_1 : List Int) (x5_1 : Int), v5 = .int .i64 x5_1 ∧ Aside0 (graftageref02_Hex.l0 kq a0 (⟨#[48, 49, 50, 51, 52, 53, 54, 55, 56, 57, 97, 98, 99, 100, 101, 102]⟩ : ByteArray) x4_1 x5_1 = some r) ∧ Aside0 (kq ≤ k) ∧ Aside0 (Kd.R (Kd.int .u8) 5 w' w.heap.size (fun _ => True) v4 x4_1) ∧ Aside0 (Below w.heap.size w w'))
 case atStart => exact ⟨(y237), (0), (by first | rfl | (simp; done) | (simp [*]; done)), H', ⟨Nat.le_refl _⟩, ⟨by (with_reducible repeat (first | apply Kd.R_alloc | apply Kd.R_drewN | apply Kd.R_drew)); exact HO239.out⟩, ⟨by repeat (first | (with_reducible first | exact HB.out | apply below_alloc | apply pw_below_drewN | apply below_drew1) | exact HB.out)⟩⟩
 case round =>
  clear H'
  try clear p2
  obtain ⟨x4_1, x5_1, rfl, HA, HK1, HO_4, HB⟩ := hrel
  cases gk with
  | zero => exact absurd HA.out (by simp [graftageref02_Hex.l0])
  | succ k1 =>
   have H := HA.out
   clear HA
   simp only [graftageref02_Hex.l0] at H
   by_cases c4 : x5_1 < (a0.size : Int)
   ·rw [if_pos c4] at H
    have c4b0 : decide (x5_1 < (a0.size : Int)) = true := decide_eq_true c4
    clear c4
    by_cases c5 : 0 ≤ x5_1
    ·rw [if_pos c5] at H
     have c5b0 : decide (0 ≤ x5_1) = true := decide_eq_true c5
     clear c5
     obtain ⟨ji7, hji7⟩ : ∃ j_ : Int, ((Int.tdiv (bt a0 x5_1) 16) % 256) = j_ := ⟨_, rfl⟩
     have hwj7 : IntKind.u8.wrap (Int.tdiv (bt a0 x5_1) 16) = ji7 := by rw [← hji7]; simp [IntKind.wrap, IntKind.bits, IntKind.signed]
     replace H : (if 0 ≤ (ji7) then (if (ji7) < ((⟨#[48, 49, 50, 51, 52, 53, 54, 55, 56, 57, 97, 98, 99, 100, 101, 102]⟩ : ByteArray).size : Int) then (if 0 ≤ (Int.tmod (bt a0 x5_1) 16) then (if (Int.tmod (bt a0 x5_1) 16) < ((⟨#[48, 49, 50, 51, 52, 53, 54, 55, 56, 57, 97, 98, 99, 100, 101, 102]⟩ : ByteArray).size : Int) then ((some (([bt (⟨#[48, 49, 50, 51, 52, 53, 54, 55, 56, 57, 97, 98, 99, 100, 101, 102]⟩ : ByteArray) (ji7), bt (⟨#[48, 49, 50, 51, 52, 53, 54, 55, 56, 57, 97, 98, 99, 100, 101, 102]⟩ : ByteArray) (Int.tmod (bt a0 x5_1) 16)] : List Int) : List Int)).bind fun y240 => (if x4_1.length + y240.length < 140737488355328 then (graftageref02_Hex.l0 k1 a0 (⟨#[48, 49, 50, 51, 52, 53, 54, 55, 56, 57, 97, 98, 99, 100, 101, 102]⟩ : ByteArray) (x4_1 ++ y240) (wrap64 (x5_1 + 1))) else (none))) else (none)) else (none)) else (none)) else (none)) = some r := by first | (rw [hji7] at H; exact H) | (simp only [hji7] at H ⊢; exact H)
     by_cases c8 : 0 ≤ (ji7)
     ·rw [if_pos c8] at H
      have c8b0 : decide (0 ≤ (ji7)) = true := decide_eq_true c8
      clear c8
      by_cases c9 : (ji7) < ((⟨#[48, 49, 50, 51, 52, 53, 54, 55, 56, 57, 97, 98, 99, 100, 101, 102]⟩ : ByteArray).size : Int)
      ·rw [if_pos c9] at H
       have c9b0 : decide ((ji7) < ((⟨#[48, 49, 50, 51, 52, 53, 54, 55, 56, 57, 97, 98, 99, 100, 101, 102]⟩ : ByteArray).size : Int)) = true := decide_eq_true c9
       clear c9
       obtain ⟨ji12, hji12⟩ : ∃ j_ : Int, (Int.tmod (bt a0 x5_1) 16) = j_ := ⟨_, rfl⟩
       replace H : (if 0 ≤ (ji12) then (if (ji12) < ((⟨#[48, 49, 50, 51, 52, 53, 54, 55, 56, 57, 97, 98, 99, 100, 101, 102]⟩ : ByteArray).size : Int) then ((some (([bt (⟨#[48, 49, 50, 51, 52, 53, 54, 55, 56, 57, 97, 98, 99, 100, 101, 102]⟩ : ByteArray) (ji7), bt (⟨#[48, 49, 50, 51, 52, 53, 54, 55, 56, 57, 97, 98, 99, 100, 101, 102]⟩ : ByteArray) (ji12)] : List Int) : List Int)).bind fun y240 => (if x4_1.length + y240.length < 140737488355328 then (graftageref02_Hex.l0 k1 a0 (⟨#[48, 49, 50, 51, 52, 53, 54, 55, 56, 57, 97, 98, 99, 100, 101, 102]⟩ : ByteArray) (x4_1 ++ y240) (wrap64 (x5_1 + 1))) else (none))) else (none)) else (none)) = some r := by first | (rw [hji12] at H; exact H) | (simp only [hji12] at H ⊢; exact H)
       by_cases c13 : 0 ≤ (ji12)
       ·rw [if_pos c13] at H
        have c13b0 : decide (0 ≤ (ji12)) = true := decide_eq_true c13
        clear c13
        by_cases c14 : (ji12) < ((⟨#[48, 49, 50, 51, 52, 53, 54, 55, 56, 57, 97, 98, 99, 100, 101, 102]⟩ : ByteArray).size : Int)
        ·rw [if_pos c14] at H
         have c14b0 : decide ((ji12) < ((⟨#[48, 49, 50, 51, 52, 53, 54, 55, 56, 57, 97, 98, 99, 100, 101, 102]⟩ : ByteArray).size : Int)) = true := decide_eq_true c14
         clear c14
         obtain ⟨y240, hy240⟩ : ∃ y_ : List Int, y_ = (([bt (⟨#[48, 49, 50, 51, 52, 53, 54, 55, 56, 57, 97, 98, 99, 100, 101, 102]⟩ : ByteArray) (ji7), bt (⟨#[48, 49, 50, 51, 52, 53, 54, 55, 56, 57, 97, 98, 99, 100, 101, 102]⟩ : ByteArray) (ji12)] : List Int)) := ⟨_, rfl⟩
         replace H : (if x4_1.length + y240.length < 140737488355328 then (graftageref02_Hex.l0 k1 a0 (⟨#[48, 49, 50, 51, 52, 53, 54, 55, 56, 57, 97, 98, 99, 100, 101, 102]⟩ : ByteArray) (x4_1 ++ y240) (wrap64 (x5_1 + 1))) else (none)) = some r := by first | (rw [hy240]; with_reducible exact H) | (have H2_ := (Option.bind_some _ _).symm.trans H; rw [hy240]; with_reducible exact H2_) | (have H2_ := (Option.bind_some _ _).symm.trans H; with_reducible exact H2_) | with_reducible exact H | (rw [hy240]; exact H) | exact H
         have Ny240 := Aside0.mk hy240
         clear hy240
         by_cases c16 : x4_1.length + y240.length < 140737488355328
         ·rw [if_pos c16] at H
          have LMc16 := Aside0.mk c16
          clear c16
          obtain ⟨y243, hy243⟩ : ∃ y_ : List Int, y_ = (x4_1 ++ y240) := ⟨_, rfl⟩
          replace H : (graftageref02_Hex.l0 k1 a0 (⟨#[48, 49, 50, 51, 52, 53, 54, 55, 56, 57, 97, 98, 99, 100, 101, 102]⟩ : ByteArray) y243 (wrap64 (x5_1 + 1))) = some r := by first | (rw [hy243]; with_reducible exact H) | (have H2_ := (Option.bind_some _ _).symm.trans H; rw [hy243]; with_reducible exact H2_) | (have H2_ := (Option.bind_some _ _).symm.trans H; with_reducible exact H2_) | with_reducible exact H | (rw [hy243]; exact H) | exact H
          have Ny243 := Aside0.mk hy243
          clear hy243
          have H' := Aside0.mk H
          clear H
          try go_wp2
          have n0_ := Aside0.mk (Kd.R_drew HO_4.out)
          have n1_ := Aside0.mk (below_drew1 HB.out)
          clear HO_4
          clear HB
          have HO_4 := n0_
          have HB := n1_
          clear n0_ n1_
          have p6 : 0 ≤ (x5_1 : Int) := of_decide_eq_true (by first | (with_reducible assumption) | assumption)
          have q6 : x5_1 < (a0.size : Int) := of_decide_eq_true (by first | (with_reducible assumption) | assumption)
          have hx6 := bt_at a0 x5_1
          replace p6 := eq_true p6
          replace q6 := eq_true q6
          have p10 : 0 ≤ ((ji7) : Int) := of_decide_eq_true (by first | (with_reducible assumption) | assumption)
          have q10 : (ji7) < (16 : Int) := of_decide_eq_true (by first | (with_reducible assumption) | assumption)
          have hx10 := bt_at (⟨#[48, 49, 50, 51, 52, 53, 54, 55, 56, 57, 97, 98, 99, 100, 101, 102]⟩ : ByteArray) (ji7)
          replace p10 := eq_true p10
          replace q10 := eq_true q10
          have p11 : 0 ≤ (x5_1 : Int) := of_decide_eq_true (by first | (with_reducible assumption) | assumption)
          have q11 : x5_1 < (a0.size : Int) := of_decide_eq_true (by first | (with_reducible assumption) | assumption)
          have hx11 := bt_at a0 x5_1
          replace p11 := eq_true p11
          replace q11 := eq_true q11
          have p15 : 0 ≤ ((ji12) : Int) := of_decide_eq_true (by first | (with_reducible assumption) | assumption)
          have q15 : (ji12) < (16 : Int) := of_decide_eq_true (by first | (with_reducible assumption) | assumption)
          have hx15 := bt_at (⟨#[48, 49, 50, 51, 52, 53, 54, 55, 56, 57, 97, 98, 99, 100, 101, 102]⟩ : ByteArray) (ji12)
          replace p15 := eq_true p15
          replace q15 := eq_true q15
          refine start_ (n := 16) (S := fun w' => True) (ds := []) #[false, false, false, false, false, false, false, false, false, false, false, false, false, false, false, false] (by kernel_rfl) rfl rfl trivial (fun hHeld => ?_); refine with_tabW graftageref02_Hex.tab6 graftageref02_Hex.bits6 (fun HT_ HW_ => ?_)
          generalize wr.drew = w17 at HO_4 HB hHeld ⊢
          refine pure_ (i := 0) (N := some 13) (v := ?_) (a' := ?_) #[true, false, false, false, false, false, false, false, false, false, false, false, false, false, false, false] rfl rfl (any_of HT_.out (by kernel_rfl)) (fun _ _ _ h => h) (Or.inl ⟨by rfl, ?_⟩) ?_ ?_
          rotate_left
          ·intro w'
           go_simp
           with_reducible rfl
          rotate_left
          ·simp only [Act.put, List.setIfInBounds_toArray, List.set_cons_zero, List.set_cons_succ, i64_w, i32_w]
           rfl
          refine pure_ (i := 1) (N := some 14) (v := ?_) (a' := ?_) #[true, true, false, false, false, false, false, false, false, false, false, false, false, false, false, false] rfl rfl (any_of HT_.out (by kernel_rfl)) (fun _ _ _ h => h) (Or.inl ⟨by rfl, ?_⟩) ?_ ?_
          rotate_left
          ·intro w'
           go_simp
           with_reducible rfl
          rotate_left
          ·simp only [Act.put, List.setIfInBounds_toArray, List.set_cons_zero, List.set_cons_succ, i64_w, i32_w]
           rfl
          refine pure_ (i := 2) (N := some 15) (v := ?_) (a' := ?_) #[true, true, true, false, false, false, false, false, false, false, false, false, false, false, false, false] rfl rfl (any_of HT_.out (by kernel_rfl)) (fun _ _ _ h => h) (Or.inl ⟨by rfl, ?_⟩) ?_ ?_
          rotate_left
          ·intro w'
           go_simp
           with_reducible rfl
          rotate_left
          ·simp only [Act.put, List.setIfInBounds_toArray, List.set_cons_zero, List.set_cons_succ, i64_w, i32_w]
           rfl
          refine pure_ (i := 3) (N := some 16) (v := ?_) (a' := ?_) #[true, true, true, true, false, false, false, false, false, false, false, false, false, false, false, false] rfl rfl (any_of HT_.out (by kernel_rfl)) (fun _ _ _ h => h) (Or.inl ⟨by rfl, ?_⟩) ?_ ?_
          rotate_left
          ·intro w'
           go_simp
           with_reducible rfl
          rotate_left
          ·simp only [Act.put, List.setIfInBounds_toArray, List.set_cons_zero, List.set_cons_succ, i64_w, i32_w]
           rfl
          refine pure_ (i := 7) (N := some 20) (v := ?_) (a' := ?_) #[true, true, true, true, false, false, false, true, false, false, false, false, false, false, false, false] rfl rfl (any_of HT_.out (by kernel_rfl)) (fun _ _ _ h => h) (Or.inl ⟨by rfl, ?_⟩) ?_ ?_
          rotate_left
          ·intro w'
           go_simp
           with_reducible rfl
          rotate_left
          ·simp only [Act.put, List.setIfInBounds_toArray, List.set_cons_zero, List.set_cons_succ, i64_w, i32_w]
           rfl
          refine pure_ (i := 8) (N := some 21) (v := ?_) (a' := ?_) #[true, true, true, true, false, false, false, true, true, false, false, false, false, false, false, false] rfl rfl (any_of HT_.out (by kernel_rfl)) (fun _ _ _ h => h) (Or.inl ⟨by rfl, ?_⟩) ?_ ?_
          rotate_left
          ·intro w'
           go_simp
           with_reducible rfl
          rotate_left
          ·simp only [Act.put, List.setIfInBounds_toArray, List.set_cons_zero, List.set_cons_succ, i64_w, i32_w]
           rfl
          refine pure_ (i := 9) (N := some 22) (v := ?_) (a' := ?_) #[true, true, true, true, false, false, false, true, true, true, false, false, false, false, false, false] rfl rfl (any_of HT_.out (by kernel_rfl)) (fun _ _ _ h => h) (Or.inl ⟨by rfl, ?_⟩) ?_ ?_
          rotate_left
          ·intro w'
           go_simp
           with_reducible rfl
          rotate_left
          ·simp only [Act.put, List.setIfInBounds_toArray, List.set_cons_zero, List.set_cons_succ, i64_w, i32_w]
           rfl
          refine take_ (i := 4) (N := some 17) (v := ?_) (a' := ?_) #[true, true, true, true, true, false, false, true, true, true, false, false, false, false, false, false] rfl rfl (take_ofW HT_.out HW_.out (by kernel_rfl)) (fun _ _ _ h => h) (Or.inl ⟨by rfl, ?_⟩) hHeld ?_ ?_
          rotate_left
          ·intro w' _
           go_simp
           with_reducible rfl
          rotate_left
          ·simp only [Act.put, List.setIfInBounds_toArray, List.set_cons_zero, List.set_cons_succ, i64_w, i32_w]
           rfl
          refine pure_ (i := 5) (N := some 18) (v := ?_) (a' := ?_) #[true, true, true, true, true, true, false, true, true, true, false, false, false, false, false, false] rfl rfl (any_of HT_.out (by kernel_rfl)) (fun _ _ _ h => h) (Or.inl ⟨by rfl, ?_⟩) ?_ ?_
          rotate_left
          ·intro w'
           go_simp
           with_reducible rfl
          rotate_left
          ·simp only [Act.put, List.setIfInBounds_toArray, List.set_cons_zero, List.set_cons_succ, i64_w, i32_w]
           rfl
          refine take_ (i := 6) (N := some 19) (v := ?_) (a' := ?_) #[true, true, true, true, true, true, true, true, true, true, false, false, false, false, false, false] rfl rfl (take_ofW HT_.out HW_.out (by kernel_rfl)) (fun _ _ _ h => h) (Or.inl ⟨by rfl, ?_⟩) hHeld ?_ ?_
          rotate_left
          ·intro w' _
           go_simp
           with_reducible rfl
          rotate_left
          ·simp only [Act.put, List.setIfInBounds_toArray, List.set_cons_zero, List.set_cons_succ, i64_w, i32_w]
           rfl
          refine take_ (i := 10) (N := some 23) (v := ?_) (a' := ?_) #[true, true, true, true, true, true, true, true, true, true, true, false, false, false, false, false] rfl rfl (take_ofW HT_.out HW_.out (by kernel_rfl)) (fun _ _ _ h => h) (Or.inl ⟨by rfl, ?_⟩) hHeld ?_ ?_
          rotate_left
          ·intro w' _
           go_simp
           with_reducible rfl
          rotate_left
          ·simp only [Act.put, List.setIfInBounds_toArray, List.set_cons_zero, List.set_cons_succ, i64_w, i32_w]
           rfl
          refine pure_ (i := 11) (N := some 24) (v := ?_) (a' := ?_) #[true, true, true, true, true, true, true, true, true, true, true, true, false, false, false, false] rfl rfl (any_of HT_.out (by kernel_rfl)) (fun _ _ _ h => h) (Or.inl ⟨by rfl, ?_⟩) ?_ ?_
          rotate_left
          ·intro w'
           go_simp
           with_reducible rfl
          rotate_left
          ·simp only [Act.put, List.setIfInBounds_toArray, List.set_cons_zero, List.set_cons_succ, i64_w, i32_w]
           rfl
          refine take_ (i := 12) (N := some 25) (v := ?_) (a' := ?_) #[true, true, true, true, true, true, true, true, true, true, true, true, true, false, false, false] rfl rfl (take_ofW HT_.out HW_.out (by kernel_rfl)) (fun _ _ _ h => h) (Or.inl ⟨by rfl, ?_⟩) hHeld ?_ ?_
          rotate_left
          ·intro w' _
           go_simp
           with_reducible rfl
          rotate_left
          ·simp only [Act.put, List.setIfInBounds_toArray, List.set_cons_zero, List.set_cons_succ, i64_w, i32_w]
           rfl
          refine one_ (i := 13) (N := some 26) #[true, true, true, true, true, true, true, true, true, true, true, true, true, true, false, false] rfl rfl (one_of HT_.out (by kernel_rfl)) (by decide) (fun K hK => ?_)
          refine Kd.R_lit_step (Kd.int .u8) _ 5 ?hg (N := 26) ?hd (xs := ([bt (⟨#[48, 49, 50, 51, 52, 53, 54, 55, 56, 57, 97, 98, 99, 100, 101, 102]⟩ : ByteArray) (ji7), bt (⟨#[48, 49, 50, 51, 52, 53, 54, 55, 56, 57, 97, 98, 99, 100, 101, 102]⟩ : ByteArray) (ji12)] : List Int)) (inner := [.int .u8 (bt (⟨#[48, 49, 50, 51, 52, 53, 54, 55, 56, 57, 97, 98, 99, 100, 101, 102]⟩ : ByteArray) (ji7)), .int .u8 (bt (⟨#[48, 49, 50, 51, 52, 53, 54, 55, 56, 57, 97, 98, 99, 100, 101, 102]⟩ : ByteArray) (ji12))]) (ok := fun _ => True) (okp := fun _ => True) ?hr ?hp (fun _ hk => hk) trivial (Below.refl _ _) (Nat.le_refl _) (by simp) ?_; (case hd => rfl); (case hg => rfl); (case hr => first | (go_simp; done) | (go_simp; rfl)); (case hp => exact (Reps.one (show Kd.M (Kd.int .u8) _ _ _ (bt (⟨#[48, 49, 50, 51, 52, 53, 54, 55, 56, 57, 97, 98, 99, 100, 101, 102]⟩ : ByteArray) (ji7)) [.int .u8 (bt (⟨#[48, 49, 50, 51, 52, 53, 54, 55, 56, 57, 97, 98, 99, 100, 101, 102]⟩ : ByteArray) (ji7))] from rfl) (Reps.one (show Kd.M (Kd.int .u8) _ _ _ (bt (⟨#[48, 49, 50, 51, 52, 53, 54, 55, 56, 57, 97, 98, 99, 100, 101, 102]⟩ : ByteArray) (ji12)) [.int .u8 (bt (⟨#[48, 49, 50, 51, 52, 53, 54, 55, 56, 57, 97, 98, 99, 100, 101, 102]⟩ : ByteArray) (ji12))] from rfl) (Reps.none _ _))))
          intro v241 w18 ho19 hb hg_ hnew_
          clear hg_ hnew_
          (first | rw [← Ny240.out] at ho19 | (simp only [Int.reduceToNat] at ho19; rw [← Ny240.out] at ho19))
          have n0_ := Aside0.mk (Kd.R_elder' (by (with_reducible repeat (first | apply Kd.R_alloc | apply Kd.R_drewN | apply Kd.R_drew)); exact HO_4.out) (Kd.R_base ho19) hb)
          have n1_ := Aside0.mk (Kd.R_lower (Kd.R_new' ho19 (Kd.R_lt (by (with_reducible repeat (first | apply Kd.R_alloc | apply Kd.R_drewN | apply Kd.R_drew)); exact HO_4.out))) (below_size (by repeat (first | (with_reducible first | exact HB.out | apply below_alloc | apply pw_below_drewN | apply below_drew1) | exact HB.out))))
          have n2_ := Aside0.mk (below_step (by repeat (first | (with_reducible first | exact HB.out | apply below_alloc | apply pw_below_drewN | apply below_drew1) | exact HB.out)) hb)
          clear HO_4
          clear HB
          have HO_4 := n0_
          have HO242 := n1_
          have HB := n2_
          clear n0_ n1_ n2_
          clear hb ho19
          obtain ⟨Ao21, co21, eo21⟩ := Kd.R_slice HO242.out
          (first | subst eo21 | (injection eo21 with f1_ f2_ f3_; have f4_ := f1_.symm; have f5_ := f3_.symm; clear f1_ f2_ f3_; subst f4_; subst f5_))
          refine hK.out _ _ trivial (fun hHeld => ?_)
          clear hK K
          refine norm_ (a' := ?_) ?_ ?_
          rotate_left
          ·show Act.put _ (some 26) _ = _
           simp only [Act.put, List.setIfInBounds_toArray, List.set_cons_zero, List.set_cons_succ, i64_w, i32_w]
           rfl
          refine one_ (i := 14) (N := some 27) #[true, true, true, true, true, true, true, true, true, true, true, true, true, true, true, false] rfl rfl (one_of HT_.out (by kernel_rfl)) (by decide) (fun K hK => ?_)
          refine Kd.R_append_rows_step (Kd.int .u8) (w0 := w) w.heap.size (by rfl) (.tmp 13) (.tmp 26) 62 5 (.int .u8 0) 1 rfl Tryd.underlying62 info5 rfl (by decide) (by omega) u4 x4_1 y240 _ _ _ (fun k_ => some k_ ≠ (.slice Ao21 y240.length co21 : Value).ownBlock) (fun _ => False) rfl rfl ?aO ?aR (fun _ _ h => h) (fun _ h => h.elim) ?aF ?aB ?aS ?aL ?_
          (case aR => repeat (first | exact (Kd.R_reads' HO242.out).2.2 | (with_reducible refine Kd.C_alloc ?_ _) | (with_reducible refine Kd.C_drewN ?_ _) | (with_reducible refine Kd.C_drew ?_)))
          (case aB => exact (by repeat (first | (with_reducible first | exact HB.out | apply below_alloc | apply pw_below_drewN | apply below_drew1) | exact HB.out)))
          (case aF => exact (fun k_ hk => Kd.fresh' (Kd.R_lt (by (with_reducible repeat (first | apply Kd.R_alloc | apply Kd.R_drewN | apply Kd.R_drew)); exact HO242.out)) k_ hk))
          (case aO => exact (by (with_reducible repeat (first | apply Kd.R_alloc | apply Kd.R_drewN | apply Kd.R_drew)); exact Kd.R_mono HO_4.out (fun _ hk => hk.2)))
          (case aS => exact (below_size (by repeat (first | (with_reducible first | exact HB.out | apply below_alloc | apply pw_below_drewN | apply below_drew1) | exact HB.out))))
          (case aL => have := LMc16.out; omega)
          intro v244 w20 ho hb hg hat
          rw [← Ny243.out] at ho
          have n0_ := Aside0.mk (Kd.R_after (ok := (fun _ => True)) (by (with_reducible repeat (first | apply Kd.R_alloc | apply Kd.R_drewN | apply Kd.R_drew)); exact HO242.out) hg hat)
          have n1_ := Aside0.mk (hb)
          have n2_ := Aside0.mk (ho)
          clear HO242
          clear HB
          clear HO_4
          have HO242 := n0_
          have HB := n1_
          have HO245 := n2_
          clear n0_ n1_ n2_
          clear ho hb hg hat
          refine hK.out _ _ trivial (fun hHeld => ?_)
          clear hK K
          refine norm_ (a' := ?_) ?_ ?_
          rotate_left
          ·show Act.put _ (some 27) _ = _
           simp only [Act.put, List.setIfInBounds_toArray, List.set_cons_zero, List.set_cons_succ, i64_w, i32_w]
           rfl
          refine pure_ (i := 15) (N := some 4) (v := ?_) (a' := ?_) #[true, true, true, true, true, true, true, true, true, true, true, true, true, true, true, true] rfl rfl (any_of HT_.out (by kernel_rfl)) (fun _ _ _ h => h) (Or.inl ⟨by rfl, ?_⟩) ?_ ?_
          rotate_left
          ·intro w'
           go_simp
           with_reducible rfl
          rotate_left
          ·simp only [Act.put, List.setIfInBounds_toArray, List.set_cons_zero, List.set_cons_succ, i64_w, i32_w]
           rfl
          refine done_ (done_of HT_.out (by kernel_rfl)) ?_
          try go_wp2
          go_roundg k1
          case measure => have := HK1.out; omega
          case rel => exact ⟨(y243), (wrap64 (x5_1 + 1)), (by first | rfl | (simp; done) | (simp [*]; done)), H', ⟨by have := HK1.out; omega⟩, ⟨by (with_reducible repeat (first | apply Kd.R_alloc | apply Kd.R_drewN | apply Kd.R_drew)); exact Kd.R_mono HO245.out (fun _ hk => trivial)⟩, ⟨by repeat (first | (with_reducible first | exact HB.out | apply below_alloc | apply pw_below_drewN | apply below_drew1) | exact HB.out)⟩⟩
         ·rw [if_neg c16] at H
          exact absurd H (by simp)
        ·rw [if_neg c14] at H
         exact absurd H (by simp)
       ·rw [if_neg c13] at H
        exact absurd H (by simp)
      ·rw [if_neg c9] at H
       exact absurd H (by simp)
     ·rw [if_neg c8] at H
      exact absurd H (by simp)
    ·rw [if_neg c5] at H
     exact absurd H (by simp)
   ·rw [if_neg c4] at H
    have c4b0 : decide (x5_1 < (a0.size : Int)) = false := decide_eq_false c4
    clear c4
    obtain rfl := Option.some.inj H
    have hcv22 := own_string (P := Tryd.prog) Tryd.underlying62 Tryd.underlying5 Tryd.underlying9 (Kd.own_of_R HO_4.out)
    go_wp2
    go_ret
    exact ⟨by first | rfl | (simp [errW_none, errW_some] <;> rfl) | (simp [*, errW_none, errW_some] <;> rfl), by repeat (first | (with_reducible first | exact HB.out | apply below_alloc | apply pw_below_drewN | apply below_drew1) | exact HB.out)⟩
end Go.Proofs.YtcmemgahgenpdaaDoor.PSc
end
section
namespace Go.Proofs.YtcmemgahgenpdaaDoor.PSc
open Go.Proofs.YtcmemgahgenpdaaDoor.Hand Go.RowKit Go.Proofs.YtcmemgahgenpdaaDoorW.PrintWords Go.Proofs.YtcmemgahgenpdaaDoorW.PrintLast Go.Proofs.YtcmemgahgenpdaaDoorW.PrintMore
attribute [local go_sem] max2_int min2_int max_two min_two max_three min_three max_four min_four
set_option linter.unusedVariables false
set_option linter.unusedSimpArgs false
def graftageref56_Word.l0 : Nat → ByteArray → List Int → Int → Option (ByteArray)
 | 0, _, _, _ => none
 | k + 1, x0, x3, x4 => if x4 < (x0.size : Int) then (if 0 ≤ x4 then ((graftageref56_plain.f k (bt x0 x4)).bind fun t249 => (if t249 = true then (if x3.length < 140737488355328 then (graftageref56_Word.l0 k x0 (x3 ++ [bt x0 x4]) (wrap64 (x4 + 1))) else (none)) else (if x3.length < 140737488355328 then ((some (x3 ++ [37] : List Int)).bind fun y253 => (if x4 ≤ (wrap64 (x4 + 1)) then (if (wrap64 (x4 + 1)) ≤ (x0.size : Int) then ((graftageref02_Hex.f k (x0.extract (x4 : Int).toNat ((wrap64 (x4 + 1)) : Int).toNat)).bind fun t256 => (if y253.length + t256.size < 140737488355328 then (graftageref56_Word.l0 k x0 (y253 ++ bytesOf t256) (wrap64 (x4 + 1))) else (none))) else (none)) else (none))) else (none)))) else (none)) else (some (strOfNums x3))
def graftageref56_Word.f (k : Nat) (a0 : ByteArray) : Option (ByteArray) := if a0.toList = ([] : List UInt8) then (some (⟨#[45]⟩ : ByteArray)) else (graftageref56_Word.l0 k a0 (([] : List Int)) 0)
set_option maxHeartbeats 8000000 in
set_option maxRecDepth 100000 in
theorem graftageref56_Word.calls (k : Nat) (a0 : ByteArray) (r : ByteArray) (w : World) (h : graftageref56_Word.f k a0 = some r) :
  Calls Tryd.prog 26 #[.string a0] w fun e w' => e = .returned (.string r) ∧ Below w.heap.size w w' := by
 have HB := Aside0.mk (Below.refl w.heap.size w)
 have H : (if a0.toList = ([] : List UInt8) then (some (⟨#[45]⟩ : ByteArray)) else (graftageref56_Word.l0 k a0 (([] : List Int)) 0)) = some r := h
 clear h
 by_cases c2 : a0.toList = ([] : List UInt8)
 ·rw [if_pos c2] at H
  have c2b0 : (a0.toList == ([] : List UInt8)) = true := beq_iff_eq.mpr c2
  have c2b1 : (a0.toList != ([] : List UInt8)) = false := bne_eq_false_iff_eq.mpr c2
  clear c2
  obtain rfl := Option.some.inj H
  go_enter Tryd.func26, Tryd.ntmps26
  go_wp2
  go_ret
  exact ⟨by first | rfl | (simp [errW_none, errW_some] <;> rfl) | (simp [*, errW_none, errW_some] <;> rfl), by repeat (first | (with_reducible first | exact HB.out | apply below_alloc | apply pw_below_drewN | apply below_drew1) | exact HB.out)⟩
 ·rw [if_neg c2] at H
  have c2b0 : (a0.toList == ([] : List UInt8)) = false := beq_eq_false_iff_ne.mpr c2
  have c2b1 : (a0.toList != ([] : List UInt8)) = true := bne_iff_ne.mpr c2
  obtain ⟨y246, hy246⟩ : ∃ y_ : List Int, y_ = (([] : List Int)) := ⟨_, rfl⟩
  replace H : (graftageref56_Word.l0 k a0 y246 0) = some r := by first | (rw [hy246]; with_reducible exact H) | (have H2_ := (Option.bind_some _ _).symm.trans H; rw [hy246]; with_reducible exact H2_) | (have H2_ := (Option.bind_some _ _).symm.trans H; with_reducible exact H2_) | with_reducible exact H | (rw [hy246]; exact H) | exact H
  have Ny246 := Aside0.mk hy246
  clear hy246
  have H' := Aside0.mk H
  clear H
  go_enter Tryd.func26, Tryd.ntmps26
  go_wp2_with (first | ((with_reducible refine gate_dst (N := 7) rfl ?_); refine Kd.R_lit (Kd.int .u8) _ 5 ?hg (N := 7) ?hd (xs := ([] : List Int)) (inner := []) (ok := fun _ => True) (okp := fun _ => True) ?hr ?hp (fun _ hk => hk) trivial (Below.refl _ _) (Nat.le_refl _) (by simp) ?_; (case hd => rfl); (case hg => rfl); (case hr => first | (go_simp; done) | (go_simp; rfl)); (case hp => exact (Reps.none _ _)); intro v247 w3 ho4 hb hg_ hnew_; clear hg_ hnew_; (first | rw [← Ny246.out] at ho4 | (simp only [Int.reduceToNat] at ho4; rw [← Ny246.out] at ho4)); have n0_ := Aside0.mk (Kd.R_lower ho4 (below_size (by repeat (first | (with_reducible first | exact HB.out | apply below_alloc | apply pw_below_drewN | apply below_drew1) | exact HB.out)))); have n1_ := Aside0.mk (below_step (by repeat (first | (with_reducible first | exact HB.out | apply below_alloc | apply pw_below_drewN | apply below_drew1) | exact HB.out)) hb); clear HB; have HO248 := n0_; have HB := n1_; clear n0_ n1_; clear hb ho4))
  go_loopg [3, 4] k (fun kq v3 v4 w' => ∃ (x3_1 : List Int) (x4_1 : Int), v4 = .int .i64 x4_1 ∧ Aside0 (graftageref56_Word.l0 kq a0 x3_1 x4_1 = some r) ∧ Aside0 (kq ≤ k) ∧ Aside0 (Kd.R (Kd.int .u8) 5 w' w.heap.size (fun _ => True) v3 x3_1) ∧ Aside0 (Below w.heap.size w w'))
  case atStart => exact ⟨(y246), (0), (by first | rfl | (simp; done) | (simp [*]; done)), H', ⟨Nat.le_refl _⟩, ⟨by (with_reducible repeat (first | apply Kd.R_alloc | apply Kd.R_drewN | apply Kd.R_drew)); exact HO248.out⟩, ⟨by repeat (first | (with_reducible first | exact HB.out | apply below_alloc | apply pw_below_drewN | apply below_drew1) | exact HB.out)⟩⟩
  case round =>
   clear H'
   try clear c2
   try clear c2b0
   try clear c2b1
   try clear p2
   obtain ⟨x3_1, x4_1, rfl, HA, HK1, HO_3, HB⟩ := hrel
   cases gk with
   | zero => exact absurd HA.out (by simp [graftageref56_Word.l0])
   | succ k1 =>
    have H := HA.out
    clear HA
    simp only [graftageref56_Word.l0] at H
    by_cases c5 : x4_1 < (a0.size : Int)
    ·rw [if_pos c5] at H
     have c5b0 : decide (x4_1 < (a0.size : Int)) = true := decide_eq_true c5
     clear c5
     by_cases c6 : 0 ≤ x4_1
     ·rw [if_pos c6] at H
      have c6b0 : decide (0 ≤ x4_1) = true := decide_eq_true c6
      clear c6
      replace H := Option.bind_eq_some_iff.mp H
      obtain ⟨t249, A80, H⟩ := H
      replace H : (if t249 = true then (if x3_1.length < 140737488355328 then (graftageref56_Word.l0 k1 a0 (x3_1 ++ [bt a0 x4_1]) (wrap64 (x4_1 + 1))) else (none)) else (if x3_1.length < 140737488355328 then ((some (x3_1 ++ [37] : List Int)).bind fun y253 => (if x4_1 ≤ (wrap64 (x4_1 + 1)) then (if (wrap64 (x4_1 + 1)) ≤ (a0.size : Int) then ((graftageref02_Hex.f k1 (a0.extract (x4_1 : Int).toNat ((wrap64 (x4_1 + 1)) : Int).toNat)).bind fun t256 => (if y253.length + t256.size < 140737488355328 then (graftageref56_Word.l0 k1 a0 (y253 ++ bytesOf t256) (wrap64 (x4_1 + 1))) else (none))) else (none)) else (none))) else (none))) = some r := H
      have A8 := Aside0.mk A80
      clear A80
      by_cases c9 : t249 = true
      ·subst c9
       have H1 : (if x3_1.length < 140737488355328 then (graftageref56_Word.l0 k1 a0 (x3_1 ++ [bt a0 x4_1]) (wrap64 (x4_1 + 1))) else (none)) = some r := by rw [if_pos rfl] at H; exact H
       clear H
       have H := H1
       clear H1
       by_cases c11 : x3_1.length < 140737488355328
       ·rw [if_pos c11] at H
        have LMc11 := Aside0.mk c11
        clear c11
        obtain ⟨y250, hy250⟩ : ∃ y_ : List Int, y_ = (x3_1 ++ [bt a0 x4_1]) := ⟨_, rfl⟩
        replace H : (graftageref56_Word.l0 k1 a0 y250 (wrap64 (x4_1 + 1))) = some r := by first | (rw [hy250]; with_reducible exact H) | (have H2_ := (Option.bind_some _ _).symm.trans H; rw [hy250]; with_reducible exact H2_) | (have H2_ := (Option.bind_some _ _).symm.trans H; with_reducible exact H2_) | with_reducible exact H | (rw [hy250]; exact H) | exact H
        have Ny250 := Aside0.mk hy250
        clear hy250
        have H' := Aside0.mk H
        clear H
        have p7 : 0 ≤ (x4_1 : Int) := of_decide_eq_true (by first | (with_reducible assumption) | assumption)
        have q7 : x4_1 < (a0.size : Int) := of_decide_eq_true (by first | (with_reducible assumption) | assumption)
        have hx7 := bt_at a0 x4_1
        replace p7 := eq_true p7
        replace q7 := eq_true q7
        go_wp2_with (first | ((with_reducible refine gate_callee (f := 42) rfl ?_); refine goesL_ (some 17) rfl rfl Tryd.func42 (by kernel_rfl) rfl #[.int .u8 (bt a0 x4_1)] rfl (by (try simp only [List.map_toArray, List.map_cons, List.map_nil]); first | done | rfl | (simp only [List.length_drop, List.length_take]; rfl)) ?_; (with_reducible refine (graftageref56_plain.calls k1 (bt a0 x4_1) true _ A8.out).mono ?_); rintro e w' ⟨rfl, ⟨nd, rfl⟩⟩; refine ⟨_, rfl, ?_⟩; have p10 : 0 ≤ (x4_1 : Int) := of_decide_eq_true (by first | (with_reducible assumption) | assumption); have q10 : x4_1 < (a0.size : Int) := of_decide_eq_true (by first | (with_reducible assumption) | assumption); have hx10 := bt_at a0 x4_1; replace p10 := eq_true p10; replace q10 := eq_true q10) | ((with_reducible refine gate_builtin (b := .append) (xs := #[.tmp 18, .tmp 22]) rfl ?_); at_builtin; refine Kd.R_append (Kd.int .u8) (w0 := w) w.heap.size rfl (.tmp 18) (.tmp 22) 62 5 (.int .u8 0) 1 rfl Tryd.underlying62 info5 rfl (by decide) (by omega) u3 x3_1 (bt a0 x4_1) [.int .u8 (bt a0 x4_1)] (fun _ => True) (fun _ => False) rfl rfl ?aP (fun _ hk => hk.elim) ?aF ?aO ?aB ?aS ?aL ?_; (case aP => exact rfl); (case aB => exact (by repeat (first | (with_reducible first | exact HB.out | apply below_alloc | apply pw_below_drewN | apply below_drew1) | exact HB.out))); (case aF => exact (fun _ _ => trivial)); (case aO => exact (by (with_reducible repeat (first | apply Kd.R_alloc | apply Kd.R_drewN | apply Kd.R_drew)); exact HO_3.out)); (case aS => exact (below_size (by repeat (first | (with_reducible first | exact HB.out | apply below_alloc | apply pw_below_drewN | apply below_drew1) | exact HB.out)))); (case aL => have := LMc11.out; omega); intro v251 w12 ho hb hg hat; rw [← Ny250.out] at ho; have n0_ := Aside0.mk (hb); have n1_ := Aside0.mk (ho); clear HB; clear HO_3; have HB := n0_; have HO252 := n1_; clear n0_ n1_; clear ho hb hg hat))
        go_roundg k1
        case measure => have := HK1.out; omega
        case rel => exact ⟨(y250), (wrap64 (x4_1 + 1)), (by first | rfl | (simp; done) | (simp [*]; done)), H', ⟨by have := HK1.out; omega⟩, ⟨by (with_reducible repeat (first | apply Kd.R_alloc | apply Kd.R_drewN | apply Kd.R_drew)); exact HO252.out⟩, ⟨by repeat (first | (with_reducible first | exact HB.out | apply below_alloc | apply pw_below_drewN | apply below_drew1) | exact HB.out)⟩⟩
       ·rw [if_neg c11] at H
        exact absurd H (by simp)
      ·replace c9 := Bool.eq_false_iff.mpr c9
       subst c9
       have H1 : (if x3_1.length < 140737488355328 then ((some (x3_1 ++ [37] : List Int)).bind fun y253 => (if x4_1 ≤ (wrap64 (x4_1 + 1)) then (if (wrap64 (x4_1 + 1)) ≤ (a0.size : Int) then ((graftageref02_Hex.f k1 (a0.extract (x4_1 : Int).toNat ((wrap64 (x4_1 + 1)) : Int).toNat)).bind fun t256 => (if y253.length + t256.size < 140737488355328 then (graftageref56_Word.l0 k1 a0 (y253 ++ bytesOf t256) (wrap64 (x4_1 + 1))) else (none))) else (none)) else (none))) else (none)) = some r := by rw [if_neg (show ¬ (false = true) by decide)] at H; exact H
       clear H
       have H := H1
       clear H1
       by_cases c13 : x3_1.length < 140737488355328
       ·rw [if_pos c13] at H
        have LMc13 := Aside0.mk c13
        clear c13
        obtain ⟨y253, hy253⟩ : ∃ y_ : List Int, y_ = (x3_1 ++ [37]) := ⟨_, rfl⟩
        replace H : (if x4_1 ≤ (wrap64 (x4_1 + 1)) then (if (wrap64 (x4_1 + 1)) ≤ (a0.size : Int) then ((graftageref02_Hex.f k1 (a0.extract (x4_1 : Int).toNat ((wrap64 (x4_1 + 1)) : Int).toNat)).bind fun t256 => (if y253.length + t256.size < 140737488355328 then (graftageref56_Word.l0 k1 a0 (y253 ++ bytesOf t256) (wrap64 (x4_1 + 1))) else (none))) else (none)) else (none)) = some r := by first | (rw [hy253]; with_reducible exact H) | (have H2_ := (Option.bind_some _ _).symm.trans H; rw [hy253]; with_reducible exact H2_) | (have H2_ := (Option.bind_some _ _).symm.trans H; with_reducible exact H2_) | with_reducible exact H | (rw [hy253]; exact H) | exact H
        have Ny253 := Aside0.mk hy253
        clear hy253
        have c14b0 := eq_true (of_decide_eq_true (by first | (with_reducible assumption) | assumption) : 0 ≤ x4_1)
        by_cases c15 : x4_1 ≤ (wrap64 (x4_1 + 1))
        ·rw [if_pos c15] at H
         have c15b0 := eq_true c15
         have c15b1 : decide (x4_1 ≤ (wrap64 (x4_1 + 1))) = true := decide_eq_true c15
         by_cases c16 : (wrap64 (x4_1 + 1)) ≤ (a0.size : Int)
         ·rw [if_pos c16] at H
          have c16b0 := eq_true c16
          have c16b1 : decide ((wrap64 (x4_1 + 1)) ≤ (a0.size : Int)) = true := decide_eq_true c16
          replace H := Option.bind_eq_some_iff.mp H
          obtain ⟨t256, A170, H⟩ := H
          replace H : (if y253.length + t256.size < 140737488355328 then (graftageref56_Word.l0 k1 a0 (y253 ++ bytesOf t256) (wrap64 (x4_1 + 1))) else (none)) = some r := H
          have A17 := Aside0.mk A170
          clear A170
          by_cases c18 : y253.length + t256.size < 140737488355328
          ·rw [if_pos c18] at H
           have LMc18 := Aside0.mk c18
           clear c18
           obtain ⟨y257, hy257⟩ : ∃ y_ : List Int, y_ = (y253 ++ bytesOf t256) := ⟨_, rfl⟩
           replace H : (graftageref56_Word.l0 k1 a0 y257 (wrap64 (x4_1 + 1))) = some r := by first | (rw [hy257]; with_reducible exact H) | (have H2_ := (Option.bind_some _ _).symm.trans H; rw [hy257]; with_reducible exact H2_) | (have H2_ := (Option.bind_some _ _).symm.trans H; with_reducible exact H2_) | with_reducible exact H | (rw [hy257]; exact H) | exact H
           have Ny257 := Aside0.mk hy257
           clear hy257
           have H' := Aside0.mk H
           clear H
           have p7 : 0 ≤ (x4_1 : Int) := of_decide_eq_true (by first | (with_reducible assumption) | assumption)
           have q7 : x4_1 < (a0.size : Int) := of_decide_eq_true (by first | (with_reducible assumption) | assumption)
           have hx7 := bt_at a0 x4_1
           replace p7 := eq_true p7
           replace q7 := eq_true q7
           go_wp2_with (first | ((with_reducible refine gate_callee (f := 42) rfl ?_); refine goesL_ (some 17) rfl rfl Tryd.func42 (by kernel_rfl) rfl #[.int .u8 (bt a0 x4_1)] rfl (by (try simp only [List.map_toArray, List.map_cons, List.map_nil]); first | done | rfl | (simp only [List.length_drop, List.length_take]; rfl)) ?_; (with_reducible refine (graftageref56_plain.calls k1 (bt a0 x4_1) false _ A8.out).mono ?_); rintro e w' ⟨rfl, ⟨nd, rfl⟩⟩; refine ⟨_, rfl, ?_⟩) | ((with_reducible refine gate_builtin (b := .append) (xs := #[.tmp 24, .tmp 25]) rfl ?_); at_builtin; refine Kd.R_append (Kd.int .u8) (w0 := w) w.heap.size rfl (.tmp 24) (.tmp 25) 62 5 (.int .u8 0) 1 rfl Tryd.underlying62 info5 rfl (by decide) (by omega) u3 x3_1 37 [.int .u8 37] (fun _ => True) (fun _ => False) rfl rfl ?aP (fun _ hk => hk.elim) ?aF ?aO ?aB ?aS ?aL ?_; (case aP => exact rfl); (case aB => exact (by repeat (first | (with_reducible first | exact HB.out | apply below_alloc | apply pw_below_drewN | apply below_drew1) | exact HB.out))); (case aF => exact (fun _ _ => trivial)); (case aO => exact (by (with_reducible repeat (first | apply Kd.R_alloc | apply Kd.R_drewN | apply Kd.R_drew)); exact HO_3.out)); (case aS => exact (below_size (by repeat (first | (with_reducible first | exact HB.out | apply below_alloc | apply pw_below_drewN | apply below_drew1) | exact HB.out)))); (case aL => have := LMc13.out; omega); intro v254 w19 ho hb hg hat; rw [← Ny253.out] at ho; have n0_ := Aside0.mk (hb); have n1_ := Aside0.mk (ho); clear HB; clear HO_3; have HB := n0_; have HO255 := n1_; clear n0_ n1_; clear ho hb hg hat) | ((with_reducible refine gate_callee (f := 43) rfl ?_); refine goesL_ (some 33) rfl rfl Tryd.func43 (by kernel_rfl) rfl #[.string (a0.extract (x4_1 : Int).toNat ((wrap64 (x4_1 + 1)) : Int).toNat)] rfl (by (try simp only [List.map_toArray, List.map_cons, List.map_nil]); first | done | rfl | (simp only [List.length_drop, List.length_take]; rfl)) ?_; (with_reducible refine (graftageref02_Hex.calls k1 (a0.extract (x4_1 : Int).toNat ((wrap64 (x4_1 + 1)) : Int).toNat) t256 _ A17.out).mono ?_); rintro e w20 ⟨rfl, hb⟩; refine ⟨_, rfl, ?_⟩; have n0_ := Aside0.mk (Kd.R_below (by (with_reducible repeat (first | apply Kd.R_alloc | apply Kd.R_drewN | apply Kd.R_drew)); exact HO255.out) hb); have n1_ := Aside0.mk (below_step (by repeat (first | (with_reducible first | exact HB.out | apply below_alloc | apply pw_below_drewN | apply below_drew1) | exact HB.out)) hb); clear HO255; clear HB; have HO255 := n0_; have HB := n1_; clear n0_ n1_; (try clear hb); (try clear hb2); (try clear hk); (try clear hi)) | (at_builtin; refine print_append_str (w0 := w) w.heap.size rfl (.tmp 27) _ 62 9 5 rfl Tryd.underlying62 Tryd.underlying9 info5 v254 y253 t256 rfl rfl ?aO ?aB ?aS ?aL ?_; (case aB => exact (by repeat (first | (with_reducible first | exact HB.out | apply below_alloc | apply pw_below_drewN | apply below_drew1) | exact HB.out))); (case aO => exact (Kd.own_of_R (by (with_reducible repeat (first | apply Kd.R_alloc | apply Kd.R_drewN | apply Kd.R_drew)); exact HO255.out))); (case aS => exact (below_size (by repeat (first | (with_reducible first | exact HB.out | apply below_alloc | apply pw_below_drewN | apply below_drew1) | exact HB.out)))); (case aL => have := LMc18.out; omega); intro v258 w21 ho0 hb hg; have ho := Kd.R_of_own (h1 := fun _ => rfl) (ok := fun _ => True) ho0 (fun _ _ => trivial); clear ho0; have hat := True.intro; rw [← Ny257.out] at ho; change Kd.R (Kd.int .u8) 5 w21 w.heap.size (fun _ => True) v258 y257 at ho; have n0_ := Aside0.mk (hb); have n1_ := Aside0.mk (ho); clear HB; clear HO255; have HB := n0_; have HO259 := n1_; clear n0_ n1_; clear ho hb hg hat))
           go_roundg k1
           case measure => have := HK1.out; omega
           case rel => exact ⟨(y257), (wrap64 (x4_1 + 1)), (by first | rfl | (simp; done) | (simp [*]; done)), H', ⟨by have := HK1.out; omega⟩, ⟨by (with_reducible repeat (first | apply Kd.R_alloc | apply Kd.R_drewN | apply Kd.R_drew)); exact HO259.out⟩, ⟨by repeat (first | (with_reducible first | exact HB.out | apply below_alloc | apply pw_below_drewN | apply below_drew1) | exact HB.out)⟩⟩
          ·rw [if_neg c18] at H
           exact absurd H (by simp)
         ·rw [if_neg c16] at H
          exact absurd H (by simp)
        ·rw [if_neg c15] at H
         exact absurd H (by simp)
       ·rw [if_neg c13] at H
        exact absurd H (by simp)
     ·rw [if_neg c6] at H
      exact absurd H (by simp)
    ·rw [if_neg c5] at H
     have c5b0 : decide (x4_1 < (a0.size : Int)) = false := decide_eq_false c5
     clear c5
     obtain rfl := Option.some.inj H
     have hcv22 := own_string (P := Tryd.prog) Tryd.underlying62 Tryd.underlying5 Tryd.underlying9 (Kd.own_of_R HO_3.out)
     go_wp2
     go_ret
     exact ⟨by first | rfl | (simp [errW_none, errW_some] <;> rfl) | (simp [*, errW_none, errW_some] <;> rfl), by repeat (first | (with_reducible first | exact HB.out | apply below_alloc | apply pw_below_drewN | apply below_drew1) | exact HB.out)⟩
end Go.Proofs.YtcmemgahgenpdaaDoor.PSc
end
section
namespace Go.Proofs.YtcmemgahgenpdaaDoor.Pure
open Go.RowKit Go.Proofs.YtcmemgahgenpdaaDoor.PSc Go.Proofs.YtcmemgahgenpdaaDoor.Hand Go.Proofs.YtcmemgahgenpdaaDoorW.PrintWords Go.Proofs.YtcmemgahgenpdaaDoorW.PrintLast
set_option linter.unusedVariables false
set_option linter.unusedSimpArgs false
def refOk (n : Nat) : Bool :=
  (graftageref56_plain.f 12 (n : Int) == some (plainQ (n : Int))) && (match graftageref02_Hex.f 4 (byteS (n : Int)) with | some t => Bs ((⟨#[37]⟩ : ByteArray) ++ t) == Bs (hexQ (n : Int)) | none => false)
theorem ref_all : ((List.range 256).all refOk) = true := by kernel_rfl
theorem ref_plain (n : Nat) (h : n < 256) : Ev (fun k => graftageref56_plain.f k (n : Int)) (plainQ (n : Int)) := by
  have h1 := List.all_eq_true.1 ref_all n (List.mem_range.2 h)
  unfold refOk at h1
  rw [Bool.and_eq_true, beq_iff_eq] at h1
  exact Ev.mono (fun k => graftageref56_plain.mono _ k) h1.1
theorem ref_hex (n : Nat) (h : n < 256) : ∃ t, Ev (fun k => graftageref02_Hex.f k (byteS (n : Int))) t ∧ (⟨#[37]⟩ : ByteArray) ++ t = hexQ (n : Int) := by
  have h1 := List.all_eq_true.1 ref_all n (List.mem_range.2 h)
  unfold refOk at h1
  rw [Bool.and_eq_true] at h1
  have h2 := h1.2
  cases e : graftageref02_Hex.f 4 (byteS (n : Int)) with
  | none => rw [e] at h2; cases h2
  | some t =>
    rw [e] at h2
    exact ⟨t, Ev.mono (fun k => graftageref02_Hex.mono _ k) e, Bs_inj (eq_of_beq h2)⟩
theorem Ev.pos {α : Type} {c : Prop} [Decidable c] {f g : Nat → Option α} {r : α} (hc : c) (h : Ev f r) : Ev (fun k => if c then f k else g k) r := by
  simpa only [if_pos hc] using h
theorem Ev.neg {α : Type} {c : Prop} [Decidable c] {f g : Nat → Option α} {r : α} (hc : ¬ c) (h : Ev g r) : Ev (fun k => if c then f k else g k) r := by
  simpa only [if_neg hc] using h
theorem bt_byte (s : ByteArray) (i : Nat) (h : i < s.size) : ∃ n : Nat, n < 256 ∧ bt s i = (n : Int) ∧ s.extract i (i + 1) = byteS (n : Int) := by
  refine ⟨s[i].toNat, by have := s[i].toNat_lt; omega, ?_, ?_⟩
  · unfold bt; rw [dif_pos (show ((i : Int)).toNat < s.size by omega)]; rfl
  · apply Bs_inj
    unfold Bs byteS
    rw [Lib.extract_data]
    rw [show i + 1 - i = 1 by omega]
    have hl : i < s.data.toList.length := by rw [data_length]; exact h
    rw [List.take_one, List.head?_drop, List.getElem?_eq_getElem hl]
    simp
    rfl
theorem bytes_piece (n : Nat) (h : n < 256) (hp : plainQ (n : Int) = true) : bytesOf (pieceQ (n : Int)) = [(n : Int)] := by
  unfold pieceQ
  rw [if_pos hp]
  unfold byteS bytesOf
  simp
  omega
theorem word_l0 (s : ByteArray) (hs : s.size ≤ 1000000000) : ∀ (d i : Nat), i + d = s.size →
    Ev (fun k => graftageref56_Word.l0 k s (bytesOf (wordL s i)) (i : Int)) (wordL s s.size) := by
  intro d
  induction d with
  | zero =>
    intro i hd
    obtain rfl : i = s.size := by omega
    refine Ev.succ (Ev.of fun k => ?_)
    rw [graftageref56_Word.l0, if_neg (by omega), str_bytesOf]
  | succ d ih =>
    intro i hd
    have hlt : i < s.size := by omega
    have hw := wordL_size s i
    have hl : (bytesOf (wordL s i)).length ≤ 3000000000 := by rw [← size_bytesOf]; omega
    obtain ⟨n, hn, hb, hx⟩ := bt_byte s i hlt
    have w1 : wrap64 ((i : Int) + 1) = ((i + 1 : Nat) : Int) := by rw [wrap64_id (by omega) (by omega)]; rfl
    have hstep := ih (i + 1) (by omega)
    rw [wordL, bytesOf_append, hb] at hstep
    have hp := ref_plain n hn
    refine Ev.succ ?_
    simp only [graftageref56_Word.l0, hb, w1]
    refine Ev.pos (by omega) (Ev.pos (by omega) (Ev.bind hp ?_))
    cases c : plainQ (n : Int) with
    | true =>
      rw [bytes_piece n hn c] at hstep
      exact Ev.pos rfl (Ev.pos (by omega) hstep)
    | false =>
      obtain ⟨t, ht, ht2⟩ := ref_hex n hn
      have hpq : pieceQ (n : Int) = hexQ (n : Int) := by unfold pieceQ; rw [if_neg (by rw [c]; simp)]
      rw [hpq, ← ht2, bytesOf_append, ← List.append_assoc] at hstep
      have htz : t.size ≤ 3 := by
        have := pieceQ_size (n : Int)
        rw [hpq, ← ht2, size_append] at this; omega
      simp only [Option.bind_some, Int.toNat_natCast, hx]
      refine Ev.neg (by simp) (Ev.pos (by omega) (Ev.pos (by omega) (Ev.pos (by omega) (Ev.bind ht ?_))))
      exact Ev.pos (by simp; omega) hstep
theorem word_ev (s : ByteArray) (hs : s.size ≤ 1000000000) : Ev (fun k => graftageref56_Word.f k s) (wordS s) := by
  simp only [graftageref56_Word.f]
  unfold wordS
  by_cases c : s.size = 0
  · rw [if_pos c]
    refine Ev.pos ?_ (Ev.pure _)
    rw [toList_bytes]
    exact List.length_eq_zero_iff.1 (by rw [data_length]; exact c)
  · rw [if_neg c]
    refine Ev.neg ?_ (word_l0 s hs s.size 0 (by omega))
    rw [toList_bytes]
    intro e
    exact c (by rw [← data_length, e]; rfl)
theorem dig_one (m : Nat) (h : m < 10) : strOfNums [((48 + m : Nat) : Int)] = ⟨#[UInt8.ofNat (48 + m)]⟩ := by
  generalize 48 + m = a
  apply Bs_inj
  unfold strOfNums Bs
  simp
theorem dec_step (m : Nat) (h : ¬ m < 10) : Lib.decDigits m = Lib.decDigits (m / 10) ++ [UInt8.ofNat (48 + m % 10)] := by
  rw [Lib.decDigits, dif_neg h]
def decB (m : Nat) (x : ByteArray) : ByteArray := (⟨(Lib.decDigits m).toArray⟩ : ByteArray) ++ x
theorem dig_mod (q : Int) (m : Nat) (hm : m ≤ 9223372036854775808) (hq : q = m ∨ q = -(m : Int)) : (wrap64 (48 + (mx (Int.tmod q 10) (wrap64 (-(Int.tmod q 10)))))) % 256 = ((48 + m % 10 : Nat) : Int) := by
  have h1 : Int.tmod (m : Int) 10 = ((m % 10 : Nat) : Int) := by rw [Int.tmod_eq_emod_of_nonneg (by omega)]; omega
  have e : mx (Int.tmod q 10) (wrap64 (-(Int.tmod q 10))) = ((m % 10 : Nat) : Int) := by
    rcases hq with rfl | rfl
    · rw [h1, wrap64_id (by omega) (by omega)]; unfold mx; split <;> omega
    · rw [Int.neg_tmod, h1, wrap64_id (by omega) (by omega)]; unfold mx; split <;> omega
  rw [e, wrap64_id (by omega) (by omega)]; omega
theorem dig_div (q : Int) (m : Nat) (hm : m ≤ 9223372036854775808) (hq : q = m ∨ q = -(m : Int)) : wrap64 (Int.tdiv q 10) = ((m / 10 : Nat) : Int) ∨ wrap64 (Int.tdiv q 10) = -((m / 10 : Nat) : Int) := by
  have h1 : Int.tdiv (m : Int) 10 = ((m / 10 : Nat) : Int) := by rw [Int.tdiv_eq_ediv_of_nonneg (by omega)]; omega
  rcases hq with rfl | rfl
  · left; rw [h1, wrap64_id (by omega) (by omega)]
  · right; rw [Int.neg_tdiv, h1, wrap64_id (by omega) (by omega)]
theorem size_pos {x : ByteArray} (h : x.size ≠ 0) : ¬ x.toList = ([] : List UInt8) := by
  rw [toList_bytes]
  intro e
  exact h (by rw [← data_length, e]; rfl)
theorem size_zero {x : ByteArray} (h : x.size = 0) : x.toList = ([] : List UInt8) := by
  rw [toList_bytes]
  exact List.length_eq_zero_iff.1 (by rw [data_length]; exact h)
def signB (n : Int) (x : ByteArray) : ByteArray := if n < 0 then (⟨#[45]⟩ : ByteArray) ++ x else x
theorem digits_fin (n : Int) (x : ByteArray) (hx : x.size ≠ 0) (hz : x.size ≤ 1000) : Ev (fun k => graftageref14_Digits.l0 k n x 0) (signB n x) := by
  refine Ev.succ (Ev.of fun k => ?_)
  rw [graftageref14_Digits.l0, if_pos rfl, if_neg (size_pos hx)]
  unfold signB
  by_cases c : n < 0
  · rw [if_pos c, if_pos c, if_pos (by omega)]
  · rw [if_neg c, if_neg c]
def digB (m : Nat) : ByteArray := ⟨#[UInt8.ofNat (48 + m % 10)]⟩
theorem digits_step (n : Int) (m : Nat) (q : Int) (x : ByteArray) (hm : m ≤ 9223372036854775808) (hq : q = m ∨ q = -(m : Int)) (hx : m ≠ 0 ∨ x.size = 0) (hz : x.size ≤ 1000) (k : Nat) :
    graftageref14_Digits.l0 (k + 1) n x q = graftageref14_Digits.l0 k n (digB m ++ x) (wrap64 (Int.tdiv q 10)) := by
  have hd := dig_mod q m hm hq
  have hs : strOfNums [((48 + m % 10 : Nat) : Int)] = digB m := dig_one (m % 10) (by omega)
  have h1 : (digB m).size = 1 := rfl
  rw [graftageref14_Digits.l0, hd]
  simp only [Option.bind_some, hs]
  by_cases c : q = 0
  · have hx0 : x.size = 0 := by omega
    rw [if_pos c, if_pos (size_zero hx0), if_pos (by omega)]
  · rw [if_neg c, if_pos (by omega)]
theorem dec_size (m : Nat) : 1 ≤ (Lib.decDigits m).length := by
  rw [Lib.decDigits]; split <;> simp
theorem digits_l0 (n : Int) (m : Nat) : ∀ (q : Int) (x : ByteArray), m ≤ 9223372036854775808 → (q = m ∨ q = -(m : Int)) → (m ≠ 0 ∨ x.size = 0) → x.size + (Lib.decDigits m).length ≤ 1000 →
    Ev (fun k => graftageref14_Digits.l0 k n x q) (signB n (decB m x)) := by
  induction m using Nat.strongRecOn with
  | ind m ih =>
    intro q x hm hq hx hz
    have hl := dec_size m
    refine Ev.succ (Ev.congr (fun k => digits_step n m q x hm hq hx (by omega) k) ?_)
    by_cases c : m < 10
    · have h0 : wrap64 (Int.tdiv q 10) = 0 := by
        have := dig_div q m hm hq
        have e : m / 10 = 0 := by omega
        rw [e] at this
        omega
      rw [h0]
      have e2 : decB m x = digB m ++ x := by
        unfold decB digB
        rw [Lib.decDigits_one c, show m % 10 = m by omega]
      rw [e2]
      exact digits_fin n _ (by rw [size_append]; show 1 + x.size ≠ 0; omega) (by rw [size_append]; show 1 + x.size ≤ 1000; omega)
    · have e2 : decB m x = decB (m / 10) (digB m ++ x) := by
        unfold decB
        rw [dec_step m c]
        apply Bs_inj
        simp only [Bs_append]
        simp [Bs, digB]
      rw [e2]
      have hl2 : (Lib.decDigits m).length = (Lib.decDigits (m / 10)).length + 1 := by rw [dec_step m c]; simp
      refine ih (m / 10) (by omega) _ _ (by omega) (dig_div q m hm hq) (Or.inl (by omega)) ?_
      rw [size_append]
      show 1 + x.size + _ ≤ _
      omega
theorem digits_ev (n : Int) (h0 : -9223372036854775808 ≤ n) (h1 : n ≤ 9223372036854775807) : Ev (fun k => graftageref14_Digits.f k n) (itoaS n) := by
  have hl := Lib.itoa_length_le n h0 h1
  have hlen : (Lib.decDigits n.natAbs).length ≤ 21 := by
    unfold Lib.itoa at hl
    split at hl
    · simp at hl; omega
    · rw [show n.natAbs = n.toNat by omega]; exact hl
  have h := digits_l0 n n.natAbs n ⟨#[]⟩ (by omega) (by omega) (Or.inr rfl) (by show 0 + _ ≤ _; omega)
  refine Ev.val (Ev.congr (fun k => rfl) h) ?_
  unfold signB decB itoaS Lib.itoa
  apply Bs_inj
  split
  · simp [Bs]
  · rw [show n.natAbs = n.toNat by omega]; simp [Bs]
end Go.Proofs.YtcmemgahgenpdaaDoor.Pure
end
section
namespace Go.Proofs.YtcmemgahgenpdaaDoor.PSc
open Go.Proofs.YtcmemgahgenpdaaDoor.Hand Go.RowKit Go.Proofs.YtcmemgahgenpdaaDoorW.PrintWords Go.Proofs.YtcmemgahgenpdaaDoorW.PrintLast Go.Proofs.YtcmemgahgenpdaaDoorW.PrintMore
attribute [local go_sem] max2_int min2_int max_two min_two max_three min_three max_four min_four
set_option linter.unusedVariables false
set_option linter.unusedSimpArgs false
def script_kinds.f  : Option (List ByteArray) := some (([(⟨#[]⟩ : ByteArray), (⟨#[119, 114, 105, 116, 101]⟩ : ByteArray), (⟨#[101, 114, 97, 115, 101]⟩ : ByteArray), (⟨#[97, 100, 100]⟩ : ByteArray), (⟨#[114, 101, 109, 111, 118, 101]⟩ : ByteArray), (⟨#[99, 111, 109, 109, 105, 116]⟩ : ByteArray), (⟨#[98, 114, 97, 110, 99, 104]⟩ : ByteArray), (⟨#[116, 97, 103]⟩ : ByteArray), (⟨#[115, 119, 105, 116, 99, 104]⟩ : ByteArray), (⟨#[114, 101, 115, 101, 116]⟩ : ByteArray), (⟨#[109, 101, 114, 103, 101]⟩ : ByteArray), (⟨#[112, 105, 99, 107]⟩ : ByteArray), (⟨#[117, 110, 100, 111]⟩ : ByteArray), (⟨#[114, 101, 98, 97, 115, 101]⟩ : ByteArray), (⟨#[103, 111, 111, 110]⟩ : ByteArray), (⟨#[115, 107, 105, 112]⟩ : ByteArray), (⟨#[97, 98, 111, 114, 116]⟩ : ByteArray), (⟨#[115, 116, 97, 115, 104]⟩ : ByteArray), (⟨#[97, 112, 112, 108, 121]⟩ : ByteArray), (⟨#[98, 97, 100]⟩ : ByteArray), (⟨#[103, 111, 111, 100]⟩ : ByteArray), (⟨#[102, 101, 116, 99, 104]⟩ : ByteArray), (⟨#[112, 117, 115, 104]⟩ : ByteArray), (⟨#[112, 97, 99, 107]⟩ : ByteArray), (⟨#[99, 111, 108, 108, 101, 99, 116]⟩ : ByteArray), (⟨#[115, 112, 97, 114, 115, 101]⟩ : ByteArray), (⟨#[116, 105, 99, 107]⟩ : ByteArray), (⟨#[100, 101, 108, 101, 116, 101]⟩ : ByteArray)] : List ByteArray))
set_option maxHeartbeats 8000000 in
set_option maxRecDepth 100000 in
theorem script_kinds.calls  (r : List ByteArray) (w : World) (h : script_kinds.f  = some r) :
  Calls Tryd.prog 19 #[] w fun e w' => ∃ v0_ : Value, e = .returned (v0_) ∧ Kd.R Kd.string 9 w' w.heap.size (fun _ => True) v0_ r ∧ Below w.heap.size w w' := by
 have HB := Aside0.mk (Below.refl w.heap.size w)
 have H : (some (([(⟨#[]⟩ : ByteArray), (⟨#[119, 114, 105, 116, 101]⟩ : ByteArray), (⟨#[101, 114, 97, 115, 101]⟩ : ByteArray), (⟨#[97, 100, 100]⟩ : ByteArray), (⟨#[114, 101, 109, 111, 118, 101]⟩ : ByteArray), (⟨#[99, 111, 109, 109, 105, 116]⟩ : ByteArray), (⟨#[98, 114, 97, 110, 99, 104]⟩ : ByteArray), (⟨#[116, 97, 103]⟩ : ByteArray), (⟨#[115, 119, 105, 116, 99, 104]⟩ : ByteArray), (⟨#[114, 101, 115, 101, 116]⟩ : ByteArray), (⟨#[109, 101, 114, 103, 101]⟩ : ByteArray), (⟨#[112, 105, 99, 107]⟩ : ByteArray), (⟨#[117, 110, 100, 111]⟩ : ByteArray), (⟨#[114, 101, 98, 97, 115, 101]⟩ : ByteArray), (⟨#[103, 111, 111, 110]⟩ : ByteArray), (⟨#[115, 107, 105, 112]⟩ : ByteArray), (⟨#[97, 98, 111, 114, 116]⟩ : ByteArray), (⟨#[115, 116, 97, 115, 104]⟩ : ByteArray), (⟨#[97, 112, 112, 108, 121]⟩ : ByteArray), (⟨#[98, 97, 100]⟩ : ByteArray), (⟨#[103, 111, 111, 100]⟩ : ByteArray), (⟨#[102, 101, 116, 99, 104]⟩ : ByteArray), (⟨#[112, 117, 115, 104]⟩ : ByteArray), (⟨#[112, 97, 99, 107]⟩ : ByteArray), (⟨#[99, 111, 108, 108, 101, 99, 116]⟩ : ByteArray), (⟨#[115, 112, 97, 114, 115, 101]⟩ : ByteArray), (⟨#[116, 105, 99, 107]⟩ : ByteArray), (⟨#[100, 101, 108, 101, 116, 101]⟩ : ByteArray)] : List ByteArray))) = some r := h
 clear h
 obtain ⟨y103, hy103⟩ : ∃ y_ : List ByteArray, y_ = (([(⟨#[]⟩ : ByteArray), (⟨#[119, 114, 105, 116, 101]⟩ : ByteArray), (⟨#[101, 114, 97, 115, 101]⟩ : ByteArray), (⟨#[97, 100, 100]⟩ : ByteArray), (⟨#[114, 101, 109, 111, 118, 101]⟩ : ByteArray), (⟨#[99, 111, 109, 109, 105, 116]⟩ : ByteArray), (⟨#[98, 114, 97, 110, 99, 104]⟩ : ByteArray), (⟨#[116, 97, 103]⟩ : ByteArray), (⟨#[115, 119, 105, 116, 99, 104]⟩ : ByteArray), (⟨#[114, 101, 115, 101, 116]⟩ : ByteArray), (⟨#[109, 101, 114, 103, 101]⟩ : ByteArray), (⟨#[112, 105, 99, 107]⟩ : ByteArray), (⟨#[117, 110, 100, 111]⟩ : ByteArray), (⟨#[114, 101, 98, 97, 115, 101]⟩ : ByteArray), (⟨#[103, 111, 111, 110]⟩ : ByteArray), (⟨#[115, 107, 105, 112]⟩ : ByteArray), (⟨#[97, 98, 111, 114, 116]⟩ : ByteArray), (⟨#[115, 116, 97, 115, 104]⟩ : ByteArray), (⟨#[97, 112, 112, 108, 121]⟩ : ByteArray), (⟨#[98, 97, 100]⟩ : ByteArray), (⟨#[103, 111, 111, 100]⟩ : ByteArray), (⟨#[102, 101, 116, 99, 104]⟩ : ByteArray), (⟨#[112, 117, 115, 104]⟩ : ByteArray), (⟨#[112, 97, 99, 107]⟩ : ByteArray), (⟨#[99, 111, 108, 108, 101, 99, 116]⟩ : ByteArray), (⟨#[115, 112, 97, 114, 115, 101]⟩ : ByteArray), (⟨#[116, 105, 99, 107]⟩ : ByteArray), (⟨#[100, 101, 108, 101, 116, 101]⟩ : ByteArray)] : List ByteArray)) := ⟨_, rfl⟩
 replace H : (some y103) = some r := by first | (rw [hy103]; with_reducible exact H) | (have H2_ := (Option.bind_some _ _).symm.trans H; rw [hy103]; with_reducible exact H2_) | (have H2_ := (Option.bind_some _ _).symm.trans H; with_reducible exact H2_) | with_reducible exact H | (rw [hy103]; exact H) | exact H
 have Ny103 := Aside0.mk hy103
 clear hy103
 obtain rfl := Option.some.inj H
 go_enter Tryd.func19, Tryd.ntmps19
 go_wp2_with (first | ((with_reducible refine gate_dst (N := 1) rfl ?_); refine Kd.R_lit Kd.string _ 9 ?hg (N := 1) ?hd (xs := ([(⟨#[]⟩ : ByteArray), (⟨#[119, 114, 105, 116, 101]⟩ : ByteArray), (⟨#[101, 114, 97, 115, 101]⟩ : ByteArray), (⟨#[97, 100, 100]⟩ : ByteArray), (⟨#[114, 101, 109, 111, 118, 101]⟩ : ByteArray), (⟨#[99, 111, 109, 109, 105, 116]⟩ : ByteArray), (⟨#[98, 114, 97, 110, 99, 104]⟩ : ByteArray), (⟨#[116, 97, 103]⟩ : ByteArray), (⟨#[115, 119, 105, 116, 99, 104]⟩ : ByteArray), (⟨#[114, 101, 115, 101, 116]⟩ : ByteArray), (⟨#[109, 101, 114, 103, 101]⟩ : ByteArray), (⟨#[112, 105, 99, 107]⟩ : ByteArray), (⟨#[117, 110, 100, 111]⟩ : ByteArray), (⟨#[114, 101, 98, 97, 115, 101]⟩ : ByteArray), (⟨#[103, 111, 111, 110]⟩ : ByteArray), (⟨#[115, 107, 105, 112]⟩ : ByteArray), (⟨#[97, 98, 111, 114, 116]⟩ : ByteArray), (⟨#[115, 116, 97, 115, 104]⟩ : ByteArray), (⟨#[97, 112, 112, 108, 121]⟩ : ByteArray), (⟨#[98, 97, 100]⟩ : ByteArray), (⟨#[103, 111, 111, 100]⟩ : ByteArray), (⟨#[102, 101, 116, 99, 104]⟩ : ByteArray), (⟨#[112, 117, 115, 104]⟩ : ByteArray), (⟨#[112, 97, 99, 107]⟩ : ByteArray), (⟨#[99, 111, 108, 108, 101, 99, 116]⟩ : ByteArray), (⟨#[115, 112, 97, 114, 115, 101]⟩ : ByteArray), (⟨#[116, 105, 99, 107]⟩ : ByteArray), (⟨#[100, 101, 108, 101, 116, 101]⟩ : ByteArray)] : List ByteArray)) (inner := [.string (⟨#[]⟩ : ByteArray), .string (⟨#[119, 114, 105, 116, 101]⟩ : ByteArray), .string (⟨#[101, 114, 97, 115, 101]⟩ : ByteArray), .string (⟨#[97, 100, 100]⟩ : ByteArray), .string (⟨#[114, 101, 109, 111, 118, 101]⟩ : ByteArray), .string (⟨#[99, 111, 109, 109, 105, 116]⟩ : ByteArray), .string (⟨#[98, 114, 97, 110, 99, 104]⟩ : ByteArray), .string (⟨#[116, 97, 103]⟩ : ByteArray), .string (⟨#[115, 119, 105, 116, 99, 104]⟩ : ByteArray), .string (⟨#[114, 101, 115, 101, 116]⟩ : ByteArray), .string (⟨#[109, 101, 114, 103, 101]⟩ : ByteArray), .string (⟨#[112, 105, 99, 107]⟩ : ByteArray), .string (⟨#[117, 110, 100, 111]⟩ : ByteArray), .string (⟨#[114, 101, 98, 97, 115, 101]⟩ : ByteArray), .string (⟨#[103, 111, 111, 110]⟩ : ByteArray), .string (⟨#[115, 107, 105, 112]⟩ : ByteArray), .string (⟨#[97, 98, 111, 114, 116]⟩ : ByteArray), .string (⟨#[115, 116, 97, 115, 104]⟩ : ByteArray), .string (⟨#[97, 112, 112, 108, 121]⟩ : ByteArray), .string (⟨#[98, 97, 100]⟩ : ByteArray), .string (⟨#[103, 111, 111, 100]⟩ : ByteArray), .string (⟨#[102, 101, 116, 99, 104]⟩ : ByteArray), .string (⟨#[112, 117, 115, 104]⟩ : ByteArray), .string (⟨#[112, 97, 99, 107]⟩ : ByteArray), .string (⟨#[99, 111, 108, 108, 101, 99, 116]⟩ : ByteArray), .string (⟨#[115, 112, 97, 114, 115, 101]⟩ : ByteArray), .string (⟨#[116, 105, 99, 107]⟩ : ByteArray), .string (⟨#[100, 101, 108, 101, 116, 101]⟩ : ByteArray)]) (ok := fun _ => True) (okp := fun _ => True) ?hr ?hp (fun _ hk => hk) trivial (Below.refl _ _) (Nat.le_refl _) (by simp) ?_; (case hd => rfl); (case hg => rfl); (case hr => first | (go_simp; done) | (go_simp; rfl)); (case hp => exact (Reps.one (show Kd.M Kd.string _ _ _ (⟨#[]⟩ : ByteArray) [.string (⟨#[]⟩ : ByteArray)] from rfl) (Reps.one (show Kd.M Kd.string _ _ _ (⟨#[119, 114, 105, 116, 101]⟩ : ByteArray) [.string (⟨#[119, 114, 105, 116, 101]⟩ : ByteArray)] from rfl) (Reps.one (show Kd.M Kd.string _ _ _ (⟨#[101, 114, 97, 115, 101]⟩ : ByteArray) [.string (⟨#[101, 114, 97, 115, 101]⟩ : ByteArray)] from rfl) (Reps.one (show Kd.M Kd.string _ _ _ (⟨#[97, 100, 100]⟩ : ByteArray) [.string (⟨#[97, 100, 100]⟩ : ByteArray)] from rfl) (Reps.one (show Kd.M Kd.string _ _ _ (⟨#[114, 101, 109, 111, 118, 101]⟩ : ByteArray) [.string (⟨#[114, 101, 109, 111, 118, 101]⟩ : ByteArray)] from rfl) (Reps.one (show Kd.M Kd.string _ _ _ (⟨#[99, 111, 109, 109, 105, 116]⟩ : ByteArray) [.string (⟨#[99, 111, 109, 109, 105, 116]⟩ : ByteArray)] from rfl) (Reps.one (show Kd.M Kd.string _ _ _ (⟨#[98, 114, 97, 110, 99, 104]⟩ : ByteArray) [.string (⟨#[98, 114, 97, 110, 99, 104]⟩ : ByteArray)] from rfl) (Reps.one (show Kd.M Kd.string _ _ _ (⟨#[116, 97, 103]⟩ : ByteArray) [.string (⟨#[116, 97, 103]⟩ : ByteArray)] from rfl) (Reps.one (show Kd.M Kd.string _ _ _ (⟨#[115, 119, 105, 116, 99, 104]⟩ : ByteArray) [.string (⟨#[115, 119, 105, 116, 99, 104]⟩ : ByteArray)] from rfl) (Reps.one (show Kd.M Kd.string _ _ _ (⟨#[114, 101, 115, 101, 116]⟩ : ByteArray) [.string (⟨#[114, 101, 115, 101, 116]⟩ : ByteArray)] from rfl) (Reps.one (show Kd.M Kd.string _ _ _ (⟨#[109, 101, 114, 103, 101]⟩ : ByteArray) [.string (⟨#[109, 101, 114, 103, 101]⟩ : ByteArray)] from rfl) (Reps.one (show Kd.M Kd.string _ _ _ (⟨#[112, 105, 99, 107]⟩ : ByteArray) [.string (⟨#[112, 105, 99, 107]⟩ : ByteArray)] from rfl) (Reps.one (show Kd.M Kd.string _ _ _ (⟨#[117, 110, 100, 111]⟩ : ByteArray) [.string (⟨#[117, 110, 100, 111]⟩ : ByteArray)] from rfl) (Reps.one (show Kd.M Kd.string _ _ _ (⟨#[114, 101, 98, 97, 115, 101]⟩ : ByteArray) [.string (⟨#[114, 101, 98, 97, 115, 101]⟩ : ByteArray)] from rfl) (Reps.one (show Kd.M Kd.string _ _ _ (⟨#[103, 111, 111, 110]⟩ : ByteArray) [.string (⟨#[103, 111, 111, 110]⟩ : ByteArray)] from rfl) (Reps.one (show Kd.M Kd.string _ _ _ (⟨#[115, 107, 105, 112]⟩ : ByteArray) [.string (⟨#[115, 107, 105, 112]⟩ : ByteArray)] from rfl) (Reps.one (show Kd.M Kd.string _ _ _ (⟨#[97, 98, 111, 114, 116]⟩ : ByteArray) [.string (⟨#[97, 98, 111, 114, 116]⟩ : ByteArray)] from rfl) (Reps.one (show Kd.M Kd.string _ _ _ (⟨#[115, 116, 97, 115, 104]⟩ : ByteArray) [.string (⟨#[115, 116, 97, 115, 104]⟩ : ByteArray)] from rfl) (Reps.one (show Kd.M Kd.string _ _ _ (⟨#[97, 112, 112, 108, 121]⟩ : ByteArray) [.string (⟨#[97, 112, 112, 108, 121]⟩ : ByteArray)] from rfl) (Reps.one (show Kd.M Kd.string _ _ _ (⟨#[98, 97, 100]⟩ : ByteArray) [.string (⟨#[98, 97, 100]⟩ : ByteArray)] from rfl) (Reps.one (show Kd.M Kd.string _ _ _ (⟨#[103, 111, 111, 100]⟩ : ByteArray) [.string (⟨#[103, 111, 111, 100]⟩ : ByteArray)] from rfl) (Reps.one (show Kd.M Kd.string _ _ _ (⟨#[102, 101, 116, 99, 104]⟩ : ByteArray) [.string (⟨#[102, 101, 116, 99, 104]⟩ : ByteArray)] from rfl) (Reps.one (show Kd.M Kd.string _ _ _ (⟨#[112, 117, 115, 104]⟩ : ByteArray) [.string (⟨#[112, 117, 115, 104]⟩ : ByteArray)] from rfl) (Reps.one (show Kd.M Kd.string _ _ _ (⟨#[112, 97, 99, 107]⟩ : ByteArray) [.string (⟨#[112, 97, 99, 107]⟩ : ByteArray)] from rfl) (Reps.one (show Kd.M Kd.string _ _ _ (⟨#[99, 111, 108, 108, 101, 99, 116]⟩ : ByteArray) [.string (⟨#[99, 111, 108, 108, 101, 99, 116]⟩ : ByteArray)] from rfl) (Reps.one (show Kd.M Kd.string _ _ _ (⟨#[115, 112, 97, 114, 115, 101]⟩ : ByteArray) [.string (⟨#[115, 112, 97, 114, 115, 101]⟩ : ByteArray)] from rfl) (Reps.one (show Kd.M Kd.string _ _ _ (⟨#[116, 105, 99, 107]⟩ : ByteArray) [.string (⟨#[116, 105, 99, 107]⟩ : ByteArray)] from rfl) (Reps.one (show Kd.M Kd.string _ _ _ (⟨#[100, 101, 108, 101, 116, 101]⟩ : ByteArray) [.string (⟨#[100, 101, 108, 101, 116, 101]⟩ : ByteArray)] from rfl) (Reps.none _ _)))))))))))))))))))))))))))))); intro v104 w1 ho2 hb hg_ hnew_; clear hg_ hnew_; (first | rw [← Ny103.out] at ho2 | (simp only [Int.reduceToNat] at ho2; rw [← Ny103.out] at ho2)); have n0_ := Aside0.mk (Kd.R_lower ho2 (below_size (by repeat (first | (with_reducible first | exact HB.out | apply below_alloc | apply pw_below_drewN | apply below_drew1) | exact HB.out)))); have n1_ := Aside0.mk (below_step (by repeat (first | (with_reducible first | exact HB.out | apply below_alloc | apply pw_below_drewN | apply below_drew1) | exact HB.out)) hb); clear HB; have HO105 := n0_; have HB := n1_; clear n0_ n1_; clear hb ho2))
 go_ret
 exact ⟨_, by first | rfl | (simp [errW_none, errW_some] <;> rfl) | (simp [*, errW_none, errW_some] <;> rfl), by (with_reducible repeat (first | apply Kd.R_alloc | apply Kd.R_drewN | apply Kd.R_drew)); exact HO105.out, by repeat (first | (with_reducible first | exact HB.out | apply below_alloc | apply pw_below_drewN | apply below_drew1) | exact HB.out)⟩
end Go.Proofs.YtcmemgahgenpdaaDoor.PSc
end
section
namespace Go.Proofs.YtcmemgahgenpdaaDoor.PSc
open Go.Proofs.YtcmemgahgenpdaaDoor.Hand Go.RowKit Go.Proofs.YtcmemgahgenpdaaDoorW.PrintWords Go.Proofs.YtcmemgahgenpdaaDoorW.PrintLast Go.Proofs.YtcmemgahgenpdaaDoorW.PrintMore
attribute [local go_sem] max2_int min2_int max_two min_two max_three min_three max_four min_four
set_option linter.unusedVariables false
set_option linter.unusedSimpArgs false
def script_flag.f (a0 : Bool) : Option (ByteArray) := if a0 = true then (some (⟨#[49]⟩ : ByteArray)) else (some (⟨#[48]⟩ : ByteArray))
set_option maxHeartbeats 8000000 in
set_option maxRecDepth 100000 in
theorem script_flag.calls (a0 : Bool) (r : ByteArray) (w : World) (h : script_flag.f a0 = some r) :
  Calls Tryd.prog 21 #[.bool a0] w fun e w' => e = .returned (.string r) ∧ Drawn0 w w' := by
 have H : (if a0 = true then (some (⟨#[49]⟩ : ByteArray)) else (some (⟨#[48]⟩ : ByteArray))) = some r := h
 clear h
 by_cases c2 : a0 = true
 ·subst c2
  have H1 : (some (⟨#[49]⟩ : ByteArray)) = some r := by rw [if_pos rfl] at H; exact H
  clear H
  have H := H1
  clear H1
  obtain rfl := Option.some.inj H
  go_enter Tryd.func21, Tryd.ntmps21
  go_wp2
  go_ret
  exact ⟨by first | rfl | (simp; done) | (simp [*]; done), by repeat (first | exact Drawn0.refl _ | apply Drawn0.step)⟩
 ·replace c2 := Bool.eq_false_iff.mpr c2
  subst c2
  have H1 : (some (⟨#[48]⟩ : ByteArray)) = some r := by rw [if_neg (show ¬ (false = true) by decide)] at H; exact H
  clear H
  have H := H1
  clear H1
  obtain rfl := Option.some.inj H
  go_enter Tryd.func21, Tryd.ntmps21
  go_wp2
  go_ret
  exact ⟨by first | rfl | (simp; done) | (simp [*]; done), by repeat (first | exact Drawn0.refl _ | apply Drawn0.step)⟩
end Go.Proofs.YtcmemgahgenpdaaDoor.PSc
end
section
namespace Go.Proofs.YtcmemgahgenpdaaDoor.PSc
open Go.Proofs.YtcmemgahgenpdaaDoor.Hand Go.RowKit Go.Proofs.YtcmemgahgenpdaaDoorW.PrintWords Go.Proofs.YtcmemgahgenpdaaDoorW.PrintLast Go.Proofs.YtcmemgahgenpdaaDoorW.PrintMore
attribute [local go_sem] max2_int min2_int max_two min_two max_three min_three max_four min_four
set_option linter.unusedVariables false
set_option linter.unusedSimpArgs false
mutual
def script_Line.j0 : Nat → List ByteArray → Bool → Int → List ByteArray → Int → Bool → ByteArray → Option (ByteArray × Int)
 | 0, _, _, _, _, _, _, _ => none
 | k + 1, x4, x10, x135000, x135001, x135002, x135003, x135004 => if x10 = true then (some ((⟨#[]⟩ : ByteArray), 560)) else (if x135002 < (-1099511627776) then (some ((⟨#[]⟩ : ByteArray), 1)) else (if x135002 > 1099511627776 then (some ((⟨#[]⟩ : ByteArray), 1)) else (if 0 ≤ x135000 then (if x135000 < (x4.length : Int) then ((strconv_Itoa_20.f x135002).bind fun t139 => ((script_flag.f x135003).bind fun t140 => ((script_word.f x135004).bind fun t141 => (script_Line.l0 k (([rdOf ByteArray.empty x4 x135000, t139, t140, t141] : List ByteArray)) x135001 (x135001.length : Int) 0)))) else (none)) else (none))))
def script_Line.l0 : Nat → List ByteArray → List ByteArray → Int → Int → Option (ByteArray × Int)
 | 0, _, _, _, _ => none
 | k + 1, x5, x46, x47, x48 => if x48 < x47 then (if 0 ≤ x48 then (if x48 < (x46.length : Int) then ((script_word.f (rdOf ByteArray.empty x46 x48)).bind fun t146 => (if x5.length < 8796093022208 then (script_Line.l0 k (x5 ++ [t146]) x46 x47 (wrap64 (x48 + 1))) else (none))) else (none)) else (none)) else ((script_joined.f x5).bind fun t150 => (if (t150.size : Int) > 1048576 then (some ((⟨#[]⟩ : ByteArray), 4)) else (some (t150, 0))))
end
def script_Line.f (k : Nat) (a0_0 : Int) (l0_1 : List ByteArray) (a0_2 : Int) (a0_3 : Bool) (a0_4 : ByteArray) : Option (ByteArray × Int) := (script_kinds.f).bind fun t135 => (if a0_0 < 1 then (script_Line.j0 k t135 true a0_0 l0_1 a0_2 a0_3 a0_4) else (script_Line.j0 k t135 (decide (a0_0 ≥ (t135.length : Int))) a0_0 l0_1 a0_2 a0_3 a0_4))
def script_Line.T6 : Bool × List (List Nat × List Nat) := (true, [([], []), ([], []), ([1], [1]), ([0, 2], [0, 2]), ([3], [3]), ([], []), ([5], [5]), ([6], [6]), ([], []), ([8], [8]), ([9, 7], [9]), ([], []), ([11], [11]), ([12, 10], [12]), ([4, 7, 10, 13], [4, 7, 10, 13]), ([14, 13, 0, 1, 2, 3, 4, 5, 6, 7, 8, 9, 10, 11, 12, 13, 14], [14])])
def script_Line.B6 : List Nat := [0, 0, 2, 7, 15, 0, 32, 96, 0, 256, 992, 0, 2048, 8160, 16383, 32767]
theorem script_Line.tab6 : rtab .any (opsOf Tryd.f8 6) = script_Line.T6 := by kernel_rfl
theorem script_Line.bits6 : waitsOk script_Line.T6.2 script_Line.B6 = true := by kernel_rfl
set_option maxHeartbeats 8000000 in
set_option maxRecDepth 100000 in
theorem script_Line.calls (k : Nat) (a0_0 : Int) (A0_1 : Option Addr) (c0_1 : Nat) (l0_1 : List ByteArray) (a0_2 : Int) (a0_3 : Bool) (a0_4 : ByteArray) (r1 : ByteArray) (r2 : Int) (w : World) (hr0_1 : Kd.C Kd.string w A0_1 l0_1.length l0_1) (hc0_1 : l0_1.length ≤ c0_1) (hWd : Wds w) (h : script_Line.f k a0_0 l0_1 a0_2 a0_3 a0_4 = some (r1, r2)) :
  Calls Tryd.prog 8 #[.agg #[.int .i64 a0_0, .slice A0_1 l0_1.length c0_1, .int .i64 a0_2, .bool a0_3, .string a0_4]] w fun e w' => e = .returned (.tuple #[.string r1, .int .i64 r2]) ∧ Below w.heap.size w w' := by
 have hu24 := Tryd.underlying24
 have HR0_1 := Aside0.mk hr0_1
 have HC0_1 := Aside0.mk hc0_1
 clear hr0_1 hc0_1
 have HB := Aside0.mk (Below.refl w.heap.size w)
 have H : ((script_kinds.f).bind fun t135 => (if a0_0 < 1 then (script_Line.j0 k t135 true a0_0 l0_1 a0_2 a0_3 a0_4) else (script_Line.j0 k t135 (decide (a0_0 ≥ (t135.length : Int))) a0_0 l0_1 a0_2 a0_3 a0_4))) = some (r1, r2) := h
 clear h
 replace H := Option.bind_eq_some_iff.mp H
 obtain ⟨t135, A20, H⟩ := H
 replace H : (if a0_0 < 1 then (script_Line.j0 k t135 true a0_0 l0_1 a0_2 a0_3 a0_4) else (script_Line.j0 k t135 (decide (a0_0 ≥ (t135.length : Int))) a0_0 l0_1 a0_2 a0_3 a0_4)) = some (r1, r2) := H
 have A2 := Aside0.mk A20
 clear A20
 have HC3 := Aside0.mk H
 clear H
 go_enter Tryd.func8, Tryd.ntmps8
 go_upto_region 2 with (first | ((with_reducible refine gate_dst (N := 1) rfl ?_); (try (refine gate_guard (by rfl) ?_; dsimp only)); refine box_event ?hg (N := 1) ?hd (cs := #[.int .i64 a0_0, .slice A0_1 l0_1.length c0_1, .int .i64 a0_2, .bool a0_3, .string a0_4]) (t := 24) ?hr ?_; (case hd => rfl); (case hg => rfl); (case hr => first | (go_simp; done) | (go_simp; rfl)); intro gb134 hg w4 hbox hb; have n0_ := Aside0.mk (below_step (by repeat (first | (with_reducible first | exact HB.out | apply below_alloc | apply pw_below_drewN | apply below_drew1) | exact HB.out)) hb); have n1_ := Aside0.mk (hbox); have n2_ := Aside0.mk ((by rw [hg]; exact (below_size (by repeat (first | (with_reducible first | exact HB.out | apply below_alloc | apply pw_below_drewN | apply below_drew1) | exact HB.out))) : w.heap.size ≤ gb134)); have n3_ := Aside0.mk ((by rw [hg]; exact (below_size (by repeat (first | (with_reducible first | exact HB.out | apply below_alloc | apply pw_below_drewN | apply below_drew1) | exact HB.out))) : w.heap.size ≤ gb134)); clear HB; have HB := n0_; have BK134 := n1_; have GW134 := n2_; have GE134 := n3_; clear n0_ n1_ n2_ n3_; clear hb hbox hg) | ((with_reducible refine gate_callee (f := 19) rfl ?_); refine goesL_ (some 9) rfl rfl Tryd.func19 (by kernel_rfl) rfl #[] rfl (by (try simp only [List.map_toArray, List.map_cons, List.map_nil]); first | done | rfl | (simp only [List.length_drop, List.length_take]; rfl)) ?_; (with_reducible refine (script_kinds.calls  t135 _ A2.out).mono ?_); rintro e w5 ⟨v136, rfl, ho0, hb⟩; refine ⟨_, rfl, ?_⟩; have n0_ := Aside0.mk (Kd.R_lower ho0 (below_size (by repeat (first | (with_reducible first | exact HB.out | apply below_alloc | apply pw_below_drewN | apply below_drew1 | refine below_set ?_ GE134.out) | exact HB.out)))); have n1_ := Aside0.mk (blk_below (g := gb134) (o := .cells #[.int .i64 a0_0, .slice A0_1 l0_1.length c0_1, .int .i64 a0_2, .bool a0_3, .string a0_4] 24 (0, 0)) (by (with_reducible repeat (first | refine blk_drewN ?_ _ | refine blk_drew ?_ | refine blk_alloc ?_ _)); exact BK134.out) hb); have n2_ := Aside0.mk (below_step (by repeat (first | (with_reducible first | exact HB.out | apply below_alloc | apply pw_below_drewN | apply below_drew1 | refine below_set ?_ GE134.out) | exact HB.out)) hb); clear BK134; clear HB; have HO137 := n0_; have BK134 := n1_; have HB := n2_; clear n0_ n1_ n2_; (try clear hb); (try clear hb2); (try clear hk); (try clear hi); (try clear ho0)))
 (try simp only [Act.put, List.setIfInBounds_toArray, List.set_cons_zero, List.set_cons_succ])
 go_cut [10] (fun v10 wc => ∃ (kq : Nat) (x10_2 : Bool), v10 = .bool x10_2 ∧ Aside0 (script_Line.j0 kq t135 x10_2 a0_0 l0_1 a0_2 a0_3 a0_4 = some (r1, r2)) ∧ Aside0 (kq ≤ k) ∧ Aside0 (Kd.R Kd.string 9 wc w.heap.size (fun _ => True) v136 t135) ∧ Aside0 (wc.heap[gb134]? = some (.cells #[.int .i64 a0_0, (.slice A0_1 l0_1.length c0_1), .int .i64 a0_2, .bool a0_3, .string a0_4] 24 (0, 0))) ∧ Aside0 (Below w.heap.size w wc))
 case first =>
  have H := HC3.out
  clear HC3
  by_cases c6 : a0_0 < 1
  ·rw [if_pos c6] at H
   have c6b0 : decide (a0_0 < 1) = true := decide_eq_true c6
   clear c6
   (first | rw [c6b0] | (simp only [i64_w, i32_w]; rw [c6b0]) | skip)
   have H' := Aside0.mk H
   clear H
   have hcz7_0 : w5.cell? ⟨gb134, 0, none⟩ = some (.int .i64 a0_0) := (blk_cell BK134.out 0).trans rfl
   have hcz7_1 : w5.cell? ⟨gb134, 1, none⟩ = some (.slice A0_1 l0_1.length c0_1) := (blk_cell BK134.out 1).trans rfl
   have hcz7_2 : w5.cell? ⟨gb134, 2, none⟩ = some (.int .i64 a0_2) := (blk_cell BK134.out 2).trans rfl
   have hcz7_3 : w5.cell? ⟨gb134, 3, none⟩ = some (.bool a0_3) := (blk_cell BK134.out 3).trans rfl
   have hcz7_4 : w5.cell? ⟨gb134, 4, none⟩ = some (.string a0_4) := (blk_cell BK134.out 4).trans rfl
   have hfz7_0 := blk_frozen BK134.out 0
   have hfz7_1 := blk_frozen BK134.out 1
   have hfz7_2 := blk_frozen BK134.out 2
   have hfz7_3 := blk_frozen BK134.out 3
   have hfz7_4 := blk_frozen BK134.out 4
   go_wp2
   go_meet
   case rel => exact ⟨_, (true), (by first | rfl | (simp; done) | (simp [*]; done)), H', ⟨by first | omega | exact Nat.le_refl _⟩, ⟨by (with_reducible repeat (first | apply Kd.R_alloc | apply Kd.R_drewN | apply Kd.R_drew)); exact HO137.out⟩, ⟨by (with_reducible repeat (first | refine blk_drewN ?_ _ | refine blk_drew ?_ | refine blk_alloc ?_ _)); exact BK134.out⟩, ⟨by repeat (first | (with_reducible first | exact HB.out | apply below_alloc | apply pw_below_drewN | apply below_drew1 | refine below_set ?_ GE134.out) | exact HB.out)⟩⟩
  ·rw [if_neg c6] at H
   have c6b0 : decide (a0_0 < 1) = false := decide_eq_false c6
   clear c6
   (first | rw [c6b0] | (simp only [i64_w, i32_w]; rw [c6b0]) | skip)
   have H' := Aside0.mk H
   clear H
   have hcz8_0 : w5.cell? ⟨gb134, 0, none⟩ = some (.int .i64 a0_0) := (blk_cell BK134.out 0).trans rfl
   have hcz8_1 : w5.cell? ⟨gb134, 1, none⟩ = some (.slice A0_1 l0_1.length c0_1) := (blk_cell BK134.out 1).trans rfl
   have hcz8_2 : w5.cell? ⟨gb134, 2, none⟩ = some (.int .i64 a0_2) := (blk_cell BK134.out 2).trans rfl
   have hcz8_3 : w5.cell? ⟨gb134, 3, none⟩ = some (.bool a0_3) := (blk_cell BK134.out 3).trans rfl
   have hcz8_4 : w5.cell? ⟨gb134, 4, none⟩ = some (.string a0_4) := (blk_cell BK134.out 4).trans rfl
   have hfz8_0 := blk_frozen BK134.out 0
   have hfz8_1 := blk_frozen BK134.out 1
   have hfz8_2 := blk_frozen BK134.out 2
   have hfz8_3 := blk_frozen BK134.out 3
   have hfz8_4 := blk_frozen BK134.out 4
   obtain ⟨Ao9, co9, eo9⟩ := Kd.R_slice HO137.out
   subst eo9
   go_wp2
   go_meet
   case rel => exact ⟨_, (decide (a0_0 ≥ (t135.length : Int))), (by first | rfl | (simp; done) | (simp [*]; done)), H', ⟨by first | omega | exact Nat.le_refl _⟩, ⟨by (with_reducible repeat (first | apply Kd.R_alloc | apply Kd.R_drewN | apply Kd.R_drew)); exact HO137.out⟩, ⟨by (with_reducible repeat (first | refine blk_drewN ?_ _ | refine blk_drew ?_ | refine blk_alloc ?_ _)); exact BK134.out⟩, ⟨by repeat (first | (with_reducible first | exact HB.out | apply below_alloc | apply pw_below_drewN | apply below_drew1 | refine below_set ?_ GE134.out) | exact HB.out)⟩⟩
 case rest =>
  clear HC3
  try clear c1
  try clear p2
  try clear c6
  try clear c6b0
  try clear c8
  try clear hcz7_0
  try clear hcz7_1
  try clear hcz7_2
  try clear hcz7_3
  try clear hcz7_4
  try clear hcz8_0
  try clear hcz8_1
  try clear hcz8_2
  try clear hcz8_3
  try clear hcz8_4
  try clear hfz7_0
  try clear hfz7_1
  try clear hfz7_2
  try clear hfz7_3
  try clear hfz7_4
  try clear hfz8_0
  try clear hfz8_1
  try clear hfz8_2
  try clear hfz8_3
  try clear hfz8_4
  obtain ⟨kq, x10_2, rfl, HA, HJ2, HO_4, BK134, HB⟩ := hcut
  cases kq with
  | zero => exact absurd HA.out (by simp [script_Line.j0])
  | succ kj2 =>
   have H := HA.out
   clear HA
   simp only [script_Line.j0] at H
   by_cases c10 : x10_2 = true
   ·subst c10
    have H1 : (some ((⟨#[]⟩ : ByteArray), 560)) = some (r1, r2) := by rw [if_pos rfl] at H; exact H
    clear H
    have H := H1
    clear H1
    simp only [Option.some.injEq, Prod.mk.injEq] at H
    obtain ⟨rfl, rfl⟩ := H
    go_wp2
    go_ret2
    exact ⟨by first | rfl | (simp [errW_none, errW_some] <;> rfl) | (simp [*, errW_none, errW_some] <;> rfl), by repeat (first | (with_reducible first | exact HB.out | apply below_alloc | apply pw_below_drewN | apply below_drew1 | refine below_set ?_ GE134.out) | exact HB.out)⟩
   ·replace c10 := Bool.eq_false_iff.mpr c10
    subst c10
    have H1 : (if a0_2 < (-1099511627776) then (some ((⟨#[]⟩ : ByteArray), 1)) else (if a0_2 > 1099511627776 then (some ((⟨#[]⟩ : ByteArray), 1)) else (if 0 ≤ a0_0 then (if a0_0 < (t135.length : Int) then ((strconv_Itoa_20.f a0_2).bind fun t139 => ((script_flag.f a0_3).bind fun t140 => ((script_word.f a0_4).bind fun t141 => (script_Line.l0 kj2 (([rdOf ByteArray.empty t135 a0_0, t139, t140, t141] : List ByteArray)) l0_1 (l0_1.length : Int) 0)))) else (none)) else (none)))) = some (r1, r2) := by rw [if_neg (show ¬ (false = true) by decide)] at H; exact H
    clear H
    have H := H1
    clear H1
    by_cases c11 : a0_2 < (-1099511627776)
    ·rw [if_pos c11] at H
     have c11b0 : decide (a0_2 < (-1099511627776)) = true := decide_eq_true c11
     clear c11
     simp only [Option.some.injEq, Prod.mk.injEq] at H
     obtain ⟨rfl, rfl⟩ := H
     have hcz12_0 : wc.cell? ⟨gb134, 0, none⟩ = some (.int .i64 a0_0) := (blk_cell BK134.out 0).trans rfl
     have hcz12_1 : wc.cell? ⟨gb134, 1, none⟩ = some (.slice A0_1 l0_1.length c0_1) := (blk_cell BK134.out 1).trans rfl
     have hcz12_2 : wc.cell? ⟨gb134, 2, none⟩ = some (.int .i64 a0_2) := (blk_cell BK134.out 2).trans rfl
     have hcz12_3 : wc.cell? ⟨gb134, 3, none⟩ = some (.bool a0_3) := (blk_cell BK134.out 3).trans rfl
     have hcz12_4 : wc.cell? ⟨gb134, 4, none⟩ = some (.string a0_4) := (blk_cell BK134.out 4).trans rfl
     have hfz12_0 := blk_frozen BK134.out 0
     have hfz12_1 := blk_frozen BK134.out 1
     have hfz12_2 := blk_frozen BK134.out 2
     have hfz12_3 := blk_frozen BK134.out 3
     have hfz12_4 := blk_frozen BK134.out 4
     go_wp2
     go_ret2
     exact ⟨by first | rfl | (simp [errW_none, errW_some] <;> rfl) | (simp [*, errW_none, errW_some] <;> rfl), by repeat (first | (with_reducible first | exact HB.out | apply below_alloc | apply pw_below_drewN | apply below_drew1 | refine below_set ?_ GE134.out) | exact HB.out)⟩
    ·rw [if_neg c11] at H
     have c11b0 : decide (a0_2 < (-1099511627776)) = false := decide_eq_false c11
     clear c11
     by_cases c13 : a0_2 > 1099511627776
     ·rw [if_pos c13] at H
      have c13b0 : decide (1099511627776 < a0_2) = true := decide_eq_true c13
      clear c13
      simp only [Option.some.injEq, Prod.mk.injEq] at H
      obtain ⟨rfl, rfl⟩ := H
      have hcz14_0 : wc.cell? ⟨gb134, 0, none⟩ = some (.int .i64 a0_0) := (blk_cell BK134.out 0).trans rfl
      have hcz14_1 : wc.cell? ⟨gb134, 1, none⟩ = some (.slice A0_1 l0_1.length c0_1) := (blk_cell BK134.out 1).trans rfl
      have hcz14_2 : wc.cell? ⟨gb134, 2, none⟩ = some (.int .i64 a0_2) := (blk_cell BK134.out 2).trans rfl
      have hcz14_3 : wc.cell? ⟨gb134, 3, none⟩ = some (.bool a0_3) := (blk_cell BK134.out 3).trans rfl
      have hcz14_4 : wc.cell? ⟨gb134, 4, none⟩ = some (.string a0_4) := (blk_cell BK134.out 4).trans rfl
      have hfz14_0 := blk_frozen BK134.out 0
      have hfz14_1 := blk_frozen BK134.out 1
      have hfz14_2 := blk_frozen BK134.out 2
      have hfz14_3 := blk_frozen BK134.out 3
      have hfz14_4 := blk_frozen BK134.out 4
      go_wp2
      go_ret2
      exact ⟨by first | rfl | (simp [errW_none, errW_some] <;> rfl) | (simp [*, errW_none, errW_some] <;> rfl), by repeat (first | (with_reducible first | exact HB.out | apply below_alloc | apply pw_below_drewN | apply below_drew1 | refine below_set ?_ GE134.out) | exact HB.out)⟩
     ·rw [if_neg c13] at H
      have c13b0 : decide (1099511627776 < a0_2) = false := decide_eq_false c13
      clear c13
      by_cases c15 : 0 ≤ a0_0
      ·rw [if_pos c15] at H
       have c15b0 : decide (0 ≤ a0_0) = true := decide_eq_true c15
       clear c15
       by_cases c16 : a0_0 < (t135.length : Int)
       ·rw [if_pos c16] at H
        have c16b0 : decide (a0_0 < (t135.length : Int)) = true := decide_eq_true c16
        clear c16
        replace H := Option.bind_eq_some_iff.mp H
        obtain ⟨t139, A170, H⟩ := H
        replace H : ((script_flag.f a0_3).bind fun t140 => ((script_word.f a0_4).bind fun t141 => (script_Line.l0 kj2 (([rdOf ByteArray.empty t135 a0_0, t139, t140, t141] : List ByteArray)) l0_1 (l0_1.length : Int) 0))) = some (r1, r2) := H
        have A17 := Aside0.mk A170
        clear A170
        replace H := Option.bind_eq_some_iff.mp H
        obtain ⟨t140, A180, H⟩ := H
        replace H : ((script_word.f a0_4).bind fun t141 => (script_Line.l0 kj2 (([rdOf ByteArray.empty t135 a0_0, t139, t140, t141] : List ByteArray)) l0_1 (l0_1.length : Int) 0)) = some (r1, r2) := H
        have A18 := Aside0.mk A180
        clear A180
        replace H := Option.bind_eq_some_iff.mp H
        obtain ⟨t141, A190, H⟩ := H
        replace H : (script_Line.l0 kj2 (([rdOf ByteArray.empty t135 a0_0, t139, t140, t141] : List ByteArray)) l0_1 (l0_1.length : Int) 0) = some (r1, r2) := H
        have A19 := Aside0.mk A190
        clear A190
        obtain ⟨y142, hy142⟩ : ∃ y_ : List ByteArray, y_ = (([rdOf ByteArray.empty t135 a0_0, t139, t140, t141] : List ByteArray)) := ⟨_, rfl⟩
        replace H : (script_Line.l0 kj2 y142 l0_1 (l0_1.length : Int) 0) = some (r1, r2) := by first | (rw [hy142]; with_reducible exact H) | (have H2_ := (Option.bind_some _ _).symm.trans H; rw [hy142]; with_reducible exact H2_) | (have H2_ := (Option.bind_some _ _).symm.trans H; with_reducible exact H2_) | with_reducible exact H | (rw [hy142]; exact H) | exact H
        have Ny142 := Aside0.mk hy142
        clear hy142
        have H' := Aside0.mk H
        clear H
        have hcz20_0 : wc.cell? ⟨gb134, 0, none⟩ = some (.int .i64 a0_0) := (blk_cell BK134.out 0).trans rfl
        have hcz20_1 : wc.cell? ⟨gb134, 1, none⟩ = some (.slice A0_1 l0_1.length c0_1) := (blk_cell BK134.out 1).trans rfl
        have hcz20_2 : wc.cell? ⟨gb134, 2, none⟩ = some (.int .i64 a0_2) := (blk_cell BK134.out 2).trans rfl
        have hcz20_3 : wc.cell? ⟨gb134, 3, none⟩ = some (.bool a0_3) := (blk_cell BK134.out 3).trans rfl
        have hcz20_4 : wc.cell? ⟨gb134, 4, none⟩ = some (.string a0_4) := (blk_cell BK134.out 4).trans rfl
        have hfz20_0 := blk_frozen BK134.out 0
        have hfz20_1 := blk_frozen BK134.out 1
        have hfz20_2 := blk_frozen BK134.out 2
        have hfz20_3 := blk_frozen BK134.out 3
        have hfz20_4 := blk_frozen BK134.out 4
        try go_wp2
        have n0_ := Aside0.mk (Kd.R_drew HO_4.out)
        have n1_ := Aside0.mk (blk_drew BK134.out)
        have n2_ := Aside0.mk (below_drew1 HB.out)
        clear HO_4
        clear BK134
        clear HB
        have HO_4 := n0_
        have BK134 := n1_
        have HB := n2_
        clear n0_ n1_ n2_
        obtain ⟨Ao22, co22, eo22⟩ := Kd.R_slice HO_4.out
        (first | subst eo22 | (injection eo22 with f1_ f2_ f3_; have f4_ := f1_.symm; have f5_ := f3_.symm; clear f1_ f2_ f3_; subst f4_; subst f5_))
        have p138 : 0 ≤ (a0_0 : Int) := of_decide_eq_true (by first | (with_reducible assumption) | assumption)
        have q138 : a0_0 < (t135.length : Int) := of_decide_eq_true (by first | (with_reducible assumption) | assumption)
        obtain ⟨ad138, e138, hx138_0⟩ := Kd.at_string (Kd.R_reads' HO_4.out).2.2 a0_0 p138 q138
        cases e138
        replace p138 := eq_true p138
        replace q138 := eq_true q138
        refine start_ (n := 16) (S := fun w' => w'.cell? ⟨gb134, 0, none⟩ = some (.int .i64 a0_0) ∧ w'.cell? ⟨gb134, 1, none⟩ = some (.slice A0_1 l0_1.length c0_1) ∧ w'.cell? ⟨gb134, 2, none⟩ = some (.int .i64 a0_2) ∧ w'.cell? ⟨gb134, 3, none⟩ = some (.bool a0_3) ∧ w'.cell? ⟨gb134, 4, none⟩ = some (.string a0_4) ∧ w'.cell? (ad138.add (a0_0).toNat) = some (.string (rdOf ByteArray.empty t135 a0_0))) (ds := []) #[false, false, false, false, false, false, false, false, false, false, false, false, false, false, false, false] (by kernel_rfl) rfl rfl ⟨(blk_cell BK134.out 0).trans rfl, (blk_cell BK134.out 1).trans rfl, (blk_cell BK134.out 2).trans rfl, (blk_cell BK134.out 3).trans rfl, (blk_cell BK134.out 4).trans rfl, hx138_0⟩ (fun hHeld => ?_); refine with_tabW script_Line.tab6 script_Line.bits6 (fun HT_ HW_ => ?_)
        generalize wc.drew = w21 at HO_4 BK134 HB hx138_0 hHeld ⊢
        refine pure_ (i := 0) (N := some 30) (v := ?_) (a' := ?_) #[true, false, false, false, false, false, false, false, false, false, false, false, false, false, false, false] rfl rfl (any_of HT_.out (by kernel_rfl)) (fun _ _ _ h => h) (Or.inl ⟨by rfl, ?_⟩) ?_ ?_
        rotate_left
        ·intro w'
         go_simp
         with_reducible rfl
        rotate_left
        ·simp only [Act.put, List.setIfInBounds_toArray, List.set_cons_zero, List.set_cons_succ, i64_w, i32_w]
         rfl
        refine pure_ (i := 1) (N := some 31) (v := ?_) (a' := ?_) #[true, true, false, false, false, false, false, false, false, false, false, false, false, false, false, false] rfl rfl (any_of HT_.out (by kernel_rfl)) (fun _ _ _ h => h) (Or.inl ⟨by rfl, ?_⟩) ?_ ?_
        rotate_left
        ·intro w'
         go_simp
         with_reducible rfl
        rotate_left
        ·simp only [Act.put, List.setIfInBounds_toArray, List.set_cons_zero, List.set_cons_succ, i64_w, i32_w]
         rfl
        refine pure_ (i := 5) (N := some 35) (v := ?_) (a' := ?_) #[true, true, false, false, false, true, false, false, false, false, false, false, false, false, false, false] rfl rfl (any_of HT_.out (by kernel_rfl)) (fun _ _ _ h => h) (Or.inl ⟨by rfl, ?_⟩) ?_ ?_
        rotate_left
        ·intro w'
         go_simp
         with_reducible rfl
        rotate_left
        ·simp only [Act.put, List.setIfInBounds_toArray, List.set_cons_zero, List.set_cons_succ, i64_w, i32_w]
         rfl
        refine pure_ (i := 8) (N := some 38) (v := ?_) (a' := ?_) #[true, true, false, false, false, true, false, false, true, false, false, false, false, false, false, false] rfl rfl (any_of HT_.out (by kernel_rfl)) (fun _ _ _ h => h) (Or.inl ⟨by rfl, ?_⟩) ?_ ?_
        rotate_left
        ·intro w'
         go_simp
         with_reducible rfl
        rotate_left
        ·simp only [Act.put, List.setIfInBounds_toArray, List.set_cons_zero, List.set_cons_succ, i64_w, i32_w]
         rfl
        refine pure_ (i := 11) (N := some 41) (v := ?_) (a' := ?_) #[true, true, false, false, false, true, false, false, true, false, false, true, false, false, false, false] rfl rfl (any_of HT_.out (by kernel_rfl)) (fun _ _ _ h => h) (Or.inl ⟨by rfl, ?_⟩) ?_ ?_
        rotate_left
        ·intro w'
         go_simp
         with_reducible rfl
        rotate_left
        ·simp only [Act.put, List.setIfInBounds_toArray, List.set_cons_zero, List.set_cons_succ, i64_w, i32_w]
         rfl
        refine take_ (i := 2) (N := some 32) (v := ?_) (a' := ?_) #[true, true, true, false, false, true, false, false, true, false, false, true, false, false, false, false] rfl rfl (take_ofW HT_.out HW_.out (by kernel_rfl)) (fun _ _ _ h => h) (Or.inl ⟨by rfl, ?_⟩) hHeld ?_ ?_
        rotate_left
        ·rintro w' ⟨s0, s1, s2, s3, s4, s5⟩
         go_simp
         with_reducible rfl
        rotate_left
        ·simp only [Act.put, List.setIfInBounds_toArray, List.set_cons_zero, List.set_cons_succ, i64_w, i32_w]
         rfl
        refine pure_ (i := 3) (N := some 33) (v := ?_) (a' := ?_) #[true, true, true, true, false, true, false, false, true, false, false, true, false, false, false, false] rfl rfl (any_of HT_.out (by kernel_rfl)) (fun _ _ _ h => h) (Or.inl ⟨by rfl, ?_⟩) ?_ ?_
        rotate_left
        ·intro w'
         go_simp
         with_reducible rfl
        rotate_left
        ·simp only [Act.put, List.setIfInBounds_toArray, List.set_cons_zero, List.set_cons_succ, i64_w, i32_w]
         rfl
        refine take_ (i := 4) (N := some 34) (v := ?_) (a' := ?_) #[true, true, true, true, true, true, false, false, true, false, false, true, false, false, false, false] rfl rfl (take_ofW HT_.out HW_.out (by kernel_rfl)) (fun _ _ _ h => h) (Or.inl ⟨by rfl, ?_⟩) hHeld ?_ ?_
        rotate_left
        ·rintro w' ⟨s0, s1, s2, s3, s4, s5⟩
         go_simp
         with_reducible rfl
        rotate_left
        ·simp only [Act.put, List.setIfInBounds_toArray, List.set_cons_zero, List.set_cons_succ, i64_w, i32_w]
         rfl
        refine take_ (i := 6) (N := some 36) (v := ?_) (a' := ?_) #[true, true, true, true, true, true, true, false, true, false, false, true, false, false, false, false] rfl rfl (take_ofW HT_.out HW_.out (by kernel_rfl)) (fun _ _ _ h => h) (Or.inl ⟨by rfl, ?_⟩) hHeld ?_ ?_
        rotate_left
        ·rintro w' ⟨s0, s1, s2, s3, s4, s5⟩
         go_simp
         with_reducible rfl
        rotate_left
        ·simp only [Act.put, List.setIfInBounds_toArray, List.set_cons_zero, List.set_cons_succ, i64_w, i32_w]
         rfl
        refine take_ (i := 9) (N := some 39) (v := ?_) (a' := ?_) #[true, true, true, true, true, true, true, false, true, true, false, true, false, false, false, false] rfl rfl (take_ofW HT_.out HW_.out (by kernel_rfl)) (fun _ _ _ h => h) (Or.inl ⟨by rfl, ?_⟩) hHeld ?_ ?_
        rotate_left
        ·rintro w' ⟨s0, s1, s2, s3, s4, s5⟩
         go_simp
         with_reducible rfl
        rotate_left
        ·simp only [Act.put, List.setIfInBounds_toArray, List.set_cons_zero, List.set_cons_succ, i64_w, i32_w]
         rfl
        refine take_ (i := 12) (N := some 42) (v := ?_) (a' := ?_) #[true, true, true, true, true, true, true, false, true, true, false, true, true, false, false, false] rfl rfl (take_ofW HT_.out HW_.out (by kernel_rfl)) (fun _ _ _ h => h) (Or.inl ⟨by rfl, ?_⟩) hHeld ?_ ?_
        rotate_left
        ·rintro w' ⟨s0, s1, s2, s3, s4, s5⟩
         go_simp
         with_reducible rfl
        rotate_left
        ·simp only [Act.put, List.setIfInBounds_toArray, List.set_cons_zero, List.set_cons_succ, i64_w, i32_w]
         rfl
        refine one_ (i := 7) (N := some 37) #[true, true, true, true, true, true, true, true, true, true, false, true, true, false, false, false] rfl rfl (one_of HT_.out (by kernel_rfl)) (by decide) (fun K hK => ?_)
        refine goes_ Tryd.func20 (by kernel_rfl) rfl #[.int .i64 a0_2] (by rfl) rfl rfl (by (try simp only [List.map_toArray, List.map_cons, List.map_nil]); first | done | rfl | (simp only [List.length_drop, List.length_take]; rfl)) ?_
        with_reducible refine (strconv_Itoa_20.calls a0_2 t139 _ (hWd.below (by repeat (first | (with_reducible first | exact HB.out | apply below_alloc | apply pw_below_drewN | apply below_drew1 | refine below_set ?_ GE134.out) | exact HB.out))) A17.out).mono ?_
        rintro e w23 ⟨rfl, hb⟩
        have HS5_ := (hb.cell (World.block_lt_of_cell? _ _ (hHeld.2.2.2.2.2))).trans (hHeld.2.2.2.2.2)
        refine ⟨_, rfl, ?_⟩
        have n0_ := Aside0.mk (Kd.R_below (by (with_reducible repeat (first | apply Kd.R_alloc | apply Kd.R_drewN | apply Kd.R_drew)); exact HO_4.out) hb)
        have n1_ := Aside0.mk (blk_below (g := gb134) (o := .cells #[.int .i64 a0_0, .slice A0_1 l0_1.length c0_1, .int .i64 a0_2, .bool a0_3, .string a0_4] 24 (0, 0)) (by (with_reducible repeat (first | refine blk_drewN ?_ _ | refine blk_drew ?_ | refine blk_alloc ?_ _)); exact BK134.out) hb)
        have n2_ := Aside0.mk (below_step (by repeat (first | (with_reducible first | exact HB.out | apply below_alloc | apply pw_below_drewN | apply below_drew1 | refine below_set ?_ GE134.out) | exact HB.out)) hb)
        clear HO_4
        clear BK134
        clear HB
        have HO_4 := n0_
        have BK134 := n1_
        have HB := n2_
        clear n0_ n1_ n2_
        (try clear hb)
        (try clear hb2)
        (try clear hk)
        (try clear hi)
        refine hK.out _ _ ⟨(blk_cell BK134.out 0).trans rfl, (blk_cell BK134.out 1).trans rfl, (blk_cell BK134.out 2).trans rfl, (blk_cell BK134.out 3).trans rfl, (blk_cell BK134.out 4).trans rfl, HS5_⟩ (fun hHeld => ?_)
        clear hK K
        refine norm_ (a' := ?_) ?_ ?_
        rotate_left
        ·show Act.put _ (some 37) _ = _
         simp only [Act.put, List.setIfInBounds_toArray, List.set_cons_zero, List.set_cons_succ, i64_w, i32_w]
         rfl
        refine one_ (i := 10) (N := some 40) #[true, true, true, true, true, true, true, true, true, true, true, true, true, false, false, false] rfl rfl (one_of HT_.out (by kernel_rfl)) (by decide) (fun K hK => ?_)
        refine goes_ Tryd.func21 (by kernel_rfl) rfl #[.bool a0_3] (by rfl) rfl rfl (by (try simp only [List.map_toArray, List.map_cons, List.map_nil]); first | done | rfl | (simp only [List.length_drop, List.length_take]; rfl)) ?_
        with_reducible refine (script_flag.calls a0_3 t140 _ A18.out).mono ?_
        rintro e w' ⟨rfl, ⟨nd, rfl⟩⟩
        refine ⟨_, rfl, ?_⟩
        refine hK.out _ _ ⟨(blk_cell BK134.out 0).trans rfl, (blk_cell BK134.out 1).trans rfl, (blk_cell BK134.out 2).trans rfl, (blk_cell BK134.out 3).trans rfl, (blk_cell BK134.out 4).trans rfl, hHeld.2.2.2.2.2⟩ (fun hHeld => ?_)
        clear hK K
        refine norm_ (a' := ?_) ?_ ?_
        rotate_left
        ·show Act.put _ (some 40) _ = _
         simp only [Act.put, List.setIfInBounds_toArray, List.set_cons_zero, List.set_cons_succ, i64_w, i32_w]
         rfl
        refine one_ (i := 13) (N := some 43) #[true, true, true, true, true, true, true, true, true, true, true, true, true, true, false, false] rfl rfl (one_of HT_.out (by kernel_rfl)) (by decide) (fun K hK => ?_)
        refine goes_ Tryd.func22 (by kernel_rfl) rfl #[.string a0_4] (by rfl) rfl rfl (by (try simp only [List.map_toArray, List.map_cons, List.map_nil]); first | done | rfl | (simp only [List.length_drop, List.length_take]; rfl)) ?_
        with_reducible refine (script_word.calls a0_4 t141 _ A19.out).mono ?_
        rintro e w24 ⟨rfl, hb⟩
        have HS5_ := (hb.cell (World.block_lt_of_cell? _ _ (hHeld.2.2.2.2.2))).trans (hHeld.2.2.2.2.2)
        refine ⟨_, rfl, ?_⟩
        have n0_ := Aside0.mk (Kd.R_below (by (with_reducible repeat (first | apply Kd.R_alloc | apply Kd.R_drewN | apply Kd.R_drew)); exact HO_4.out) hb)
        have n1_ := Aside0.mk (blk_below (g := gb134) (o := .cells #[.int .i64 a0_0, .slice A0_1 l0_1.length c0_1, .int .i64 a0_2, .bool a0_3, .string a0_4] 24 (0, 0)) (by (with_reducible repeat (first | refine blk_drewN ?_ _ | refine blk_drew ?_ | refine blk_alloc ?_ _)); exact BK134.out) hb)
        have n2_ := Aside0.mk (below_step (by repeat (first | (with_reducible first | exact HB.out | apply below_alloc | apply pw_below_drewN | apply below_drew1 | refine below_set ?_ GE134.out) | exact HB.out)) hb)
        clear HO_4
        clear BK134
        clear HB
        have HO_4 := n0_
        have BK134 := n1_
        have HB := n2_
        clear n0_ n1_ n2_
        (try clear hb)
        (try clear hb2)
        (try clear hk)
        (try clear hi)
        refine hK.out _ _ ⟨(blk_cell BK134.out 0).trans rfl, (blk_cell BK134.out 1).trans rfl, (blk_cell BK134.out 2).trans rfl, (blk_cell BK134.out 3).trans rfl, (blk_cell BK134.out 4).trans rfl, HS5_⟩ (fun hHeld => ?_)
        clear hK K
        refine norm_ (a' := ?_) ?_ ?_
        rotate_left
        ·show Act.put _ (some 43) _ = _
         simp only [Act.put, List.setIfInBounds_toArray, List.set_cons_zero, List.set_cons_succ, i64_w, i32_w]
         rfl
        refine one_ (i := 14) (N := some 44) #[true, true, true, true, true, true, true, true, true, true, true, true, true, true, true, false] rfl rfl (one_of HT_.out (by kernel_rfl)) (by decide) (fun K hK => ?_)
        refine Kd.R_lit_step Kd.string _ 9 ?hg (N := 44) ?hd (xs := ([rdOf ByteArray.empty t135 a0_0, t139, t140, t141] : List ByteArray)) (inner := [.string (rdOf ByteArray.empty t135 a0_0), .string t139, .string t140, .string t141]) (ok := fun _ => True) (okp := fun _ => True) ?hr ?hp (fun _ hk => hk) trivial (Below.refl _ _) (Nat.le_refl _) (by simp) ?_; (case hd => rfl); (case hg => rfl); (case hr => first | (go_simp; done) | (go_simp; rfl)); (case hp => exact (Reps.one (show Kd.M Kd.string _ _ _ (rdOf ByteArray.empty t135 a0_0) [.string (rdOf ByteArray.empty t135 a0_0)] from rfl) (Reps.one (show Kd.M Kd.string _ _ _ t139 [.string t139] from rfl) (Reps.one (show Kd.M Kd.string _ _ _ t140 [.string t140] from rfl) (Reps.one (show Kd.M Kd.string _ _ _ t141 [.string t141] from rfl) (Reps.none _ _))))))
        intro v143 w25 ho26 hb hg_ hnew_
        have HS5_ := (hb.cell (World.block_lt_of_cell? _ _ (hHeld.2.2.2.2.2))).trans (hHeld.2.2.2.2.2)
        clear hg_ hnew_
        (first | rw [← Ny142.out] at ho26 | (simp only [Int.reduceToNat] at ho26; rw [← Ny142.out] at ho26))
        have n0_ := Aside0.mk (Kd.R_elder' (by (with_reducible repeat (first | apply Kd.R_alloc | apply Kd.R_drewN | apply Kd.R_drew)); exact HO_4.out) (Kd.R_base ho26) hb)
        have n1_ := Aside0.mk (Kd.R_lower (Kd.R_new' ho26 (Kd.R_lt (by (with_reducible repeat (first | apply Kd.R_alloc | apply Kd.R_drewN | apply Kd.R_drew)); exact HO_4.out))) (below_size (by repeat (first | (with_reducible first | exact HB.out | apply below_alloc | apply pw_below_drewN | apply below_drew1 | refine below_set ?_ GE134.out) | exact HB.out))))
        have n2_ := Aside0.mk (blk_below (g := gb134) (o := .cells #[.int .i64 a0_0, .slice A0_1 l0_1.length c0_1, .int .i64 a0_2, .bool a0_3, .string a0_4] 24 (0, 0)) (by (with_reducible repeat (first | refine blk_drewN ?_ _ | refine blk_drew ?_ | refine blk_alloc ?_ _)); exact BK134.out) hb)
        have n3_ := Aside0.mk (below_step (by repeat (first | (with_reducible first | exact HB.out | apply below_alloc | apply pw_below_drewN | apply below_drew1 | refine below_set ?_ GE134.out) | exact HB.out)) hb)
        clear HO_4
        clear BK134
        clear HB
        have HO_4 := n0_
        have HO144 := n1_
        have BK134 := n2_
        have HB := n3_
        clear n0_ n1_ n2_ n3_
        clear hb ho26
        refine hK.out _ _ ⟨(blk_cell BK134.out 0).trans rfl, (blk_cell BK134.out 1).trans rfl, (blk_cell BK134.out 2).trans rfl, (blk_cell BK134.out 3).trans rfl, (blk_cell BK134.out 4).trans rfl, HS5_⟩ (fun hHeld => ?_)
        clear hK K
        refine norm_ (a' := ?_) ?_ ?_
        rotate_left
        ·show Act.put _ (some 44) _ = _
         simp only [Act.put, List.setIfInBounds_toArray, List.set_cons_zero, List.set_cons_succ, i64_w, i32_w]
         rfl
        refine pure_ (i := 15) (N := some 5) (v := ?_) (a' := ?_) #[true, true, true, true, true, true, true, true, true, true, true, true, true, true, true, true] rfl rfl (any_of HT_.out (by kernel_rfl)) (fun _ _ _ h => h) (Or.inl ⟨by rfl, ?_⟩) ?_ ?_
        rotate_left
        ·intro w'
         go_simp
         with_reducible rfl
        rotate_left
        ·simp only [Act.put, List.setIfInBounds_toArray, List.set_cons_zero, List.set_cons_succ, i64_w, i32_w]
         rfl
        refine done_ (done_of HT_.out (by kernel_rfl)) ?_
        have hcz27_0 : w25.cell? ⟨gb134, 0, none⟩ = some (.int .i64 a0_0) := (blk_cell BK134.out 0).trans rfl
        have hcz27_1 : w25.cell? ⟨gb134, 1, none⟩ = some (.slice A0_1 l0_1.length c0_1) := (blk_cell BK134.out 1).trans rfl
        have hcz27_2 : w25.cell? ⟨gb134, 2, none⟩ = some (.int .i64 a0_2) := (blk_cell BK134.out 2).trans rfl
        have hcz27_3 : w25.cell? ⟨gb134, 3, none⟩ = some (.bool a0_3) := (blk_cell BK134.out 3).trans rfl
        have hcz27_4 : w25.cell? ⟨gb134, 4, none⟩ = some (.string a0_4) := (blk_cell BK134.out 4).trans rfl
        have hfz27_0 := blk_frozen BK134.out 0
        have hfz27_1 := blk_frozen BK134.out 1
        have hfz27_2 := blk_frozen BK134.out 2
        have hfz27_3 := blk_frozen BK134.out 3
        have hfz27_4 := blk_frozen BK134.out 4
        try go_wp2
        go_loopg [5, 48] kj2 (fun kq v5 v48 w' => ∃ (x5_2 : List ByteArray) (x48_2 : Int), v48 = .int .i64 x48_2 ∧ Aside0 (script_Line.l0 kq x5_2 l0_1 (l0_1.length : Int) x48_2 = some (r1, r2)) ∧ Aside0 (kq ≤ kj2) ∧ Aside0 (Kd.R Kd.string 9 w' w.heap.size (fun _ => True) v5 x5_2) ∧ Aside0 (w'.heap[gb134]? = some (.cells #[.int .i64 a0_0, (.slice A0_1 l0_1.length c0_1), .int .i64 a0_2, .bool a0_3, .string a0_4] 24 (0, 0))) ∧ Aside0 (Below w.heap.size w w'))
        case atStart => exact ⟨(y142), (0), (by first | rfl | (simp; done) | (simp [*]; done)), H', ⟨Nat.le_refl _⟩, ⟨by (with_reducible repeat (first | apply Kd.R_alloc | apply Kd.R_drewN | apply Kd.R_drew)); exact Kd.R_mono HO144.out (fun _ hk => trivial)⟩, ⟨by (with_reducible repeat (first | refine blk_drewN ?_ _ | refine blk_drew ?_ | refine blk_alloc ?_ _)); exact BK134.out⟩, ⟨by repeat (first | (with_reducible first | exact HB.out | apply below_alloc | apply pw_below_drewN | apply below_drew1 | refine below_set ?_ GE134.out) | exact HB.out)⟩⟩
        case round =>
         clear H'
         try clear c1
         try clear p1
         try clear q1
         try clear hx1
         try clear c2
         try clear p2
         try clear c6
         try clear c6b0
         try clear c8
         try clear c10
         try clear c11
         try clear c11b0
         try clear c13
         try clear c13b0
         try clear p13
         try clear q13
         try clear hx13
         try clear c15
         try clear c15b0
         try clear c16
         try clear c16b0
         try clear c19
         try clear c20
         try clear c21
         try clear c22
         try clear hcz12_0
         try clear hcz12_1
         try clear hcz12_2
         try clear hcz12_3
         try clear hcz12_4
         try clear hcz14_0
         try clear hcz14_1
         try clear hcz14_2
         try clear hcz14_3
         try clear hcz14_4
         try clear hcz20_0
         try clear hcz20_1
         try clear hcz20_2
         try clear hcz20_3
         try clear hcz20_4
         try clear hcz27_0
         try clear hcz27_1
         try clear hcz27_2
         try clear hcz27_3
         try clear hcz27_4
         try clear hcz7_0
         try clear hcz7_1
         try clear hcz7_2
         try clear hcz7_3
         try clear hcz7_4
         try clear hcz8_0
         try clear hcz8_1
         try clear hcz8_2
         try clear hcz8_3
         try clear hcz8_4
         try clear hfz12_0
         try clear hfz12_1
         try clear hfz12_2
         try clear hfz12_3
         try clear hfz12_4
         try clear hfz14_0
         try clear hfz14_1
         try clear hfz14_2
         try clear hfz14_3
         try clear hfz14_4
         try clear hfz20_0
         try clear hfz20_1
         try clear hfz20_2
         try clear hfz20_3
         try clear hfz20_4
         try clear hfz27_0
         try clear hfz27_1
         try clear hfz27_2
         try clear hfz27_3
         try clear hfz27_4
         try clear hfz7_0
         try clear hfz7_1
         try clear hfz7_2
         try clear hfz7_3
         try clear hfz7_4
         try clear hfz8_0
         try clear hfz8_1
         try clear hfz8_2
         try clear hfz8_3
         try clear hfz8_4
         try clear hx138_0
         try clear p138
         try clear p2
         try clear q138
         obtain ⟨x5_2, x48_2, rfl, HA, HK2, HO_5, BK134, HB⟩ := hrel
         cases gk with
         | zero => exact absurd HA.out (by simp [script_Line.l0])
         | succ k2 =>
          have H := HA.out
          clear HA
          simp only [script_Line.l0] at H
          by_cases c28 : x48_2 < (l0_1.length : Int)
          ·rw [if_pos c28] at H
           have c28b0 : decide (x48_2 < (l0_1.length : Int)) = true := decide_eq_true c28
           clear c28
           by_cases c29 : 0 ≤ x48_2
           ·rw [if_pos c29] at H
            have c29b0 : decide (0 ≤ x48_2) = true := decide_eq_true c29
            clear c29
            by_cases c30 : x48_2 < (l0_1.length : Int)
            ·rw [if_pos c30] at H
             have c30b0 : decide (x48_2 < (l0_1.length : Int)) = true := decide_eq_true c30
             clear c30
             replace H := Option.bind_eq_some_iff.mp H
             obtain ⟨t146, A310, H⟩ := H
             replace H : (if x5_2.length < 8796093022208 then (script_Line.l0 k2 (x5_2 ++ [t146]) l0_1 (l0_1.length : Int) (wrap64 (x48_2 + 1))) else (none)) = some (r1, r2) := H
             have A31 := Aside0.mk A310
             clear A310
             by_cases c32 : x5_2.length < 8796093022208
             ·rw [if_pos c32] at H
              have LMc32 := Aside0.mk c32
              clear c32
              obtain ⟨y147, hy147⟩ : ∃ y_ : List ByteArray, y_ = (x5_2 ++ [t146]) := ⟨_, rfl⟩
              replace H : (script_Line.l0 k2 y147 l0_1 (l0_1.length : Int) (wrap64 (x48_2 + 1))) = some (r1, r2) := by first | (rw [hy147]; with_reducible exact H) | (have H2_ := (Option.bind_some _ _).symm.trans H; rw [hy147]; with_reducible exact H2_) | (have H2_ := (Option.bind_some _ _).symm.trans H; with_reducible exact H2_) | with_reducible exact H | (rw [hy147]; exact H) | exact H
              have Ny147 := Aside0.mk hy147
              clear hy147
              have H' := Aside0.mk H
              clear H
              have p145 : 0 ≤ (x48_2 : Int) := of_decide_eq_true (by first | (with_reducible assumption) | assumption)
              have q145 : x48_2 < (l0_1.length : Int) := of_decide_eq_true (by first | (with_reducible assumption) | assumption)
              obtain ⟨ad145, e145, hx145_0⟩ := Kd.at_string HR0_1.out x48_2 p145 q145
              cases e145
              replace hx145_0 := (HB.out.cell (World.block_lt_of_cell? w _ hx145_0)).trans hx145_0
              replace p145 := eq_true p145
              replace q145 := eq_true q145
              go_wp2_with (first | ((with_reducible refine gate_callee (f := 22) rfl ?_); refine goesL_ (some 54) rfl rfl Tryd.func22 (by kernel_rfl) rfl #[.string (rdOf ByteArray.empty l0_1 x48_2)] rfl (by (try simp only [List.map_toArray, List.map_cons, List.map_nil]); first | done | rfl | (simp only [List.length_drop, List.length_take]; rfl)) ?_; (with_reducible refine (script_word.calls (rdOf ByteArray.empty l0_1 x48_2) t146 _ A31.out).mono ?_); rintro e w33 ⟨rfl, hb⟩; refine ⟨_, rfl, ?_⟩; have n0_ := Aside0.mk (Kd.R_below (by (with_reducible repeat (first | apply Kd.R_alloc | apply Kd.R_drewN | apply Kd.R_drew)); exact HO_5.out) hb); have n1_ := Aside0.mk (blk_below (g := gb134) (o := .cells #[.int .i64 a0_0, .slice (some ad145) l0_1.length c0_1, .int .i64 a0_2, .bool a0_3, .string a0_4] 24 (0, 0)) (by (with_reducible repeat (first | refine blk_drewN ?_ _ | refine blk_drew ?_ | refine blk_alloc ?_ _)); exact BK134.out) hb); have n2_ := Aside0.mk (below_step (by repeat (first | (with_reducible first | exact HB.out | apply below_alloc | apply pw_below_drewN | apply below_drew1 | refine below_set ?_ GE134.out) | exact HB.out)) hb); clear HO_5; clear BK134; clear HB; have HO_5 := n0_; have BK134 := n1_; have HB := n2_; clear n0_ n1_ n2_; (try clear hb); (try clear hb2); (try clear hk); (try clear hi)) | ((with_reducible refine gate_builtin (b := .append) (xs := #[.tmp 52, .tmp 55]) rfl ?_); (try (refine gate_guard (by rfl) ?_; dsimp only)); at_builtin; refine Kd.R_append Kd.string (w0 := w) w.heap.size rfl (.tmp 52) (.tmp 55) 22 9 (.string ⟨#[]⟩) 16 rfl Tryd.underlying22 info9 rfl (by decide) (by omega) u5 x5_2 t146 [.string t146] (fun _ => True) (fun _ => False) rfl rfl ?aP (fun _ hk => hk.elim) ?aF ?aO ?aB ?aS ?aL ?_; (case aP => exact rfl); (case aB => exact (by repeat (first | (with_reducible first | exact HB.out | apply below_alloc | apply pw_below_drewN | apply below_drew1 | refine below_set ?_ GE134.out) | exact HB.out))); (case aF => exact (fun _ _ => trivial)); (case aO => exact (by (with_reducible repeat (first | apply Kd.R_alloc | apply Kd.R_drewN | apply Kd.R_drew)); exact HO_5.out)); (case aS => exact (below_size (by repeat (first | (with_reducible first | exact HB.out | apply below_alloc | apply pw_below_drewN | apply below_drew1 | refine below_set ?_ GE134.out) | exact HB.out)))); (case aL => have := LMc32.out; omega); intro v148 w34 ho hb hg hat; rw [← Ny147.out] at ho; have n0_ := Aside0.mk (blk_grown (g := gb134) (o := .cells #[.int .i64 a0_0, .slice (some ad145) l0_1.length c0_1, .int .i64 a0_2, .bool a0_3, .string a0_4] 24 (0, 0)) (by (with_reducible repeat (first | refine blk_drewN ?_ _ | refine blk_drew ?_ | refine blk_alloc ?_ _)); exact BK134.out) hg (Kd.R_ne HO_5.out BK134.out (by decide))); have n1_ := Aside0.mk (hb); have n2_ := Aside0.mk (ho); clear BK134; clear HB; clear HO_5; have BK134 := n0_; have HB := n1_; have HO149 := n2_; clear n0_ n1_ n2_; clear ho hb hg hat))
              go_roundg k2
              case measure => have := HJ2.out; have := HK2.out; omega
              case rel => exact ⟨(y147), (wrap64 (x48_2 + 1)), (by first | rfl | (simp; done) | (simp [*]; done)), H', ⟨by have := HJ2.out; have := HK2.out; omega⟩, ⟨by (with_reducible repeat (first | apply Kd.R_alloc | apply Kd.R_drewN | apply Kd.R_drew)); exact HO149.out⟩, ⟨by (with_reducible repeat (first | refine blk_drewN ?_ _ | refine blk_drew ?_ | refine blk_alloc ?_ _)); exact BK134.out⟩, ⟨by repeat (first | (with_reducible first | exact HB.out | apply below_alloc | apply pw_below_drewN | apply below_drew1 | refine below_set ?_ GE134.out) | exact HB.out)⟩⟩
             ·rw [if_neg c32] at H
              exact absurd H (by simp)
            ·rw [if_neg c30] at H
             exact absurd H (by simp)
           ·rw [if_neg c29] at H
            exact absurd H (by simp)
          ·rw [if_neg c28] at H
           have c28b0 : decide (x48_2 < (l0_1.length : Int)) = false := decide_eq_false c28
           clear c28
           replace H := Option.bind_eq_some_iff.mp H
           obtain ⟨t150, A350, H⟩ := H
           replace H : (if (t150.size : Int) > 1048576 then (some ((⟨#[]⟩ : ByteArray), 4)) else (some (t150, 0))) = some (r1, r2) := H
           have A35 := Aside0.mk A350
           clear A350
           by_cases c36 : (t150.size : Int) > 1048576
           ·rw [if_pos c36] at H
            have c36b0 : decide (1048576 < (t150.size : Int)) = true := decide_eq_true c36
            have c36b1 : decide (1048576 < t150.size) = true := decide_eq_true (by omega)
            clear c36
            simp only [Option.some.injEq, Prod.mk.injEq] at H
            obtain ⟨rfl, rfl⟩ := H
            obtain ⟨Ao37, co37, eo37⟩ := Kd.R_slice HO_5.out
            subst eo37
            go_wp2_with (first | ((with_reducible refine gate_callee (f := 23) rfl ?_); refine goesL_ (some 59) rfl rfl Tryd.func23 (by kernel_rfl) rfl #[.slice Ao37 x5_2.length co37] rfl (by (try simp only [List.map_toArray, List.map_cons, List.map_nil]); first | done | rfl | (simp only [List.length_drop, List.length_take]; rfl)) ?_; (with_reducible refine (script_joined.calls _ _ x5_2 t150 _ ?side1 ?side2 A35.out).mono ?_); (case side1 => repeat (first | exact (Kd.R_reads' HO_5.out).2.2 | (with_reducible refine Kd.C_alloc ?_ _) | (with_reducible refine Kd.C_drewN ?_ _) | (with_reducible refine Kd.C_drew ?_))); (case side2 => exact (Kd.R_reads' HO_5.out).2.1); rintro e w38 ⟨rfl, hb⟩; refine ⟨_, rfl, ?_⟩; have n0_ := Aside0.mk (Kd.R_below (by (with_reducible repeat (first | apply Kd.R_alloc | apply Kd.R_drewN | apply Kd.R_drew)); exact HO_5.out) hb); have n1_ := Aside0.mk (blk_below (g := gb134) (o := .cells #[.int .i64 a0_0, .slice A0_1 l0_1.length c0_1, .int .i64 a0_2, .bool a0_3, .string a0_4] 24 (0, 0)) (by (with_reducible repeat (first | refine blk_drewN ?_ _ | refine blk_drew ?_ | refine blk_alloc ?_ _)); exact BK134.out) hb); have n2_ := Aside0.mk (below_step (by repeat (first | (with_reducible first | exact HB.out | apply below_alloc | apply pw_below_drewN | apply below_drew1 | refine below_set ?_ GE134.out) | exact HB.out)) hb); clear HO_5; clear BK134; clear HB; have HO_5 := n0_; have BK134 := n1_; have HB := n2_; clear n0_ n1_ n2_; (try clear hb); (try clear hb2); (try clear hk); (try clear hi)))
            go_ret2
            exact ⟨by first | rfl | (simp [errW_none, errW_some] <;> rfl) | (simp [*, errW_none, errW_some] <;> rfl), by repeat (first | (with_reducible first | exact HB.out | apply below_alloc | apply pw_below_drewN | apply below_drew1 | refine below_set ?_ GE134.out) | exact HB.out)⟩
           ·rw [if_neg c36] at H
            have c36b0 : decide (1048576 < (t150.size : Int)) = false := decide_eq_false c36
            have c36b1 : decide (1048576 < t150.size) = false := decide_eq_false (by omega)
            clear c36
            simp only [Option.some.injEq, Prod.mk.injEq] at H
            obtain ⟨rfl, rfl⟩ := H
            obtain ⟨Ao39, co39, eo39⟩ := Kd.R_slice HO_5.out
            subst eo39
            go_wp2_with (first | ((with_reducible refine gate_callee (f := 23) rfl ?_); refine goesL_ (some 59) rfl rfl Tryd.func23 (by kernel_rfl) rfl #[.slice Ao39 x5_2.length co39] rfl (by (try simp only [List.map_toArray, List.map_cons, List.map_nil]); first | done | rfl | (simp only [List.length_drop, List.length_take]; rfl)) ?_; (with_reducible refine (script_joined.calls _ _ x5_2 t150 _ ?side1 ?side2 A35.out).mono ?_); (case side1 => repeat (first | exact (Kd.R_reads' HO_5.out).2.2 | (with_reducible refine Kd.C_alloc ?_ _) | (with_reducible refine Kd.C_drewN ?_ _) | (with_reducible refine Kd.C_drew ?_))); (case side2 => exact (Kd.R_reads' HO_5.out).2.1); rintro e w40 ⟨rfl, hb⟩; refine ⟨_, rfl, ?_⟩; have n0_ := Aside0.mk (Kd.R_below (by (with_reducible repeat (first | apply Kd.R_alloc | apply Kd.R_drewN | apply Kd.R_drew)); exact HO_5.out) hb); have n1_ := Aside0.mk (blk_below (g := gb134) (o := .cells #[.int .i64 a0_0, .slice A0_1 l0_1.length c0_1, .int .i64 a0_2, .bool a0_3, .string a0_4] 24 (0, 0)) (by (with_reducible repeat (first | refine blk_drewN ?_ _ | refine blk_drew ?_ | refine blk_alloc ?_ _)); exact BK134.out) hb); have n2_ := Aside0.mk (below_step (by repeat (first | (with_reducible first | exact HB.out | apply below_alloc | apply pw_below_drewN | apply below_drew1 | refine below_set ?_ GE134.out) | exact HB.out)) hb); clear HO_5; clear BK134; clear HB; have HO_5 := n0_; have BK134 := n1_; have HB := n2_; clear n0_ n1_ n2_; (try clear hb); (try clear hb2); (try clear hk); (try clear hi)))
            go_ret2
            exact ⟨by first | rfl | (simp [errW_none, errW_some] <;> rfl) | (simp [*, errW_none, errW_some] <;> rfl), by repeat (first | (with_reducible first | exact HB.out | apply below_alloc | apply pw_below_drewN | apply below_drew1 | refine below_set ?_ GE134.out) | exact HB.out)⟩
       ·rw [if_neg c16] at H
        exact absurd H (by simp)
      ·rw [if_neg c15] at H
       exact absurd H (by simp)
end Go.Proofs.YtcmemgahgenpdaaDoor.PSc
end
section
namespace Go.Proofs.YtcmemgahgenpdaaDoor.Hand
open Go.RowKit Go.Proofs.YtcmemgahgenpdaaDoorW.PrintWords Go.Proofs.YtcmemgahgenpdaaDoorW.PrintLast Go.Proofs.YtcmemgahgenpdaaDoorW.PrintMore
open Go.Proofs.YtcmemgahgenpdaaDoor.PSc Go.ChangeMaps
set_option linter.unusedVariables false
set_option linter.unusedSimpArgs false
def kindsL : List ByteArray := script_kinds.f.getD []
theorem kinds_f : script_kinds.f = some kindsL := rfl
def kindW (i : Nat) : ByteArray := kindsL.getD i ByteArray.empty
theorem kinds_len : kindsL.length = 28 := rfl
theorem kinds_apart : ((List.range 28).all fun i => (List.range 28).all fun j => i == j || !((kindW i).data.toList == (kindW j).data.toList)) = true := by kernel_rfl
theorem kindW_inj {i j : Nat} (hi : i < 28) (hj : j < 28) (h : kindW i = kindW j) : i = j := by
  have h1 := List.all_eq_true.1 (List.all_eq_true.1 kinds_apart i (List.mem_range.2 hi)) j (List.mem_range.2 hj)
  rw [h] at h1
  simpa using h1
def entK (j : Nat) : MapEntry := { key := .string (kindW (j + 1)), val := .int .i64 ((j + 1 : Nat) : Int), born := j }
def ents (n : Nat) : List MapEntry := (List.range n).map entK
theorem ents_keys (n : Nat) : ∀ x ∈ ents n, MapKept.IsKey .string x.key := by
  intro x hx
  obtain ⟨j, _, rfl⟩ := List.mem_map.1 hx
  trivial
theorem ents_at {n j : Nat} {x : MapEntry} (h : (ents n)[j]? = some x) : j < n ∧ x = entK j := by
  have h1 := List.getElem?_eq_some_iff.1 h
  obtain ⟨hlt, he⟩ := h1
  simp [ents] at hlt he
  exact ⟨hlt, he.symm⟩
theorem ents_succ (n : Nat) : ents n ++ [entK n] = ents (n + 1) := by
  simp [ents, List.range_succ]
theorem num_up {wr : World} {M n : Nat} (hn : n < 27) (hb : wr.heap[M]? = some (.map (ents n).toArray n)) :
    (Instr.mapUpdate 52 (.map (some M)) (.string (kindW (n + 1))) (.int .i64 ((n + 1 : Nat) : Int))).run Tryd.prog wr = .ok () (setBlock wr M (.map (ents (n + 1)).toArray (n + 1))) := by
  have hk : Tryd.prog.underlying 9 = some .string := Tryd.underlying9
  have hm := Tryd.underlying52
  have hc : (Instr.checkKey false 10000 9 (.string (kindW (n + 1)))).run Tryd.prog wr = .ok () wr := MapKept.run_checkKey (k := .string (kindW (n + 1))) hk (by simp [MapKept.IsKey]) false 9999
  rcases MapKept.findNow_spec (d := .string) (k := .string (kindW (n + 1))) trivial (ents n) 0 (ents_keys n) with ⟨h1, _⟩ | ⟨j, e0, h1, h2, h3⟩
  · simp [Instr.mapUpdate, run_underlying hm, MapKept.run_getObj_map hb, hc, MapKept.run_findKey hk h1, MapKept.run_setObj_map _ hb, Result.andThen, setBlock]
    rw [show ({ key := .string (kindW (n + 1)), val := .int .i64 ((n : Int) + 1), born := n } : MapEntry) = entK n from by simp [entK], ents_succ]
  · obtain ⟨hj, rfl⟩ := ents_at h2
    simp [entK] at h3
    have := kindW_inj (by omega) (by omega) h3
    omega
def kindQ (s : ByteArray) : Nat := match (List.range 27).find? (fun j => decide (kindW (j + 1) = s)) with | some j => j + 1 | none => 0
theorem kindQ_of {s : ByteArray} {j : Nat} (hj : j < 27) (h : kindW (j + 1) = s) : kindQ s = j + 1 := by
  unfold kindQ
  cases hf : (List.range 27).find? (fun j => decide (kindW (j + 1) = s)) with
  | none =>
    have := List.find?_eq_none.1 hf j (List.mem_range.2 hj)
    simp [h] at this
  | some k =>
    have h1 := List.find?_some hf
    have h2 := List.mem_range.1 (List.mem_of_find?_eq_some hf)
    have h3 : kindW (k + 1) = s := of_decide_eq_true h1
    have := kindW_inj (i := k + 1) (j := j + 1) (by omega) (by omega) (h3.trans h.symm)
    show k + 1 = j + 1
    exact this
theorem kindQ_none {s : ByteArray} (h : ∀ j, j < 27 → kindW (j + 1) ≠ s) : kindQ s = 0 := by
  unfold kindQ
  cases hf : (List.range 27).find? (fun j => decide (kindW (j + 1) = s)) with
  | none => rfl
  | some k =>
    have h1 := List.find?_some hf
    exact absurd (of_decide_eq_true h1) (h k (List.mem_range.1 (List.mem_of_find?_eq_some hf)))
theorem kindQ_lt (s : ByteArray) : kindQ s < 28 ∧ (kindQ s ≠ 0 → kindW (kindQ s) = s) := by
  unfold kindQ
  cases hf : (List.range 27).find? (fun j => decide (kindW (j + 1) = s)) with
  | none => exact ⟨by decide, fun h => absurd rfl h⟩
  | some k =>
    have h2 := List.mem_range.1 (List.mem_of_find?_eq_some hf)
    have h1 := List.find?_some hf
    exact ⟨by show k + 1 < 28; omega, fun _ => of_decide_eq_true h1⟩
def NumAt (w : World) (M : Nat) : Prop := w.heap[M]? = some (.map (ents 27).toArray 27)
theorem zero_int (w : World) : (zeroValue 3).run Tryd.prog w = .ok (.int .i64 0) w := by kernel_rfl
theorem num_look {w : World} {M : Nat} (hb : NumAt w M) (s : ByteArray) :
    (Instr.lookup 52 (.map (some M)) (.string s) true).run Tryd.prog w = .ok (.tuple #[.int .i64 ((kindQ s : Nat) : Int), .bool (kindQ s != 0)]) w := by
  have hk : Tryd.prog.underlying 9 = some .string := Tryd.underlying9
  have hm := Tryd.underlying52
  have hc : ∀ em, (Instr.checkKey em 10000 9 (.string s)).run Tryd.prog w = .ok () w := fun em => MapKept.run_checkKey (k := .string s) hk (by simp [MapKept.IsKey]) em 9999
  unfold NumAt at hb
  rcases MapKept.findNow_spec (d := .string) (k := .string s) trivial (ents 27) 0 (ents_keys 27) with ⟨h1, h2⟩ | ⟨j, e0, h1, h2, h3⟩
  · have h0 : kindQ s = 0 := kindQ_none fun j hj e => h2 (entK j) (List.mem_map.2 ⟨j, List.mem_range.2 hj, rfl⟩) (by rw [← e]; rfl)
    rw [h0]
    simp [Instr.lookup, run_underlying hm, MapKept.run_getObj_map hb, hc, MapKept.run_findKey hk h1, zero_int, Result.andThen]
  · obtain ⟨hj, rfl⟩ := ents_at h2
    have h0 : kindQ s = j + 1 := kindQ_of hj (by simpa [entK] using h3)
    rw [h0]
    simp [Instr.lookup, run_underlying hm, MapKept.run_getObj_map hb, hc, MapKept.run_findKey hk h1, Result.andThen, entK]
theorem cell_setBlock {w : World} {M : Nat} {es : Array MapEntry} {c : Nat} {o : Obj} (hb : w.heap[M]? = some (.map es c)) {p : Addr} {v : Value} (h : w.cell? p = some v) : (setBlock w M o).cell? p = some v := by
  have hne : p.block ≠ M := by
    intro e
    simp [World.cell?, e, hb] at h
  rw [World.cell?_of_block (w := w) (by simp [setBlock, Ne.symm hne])]
  exact h
theorem below_setBlock {B : Nat} {a w : World} (h : Below B a w) {M : Nat} (hM : B ≤ M) (o : Obj) : Below B a (setBlock w M o) :=
  ⟨h.os, h.tape, h.output, by simp [setBlock]; exact h.size, fun k hk => (by simp [setBlock, show M ≠ k by omega] : (setBlock w M o).heap[k]? = w.heap[k]?).trans (h.block k hk)⟩
def NumRel (w : World) (g : Nat) (iv : Value) (wr : World) : Prop :=
  ∃ i : Nat, iv = .int .i64 i ∧ i ≤ 28 ∧ wr.heap[w.heap.size]? = some (.map (ents (i - 1)).toArray (i - 1)) ∧ (∀ j, j < 28 → wr.cell? ⟨g, j, none⟩ = some (.string (kindW j))) ∧ Below w.heap.size w wr
set_option maxHeartbeats 2000000 in
set_option maxRecDepth 100000 in
theorem numbers_any (w : World) :
    Calls Tryd.prog 29 #[] w fun e w' => e = .returned (.map (some w.heap.size)) ∧ NumAt w' w.heap.size ∧ Below w.heap.size w w' := by
  go_enter Tryd.func29, Tryd.ntmps29
  have hmk := fun wx : World => run_makeMap_plain (P := Tryd.prog) wx 52
  have HB0 := Lib.hid (below_alloc (Below.refl w.heap.size w) (.map #[] 0))
  have HM0 : (w.alloc (.map #[] 0)).heap[w.heap.size]? = some (.map #[] 0) := (MapKept.heap_alloc w _).1
  have hsz : (w.alloc (.map #[] 0)).heap.size = w.heap.size + 1 := Array.size_push _
  have HM := Lib.hid HM0
  clear HM0
  go_wp2_with fail
  refine (script_kinds.calls kindsL _ kinds_f).mono ?_
  rintro e w1 ⟨v, rfl, hR, hb⟩
  have hB1 := HB0.out.trans (hb.mono (by omega : w.heap.size ≤ _))
  have hM1 := (hb.block w.heap.size (by omega)).trans HM.out
  obtain ⟨g, cap, rfl, hg, hg1, cells, hcells⟩ := Kd.R_form hR (by rw [kinds_len]; omega)
  have hC := (Kd.R_reads' hR).2.2
  have hcell : ∀ j, j < 28 → w1.cell? ⟨g, j, none⟩ = some (.string (kindW j)) := fun j hj => by
    obtain ⟨ad, e1, h1⟩ := Kd.at_string hC (j : Int) (by omega) (by rw [kinds_len]; omega)
    cases e1
    rcases j with _ | j
    · exact h1
    · simpa [Addr.add, rdOf, kindW] using h1
  have HR0 : NumRel w g (.int .i64 (0 : Nat)) w1 := ⟨0, rfl, by omega, hM1, hcell, hB1⟩
  have HR1 := Lib.hid HR0
  rw [kinds_len]
  clear hb hB1 hM1 hR hC hcell HR0 HM HB0 hcells hg hg1 hsz cells
  go_wp2
  go_loopw [7] (fun iv wr => NumRel w g iv wr) (fun iv _ => (28 - intOf iv).toNat)
  case atStart => exact HR1.out
  case round =>
    obtain ⟨i, rfl, hi, hM, hcell, hbel⟩ := hrel
    clear HR1
    by_cases c : (i : Int) < 28
    · have cb : decide ((i : Int) < 28) = true := decide_eq_true c
      have i0 : (0 : Int) ≤ i := by omega
      have hw : IntKind.i64.wrap ((i : Int) + 1) = (i : Int) + 1 := by rw [i64_w]; exact wrap64_id (by omega) (by omega)
      have hci : wr.cell? ((⟨g, 0, none⟩ : Addr).add i) = some (.string (kindW i)) := by
        have h1 := hcell i (by omega)
        rcases i with _ | i
        · exact h1
        · simpa [Addr.add] using h1
      by_cases c0 : i = 0
      · subst c0
        have HM := Lib.hid hM
        have HC := Lib.hid hcell
        have HBL := Lib.hid hbel
        clear hM hcell hbel
        have hci0 : wr.cell? ⟨g, 0, none⟩ = some (.string (⟨#[]⟩ : ByteArray)) := hci
        go_wp2
        exact ⟨⟨1, rfl, by omega, HM.out, HC.out, HBL.out⟩, by simp [intOf]⟩
      · have hci1 := hcell i (by omega)
        have hup := num_up (wr := wr) (M := w.heap.size) (n := i - 1) (by omega) hM
        rw [show i - 1 + 1 = i by omega] at hup
        have hne : ¬ (kindW i).toList = [] := fun e => c0 (kindW_inj (by omega) (by omega) (toList_iff.1 (e.trans (by rw [toList_bytes]; rfl : ([] : List UInt8) = (kindW 0).toList))))
        have b1 : ((kindW i).toList == ([] : List UInt8)) = false := beq_eq_false_iff_ne.2 hne
        have b2 : ((kindW i).toList != ([] : List UInt8)) = true := by simp [bne, b1]
        have hM2 : (setBlock wr w.heap.size (.map (ents i).toArray i)).heap[w.heap.size]? = some (.map (ents i).toArray i) := by
          have := lt_of_block hM
          simp [setBlock, this]
        have hcell2 := fun j hj => cell_setBlock hM (o := .map (ents i).toArray i) (hcell j hj)
        have hbel2 := below_setBlock hbel (Nat.le_refl _) (.map (ents i).toArray i)
        have HM := Lib.hid hM2
        have HC := Lib.hid hcell2
        have HBL := Lib.hid hbel2
        clear hM hcell hbel hM2 hcell2 hbel2 hne
        generalize setBlock wr w.heap.size (.map (ents i).toArray i) = w2 at *
        generalize kindW i = kw at *
        go_wp2
        exact ⟨⟨i + 1, rfl, by omega, HM.out, HC.out, HBL.out⟩, by simp [intOf]; omega⟩
    · have cb : decide ((i : Int) < 28) = false := decide_eq_false c
      obtain rfl : i = 28 := by omega
      have HM := Lib.hid hM
      have HBL := Lib.hid hbel
      clear hM hbel hcell
      go_wp2
      go_ret
      exact ⟨rfl, HM.out, HBL.out⟩
end Go.Proofs.YtcmemgahgenpdaaDoor.Hand
end
section
namespace Go.Proofs.YtcmemgahgenpdaaDoor.Hand
open Go.RowKit Go.Proofs.YtcmemgahgenpdaaDoorW.PrintWords Go.Proofs.YtcmemgahgenpdaaDoorW.PrintLast Go.Proofs.YtcmemgahgenpdaaDoorW.PrintMore
open Go.Proofs.YtcmemgahgenpdaaDoor.PSc Go.Proofs.YtcmemgahgenpdaaDoor.Pure
set_option linter.unusedVariables false
set_option linter.unusedSimpArgs false
def sepS : ByteArray := ⟨#[32]⟩
def splitQ (s : ByteArray) : List ByteArray := Lib.splitB sepS 0 (Lib.countB s sepS) s
theorem splitQ_len (s : ByteArray) : (splitQ s).length = Lib.countB s sepS + 1 := Lib.splitB_all sepS (by decide) 0 _ s rfl
theorem splitQ_le (s : ByteArray) : (splitQ s).length ≤ s.size + 1 := by
  rw [splitQ_len]
  have := Lib.countB_le sepS (by decide) s.size s (Nat.le_refl _)
  omega
theorem splitB_size (sep : ByteArray) : ∀ (k : Nat) (s : ByteArray), ∀ x ∈ Lib.splitB sep 0 k s, x.size ≤ s.size
  | 0, s, x, h => by
    rw [Lib.splitB_zero] at h
    rw [List.mem_singleton.1 h]; exact Nat.le_refl _
  | k + 1, s, x, h => by
    unfold Lib.splitB at h
    split at h
    · rw [List.mem_singleton.1 h]; exact Nat.le_refl _
    · rcases List.mem_cons.1 h with rfl | h
      · rw [ByteArray.size_extract]; omega
      · have := splitB_size sep k _ x h
        rw [ByteArray.size_extract] at this; omega
theorem splitQ_size (s x : ByteArray) (h : x ∈ splitQ s) : x.size ≤ s.size := splitB_size sepS _ s x h
abbrev Rd6 := Int × List ByteArray × Int × Bool × ByteArray × Int
def zeroE (c : Int) : Rd6 := (0, [], 0, false, ⟨#[]⟩, c)
def wd (l : List ByteArray) (i : Nat) : ByteArray := l.getD i ByteArray.empty
noncomputable def tQ (s : ByteArray) : ByteArray := (textQ s).1
noncomputable def okQ (s : ByteArray) : Bool := (textQ s).2
noncomputable def readW (ws : List ByteArray) (k n : Int) (f : Bool) : Rd6 := if ws.all okQ = true then (k, (ws.drop 1).map tQ, n, f, tQ (wd ws 0), 0) else zeroE 2
noncomputable def readN (l : List ByteArray) (k : Int) (p : Int × Bool) : Rd6 := if p.2 = false ∨ ¬ (wd l 2 = ⟨#[48]⟩ ∨ wd l 2 = ⟨#[49]⟩) then zeroE 2 else readW (l.drop 3) k p.1 (decide (wd l 2 = ⟨#[49]⟩))
noncomputable def readK (l : List ByteArray) (k : Nat) : Rd6 := if k = 0 then zeroE 560 else readN l k (numP (wd l 1))
noncomputable def readL (l : List ByteArray) : Rd6 := if l.length < 4 ∨ Lib.containsS l ⟨#[]⟩ = true then zeroE 2 else readK l (kindQ (wd l 0))
noncomputable def readQ (s : ByteArray) : Rd6 := if 1048576 < s.size then zeroE 4 else readL (splitQ s)
theorem numP_false {s : ByteArray} (h : (numP s).2 = false) : (numP s).1 = 0 := by
  unfold numP at *
  cases ha : Lib.atoiAll s.data.toList with
  | ok v =>
    rw [ha] at h
    simp only at h ⊢
    by_cases c : itoaS v = s ∧ -1099511627776 ≤ v ∧ v ≤ 1099511627776
    · rw [if_pos c] at h; cases h
    · rw [if_neg c]
  | «syntax» => rfl
  | range => rfl
def Cm (w : World) (g : Nat) (k : Int) (v : Value) (n : Int) (f : Bool) (t : ByteArray) : Prop := w.heap[g]? = some (.cells #[.int .i64 k, v, .int .i64 n, .bool f, .string t] 24 (0, 0))
section
variable {w w' : World} {g : Nat} {k : Int} {v : Value} {n : Int} {f : Bool} {t : ByteArray}
theorem Cm.c0 (h : Cm w g k v n f t) : w.cell? ⟨g, 0, none⟩ = some (.int .i64 k) := by rw [Lib.cell_of_heap h]; rfl
theorem Cm.c1 (h : Cm w g k v n f t) : w.cell? ⟨g, 1, none⟩ = some v := by rw [Lib.cell_of_heap h]; rfl
theorem Cm.c2 (h : Cm w g k v n f t) : w.cell? ⟨g, 2, none⟩ = some (.int .i64 n) := by rw [Lib.cell_of_heap h]; rfl
theorem Cm.c3 (h : Cm w g k v n f t) : w.cell? ⟨g, 3, none⟩ = some (.bool f) := by rw [Lib.cell_of_heap h]; rfl
theorem Cm.c4 (h : Cm w g k v n f t) : w.cell? ⟨g, 4, none⟩ = some (.string t) := by rw [Lib.cell_of_heap h]; rfl
theorem Cm.fr (h : Cm w g k v n f t) (i : Nat) : w.frozen? ⟨g, i, none⟩ = false := Lib.frozen_of_heap h i
theorem Cm.lt (h : Cm w g k v n f t) : g < w.heap.size := lt_of_block h
theorem Cm.below (h : Cm w g k v n f t) (hb : Below w.heap.size w w') : Cm w' g k v n f t := (hb.block g (lt_of_block h)).trans h
theorem Cm.kept (h : Cm w g k v n f t) (hb : w'.heap[g]? = w.heap[g]?) : Cm w' g k v n f t := hb.trans h
theorem Cm.far (h : Cm w g k v n f t) {p : Addr} (hp : p.block ≠ g) (u : Value) : Cm (w.setCell p u) g k v n f t := (Below.heap_setCell w p u g (Ne.symm hp)).trans h
theorem Cm.set1 (h : Cm w g k v n f t) (v' : Value) : Cm (w.setCell ⟨g, 1, none⟩ v') g k v' n f t := by
  unfold Cm at *
  have := blk_set h 1 v'
  simpa using this
theorem Cm.set4 (h : Cm w g k v n f t) (t' : ByteArray) : Cm (w.setCell ⟨g, 4, none⟩ (.string t')) g k v n f t' := by
  unfold Cm at *
  have := blk_set h 4 (.string t')
  simpa using this
def put5 (w : World) (g : Nat) (k : Int) (v : Value) (n : Int) (f : Bool) (t : ByteArray) : World := ((((w.setCell ⟨g, 0, none⟩ (.int .i64 k)).setCell ⟨g, 1, none⟩ v).setCell ⟨g, 2, none⟩ (.int .i64 n)).setCell ⟨g, 3, none⟩ (.bool f)).setCell ⟨g, 4, none⟩ (.string t)
theorem Cm.put (h : Cm w g k v n f t) (k' : Int) (v' : Value) (n' : Int) (f' : Bool) (t' : ByteArray) : Cm (put5 w g k' v' n' f' t') g k' v' n' f' t' := by
  unfold Cm put5 at *
  have := blk_set (blk_set (blk_set (blk_set (blk_set h 0 (.int .i64 k')) 1 v') 2 (.int .i64 n')) 3 (.bool f')) 4 (.string t')
  simpa using this
theorem below_put5 {B : Nat} {a : World} (h : Below B a w) (hg : B ≤ g) : Below B a (put5 w g k v n f t) :=
  Below.setCell (Below.setCell (Below.setCell (Below.setCell (Below.setCell h (p := ⟨g, 0, none⟩) hg _) (p := ⟨g, 1, none⟩) hg _) (p := ⟨g, 2, none⟩) hg _) (p := ⟨g, 3, none⟩) hg _) (p := ⟨g, 4, none⟩) hg _
theorem put5_block (j : Nat) (hj : j ≠ g) : (put5 w g k v n f t).heap[j]? = w.heap[j]? := by
  unfold put5
  rw [Below.heap_setCell _ _ _ j hj, Below.heap_setCell _ _ _ j hj, Below.heap_setCell _ _ _ j hj, Below.heap_setCell _ _ _ j hj, Below.heap_setCell _ _ _ j hj]
end
theorem one_iff {s : ByteArray} {c : UInt8} : s.toList = [c] ↔ s = ⟨#[c]⟩ := by
  have h : (⟨#[c]⟩ : ByteArray).toList = [c] := by rw [toList_bytes]
  exact ⟨fun e => toList_iff.1 (e.trans h.symm), fun e => by rw [e]; exact h⟩
def Ws (w : World) (g : Nat) (l : List ByteArray) : Prop := ∃ cap, w.heap[g]? = some (.cells ((l.map Value.string).toArray) 9 cap)
theorem Ws.cell {w : World} {g : Nat} {l : List ByteArray} (h : Ws w g l) (j : Nat) (hj : j < l.length) : w.cell? ⟨g, j, none⟩ = some (.string (wd l j)) := by
  obtain ⟨cap, h⟩ := h
  rw [Lib.cell_of_heap h]
  simp [wd, hj]
theorem Ws.below {w w' : World} {g : Nat} {l : List ByteArray} (h : Ws w g l) (hb : Below w.heap.size w w') : Ws w' g l := by
  obtain ⟨cap, h⟩ := h
  exact ⟨cap, (hb.block g (lt_of_block h)).trans h⟩
theorem Ws.kept {w w' : World} {g : Nat} {l : List ByteArray} (h : Ws w g l) (hb : w'.heap[g]? = w.heap[g]?) : Ws w' g l := by
  obtain ⟨cap, h⟩ := h
  exact ⟨cap, hb.trans h⟩
theorem Ws.lt {w : World} {g : Nat} {l : List ByteArray} (h : Ws w g l) : g < w.heap.size := by
  obtain ⟨cap, h⟩ := h
  exact lt_of_block h
theorem ne_row : ∀ q, q ∈ 9 :: (Kd.string).E → q ≠ 24 := by
  intro q hq
  have : (Kd.string).E = [] := rfl
  rw [this] at hq
  rw [List.mem_singleton.1 hq]
  decide
theorem R_put5 {w : World} {base g : Nat} {ok : Nat → Prop} {v u : Value} {xs : List ByteArray} {k n : Int} {f : Bool} {t : ByteArray} (h : Kd.string.R 9 w base ok v xs) (hg : g < base) : Kd.string.R 9 (put5 w g k u n f t) base ok v xs :=
  Kd.R_mono (Kd.R_step (Kd.R_bound h) (fun k hk _ => put5_block k (by have := hk.2.1; omega))) (fun k hk => hk.1)
noncomputable def argsQ (l : List ByteArray) (i : Nat) : List ByteArray := (((l.drop 3).take i).drop 1).map tQ
theorem argsQ_one (l : List ByteArray) : argsQ l 1 = [] := by
  unfold argsQ
  rw [List.drop_eq_nil_iff.2 (by rw [List.length_take]; omega)]; rfl
theorem argsQ_succ (l : List ByteArray) (i : Nat) (h0 : i ≠ 0) (h : i < l.length - 3) : argsQ l (i + 1) = argsQ l i ++ [tQ (wd l (3 + i))] := by
  unfold argsQ
  have hl : i < (l.drop 3).length := by rw [List.length_drop]; exact h
  rw [List.take_add_one, List.getElem?_eq_getElem hl, List.drop_append_of_le_length (by rw [List.length_take]; omega), List.map_append]
  congr 1
  have : 3 + i < l.length := by omega
  simp [wd, this]
theorem argsQ_all (l : List ByteArray) (i : Nat) (h : i = l.length - 3) : argsQ l i = ((l.drop 3).drop 1).map tQ := by
  unfold argsQ
  rw [List.take_of_length_le (by rw [List.length_drop]; omega)]
theorem argsQ_len (l : List ByteArray) (i : Nat) : (argsQ l i).length ≤ l.length := by
  unfold argsQ
  rw [List.length_map, List.length_drop, List.length_take, List.length_drop]; omega
theorem all_words (l : List ByteArray) : (l.drop 3).all okQ = true ↔ ∀ j, j < l.length - 3 → okQ (wd l (3 + j)) = true := by
  rw [List.all_eq_true]
  constructor
  · intro h j hj
    have : 3 + j < l.length := by omega
    refine h _ ?_
    have e : wd l (3 + j) = (l.drop 3)[j]'(by rw [List.length_drop]; exact hj) := by simp [wd, this]
    rw [e]
    exact List.getElem_mem _
  · intro h x hx
    obtain ⟨j, hj, rfl⟩ := List.getElem_of_mem hx
    have hj2 := hj
    rw [List.length_drop] at hj2
    have := h j hj2
    have h3 : 3 + j < l.length := by omega
    have e : wd l (3 + j) = (l.drop 3)[j] := by simp [wd, h3]
    rw [← e]; exact this
structure LR (w wr : World) (gl gc : Nat) (l : List ByteArray) (kk nn : Int) (fb : Bool) (i : Nat) : Prop where
  X : Cm wr w.heap.size 0 (.slice none 0 0) 0 false ⟨#[]⟩
  W : Ws wr gl l
  B : Below w.heap.size w wr
  R : ∃ v1, Cm wr gc kk v1 nn fb (if i = 0 then ⟨#[]⟩ else tQ (wd l 3)) ∧ Kd.string.R 9 wr (gl + 1) (fun _ => True) v1 (argsQ l i)
  ok : ∀ j, j < i → okQ (wd l (3 + j)) = true
section
variable {w wr wx : World} {gl gc i : Nat} {l : List ByteArray} {kk nn : Int} {fb : Bool}
theorem LR.start (X : Cm wr w.heap.size 0 (.slice none 0 0) 0 false ⟨#[]⟩) (W : Ws wr gl l) (B : Below w.heap.size w wr) (C : Cm wr gc kk (.slice none 0 0) nn fb ⟨#[]⟩) : LR w wr gl gc l kk nn fb 0 :=
  ⟨X, W, B, ⟨_, C, Kd.R_nil _ _ _ _ _⟩, fun j hj => absurd hj (by omega)⟩
theorem LR.below (h : LR w wr gl gc l kk nn fb i) (hb : Below wr.heap.size wr wx) : LR w wx gl gc l kk nn fb i := by
  obtain ⟨v1, C, R⟩ := h.R
  exact ⟨h.X.below hb, h.W.below hb, h.B.trans (hb.mono h.B.size), ⟨v1, C.below hb, Kd.R_below R hb⟩, h.ok⟩
theorem LR.first (h : LR w wr gl gc l kk nn fb 0) (hg1 : w.heap.size < gl) (hg2 : gl < gc) (ho : okQ (wd l (3 + 0)) = true) : LR w (wr.setCell ⟨gc, 4, none⟩ (.string (tQ (wd l 3)))) gl gc l kk nn fb 1 := by
  obtain ⟨v1, C, R⟩ := h.R
  refine ⟨h.X.far (by show gc ≠ w.heap.size; omega) _, h.W.kept (Below.heap_setCell _ _ _ _ (by show gl ≠ gc; omega)), h.B.setCell (by show w.heap.size ≤ gc; omega) _, ⟨v1, C.set4 _, ?_⟩, fun j hj => ?_⟩
  · rw [argsQ_one]
    exact Kd.R_set (by rw [show argsQ l 0 = [] from rfl] at R; exact R) C ne_row 4 _
  · obtain rfl : j = 0 := by omega
    exact ho
theorem LR.more {w1 : World} (h : LR w wr gl gc l kk nn fb i) (h0 : i ≠ 0) (hi : i < l.length - 3) (hg1 : w.heap.size < gl) (hg2 : gl < gc) (ho : okQ (wd l (3 + i)) = true) {v1 v2 : Value}
    (C : Cm wr gc kk v1 nn fb (tQ (wd l 3))) (R : Kd.string.R 9 wr (gl + 1) (fun _ => True) v1 (argsQ l i))
    (hR2 : Kd.string.R 9 w1 (gl + 1) (fun _ => True) v2 (argsQ l i ++ [tQ (wd l (3 + i))])) (hB2 : Below (gl + 1) wr w1) (hG : wr.grownBy w1 v1.ownBlock) :
    LR w (w1.setCell ⟨gc, 1, none⟩ v2) gl gc l kk nn fb (i + 1) ∧ Cm w1 gc kk v1 nn fb (tQ (wd l 3)) := by
  have hne : some gc ≠ v1.ownBlock := Kd.R_ne R C (by decide)
  have hC1 : Cm w1 gc kk v1 nn fb (tQ (wd l 3)) := C.kept (hG.block gc C.lt hne)
  refine ⟨⟨?_, ?_, ?_, ⟨v2, ?_, ?_⟩, fun j hj => ?_⟩, hC1⟩
  · exact (h.X.kept (hB2.block _ (by omega))).far (by show gc ≠ w.heap.size; omega) _
  · exact (h.W.kept (hB2.block _ (by omega))).kept (Below.heap_setCell _ _ _ _ (by show gl ≠ gc; omega))
  · exact (h.B.trans (hB2.mono (by omega))).setCell (by show w.heap.size ≤ gc; omega) _
  · rw [if_neg (by omega)]; exact hC1.set1 _
  · rw [argsQ_succ l i h0 hi]; exact Kd.R_set hR2 hC1 ne_row 1 _
  · by_cases e : j = i
    · rw [e]; exact ho
    · exact h.ok j (by omega)
end
theorem eqNum (d : Nat) (w : World) (x0 y0 : Int) (x1 y1 : Bool) :
    (Op.equalIn (d + 2) 55 (.agg #[.int .i64 x0, .bool x1]) (.agg #[.int .i64 y0, .bool y1])).run Tryd.prog w = .ok (x0 == y0 && (x1 == y1)) w := by
  refine eqA_of Tryd.underlying55 (by kernel_rfl) ?_
  refine eqf_cons (by rfl) (by go_simp; rfl) (by go_simp; rfl) (by go_simp) ?_
  exact eqf_last (by rfl) (by go_simp; rfl) (by go_simp; rfl) (by go_simp)
end Go.Proofs.YtcmemgahgenpdaaDoor.Hand
end
section
namespace Go.Proofs.YtcmemgahgenpdaaDoor.Hand
open Go.RowKit Go.Proofs.YtcmemgahgenpdaaDoorW.PrintWords Go.Proofs.YtcmemgahgenpdaaDoorW.PrintLast Go.Proofs.YtcmemgahgenpdaaDoorW.PrintMore
open Go.Proofs.YtcmemgahgenpdaaDoor.PSc Go.Proofs.YtcmemgahgenpdaaDoor.Pure
set_option linter.unusedVariables false
set_option linter.unusedSimpArgs false
attribute [local go_sem high] eqNum
set_option maxHeartbeats 8000000 in
set_option maxRecDepth 100000 in
theorem Read_any (s : ByteArray) (r1 : Int) (r2 : List ByteArray) (r3 : Int) (r4 : Bool) (r5 : ByteArray) (r6 : Int) (w : World) (hWd : Wds w) (hr : readQ s = (r1, r2, r3, r4, r5, r6)) :
    Calls Tryd.prog 10 #[.string s] w fun e w' => ∃ v1_ : Value, e = .returned (.tuple #[.agg #[.int .i64 r1, v1_, .int .i64 r3, .bool r4, .string r5], .int .i64 r6]) ∧ Kd.R Kd.string 9 w' w.heap.size (fun _ => True) v1_ r2 ∧ Below w.heap.size w w' := by
  have hb0 : Below w.heap.size w (w.alloc (.cells #[.int .i64 0, .slice none 0 0, .int .i64 0, .bool false, .string ⟨#[]⟩] 24)) := (Below.refl _ w).alloc (Nat.le_refl _) _
  have hx0 : Cm (w.alloc (.cells #[.int .i64 0, .slice none 0 0, .int .i64 0, .bool false, .string ⟨#[]⟩] 24)) w.heap.size 0 (.slice none 0 0) 0 false ⟨#[]⟩ := heap_alloc_new w _
  have HWd := Lib.hid (hWd.below hb0)
  have HR := Lib.hid hr
  have HB := Lib.hid hb0
  have HX := Lib.hid hx0
  clear hWd hr hb0 hx0
  go_enter Tryd.func10, Tryd.ntmps10
  go_upto_region 1 with (fail)
  generalize w.alloc (.cells #[.int .i64 0, .slice none 0 0, .int .i64 0, .bool false, .string ⟨#[]⟩] 24) = w0 at *
  unfold readQ at HR
  by_cases c0 : 1048576 < s.size
  · have c0b : decide (1048576 < (s.size : Int)) = true := decide_eq_true (by omega)
    have hr := HR.out
    rw [if_pos c0] at hr
    simp only [zeroE, Prod.mk.injEq] at hr
    obtain ⟨rfl, rfl, rfl, rfl, rfl, rfl⟩ := hr
    have d0 := HX.out.c0
    have d1 := HX.out.c1
    have d2 := HX.out.c2
    have d3 := HX.out.c3
    have d4 := HX.out.c4
    have f0 := HX.out.fr 0
    have f1 := HX.out.fr 1
    have f2 := HX.out.fr 2
    have f3 := HX.out.fr 3
    have f4 := HX.out.fr 4
    have hE := Lib.hid (HX.out.put 0 (.slice none 0 0) 0 false ⟨#[]⟩)
    have hBE := Lib.hid (below_put5 (k := 0) (v := .slice none 0 0) (n := 0) (f := false) (t := ⟨#[]⟩) HB.out (Nat.le_refl _))
    clear HR HB HX HWd c0
    go_wp2
    refine bodyPost_ret (results_ct rfl _ _ w.heap.size 24 _ (0, 0) _ rfl hE.out Tryd.underlying24 rfl (by kernel_rfl)) rfl ?_
    exact ⟨_, rfl, Kd.R_nil _ _ _ _ _, hBE.out⟩
  · have c0b : decide (1048576 < (s.size : Int)) = false := decide_eq_false (by omega)
    obtain ⟨m, hm⟩ := HWd.out.maxl
    have hr := HR.out
    rw [if_neg c0] at hr
    have HR := Lib.hid hr
    clear hr
    go_wp2_with fail
    refine (Tryd.strings_Split s sepS m _ (by omega) hm (by decide)).mono ?_
    rintro e w1 ⟨rfl, hw1⟩
    have hlen := splitQ_len s
    have hle := splitQ_le s
    have hsize := splitQ_size s
    have hws : Ws w1 w0.heap.size (splitQ s) := ⟨(0, 0), by rw [hw1]; exact heap_alloc_new _ _⟩
    have hb1 : Below w0.heap.size w0 w1 := by rw [hw1]; exact (Below.refl _ _).alloc (Nat.le_refl _) _
    rw [← hlen]
    have hg : w.heap.size < w0.heap.size := HX.out.lt
    have HX := Lib.hid (HX.out.below hb1)
    have HWd := Lib.hid (HWd.out.below hb1)
    have HB := Lib.hid (HB.out.trans (hb1.mono (Nat.le_of_lt hg)))
    have HW := Lib.hid hws
    have HS := Lib.hid hsize
    clear hw1 hws hb1 hlen hsize hm
    generalize w0.heap.size = gl at *
    generalize splitQ s = l at *
    unfold readL at HR
    by_cases c1 : l.length < 4
    · have c1b : decide ((l.length : Int) < 4) = true := decide_eq_true (by omega)
      have hr := HR.out
      rw [if_pos (Or.inl c1)] at hr
      simp only [zeroE, Prod.mk.injEq] at hr
      obtain ⟨rfl, rfl, rfl, rfl, rfl, rfl⟩ := hr
      have d0 := HX.out.c0
      have d1 := HX.out.c1
      have d2 := HX.out.c2
      have d3 := HX.out.c3
      have d4 := HX.out.c4
      have f0 := HX.out.fr 0
      have f1 := HX.out.fr 1
      have f2 := HX.out.fr 2
      have f3 := HX.out.fr 3
      have f4 := HX.out.fr 4
      have hE := Lib.hid (HX.out.put 0 (.slice none 0 0) 0 false ⟨#[]⟩)
      have hBE := Lib.hid (below_put5 (k := 0) (v := .slice none 0 0) (n := 0) (f := false) (t := ⟨#[]⟩) HB.out (Nat.le_refl _))
      clear HR HB HX HWd HW HS c0 c1
      go_wp2
      refine bodyPost_ret (results_ct rfl _ _ w.heap.size 24 _ (0, 0) _ rfl hE.out Tryd.underlying24 rfl (by kernel_rfl)) rfl ?_
      exact ⟨_, rfl, Kd.R_nil _ _ _ _ _, hBE.out⟩
    · have c1b : decide ((l.length : Int) < 4) = false := decide_eq_false (by omega)
      go_wp2_with fail
      refine (Tryd.slices_Contains_string gl 0 l.length l.length l ⟨#[]⟩ _ (Nat.le_refl _) (by omega) (fun j hj => by rw [Nat.zero_add]; exact HW.out.cell j hj)).mono ?_
      rintro e w2 ⟨rfl, hw2⟩
      rw [hw2]
      clear hw2
      rw [List.take_length]
      by_cases c2 : Lib.containsS l ⟨#[]⟩ = true
      · rw [c2]
        have hr := HR.out
        rw [if_pos (Or.inr c2)] at hr
        simp only [zeroE, Prod.mk.injEq] at hr
        obtain ⟨rfl, rfl, rfl, rfl, rfl, rfl⟩ := hr
        have d0 := HX.out.c0
        have d1 := HX.out.c1
        have d2 := HX.out.c2
        have d3 := HX.out.c3
        have d4 := HX.out.c4
        have f0 := HX.out.fr 0
        have f1 := HX.out.fr 1
        have f2 := HX.out.fr 2
        have f3 := HX.out.fr 3
        have f4 := HX.out.fr 4
        have hE := Lib.hid (HX.out.put 0 (.slice none 0 0) 0 false ⟨#[]⟩)
        have hBE := Lib.hid (below_put5 (k := 0) (v := .slice none 0 0) (n := 0) (f := false) (t := ⟨#[]⟩) HB.out (Nat.le_refl _))
        clear HR HB HX HWd HW HS c0 c1 c2
        go_wp2
        refine bodyPost_ret (results_ct rfl _ _ w.heap.size 24 _ (0, 0) _ rfl hE.out Tryd.underlying24 rfl (by kernel_rfl)) rfl ?_
        exact ⟨_, rfl, Kd.R_nil _ _ _ _ _, hBE.out⟩
      · have c2b : Lib.containsS l ⟨#[]⟩ = false := Bool.eq_false_iff.2 c2
        rw [c2b]
        have hr := HR.out
        rw [if_neg (fun h => h.elim c1 c2)] at hr
        have HR := Lib.hid hr
        clear hr
        go_upto_region 6 with (fail)
        have p0 : 0 < l.length := by omega
        have p1 : 1 < l.length := by omega
        have p2 : 2 < l.length := by omega
        have hk0 := HW.out.cell 0 (by omega)
        have hk0d : w1.drew.cell? ⟨gl, 0, none⟩ = some (.string (wd l 0)) := hk0
        have hg1 : gl < w1.drew.heap.size := HW.out.lt
        generalize wd l 0 = w0s at *
        go_cut [5, 6] (fun v5 v6 wc => v5 = .int .i64 ((kindQ w0s : Nat) : Int) ∧ v6 = .bool (kindQ w0s != 0) ∧ Below w1.heap.size w1 wc)
        case first =>
          go_region_law (first | (go_simp; go_at_call 29; refine (numbers_any _).mono ?_; rintro e w2 ⟨rfl, hN, hb2⟩; have k1 := (hb2.cell (p := ⟨gl, 0, none⟩) hg1).trans hk0d; have lk := num_look (M := w1.heap.size) hN w0s))
          all_goals (go_wp2_with (fail))
          all_goals go_meet
          all_goals exact ⟨rfl, rfl, (below_drew1 (Below.refl _ _)).trans hb2⟩
        case rest =>
          obtain ⟨rfl, rfl, hb2⟩ := hcut
          have HX := Lib.hid (HX.out.below hb2)
          have HB := Lib.hid (HB.out.trans (hb2.mono HB.out.size))
          have HWd := Lib.hid (HWd.out.below hb2)
          have HW := Lib.hid (HW.out.below hb2)
          have hkk := (kindQ_lt w0s).1
          clear hk0 hk0d hg1 hb2
          generalize kindQ w0s = kk at *
          unfold readK at HR
          by_cases c3 : kk = 0
          · have c3b : (kk != 0) = false := by rw [c3]; rfl
            have hr := HR.out
            rw [if_pos c3] at hr
            simp only [zeroE, Prod.mk.injEq] at hr
            obtain ⟨rfl, rfl, rfl, rfl, rfl, rfl⟩ := hr
            have d0 := HX.out.c0
            have d1 := HX.out.c1
            have d2 := HX.out.c2
            have d3 := HX.out.c3
            have d4 := HX.out.c4
            have f0 := HX.out.fr 0
            have f1 := HX.out.fr 1
            have f2 := HX.out.fr 2
            have f3 := HX.out.fr 3
            have f4 := HX.out.fr 4
            have hE := Lib.hid (HX.out.put 0 (.slice none 0 0) 0 false ⟨#[]⟩)
            have hBE := Lib.hid (below_put5 (k := 0) (v := .slice none 0 0) (n := 0) (f := false) (t := ⟨#[]⟩) HB.out (Nat.le_refl _))
            clear HR HB HX HWd HW HS c0 c1 c2 c3
            go_wp2
            refine bodyPost_ret (results_ct rfl _ _ w.heap.size 24 _ (0, 0) _ rfl hE.out Tryd.underlying24 rfl (by kernel_rfl)) rfl ?_
            exact ⟨_, rfl, Kd.R_nil _ _ _ _ _, hBE.out⟩
          · have c3b : (kk != 0) = true := by simp [c3]
            have hr := HR.out
            rw [if_neg c3] at hr
            have HR := Lib.hid hr
            clear hr
            have hk1 := HW.out.cell 1 (by omega)
            have hz1 := HS.out (wd l 1) (by simp [wd, p1])
            have hnf : (numP (wd l 1)).2 = false → (numP (wd l 1)).1 = 0 := numP_false
            have HZ1 := Lib.hid hz1
            have HNF := Lib.hid hnf
            clear hz1 hnf
            go_wp2_with fail
            refine (read_any (wd l 1) _ HWd.out (by have := HZ1.out; omega)).mono ?_
            rintro e w3 ⟨rfl, hb3⟩
            have HX := Lib.hid (HX.out.below hb3)
            have HB := Lib.hid (HB.out.trans (hb3.mono HB.out.size))
            have HWd := Lib.hid (HWd.out.below hb3)
            have HW := Lib.hid (HW.out.below hb3)
            clear hb3 HZ1 hk1
            generalize numP (wd l 1) = np at *
            obtain ⟨nn, nb⟩ := np
            go_upto_region 10 with (fail)
            have hx4 : Nb (w3.alloc (.cells #[.int .i64 nn, .bool nb] 55)) w3.heap.size nn nb := heap_alloc_new w3 _
            have hb4 : Below w3.heap.size w3 (w3.alloc (.cells #[.int .i64 nn, .bool nb] 55)) := (Below.refl _ _).alloc (Nat.le_refl _) _
            have hgn : gl < w3.heap.size := HW.out.lt
            have HX := Lib.hid (HX.out.below hb4)
            have HB := Lib.hid (HB.out.trans (hb4.mono HB.out.size))
            have HWd := Lib.hid (HWd.out.below hb4)
            have HW := Lib.hid (HW.out.below hb4)
            clear hb4
            generalize w3.alloc (.cells #[.int .i64 nn, .bool nb] 55) = w4 at *
            generalize w3.heap.size = gn at *
            have hk2 := HW.out.cell 2 (by omega)
            have n0 := hx4.c0
            have n1 := hx4.c1
            have hnn : nb = false → nn = 0 := HNF.out
            have HX4 := Lib.hid hx4
            clear hx4 HNF
            have hr := HR.out
            unfold readN at hr
            dsimp only at hr
            have HR := Lib.hid hr
            clear hr
            generalize hw2s : wd l 2 = w2s at *
            go_cut [56] (fun v56 wc => v56 = .bool (decide (nb = false ∨ ¬ (w2s = ⟨#[48]⟩ ∨ w2s = ⟨#[49]⟩))) ∧ wc = w4)
            case first =>
              cases nb with
              | false =>
                obtain rfl := hnn rfl
                clear hnn
                go_wp2
                go_meet
                exact ⟨by simp, rfl⟩
              | true =>
                clear hnn
                by_cases e0 : w2s = ⟨#[48]⟩
                · have e0b : (w2s.toList == ([48] : List UInt8)) = true := beq_iff_eq.2 (one_iff.2 e0)
                  have e0c : (w2s.toList != ([48] : List UInt8)) = false := bne_eq_false_iff_eq.2 (one_iff.2 e0)
                  go_wp2
                  go_meet
                  exact ⟨by simp [e0], rfl⟩
                · have e0b : (w2s.toList == ([48] : List UInt8)) = false := beq_eq_false_iff_ne.2 (fun h => e0 (one_iff.1 h))
                  have e0c : (w2s.toList != ([48] : List UInt8)) = true := bne_iff_ne.2 (fun h => e0 (one_iff.1 h))
                  by_cases e1 : w2s = ⟨#[49]⟩
                  · have e1b : (w2s.toList == ([49] : List UInt8)) = true := beq_iff_eq.2 (one_iff.2 e1)
                    have e1c : (w2s.toList != ([49] : List UInt8)) = false := bne_eq_false_iff_eq.2 (one_iff.2 e1)
                    go_wp2
                    go_meet
                    exact ⟨by simp [e1], rfl⟩
                  · have e1b : (w2s.toList == ([49] : List UInt8)) = false := beq_eq_false_iff_ne.2 (fun h => e1 (one_iff.1 h))
                    have e1c : (w2s.toList != ([49] : List UInt8)) = true := bne_iff_ne.2 (fun h => e1 (one_iff.1 h))
                    go_wp2
                    go_meet
                    exact ⟨by simp [e0, e1], rfl⟩
            case rest =>
              obtain ⟨rfl, rfl⟩ := hcut
              obtain ⟨w5, hw5⟩ : ∃ x, x = wc := ⟨_, rfl⟩
              subst hw5
              clear n0 n1 hk2 hnn
              by_cases c4 : nb = false ∨ ¬ (w2s = ⟨#[48]⟩ ∨ w2s = ⟨#[49]⟩)
              · rw [decide_eq_true c4]
                have hr := HR.out
                rw [if_pos c4] at hr
                simp only [zeroE, Prod.mk.injEq] at hr
                obtain ⟨rfl, rfl, rfl, rfl, rfl, rfl⟩ := hr
                have d0 := HX.out.c0
                have d1 := HX.out.c1
                have d2 := HX.out.c2
                have d3 := HX.out.c3
                have d4 := HX.out.c4
                have f0 := HX.out.fr 0
                have f1 := HX.out.fr 1
                have f2 := HX.out.fr 2
                have f3 := HX.out.fr 3
                have f4 := HX.out.fr 4
                have hE := Lib.hid (HX.out.put 0 (.slice none 0 0) 0 false ⟨#[]⟩)
                have hBE := Lib.hid (below_put5 (k := 0) (v := .slice none 0 0) (n := 0) (f := false) (t := ⟨#[]⟩) HB.out (Nat.le_refl _))
                clear HR HB HX HWd HW HS HX4 c0 c1 c2 c3
                go_wp2
                refine bodyPost_ret (results_ct rfl _ _ w.heap.size 24 _ (0, 0) _ rfl hE.out Tryd.underlying24 rfl (by kernel_rfl)) rfl ?_
                exact ⟨_, rfl, Kd.R_nil _ _ _ _ _, hBE.out⟩
              · rw [decide_eq_false c4]
                have hr := HR.out
                rw [if_neg c4] at hr
                have HR := Lib.hid hr
                clear hr
                have hk2 := HW.out.cell 2 (by omega)
                rw [hw2s] at hk2
                have n0 := HX4.out.c0
                have hfb : (w2s.toList == ([49] : List UInt8)) = decide (w2s = ⟨#[49]⟩) := by
                  by_cases e1 : w2s = ⟨#[49]⟩
                  · rw [decide_eq_true e1]; exact beq_iff_eq.2 (one_iff.2 e1)
                  · rw [decide_eq_false e1]; exact beq_eq_false_iff_ne.2 (fun h => e1 (one_iff.1 h))
                generalize decide (w2s = ⟨#[49]⟩) = fb at *
                go_upto_region 12 with (fail)
                go_cut [8] (fun v8 wx => ∃ gc : Nat, v8 = .pointer (some ⟨gc, 0, none⟩) ∧ gl < gc ∧ gn < gc ∧ w5.heap.size ≤ gc ∧ Cm wx gc kk (.slice none 0 0) nn fb ⟨#[]⟩ ∧ Below w5.heap.size w5 wx)
                case first =>
                  have p2i : (2 : Int) < (l.length : Int) := by omega
                  have lgn := lt_of_block HX4.out
                  have lgl := HW.out.lt
                  have n0d : w5.drew.cell? ⟨gn, 0, none⟩ = some (.int .i64 nn) := n0
                  have hk2d : w5.drew.cell? ⟨gl, 2, none⟩ = some (.string w2s) := hk2
                  have n0a : (w5.drew.alloc (.cells #[.int .i64 0, .slice none 0 0, .int .i64 0, .bool false, .string ⟨#[]⟩] 24)).cell? ⟨gn, 0, none⟩ = some (.int .i64 nn) := (Below.cell (below_alloc (Below.refl w5.drew.heap.size w5.drew) _) (p := ⟨gn, 0, none⟩) lgn).trans n0d
                  have hk2a : (w5.drew.alloc (.cells #[.int .i64 0, .slice none 0 0, .int .i64 0, .bool false, .string ⟨#[]⟩] 24)).cell? ⟨gl, 2, none⟩ = some (.string w2s) := (Below.cell (below_alloc (Below.refl w5.drew.heap.size w5.drew) _) (p := ⟨gl, 2, none⟩) lgl).trans hk2d
                  go_region_law (fail)
                  all_goals (go_wp2_with (fail))
                  all_goals go_meet
                  all_goals exact ⟨w5.heap.size, rfl, lgl, lgn, Nat.le_refl _, heap_alloc_new w5 _, below_drew1 (below_alloc (Below.refl _ _) _)⟩
                case rest =>
                  obtain ⟨gc, rfl, hgc1, hgc2, hgc3, hC, hb5⟩ := hcut
                  have HX := Lib.hid (HX.out.below hb5)
                  have HB := Lib.hid (HB.out.trans (hb5.mono HB.out.size))
                  have HWd := Lib.hid (HWd.out.below hb5)
                  have HW := Lib.hid (HW.out.below hb5)
                  have HC := Lib.hid hC
                  have hBs : w.heap.size < gc := by omega
                  have hle5 : gc < wc.heap.size := hC.lt
                  clear hC hb5 HX4 hk2 n0 hfb hgc2
                  go_wp2_with fail
                  go_wp2
                  have hnw : l.length - 3 + 3 = l.length := by omega
                  have hwr : ∀ v : Nat, v ≤ s.size + 1 → (v : Int) ≤ 1048577 := fun v hv => by omega
                  generalize l.length - 3 = nw at *
                  have HL := Lib.hid (LR.start HX.out HW.out HB.out HC.out)
                  have HND := Lib.hid HWd.out
                  clear HX HW HB HC HWd hle5 hgc3
                  go_loopw [69] (fun iv wr => ∃ i : Nat, iv = .int .i64 i ∧ i ≤ nw ∧ LR w wr gl gc l kk nn fb i) (fun iv _ => (nw - intOf iv).toNat)
                  case atStart => exact ⟨0, rfl, Nat.zero_le _, HL.out⟩
                  case round =>
                    obtain ⟨i, rfl, hi, hL⟩ := hrel
                    clear HL
                    by_cases c : (i : Int) < (nw : Int)
                    · have cb : decide ((i : Int) < (nw : Int)) = true := decide_eq_true c
                      have cb2 : decide (i < nw) = true := decide_eq_true (by omega)
                      have i0 : (0 : Int) ≤ i := by omega
                      have hw : IntKind.i64.wrap ((i : Int) + 1) = (i : Int) + 1 := by rw [i64_w]; exact wrap64_id (by omega) (by omega)
                      have hk := hL.W.cell (3 + i) (by omega)
                      have hz := HS.out (wd l (3 + i)) (by
                        have h3 : 3 + i < l.length := by omega
                        have e : wd l (3 + i) = l[3 + i] := by simp [wd, h3]
                        rw [e]; exact List.getElem_mem _)
                      obtain ⟨kq, hkq⟩ := textQ_ev (wd l (3 + i)) (by omega)
                      have HL := Lib.hid hL
                      clear hL
                      go_wp2_with fail
                      refine (script_text.calls kq (wd l (3 + i)) (tQ (wd l (3 + i))) (okQ (wd l (3 + i))) _ (hkq kq (Nat.le_refl _))).mono ?_
                      rintro e w6 ⟨rfl, hb6⟩
                      have HL := Lib.hid (HL.out.below hb6)
                      clear hb6 hk hz hkq
                      generalize hok : okQ (wd l (3 + i)) = okv
                      cases okv with
                      | false =>
                        have HX := Lib.hid HL.out.X
                        have HB := Lib.hid HL.out.B
                        have hnall : ¬ (l.drop 3).all okQ = true := fun h => by
                          have := (all_words l).1 h i (by omega)
                          rw [hok] at this; cases this
                        have hr := HR.out
                        unfold readW at hr
                        rw [if_neg hnall] at hr
                        simp only [zeroE, Prod.mk.injEq] at hr
                        obtain ⟨rfl, rfl, rfl, rfl, rfl, rfl⟩ := hr
                        have d0 := HX.out.c0
                        have d1 := HX.out.c1
                        have d2 := HX.out.c2
                        have d3 := HX.out.c3
                        have d4 := HX.out.c4
                        have f0 := HX.out.fr 0
                        have f1 := HX.out.fr 1
                        have f2 := HX.out.fr 2
                        have f3 := HX.out.fr 3
                        have f4 := HX.out.fr 4
                        have hE := Lib.hid (HX.out.put 0 (.slice none 0 0) 0 false ⟨#[]⟩)
                        have hBE := Lib.hid (below_put5 (k := 0) (v := .slice none 0 0) (n := 0) (f := false) (t := ⟨#[]⟩) HB.out (Nat.le_refl _))
                        clear HR HB HX HL HS HND c0 c1 c2 c3 c4 hok hnall
                        go_wp2
                        (try simp only [Exit.inBlock, Exit.then])
                        refine bodyPost_ret (results_ct rfl _ _ w.heap.size 24 _ (0, 0) _ rfl hE.out Tryd.underlying24 rfl (by kernel_rfl)) rfl ?_
                        exact ⟨_, rfl, Kd.R_nil _ _ _ _ _, hBE.out⟩
                      | true =>
                        by_cases ei : i = 0
                        · subst ei
                          have eib : (((0 : Nat) : Int) == 0) = true := rfl
                          obtain ⟨v1, C, R⟩ := HL.out.R
                          have d4 := C.c4
                          have f4 := C.fr 4
                          have HL1 := Lib.hid (HL.out.first hg hgc1 hok)
                          clear C R HL hok
                          go_wp2
                          exact ⟨⟨1, rfl, by omega, HL1.out⟩, by simp [intOf]; omega⟩
                        · have eib : ((i : Int) == 0) = false := beq_eq_false_iff_ne.2 (by omega)
                          have eic : decide ((i : Int) = 0) = false := decide_eq_false (by omega)
                          obtain ⟨v1, C, R⟩ := HL.out.R
                          rw [if_neg ei] at C
                          obtain ⟨A, cp, hv1⟩ := Kd.R_slice R
                          subst hv1
                          have d1 := C.c1
                          have hal := argsQ_len l i
                          have hsz6 : gl + 1 ≤ w6.heap.size := by have := HL.out.W.lt; omega
                          have HC := Lib.hid C
                          have HRR := Lib.hid R
                          have hal2 : ((argsQ l i).length + 1) * 16 ≤ 140737488355328 := by omega
                          clear C R
                          go_wp2_with (at_builtin; refine Kd.R_append Kd.string (w0 := w6) (gl + 1) rfl _ _ 22 9 (.string ⟨#[]⟩) 16 rfl Tryd.underlying22 info9 rfl (by decide) (by decide) (.slice A (argsQ l i).length cp) (argsQ l i) (tQ (wd l (3 + i))) [.string (tQ (wd l (3 + i)))] (fun _ => True) (fun _ => False) rfl (by simp [go_sem]) rfl (fun _ h => h.elim) (fun _ _ => trivial) HRR.out (Below.refl _ _) hsz6 hal2 ?_; intro v2 w7 hR7 hB7 hg7 hat7; obtain ⟨A1, cp1, hv1e⟩ := Kd.R_slice hR7; rw [List.length_append, List.length_singleton] at hv1e; subst hv1e; obtain ⟨hL7, hC7⟩ := LR.more HL.out ei (by omega) hg hgc1 hok HC.out HRR.out hR7 hB7 hg7; have k7 := hC7.c1; have q7 := hC7.fr 1; have HL7 := Lib.hid hL7; clear hL7 hC7 hR7 hB7 hg7 hat7)
                          exact ⟨⟨i + 1, rfl, by omega, HL7.out⟩, by simp [intOf]; omega⟩
                    · have cb : decide ((i : Int) < (nw : Int)) = false := decide_eq_false c
                      have cb2 : decide (i < nw) = false := decide_eq_false (by omega)
                      obtain rfl : i = nw := by omega
                      have HL := Lib.hid hL
                      clear hL
                      obtain ⟨v1, C, R⟩ := HL.out.R
                      rw [if_neg (by omega)] at C
                      have hall : (l.drop 3).all okQ = true := (all_words l).2 (fun j hj => HL.out.ok j (by omega))
                      have hr := HR.out
                      unfold readW at hr
                      rw [if_pos hall] at hr
                      rw [argsQ_all l i (by omega)] at R
                      have e3 : wd (l.drop 3) 0 = wd l 3 := by simp [wd]
                      rw [e3] at hr
                      simp only [Prod.mk.injEq] at hr
                      obtain ⟨rfl, e2, rfl, rfl, e5, rfl⟩ := hr
                      rw [e5] at C
                      rw [e2] at R
                      obtain ⟨A, cp, hv1⟩ := Kd.R_slice R
                      subst hv1
                      have d0 := HL.out.X.c0
                      have d1 := HL.out.X.c1
                      have d2 := HL.out.X.c2
                      have d3 := HL.out.X.c3
                      have d4 := HL.out.X.c4
                      have f0 := HL.out.X.fr 0
                      have f1 := HL.out.X.fr 1
                      have f2 := HL.out.X.fr 2
                      have f3 := HL.out.X.fr 3
                      have f4 := HL.out.X.fr 4
                      have d0c := C.c0
                      have d1c := C.c1
                      have d2c := C.c2
                      have d3c := C.c3
                      have d4c := C.c4
                      have f0c := C.fr 0
                      have f1c := C.fr 1
                      have f2c := C.fr 2
                      have f3c := C.fr 3
                      have f4c := C.fr 4
                      have hE := Lib.hid (HL.out.X.put kk (.slice A r2.length cp) nn fb r5)
                      have hBE := Lib.hid (below_put5 (k := kk) (v := .slice A r2.length cp) (n := nn) (f := fb) (t := r5) HL.out.B (Nat.le_refl _))
                      have hRE := Lib.hid (Kd.R_lower (R_put5 (g := w.heap.size) (k := kk) (n := nn) (f := fb) (t := r5) (u := .slice A r2.length cp) R (by omega)) (show w.heap.size ≤ gl + 1 by omega))
                      have hCf := C
                      clear C R HL HS HND c0 c1 c2 c3 c4 hall e3 HR
                      clear e2 e5
                      go_wp2
                      refine bodyPost_ret (results_ct rfl _ _ w.heap.size 24 _ (0, 0) _ rfl hE.out Tryd.underlying24 rfl (by kernel_rfl)) rfl ?_
                      exact ⟨_, rfl, hRE.out, hBE.out⟩
noncomputable def script_Read.f (s : ByteArray) : Option Rd6 := some (readQ s)
theorem script_Read.calls (s : ByteArray) (r1 : Int) (r2 : List ByteArray) (r3 : Int) (r4 : Bool) (r5 : ByteArray) (r6 : Int) (w : World) (hWd : Wds w) (h : script_Read.f s = some (r1, r2, r3, r4, r5, r6)) :
    Calls Tryd.prog 10 #[.string s] w fun e w' => ∃ v1_ : Value, e = .returned (.tuple #[.agg #[.int .i64 r1, v1_, .int .i64 r3, .bool r4, .string r5], .int .i64 r6]) ∧ Kd.R Kd.string 9 w' w.heap.size (fun _ => True) v1_ r2 ∧ Below w.heap.size w w' :=
  Read_any s r1 r2 r3 r4 r5 r6 w hWd (Option.some.inj h)
end Go.Proofs.YtcmemgahgenpdaaDoor.Hand
end
section
namespace Go.Proofs.YtcmemgahgenpdaaDoor.PSc
open Go.Proofs.YtcmemgahgenpdaaDoor.Hand Go.RowKit Go.Proofs.YtcmemgahgenpdaaDoorW.PrintWords Go.Proofs.YtcmemgahgenpdaaDoorW.PrintLast Go.Proofs.YtcmemgahgenpdaaDoorW.PrintMore
attribute [local go_sem] max2_int min2_int max_two min_two max_three min_three max_four min_four
set_option linter.unusedVariables false
set_option linter.unusedSimpArgs false
mutual
noncomputable def script_All.l0 : Nat → ByteArray → List (S24) → Int → Option ((List (S24)) × Int × Int)
 | 0, _, _, _ => none
 | k + 1, x0, x5, x6 => if x0.toList = ([] : List UInt8) then (some (x5, 0, 0)) else ((strings_Cut.f x0 (⟨#[10]⟩ : ByteArray)).bind fun bt203 => (if bt203.1.toList = ([] : List UInt8) then (script_All.j1 k bt203.2.1 x5 x6 bt203.1 true) else (if 0 < (bt203.1.size : Int) then (script_All.j1 k bt203.2.1 x5 x6 bt203.1 ((bt bt203.1 0) == 35)) else (none))))
noncomputable def script_All.j1 : Nat → ByteArray → List (S24) → Int → ByteArray → Bool → Option ((List (S24)) × Int × Int)
 | 0, _, _, _, _, _ => none
 | k + 1, x0, x5, x6, x7, x29 => if x29 = true then (script_All.l0 k x0 x5 (wrap64 (x6 + 1))) else ((script_Read.f x7).bind fun bt206 => (if bt206.2.2.2.2.2 = 0 then (if x5.length < 2199023255552 then (script_All.l0 k x0 (x5 ++ [(⟨bt206.1, bt206.2.1, bt206.2.2.1, bt206.2.2.2.1, bt206.2.2.2.2.1⟩ : S24)]) (wrap64 (x6 + 1))) else (none)) else (some (([] : List (S24)), x6, bt206.2.2.2.2.2))))
end
noncomputable def script_All.f (k : Nat) (a0 : ByteArray) : Option ((List (S24)) × Int × Int) := script_All.l0 k a0 ([] : List (S24)) 0
set_option maxHeartbeats 8000000 in
set_option maxRecDepth 100000 in
theorem script_All.calls (k : Nat) (a0 : ByteArray) (r1 : List (S24)) (r2 : Int) (r3 : Int) (w : World) (hWd : Wds w) (h : script_All.f k a0 = some (r1, r2, r3)) :
  Calls Tryd.prog 17 #[.string a0] w fun e w' => ∃ v0_ : Value, e = .returned (.tuple #[v0_, .int .i64 r2, .int .i64 r3]) ∧ Kd.S k24 24 w' w.heap.size (fun _ => True) v0_ r1 ∧ Below w.heap.size w w' := by
 have hu24 := Tryd.underlying24
 have HB := Aside0.mk (Below.refl w.heap.size w)
 have H : (script_All.l0 k a0 ([] : List (S24)) 0) = some (r1, r2, r3) := h
 clear h
 have H' := Aside0.mk H
 clear H
 go_enter Tryd.func17, Tryd.ntmps17
 go_wp2
 try (refine scope_strip (fun _ _ _ h_ => h_) ?_; go_wp2)
 try (go_step3; go_wp2)
 go_loopg [0, 5, 6] k (fun kq v0 v5 v6 w' => ∃ (x0_1 : ByteArray) (x5_1 : List (S24)) (x6_1 : Int), v0 = .string x0_1 ∧ v6 = .int .i64 x6_1 ∧ Aside0 (script_All.l0 kq x0_1 x5_1 x6_1 = some (r1, r2, r3)) ∧ Aside0 (kq ≤ k) ∧ Aside0 (Kd.S k24 24 w' w.heap.size (fun _ => True) v5 x5_1) ∧ Aside0 (Below w.heap.size w w'))
 case atStart => exact ⟨(a0), (([] : List (S24))), (0), (by first | rfl | (simp; done) | (simp [*]; done)), (by first | rfl | (simp; done) | (simp [*]; done)), H', ⟨Nat.le_refl _⟩, ⟨by first | exact Kd.S_nil _ _ _ _ _ | exact Kd.N_nil _ _ _ _ _ | exact Kd.V_nil _ _ _ _ _ | exact Kd.Q_nil _ _ _ _ _ | exact Kd.R_nil _ _ _ _ _⟩, ⟨by repeat (first | (with_reducible first | exact HB.out | apply below_alloc | apply pw_below_drewN | apply below_drew1) | exact HB.out)⟩⟩
 case round =>
  clear H'
  try clear c1
  obtain ⟨x0_1, x5_1, x6_1, rfl, rfl, HA, HK1, HO_5, HB⟩ := hrel
  cases gk with
  | zero => exact absurd HA.out (by simp [script_All.l0])
  | succ k1 =>
   have H := HA.out
   clear HA
   simp only [script_All.l0] at H
   by_cases c2 : x0_1.toList = ([] : List UInt8)
   ·rw [if_pos c2] at H
    have c2b0 : (x0_1.toList == ([] : List UInt8)) = true := beq_iff_eq.mpr c2
    have c2b1 : (x0_1.toList != ([] : List UInt8)) = false := bne_eq_false_iff_eq.mpr c2
    clear c2
    simp only [Option.some.injEq, Prod.mk.injEq] at H
    obtain ⟨rfl, rfl, rfl⟩ := H
    go_wp2
    try (refine scope_strip (fun _ _ _ h_ => h_) ?_; go_wp2)
    try (go_step3; go_wp2)
    go_ret3
    exact ⟨_, by first | rfl | (simp [errW_none, errW_some] <;> rfl) | (simp [*, errW_none, errW_some] <;> rfl), by (with_reducible repeat (first | apply Kd.S_alloc | apply Kd.S_drewN | apply Kd.S_drew)); exact HO_5.out, by repeat (first | (with_reducible first | exact HB.out | apply below_alloc | apply pw_below_drewN | apply below_drew1) | exact HB.out)⟩
   ·rw [if_neg c2] at H
    have c2b0 : (x0_1.toList == ([] : List UInt8)) = false := beq_eq_false_iff_ne.mpr c2
    have c2b1 : (x0_1.toList != ([] : List UInt8)) = true := bne_iff_ne.mpr c2
    replace H := Option.bind_eq_some_iff.mp H
    obtain ⟨⟨t203, t204, t205⟩, A30, H⟩ := H
    replace H : (if t203.toList = ([] : List UInt8) then (script_All.j1 k1 t204 x5_1 x6_1 t203 true) else (if 0 < (t203.size : Int) then (script_All.j1 k1 t204 x5_1 x6_1 t203 ((bt t203 0) == 35)) else (none))) = some (r1, r2, r3) := H
    have A3 := Aside0.mk A30
    clear A30
    have HC4 := Aside0.mk H
    clear H
    go_upto_region 7 with (first | ((with_reducible refine gate_callee (f := 37) rfl ?_); refine goesL_ (some 18) rfl rfl Tryd.func37 (by kernel_rfl) rfl #[.string x0_1, .string (⟨#[10]⟩ : ByteArray)] rfl (by (try simp only [List.map_toArray, List.map_cons, List.map_nil]); first | done | rfl | (simp only [List.length_drop, List.length_take]; rfl)) ?_; (with_reducible refine (strings_Cut.calls x0_1 (⟨#[10]⟩ : ByteArray) t203 t204 t205 _ A3.out).mono ?_); rintro e w5 ⟨rfl, hb⟩; refine ⟨_, rfl, ?_⟩; have n0_ := Aside0.mk (Kd.S_below (by (with_reducible repeat (first | apply Kd.S_alloc | apply Kd.S_drewN | apply Kd.S_drew)); exact HO_5.out) hb); have n1_ := Aside0.mk (below_step (by repeat (first | (with_reducible first | exact HB.out | apply below_alloc | apply pw_below_drewN | apply below_drew1) | exact HB.out)) hb); clear HO_5; clear HB; have HO_5 := n0_; have HB := n1_; clear n0_ n1_; (try clear hb); (try clear hb2); (try clear hk); (try clear hi)))
    (try simp only [Act.put, List.setIfInBounds_toArray, List.set_cons_zero, List.set_cons_succ])
    go_cut [29] (fun v29 wc => ∃ (kq : Nat) (x29_3 : Bool), v29 = .bool x29_3 ∧ Aside0 (script_All.j1 kq t204 x5_1 x6_1 t203 x29_3 = some (r1, r2, r3)) ∧ Aside0 (kq ≤ k1) ∧ Aside0 (Kd.S k24 24 wc w.heap.size (fun _ => True) u5 x5_1) ∧ Aside0 (Below w.heap.size w wc))
    case first =>
     have H := HC4.out
     clear HC4
     by_cases c6 : t203.toList = ([] : List UInt8)
     ·rw [if_pos c6] at H
      have c6b0 : (t203.toList == ([] : List UInt8)) = true := beq_iff_eq.mpr c6
      have c6b1 : (t203.toList != ([] : List UInt8)) = false := bne_eq_false_iff_eq.mpr c6
      clear c6
      (first | rw [c6b0] | (simp only [i64_w, i32_w]; rw [c6b0]) | skip)
      have H' := Aside0.mk H
      clear H
      go_wp2
      try (refine scope_strip (fun _ _ _ h_ => h_) ?_; go_wp2)
      try (go_step3; go_wp2)
      go_meet
      case rel => exact ⟨_, (true), (by first | rfl | (simp; done) | (simp [*]; done)), H', ⟨by have := HK1.out; first | omega | exact Nat.le_refl _⟩, ⟨by (with_reducible repeat (first | apply Kd.S_alloc | apply Kd.S_drewN | apply Kd.S_drew)); exact HO_5.out⟩, ⟨by repeat (first | (with_reducible first | exact HB.out | apply below_alloc | apply pw_below_drewN | apply below_drew1) | exact HB.out)⟩⟩
     ·rw [if_neg c6] at H
      have c6b0 : (t203.toList == ([] : List UInt8)) = false := beq_eq_false_iff_ne.mpr c6
      have c6b1 : (t203.toList != ([] : List UInt8)) = true := bne_iff_ne.mpr c6
      (first | rw [c6b0] | (simp only [i64_w, i32_w]; rw [c6b0]) | skip)
      by_cases c7 : 0 < (t203.size : Int)
      ·rw [if_pos c7] at H
       have c7b0 : decide (0 < (t203.size : Int)) = true := decide_eq_true c7
       have c7b1 : decide (0 < t203.size) = true := decide_eq_true (by omega)
       clear c7
       have H' := Aside0.mk H
       clear H
       have p8 : 0 ≤ (0 : Int) := (by omega)
       have q8 : 0 < t203.size := (by have : (0 : Int) < (t203.size : Int) := of_decide_eq_true (by first | (with_reducible assumption) | assumption); omega)
       have hx8 : ∀ h : 0 < t203.size, ((t203[0]'h).toNat : Int) = bt t203 0 := bt_at t203 0
       clear p8
       have qi8 : (0 < (t203.size : Int)) = True := eq_true (of_decide_eq_true (by first | (with_reducible assumption) | assumption))
       replace q8 := eq_true q8
       go_wp2
       try (refine scope_strip (fun _ _ _ h_ => h_) ?_; go_wp2)
       try (go_step3; go_wp2)
       go_meet
       case rel => exact ⟨_, (((bt t203 0) == 35)), (by first | rfl | (simp; done) | (simp [*]; done)), H', ⟨by have := HK1.out; first | omega | exact Nat.le_refl _⟩, ⟨by (with_reducible repeat (first | apply Kd.S_alloc | apply Kd.S_drewN | apply Kd.S_drew)); exact HO_5.out⟩, ⟨by repeat (first | (with_reducible first | exact HB.out | apply below_alloc | apply pw_below_drewN | apply below_drew1) | exact HB.out)⟩⟩
      ·rw [if_neg c7] at H
       exact absurd H (by simp)
    case rest =>
     clear HC4
     try clear c1
     try clear c2
     try clear c2b0
     try clear c2b1
     try clear p2
     try clear c3
     try clear c6
     try clear c6b0
     try clear c6b1
     try clear c7
     try clear c7b0
     try clear c7b1
     try clear p8
     try clear q8
     try clear hx8
     try clear qi8
     try clear p8
     try clear q8
     obtain ⟨kq, x29_3, rfl, HA, HJ3, HO_5, HB⟩ := hcut
     cases kq with
     | zero => exact absurd HA.out (by simp [script_All.j1])
     | succ kj3 =>
      have H := HA.out
      clear HA
      simp only [script_All.j1] at H
      by_cases c9 : x29_3 = true
      ·subst c9
       have H1 : (script_All.l0 kj3 t204 x5_1 (wrap64 (x6_1 + 1))) = some (r1, r2, r3) := by rw [if_pos rfl] at H; exact H
       clear H
       have H := H1
       clear H1
       have H' := Aside0.mk H
       clear H
       go_wp2
       try (refine scope_strip (fun _ _ _ h_ => h_) ?_; go_wp2)
       try (go_step3; go_wp2)
       go_roundg kj3
       case measure => have := HK1.out; have := HJ3.out; omega
       case rel => exact ⟨(t204), (x5_1), (wrap64 (x6_1 + 1)), (by first | rfl | (simp; done) | (simp [*]; done)), (by first | rfl | (simp; done) | (simp [*]; done)), H', ⟨by have := HK1.out; have := HJ3.out; omega⟩, ⟨by (with_reducible repeat (first | apply Kd.S_alloc | apply Kd.S_drewN | apply Kd.S_drew)); exact HO_5.out⟩, ⟨by repeat (first | (with_reducible first | exact HB.out | apply below_alloc | apply pw_below_drewN | apply below_drew1) | exact HB.out)⟩⟩
      ·replace c9 := Bool.eq_false_iff.mpr c9
       subst c9
       have H1 : ((script_Read.f t203).bind fun bt206 => (if bt206.2.2.2.2.2 = 0 then (if x5_1.length < 2199023255552 then (script_All.l0 kj3 t204 (x5_1 ++ [(⟨bt206.1, bt206.2.1, bt206.2.2.1, bt206.2.2.2.1, bt206.2.2.2.2.1⟩ : S24)]) (wrap64 (x6_1 + 1))) else (none)) else (some (([] : List (S24)), x6_1, bt206.2.2.2.2.2)))) = some (r1, r2, r3) := by rw [if_neg (show ¬ (false = true) by decide)] at H; exact H
       clear H
       have H := H1
       clear H1
       replace H := Option.bind_eq_some_iff.mp H
       obtain ⟨⟨t206, t207, t210, t211, t212, t213⟩, A100, H⟩ := H
       replace H : (if t213 = 0 then (if x5_1.length < 2199023255552 then (script_All.l0 kj3 t204 (x5_1 ++ [(⟨t206, t207, t210, t211, t212⟩ : S24)]) (wrap64 (x6_1 + 1))) else (none)) else (some (([] : List (S24)), x6_1, t213))) = some (r1, r2, r3) := H
       have A10 := Aside0.mk A100
       clear A100
       by_cases c11 : t213 = 0
       ·rw [if_pos c11] at H
        have c11b0 : (t213 == 0) = true := beq_iff_eq.mpr c11
        have c11b1 : (t213 != 0) = false := bne_eq_false_iff_eq.mpr c11
        clear c11
        by_cases c12 : x5_1.length < 2199023255552
        ·rw [if_pos c12] at H
         have LMc12 := Aside0.mk c12
         clear c12
         obtain ⟨y215, hy215⟩ : ∃ y_ : List (S24), y_ = (x5_1 ++ [(⟨t206, t207, t210, t211, t212⟩ : S24)]) := ⟨_, rfl⟩
         replace H : (script_All.l0 kj3 t204 y215 (wrap64 (x6_1 + 1))) = some (r1, r2, r3) := by first | (rw [hy215]; with_reducible exact H) | (have H2_ := (Option.bind_some _ _).symm.trans H; rw [hy215]; with_reducible exact H2_) | (have H2_ := (Option.bind_some _ _).symm.trans H; with_reducible exact H2_) | with_reducible exact H | (rw [hy215]; exact H) | exact H
         have Ny215 := Aside0.mk hy215
         clear hy215
         have H' := Aside0.mk H
         clear H
         go_wp2_with (first | ((with_reducible refine gate_callee (f := 10) rfl ?_); refine goesL_ (some 32) rfl rfl Tryd.func10 (by kernel_rfl) rfl #[.string t203] rfl (by (try simp only [List.map_toArray, List.map_cons, List.map_nil]); first | done | rfl | (simp only [List.length_drop, List.length_take]; rfl)) ?_; (with_reducible refine (script_Read.calls t203 t206 t207 t210 t211 t212 t213 _ (hWd.below (by repeat (first | (with_reducible first | exact HB.out | apply below_alloc | apply pw_below_drewN | apply below_drew1 | refine below_set ?_ GE214.out) | exact HB.out))) A10.out).mono ?_); rintro e w13 ⟨v208, rfl, ho0, hb⟩; refine ⟨_, rfl, ?_⟩; have n0_ := Aside0.mk (Kd.S_elder' (by (with_reducible repeat (first | apply Kd.S_alloc | apply Kd.S_drewN | apply Kd.S_drew)); exact HO_5.out) (Kd.R_base ho0) hb); have n1_ := Aside0.mk (Kd.R_lower ho0 (below_size (by repeat (first | (with_reducible first | exact HB.out | apply below_alloc | apply pw_below_drewN | apply below_drew1) | exact HB.out)))); have n2_ := Aside0.mk (below_step (by repeat (first | (with_reducible first | exact HB.out | apply below_alloc | apply pw_below_drewN | apply below_drew1) | exact HB.out)) hb); clear HO_5; clear HB; have HO_5 := n0_; have HO209 := n1_; have HB := n2_; clear n0_ n1_ n2_; (try clear hb); (try clear hb2); (try clear hk); (try clear hi); (try clear ho0)) | ((with_reducible refine gate_dst (N := 10) rfl ?_); refine box_event ?hg (N := 10) ?hd (cs := #[.int .i64 0, .slice none 0 0, .int .i64 0, .bool false, .string (⟨#[]⟩ : ByteArray)]) (t := 24) ?hr ?_; (case hd => rfl); (case hg => rfl); (case hr => first | (go_simp; done) | (go_simp; rfl)); intro gb214 hg w14 hbox hb; have n0_ := Aside0.mk (Kd.S_below (Kd.S_elderB (by (with_reducible repeat (first | apply Kd.S_alloc | apply Kd.S_drewN | apply Kd.S_drew)); exact HO_5.out) gb214 (Nat.le_of_eq hg.symm)) hb); have n1_ := Aside0.mk (Kd.R_below (by (with_reducible repeat (first | apply Kd.R_alloc | apply Kd.R_drewN | apply Kd.R_drew)); exact HO209.out) hb); have n2_ := Aside0.mk (below_step (by repeat (first | (with_reducible first | exact HB.out | apply below_alloc | apply pw_below_drewN | apply below_drew1) | exact HB.out)) hb); have n3_ := Aside0.mk (hbox); have n4_ := Aside0.mk ((by rw [hg]; exact (below_size (by repeat (first | (with_reducible first | exact HB.out | apply below_alloc | apply pw_below_drewN | apply below_drew1) | exact HB.out))) : w.heap.size ≤ gb214)); have n5_ := Aside0.mk ((by rw [hg]; exact (below_size (by repeat (first | (with_reducible first | exact HB.out | apply below_alloc | apply pw_below_drewN | apply below_drew1) | exact HB.out))) : w.heap.size ≤ gb214)); clear HO_5; clear HO209; clear HB; have HO_5 := n0_; have HO209 := n1_; have HB := n2_; have BK214 := n3_; have GW214 := n4_; have GE214 := n5_; clear n0_ n1_ n2_ n3_ n4_ n5_; clear hb hbox hg; have hcz15_0 : w14.cell? ⟨gb214, 0, none⟩ = some (.int .i64 0) := (blk_cell BK214.out 0).trans rfl; have hcz15_1 : w14.cell? ⟨gb214, 1, none⟩ = some (.slice none 0 0) := (blk_cell BK214.out 1).trans rfl; have hcz15_2 : w14.cell? ⟨gb214, 2, none⟩ = some (.int .i64 0) := (blk_cell BK214.out 2).trans rfl; have hcz15_3 : w14.cell? ⟨gb214, 3, none⟩ = some (.bool false) := (blk_cell BK214.out 3).trans rfl; have hcz15_4 : w14.cell? ⟨gb214, 4, none⟩ = some (.string (⟨#[]⟩ : ByteArray)) := (blk_cell BK214.out 4).trans rfl; have hfz15_0 := blk_frozen BK214.out 0; have hfz15_1 := blk_frozen BK214.out 1; have hfz15_2 := blk_frozen BK214.out 2; have hfz15_3 := blk_frozen BK214.out 3; have hfz15_4 := blk_frozen BK214.out 4; obtain ⟨Ao16, co16, eo16⟩ := Kd.R_slice HO209.out; subst eo16) | ((with_reducible refine gate_store (t := 24) (p := 10) rfl ?_); refine store_event (t := 24) (p := 10) (v := ?vo_w17) (w1 := (((((w14.setCell ⟨gb214, 0, none⟩ (.int .i64 t206)).setCell ⟨gb214, 1, none⟩ (.slice Ao16 t207.length co16)).setCell ⟨gb214, 2, none⟩ (.int .i64 t210)).setCell ⟨gb214, 3, none⟩ (.bool t211)).setCell ⟨gb214, 4, none⟩ (.string t212))) ?hg ?ho ?hn ?hr ?_; (case ho => rfl); (case hg => rfl); (case hn => rfl); (case hr => first | (go_simp; done) | (go_simp; rfl)); intro w17 hw; have n0_ : Aside0 (Kd.S k24 24 w17 w.heap.size (fun k_ => some k_ ≠ (.slice Ao16 t207.length co16 : Value).ownBlock ∧ k_ ≠ gb214) u5 x5_1) := ⟨(by rw [hw]; exact (by (with_reducible repeat (first | apply Kd.S_alloc | apply Kd.S_drewN | apply Kd.S_drew)); exact Kd.S_mono (Kd.S_far (p := ⟨gb214, 4, none⟩) (Kd.S_far (p := ⟨gb214, 3, none⟩) (Kd.S_far (p := ⟨gb214, 2, none⟩) (Kd.S_far (p := ⟨gb214, 1, none⟩) (Kd.S_far (p := ⟨gb214, 0, none⟩) (Kd.S_mono HO_5.out (fun k_ hk => (⟨hk, hk.2⟩ : _ ∧ k_ ≠ gb214))) (fun _ hk => hk.2) (.int .i64 t206)) (fun _ hk => hk.2) (.slice Ao16 t207.length co16)) (fun _ hk => hk.2) (.int .i64 t210)) (fun _ hk => hk.2) (.bool t211)) (fun _ hk => hk.2) (.string t212)) (fun _ hk => ⟨hk.1.1.2, hk.1.2⟩)))⟩; have n1_ : Aside0 (Kd.R Kd.string 9 w17 w.heap.size (fun _ => True) (.slice Ao16 t207.length co16) t207) := ⟨(by rw [hw]; exact (by (with_reducible repeat (first | apply Kd.R_alloc | apply Kd.R_drewN | apply Kd.R_drew)); exact Kd.R_mono (Kd.R_far (p := ⟨gb214, 4, none⟩) (Kd.R_far (p := ⟨gb214, 3, none⟩) (Kd.R_far (p := ⟨gb214, 2, none⟩) (Kd.R_far (p := ⟨gb214, 1, none⟩) (Kd.R_far (p := ⟨gb214, 0, none⟩) (Kd.R_types HO209.out BK214.out (by decide)) (fun _ hk => hk.2) (.int .i64 t206)) (fun _ hk => hk.2) (.slice Ao16 t207.length co16)) (fun _ hk => hk.2) (.int .i64 t210)) (fun _ hk => hk.2) (.bool t211)) (fun _ hk => hk.2) (.string t212)) (fun _ hk => trivial)))⟩; have n2_ : Aside0 (w17.heap[gb214]? = some (.cells #[.int .i64 t206, .slice Ao16 t207.length co16, .int .i64 t210, .bool t211, .string t212] 24 (0, 0))) := ⟨(by rw [hw]; exact (by (with_reducible repeat (first | refine blk_drewN ?_ _ | refine blk_drew ?_ | refine blk_alloc ?_ _)); refine blk_put (cs := #[.int .i64 t206, .slice Ao16 t207.length co16, .int .i64 t210, .bool t211, .string (⟨#[]⟩ : ByteArray)]) ?_ 4 _ rfl; (with_reducible repeat (first | refine blk_drewN ?_ _ | refine blk_drew ?_ | refine blk_alloc ?_ _)); refine blk_put (cs := #[.int .i64 t206, .slice Ao16 t207.length co16, .int .i64 t210, .bool false, .string (⟨#[]⟩ : ByteArray)]) ?_ 3 _ rfl; (with_reducible repeat (first | refine blk_drewN ?_ _ | refine blk_drew ?_ | refine blk_alloc ?_ _)); refine blk_put (cs := #[.int .i64 t206, .slice Ao16 t207.length co16, .int .i64 0, .bool false, .string (⟨#[]⟩ : ByteArray)]) ?_ 2 _ rfl; (with_reducible repeat (first | refine blk_drewN ?_ _ | refine blk_drew ?_ | refine blk_alloc ?_ _)); refine blk_put (cs := #[.int .i64 t206, .slice none 0 0, .int .i64 0, .bool false, .string (⟨#[]⟩ : ByteArray)]) ?_ 1 _ rfl; (with_reducible repeat (first | refine blk_drewN ?_ _ | refine blk_drew ?_ | refine blk_alloc ?_ _)); refine blk_put (cs := #[.int .i64 0, .slice none 0 0, .int .i64 0, .bool false, .string (⟨#[]⟩ : ByteArray)]) ?_ 0 _ rfl; (with_reducible repeat (first | refine blk_drewN ?_ _ | refine blk_drew ?_ | refine blk_alloc ?_ _)); exact BK214.out))⟩; have n3_ : Aside0 (Below w.heap.size w w17) := ⟨(by rw [hw]; exact (by repeat (first | (with_reducible first | exact HB.out | apply below_alloc | apply pw_below_drewN | apply below_drew1 | refine below_set ?_ GE214.out) | exact HB.out)))⟩; clear hw; clear HO_5; clear HO209; clear BK214; clear HB; have HO_5 := n0_; have HO209 := n1_; have BK214 := n2_; have HB := n3_; clear n0_ n1_ n2_ n3_; have hcz18_0 : w17.cell? ⟨gb214, 0, none⟩ = some (.int .i64 t206) := (blk_cell BK214.out 0).trans rfl; have hcz18_1 : w17.cell? ⟨gb214, 1, none⟩ = some (.slice Ao16 t207.length co16) := (blk_cell BK214.out 1).trans rfl; have hcz18_2 : w17.cell? ⟨gb214, 2, none⟩ = some (.int .i64 t210) := (blk_cell BK214.out 2).trans rfl; have hcz18_3 : w17.cell? ⟨gb214, 3, none⟩ = some (.bool t211) := (blk_cell BK214.out 3).trans rfl; have hcz18_4 : w17.cell? ⟨gb214, 4, none⟩ = some (.string t212) := (blk_cell BK214.out 4).trans rfl; have hfz18_0 := blk_frozen BK214.out 0; have hfz18_1 := blk_frozen BK214.out 1; have hfz18_2 := blk_frozen BK214.out 2; have hfz18_3 := blk_frozen BK214.out 3; have hfz18_4 := blk_frozen BK214.out 4) | ((with_reducible refine gate_builtin (b := .append) (xs := #[.tmp 39, .tmp 41]) rfl ?_); at_builtin; refine Kd.S_append k24 (w0 := w) w.heap.size rfl (.tmp 39) (.tmp 41) 40 24 (.agg #[(.int .i64 0), (.slice none 0 0), (.int .i64 0), (.bool false), (.string ⟨#[]⟩)]) 64 rfl Tryd.underlying40 info24 rfl (by decide) (by omega) u5 x5_1 (⟨t206, t207, t210, t211, t212⟩ : S24) [.int .i64 t206, .slice Ao16 t207.length co16, .int .i64 t210, .bool t211, .string t212] (fun k_ => k_ ≠ gb214) (fun k_ => some k_ = (.slice Ao16 t207.length co16 : Value).ownBlock) rfl rfl ?aP (fun k_ hk_ => ((Kd.R_mono (ok' := fun k_ => ((fun k_ => k_ ≠ gb214)) k_ ∧ some k_ ≠ (u5 : Value).ownBlock) (Kd.R_types (Kd.R_apart' (HO209.out) (Kd.S_typed HO_5.out) (by decide)) BK214.out (by decide)) (fun k_ hk => ⟨hk.2, hk.1.2⟩))).1 k_ hk_.symm) ?aF ?aO ?aB ?aS ?aL ?_; (case aP => exact k24_mkM _ _ _ (⟨t206, t207, t210, t211, t212⟩ : S24) (Kd.R_mono (Kd.R_tight rfl (Kd.R_mono (ok' := fun k_ => ((fun k_ => k_ ≠ gb214)) k_ ∧ some k_ ≠ (u5 : Value).ownBlock) (Kd.R_types (Kd.R_apart' (HO209.out) (Kd.S_typed HO_5.out) (by decide)) BK214.out (by decide)) (fun k_ hk => ⟨hk.2, hk.1.2⟩))) (fun _ h_ => h_))); (case aB => exact (by repeat (first | (with_reducible first | exact HB.out | apply below_alloc | apply pw_below_drewN | apply below_drew1 | refine below_set ?_ GE214.out) | exact HB.out))); (case aF => exact (fun k_ hk => Kd.freshB (g := gb214) (o := .cells #[.int .i64 t206, .slice Ao16 t207.length co16, .int .i64 t210, .bool t211, .string t212] 24 (0, 0)) (by (with_reducible repeat (first | refine blk_drewN ?_ _ | refine blk_drew ?_ | refine blk_alloc ?_ _)); exact BK214.out) k_ hk)); (case aO => exact (by (with_reducible repeat (first | apply Kd.S_alloc | apply Kd.S_drewN | apply Kd.S_drew)); exact Kd.S_mono HO_5.out (fun k_ hk => ⟨hk.2, fun e_ => hk.1 e_⟩))); (case aS => exact (below_size (by repeat (first | (with_reducible first | exact HB.out | apply below_alloc | apply pw_below_drewN | apply below_drew1 | refine below_set ?_ GE214.out) | exact HB.out)))); (case aL => have := LMc12.out; omega); intro v216 w19 ho hb hg hat; rw [← Ny215.out] at ho; have n0_ := Aside0.mk (blk_grown (g := gb214) (o := .cells #[.int .i64 t206, .slice Ao16 t207.length co16, .int .i64 t210, .bool t211, .string t212] 24 (0, 0)) (by (with_reducible repeat (first | refine blk_drewN ?_ _ | refine blk_drew ?_ | refine blk_alloc ?_ _)); exact BK214.out) hg (Kd.S_away HO_5.out (fun _ hk => hk.2))); have n1_ := Aside0.mk (hb); have n2_ := Aside0.mk (ho); clear BK214; clear HB; clear HO_5; clear HO209; have BK214 := n0_; have HB := n1_; have HO217 := n2_; clear n0_ n1_ n2_; clear ho hb hg hat))
         try (refine scope_strip (fun _ _ _ h_ => h_) ?_; go_wp2)
         try (go_step3; go_wp2)
         go_roundg kj3
         case measure => have := HK1.out; have := HJ3.out; omega
         case rel => exact ⟨(t204), (y215), (wrap64 (x6_1 + 1)), (by first | rfl | (simp; done) | (simp [*]; done)), (by first | rfl | (simp; done) | (simp [*]; done)), H', ⟨by have := HK1.out; have := HJ3.out; omega⟩, ⟨by (with_reducible repeat (first | apply Kd.S_alloc | apply Kd.S_drewN | apply Kd.S_drew)); exact Kd.S_mono HO217.out (fun _ hk => trivial)⟩, ⟨by repeat (first | (with_reducible first | exact HB.out | apply below_alloc | apply pw_below_drewN | apply below_drew1 | refine below_set ?_ GE214.out) | exact HB.out)⟩⟩
        ·rw [if_neg c12] at H
         exact absurd H (by simp)
       ·rw [if_neg c11] at H
        have c11b0 : (t213 == 0) = false := beq_eq_false_iff_ne.mpr c11
        have c11b1 : (t213 != 0) = true := bne_iff_ne.mpr c11
        simp only [Option.some.injEq, Prod.mk.injEq] at H
        obtain ⟨rfl, rfl, rfl⟩ := H
        go_wp2_with (first | ((with_reducible refine gate_callee (f := 10) rfl ?_); refine goesL_ (some 32) rfl rfl Tryd.func10 (by kernel_rfl) rfl #[.string t203] rfl (by (try simp only [List.map_toArray, List.map_cons, List.map_nil]); first | done | rfl | (simp only [List.length_drop, List.length_take]; rfl)) ?_; (with_reducible refine (script_Read.calls t203 t206 t207 t210 t211 t212 t213 _ (hWd.below (by repeat (first | (with_reducible first | exact HB.out | apply below_alloc | apply pw_below_drewN | apply below_drew1 | refine below_set ?_ GE214.out) | exact HB.out))) A10.out).mono ?_); rintro e w20 ⟨v208, rfl, ho0, hb⟩; refine ⟨_, rfl, ?_⟩; have n0_ := Aside0.mk (Kd.S_elder' (by (with_reducible repeat (first | apply Kd.S_alloc | apply Kd.S_drewN | apply Kd.S_drew)); exact HO_5.out) (Kd.R_base ho0) hb); have n1_ := Aside0.mk (Kd.R_lower ho0 (below_size (by repeat (first | (with_reducible first | exact HB.out | apply below_alloc | apply pw_below_drewN | apply below_drew1) | exact HB.out)))); have n2_ := Aside0.mk (below_step (by repeat (first | (with_reducible first | exact HB.out | apply below_alloc | apply pw_below_drewN | apply below_drew1) | exact HB.out)) hb); clear HO_5; clear HB; have HO_5 := n0_; have HO209 := n1_; have HB := n2_; clear n0_ n1_ n2_; (try clear hb); (try clear hb2); (try clear hk); (try clear hi); (try clear ho0)) | ((with_reducible refine gate_dst (N := 10) rfl ?_); refine box_event ?hg (N := 10) ?hd (cs := #[.int .i64 0, .slice none 0 0, .int .i64 0, .bool false, .string (⟨#[]⟩ : ByteArray)]) (t := 24) ?hr ?_; (case hd => rfl); (case hg => rfl); (case hr => first | (go_simp; done) | (go_simp; rfl)); intro gb214 hg w21 hbox hb; have n0_ := Aside0.mk (Kd.S_below (Kd.S_elderB (by (with_reducible repeat (first | apply Kd.S_alloc | apply Kd.S_drewN | apply Kd.S_drew)); exact HO_5.out) gb214 (Nat.le_of_eq hg.symm)) hb); have n1_ := Aside0.mk (Kd.R_below (by (with_reducible repeat (first | apply Kd.R_alloc | apply Kd.R_drewN | apply Kd.R_drew)); exact HO209.out) hb); have n2_ := Aside0.mk (below_step (by repeat (first | (with_reducible first | exact HB.out | apply below_alloc | apply pw_below_drewN | apply below_drew1) | exact HB.out)) hb); have n3_ := Aside0.mk (hbox); have n4_ := Aside0.mk ((by rw [hg]; exact (below_size (by repeat (first | (with_reducible first | exact HB.out | apply below_alloc | apply pw_below_drewN | apply below_drew1) | exact HB.out))) : w.heap.size ≤ gb214)); have n5_ := Aside0.mk ((by rw [hg]; exact (below_size (by repeat (first | (with_reducible first | exact HB.out | apply below_alloc | apply pw_below_drewN | apply below_drew1) | exact HB.out))) : w.heap.size ≤ gb214)); clear HO_5; clear HO209; clear HB; have HO_5 := n0_; have HO209 := n1_; have HB := n2_; have BK214 := n3_; have GW214 := n4_; have GE214 := n5_; clear n0_ n1_ n2_ n3_ n4_ n5_; clear hb hbox hg; have hcz22_0 : w21.cell? ⟨gb214, 0, none⟩ = some (.int .i64 0) := (blk_cell BK214.out 0).trans rfl; have hcz22_1 : w21.cell? ⟨gb214, 1, none⟩ = some (.slice none 0 0) := (blk_cell BK214.out 1).trans rfl; have hcz22_2 : w21.cell? ⟨gb214, 2, none⟩ = some (.int .i64 0) := (blk_cell BK214.out 2).trans rfl; have hcz22_3 : w21.cell? ⟨gb214, 3, none⟩ = some (.bool false) := (blk_cell BK214.out 3).trans rfl; have hcz22_4 : w21.cell? ⟨gb214, 4, none⟩ = some (.string (⟨#[]⟩ : ByteArray)) := (blk_cell BK214.out 4).trans rfl; have hfz22_0 := blk_frozen BK214.out 0; have hfz22_1 := blk_frozen BK214.out 1; have hfz22_2 := blk_frozen BK214.out 2; have hfz22_3 := blk_frozen BK214.out 3; have hfz22_4 := blk_frozen BK214.out 4; obtain ⟨Ao23, co23, eo23⟩ := Kd.R_slice HO209.out; subst eo23))
        try (refine scope_strip (fun _ _ _ h_ => h_) ?_; go_wp2)
        try (go_step3; go_wp2)
        go_ret3
        exact ⟨_, by first | rfl | (simp [errW_none, errW_some] <;> rfl) | (simp [*, errW_none, errW_some] <;> rfl), by first | exact Kd.S_nil _ _ _ _ _ | exact Kd.N_nil _ _ _ _ _ | exact Kd.V_nil _ _ _ _ _ | exact Kd.Q_nil _ _ _ _ _ | exact Kd.R_nil _ _ _ _ _, by repeat (first | (with_reducible first | exact HB.out | apply below_alloc | apply pw_below_drewN | apply below_drew1 | refine below_set ?_ GE214.out) | exact HB.out)⟩
def graftageref17_SameTexts.l0 : Nat → List ByteArray → List ByteArray → Int → Option (Bool)
 | 0, _, _, _ => none
 | k + 1, x0, x1, x5 => if x5 < (x0.length : Int) then (if 0 ≤ x5 then (if x5 < (x1.length : Int) then (if (rdOf ByteArray.empty x0 x5).toList = (rdOf ByteArray.empty x1 x5).toList then (graftageref17_SameTexts.l0 k x0 x1 (wrap64 (x5 + 1))) else (some false)) else (none)) else (none)) else (some true)
def graftageref17_SameTexts.f (k : Nat) (l0 : List ByteArray) (l1 : List ByteArray) : Option (Bool) := if (l0.length : Int) = (l1.length : Int) then (graftageref17_SameTexts.l0 k l0 l1 0) else (some false)
set_option maxHeartbeats 8000000 in
set_option maxRecDepth 100000 in
theorem graftageref17_SameTexts.calls (k : Nat) (A0 : Option Addr) (c0 : Nat) (l0 : List ByteArray) (A1 : Option Addr) (c1 : Nat) (l1 : List ByteArray) (r : Bool) (w : World) (hr0 : Kd.C Kd.string w A0 l0.length l0) (hc0 : l0.length ≤ c0) (hr1 : Kd.C Kd.string w A1 l1.length l1) (hc1 : l1.length ≤ c1) (h : graftageref17_SameTexts.f k l0 l1 = some r) :
  Calls Tryd.prog 18 #[.slice A0 l0.length c0, .slice A1 l1.length c1] w fun e w' => e = .returned (.bool r) ∧ Drawn0 w w' := by
 have HR0 := Aside0.mk hr0
 have HC0 := Aside0.mk hc0
 clear hr0 hc0
 have HR1 := Aside0.mk hr1
 have HC1 := Aside0.mk hc1
 clear hr1 hc1
 have H : (if (l0.length : Int) = (l1.length : Int) then (graftageref17_SameTexts.l0 k l0 l1 0) else (some false)) = some r := h
 clear h
 by_cases c3 : (l0.length : Int) = (l1.length : Int)
 ·rw [if_pos c3] at H
  have c3b0 : ((l0.length : Int) == (l1.length : Int)) = true := beq_iff_eq.mpr c3
  have c3b1 : ((l0.length : Int) != (l1.length : Int)) = false := bne_eq_false_iff_eq.mpr c3
  have c3b2 : (l0.length == l1.length) = true := by first | simpa using c3 | (simp at c3 ⊢; omega)
  clear c3
  have H' := Aside0.mk H
  clear H
  go_enter Tryd.func18, Tryd.ntmps18
  go_wp2
  repeat (go_quiet (fail); try go_wp2)
  go_loopg [5] k (fun kq v5 w' => ∃ (x5_1 : Int), v5 = .int .i64 x5_1 ∧ Aside0 (graftageref17_SameTexts.l0 kq l0 l1 x5_1 = some r) ∧ Aside0 (kq ≤ k) ∧ Drawn0 w w')
  case atStart => exact ⟨(0), (by first | rfl | (simp; done) | (simp [*]; done)), H', ⟨Nat.le_refl _⟩, by repeat (first | exact Drawn0.refl _ | apply Drawn0.step)⟩
  case round =>
   clear H'
   try clear c1
   try clear p2
   try clear c3
   try clear c3b0
   try clear c3b1
   try clear c3b2
   obtain ⟨x5_1, rfl, HA, HK1, ⟨m1, rfl⟩⟩ := hrel
   cases gk with
   | zero => exact absurd HA.out (by simp [graftageref17_SameTexts.l0])
   | succ k1 =>
    have H := HA.out
    clear HA
    simp only [graftageref17_SameTexts.l0] at H
    by_cases c4 : x5_1 < (l0.length : Int)
    ·rw [if_pos c4] at H
     have c4b0 : decide (x5_1 < (l0.length : Int)) = true := decide_eq_true c4
     clear c4
     by_cases c5 : 0 ≤ x5_1
     ·rw [if_pos c5] at H
      have c5b0 : decide (0 ≤ x5_1) = true := decide_eq_true c5
      clear c5
      by_cases c6 : x5_1 < (l1.length : Int)
      ·rw [if_pos c6] at H
       have c6b0 : decide (x5_1 < (l1.length : Int)) = true := decide_eq_true c6
       clear c6
       by_cases c7 : (rdOf ByteArray.empty l0 x5_1).toList = (rdOf ByteArray.empty l1 x5_1).toList
       ·rw [if_pos c7] at H
        have c7b0 : ((rdOf ByteArray.empty l0 x5_1).toList == (rdOf ByteArray.empty l1 x5_1).toList) = true := beq_iff_eq.mpr c7
        have c7b1 : ((rdOf ByteArray.empty l0 x5_1).toList != (rdOf ByteArray.empty l1 x5_1).toList) = false := bne_eq_false_iff_eq.mpr c7
        clear c7
        have H' := Aside0.mk H
        clear H
        have p218 : 0 ≤ (x5_1 : Int) := of_decide_eq_true (by first | (with_reducible assumption) | assumption)
        have q218 : x5_1 < (l0.length : Int) := of_decide_eq_true (by first | (with_reducible assumption) | assumption)
        obtain ⟨ad218, e218, hx218_0⟩ := Kd.at_string HR0.out x5_1 p218 q218
        cases e218
        replace p218 := eq_true p218
        replace q218 := eq_true q218
        have p219 : 0 ≤ (x5_1 : Int) := of_decide_eq_true (by first | (with_reducible assumption) | assumption)
        have q219 : x5_1 < (l1.length : Int) := of_decide_eq_true (by first | (with_reducible assumption) | assumption)
        obtain ⟨ad219, e219, hx219_0⟩ := Kd.at_string HR1.out x5_1 p219 q219
        cases e219
        replace p219 := eq_true p219
        replace q219 := eq_true q219
        go_wp2
        repeat (go_quiet (fail); try go_wp2)
        go_roundg k1
        case measure => have := HK1.out; omega
        case rel => exact ⟨(wrap64 (x5_1 + 1)), (by first | rfl | (simp; done) | (simp [*]; done)), H', ⟨by have := HK1.out; omega⟩, by repeat (first | exact Drawn0.refl _ | apply Drawn0.step)⟩
       ·rw [if_neg c7] at H
        have c7b0 : ((rdOf ByteArray.empty l0 x5_1).toList == (rdOf ByteArray.empty l1 x5_1).toList) = false := beq_eq_false_iff_ne.mpr c7
        have c7b1 : ((rdOf ByteArray.empty l0 x5_1).toList != (rdOf ByteArray.empty l1 x5_1).toList) = true := bne_iff_ne.mpr c7
        obtain rfl := Option.some.inj H
        have p218 : 0 ≤ (x5_1 : Int) := of_decide_eq_true (by first | (with_reducible assumption) | assumption)
        have q218 : x5_1 < (l0.length : Int) := of_decide_eq_true (by first | (with_reducible assumption) | assumption)
        obtain ⟨ad218, e218, hx218_0⟩ := Kd.at_string HR0.out x5_1 p218 q218
        cases e218
        replace p218 := eq_true p218
        replace q218 := eq_true q218
        have p219 : 0 ≤ (x5_1 : Int) := of_decide_eq_true (by first | (with_reducible assumption) | assumption)
        have q219 : x5_1 < (l1.length : Int) := of_decide_eq_true (by first | (with_reducible assumption) | assumption)
        obtain ⟨ad219, e219, hx219_0⟩ := Kd.at_string HR1.out x5_1 p219 q219
        cases e219
        replace p219 := eq_true p219
        replace q219 := eq_true q219
        go_wp2
        repeat (go_quiet (fail); try go_wp2)
        go_ret
        exact ⟨by first | rfl | (simp; done) | (simp [*]; done), by repeat (first | exact Drawn0.refl _ | apply Drawn0.step)⟩
      ·rw [if_neg c6] at H
       exact absurd H (by simp)
     ·rw [if_neg c5] at H
      exact absurd H (by simp)
    ·rw [if_neg c4] at H
     have c4b0 : decide (x5_1 < (l0.length : Int)) = false := decide_eq_false c4
     clear c4
     obtain rfl := Option.some.inj H
     go_wp2
     repeat (go_quiet (fail); try go_wp2)
     go_ret
     exact ⟨by first | rfl | (simp; done) | (simp [*]; done), by repeat (first | exact Drawn0.refl _ | apply Drawn0.step)⟩
 ·rw [if_neg c3] at H
  have c3b0 : ((l0.length : Int) == (l1.length : Int)) = false := beq_eq_false_iff_ne.mpr c3
  have c3b1 : ((l0.length : Int) != (l1.length : Int)) = true := bne_iff_ne.mpr c3
  have c3b2 : (l0.length == l1.length) = false := by first | simpa using c3 | (simp at c3 ⊢; omega)
  obtain rfl := Option.some.inj H
  go_enter Tryd.func18, Tryd.ntmps18
  go_wp2
  repeat (go_quiet (fail); try go_wp2)
  go_ret
  exact ⟨by first | rfl | (simp; done) | (simp [*]; done), by repeat (first | exact Drawn0.refl _ | apply Drawn0.step)⟩
end Go.Proofs.YtcmemgahgenpdaaDoor.PSc
end
section
namespace Go.Proofs.YtcmemgahgenpdaaDoor.PSc
open Go.Proofs.YtcmemgahgenpdaaDoor.Hand Go.RowKit Go.Proofs.YtcmemgahgenpdaaDoorW.PrintWords Go.Proofs.YtcmemgahgenpdaaDoorW.PrintLast Go.Proofs.YtcmemgahgenpdaaDoorW.PrintMore
attribute [local go_sem] max2_int min2_int max_two min_two max_three min_three max_four min_four
set_option linter.unusedVariables false
set_option linter.unusedSimpArgs false
end Go.Proofs.YtcmemgahgenpdaaDoor.PSc
end
section
namespace Go.Proofs.YtcmemgahgenpdaaDoor.Hand
open Go.RowKit Go.Proofs.YtcmemgahgenpdaaDoorW.PrintWords Go.Proofs.YtcmemgahgenpdaaDoorW.PrintLast Go.Proofs.YtcmemgahgenpdaaDoorW.PrintMore
set_option linter.unusedVariables false
theorem one_of {a1 : ByteArray} (h : a1.size = 1) : a1 = ⟨#[a1.data.toList.getD 0 0]⟩ := by
  obtain ⟨⟨l⟩⟩ := a1
  match l, h with
  | [c], _ => rfl
end Go.Proofs.YtcmemgahgenpdaaDoor.Hand
end
