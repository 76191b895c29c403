/- For every string and number the plain form of the law PktCuts gives true; no condition beyond the statement's own bounds. -/
import Derived.Test.YtobiejdagfimdaaPurePktTakes
import Derived.Test.YtobiejdagfimdaaPPktx11
namespace Go.Proofs.Ytobiejdagfimdaa.PPkt
open Go.Proofs.Ytobiejdagfimdaa.Hand
open Go.RowKit Go.Proofs.YtobiejdagfimdaaW.PrintWords Go.Proofs.YtobiejdagfimdaaW.PrintLast Go.Proofs.YtobiejdagfimdaaW.PrintMore
set_option linter.unusedVariables false
set_option linter.unusedSimpArgs false

def cutS : Nat → ByteArray → Int → List S24
  | 0, _, _ => []
  | d + 1, s, n => if s.size = 0 then [] else ⟨1, s.extract 0 (mn n s.size).toNat⟩ :: cutS d (s.extract (mn n s.size).toNat s.size) n
theorem mn_range (n : Int) (m : Nat) (h : 1 ≤ n) (hm : 0 < m) : 1 ≤ mn n m ∧ mn n m ≤ m := by unfold mn; split <;> omega
theorem nil_iff (s : ByteArray) : s.toList = ([] : List UInt8) ↔ s.size = 0 := by
  rw [toList_bytes]
  constructor
  · intro h
    show s.data.size = 0
    rw [← Array.length_toList, h]; rfl
  · intro h
    apply List.eq_nil_of_length_eq_zero
    rw [Array.length_toList]; exact h
theorem tail_size (s : ByteArray) (j : Nat) (hj : j ≤ s.size) : (s.extract j s.size).size = s.size - j := by
  rw [size_bytesOf (s.extract j s.size), bytesOf_extract, List.length_take, List.length_drop, bytesOf_length]; omega
theorem cut_l0 (n : Int) (hn : 1 ≤ n) (d : Nat) : ∀ (k : Nat) (s : ByteArray) (acc : List S24), s.size ≤ d → d + 1 ≤ k → acc.length + s.size < 5864062014805 → pkt_Cut.l0 k s n acc = some (acc ++ cutS d s n) := by
  induction d with
  | zero =>
    intro k s acc hs hk ha
    obtain ⟨k, rfl⟩ : ∃ m, k = m + 1 := ⟨k - 1, by omega⟩
    rw [pkt_Cut.l0, if_pos ((nil_iff s).2 (by omega))]
    simp [cutS]
  | succ d ih =>
    intro k s acc hs hk ha
    obtain ⟨k, rfl⟩ : ∃ m, k = m + 1 := ⟨k - 1, by omega⟩
    rw [pkt_Cut.l0, cutS]
    by_cases c : s.size = 0
    · rw [if_pos ((nil_iff s).2 c), if_pos c]; simp
    · have hm := mn_range n s.size hn (by omega)
      have ht := tail_size s (mn n s.size).toNat (by omega)
      rw [if_neg (fun h => c ((nil_iff s).1 h)), if_neg c, if_pos (by omega), if_pos (by omega), if_pos (by omega), ih k _ _ (by omega) (by omega) (by simp; omega)]
      simp
theorem ref_cut_l0 (n : Int) (hn : 1 ≤ n) (d : Nat) : ∀ (k : Nat) (s : ByteArray) (acc : List S24), s.size ≤ d → d + 1 ≤ k → acc.length + s.size < 5864062014805 → graftageref46_Cut.l0 k s n acc = some (acc ++ cutS d s n) := by
  induction d with
  | zero =>
    intro k s acc hs hk ha
    obtain ⟨k, rfl⟩ : ∃ m, k = m + 1 := ⟨k - 1, by omega⟩
    rw [graftageref46_Cut.l0, if_pos ((nil_iff s).2 (by omega))]
    simp [cutS]
  | succ d ih =>
    intro k s acc hs hk ha
    obtain ⟨k, rfl⟩ : ∃ m, k = m + 1 := ⟨k - 1, by omega⟩
    rw [graftageref46_Cut.l0, cutS]
    by_cases c : s.size = 0
    · rw [if_pos ((nil_iff s).2 c), if_pos c]; simp
    · have hm := mn_range n s.size hn (by omega)
      have ht := tail_size s (mn n s.size).toNat (by omega)
      rw [if_neg (fun h => c ((nil_iff s).1 h)), if_neg c, if_pos (by omega), if_pos (by omega), if_pos (by omega), ih k _ _ (by omega) (by omega) (by simp; omega)]
      simp
theorem cutS_length (n : Int) (hn : 1 ≤ n) (d : Nat) : ∀ s : ByteArray, (cutS d s n).length ≤ s.size := by
  induction d with
  | zero => intro s; simp [cutS]
  | succ d ih =>
    intro s
    unfold cutS
    by_cases c : s.size = 0
    · rw [if_pos c]; simp
    · have hm := mn_range n s.size hn (by omega)
      have ht := tail_size s (mn n s.size).toNat (by omega)
      have := ih (s.extract (mn n s.size).toNat s.size)
      rw [if_neg c]; simp; omega
def cutN (n : Int) : Int := mx 1 (mn n 65516)
theorem cutN_range (n : Int) : 1 ≤ cutN n ∧ cutN n ≤ 65516 := by unfold cutN mx mn; split <;> split <;> omega
theorem cutN_ref (n : Int) : mn (mx n 1) 65516 = cutN n := by unfold cutN mx mn; split <;> split <;> (try split) <;> (try split) <;> omega
theorem Cut_eq (s : ByteArray) (n : Int) (hs : s.size < 5864062014805) (k : Nat) (hk : s.size + 1 ≤ k) : pkt_Cut.f k s n = some (cutS s.size s (cutN n)) := by
  show pkt_Cut.l0 k s (cutN n) [] = _
  have := cut_l0 (cutN n) (cutN_range n).1 s.size k s [] (by omega) hk (by simpa using hs)
  simpa using this
theorem ref_Cut_eq (s : ByteArray) (n : Int) (hs : s.size < 5864062014805) (k : Nat) (hk : s.size + 1 ≤ k) : graftageref46_Cut.f k s n = some (cutS s.size s (cutN n)) := by
  unfold graftageref46_Cut.f
  rw [cutN_ref]
  have := ref_cut_l0 (cutN n) (cutN_range n).1 s.size k s [] (by omega) hk (by simpa using hs)
  simpa using this
end Go.Proofs.Ytobiejdagfimdaa.PPkt
namespace Go.Proofs.Ytobiejdagfimdaa.Pure
open Go.Proofs.Ytobiejdagfimdaa.Hand Go.Proofs.Ytobiejdagfimdaa.PPkt
open Go.RowKit Go.Proofs.YtobiejdagfimdaaW.PrintWords Go.Proofs.YtobiejdagfimdaaW.PrintLast Go.Proofs.YtobiejdagfimdaaW.PrintMore
set_option linter.unusedVariables false
set_option linter.unusedSimpArgs false
theorem cuts_j0 (s : ByteArray) (n : Int) (b : Bool) (hs : b = true ∨ s.size ≤ 100000) : graftagelaw46_PktCuts.j0 (s.size + 61) s n b = some true := by
  rw [graftagelaw46_PktCuts.j0, lives_f _ (by omega)]
  by_cases c : b = true
  · rw [if_pos c]; rfl
  · have hz : s.size ≤ 100000 := by rcases hs with h | h; exact absurd h c; exact h
    have hl := cutS_length (cutN n) (cutN_range n).1 s.size s
    rw [if_neg c, Cut_eq s n (by omega) _ (by omega), ref_Cut_eq s n (by omega) _ (by omega)]
    simp only [Option.bind_some]
    rw [same_self _ (by omega) _ (by omega)]
    rfl
theorem PktCuts : graftagelaw46_PktCuts.Pure := by
  intro s n _ _
  refine ⟨s.size + 61, ?_⟩
  unfold graftagelaw46_PktCuts.f
  by_cases c : (s.size : Int) > 100000
  · rw [if_pos c]; exact cuts_j0 s n true (Or.inl rfl)
  have hz : s.size ≤ 100000 := by omega
  rw [if_neg c]
  by_cases c2 : n > 0
  · rw [if_pos c2, if_neg (by omega)]
    by_cases c3 : wrap64 ((s.size : Int) / n) > 2000
    · rw [if_pos c3]; exact cuts_j0 s n _ (Or.inr hz)
    · rw [if_neg c3, if_neg (by omega)]; exact cuts_j0 s n _ (Or.inr hz)
  · rw [if_neg c2, if_pos (by omega)]; exact cuts_j0 s n _ (Or.inr hz)
end Go.Proofs.Ytobiejdagfimdaa.Pure
