/- pkt.Put, Lines, Join, Few and the reference's: all are plain functions of the list. -/
import Derived.Test.YtobiejdagfimdaaPurePktCuts
import Derived.Test.YtobiejdagfimdaaPPktx4
import Derived.Test.YtobiejdagfimdaaPPktx6
import Derived.Test.YtobiejdagfimdaaPPktx8
import Derived.Test.YtobiejdagfimdaaPPktx9
import Derived.Test.YtobiejdagfimdaaPPktx10
import Derived.Test.YtobiejdagfimdaaPPktx11
namespace Go.Proofs.Ytobiejdagfimdaa.PPkt
open Go.Proofs.Ytobiejdagfimdaa.Hand
open Go.RowKit Go.Proofs.YtobiejdagfimdaaW.PrintWords Go.Proofs.YtobiejdagfimdaaW.PrintLast Go.Proofs.YtobiejdagfimdaaW.PrintMore
set_option linter.unusedVariables false
set_option linter.unusedSimpArgs false

def dataL : List S24 → Nat
  | [] => 0
  | p :: l => p.f1.size + dataL l
theorem drop_cons (l : List S24) (i : Int) (h0 : 0 ≤ i) (h : i < l.length) : l.drop i.toNat = rd_T24 l i :: l.drop (i + 1).toNat := by
  have := drop_rd l i.toNat (by omega)
  rw [show (i + 1).toNat = i.toNat + 1 by omega, this, Int.toNat_of_nonneg h0]
theorem rd_mem (l : List S24) (i : Int) (h0 : 0 ≤ i) (h : i < l.length) : rd_T24 l i ∈ l :=
  List.mem_of_mem_drop (i := i.toNat) (by rw [drop_cons l i h0 h]; exact List.mem_cons_self ..)
theorem dataL_drop (l : List S24) (i : Int) (h0 : 0 ≤ i) (h : i < l.length) : dataL (l.drop i.toNat) = (rd_T24 l i).f1.size + dataL (l.drop (i + 1).toNat) := by
  rw [drop_cons l i h0 h]; rfl

/-- Few answers, and where it says yes the list is small. -/
theorem few_l0 (x : List S24) (hx : x.length ≤ 9223372036854770000) (m : Int) (hm : m ≤ 1000000) (hz : ∀ p ∈ x, p.f1.size ≤ 140737488355328) (d : Nat) : ∀ (k : Nat) (n i : Int), d + 1 ≤ k → 0 ≤ i → (x.length : Int) - i = d → 0 ≤ n → n ≤ m →
    ∃ b, graftageref46_Few.l0 k x m n x.length i = some b ∧ (b = true → x.length ≤ 300 ∧ n + dataL (x.drop i.toNat) ≤ m) := by
  induction d with
  | zero =>
    intro k n i hk h0 h1 h2 h3
    obtain ⟨k, rfl⟩ : ∃ m, k = m + 1 := ⟨k - 1, by omega⟩
    rw [graftageref46_Few.l0, if_neg (by omega)]
    refine ⟨_, rfl, fun h => ?_⟩
    have := of_decide_eq_true h
    rw [List.drop_eq_nil_of_le (by omega)]
    exact ⟨by omega, by simp [dataL]; omega⟩
  | succ d ih =>
    intro k n i hk h0 h1 h2 h3
    obtain ⟨k, rfl⟩ : ∃ m, k = m + 1 := ⟨k - 1, by omega⟩
    have hp := hz _ (rd_mem x i h0 (by omega))
    rw [graftageref46_Few.l0, if_pos (by omega), if_pos h0, if_pos (by omega), wrap64_id (by omega) (by omega), wrap64_id (by omega) (by omega)]
    split
    · exact ⟨false, rfl, fun h => by cases h⟩
    · obtain ⟨b, hb, hc⟩ := ih k (n + ((rd_T24 x i).f1.size : Int)) (i + 1) (by omega) (by omega) (by omega) (by omega) (by omega)
      refine ⟨b, hb, fun h => ⟨(hc h).1, ?_⟩⟩
      have := (hc h).2
      rw [dataL_drop x i h0 (by omega)]
      push_cast
      omega
theorem few_f (x : List S24) (hx : x.length ≤ 9223372036854770000) (m : Int) (hm0 : 0 ≤ m) (hm : m ≤ 1000000) (hz : ∀ p ∈ x, p.f1.size ≤ 140737488355328) (k : Nat) (hk : x.length + 1 ≤ k) : ∃ b, graftageref46_Few.f k x m = some b ∧ (b = true → x.length ≤ 300 ∧ (dataL x : Int) ≤ m) := by
  obtain ⟨b, hb, h⟩ := few_l0 x hx m hm hz x.length k 0 0 (by omega) (by omega) (by omega) (by omega) hm0
  refine ⟨b, hb, fun hh => ⟨(h hh).1, ?_⟩⟩
  have := (h hh).2
  simpa using this

/-! One piece -/
def dig (n : Int) : Int := bt (⟨#[48, 49, 50, 51, 52, 53, 54, 55, 56, 57, 97, 98, 99, 100, 101, 102]⟩ : ByteArray) n
def hex4 (n : Int) : ByteArray := strOfNums [dig (n / 4096 % 16), dig (n / 256 % 16), dig (n / 16 % 16), dig (n % 16)]
theorem hex4_size (n : Int) : (hex4 n).size = 4 := by unfold hex4; rw [strOfNums_size]; rfl
theorem and15 (x : Int) (h0 : 0 ≤ x) (h1 : x < 4294967296) : Go.bits .and .i64 x 15 = x % 16 :=
  bits_mask .i64 62 (by decide) (fun n h0 h1 => by rw [IntKind.wrap_i64]; simp at h1; omega) 4 (by decide) x h0 (by simp; omega)
theorem head_eq (n : Int) (h0 : 0 ≤ n) (h1 : n < 4294967296) : pkt_head.f n = some (hex4 n) := by
  unfold pkt_head.f hex4 dig
  rw [and15 (n / 4096) (by omega) (by omega), and15 (n / 256) (by omega) (by omega), and15 (n / 16) (by omega) (by omega), and15 n (by omega) (by omega),
    if_pos (by omega), if_pos (by omega), if_pos (by omega), if_pos (by omega), if_pos (by omega), if_pos (by omega), if_pos (by omega), if_pos (by omega)]
theorem four_eq (n : Int) (h0 : 0 ≤ n) (h1 : n < 4294967296) : graftageref46_four.f n = some (hex4 n) := by
  unfold graftageref46_four.f hex4 dig
  rw [Int.tdiv_eq_ediv_of_nonneg h0, Int.tdiv_eq_ediv_of_nonneg h0, Int.tdiv_eq_ediv_of_nonneg h0, wrap64_id (n := n / 4096) (by omega) (by omega), wrap64_id (n := n / 256) (by omega) (by omega), wrap64_id (n := n / 16) (by omega) (by omega),
    Int.tmod_eq_emod_of_nonneg (a := n / 4096) (by omega), Int.tmod_eq_emod_of_nonneg (a := n / 256) (by omega), Int.tmod_eq_emod_of_nonneg (a := n / 16) (by omega), Int.tmod_eq_emod_of_nonneg h0,
    if_pos (by omega), if_pos (by omega), if_pos (by omega), if_pos (by omega), if_pos (by omega), if_pos (by omega), if_pos (by omega), if_pos (by omega)]

def MayP (p : S24) : Prop := (p.f0 = 1 ∧ 1 ≤ p.f1.size ∧ p.f1.size ≤ 65516) ∨ ((p.f0 = 2 ∨ p.f0 = 3) ∧ p.f1.size = 0)
instance (p : S24) : Decidable (MayP p) := by unfold MayP; infer_instance
theorem MayP_iff (p : S24) : MayP p ↔ ((p.f0 = 1 ∧ 1 ≤ p.f1.size ∧ p.f1.size ≤ 65516) ∨ ((p.f0 = 2 ∨ p.f0 = 3) ∧ p.f1.size = 0)) := Iff.rfl
def lenP (p : S24) : Int := if p.f0 = 2 then 0 else if p.f0 = 3 then 1 else (p.f1.size : Int) + 4
def oneP (p : S24) : ByteArray := hex4 (lenP p) ++ p.f1
theorem oneP_size (p : S24) : (oneP p).size = 4 + p.f1.size := by unfold oneP; rw [size_append, hex4_size]
theorem nil_beq (s : ByteArray) : (s.toList == ([] : List UInt8)) = decide (s.size = 0) := by
  rw [Bool.eq_iff_iff, beq_iff_eq, nil_iff, decide_eq_true_iff]
theorem empty_of (s : ByteArray) (h : s.size = 0) : s = ⟨#[]⟩ := by
  apply bytesOf_inj
  rw [bytesOf_empty]
  exact List.eq_nil_of_length_eq_zero (by rw [bytesOf_length]; exact h)
theorem may_eq (p : S24) : graftageref46_May.f p.f0 p.f1 = some (decide (MayP p)) := by
  unfold graftageref46_May.f
  rw [nil_beq]
  by_cases c1 : p.f0 = 1
  · rw [if_pos c1]
    by_cases c2 : (p.f1.size : Int) ≥ 1
    · rw [if_pos c2]; congr 1; rw [decide_eq_decide, MayP_iff]; omega
    · rw [if_neg c2]; congr 1; symm; rw [decide_eq_false_iff_not, MayP_iff]; omega
  rw [if_neg c1]
  by_cases c2 : p.f0 = 2
  · rw [if_pos c2]; congr 1; rw [decide_eq_decide, MayP_iff]; omega
  rw [if_neg c2]
  by_cases c3 : p.f0 = 3
  · rw [if_pos c3]; congr 1; rw [decide_eq_decide, MayP_iff]; omega
  rw [if_neg c3]; congr 1; symm; rw [decide_eq_false_iff_not, MayP_iff]; omega
theorem hex4_0 : hex4 0 = ⟨#[48, 48, 48, 48]⟩ := by decide +kernel
theorem hex4_1 : hex4 1 = ⟨#[48, 48, 48, 49]⟩ := by decide +kernel
theorem one_j0 (k : Nat) (p : S24) (hz : p.f1.size ≤ 140737488355328) (b : Bool) (hb : b = decide (p.f0 = 1 ∧ 1 ≤ p.f1.size ∧ p.f1.size ≤ 65516)) : pkt_one.j0 (k + 2) b p.f0 p.f1 = some (if MayP p then (oneP p, true) else (⟨#[]⟩, false)) := by
  rw [pkt_one.j0]
  subst hb
  by_cases c : p.f0 = 1 ∧ 1 ≤ p.f1.size ∧ p.f1.size ≤ 65516
  · rw [if_pos (decide_eq_true c), wrap64_id (by omega) (by omega), head_eq _ (by omega) (by omega)]
    simp only [Option.bind_some]
    rw [hex4_size, if_pos (by omega), if_pos (show MayP p from Or.inl c)]
    unfold oneP lenP
    rw [if_neg (by omega), if_neg (by omega)]
  · rw [if_neg (by simpa using c), nil_beq]
    by_cases c2 : p.f0 = 2
    · rw [if_pos c2, pkt_one.j1]
      by_cases c3 : p.f1.size = 0
      · rw [if_pos (decide_eq_true c3), if_pos (show MayP p from Or.inr ⟨Or.inl c2, c3⟩)]
        unfold oneP lenP
        rw [if_pos c2, empty_of _ c3, hex4_0]; rfl
      · rw [if_neg (by simpa using c3), if_neg (by omega), if_neg (by rw [MayP_iff]; omega)]
    · rw [if_neg c2, pkt_one.j1, if_neg (by decide)]
      by_cases c3 : p.f0 = 3
      · rw [if_pos c3]
        by_cases c4 : p.f1.size = 0
        · rw [if_pos ((nil_iff _).2 c4), if_pos (show MayP p from Or.inr ⟨Or.inr c3, c4⟩)]
          unfold oneP lenP
          rw [if_neg c2, if_pos c3, empty_of _ c4, hex4_1]; rfl
        · rw [if_neg (fun h => c4 ((nil_iff _).1 h)), if_neg (by rw [MayP_iff]; omega)]
      · rw [if_neg c3, if_neg (by rw [MayP_iff]; omega)]
theorem one_eq (p : S24) (hz : p.f1.size ≤ 140737488355328) : pkt_one.f 5 p.f0 p.f1 = some (if MayP p then (oneP p, true) else (⟨#[]⟩, false)) := by
  unfold pkt_one.f
  by_cases c1 : p.f0 = 1
  · rw [if_pos c1]
    by_cases c2 : (p.f1.size : Int) ≥ 1
    · rw [if_pos c2]; exact one_j0 3 p hz _ (by rw [decide_eq_decide]; omega)
    · rw [if_neg c2]; exact one_j0 3 p hz _ (by symm; rw [decide_eq_false_iff_not]; omega)
  · rw [if_neg c1]; exact one_j0 3 p hz _ (by symm; rw [decide_eq_false_iff_not]; omega)

/-! Put -/
def putQ : List S24 → ByteArray × Int
  | [] => (⟨#[]⟩, 0)
  | p :: l => if MayP p ∧ (putQ l).2 = 0 then (oneP p ++ (putQ l).1, 0) else (⟨#[]⟩, 1)
theorem putQ_ok (p : S24) (l : List S24) (h1 : MayP p) (h2 : (putQ l).2 = 0) : putQ (p :: l) = (oneP p ++ (putQ l).1, 0) := by rw [putQ, if_pos ⟨h1, h2⟩]
theorem putQ_bad (p : S24) (l : List S24) (h : ¬(MayP p ∧ (putQ l).2 = 0)) : putQ (p :: l) = (⟨#[]⟩, 1) := by rw [putQ, if_neg h]
theorem size_0 : (⟨#[]⟩ : ByteArray).size = 0 := rfl
theorem putQ_size (l : List S24) : (putQ l).1.size ≤ dataL l + 4 * l.length := by
  induction l with
  | nil => exact Nat.zero_le _
  | cons p l ih =>
    unfold putQ
    split
    · simp only [dataL, List.length_cons]; rw [size_append, oneP_size]; omega
    · exact Nat.zero_le _
theorem app_empty (b : ByteArray) : b ++ (⟨#[]⟩ : ByteArray) = b := bytesOf_inj (by rw [bytesOf_append, bytesOf_empty, List.append_nil])
theorem putL_eq (l : List S24) : ∀ b : ByteArray, b.size + dataL l + 4 * l.length ≤ 140737488355328 → putL l b = some (if (putQ l).2 = 0 then (b ++ (putQ l).1, 0) else (⟨#[]⟩, 1)) := by
  induction l with
  | nil => intro b _; simp only [putL, putQ, if_true]; rw [app_empty]
  | cons p l ih =>
    intro b h
    simp only [dataL, List.length_cons] at h
    rw [putL, one_eq p (by omega)]
    simp only [Option.bind_some]
    by_cases c : MayP p
    · rw [if_pos c]
      simp only [if_true]
      rw [oneP_size, if_pos (by omega), ih _ (by rw [size_append, oneP_size]; omega)]
      by_cases c2 : (putQ l).2 = 0
      · rw [if_pos c2, putQ_ok p l c c2, if_pos rfl, append_assoc]
      · rw [if_neg c2, putQ_bad p l (fun h => c2 h.2)]; rfl
    · rw [if_neg c]
      simp only [Bool.false_eq_true, if_false]
      rw [putQ_bad p l (fun h => c h.1)]; rfl
theorem putQ_err (l : List S24) (h : (putQ l).2 ≠ 0) : putQ l = (⟨#[]⟩, 1) := by
  cases l with
  | nil => exact absurd rfl h
  | cons p l =>
    unfold putQ at h ⊢
    split at h
    · exact absurd rfl h
    · rename_i c; rw [if_neg c]
theorem empty_app (b : ByteArray) : (⟨#[]⟩ : ByteArray) ++ b = b := bytesOf_inj (by rw [bytesOf_append, bytesOf_empty, List.nil_append])
theorem Put_eq (l : List S24) (h : dataL l + 4 * l.length ≤ 140737488355328) : pkt_Put.f l = some (putQ l) := by
  unfold pkt_Put.f
  rw [if_pos (by omega), putL_eq l _ (by rw [size_0]; omega), empty_app]
  by_cases c : (putQ l).2 = 0
  · rw [if_pos c]; exact congrArg some (Prod.ext rfl c.symm)
  · rw [if_neg c, putQ_err l c]
theorem ref_put_l0 (x : List S24) (hx : x.length ≤ 1000000000) (d : Nat) : ∀ (k : Nat) (b : List Int) (i : Int), d + 1 ≤ k → 0 ≤ i → (x.length : Int) - i = d → b.length + dataL (x.drop i.toNat) + 4 * d < 140737488355328 →
    graftageref46_Put.l0 k x b x.length i = some (if (putQ (x.drop i.toNat)).2 = 0 then (strOfNums (b ++ bytesOf (putQ (x.drop i.toNat)).1), 0) else (⟨#[]⟩, 1)) := by
  induction d with
  | zero =>
    intro k b i hk h0 h1 h2
    obtain ⟨k, rfl⟩ : ∃ m, k = m + 1 := ⟨k - 1, by omega⟩
    rw [graftageref46_Put.l0, if_neg (by omega), List.drop_eq_nil_of_le (by omega)]
    simp [putQ, bytesOf_empty]
  | succ d ih =>
    intro k b i hk h0 h1 h2
    obtain ⟨k, rfl⟩ : ∃ m, k = m + 1 := ⟨k - 1, by omega⟩
    have hd := drop_cons x i h0 (by omega)
    have hs := dataL_drop x i h0 (by omega)
    rw [graftageref46_Put.l0, if_pos (by omega), if_pos h0, if_pos (by omega), hd]
    generalize rd_T24 x i = p at *
    rw [hs] at h2
    have hone : bytesOf (oneP p) = bytesOf (hex4 (lenP p)) ++ bytesOf p.f1 := by unfold oneP; rw [bytesOf_append]
    have go : ∀ n, n = lenP p → MayP p → ((some (hex4 n)).bind fun t => if b.length + t.size < 140737488355328 then ((some (b ++ bytesOf t : List Int)).bind fun y => if y.length + p.f1.size < 140737488355328 then graftageref46_Put.l0 k x (y ++ bytesOf p.f1) x.length (wrap64 (i + 1)) else none) else none)
        = some (if (putQ (p :: x.drop (i + 1).toNat)).2 = 0 then (strOfNums (b ++ bytesOf (putQ (p :: x.drop (i + 1).toNat)).1), 0) else (⟨#[]⟩, 1)) := by
      intro n hn hm
      subst hn
      simp only [Option.bind_some]
      have hl : (bytesOf (hex4 (lenP p))).length = 4 := by rw [bytesOf_length, hex4_size]
      rw [hex4_size, if_pos (by omega), if_pos (by rw [List.length_append, hl]; omega), wrap64_id (by omega) (by omega),
        ih k _ (i + 1) (by omega) (by omega) (by omega) (by rw [List.length_append, List.length_append, hl, bytesOf_length]; omega)]
      by_cases c2 : (putQ (x.drop (i + 1).toNat)).2 = 0
      · rw [if_pos c2, putQ_ok p _ hm c2, if_pos rfl, bytesOf_append, hone]; simp only [List.append_assoc]
      · rw [if_neg c2, putQ_bad p _ (fun h => c2 h.2)]; rfl
    rw [may_eq]
    simp only [Option.bind_some] at go ⊢
    by_cases c : MayP p
    · rw [if_pos (decide_eq_true c)]
      by_cases c2 : p.f0 = 2
      · rw [if_pos c2, if_neg (by omega), four_eq 0 (by omega) (by omega)]
        simp only [Option.bind_some]
        exact go 0 (by unfold lenP; rw [if_pos c2]) c
      rw [if_neg c2]
      by_cases c3 : p.f0 = 3
      · rw [if_pos c3, four_eq 1 (by omega) (by omega)]
        simp only [Option.bind_some]
        exact go 1 (by unfold lenP; rw [if_neg c2, if_pos c3]) c
      have : p.f1.size ≤ 65516 := by rw [MayP_iff] at c; omega
      rw [if_neg c3, wrap64_id (by omega) (by omega), four_eq _ (by omega) (by omega)]
      simp only [Option.bind_some]
      exact go _ (by unfold lenP; rw [if_neg c2, if_neg c3]) c
    · rw [if_neg (by simpa using c), putQ_bad p _ (fun h => c h.1)]; rfl
theorem ref_Put_eq (l : List S24) (hl : l.length ≤ 1000000000) (h : dataL l + 4 * l.length < 140737488355328) (k : Nat) (hk : l.length + 1 ≤ k) : graftageref46_Put.f k l = some (putQ l) := by
  unfold graftageref46_Put.f
  rw [ref_put_l0 l hl l.length k [] 0 (by omega) (by omega) (by omega) (by simpa using h)]
  simp only [Int.toNat_zero, List.drop_zero, List.nil_append]
  by_cases c : (putQ l).2 = 0
  · rw [if_pos c, str_bytesOf]; exact congrArg some (Prod.ext rfl c.symm)
  · rw [if_neg c, putQ_err l c]

/-! Lines -/
def trimP (d : ByteArray) : ByteArray := if d.size = 0 then d else if bt d ((d.size : Int) - 1) = 10 then d.extract 0 (d.size - 1) else d
def linesQ : List S24 → List ByteArray × Bool
  | [] => ([], false)
  | p :: l => if p.f0 = 2 then ([], true) else if p.f0 = 1 then (if (linesQ l).2 = true then (trimP p.f1 :: (linesQ l).1, true) else ([], false)) else ([], false)
theorem trim_eq (d : ByteArray) (h : d.size ≤ 9223372036854775807) : strings_TrimSuffix.f d ⟨#[10]⟩ = some (trimP d) := by
  unfold strings_TrimSuffix.f
  rw [if_pos h]
  congr 1
  unfold Lib.trimSuffix trimP Lib.hasSuffix
  have hsz : d.data.toList.length = d.size := by rw [Array.length_toList]; rfl
  have hx : ∀ l : List UInt8, bytesOf ⟨l.toArray⟩ = l.map fun b => (b.toNat : Int) := fun l => by simp [bytesOf]
  by_cases c0 : d.size = 0
  · rw [if_pos c0, empty_of d c0]; decide +kernel
  rw [if_neg c0]
  have hlast : bt d ((d.size : Int) - 1) = ((d.data.toList[d.size - 1]'(by omega)).toNat : Int) := by
    rw [getD_bt d _ (by omega), show ((d.size : Int) - 1).toNat = d.size - 1 by omega, List.getD_eq_getElem?_getD, List.getElem?_eq_getElem (by rw [bytesOf_length]; omega), Option.getD_some]
    simp [bytesOf]
  have hsuf : ([10] : List UInt8).isSuffixOf d.data.toList = decide (bt d ((d.size : Int) - 1) = 10) := by
    rw [hlast, Bool.eq_iff_iff, List.isSuffixOf_iff_suffix, decide_eq_true_iff]
    rw [List.suffix_iff_eq_drop]
    simp only [List.length_cons, List.length_nil, Nat.zero_add, hsz]
    rw [List.drop_eq_getElem_cons (by omega)]
    rw [List.drop_eq_nil_of_le (by omega)]
    simp only [List.cons.injEq, and_true]
    constructor
    · intro h; rw [← h]; rfl
    · intro h
      apply UInt8.toNat_inj.1
      show 10 = _
      have : (10 : Int) = ((d.data.toList[d.size - 1]'(by omega)).toNat : Int) := h.symm
      omega
  show (⟨(if ([10] : List UInt8).isSuffixOf d.data.toList = true then d.data.toList.take (d.data.toList.length - 1) else d.data.toList).toArray⟩ : ByteArray) = _
  rw [hsuf]
  by_cases c : bt d ((d.size : Int) - 1) = 10
  · rw [if_pos (decide_eq_true c), if_pos c, hsz]
    apply bytesOf_inj
    rw [hx, bytesOf_extract]
    simp [bytesOf, List.map_take]
  · rw [if_neg (by simpa using c), if_neg c]
theorem lines_l0 (x : List S24) (hx : x.length ≤ 1000000000) (hz : ∀ p ∈ x, p.f1.size ≤ 140737488355328) (d : Nat) : ∀ (k : Nat) (acc : List ByteArray) (i : Int), d + 1 ≤ k → 0 ≤ i → (x.length : Int) - i = d → acc.length + d < 8796093022208 →
    pkt_Lines.l0 k acc false x x.length i = some (if (linesQ (x.drop i.toNat)).2 = true then (acc ++ (linesQ (x.drop i.toNat)).1, true) else ([], false)) := by
  induction d with
  | zero =>
    intro k acc i hk h0 h1 h2
    obtain ⟨k, rfl⟩ : ∃ m, k = m + 1 := ⟨k - 1, by omega⟩
    rw [pkt_Lines.l0, if_neg (by omega), List.drop_eq_nil_of_le (by omega)]
    simp [linesQ]
  | succ d ih =>
    intro k acc i hk h0 h1 h2
    obtain ⟨k, rfl⟩ : ∃ m, k = m + 1 := ⟨k - 1, by omega⟩
    have hp := hz _ (rd_mem x i h0 (by omega))
    rw [pkt_Lines.l0, if_pos (by omega), if_pos h0, if_pos (by omega), drop_cons x i h0 (by omega), trim_eq _ (by omega), linesQ]
    simp only [Option.bind_some]
    split
    · simp
    · split
      · rw [if_pos (by omega), wrap64_id (by omega) (by omega), ih k _ (i + 1) (by omega) (by omega) (by omega) (by simp; omega)]
        by_cases c : (linesQ (x.drop (i + 1).toNat)).2 = true
        · rw [if_pos c, if_pos c]; simp
        · rw [if_neg c, if_neg c]; simp
      · simp
theorem ref_lines_l0 (x : List S24) (hx : x.length ≤ 1000000000) (hz : ∀ p ∈ x, p.f1.size ≤ 140737488355328) (d : Nat) : ∀ (k : Nat) (acc : List ByteArray) (i : Int), d + 1 ≤ k → 0 ≤ i → (x.length : Int) - i = d → acc.length + d < 8796093022208 →
    graftageref46_Lines.l0 k x acc x.length i = some (if (linesQ (x.drop i.toNat)).2 = true then (acc ++ (linesQ (x.drop i.toNat)).1, true) else ([], false)) := by
  induction d with
  | zero =>
    intro k acc i hk h0 h1 h2
    obtain ⟨k, rfl⟩ : ∃ m, k = m + 1 := ⟨k - 1, by omega⟩
    rw [graftageref46_Lines.l0, if_neg (by omega), List.drop_eq_nil_of_le (by omega)]
    simp [linesQ]
  | succ d ih =>
    intro k acc i hk h0 h1 h2
    obtain ⟨k, rfl⟩ : ∃ m, k = m + 1 := ⟨k - 1, by omega⟩
    have hp := hz _ (rd_mem x i h0 (by omega))
    rw [graftageref46_Lines.l0, if_pos (by omega), if_pos h0, if_pos (by omega), drop_cons x i h0 (by omega), linesQ]
    generalize rd_T24 x i = p at *
    have go : ∀ t, t = trimP p.f1 → (if acc.length < 8796093022208 then graftageref46_Lines.l0 k x (acc ++ [t]) x.length (wrap64 (i + 1)) else none)
        = some (if (if (linesQ (x.drop (i + 1).toNat)).2 = true then (trimP p.f1 :: (linesQ (x.drop (i + 1).toNat)).1, true) else ([], false)).2 = true then (acc ++ (if (linesQ (x.drop (i + 1).toNat)).2 = true then (trimP p.f1 :: (linesQ (x.drop (i + 1).toNat)).1, true) else ([], false)).1, true) else ([], false)) := by
      intro t ht
      subst ht
      rw [if_pos (by omega), wrap64_id (by omega) (by omega), ih k _ (i + 1) (by omega) (by omega) (by omega) (by simp; omega)]
      by_cases c : (linesQ (x.drop (i + 1).toNat)).2 = true
      · rw [if_pos c, if_pos c]; simp
      · rw [if_neg c, if_neg c]; simp
    by_cases c1 : p.f0 = 2
    · rw [if_pos c1, if_pos c1]; simp
    rw [if_neg c1, if_neg c1]
    by_cases c2 : p.f0 = 1
    · rw [if_pos c2, if_pos c2]
      by_cases c3 : p.f1.size = 0
      · rw [if_pos ((nil_iff _).2 c3)]
        exact go _ (by unfold trimP; rw [if_pos c3])
      · rw [if_neg (fun h => c3 ((nil_iff _).1 h)), wrap64_id (n := (p.f1.size : Int) - 1) (by omega) (by omega), if_pos (by omega), if_pos (by omega)]
        by_cases c4 : bt p.f1 ((p.f1.size : Int) - 1) = 10
        · rw [if_pos c4, if_pos (by omega)]
          exact go _ (by unfold trimP; rw [if_neg c3, if_pos c4]; congr 1; omega)
        · rw [if_neg c4]
          exact go _ (by unfold trimP; rw [if_neg c3, if_neg c4])
    · rw [if_neg c2, if_neg c2]; simp
theorem linesQ_err (l : List S24) (h : (linesQ l).2 ≠ true) : linesQ l = ([], false) := by
  cases l with
  | nil => rfl
  | cons p l =>
    unfold linesQ at h ⊢
    split at h
    · exact absurd rfl h
    · rename_i c; rw [if_neg c]
      split at h
      · rename_i c; rw [if_pos c]
        split at h
        · exact absurd rfl h
        · rename_i c; rw [if_neg c]
      · rename_i c; rw [if_neg c]
theorem lines_fin (l : List S24) : (if (linesQ l).2 = true then (([] : List ByteArray) ++ (linesQ l).1, true) else ([], false)) = linesQ l := by
  by_cases c : (linesQ l).2 = true
  · rw [if_pos c, List.nil_append]; exact Prod.ext rfl c.symm
  · rw [if_neg c, linesQ_err l c]
theorem Lines_eq (l : List S24) (hl : l.length ≤ 1000000000) (hz : ∀ p ∈ l, p.f1.size ≤ 140737488355328) (k : Nat) (hk : l.length + 1 ≤ k) : pkt_Lines.f k l = some (linesQ l) := by
  unfold pkt_Lines.f
  rw [lines_l0 l hl hz l.length k [] 0 (by omega) (by omega) (by omega) (by simp; omega), Int.toNat_zero, List.drop_zero, lines_fin]
theorem ref_Lines_eq (l : List S24) (hl : l.length ≤ 1000000000) (hz : ∀ p ∈ l, p.f1.size ≤ 140737488355328) (k : Nat) (hk : l.length + 1 ≤ k) : graftageref46_Lines.f k l = some (linesQ l) := by
  unfold graftageref46_Lines.f
  rw [ref_lines_l0 l hl hz l.length k [] 0 (by omega) (by omega) (by omega) (by simp; omega), Int.toNat_zero, List.drop_zero, lines_fin]
theorem linesQ_length (l : List S24) : (linesQ l).1.length ≤ l.length := by
  induction l with
  | nil => simp [linesQ]
  | cons p l ih =>
    unfold linesQ
    split
    · simp
    · split
      · split
        · simp; omega
        · simp
      · simp

/-! Join -/
theorem joinL_dataL (l : List S24) : ∀ b : ByteArray, (joinL l b).size ≤ b.size + dataL l := by
  induction l with
  | nil => intro b; simp [joinL, dataL]
  | cons p l ih =>
    intro b
    simp only [joinL, dataL]
    have := ih (if p.f0 = 1 then b ++ p.f1 else b)
    split at this
    · rename_i c; rw [if_pos c]; rw [size_append] at this; omega
    · rename_i c; rw [if_neg c]; omega
theorem Join_eq (l : List S24) (hl : l.length ≤ 1000000000) (h : dataL l ≤ 140737488355328) : pkt_Join.f l = some (joinL l ⟨#[]⟩) := by
  unfold pkt_Join.f
  have := joinL_dataL l ⟨#[]⟩
  have e : (⟨#[]⟩ : ByteArray).size = 0 := rfl
  rw [if_pos (by omega), if_pos (by omega)]
theorem ref_join_l0 (x : List S24) (hx : x.length ≤ 1000000000) (d : Nat) : ∀ (k : Nat) (b : ByteArray) (i : Int), d + 1 ≤ k → 0 ≤ i → (x.length : Int) - i = d → b.size + dataL (x.drop i.toNat) < 140737488355328 →
    graftageref46_Join.l0 k x (bytesOf b) x.length i = some (joinL (x.drop i.toNat) b) := by
  induction d with
  | zero =>
    intro k b i hk h0 h1 h2
    obtain ⟨k, rfl⟩ : ∃ m, k = m + 1 := ⟨k - 1, by omega⟩
    rw [graftageref46_Join.l0, if_neg (by omega), List.drop_eq_nil_of_le (by omega), str_bytesOf]; rfl
  | succ d ih =>
    intro k b i hk h0 h1 h2
    obtain ⟨k, rfl⟩ : ∃ m, k = m + 1 := ⟨k - 1, by omega⟩
    have hs := dataL_drop x i h0 (by omega)
    rw [graftageref46_Join.l0, if_pos (by omega), if_pos h0, if_pos (by omega), drop_cons x i h0 (by omega), wrap64_id (by omega) (by omega), bytesOf_length, joinL]
    by_cases c : (rd_T24 x i).f0 = 1
    · rw [if_pos c, if_pos c, if_pos (by omega), ← bytesOf_append, ih k _ (i + 1) (by omega) (by omega) (by omega) (by rw [size_append]; omega)]
    · rw [if_neg c, if_neg c, ih k _ (i + 1) (by omega) (by omega) (by omega) (by omega)]
theorem ref_Join_eq (l : List S24) (hl : l.length ≤ 1000000000) (h : dataL l < 140737488355328) (k : Nat) (hk : l.length + 1 ≤ k) : graftageref46_Join.f k l = some (joinL l ⟨#[]⟩) := by
  unfold graftageref46_Join.f
  have := ref_join_l0 l hl l.length k ⟨#[]⟩ 0 (by omega) (by omega) (by omega) (by rw [size_0]; simpa using h)
  simpa [bytesOf_empty] using this

/-! Same of layer 05, of equal lists -/
theorem same05_l0 (x : List ByteArray) (hx : x.length ≤ 9223372036854770000) (d : Nat) : ∀ (k : Nat) (i : Int), d + 1 ≤ k → 0 ≤ i → (x.length : Int) - i = d → graftageref05_Same.l0 k x x x.length i = some true := by
  induction d with
  | zero =>
    intro k i hk h0 h1
    obtain ⟨k, rfl⟩ : ∃ m, k = m + 1 := ⟨k - 1, by omega⟩
    rw [graftageref05_Same.l0, if_neg (by omega)]
  | succ d ih =>
    intro k i hk h0 h1
    obtain ⟨k, rfl⟩ : ∃ m, k = m + 1 := ⟨k - 1, by omega⟩
    rw [graftageref05_Same.l0, if_pos (by omega), if_pos h0, if_pos (by omega), if_pos (by omega), if_pos rfl, wrap64_id (by omega) (by omega)]
    exact ih k (i + 1) (by omega) (by omega) (by omega)
theorem same05_self (x : List ByteArray) (hx : x.length ≤ 9223372036854770000) (k : Nat) (hk : x.length + 1 ≤ k) : graftageref05_Same.f k x x = some true := by
  unfold graftageref05_Same.f
  rw [if_pos rfl]
  exact same05_l0 x hx x.length k 0 (by omega) (by omega) (by omega)
theorem mem_dataL (l : List S24) : ∀ p ∈ l, p.f1.size ≤ dataL l := by
  induction l with
  | nil => intro p h; cases h
  | cons q l ih =>
    intro p h
    simp only [dataL]
    rcases List.mem_cons.1 h with rfl | h
    · omega
    · have := ih p h; omega
end Go.Proofs.Ytobiejdagfimdaa.PPkt
