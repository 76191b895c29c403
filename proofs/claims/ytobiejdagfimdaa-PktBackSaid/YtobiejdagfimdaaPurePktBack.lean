/- For every list of pieces, string and number the plain form of the law PktBack gives true; no condition beyond the statement's own bounds. -/
import Derived.Test.YtobiejdagfimdaaPktPut
import Derived.Test.YtobiejdagfimdaaPurePktNext
import Derived.Test.YtobiejdagfimdaaPPktx12
namespace Go.Proofs.Ytobiejdagfimdaa.PPkt
open Go.Proofs.Ytobiejdagfimdaa.Hand Go.Proofs.Ytobiejdagfimdaa.Pure
open Go.RowKit Go.Proofs.YtobiejdagfimdaaW.PrintWords Go.Proofs.YtobiejdagfimdaaW.PrintLast Go.Proofs.YtobiejdagfimdaaW.PrintMore
set_option linter.unusedVariables false
set_option linter.unusedSimpArgs false

theorem hexv_dig (v : Int) (h0 : 0 ≤ v) (h1 : v < 16) : hexv (dig v) = v := by
  have h : ∀ n : Fin 16, hexv (dig ((n.val : Nat) : Int)) = ((n.val : Nat) : Int) := by decide +kernel
  obtain ⟨n, rfl⟩ := Int.eq_ofNat_of_zero_le h0
  exact h ⟨n, by omega⟩
theorem dig_hexv (c : Int) (h0 : 0 ≤ c) (h1 : c ≤ 255) (h : 0 ≤ hexv c) : dig (hexv c) = c := by
  have hh : ∀ n : Fin 256, 0 ≤ hexv ((n.val : Nat) : Int) → dig (hexv ((n.val : Nat) : Int)) = ((n.val : Nat) : Int) := by decide +kernel
  obtain ⟨n, rfl⟩ := Int.eq_ofNat_of_zero_le h0
  exact hh ⟨n, by omega⟩ h
def digs (n : Int) : List Int := [dig (n / 4096 % 16), dig (n / 256 % 16), dig (n / 16 % 16), dig (n % 16)]
theorem bytesOf_hex4 (n : Int) : bytesOf (hex4 n) = digs n := by
  unfold hex4
  rw [bytesOf_str]; rfl
  intro c hc
  simp only [List.mem_cons, List.not_mem_nil, or_false] at hc
  rcases hc with rfl | rfl | rfl | rfl <;> exact bt_range _ _
theorem hexN_digs (s : ByteArray) (a n : Int) (h0 : 0 ≤ n) (h1 : n < 65536) (hd : ∀ j : Nat, j < 4 → bt s (a + j) = (digs n).getD j 0) : hexN s 4 a 0 = n := by
  have d0 : bt s a = dig (n / 4096 % 16) := by have := hd 0 (by omega); simpa [digs] using this
  have d1 : bt s (a + 1) = dig (n / 256 % 16) := by have := hd 1 (by omega); simpa [digs] using this
  have d2 : bt s (a + 1 + 1) = dig (n / 16 % 16) := by have := hd 2 (by omega); rw [show a + 1 + 1 = a + (2 : Nat) by omega]; simpa [digs] using this
  have d3 : bt s (a + 1 + 1 + 1) = dig (n % 16) := by have := hd 3 (by omega); rw [show a + 1 + 1 + 1 = a + (3 : Nat) by omega]; simpa [digs] using this
  rw [hexN, d0, hexv_dig _ (by omega) (by omega), if_neg (by omega), hexN, d1, hexv_dig _ (by omega) (by omega), if_neg (by omega), hexN, d2, hexv_dig _ (by omega) (by omega), if_neg (by omega), hexN, d3, hexv_dig _ (by omega) (by omega), if_neg (by omega), hexN]
  omega
theorem digs_hexN (s : ByteArray) (a : Int) (h : 0 ≤ hexN s 4 a 0) : digs (hexN s 4 a 0) = [bt s a, bt s (a + 1), bt s (a + 1 + 1), bt s (a + 1 + 1 + 1)] := by
  have r0 := hexv_range (bt s a); have r1 := hexv_range (bt s (a + 1)); have r2 := hexv_range (bt s (a + 1 + 1)); have r3 := hexv_range (bt s (a + 1 + 1 + 1))
  have b0 := bt_range s a; have b1 := bt_range s (a + 1); have b2 := bt_range s (a + 1 + 1); have b3 := bt_range s (a + 1 + 1 + 1)
  rw [hexN] at h ⊢
  by_cases c0 : hexv (bt s a) < 0
  · rw [if_pos c0] at h; omega
  rw [if_neg c0] at h ⊢
  rw [hexN] at h ⊢
  by_cases c1 : hexv (bt s (a + 1)) < 0
  · rw [if_pos c1] at h; omega
  rw [if_neg c1] at h ⊢
  rw [hexN] at h ⊢
  by_cases c2 : hexv (bt s (a + 1 + 1)) < 0
  · rw [if_pos c2] at h; omega
  rw [if_neg c2] at h ⊢
  rw [hexN] at h ⊢
  by_cases c3 : hexv (bt s (a + 1 + 1 + 1)) < 0
  · rw [if_pos c3] at h; omega
  rw [if_neg c3] at h ⊢
  rw [hexN]
  have e0 := dig_hexv _ b0.1 b0.2 (by omega); have e1 := dig_hexv _ b1.1 b1.2 (by omega); have e2 := dig_hexv _ b2.1 b2.2 (by omega); have e3 := dig_hexv _ b3.1 b3.2 (by omega)
  generalize hexv (bt s a) = v0 at *
  generalize hexv (bt s (a + 1)) = v1 at *
  generalize hexv (bt s (a + 1 + 1)) = v2 at *
  generalize hexv (bt s (a + 1 + 1 + 1)) = v3 at *
  unfold digs
  rw [← e0, ← e1, ← e2, ← e3]
  congr 1
  · congr 1; omega
  congr 1
  · congr 1; omega
  congr 1
  · congr 1; omega
  congr 1
  · congr 1; omega

/-- A valid piece that stands at a place is what Take returns there. -/
theorem take_one (s : ByteArray) (a : Int) (p : S24) (rest : List Int) (h0 : 0 ≤ a) (ha : a ≤ s.size) (hp : MayP p) (h : (bytesOf s).drop a.toNat = bytesOf (oneP p) ++ rest) :
    takeP s a = (p.f0, p.f1, a + ((oneP p).size : Int), 0) := by
  have hone : bytesOf (oneP p) = digs (lenP p) ++ bytesOf p.f1 := by unfold oneP; rw [bytesOf_append, bytesOf_hex4]
  have hlen : (s.size : Int) - a = 4 + p.f1.size + rest.length := by
    have := congrArg List.length h
    rw [List.length_drop, List.length_append, bytesOf_length, bytesOf_length, oneP_size] at this
    omega
  have hl4 : (digs (lenP p)).length = 4 := rfl
  have hmay := (MayP_iff p).1 hp
  have hlp : 0 ≤ lenP p ∧ lenP p < 65536 := by unfold lenP; split <;> (try split) <;> omega
  have hx : hexN s 4 a 0 = lenP p := hexN_digs s a _ hlp.1 hlp.2 fun j hj => bt_of_drop s a (digs (lenP p)) (bytesOf p.f1 ++ rest) h0 (by rw [h, hone, List.append_assoc]) j (by omega)
  rw [takeP_in s a h0 ha, if_neg (by omega), hx, oneP_size]
  unfold lenP at hx ⊢
  by_cases c2 : p.f0 = 2
  · have e : p.f1 = ⟨#[]⟩ := empty_of _ (by omega)
    simp only [if_pos c2]
    rw [if_neg (by omega), if_pos trivial, e, c2]
    rfl
  by_cases c3 : p.f0 = 3
  · have e : p.f1 = ⟨#[]⟩ := empty_of _ (by omega)
    simp only [if_neg c2, if_pos c3]
    rw [if_neg (by omega), if_neg (by omega), if_pos trivial, e, c3]
    rfl
  have hb : p.f0 = 1 ∧ 1 ≤ p.f1.size ∧ p.f1.size ≤ 65516 := by omega
  simp only [if_neg c2, if_neg c3]
  rw [if_neg (by omega), if_neg (by omega), if_neg (by omega), if_neg (by omega), hb.1]
  have hex : s.extract (a + 4).toNat (a + ((p.f1.size : Int) + 4)).toNat = p.f1 := by
    apply bytesOf_inj
    rw [bytesOf_extract, show (a + 4).toNat = a.toNat + 4 by omega, ← List.drop_drop, h, hone, List.append_assoc, List.drop_append_of_le_length (by omega), List.drop_eq_nil_of_le (by omega), List.nil_append,
      show (a + ((p.f1.size : Int) + 4)).toNat - (a.toNat + 4) = (bytesOf p.f1).length by rw [bytesOf_length]; omega, List.take_left]
  rw [hex]
  simp only [Prod.mk.injEq, true_and, and_true]
  omega

/-- What Take returns is valid, and its bytes are those that stand there. -/
theorem one_take (s : ByteArray) (a : Int) (h0 : 0 ≤ a) (ha : a ≤ s.size) (h : (takeP s a).2.2.2 = 0) :
    MayP ⟨(takeP s a).1, (takeP s a).2.1⟩ ∧ (bytesOf s).drop a.toNat = bytesOf (oneP ⟨(takeP s a).1, (takeP s a).2.1⟩) ++ (bytesOf s).drop (takeP s a).2.2.1.toNat := by
  have hb : ∀ (n : Int), n = hexN s 4 a 0 → 0 ≤ n → 4 ≤ (s.size : Int) - a → (bytesOf s).drop a.toNat = bytesOf (hex4 n) ++ (bytesOf s).drop (a + 4).toNat := by
    intro n hn h0n h4
    subst hn
    rw [bytesOf_hex4, digs_hexN s a h0n]
    have hg : ∀ j : Nat, a.toNat + j < (bytesOf s).length → (bytesOf s)[a.toNat + j]? = some (bt s (a + j)) := by
      intro j hj
      rw [getD_bt s _ (by omega), show (a + (j : Int)).toNat = a.toNat + j by omega, List.getD_eq_getElem?_getD, List.getElem?_eq_getElem hj]; rfl
    have hL := bytesOf_length s
    have g0 := hg 0 (by omega); have g1 := hg 1 (by omega); have g2 := hg 2 (by omega); have g3 := hg 3 (by omega)
    have e : ∀ (m : Nat) (x : Int), (bytesOf s)[m]? = some x → (bytesOf s).drop m = x :: (bytesOf s).drop (m + 1) := by
      intro m x hx
      obtain ⟨hlt, hx⟩ := List.getElem?_eq_some_iff.1 hx
      rw [List.drop_eq_getElem_cons hlt, hx]
    rw [show a.toNat = a.toNat + 0 by omega, e _ _ g0, e _ _ g1, e _ _ g2, e _ _ g3, show (a + 4).toNat = a.toNat + 3 + 1 by omega]
    simp only [List.cons_append, List.nil_append, Int.add_zero, Int.natCast_zero, Int.natCast_one]
    rw [show a + 1 + 1 + 1 = a + ((3 : Nat) : Int) by omega, show a + 1 + 1 = a + ((2 : Nat) : Int) by omega]
  rw [takeP_in s a h0 ha] at h ⊢
  by_cases c2 : (s.size : Int) - a < 4
  · rw [if_pos c2] at h; simp at h
  rw [if_neg c2] at h ⊢
  by_cases c3 : hexN s 4 a 0 < 0 ∨ (1 < hexN s 4 a 0 ∧ hexN s 4 a 0 ≤ 4) ∨ hexN s 4 a 0 > 65520
  · rw [if_pos c3] at h; simp at h
  rw [if_neg c3] at h ⊢
  have hb' := hb _ rfl (by omega) (by omega)
  generalize hexN s 4 a 0 = n at *
  by_cases c4 : n = 0
  · subst c4
    rw [if_pos rfl]
    refine ⟨Or.inr ⟨Or.inl rfl, rfl⟩, ?_⟩
    rw [hb']; unfold oneP lenP
    simp only [if_true]
    rw [app_empty]
  rw [if_neg c4] at h ⊢
  by_cases c5 : n = 1
  · subst c5
    rw [if_pos rfl]
    refine ⟨Or.inr ⟨Or.inr rfl, rfl⟩, ?_⟩
    rw [hb']; unfold oneP lenP
    rw [if_neg (show ¬ ((3 : Int) = 2) by decide), if_pos rfl, app_empty]
  rw [if_neg c5] at h ⊢
  by_cases c6 : (s.size : Int) - a < n
  · rw [if_pos c6] at h; simp at h
  rw [if_neg c6]
  have hz : (s.extract (a + 4).toNat (a + n).toNat).size = n.toNat - 4 := by
    rw [size_bytesOf, bytesOf_extract, List.length_take, List.length_drop, bytesOf_length]; omega
  refine ⟨Or.inl ⟨rfl, ?_, ?_⟩, ?_⟩
  · show 1 ≤ (s.extract (a + 4).toNat (a + n).toNat).size
    omega
  · show (s.extract (a + 4).toNat (a + n).toNat).size ≤ 65516
    omega
  · have hl : lenP ⟨1, s.extract (a + 4).toNat (a + n).toNat⟩ = n := by
      unfold lenP
      rw [if_neg (show ¬ ((1 : Int) = 2) by decide), if_neg (show ¬ ((1 : Int) = 3) by decide)]
      show ((s.extract (a + 4).toNat (a + n).toNat).size : Int) + 4 = n
      omega
    rw [hb']; unfold oneP
    rw [hl, bytesOf_append, List.append_assoc]
    congr 1
    show _ = bytesOf (s.extract (a + 4).toNat (a + n).toNat) ++ (bytesOf s).drop (a + n).toNat
    rw [bytesOf_extract]
    conv => lhs; rw [← List.take_append_drop ((a + n).toNat - (a + 4).toNat) ((bytesOf s).drop (a + 4).toNat)]
    rw [List.drop_drop]
    congr 2
    omega

theorem putQ_yes {p : S24} {l : List S24} (h : (putQ (p :: l)).2 = 0) : MayP p ∧ (putQ l).2 = 0 := by
  by_cases c : MayP p ∧ (putQ l).2 = 0
  · exact c
  · rw [putQ_bad p l c] at h; exact absurd h (by decide)
theorem all_put (s : ByteArray) (l : List S24) : ∀ (d : Nat) (a : Int), 0 ≤ a → a ≤ s.size → (s.size : Int) - a < d → (putQ l).2 = 0 → (bytesOf s).drop a.toNat = bytesOf (putQ l).1 → allP s d a = (l, 0) := by
  induction l with
  | nil =>
    intro d a h0 h1 hd _ h
    have hl := congrArg List.length h
    rw [List.length_drop, bytesOf_length, bytesOf_length] at hl
    have : (putQ []).1.size = 0 := rfl
    obtain ⟨d, rfl⟩ : ∃ m, d = m + 1 := ⟨d - 1, by omega⟩
    rw [allP_succ, if_neg (by omega)]
  | cons p l ih =>
    intro d a h0 h1 hd hok h
    obtain ⟨hp, hl⟩ := putQ_yes hok
    rw [putQ_ok p l hp hl] at h
    simp only [bytesOf_append] at h
    have hlen := congrArg List.length h
    rw [List.length_drop, List.length_append, bytesOf_length, bytesOf_length, bytesOf_length, oneP_size] at hlen
    obtain ⟨d, rfl⟩ : ∃ m, d = m + 1 := ⟨d - 1, by omega⟩
    have ho := oneP_size p
    have hi := ih d (a + ((oneP p).size : Int)) (by omega) (by omega) (by omega) hl (by
      rw [show (a + ((oneP p).size : Int)).toNat = a.toNat + (bytesOf (oneP p)).length by rw [bytesOf_length]; omega, ← List.drop_drop, h, List.drop_left])
    rw [allP_succ, if_pos (by omega), take_one s a p _ h0 h1 hp h]
    simp only [if_true]
    rw [hi]
    simp
theorem put_all (s : ByteArray) (d : Nat) : ∀ (a : Int), 0 ≤ a → a ≤ s.size → (s.size : Int) - a < d → (allP s d a).2 = 0 → (putQ (allP s d a).1).2 = 0 ∧ bytesOf (putQ (allP s d a).1).1 = (bytesOf s).drop a.toNat := by
  induction d with
  | zero => intro a _ _ h; omega
  | succ d ih =>
    intro a h0 h1 hd h
    rw [allP_succ] at h ⊢
    by_cases c : a < (s.size : Int)
    · rw [if_pos c] at h ⊢
      by_cases e : (takeP s a).2.2.2 = 0
      · rw [if_pos e] at h ⊢
        have ht := takeP_ok e
        by_cases q : (allP s d (takeP s a).2.2.1).2 = 0
        · rw [if_pos q]
          obtain ⟨i1, i2⟩ := ih (takeP s a).2.2.1 (by omega) (by omega) (by omega) q
          obtain ⟨m1, m2⟩ := one_take s a h0 h1 e
          simp only
          rw [putQ_ok _ _ m1 i1]
          refine ⟨rfl, ?_⟩
          simp only
          rw [bytesOf_append, i2, m2]
        · rw [if_neg q] at h; exact absurd h q
      · rw [if_neg e] at h; exact absurd h e
    · rw [if_neg c]
      refine ⟨rfl, ?_⟩
      rw [List.drop_eq_nil_of_le (by rw [bytesOf_length]; omega)]
      rfl
theorem putQ_size_eq (l : List S24) : (putQ l).2 = 0 → (putQ l).1.size = dataL l + 4 * l.length := by
  induction l with
  | nil => intro _; rfl
  | cons p l ih =>
    intro h
    obtain ⟨hp, hl⟩ := putQ_yes h
    rw [putQ_ok p l hp hl]
    simp only [dataL, List.length_cons]
    rw [size_append, oneP_size, ih hl]; omega

/-! Cut -/
theorem cutS_ok (n : Int) (hn : 1 ≤ n) (hn2 : n ≤ 65516) (d : Nat) : ∀ s : ByteArray, s.size ≤ d → (putQ (cutS d s n)).2 = 0 ∧ dataL (cutS d s n) = s.size ∧ ∀ b : ByteArray, joinL (cutS d s n) b = b ++ s := by
  induction d with
  | zero =>
    intro s hs
    refine ⟨rfl, by simp only [cutS, dataL]; omega, fun b => ?_⟩
    rw [empty_of s (by omega), app_empty]; rfl
  | succ d ih =>
    intro s hs
    rw [cutS]
    by_cases c : s.size = 0
    · rw [if_pos c]
      refine ⟨rfl, by simp only [dataL]; omega, fun b => ?_⟩
      rw [empty_of s c, app_empty]; rfl
    · rw [if_neg c]
      have hm := mn_range n s.size hn (by omega)
      have hmn : mn n s.size ≤ n := by unfold mn; split <;> omega
      have ht := tail_size s (mn n s.size).toNat (by omega)
      have hh : (s.extract 0 (mn n s.size).toNat).size = (mn n s.size).toNat := by
        rw [size_bytesOf, bytesOf_extract, List.length_take, List.length_drop, bytesOf_length]; omega
      obtain ⟨i1, i2, i3⟩ := ih (s.extract (mn n s.size).toNat s.size) (by omega)
      refine ⟨?_, ?_, fun b => ?_⟩
      · rw [putQ_ok _ _ (Or.inl ⟨rfl, by show 1 ≤ (s.extract 0 (mn n s.size).toNat).size; omega, by show (s.extract 0 (mn n s.size).toNat).size ≤ 65516; omega⟩) i1]
      · simp only [dataL]; rw [i2, hh, ht]; omega
      · simp only [joinL, if_true]
        rw [i3, append_assoc]
        congr 1
        apply bytesOf_inj
        rw [bytesOf_append, bytesOf_extract, bytesOf_extract, List.drop_zero, Nat.sub_zero]
        have : List.take (s.size - (mn n s.size).toNat) (List.drop (mn n s.size).toNat (bytesOf s)) = List.drop (mn n s.size).toNat (bytesOf s) := List.take_of_length_le (by rw [List.length_drop, bytesOf_length]; omega)
        rw [this, List.take_append_drop]
end Go.Proofs.Ytobiejdagfimdaa.PPkt
namespace Go.Proofs.Ytobiejdagfimdaa.Pure
open Go.Proofs.Ytobiejdagfimdaa.Hand Go.Proofs.Ytobiejdagfimdaa.PPkt
open Go.RowKit Go.Proofs.YtobiejdagfimdaaW.PrintWords Go.Proofs.YtobiejdagfimdaaW.PrintLast Go.Proofs.YtobiejdagfimdaaW.PrintMore
set_option linter.unusedVariables false
set_option linter.unusedSimpArgs false
theorem allS_put (l : List S24) (h : (putQ l).2 = 0) : allS (putQ l).1 = (l, 0) := all_put _ l _ 0 (by omega) (by omega) (by omega) h (by simp)
theorem back_j2 (s : ByteArray) (n : Int) (hs : s.size ≤ 3000) (k : Nat) (hk : 20000 ≤ k) : graftagelaw46_PktBack.j2 k s n = some true := by
  obtain ⟨k, rfl⟩ : ∃ m, k = m + 1 := ⟨k - 1, by omega⟩
  obtain ⟨c1, c2, c3⟩ := cutS_ok (cutN n) (cutN_range n).1 (cutN_range n).2 s.size s (by omega)
  have hl := cutS_length (cutN n) (cutN_range n).1 s.size s
  have hz := putQ_size (cutS s.size s (cutN n))
  rw [graftagelaw46_PktBack.j2, Cut_eq s n (by omega) _ (by omega)]
  simp only [Option.bind_some]
  rw [Put_eq _ (by omega)]
  simp only [Option.bind_some]
  rw [All_eq _ (by omega) _ (by omega), allS_put _ c1, Join_eq _ (by omega) (by omega), c3, empty_app]
  simp only [Option.bind_some, if_true]
  rw [if_pos c1, same_self _ (by omega) _ (by omega), lives_f _ (by omega)]
  rfl
theorem back_j1 (s : ByteArray) (n : Int) (hs : s.size ≤ 3000) (k : Nat) (hk : 20001 ≤ k) : graftagelaw46_PktBack.j1 k s n = some true := by
  obtain ⟨k, rfl⟩ : ∃ m, k = m + 1 := ⟨k - 1, by omega⟩
  rw [graftagelaw46_PktBack.j1, All_eq s (by omega) _ (by omega)]
  simp only [Option.bind_some]
  by_cases c : (allS s).2 = 0
  · obtain ⟨p1, p2⟩ := put_all s (s.size + 1) 0 (by omega) (by omega) (by omega) c
    have e : (putQ (allS s).1).1 = s := bytesOf_inj (by rw [show allS s = allP s (s.size + 1) 0 from rfl, p2]; rfl)
    have hz := putQ_size_eq _ p1
    have hz' : (putQ (allS s).1).1.size = dataL (allS s).1 + 4 * (allS s).1.length := hz
    rw [e] at hz'
    have p1' : (putQ (allS s).1).2 = 0 := p1
    rw [if_pos c, Put_eq _ (by omega)]
    simp only [Option.bind_some]
    rw [if_pos p1', e, if_pos rfl]
    exact back_j2 s n hs k (by omega)
  · rw [if_neg c]
    exact back_j2 s n hs k (by omega)
theorem back_j0 (l : List S24) (s : ByteArray) (n : Int) (b : Bool) (h : b = true ∨ (s.size ≤ 3000 ∧ l.length ≤ 300 ∧ dataL l ≤ 5000)) (k : Nat) (hk : 30000 ≤ k) : graftagelaw46_PktBack.j0 k l s n b = some true := by
  obtain ⟨k, rfl⟩ : ∃ m, k = m + 1 := ⟨k - 1, by omega⟩
  rw [graftagelaw46_PktBack.j0, lives_f _ (by omega)]
  by_cases c : b = true
  · rw [if_pos c]; rfl
  · obtain ⟨h1, h2, h3⟩ : s.size ≤ 3000 ∧ l.length ≤ 300 ∧ dataL l ≤ 5000 := by rcases h with h | h; exact absurd h c; exact h
    have hz := putQ_size l
    rw [if_neg c, Put_eq _ (by omega)]
    simp only [Option.bind_some]
    by_cases q : (putQ l).2 = 0
    · rw [if_pos q, All_eq _ (by omega) _ (by omega), allS_put _ q]
      simp only [Option.bind_some, if_true]
      rw [same_self _ (by omega) _ (by omega)]
      simp only [Option.bind_some, if_true]
      exact back_j1 s n h1 k (by omega)
    · rw [if_neg q]
      exact back_j1 s n h1 k (by omega)
theorem PktBack (l : List S24) (s : ByteArray) (n : Int) (hl : l.length ≤ 9223372036854770000) (hz : ∀ p ∈ l, p.f1.size ≤ 140737488355328) : graftagelaw46_PktBack.f (l.length + 30000) l s n = some true := by
  unfold graftagelaw46_PktBack.f
  obtain ⟨b, hb, hf⟩ := few_f l hl 5000 (by decide) (by decide) hz (l.length + 30000) (by omega)
  rw [hb]
  simp only [Option.bind_some]
  cases b with
  | false => rw [if_neg (by decide)]; exact back_j0 l s n true (Or.inl rfl) _ (by omega)
  | true =>
    obtain ⟨h1, h2⟩ := hf rfl
    rw [if_pos rfl]
    by_cases c : (s.size : Int) > 3000
    · exact back_j0 l s n _ (Or.inl (decide_eq_true c)) _ (by omega)
    · exact back_j0 l s n _ (Or.inr ⟨by omega, h1, by omega⟩) _ (by omega)
end Go.Proofs.Ytobiejdagfimdaa.Pure
