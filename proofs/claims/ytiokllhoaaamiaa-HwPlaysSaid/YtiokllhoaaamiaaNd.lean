/- The law HwFair. -/
import Derived.Test.YtiokllhoaaamiaaProg
import Derived.Test.YtiokllhoaaamiaaNc
namespace Go.Proofs.Ytiokllhoaaamiaa.Nd
open Go.RowKit Go.Proofs.Ytiokllhoaaamiaa.G Go.Proofs.Ytiokllhoaaamiaa.B Go.Proofs.Ytiokllhoaaamiaa.M Go.Proofs.Ytiokllhoaaamiaa.Mv Go.Proofs.Ytiokllhoaaamiaa.Sm Go.Proofs.Ytiokllhoaaamiaa.Na Go.Proofs.Ytiokllhoaaamiaa.Nb Go.Proofs.Ytiokllhoaaamiaa.Nc
set_option linter.unusedVariables false
set_option linter.unusedSimpArgs false
set_option maxRecDepth 100000
theorem mod_ne (a d N : Nat) (h0 : 0 < d) (h1 : d < N) : ¬ (a + d) % N = a % N := fun h => by
  have := Nat.sub_mod_eq_zero_of_mod_eq h
  rw [Nat.add_sub_cancel_left, Nat.mod_eq_of_lt h1] at this
  omega
/-- Who owns a number behind q whole turns and m rounds. -/
def ownF (n q m j : Nat) : Int := if j < m then 1 + ((n * q + j) % (n + 1) : Nat) else if q = 0 then 0 else 1 + ((n * (q - 1) + j) % (n + 1) : Nat)
def fairO (n q m : Nat) : List Int := (List.range n).map (ownF n q m)
theorem fairO_len (n q m : Nat) : (fairO n q m).length = n := by simp [fairO]
theorem fairO_get (n q m j : Nat) (h : j < n) : (fairO n q m).getD j 0 = ownF n q m j := by
  simp [fairO, List.getD, h]
theorem list_ext {l1 l2 : List Int} (hl : l1.length = l2.length) (h : ∀ j, j < l1.length → l1.getD j 0 = l2.getD j 0) : l1 = l2 := by
  apply List.ext_getElem hl
  intro i h1 h2
  have := h i h1
  simpa [List.getD, h1, h2] using this
theorem set_get (l : List Int) (i j : Nat) (v : Int) (hi : i < l.length) : (l.set i v).getD j 0 = if i = j then v else l.getD j 0 := by
  simp only [List.getD_eq_getElem?_getD, List.getElem?_set]
  split
  · rename_i h; subst h; simp [hi]
  · rfl
theorem zero_start (n : Nat) : List.replicate n (0 : Int) = fairO n 0 0 := by
  apply list_ext
  · simp [fairO]
  · intro j hj
    simp at hj
    rw [fairO_get n 0 0 j hj]
    simp [ownF, List.getD, hj]
theorem step_in (n q m : Nat) (hm : m < n) (h : m + 1 < n) : (fairO n q m).set m (1 + ((n * q + m) % (n + 1) : Nat)) = fairO n q (m + 1) := by
  apply list_ext
  · simp [fairO]
  · intro j hj
    rw [List.length_set, fairO_len] at hj
    rw [set_get _ _ _ _ (by rw [fairO_len]; exact hm), fairO_get _ _ _ _ hj, fairO_get _ _ _ _ hj]
    unfold ownF
    by_cases e : m = j
    · subst e; simp
    · rw [if_neg e]
      by_cases l : j < m
      · simp [l, show j < m + 1 by omega]
      · simp [l, show ¬ j < m + 1 by omega]
theorem step_turn (n q m : Nat) (hm : m < n) (h : m + 1 = n) : (fairO n q m).set m (1 + ((n * q + m) % (n + 1) : Nat)) = fairO n (q + 1) 0 := by
  apply list_ext
  · simp [fairO]
  · intro j hj
    rw [List.length_set, fairO_len] at hj
    rw [set_get _ _ _ _ (by rw [fairO_len]; exact hm), fairO_get _ _ _ _ hj, fairO_get _ _ _ _ hj]
    unfold ownF
    by_cases e : m = j
    · subst e; simp
    · rw [if_neg e]
      have l : j < m := by omega
      simp [l]
theorem fair_new (n q m : Nat) (hm : m < n) : idxI (fairO n q m) (1 + ((n * q + m) % (n + 1) : Nat)) = -1 := by
  apply idxI_none
  intro j hj
  rw [fairO_len] at hj
  rw [fairO_get _ _ _ _ hj]
  unfold ownF
  split
  · rename_i l
    have := mod_ne (n * q + j) (m - j) (n + 1) (by omega) (by omega)
    rw [show n * q + j + (m - j) = n * q + m by omega] at this
    omega
  · split
    · omega
    · rename_i l q0
      obtain ⟨p, rfl⟩ : ∃ p, q = p + 1 := ⟨q - 1, by omega⟩
      have := mod_ne (n * p + j) (n + m - j) (n + 1) (by omega) (by omega)
      rw [show n * p + j + (n + m - j) = n * (p + 1) + m by rw [Nat.mul_succ]; omega] at this
      rw [Nat.add_sub_cancel]
      omega
theorem fair_zero (n m : Nat) (hm : m < n) : idxI (fairO n 0 m) 0 = m := by
  apply idxI_at (by rw [fairO_len]; exact hm)
  · rw [fairO_get _ _ _ _ hm]; simp [ownF]
  · intro j hj
    rw [fairO_get _ _ _ _ (by omega)]
    unfold ownF
    rw [if_pos hj]; omega
theorem fair_full (n q m : Nat) (hm : m < n) (hq : 0 < q) : idxI (fairO n q m) 0 = -1 := by
  apply idxI_none
  intro j hj
  rw [fairO_len] at hj
  rw [fairO_get _ _ _ _ hj]
  unfold ownF
  split
  · omega
  · rw [if_neg (by omega)]; omega
theorem tmod_nat (a b : Nat) : ((a : Int)).tmod (b : Int) = ((a % b : Nat) : Int) := by
  rw [Int.tmod_eq_emod_of_nonneg (by omega)]; rfl
def nextQ (n q m : Nat) : Nat := if m + 1 < n then q else q + 1
def nextM (n m : Nat) : Nat := if m + 1 < n then m + 1 else 0
theorem fair_take (gB g n q m : Nat) (h2 : 2 ≤ n) (h : n ≤ 60) (hm : m < n) :
    Does Try.prog 12 #[.pointer (some ⟨gB, 0, none⟩), .int .i64 (1 + ((n * q + m) % (n + 1) : Nat))] (bk gB g n (fairO n q m) (if q = 0 then 0 else m)) fun r L => r = .tuple #[.int .i64 m, .int .i64 (if q = 0 then 0 else 1 + ((n * (q - 1) + m) % (n + 1) : Nat)), .int .i64 0] ∧ L = bk gB g n (fairO n (nextQ n q m) (nextM n m)) (if nextQ n q m = 0 then 0 else nextM n m) := by
  have hv : (1 : Int) ≤ 1 + ((n * q + m) % (n + 1) : Nat) ∧ 1 + (((n * q + m) % (n + 1) : Nat) : Int) < 4096 := by
    have := Nat.mod_lt (n * q + m) (show 0 < n + 1 by omega)
    omega
  have hset : (fairO n q m).set m (1 + ((n * q + m) % (n + 1) : Nat)) = fairO n (nextQ n q m) (nextM n m) := by
    unfold nextQ nextM
    split
    · exact step_in n q m hm ‹_›
    · exact step_turn n q m hm (by omega)
  by_cases q0 : q = 0
  · subst q0
    have := take_zero gB g n (fairO n 0 m) 0 _ m (fairO_len _ _ _) (by omega) hv (fair_new n 0 m hm) (fair_zero n m hm)
    rw [hset] at this
    simp only [if_true]
    have e : (if nextQ n 0 m = 0 then 0 else (nextM n m : Int)) = 0 := by
      unfold nextQ nextM
      split
      · simp
      · simp
    rw [e]
    exact this
  · have hx : (fairO n q m).getD m 0 = 1 + ((n * (q - 1) + m) % (n + 1) : Nat) := by
      rw [fairO_get _ _ _ _ hm]; simp [ownF, q0]
    have hw : ((m : Int) + 1).tmod n = (nextM n m : Int) := by
      have := tmod_nat (m + 1) n
      unfold nextM
      split
      · rw [Nat.mod_eq_of_lt ‹_›] at this; exact_mod_cast this
      · rw [show m + 1 = n by omega, Nat.mod_self] at this
        have e : ((m : Int) + 1) = ((n : Nat) : Int) := by omega
        rw [e]; exact_mod_cast this
    have := take_vic gB g n (fairO n q m) (nextM n m) _ _ m (fairO_len _ _ _) (by omega) hv (fair_new n q m hm) (fair_full n q m hm (by omega)) hm hx hw
    rw [hset] at this
    rw [if_neg q0, if_neg q0]
    have e : (if nextQ n q m = 0 then 0 else (nextM n m : Int)) = nextM n m := by
      rw [if_neg]
      unfold nextQ; split <;> omega
    rw [e]
    exact this
set_option maxHeartbeats 2000000 in
theorem law_out (n r : Int) (h : n < 2 ∨ 60 < n ∨ r < 0 ∨ 400 < r) (w : World) : Calls Try.prog 3 #[.int .i64 n, .int .i64 r] w fun e w' => e = .returned (.bool true) ∧ Below w.heap.size w w' := by
  have CA := anchor_any
  have key : n < 2 ∨ (2 ≤ n ∧ 60 < n) ∨ (2 ≤ n ∧ n ≤ 60 ∧ r < 0) ∨ (2 ≤ n ∧ n ≤ 60 ∧ 0 ≤ r ∧ 400 < r) := by omega
  rcases key with h | ⟨h, h'⟩ | ⟨h, h', h2⟩ | ⟨h, h', h2, h3⟩
  all_goals
    have HM := Mem.nil w
    go_enter Try.func3, Try.ntmps3
    go_wp2_with (first
      | (go_big_skip)
      | (go_at_call 10; (with_reducible refine (Go.Proofs.Ytiokllhoaaamiaa.M.call_pure (CA) HM).mono ?_); clear HM; rintro e w_ ⟨rfl, HM⟩; dsimp only)
      | (refine Go.Proofs.Ytiokllhoaaamiaa.Mc.at_cmp _ rfl ?_; refine Go.Proofs.Ytiokllhoaaamiaa.Mc.cmp_m rfl _ rfl _ _ _ rfl _ _ _ rfl rfl _ rfl ?_ ?_ <;> (intro hg_; try simp only [decide_eq_true_eq, decide_eq_false_iff_not, Bool.and_eq_true, Bool.or_eq_true, Bool.and_eq_false_iff, Bool.or_eq_false_iff, Bool.not_eq_true', Bool.not_eq_false', beq_iff_eq, bne_iff_ne, beq_eq_false_iff_ne, bne_eq_false_iff_eq, Int.not_lt, Int.not_le, ne_eq] at hg_; first | (exfalso; first | omega | (simp at hg_; done)) | go_simp))
      | ((fail_if_success (refine Go.Proofs.Ytiokllhoaaamiaa.M.lit_t rfl ?_)); (fail_if_success (refine Go.Proofs.Ytiokllhoaaamiaa.M.lit_f rfl ?_)); refine Go.Proofs.Ytiokllhoaaamiaa.M.split_guard rfl rfl ?_ ?_ <;> (intro hg_; simp only [hg_]; try simp only [decide_eq_true_eq, decide_eq_false_iff_not, Bool.and_eq_true, Bool.or_eq_true, Bool.and_eq_false_iff, Bool.or_eq_false_iff, Bool.not_eq_true', Bool.not_eq_false', beq_iff_eq, bne_iff_ne, beq_eq_false_iff_ne, bne_eq_false_iff_eq, Int.not_lt, Int.not_le, ne_eq] at hg_)))
    all_goals
      go_ret
      exact ⟨by first | rfl | simp, HM.none.to_below⟩
set_option maxHeartbeats 4000000 in
theorem law_in (n R : Nat) (h2 : 2 ≤ n) (h60 : n ≤ 60) (hR : R ≤ 400) (w : World) : Calls Try.prog 3 #[.int .i64 n, .int .i64 R] w fun e w' => e = .returned (.bool true) ∧ Below w.heap.size w w' := by
  have CA := anchor_any
  have CN := fun w => new_ok n h2 (by omega) w
  rw [zero_start] at CN
  have i1 : (2 : Int) ≤ n := by omega
  have i2 : (n : Int) ≤ 60 := by omega
  have i3 : (R : Int) ≤ 400 := by omega
  have i4 : ¬ (n : Int) = 0 := by omega
  have i5 : ¬ (n : Int) + 1 = 0 := by omega
  have HM := Mem.nil w
  go_enter Try.func3, Try.ntmps3
  go_wp2_with (first
    | (go_big_skip)
    | (go_at_call 11; (with_reducible refine (Go.Proofs.Ytiokllhoaaamiaa.Sm.new_call HM (CN _)).mono ?_); clear HM; rintro e w_ ⟨v_, L_, rfl, ⟨gB_, g_, rfl, rfl⟩, HM⟩; (try simp only [List.append_nil] at HM); dsimp only)
    | (go_at_call 10; (with_reducible refine (Go.Proofs.Ytiokllhoaaamiaa.M.call_pure (CA) HM).mono ?_); clear HM; rintro e w_ ⟨rfl, HM⟩; dsimp only)
    | (refine Go.Proofs.Ytiokllhoaaamiaa.Mc.at_cmp _ rfl ?_; refine Go.Proofs.Ytiokllhoaaamiaa.Mc.cmp_m rfl _ rfl _ _ _ rfl _ _ _ rfl rfl _ rfl ?_ ?_ <;> (intro hg_; try simp only [decide_eq_true_eq, decide_eq_false_iff_not, Bool.and_eq_true, Bool.or_eq_true, Bool.and_eq_false_iff, Bool.or_eq_false_iff, Bool.not_eq_true', Bool.not_eq_false', beq_iff_eq, bne_iff_ne, beq_eq_false_iff_ne, bne_eq_false_iff_eq, Int.not_lt, Int.not_le, ne_eq] at hg_; first | (exfalso; first | omega | (simp at hg_; done)) | go_simp))
    | ((fail_if_success (refine Go.Proofs.Ytiokllhoaaamiaa.M.lit_t rfl ?_)); (fail_if_success (refine Go.Proofs.Ytiokllhoaaamiaa.M.lit_f rfl ?_)); refine Go.Proofs.Ytiokllhoaaamiaa.M.split_guard rfl rfl ?_ ?_ <;> (intro hg_; simp only [hg_]; try simp only [decide_eq_true_eq, decide_eq_false_iff_not, Bool.and_eq_true, Bool.or_eq_true, Bool.and_eq_false_iff, Bool.or_eq_false_iff, Bool.not_eq_true', Bool.not_eq_false', beq_iff_eq, bne_iff_ne, beq_eq_false_iff_ne, bne_eq_false_iff_eq, Int.not_lt, Int.not_le, ne_eq] at hg_)))
  go_loopw [41] (fun v wr => ∃ k q m : Nat, k ≤ R ∧ v = .int .i64 k ∧ k = n * q + m ∧ m < n ∧ Mem w [] (bk gB_ g_ n (fairO n q m) (if q = 0 then 0 else m)) wr) (fun v _ => R - (intOf v).toNat)
  case atStart => exact ⟨0, 0, 0, by omega, rfl, by omega, by omega, HM⟩
  case round =>
    clear HM
    obtain ⟨k, q, m, kR, rfl, hk, hm, HM⟩ := hrel
    by_cases hlt : k < R
    · have T := fair_take gB_ g_ n q m h2 h60 hm
      rw [← hk] at T
      have e1 : (k : Int).tmod ((n : Int) + 1) = ((k % (n + 1) : Nat) : Int) := tmod_nat k (n + 1)
      have e2 : (k : Int).tmod (n : Int) = (m : Int) := by
        rw [tmod_nat k n, hk, Nat.mul_add_mod, Nat.mod_eq_of_lt hm]
      have e3 := Nat.mod_lt k (show 0 < n + 1 by omega)
      have hk1 : (k : Int) < R := by omega
      have hnext : k + 1 = n * (nextQ n q m) + nextM n m ∧ nextM n m < n := by
        unfold nextQ nextM
        split
        · exact ⟨by omega, ‹_›⟩
        · exact ⟨by rw [Nat.mul_succ]; omega, by omega⟩
      have HN := Lib.hid hnext
      generalize hQ : nextQ n q m = q2 at T HN; generalize hM2 : nextM n m = m2 at T HN
      by_cases q0 : q = 0
      · subst q0
        have hkn : (k : Int) < n := by simp at hk; omega
        simp only [if_true] at T HM
        generalize k % (n + 1) = e at T e1 e3
        have e4 : (e : Int) ≤ n := by omega
        clear hk hnext hm hQ hM2 e3
        go_wp2_with (first
          | (go_big_skip)
          | (go_at_call 12; (with_reducible refine (Go.Proofs.Ytiokllhoaaamiaa.M.Does.call (R := []) T HM (Go.Proofs.Ytiokllhoaaamiaa.Sm.perm_nil _)).mono ?_); clear HM; rintro e_ w_ ⟨v_, L_, rfl, ⟨rfl, rfl⟩, HM⟩; (try simp only [List.append_nil] at HM); dsimp only)
          | (refine Go.Proofs.Ytiokllhoaaamiaa.Mc.at_cmp _ rfl ?_; refine Go.Proofs.Ytiokllhoaaamiaa.Mc.cmp_m rfl _ rfl _ _ _ rfl _ _ _ rfl rfl _ rfl ?_ ?_ <;> (intro hg_; try simp only [decide_eq_true_eq, decide_eq_false_iff_not, Bool.and_eq_true, Bool.or_eq_true, Bool.and_eq_false_iff, Bool.or_eq_false_iff, Bool.not_eq_true', Bool.not_eq_false', beq_iff_eq, bne_iff_ne, beq_eq_false_iff_ne, bne_eq_false_iff_eq, Int.not_lt, Int.not_le, ne_eq] at hg_; first | (exfalso; first | omega | (simp at hg_; done)) | go_simp))
          | ((fail_if_success (refine Go.Proofs.Ytiokllhoaaamiaa.M.lit_t rfl ?_)); (fail_if_success (refine Go.Proofs.Ytiokllhoaaamiaa.M.lit_f rfl ?_)); refine Go.Proofs.Ytiokllhoaaamiaa.M.split_guard rfl rfl ?_ ?_ <;> (intro hg_; simp only [hg_]; try simp only [decide_eq_true_eq, decide_eq_false_iff_not, Bool.and_eq_true, Bool.or_eq_true, Bool.and_eq_false_iff, Bool.or_eq_false_iff, Bool.not_eq_true', Bool.not_eq_false', beq_iff_eq, bne_iff_ne, beq_eq_false_iff_ne, bne_eq_false_iff_eq, Int.not_lt, Int.not_le, ne_eq] at hg_)))
        all_goals
          go_roundw
          case rel => exact ⟨k + 1, q2, m2, by omega, by first | rfl | (refine congrArg (fun z => Value.int .i64 z) ?_; omega), HN.out.1, HN.out.2, HM⟩
          case measure => simp [intOf]; omega
      · obtain ⟨p, rfl⟩ : ∃ p, q = p + 1 := ⟨q - 1, by omega⟩
        have hk' : k = n * p + m + n := by rw [hk, Nat.mul_succ]; omega
        have hkn : (n : Int) ≤ k := by omega
        have e5 : ((k : Int) - n).tmod ((n : Int) + 1) = (((n * p + m) % (n + 1) : Nat) : Int) := by
          have := tmod_nat (n * p + m) (n + 1)
          rw [show ((k : Int) - n) = ((n * p + m : Nat) : Int) by omega]
          exact_mod_cast this
        have e6 := Nat.mod_lt (n * p + m) (show 0 < n + 1 by omega)
        simp only [if_neg q0, Nat.add_sub_cancel] at T HM
        generalize k % (n + 1) = e at T e1 e3
        generalize (n * p + m) % (n + 1) = f at T e5 e6
        have e4 : (e : Int) ≤ n := by omega
        have e7 : (f : Int) ≤ n := by omega
        clear hk hk' hnext hm hQ hM2 e3 e6
        go_wp2_with (first
          | (go_big_skip)
          | (go_at_call 12; (with_reducible refine (Go.Proofs.Ytiokllhoaaamiaa.M.Does.call (R := []) T HM (Go.Proofs.Ytiokllhoaaamiaa.Sm.perm_nil _)).mono ?_); clear HM; rintro e_ w_ ⟨v_, L_, rfl, ⟨rfl, rfl⟩, HM⟩; (try simp only [List.append_nil] at HM); dsimp only)
          | (refine Go.Proofs.Ytiokllhoaaamiaa.Mc.at_cmp _ rfl ?_; refine Go.Proofs.Ytiokllhoaaamiaa.Mc.cmp_m rfl _ rfl _ _ _ rfl _ _ _ rfl rfl _ rfl ?_ ?_ <;> (intro hg_; try simp only [decide_eq_true_eq, decide_eq_false_iff_not, Bool.and_eq_true, Bool.or_eq_true, Bool.and_eq_false_iff, Bool.or_eq_false_iff, Bool.not_eq_true', Bool.not_eq_false', beq_iff_eq, bne_iff_ne, beq_eq_false_iff_ne, bne_eq_false_iff_eq, Int.not_lt, Int.not_le, ne_eq] at hg_; first | (exfalso; first | omega | (simp at hg_; done)) | go_simp))
          | ((fail_if_success (refine Go.Proofs.Ytiokllhoaaamiaa.M.lit_t rfl ?_)); (fail_if_success (refine Go.Proofs.Ytiokllhoaaamiaa.M.lit_f rfl ?_)); refine Go.Proofs.Ytiokllhoaaamiaa.M.split_guard rfl rfl ?_ ?_ <;> (intro hg_; simp only [hg_]; try simp only [decide_eq_true_eq, decide_eq_false_iff_not, Bool.and_eq_true, Bool.or_eq_true, Bool.and_eq_false_iff, Bool.or_eq_false_iff, Bool.not_eq_true', Bool.not_eq_false', beq_iff_eq, bne_iff_ne, beq_eq_false_iff_ne, bne_eq_false_iff_eq, Int.not_lt, Int.not_le, ne_eq] at hg_)))
        all_goals
          go_roundw
          case rel => exact ⟨k + 1, q2, m2, by omega, by first | rfl | (refine congrArg (fun z => Value.int .i64 z) ?_; omega), HN.out.1, HN.out.2, HM⟩
          case measure => simp [intOf]; omega
    · obtain rfl : k = R := by omega
      go_wp2_with (first
        | (go_big_skip)
        | (refine Go.Proofs.Ytiokllhoaaamiaa.Mc.at_cmp _ rfl ?_; refine Go.Proofs.Ytiokllhoaaamiaa.Mc.cmp_m rfl _ rfl _ _ _ rfl _ _ _ rfl rfl _ rfl ?_ ?_ <;> (intro hg_; try simp only [decide_eq_true_eq, decide_eq_false_iff_not, Bool.and_eq_true, Bool.or_eq_true, Bool.and_eq_false_iff, Bool.or_eq_false_iff, Bool.not_eq_true', Bool.not_eq_false', beq_iff_eq, bne_iff_ne, beq_eq_false_iff_ne, bne_eq_false_iff_eq, Int.not_lt, Int.not_le, ne_eq] at hg_; first | (exfalso; first | omega | (simp at hg_; done)) | go_simp))
        | ((fail_if_success (refine Go.Proofs.Ytiokllhoaaamiaa.M.lit_t rfl ?_)); (fail_if_success (refine Go.Proofs.Ytiokllhoaaamiaa.M.lit_f rfl ?_)); refine Go.Proofs.Ytiokllhoaaamiaa.M.split_guard rfl rfl ?_ ?_ <;> (intro hg_; simp only [hg_]; try simp only [decide_eq_true_eq, decide_eq_false_iff_not, Bool.and_eq_true, Bool.or_eq_true, Bool.and_eq_false_iff, Bool.or_eq_false_iff, Bool.not_eq_true', Bool.not_eq_false', beq_iff_eq, bne_iff_ne, beq_eq_false_iff_ne, bne_eq_false_iff_eq, Int.not_lt, Int.not_le, ne_eq] at hg_)))
      all_goals
        go_ret
        exact ⟨by first | rfl | simp, HM.none.to_below⟩
theorem law_any (n r : Int) (w : World) : Calls Try.prog 3 #[.int .i64 n, .int .i64 r] w fun e w' => e = .returned (.bool true) ∧ Below w.heap.size w w' := by
  by_cases h : n < 2 ∨ 60 < n ∨ r < 0 ∨ 400 < r
  · exact law_out n r h w
  · obtain ⟨n', rfl⟩ := Int.eq_ofNat_of_zero_le (show 0 ≤ n by omega)
    obtain ⟨r', rfl⟩ := Int.eq_ofNat_of_zero_le (show 0 ≤ r by omega)
    exact law_in n' r' (by omega) (by omega) (by omega) w
end Go.Proofs.Ytiokllhoaaamiaa.Nd
