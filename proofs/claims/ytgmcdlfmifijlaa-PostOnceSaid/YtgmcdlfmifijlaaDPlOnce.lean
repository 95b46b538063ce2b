/- Plain facts on two sides that send, lose, double and tell back; no condition. -/
import Derived.Test.YtgmcdlfmifijlaaDPlPost
import Derived.Test.YtgmcdlfmifijlaaDOpn
set_option linter.unusedVariables false
set_option linter.unusedSimpArgs false
namespace Go.Proofs.Ytgmcdlfmifijlaa.Dev
structure Once (put way got : List Transfer) (s : Sender) (seen : Int) : Prop where
  num : ∀ (i : Nat) (t : Transfer), put[i]? = some t → t.number = (i : Int) + 1
  sent : s.sent = put.length
  kept : ∃ j : Nat, (j : Int) ≤ seen ∧ s.kept = put.drop j
  way : ∀ t ∈ way, ∃ i : Nat, put[i]? = some t
  s0 : 0 ≤ seen
  s1 : seen ≤ put.length
  got : got = put.take seen.toNat
  ok : (wrongSF s).err = 0
variable {put way got : List Transfer} {s x : Sender} {seen : Int} {t y : Transfer} {e n : Int} {ok : Bool}
theorem once_start : Once [] [] [] ⟨0, []⟩ 0 := ⟨fun i t h => by simp at h, rfl, ⟨0, by omega, rfl⟩, fun t h => by simp at h, by omega, by simp, rfl, by decide⟩
theorem Once.inI (h : Once put way got s seen) : ∀ t ∈ s.kept, InI t.number := fun t ht => by
  obtain ⟨j, _, hk⟩ := h.kept
  rw [hk] at ht
  obtain ⟨i, hi⟩ := List.mem_iff_getElem?.1 (List.mem_of_mem_drop ht)
  have h1 := h.num i t hi
  have h2 := (List.getElem?_eq_some_iff.1 hi).1
  have h3 := (rightS h.ok).2.2.1
  have h4 := h.sent
  unfold InI
  omega
theorem Once.klen (h : Once put way got s seen) : s.kept.length ≤ 40 := (rightS h.ok).1
theorem Once.glen (h : Once put way got s seen) : (got.length : Int) = seen ∧ got.length ≤ put.length := by
  have := h.s0; have := h.s1
  rw [h.got, List.length_take]; omega
theorem put_of (h : putS s t = (x, e)) (he : e = 0) : (wrongSF x).err = 0 ∧ x = outS s t := by
  subst he
  unfold putS at h
  split at h
  · rename_i h0; injection h with _ h1; exact absurd h1 h0
  split at h
  · rename_i h0; injection h with _ h1; exact absurd h1 h0
  · rename_i h0; injection h with h1 _; subst h1; exact ⟨by omega, rfl⟩
theorem put_len (h : putS s t = (x, e)) (he : e = 0) : x.kept.length = s.kept.length + 1 := by
  rw [(put_of h he).2]; simp [outS]
theorem Once.puts (h : Once put way got s seen) (hp : putS s t = (x, e)) (he : e = 0) (hy : x.kept[x.kept.length - 1]? = some y) : Once (put ++ [y]) way got x seen := by
  obtain ⟨h1, rfl⟩ := put_of hp he
  have hy' : y = ⟨s.sent + 1, t.kind, t.auth, t.sum⟩ := by
    simp [outS] at hy; exact hy.symm
  obtain ⟨j, hj, hk⟩ := h.kept
  have hs1 := h.s1; have hs0 := h.s0
  refine ⟨fun i u hu => ?_, ?_, ⟨j, hj, ?_⟩, fun u hu => ?_, hs0, by rw [List.length_append]; omega, ?_, h1⟩
  · by_cases hi : i < put.length
    · rw [List.getElem?_append_left hi] at hu; exact h.num i u hu
    · have hi2 := (List.getElem?_eq_some_iff.1 hu).1
      rw [List.length_append, List.length_singleton] at hi2
      obtain rfl : i = put.length := by omega
      rw [List.getElem?_append_right (Nat.le_refl _), Nat.sub_self] at hu
      simp at hu
      rw [← hu, hy', ← h.sent]
  · show s.sent + 1 = _
    rw [h.sent, List.length_append]; rfl
  · show s.kept ++ _ = _
    rw [hk, List.drop_append_of_le_length (by omega), hy']
  · obtain ⟨i, hi⟩ := h.way u hu
    exact ⟨i, by rw [List.getElem?_append_left (List.getElem?_eq_some_iff.1 hi).1]; exact hi⟩
  · rw [h.got, List.take_append_of_le_length (by omega)]
theorem Once.send (h : Once put way got s seen) : Once put (way ++ s.kept) got s seen := by
  refine ⟨h.num, h.sent, h.kept, fun u hu => ?_, h.s0, h.s1, h.got, h.ok⟩
  rcases List.mem_append.1 hu with hu | hu
  · exact h.way u hu
  · obtain ⟨j, _, hk⟩ := h.kept
    rw [hk] at hu
    exact List.mem_iff_getElem?.1 (List.mem_of_mem_drop hu)
theorem Once.sub {way' : List Transfer} (h : Once put way got s seen) (hs : ∀ t ∈ way', t ∈ way) : Once put way' got s seen :=
  ⟨h.num, h.sent, h.kept, fun u hu => h.way u (hs u hu), h.s0, h.s1, h.got, h.ok⟩
theorem Once.take {i : Nat} (h : Once put way got s seen) (hi : way[i]? = some y) (ht : takeS seen y = (n, ok)) : Once put way (if ok = true then got ++ [y] else got) s n := by
  unfold takeS at ht
  have hs0 := h.s0; have hs1 := h.s1
  split at ht
  · injection ht with h1 h2
    subst h1 h2
    exact h
  · injection ht with h1 h2
    subst h1 h2
    obtain ⟨j, hj⟩ := h.way y (List.mem_of_getElem? hi)
    have h3 := h.num j y hj
    have h4 := (List.getElem?_eq_some_iff.1 hj).1
    obtain ⟨d, hd, hk⟩ := h.kept
    refine ⟨h.num, h.sent, ⟨d, by omega, hk⟩, h.way, by omega, by omega, ?_, h.ok⟩
    rw [if_pos rfl, h.got]
    have e1 : (seen + 1).toNat = j + 1 := by omega
    have e2 : seen.toNat = j := by omega
    rw [e1, e2, List.take_add_one, hj]; rfl
theorem Once.back (h : Once put way got s seen) (hb : backS s seen = (x, e)) : e = 0 ∧ Once put way got x seen := by
  have hs0 := h.s0; have hs1 := h.s1
  have hse := h.sent
  rcases back_of hb with ⟨h1, _⟩ | ⟨h0, h1, h2, h3, rfl⟩
  · exfalso
    unfold backS at hb
    rw [if_neg (by rw [h.ok]; omega), if_neg (by omega)] at hb
    injection hb with _ hb; exact h1 hb.symm
  · refine ⟨h0, h.num, h.sent, ⟨seen.toNat, by omega, ?_⟩, h.way, hs0, hs1, h.got, back_right h1 h2 h3⟩
    obtain ⟨j, hj, hk⟩ := h.kept
    show keepL _ _ = _
    rw [keep_came h1, hk, List.drop_drop]
    congr 1
    rw [List.length_drop]
    omega
end Go.Proofs.Ytgmcdlfmifijlaa.Dev
