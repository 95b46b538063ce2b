/- paylaw7: alive. -/
import Derived.Test.YtgmcdlfmifijlaaDDay7
import Derived.Test.YtgmcdlfmifijlaaDDay5
import Derived.Test.YtgmcdlfmifijlaaDDay2
set_option linter.unusedVariables false
set_option linter.unusedSimpArgs false
namespace Go.Proofs.Ytgmcdlfmifijlaa.Dev
open Go.RowKit


theorem same_self_R (l : List Record) : sameList l l = true := by unfold sameList; simp
theorem beR_b {n : Int} : ∀ k, ∀ c ∈ beR n k, 0 ≤ c ∧ c ≤ 255
  | 0, c, h => by cases h
  | k + 1, c, h => by
    unfold beR at h
    rcases List.mem_cons.1 h with rfl | h
    · omega
    · exact beR_b k c h
theorem recB_b (x : Record) : ∀ c ∈ recB x, 0 ≤ c ∧ c ≤ 255 := fun c h => by
  unfold recB at h
  rcases List.mem_append.1 h with h | h
  · simp only [List.mem_cons, List.not_mem_nil, or_false] at h
    rcases h with rfl | rfl | rfl <;> omega
  · exact beR_b _ c h
theorem bytesR_b {l : List Record} {x : List Int} {f : Fault} (h : bytesR l = (x, f)) : ∀ c ∈ x, 0 ≤ c ∧ c ≤ 255 := fun c hc => by
  unfold bytesR at h
  split at h
  · injection h with h1 _
    subst h1
    rcases List.mem_append.1 hc with hc | hc
    · unfold headB at hc
      rcases List.mem_cons.1 hc with rfl | hc
      · omega
      · obtain ⟨y, _, hy⟩ := List.mem_flatMap.1 hc
        exact recB_b y c hy
    · exact beR_b _ c hc
  · injection h with h1 _
    subst h1
    cases hc
theorem bytesR_l {l : List Record} {x : List Int} {f : Fault} (h : bytesR l = (x, f)) (hl : l.length * 32 ≤ 140737488355328) : x.length ≤ 9223372036854775807 := by
  unfold bytesR at h
  split at h
  · injection h with h1 _
    subst h1
    rw [List.length_append, headB_len, beR_len, sortR_len]; omega
  · injection h with h1 _
    subst h1
    simp
theorem parse_ok {b : List Int} {r : List Record} {e : Int} (h : parseR b = (r, e)) (he : e = 0) : r.length ≤ 100 ∧ ∀ x ∈ r, okR x := by
  obtain ⟨_, _, _, _, hw, _⟩ := parseR_zero (b := b) (by rw [h]; exact he)
  rw [h] at hw
  exact wrongR_ok.1 hw

set_option maxRecDepth 100000 in
set_option maxHeartbeats 2000000 in
theorem c_day_alive  : Fn Try.prog 100 [] (aB true) [] := by
  refine Fn.mk' 46 [] Try.func100 rfl rfl rfl rfl ?_
  intro W0 T0
  refine AC.seq ?_
  refine AC.region ?_
  refine AL.fast 1 rfl ?_
  refine AL.nil ?_
  refine then_ok ?_
  refine AC.seq ?_
  refine AC.region ?_
  refine AL.val (Wanted.plain rfl) (g_build (ys := [(0, (.c (cI 2))), (1, (.c (cI 1))), (2, (.c (cI 2))), (3, (.c (cI 50)))]) rfl bld127 rfl ⟨⟨rfl, rfl⟩, ⟨rfl, rfl⟩, ⟨rfl, rfl⟩, ⟨rfl, rfl⟩,  trivial⟩ rfl rfl) rfl rfl ?_
  refine AL.val (Wanted.plain rfl) (g_build (ys := [(0, (.c (cI 1))), (1, (.c (cI 3))), (2, (.c (cI 5))), (3, (.c (cI 20)))]) rfl bld127 rfl ⟨⟨rfl, rfl⟩, ⟨rfl, rfl⟩, ⟨rfl, rfl⟩, ⟨rfl, rfl⟩,  trivial⟩ rfl rfl) rfl rfl ?_
  refine AL.new (n' := 1) (Wanted.plain rfl) (g_lit (ys := [(0, (.g [(cI 2), (cI 1), (cI 2), (cI 50)])), (1, (.g [(cI 1), (cI 3), (cI 5), (cI 20)]))]) (rows := ([(⟨2, 1, 2, 50⟩ : Record), (⟨1, 3, 5, 20⟩ : Record)]).map rRecord) 0 sl114 rfl (by decide) ⟨⟨rfl, rfl⟩, ⟨rfl, rfl⟩,  trivial⟩ rfl rfl rfl rfl) rfl rfl rfl ?_
  have hr0 : bytesR ([(⟨2, 1, 2, 50⟩ : Record), (⟨1, 3, 5, 20⟩ : Record)]) = (([2, 1, 3, 5, 0, 0, 20, 2, 1, 2, 0, 0, 50, 0, 0, 0, 70] : List Int), (⟨0, 0⟩ : Fault)) := by decide
  refine AL.call (n' := 2) (h' := [(1, (.arr 5 1 ((([2, 1, 3, 5, 0, 0, 20, 2, 1, 2, 0, 0, 50, 0, 0, 0, 70] : List Int)).map rU8))), (0, (.arr 127 4 (([(⟨2, 1, 2, 50⟩ : Record), (⟨1, 3, 5, 20⟩ : Record)]).map rRecord)))]) (Wanted.plain rfl) (g_callE 1 [0] (c_day_Bytes ([(⟨2, 1, 2, 50⟩ : Record), (⟨1, 3, 5, 20⟩ : Record)]) (by first | omega | (simp; done) | (simp; omega)) ([2, 1, 3, 5, 0, 0, 20, 2, 1, 2, 0, 0, 50, 0, 0, 0, 70] : List Int) (⟨0, 0⟩ : Fault) hr0) en89 rfl rfl ⟨⟨_, rfl, .c (.s rfl (by decide) (by first | omega | (simp; done) | (simp; omega)))⟩,  trivial⟩ ⟨trivial, ⟨rfl, rfl,  trivial⟩,  trivial⟩ ⟨(isv_rU8 _),  trivial⟩ rfl rfl rfl rfl) rfl rfl rfl rfl rfl ?_
  refine AL.fast 1 rfl ?_
  refine AL.val (Wanted.plain rfl) (g_extract rfl rfl rfl) rfl rfl ?_
  refine AL.val (Wanted.plain rfl) (g_extract rfl rfl rfl) rfl rfl ?_
  refine AL.new (n' := 3) (Wanted.plain rfl) (g_alloc 2 rfl zv47 rfl rfl rfl) rfl rfl rfl ?_
  refine AL.fast 1 rfl ?_
  refine AL.sto (h' := [(2, (.box 47 [(cI 0), (cI 0)])), (1, (.arr 5 1 ((([2, 1, 3, 5, 0, 0, 20, 2, 1, 2, 0, 0, 50, 0, 0, 0, 70] : List Int)).map rU8))), (0, (.arr 127 4 (([(⟨2, 1, 2, 50⟩ : Record), (⟨1, 3, 5, 20⟩ : Record)]).map rRecord)))]) (Wanted.plain rfl) (g_storeB rfl rfl rfl rfl rfl sz47 rfl (Nat.le_of_ble_eq_true rfl) rfl) rfl rfl rfl rfl ?_
  refine AL.nil ?_
  refine then_ok ?_
  refine AC.seq ?_
  refine AC.region ?_
  refine AL.fast 1 rfl ?_
  have hr1 : parseR ([2, 1, 3, 5, 0, 0, 20, 2, 1, 2, 0, 0, 50, 0, 0, 0, 70] : List Int) = (([⟨1, 3, 5, 20⟩, ⟨2, 1, 2, 50⟩] : List Record), 0) := by decide
  refine AL.call (n' := 4) (h' := [(3, (.arr 127 4 ((([⟨1, 3, 5, 20⟩, ⟨2, 1, 2, 50⟩] : List Record)).map rRecord))), (2, (.box 47 [(cI 0), (cI 0)])), (1, (.arr 5 1 ((([2, 1, 3, 5, 0, 0, 20, 2, 1, 2, 0, 0, 50, 0, 0, 0, 70] : List Int)).map rU8))), (0, (.arr 127 4 (([(⟨2, 1, 2, 50⟩ : Record), (⟨1, 3, 5, 20⟩ : Record)]).map rRecord)))]) (Wanted.plain rfl) (g_callE 3 [1] (c_day_Parse ([2, 1, 3, 5, 0, 0, 20, 2, 1, 2, 0, 0, 50, 0, 0, 0, 70] : List Int) (by first | assumption | decide) (by first | omega | (simp; done)) ([⟨1, 3, 5, 20⟩, ⟨2, 1, 2, 50⟩] : List Record) 0 hr1) en98 rfl rfl ⟨⟨_, rfl, .c (.s rfl (by decide) (by first | omega | (simp; done) | (simp; omega)))⟩,  trivial⟩ ⟨trivial, rfl,  trivial⟩ ⟨(isv_rRecord _),  trivial⟩ rfl rfl rfl rfl) rfl rfl rfl rfl rfl ?_
  refine AL.fast 1 rfl ?_
  refine AL.val (Wanted.plain rfl) (g_extract rfl rfl rfl) rfl rfl ?_
  refine AL.val (Wanted.plain rfl) (g_extract rfl rfl rfl) rfl rfl ?_
  refine AL.fast 2 rfl ?_
  refine AL.nil ?_
  refine then_ok ?_
  refine AC.seq ?_
  refine AC.region ?_
  refine AL.val (Wanted.plain rfl) (g_fieldP rfl rfl Try.underlying47 rfl sz27 (by decide)) rfl rfl ?_
  refine AL.val (Wanted.plain rfl) (g_loadB rfl rfl rfl Try.underlying27 rfl rfl) rfl rfl ?_
  refine AL.val (Wanted.plain rfl) (g_binI rfl rfl rfl (show _ = some (Value.bool true) from rfl)) rfl rfl ?_
  refine AL.fast 2 rfl ?_
  refine AL.val (Wanted.yes rfl rfl rfl) (g_binI rfl rfl rfl (show _ = some (Value.bool true) from rfl)) rfl rfl ?_
  refine AL.fast 3 rfl ?_
  refine AL.val (Wanted.yes rfl rfl rfl) (g_lenS rfl rfl rfl rfl rfl Try.underlying115) rfl rfl ?_
  refine AL.val (Wanted.yes rfl rfl rfl) (g_binI rfl rfl rfl (show _ = some (Value.bool true) from rfl)) rfl rfl ?_
  refine AL.fast 3 rfl ?_
  refine AL.val (Wanted.yes rfl rfl rfl) (g_lenS rfl rfl rfl rfl rfl Try.underlying114) rfl rfl ?_
  refine AL.val (Wanted.yes rfl rfl rfl) (g_binI rfl rfl rfl (show _ = some (Value.bool true) from rfl)) rfl rfl ?_
  refine AL.fast 3 rfl ?_
  refine AL.val (Wanted.yes rfl rfl rfl) (g_indexP0 (i := 0) rfl rfl rfl Try.underlying114 sz127 (by first | omega | (simp; done) | (simp; omega)) (by first | omega | (simp; done) | (simp; omega))) rfl rfl ?_
  refine AL.val (Wanted.yes rfl rfl rfl) (g_fieldP rfl rfl Try.underlying127 rfl sz3 (by decide)) rfl rfl ?_
  refine AL.val (Wanted.yes rfl rfl rfl) (g_loadA rfl rfl rfl Try.underlying3 rfl (getmap (show (([⟨1, 3, 5, 20⟩, ⟨2, 1, 2, 50⟩] : List Record) : List Record)[0]? = some (⟨1, 3, 5, 20⟩ : Record) from rfl)) rfl) rfl rfl ?_
  refine AL.val (Wanted.yes rfl rfl rfl) (g_binI rfl rfl rfl (show _ = some (Value.bool true) from rfl)) rfl rfl ?_
  refine AL.fast 3 rfl ?_
  have hr2 : netR ([⟨1, 3, 5, 20⟩, ⟨2, 1, 2, 50⟩] : List Record) 1 = (-20) := by decide
  refine AL.call (n' := 4) (h' := [(3, (.arr 127 4 ((([⟨1, 3, 5, 20⟩, ⟨2, 1, 2, 50⟩] : List Record)).map rRecord))), (2, (.box 47 [(cI 0), (cI 0)])), (1, (.arr 5 1 ((([2, 1, 3, 5, 0, 0, 20, 2, 1, 2, 0, 0, 50, 0, 0, 0, 70] : List Int)).map rU8))), (0, (.arr 127 4 (([(⟨2, 1, 2, 50⟩ : Record), (⟨1, 3, 5, 20⟩ : Record)]).map rRecord)))]) (Wanted.yes rfl rfl rfl) (g_callE 4 [3] (c_day_Net ([⟨1, 3, 5, 20⟩, ⟨2, 1, 2, 50⟩] : List Record) 1 (by first | assumption | decide) (by first | omega | (simp; done)) (-20) hr2) en96 rfl rfl ⟨⟨_, rfl, .c (.s rfl (by decide) (by first | omega | (simp; done) | (simp; omega)))⟩, ⟨_, rfl, .c (.d _)⟩,  trivial⟩ rfl trivial rfl rfl rfl rfl) rfl rfl rfl rfl rfl ?_
  refine AL.val (Wanted.yes rfl rfl rfl) (g_binI rfl rfl rfl (show _ = some (Value.bool true) from rfl)) rfl rfl ?_
  refine AL.fast 2 rfl ?_
  refine AL.nil ?_
  refine then_ok ?_
  refine AC.ret ?_
  refine retQ_mk (av' := outOf [(.c (cB true))]) (nb' := []) (retQ_ret ⟨[(0, (aB true))], [], 0⟩ [.tmp 0] [(.c (cB true))] (Weak.ren id (⟨by first | rfl | (simp only [AV.map, GV.map, CV.map, AB.map', id]; done) | (congr 3; omega) | (congr 4; omega) | (simp only [List.length_append, List.length_cons, List.length_nil, List.length_set]; rfl), trivial⟩) (trivial) rfl) rfl ⟨.tmp rfl, trivial⟩ trivial) ?_ ?_
  · first | rfl | (simp [outOf, aC]; done) | (simp [outOf, aC]; omega)
  · rfl
end Go.Proofs.Ytgmcdlfmifijlaa.Dev
